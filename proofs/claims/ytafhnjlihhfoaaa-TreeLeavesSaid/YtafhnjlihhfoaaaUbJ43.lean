/- The codec's bytes of cells, and the document's: the same. -/
import Derived.Test.YtafhnjlihhfoaaaUbQx25
import Derived.Test.YtafhnjlihhfoaaaUbQx37
import Derived.Test.YtafhnjlihhfoaaaUbJ0
import Derived.Test.YtafhnjlihhfoaaaUbJ20
import Derived.Test.YtafhnjlihhfoaaaUbJ15
import Derived.Test.YtafhnjlihhfoaaaUbPMur
namespace Go.Proofs.Ytafhnjlihhfoaaa.Pl
open Go Go.RowKit Go.Proofs.YtafhnjlihhfoaaaW.PrintWords Go.Proofs.Ytafhnjlihhfoaaa.Q
set_option linter.unusedVariables false
set_option linter.unusedSimpArgs false
theorem put_l0 : ∀ (n k : Nat) (out : List Int) (u : Int), 0 ≤ u → u < 128 ^ (n + 1) → n + 1 < k → out.length + n + 1 < 140737488355328 → codec_put.l0 k out u = some (out ++ putL (n + 1) u)
 | n, 0, out, u, _, _, hk, _ => by omega
 | 0, k + 1, out, u, h0, h1, hk, hl => by
  have h1' : u < 128 := by simpa using h1
  rw [codec_put.l0, if_neg (by omega), if_pos (by omega), putL, if_neg (by omega), Int.emod_eq_of_lt h0 (by omega)]
 | n + 1, k + 1, out, u, h0, h1, hk, hl => by
  rw [codec_put.l0]
  by_cases h : u > 127
  ·
   rw [if_pos h, if_pos (by omega), or_128' u h0, put_l0 n k _ _ (by omega) (by rw [Int.pow_succ] at h1; omega) (by omega) (by simp; omega)]
   conv => rhs; rw [putL, if_pos h]
   simp
  ·
   rw [if_neg h, if_pos (by omega), putL, if_neg h, Int.emod_eq_of_lt h0 (by omega)]
theorem put_f (k : Nat) (out : List Int) (u : Int) (h0 : 0 ≤ u) (h1 : u < 18446744073709551616) (hk : 12 ≤ k) (hl : out.length + 10 < 140737488355328) : codec_put.f k out u = some (out ++ putL 10 u) :=
 put_l0 9 k out u h0 (by omega) (by omega) (by omega)
def textL (s : ByteArray) : List Int := putL 10 (s.size : Int) ++ bytesOf s
theorem text_f (k : Nat) (out : List Int) (s : ByteArray) (hk : 12 ≤ k) (hl : out.length + 10 + s.size < 140737488355328) : codec_text.f k out s = some (out ++ textL s) := by
 unfold codec_text.f textL
 have e : IntKind.u64.wrap (s.size : Int) = s.size := wraps_u64 _ (by omega) (by omega)
 have := putL_len 10 (s.size : Int)
 rw [e, put_f k out _ (by omega) (by omega) hk (by omega)]
 simp only [Option.bind_some]
 rw [if_pos (by simp; omega)]
 simp
theorem zig_f {n : Int} (h0 : -9223372036854775808 ≤ n) (h1 : n ≤ 9223372036854775807) : codec_Zig.f n = some (zig n) := by unfold codec_Zig.f; rw [zig_bits h0 h1]
theorem rput_l0 : ∀ (n k : Nat) (out : List Int) (u : Int), 0 ≤ u → u < 18446744073709551616 → u < 128 ^ (n + 1) → n + 1 < k → out.length + n + 1 < 140737488355328 → skerryref01_Put.l0 k u out = some (out ++ putL (n + 1) u)
 | n, 0, out, u, _, _, _, hk, _ => by omega
 | 0, k + 1, out, u, h0, hu, h1, hk, hl => by
  have h1' : u < 128 := by simpa using h1
  rw [skerryref01_Put.l0, if_neg (by omega), if_pos (by omega), putL, if_neg (by omega), Int.emod_eq_of_lt h0 (by omega)]
 | n + 1, k + 1, out, u, h0, hu, h1, hk, hl => by
  rw [skerryref01_Put.l0]
  by_cases h : u > 127
  ·
   have e1 : Int.tdiv u 128 = u / 128 := Int.tdiv_eq_ediv_of_nonneg h0
   have e2 : Int.tmod u 128 = u % 128 := Int.tmod_eq_emod_of_nonneg h0
   rw [if_pos (by omega), if_pos (by omega), e1, e2, wraps_u64 _ (by omega) (by omega), rput_l0 n k _ _ (by omega) (by omega) (by rw [Int.pow_succ] at h1; omega) (by omega) (by simp; omega)]
   conv => rhs; rw [putL, if_pos h]
   rw [Int.emod_eq_of_lt (by omega) (by omega)]
   simp
  ·
   rw [if_neg (by omega), if_pos (by omega), putL, if_neg h, Int.emod_eq_of_lt h0 (by omega)]
theorem rput_f (k : Nat) (out : List Int) (u : Int) (h0 : 0 ≤ u) (h1 : u < 18446744073709551616) (hk : 12 ≤ k) (hl : out.length + 10 < 140737488355328) : skerryref01_Put.f k out u = some (out ++ putL 10 u) := by
 unfold skerryref01_Put.f
 simp only [Option.bind_some, List.nil_append, List.length_nil]
 rw [if_pos (by omega)]
 exact rput_l0 9 k out u h0 h1 (by omega) (by omega) (by omega)
theorem rtext_f (k : Nat) (out : List Int) (s : ByteArray) (hk : 12 ≤ k) (hl : out.length + 10 + s.size < 140737488355328) : skerryref01_PutText.f k out s = some (out ++ textL s) := by
 unfold skerryref01_PutText.f textL
 have e : IntKind.u64.wrap (s.size : Int) = s.size := wraps_u64 _ (by omega) (by omega)
 have := putL_len 10 (s.size : Int)
 rw [e, rput_f k out _ (by omega) (by omega) hk (by omega)]
 simp only [Option.bind_some]
 rw [if_pos (by simp; omega)]
 simp
theorem rzig_f {n : Int} (h0 : -9223372036854775808 ≤ n) (h1 : n ≤ 9223372036854775807) : skerryref01_Zig.f n = some (zig n) := by unfold skerryref01_Zig.f; exact zig_plain h0 h1
def okI (n : Int) : Prop := -9223372036854775808 ≤ n ∧ n ≤ 9223372036854775807
structure okC (c : S38) : Prop where
 row : okI c.f0.f2
 time : okI c.f1.f0
 loc : okI c.f1.f2
 num : okI c.f1.f3.f1
def wOf (c : S38) : Nat := 100 + c.f0.f0.size + c.f0.f1.size + c.f0.f3.size + (if c.f1.f1 = true then 0 else c.f1.f3.f2.size)
def encB (c : S38) : List Int := textL c.f0.f0 ++ (textL c.f0.f1 ++ (putL 10 (zig c.f0.f2) ++ (textL c.f0.f3 ++ (putL 10 (zig c.f1.f0) ++
 (if c.f1.f1 = true then [1] ++ putL 10 (zig c.f1.f2) else [0] ++ (putL 10 (IntKind.u64.wrap c.f1.f3.f0) ++ (putL 10 (zig c.f1.f3.f1) ++ textL c.f1.f3.f2)))))))
theorem textL_len (s : ByteArray) : (textL s).length ≤ 10 + s.size := by
 have := putL_len 10 (s.size : Int)
 unfold textL
 rw [List.length_append, bytesOf_length]; omega
theorem encB_len (c : S38) : (encB c).length ≤ wOf c := by
 have h1 := textL_len c.f0.f0; have h2 := textL_len c.f0.f1; have h3 := textL_len c.f0.f3; have h4 := textL_len c.f1.f3.f2
 have h5 := putL_len 10 (zig c.f0.f2); have h6 := putL_len 10 (zig c.f1.f0); have h7 := putL_len 10 (zig c.f1.f2); have h8 := putL_len 10 (IntKind.u64.wrap c.f1.f3.f0); have h9 := putL_len 10 (zig c.f1.f3.f1)
 unfold encB wOf
 by_cases hdd : c.f1.f1 = true
 ·
  rw [if_pos hdd, if_pos hdd]; simp only [List.length_append, List.length_singleton]; omega
 ·
  rw [if_neg hdd, if_neg hdd]; simp only [List.length_append, List.length_singleton]; omega
def total (l : List (S38)) : Nat := (l.map wOf).sum
def cellsB (l : List (S38)) : List Int := putL 10 (l.length : Int) ++ l.flatMap encB
theorem u64_range (n : Int) : 0 ≤ IntKind.u64.wrap n ∧ IntKind.u64.wrap n < 18446744073709551616 := by rw [wrap_u64]; omega
def big : Nat := 140737488355328
def U64 (u : Int) : Prop := 0 ≤ u ∧ u < 18446744073709551616
theorem text_ex (k : Nat) (out : List Int) (s : ByteArray) (hk : 12 ≤ k) (hl : out.length + 10 + s.size < big) : ∃ o, codec_text.f k out s = some o ∧ o = out ++ textL s ∧ o.length ≤ out.length + 10 + s.size :=
 ⟨_, text_f k out s hk hl, rfl, by rw [List.length_append]; have := textL_len s; omega⟩
theorem put_ex (k : Nat) (out : List Int) (u : Int) (hu : U64 u) (hk : 12 ≤ k) (hl : out.length + 10 < big) : ∃ o, codec_put.f k out u = some o ∧ o = out ++ putL 10 u ∧ o.length ≤ out.length + 10 :=
 ⟨_, put_f k out u hu.1 hu.2 hk hl, rfl, by rw [List.length_append]; have := putL_len 10 u; omega⟩
theorem rtext_ex (k : Nat) (out : List Int) (s : ByteArray) (hk : 12 ≤ k) (hl : out.length + 10 + s.size < big) : ∃ o, skerryref01_PutText.f k out s = some o ∧ o = out ++ textL s ∧ o.length ≤ out.length + 10 + s.size :=
 ⟨_, rtext_f k out s hk hl, rfl, by rw [List.length_append]; have := textL_len s; omega⟩
theorem rput_ex (k : Nat) (out : List Int) (u : Int) (hu : U64 u) (hk : 12 ≤ k) (hl : out.length + 10 < big) : ∃ o, skerryref01_Put.f k out u = some o ∧ o = out ++ putL 10 u ∧ o.length ≤ out.length + 10 :=
 ⟨_, rput_f k out u hu.1 hu.2 hk hl, rfl, by rw [List.length_append]; have := putL_len 10 u; omega⟩
theorem zigU {n : Int} (h : okI n) : U64 (zig n) := zig_range h.1 h.2
theorem wrapU (n : Int) : U64 (IntKind.u64.wrap n) := u64_range n
theorem encB_dead (out : List Int) (c : S38) (h : c.f1.f1 = true) : out ++ textL c.f0.f0 ++ textL c.f0.f1 ++ putL 10 (zig c.f0.f2) ++ textL c.f0.f3 ++ putL 10 (zig c.f1.f0) ++ [1] ++ putL 10 (zig c.f1.f2) = out ++ encB c := by
 simp only [encB, if_pos h, List.append_assoc]
theorem encB_live (out : List Int) (c : S38) (h : ¬ c.f1.f1 = true) : out ++ textL c.f0.f0 ++ textL c.f0.f1 ++ putL 10 (zig c.f0.f2) ++ textL c.f0.f3 ++ putL 10 (zig c.f1.f0) ++ [0] ++ putL 10 (IntKind.u64.wrap c.f1.f3.f0) ++ putL 10 (zig c.f1.f3.f1) ++ textL c.f1.f3.f2 = out ++ encB c := by
 simp only [encB, if_neg h, List.append_assoc]
set_option maxHeartbeats 1000000 in
theorem codec_step (c : S38) (k : Nat) (out : List Int) (hO : okC c) (hk : 12 ≤ k) (ht : out.length + wOf c < big) : codec_Cells.one k out c = some (out ++ encB c) := by
 unfold wOf at ht
 obtain ⟨q, hq⟩ : ∃ q, q = (if c.f1.f1 = true then 0 else c.f1.f3.f2.size) := ⟨_, rfl⟩
 rw [← hq] at ht
 obtain ⟨o1, e1, q1, n1⟩ := text_ex k out c.f0.f0 hk (by omega)
 obtain ⟨o2, e2, q2, n2⟩ := text_ex k o1 c.f0.f1 hk (by omega)
 have e3 := zig_f hO.row.1 hO.row.2
 obtain ⟨o4, e4, q4, n4⟩ := put_ex k o2 (zig c.f0.f2) (zigU hO.row) hk (by omega)
 obtain ⟨o5, e5, q5, n5⟩ := text_ex k o4 c.f0.f3 hk (by omega)
 have e6 := zig_f hO.time.1 hO.time.2
 obtain ⟨o7, e7, q7, n7⟩ := put_ex k o5 (zig c.f1.f0) (zigU hO.time) hk (by omega)
 unfold codec_Cells.one
 rw [e1, Option.bind_some, e2, Option.bind_some, e3, Option.bind_some, e4, Option.bind_some, e5, Option.bind_some, e6, Option.bind_some, e7, Option.bind_some]
 by_cases hdd : c.f1.f1 = true
 ·
  have e8 := zig_f hO.loc.1 hO.loc.2
  obtain ⟨o9, e9, q9, n9⟩ := put_ex k (o7 ++ [1]) (zig c.f1.f2) (zigU hO.loc) hk (by rw [List.length_append, List.length_singleton]; omega)
  rw [if_pos (show o7.length < 140737488355328 by unfold big at ht; omega), if_pos hdd, e8, Option.bind_some, e9]
  congr 1
  rw [q9, q7, q5, q4, q2, q1]
  exact encB_dead out c hdd
 ·
  rw [if_neg hdd] at hq
  obtain ⟨o8, e8, q8, n8⟩ := put_ex k (o7 ++ [0]) (IntKind.u64.wrap c.f1.f3.f0) (wrapU _) hk (by rw [List.length_append, List.length_singleton]; omega)
  rw [List.length_append, List.length_singleton] at n8
  have e9 := zig_f hO.num.1 hO.num.2
  obtain ⟨o10, e10, q10, n10⟩ := put_ex k o8 (zig c.f1.f3.f1) (zigU hO.num) hk (by omega)
  obtain ⟨o11, e11, q11, n11⟩ := text_ex k o10 c.f1.f3.f2 hk (by omega)
  rw [if_pos (show o7.length < 140737488355328 by unfold big at ht; omega), if_neg hdd, e8, Option.bind_some, e9, Option.bind_some, e10, Option.bind_some, e11]
  congr 1
  rw [q11, q10, q8, q7, q5, q4, q2, q1]
  exact encB_live out c hdd
set_option maxHeartbeats 1000000 in
theorem ref_step (c : S38) (k : Nat) (out : List Int) (hO : okC c) (hk : 12 ≤ k) (ht : out.length + wOf c < big) : skerryref01_Cells.one k out c = some (out ++ encB c) := by
 unfold wOf at ht
 obtain ⟨q, hq⟩ : ∃ q, q = (if c.f1.f1 = true then 0 else c.f1.f3.f2.size) := ⟨_, rfl⟩
 rw [← hq] at ht
 obtain ⟨o1, e1, q1, n1⟩ := rtext_ex k out c.f0.f0 hk (by omega)
 obtain ⟨o2, e2, q2, n2⟩ := rtext_ex k o1 c.f0.f1 hk (by omega)
 have e3 := rzig_f hO.row.1 hO.row.2
 obtain ⟨o4, e4, q4, n4⟩ := rput_ex k o2 (zig c.f0.f2) (zigU hO.row) hk (by omega)
 obtain ⟨o5, e5, q5, n5⟩ := rtext_ex k o4 c.f0.f3 hk (by omega)
 have e6 := rzig_f hO.time.1 hO.time.2
 obtain ⟨o7, e7, q7, n7⟩ := rput_ex k o5 (zig c.f1.f0) (zigU hO.time) hk (by omega)
 unfold skerryref01_Cells.one
 rw [e1, Option.bind_some, e2, Option.bind_some, e3, Option.bind_some, e4, Option.bind_some, e5, Option.bind_some, e6, Option.bind_some, e7, Option.bind_some]
 by_cases hdd : c.f1.f1 = true
 ·
  have e8 := rzig_f hO.loc.1 hO.loc.2
  obtain ⟨o9, e9, q9, n9⟩ := rput_ex k (o7 ++ [1]) (zig c.f1.f2) (zigU hO.loc) hk (by rw [List.length_append, List.length_singleton]; omega)
  rw [if_pos (show o7.length < 140737488355328 by unfold big at ht; omega), if_pos hdd, e8, Option.bind_some, e9]
  congr 1
  rw [q9, q7, q5, q4, q2, q1]
  exact encB_dead out c hdd
 ·
  rw [if_neg hdd] at hq
  obtain ⟨o8, e8, q8, n8⟩ := rput_ex k (o7 ++ [0]) (IntKind.u64.wrap c.f1.f3.f0) (wrapU _) hk (by rw [List.length_append, List.length_singleton]; omega)
  rw [List.length_append, List.length_singleton] at n8
  have e9 := rzig_f hO.num.1 hO.num.2
  obtain ⟨o10, e10, q10, n10⟩ := rput_ex k o8 (zig c.f1.f3.f1) (zigU hO.num) hk (by omega)
  obtain ⟨o11, e11, q11, n11⟩ := rtext_ex k o10 c.f1.f3.f2 hk (by omega)
  rw [if_pos (show o7.length < 140737488355328 by unfold big at ht; omega), if_neg hdd, e8, Option.bind_some, e9, Option.bind_some, e10, Option.bind_some, e11]
  congr 1
  rw [q11, q10, q8, q7, q5, q4, q2, q1]
  exact encB_live out c hdd
theorem cells_l0 : ∀ (l : List (S38)) (k : Nat) (out : List Int), (∀ c ∈ l, okC c) → 12 ≤ k → out.length + total l + 100 < 140737488355328 →
  codec_Cells.l0 k out l = some (out ++ l.flatMap encB) ∧ skerryref01_Cells.l0 k out l = some (out ++ l.flatMap encB)
 | [], k, out, _, _, _ => by simp [codec_Cells.l0, skerryref01_Cells.l0]
 | c :: l, k, out, hok, hk, ht => by
  have hO := hok c List.mem_cons_self
  have htt : total (c :: l) = wOf c + total l := by simp [total]
  rw [htt] at ht
  have hlen := encB_len c
  have ih := cells_l0 l k (out ++ encB c) (fun x hx => hok x (List.mem_cons_of_mem _ hx)) hk (by rw [List.length_append]; omega)
  rw [List.flatMap_cons, ← List.append_assoc, codec_Cells.l0, skerryref01_Cells.l0, codec_step c k out hO hk (by unfold big; omega), ref_step c k out hO hk (by unfold big; omega), Option.bind_some, Option.bind_some]
  exact ih
theorem cells_f (l : List (S38)) (hok : ∀ c ∈ l, okC c) (hl : l.length ≤ 4611686018427387904) (k : Nat) (hk : l.length + 14 ≤ k) (ht : total l + 200 < 140737488355328) :
  codec_Cells.f k l = some (cellsB l) ∧ skerryref01_Cells.f k l = some (cellsB l) := by
 have e : IntKind.u64.wrap (l.length : Int) = l.length := wraps_u64 _ (by omega) (by omega)
 have hp := putL_len 10 (l.length : Int)
 have := cells_l0 l k (putL 10 (l.length : Int)) hok (by omega) (by omega)
 unfold codec_Cells.f skerryref01_Cells.f cellsB
 rw [e, put_f k _ _ (by omega) (by omega) (by omega) (by simp), rput_f k _ _ (by omega) (by omega) (by omega) (by simp)]
 simp only [Option.bind_some, List.nil_append]
 exact this
end Go.Proofs.Ytafhnjlihhfoaaa.Pl
namespace Go.Proofs.Ytafhnjlihhfoaaa.Pl
open Go Go.RowKit Go.Proofs.YtafhnjlihhfoaaaW.PrintWords Go.Proofs.Ytafhnjlihhfoaaa.Q Go.Proofs.Ytafhnjlihhfoaaa.Opn
set_option linter.unusedVariables false
set_option linter.unusedSimpArgs false
theorem WC.fine {c : S38} (h : WC c) : FineC c := ⟨h.1.1, h.1.2.1, h.1.2.2.2, h.2.2.2.2.2.2⟩
theorem WC.ok {c : S38} (h : WC c) : okC c := ⟨wf_i64 h.1.2.2.1, wf_i64 h.2.1, wf_i64 h.2.2.2.1, wf_i64 h.2.2.2.2.2.1⟩
theorem len_of {n : Nat} (h : n * 112 ≤ 140737488351232) : n ≤ 1256584717421 := by omega
end Go.Proofs.Ytafhnjlihhfoaaa.Pl
namespace Go.Proofs.Ytafhnjlihhfoaaa.Pl
open Go Go.RowKit Go.Proofs.YtafhnjlihhfoaaaW.PrintWords Go.Proofs.Ytafhnjlihhfoaaa.Q Go.Proofs.Ytafhnjlihhfoaaa.Mur
set_option linter.unusedVariables false
set_option linter.unusedSimpArgs false
theorem putL_byt : ∀ (k : Nat) (u : Int), 0 ≤ u → Byt (putL k u)
 | 0, _, _ => fun x hx => by cases hx
 | k + 1, u, h => by
  unfold putL
  split
  ·
   intro x hx
   rcases List.mem_cons.1 hx with rfl | hx
   ·
    omega
   ·
    exact putL_byt k (u / 128) (by omega) x hx
  ·
   intro x hx
   rw [List.mem_singleton.1 hx]; omega
theorem bytesOf_byt (s : ByteArray) : Byt (bytesOf s) := fun x hx => by
 unfold bytesOf at hx
 obtain ⟨b, _, rfl⟩ := List.mem_map.1 hx
 have := b.toNat_lt
 omega
theorem textL_byt (s : ByteArray) : Byt (textL s) := (putL_byt _ _ (by omega)).app (bytesOf_byt s)
theorem one_byt {x : Int} (h : 0 ≤ x ∧ x < 256) : Byt [x] := fun y hy => by rw [List.mem_singleton.1 hy]; exact h
theorem encB_byt (c : S38) (h : okC c) : Byt (encB c) := by
 have z : ∀ {n : Int}, okI n → 0 ≤ zig n := fun h => (zigU h).1
 unfold encB
 refine (textL_byt _).app ((textL_byt _).app ((putL_byt _ _ (z h.row)).app ((textL_byt _).app ((putL_byt _ _ (z h.time)).app ?_))))
 split
 ·
  exact (one_byt (by decide)).app (putL_byt _ _ (z h.loc))
 ·
  exact (one_byt (by decide)).app ((putL_byt _ _ (wrapU _).1).app ((putL_byt _ _ (z h.num)).app (textL_byt _)))
theorem cellsB_byt (l : List (S38)) (h : ∀ c ∈ l, okC c) : Byt (cellsB l) := by
 refine (putL_byt _ _ (by omega)).app ?_
 intro x hx
 obtain ⟨c, hc, hx⟩ := List.mem_flatMap.1 hx
 exact encB_byt c (h c hc) x hx
theorem flat_len (l : List (S38)) : (l.flatMap encB).length ≤ total l := by
 induction l with
 | nil => exact Nat.le_refl _
 | cons c l ih =>
  have := encB_len c
  rw [List.flatMap_cons, List.length_append, show total (c :: l) = wOf c + total l by simp [total]]; omega
theorem cellsB_len (l : List (S38)) : (cellsB l).length ≤ total l + 10 := by
 have h1 := flat_len l
 have h2 := putL_len 10 (l.length : Int)
 unfold cellsB; rw [List.length_append]; omega
theorem total_le (m : Nat) : ∀ (l : List (S38)), (∀ c ∈ l, wOf c ≤ m) → total l ≤ l.length * m
 | [], _ => Nat.zero_le _
 | c :: l, h => by
  have h1 := h c List.mem_cons_self
  have h2 := total_le m l fun x hx => h x (List.mem_cons_of_mem _ hx)
  rw [show total (c :: l) = wOf c + total l by simp [total], List.length_cons, Nat.add_mul]; omega
def digN (l : List (S38)) : Int := (sumN (cellsB l) 0).1
theorem digest_f (l : List (S38)) (hok : ∀ c ∈ l, okC c) (hl : l.length ≤ 1000000) (ht : total l ≤ 100000000) (k : Nat) (hk : 100000100 ≤ k) : cell_Digest.f k l = some (digN l) ∧ skerryref05_Digest.f k l = some (digN l) := by
 obtain ⟨e1, e2⟩ := cells_f l hok (by omega) k (by omega) (by omega)
 have hn := cellsB_len l
 unfold cell_Digest.f skerryref05_Digest.f
 rw [e1, e2, Option.bind_some, Option.bind_some, rsum_f (cellsB l) (cellsB_byt l hok) (by omega) k (by omega) 0]
 exact ⟨rfl, rfl⟩
end Go.Proofs.Ytafhnjlihhfoaaa.Pl
