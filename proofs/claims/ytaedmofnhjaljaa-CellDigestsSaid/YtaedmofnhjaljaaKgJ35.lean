/- What is told of a row's cells: their texts are not too long, their numbers are ints. -/
import Derived.Test.YtaedmofnhjaljaaKgOZ
import Derived.Test.YtaedmofnhjaljaaKgPCodec
import Derived.Test.YtaedmofnhjaljaaKgPWeigh
import Derived.Test.YtaedmofnhjaljaaKgJ32
import Derived.Test.YtaedmofnhjaljaaKgPMur
import Derived.Test.YtaedmofnhjaljaaKgPLives
import Derived.Test.YtaedmofnhjaljaaKgDigW
namespace Go.Proofs.Ytaedmofnhjaljaa.Pl
open Go Go.RowKit Go.Proofs.YtaedmofnhjaljaaW.PrintWords Go.Proofs.Ytaedmofnhjaljaa.Q Go.Proofs.Ytaedmofnhjaljaa.Opn
theorem WC.fine {c : S29} (h : WC c) : FineC c := ⟨h.1.1, h.1.2.1, h.1.2.2.2, h.2.2.2.2.2.2⟩
theorem WC.ok {c : S29} (h : WC c) : okC c := ⟨wf_i64 h.1.2.2.1, wf_i64 h.2.1, wf_i64 h.2.2.2.1, wf_i64 h.2.2.2.2.2.1⟩
theorem len_of {n : Nat} (h : n * 112 ≤ 140737488351232) : n ≤ 1256584717421 := by omega
end Go.Proofs.Ytaedmofnhjaljaa.Pl
namespace Go.Proofs.Ytaedmofnhjaljaa.Pl
open Go Go.RowKit Go.Proofs.YtaedmofnhjaljaaW.PrintWords Go.Proofs.Ytaedmofnhjaljaa.Q Go.Proofs.Ytaedmofnhjaljaa.Mur
theorem putL_byt : ∀ (k : Nat) (u : Int), 0 ≤ u → Byt (putL k u)
 | 0, _, _ => fun x hx => by cases hx
 | k + 1, u, h => by
  unfold putL
  split
  ·
   intro x hx
   rcases List.mem_cons.1 hx with rfl | hx
   ·
    omega
   ·
    exact putL_byt k (u / 128) (by omega) x hx
  ·
   intro x hx
   rw [List.mem_singleton.1 hx]; omega
theorem bytesOf_byt (s : ByteArray) : Byt (bytesOf s) := fun x hx => by
 unfold bytesOf at hx
 obtain ⟨b, _, rfl⟩ := List.mem_map.1 hx
 have := b.toNat_lt
 omega
theorem textL_byt (s : ByteArray) : Byt (textL s) := (putL_byt _ _ (by omega)).app (bytesOf_byt s)
theorem one_byt {x : Int} (h : 0 ≤ x ∧ x < 256) : Byt [x] := fun y hy => by rw [List.mem_singleton.1 hy]; exact h
theorem encB_byt (c : S29) (h : okC c) : Byt (encB c) := by
 have z : ∀ {n : Int}, okI n → 0 ≤ zig n := fun h => (zigU h).1
 unfold encB
 refine (textL_byt _).app ((textL_byt _).app ((putL_byt _ _ (z h.row)).app ((textL_byt _).app ((putL_byt _ _ (z h.time)).app ?_))))
 split
 ·
  exact (one_byt (by decide)).app (putL_byt _ _ (z h.loc))
 ·
  exact (one_byt (by decide)).app ((putL_byt _ _ (wrapU _).1).app ((putL_byt _ _ (z h.num)).app (textL_byt _)))
theorem cellsB_byt (l : List (S29)) (h : ∀ c ∈ l, okC c) : Byt (cellsB l) := by
 refine (putL_byt _ _ (by omega)).app ?_
 intro x hx
 obtain ⟨c, hc, hx⟩ := List.mem_flatMap.1 hx
 exact encB_byt c (h c hc) x hx
theorem flat_len (l : List (S29)) : (l.flatMap encB).length ≤ total l := by
 induction l with
 | nil => exact Nat.le_refl _
 | cons c l ih =>
  have := encB_len c
  rw [List.flatMap_cons, List.length_append, show total (c :: l) = wOf c + total l by simp [total]]; omega
theorem cellsB_len (l : List (S29)) : (cellsB l).length ≤ total l + 10 := by
 have h1 := flat_len l
 have h2 := putL_len 10 (l.length : Int)
 unfold cellsB; rw [List.length_append]; omega
theorem total_le (m : Nat) : ∀ (l : List (S29)), (∀ c ∈ l, wOf c ≤ m) → total l ≤ l.length * m
 | [], _ => Nat.zero_le _
 | c :: l, h => by
  have h1 := h c List.mem_cons_self
  have h2 := total_le m l fun x hx => h x (List.mem_cons_of_mem _ hx)
  rw [show total (c :: l) = wOf c + total l by simp [total], List.length_cons, Nat.add_mul]; omega
def digN (l : List (S29)) : Int := (sumN (cellsB l) 0).1
theorem digest_f (l : List (S29)) (hok : ∀ c ∈ l, okC c) (hl : l.length ≤ 1000000) (ht : total l ≤ 100000000) (k : Nat) (hk : 100000100 ≤ k) : cell_Digest.f k l = some (digN l) ∧ skerryref05_Digest.f k l = some (digN l) := by
 obtain ⟨e1, e2⟩ := cells_f l hok (by omega) k (by omega) (by omega)
 have hn := cellsB_len l
 unfold cell_Digest.f skerryref05_Digest.f
 rw [e1, e2, Option.bind_some, Option.bind_some, rsum_f (cellsB l) (cellsB_byt l hok) (by omega) k (by omega) 0]
 exact ⟨rfl, rfl⟩
end Go.Proofs.Ytaedmofnhjaljaa.Pl
namespace Go.Proofs.Ytaedmofnhjaljaa.Pl
open Go Go.RowKit Go.Proofs.YtaedmofnhjaljaaW.PrintWords Go.Proofs.Ytaedmofnhjaljaa.Q Go.Proofs.Ytaedmofnhjaljaa.Dg Go.Proofs.Ytaedmofnhjaljaa.Opn
theorem enc_turn (v : S25) (loc : Int) (c : S29) : encB (turn v loc c) = encB c := by
 unfold turn
 by_cases h : c.f1.f1 = true
 ·
  rw [if_pos h]; simp only [encB, if_pos h]
 ·
  rw [if_neg h]; simp only [encB, if_neg h]
theorem wOf_turn (v : S25) (loc : Int) (c : S29) : wOf (turn v loc c) = wOf c := by
 unfold turn
 by_cases h : c.f1.f1 = true
 ·
  rw [if_pos h]; simp only [wOf, if_pos h]
 ·
  rw [if_neg h]; simp only [wOf, if_neg h]
theorem ok_turn {v : S25} {loc : Int} (hv : okI v.f1) (hl : okI loc) {c : S29} (h : okC c) : okC (turn v loc c) := by
 unfold turn
 by_cases hd : c.f1.f1 = true
 ·
  rw [if_pos hd]; exact ⟨h.row, h.time, h.loc, hv⟩
 ·
  rw [if_neg hd]; exact ⟨h.row, h.time, hl, h.num⟩
theorem cells_turn (v : S25) (loc : Int) (l : List (S29)) : cellsB (l.map (turn v loc)) = cellsB l := by
 unfold cellsB
 rw [List.length_map, List.flatMap_map]
 congr 2
 exact funext fun c => enc_turn v loc c
theorem total_turn (v : S25) (loc : Int) (l : List (S29)) : total (l.map (turn v loc)) = total l := by
 unfold total
 rw [List.map_map]
 congr 1
 exact List.map_congr_left fun c _ => wOf_turn v loc c
def DigOk (l : List (S29)) (v : S25) (loc : Int) (k : Nat) : Prop :=
 ∃ r d d0 : Int, skerrylaw05_weigh.f k l 300 = some r ∧ skerrylaw05_lives.f k = some true ∧ (¬ r > 300 → l.length < 1256584717400 ∧ cell_Digest.f k l = some d ∧ cell_Digest.f k (l.map (turn v loc)) = some d ∧ cell_Digest.f k [] = some d0)
theorem wOf_sz_ (c : S29) : wOf c ≤ 100 + szC c := by unfold wOf szC; split <;> omega
theorem cellDigests (l : List (S29)) (v : S25) (loc : Int) (hF : ∀ c ∈ l, FineC c) (hok : ∀ c ∈ l, okC c) (hl : l.length ≤ 1256584717421) (hv : okI v.f1) (hlo : okI loc) : ∃ k, DigOk l v loc k ∧ true = true := by
 obtain ⟨K, hK1, hK2⟩ : ∃ K : Nat, l.length + 20 < K ∧ 100000200 ≤ K := ⟨l.length + 100000300, by omega, by omega⟩
 obtain ⟨r, hr, hc⟩ := weigh_f 300 (by omega) l hF (by omega) K (by omega)
 obtain ⟨d0, _⟩ := digest_f [] (fun c h => by cases h) (by simp) (by simp [total]) K (by omega)
 refine ⟨K, ⟨(r : Int), digN l, digN [], hr, lives_f K (by omega), fun hgt => ?_⟩, rfl⟩
 rcases hc with hc | ⟨h1, h2⟩
 ·
  omega
 have hlen : l.length ≤ 300 := by omega
 have ht : total l ≤ 100000000 := by
  have := total_le 8100 l fun c hc => by have := h2 c hc; have := wOf_sz_ c; omega
  have h3 : l.length * 8100 ≤ 300 * 8100 := Nat.mul_le_mul_right _ hlen
  omega
 have d1 := (digest_f l hok (by omega) ht K (by omega)).1
 have d2 := (digest_f (l.map (turn v loc)) (fun c h => by obtain ⟨x, hx, rfl⟩ := List.mem_map.1 h; exact ok_turn hv hlo (hok x hx)) (by rw [List.length_map]; omega) (by rw [total_turn]; exact ht) K (by omega)).1
 refine ⟨by omega, d1, ?_, d0⟩
 rw [d2]; unfold digN; rw [cells_turn]
theorem walkR (k : Nat) (A0 : Option Addr) (c0 : Nat) (l0 : List (S29)) (v0 v1 : Int) (v2 : ByteArray) (loc : Int) (b : Bool) (w : World) (hr0 : Kd.C k29 w A0 l0.length l0) (hc0 : l0.length ≤ c0) (h : DigOk l0 ⟨v0, v1, v2⟩ loc k ∧ b = true) :
  Calls Try.prog 7 #[.slice A0 l0.length c0, .agg #[.int .i64 v0, .int .i64 v1, .string v2], .int .i64 loc] w fun e w' => e = .returned (.bool b) ∧ Below w.heap.size w w' := by
 obtain ⟨⟨r, d, d0, h1, h2, h3⟩, rfl⟩ := h
 exact walk A0 c0 l0 ⟨v0, v1, v2⟩ loc w hr0 hc0 k r d d0 h1 h2 h3
end Go.Proofs.Ytaedmofnhjaljaa.Pl
