/- Numbers and texts: both read the same. -/
import Derived.Test.YtfaogccfiklinaaDoorKfLb
import Derived.Test.YtfaogccfiklinaaDoorKfQx4
import Derived.Test.YtfaogccfiklinaaDoorKfQx6
import Derived.Test.YtfaogccfiklinaaDoorKfJ12
set_option linter.unusedVariables false
set_option linter.unusedSimpArgs false
namespace Go.Proofs.YtfaogccfiklinaaDoor.Pl
open Go.RowKit Go.Proofs.YtfaogccfiklinaaDoorW.PrintWords
open Go.Proofs.YtfaogccfiklinaaDoor.Q
abbrev R8 := Int × ByteArray × Int × Int × ByteArray × Int × Int × Int
def bad (a : Int) : R8 := (0, (⟨#[]⟩ : ByteArray), 0, 0, (⟨#[]⟩ : ByteArray), 0, 0, a)
def cut (c : Nat) : Int := Int.tdiv ((-9223372036854775808) + (((c : Int) - 48) % 256)) 10
def nxt (c : Nat) (v : Int) : Int := wrap64 ((wrap64 (10 * v)) - (((c : Int) - 48) % 256))
def dg (s : ByteArray) (i : Nat) : Bool := digitB (cb s i : Int)
def skp (s : ByteArray) (i : Nat) : Nat := if cb s i = 95 ∧ dg s (i + 1) = true then i + 1 else i
inductive NumR (s : ByteArray) : Nat → Int → Option (Nat × Int) → Prop
 | over {i : Nat} {v : Int} : dg s i = true → v < cut (cb s i) → NumR s i v none
 | more {i : Nat} {v : Int} {r : Option (Nat × Int)} : dg s i = true → ¬ v < cut (cb s i) → NumR s (skp s (i + 1)) (nxt (cb s i) v) r → NumR s i v r
 | stop {i : Nat} {v : Int} : dg s i = false → NumR s i v (some (i, v))
def numOut (a : Int) (neg : Bool) : Option (Nat × Int) → R8
 | none => bad a
 | some (i, v) => if neg = true then (4, (⟨#[]⟩ : ByteArray), 1, v, (⟨#[]⟩ : ByteArray), a, (i : Int), (-1)) else if v = (-9223372036854775808) then bad a else (4, (⟨#[]⟩ : ByteArray), 1, wrap64 (-v), (⟨#[]⟩ : ByteArray), a, (i : Int), (-1))
theorem dg_in {s : ByteArray} {i : Nat} (h : dg s i = true) : i < s.size := by
 apply cb_in
 intro e
 rw [dg, e] at h
 cases h
theorem skp_ge (s : ByteArray) (i : Nat) : i ≤ skp s i := by unfold skp; split <;> omega
theorem skp_le {s : ByteArray} {i : Nat} (h : i ≤ s.size) : skp s i ≤ s.size := by
 unfold skp
 split
 ·
  rename_i e; have := dg_in e.2; omega
 ·
  exact h
theorem NumR.total (s : ByteArray) : ∀ (d i : Nat) (v : Int), s.size ≤ d + i → ∃ r, NumR s i v r := by
 intro d
 induction d with
 | zero => intro i v h; exact ⟨_, .stop (by cases hb : dg s i with | true => exact absurd (dg_in hb) (by omega) | false => rfl)⟩
 | succ d ih =>
  intro i v h
  cases hb : dg s i with
  | false => exact ⟨_, .stop hb⟩
  | true =>
   by_cases h1 : v < cut (cb s i)
   ·
    exact ⟨_, .over hb h1⟩
   ·
    obtain ⟨r, hr⟩ := ih (skp s (i + 1)) (nxt (cb s i) v) (by have := skp_ge s (i + 1); omega)
    exact ⟨r, .more hb h1 hr⟩
theorem w32 (b : Nat) (h : b < 256) : wrap32 (b : Int) = (b : Int) := by unfold wrap32; omega
theorem wrong_f (a : Int) : ((lexer_wrong.f a).bind fun q => some (q.1, q.2.1, q.2.2.1, q.2.2.2.1, q.2.2.2.2.1, q.2.2.2.2.2.1, q.2.2.2.2.2.2.1, q.2.2.2.2.2.2.2)) = some (bad a) := rfl
theorem lex_round (s : ByteArray) (hs : s.size ≤ 1000) (i : Nat) (hi : i ≤ s.size) (a v : Int) (neg : Bool) (k : Nat) : lexer_cutter_number.l0 (k + 1) a v neg s (i : Int) =
  if dg s i = true then (if v < cut (cb s i) then some (bad a) else lexer_cutter_number.l0 k a (nxt (cb s i) v) neg s ((skp s (i + 1) : Nat) : Int)) else some (numOut a neg (some (i, v))) := by
 have p0 := peek_f s hs i 0 hi (by omega)
 rw [lexer_cutter_number.l0]
 simp only [show ((0 : Nat) : Int) = 0 from rfl, Nat.add_zero] at p0
 rw [p0, Option.bind_some, w32 _ (cb_lt s i), isDigit_f, Option.bind_some]
 by_cases hd : dg s i = true
 ·
  have hd' : digitB (cb s i : Int) = true := hd
  rw [if_pos hd', if_pos hd]
  rw [Option.bind_some]
  by_cases hc : v < cut (cb s i)
  ·
   have hc' := hc
   unfold cut at hc'
   rw [if_pos hc', if_pos hc, wrong_f]
  ·
   have hc' := hc
   unfold cut at hc'
   rw [if_neg hc', if_neg hc]
   have hin := dg_in hd
   have q0 := peek_f s hs (i + 1) 0 (by omega) (by omega)
   have q1 := peek_f s hs (i + 1) 1 (by omega) (by omega)
   simp only [show ((0 : Nat) : Int) = 0 from rfl, show ((1 : Nat) : Int) = 1 from rfl, Nat.add_zero] at q0 q1
   have w1 : wrap64 ((i : Int) + 1) = ((i + 1 : Nat) : Int) := wr1 (by omega) 1 (by omega)
   have w2 : wrap64 (((i + 1 : Nat) : Int) + 1) = ((i + 1 + 1 : Nat) : Int) := wr1 (by omega) 1 (by omega)
   rw [w1, q0, Option.bind_some]
   unfold skp nxt
   by_cases h95 : cb s (i + 1) = 95
   ·
    rw [if_pos (show (cb s (i + 1) : Int) = 95 by omega), q1, Option.bind_some, w32 _ (cb_lt s (i + 1 + 1)), isDigit_f, Option.bind_some]
    by_cases h2 : dg s (i + 1 + 1) = true
    ·
     have h2' : digitB (cb s (i + 1 + 1) : Int) = true := h2
     rw [if_pos h2', if_pos (show cb s (i + 1) = 95 ∧ dg s (i + 1 + 1) = true from ⟨h95, h2⟩), w2]
    ·
     have h2' : ¬ digitB (cb s (i + 1 + 1) : Int) = true := h2
     rw [if_neg h2', if_neg (show ¬ (cb s (i + 1) = 95 ∧ dg s (i + 1 + 1) = true) from fun e => h2 e.2)]
   ·
    rw [if_neg (show ¬ (cb s (i + 1) : Int) = 95 by omega), if_neg (show ¬ (cb s (i + 1) = 95 ∧ dg s (i + 1 + 1) = true) from fun e => h95 e.1)]
 ·
  have hd' : ¬ digitB (cb s i : Int) = true := hd
  rw [if_neg hd', if_neg hd]
  unfold numOut
  cases neg with
  | true => simp only [if_true]
  | false =>
   simp only [Bool.false_eq_true, if_false]
   by_cases h : v = -9223372036854775808
   ·
    rw [if_pos h, if_pos h, wrong_f]
   ·
    rw [if_neg h, if_neg h]
theorem lex_num {s : ByteArray} (hs : s.size ≤ 1000) {i : Nat} {v : Int} {r : Option (Nat × Int)} (h : NumR s i v r) (hi : i ≤ s.size) (a : Int) (neg : Bool) : Ev (fun k => lexer_cutter_number.l0 k a v neg s (i : Int)) (numOut a neg r) := by
 induction h with
 | over h1 h2 => exact Ev.step (fun k => by rw [lex_round s hs _ hi, if_pos h1, if_pos h2]; rfl) (Ev.now _)
 | @more i v r h1 h2 _ ih =>
  have := dg_in h1
  exact Ev.step (fun k => by rw [lex_round s hs _ hi, if_pos h1, if_neg h2]) (ih (skp_le (by omega)))
 | stop h1 => exact Ev.step (fun k => by rw [lex_round s hs _ hi, if_neg (by rw [h1]; simp)]) (Ev.now _)
theorem rdig_f (r : Int) : skerryref18_digit.f r = some (digitB r) := by
 unfold skerryref18_digit.f digitB
 repeat' split
 all_goals (congr 1; simp [*])
theorem rnum_j4 (s : ByteArray) (a v : Int) (i : Nat) (neg : Bool) (k : Nat) : skerryref18_number.j4 (k + 1) a (i : Int) neg v = some (numOut a neg (some (i, v))) := by
 rw [skerryref18_number.j4]
 unfold numOut
 cases neg with
 | true => rfl
 | false =>
  simp only [Bool.false_eq_true, if_false]
  by_cases h : v = -9223372036854775808
  ·
   rw [if_pos h, if_pos h]; rfl
  ·
   rw [if_neg h, if_neg h]
theorem rnum_l0 (s : ByteArray) (hs : s.size ≤ 1000) (i : Nat) (hi : i < s.size) (a v : Int) (neg : Bool) (k : Nat) : skerryref18_number.l0 (k + 2) s a (i : Int) neg v = skerryref18_number.j3 k s a ((skp s i : Nat) : Int) neg v := by
 have w1 : wrap64 ((i : Int) + 1) = ((i + 1 : Nat) : Int) := wr1 (by omega) 1 (by omega)
 show skerryref18_number.l0 (k + 1 + 1) s a (i : Int) neg v = _
 rw [skerryref18_number.l0, if_pos (by omega), if_pos (by omega), bt_cb]
 unfold skp
 by_cases h95 : cb s i = 95
 ·
  rw [if_pos (by omega), w1]
  by_cases h2 : ((i + 1 : Nat) : Int) < (s.size : Int)
  ·
   rw [if_pos h2, if_pos (by omega), bt_cb, rdig_f, Option.bind_some, skerryref18_number.j2]
   change (if dg s (i + 1) = true then _ else _) = _
   by_cases hd : dg s (i + 1) = true
   ·
    rw [if_pos hd, if_pos ⟨h95, hd⟩, w1]
   ·
    rw [if_neg hd, if_neg (fun e => hd e.2)]
  ·
   rw [if_neg h2, skerryref18_number.j2, if_neg (by simp), if_neg (fun e => by have := dg_in e.2; omega)]
 ·
  rw [if_neg (by omega), skerryref18_number.j2, if_neg (by simp), if_neg (fun e => h95 e.1)]
theorem rnum_j3 (s : ByteArray) (hs : s.size ≤ 1000) (i : Nat) (hi : i < s.size) (a v : Int) (neg : Bool) (k : Nat) : skerryref18_number.j3 (k + 1) s a (i : Int) neg v =
  if dg s i = true then (if v < cut (cb s i) then some (bad a) else skerryref18_number.l0 k s a ((i + 1 : Nat) : Int) neg (nxt (cb s i) v)) else skerryref18_number.j4 k a (i : Int) neg v := by
 have w1 : wrap64 ((i : Int) + 1) = ((i + 1 : Nat) : Int) := wr1 (by omega) 1 (by omega)
 rw [skerryref18_number.j3, if_pos (by omega), if_pos (by omega), bt_cb, rdig_f, Option.bind_some, w1]
 rfl
theorem ref_num {s : ByteArray} (hs : s.size ≤ 1000) {j : Nat} {v : Int} {r : Option (Nat × Int)} (h : NumR s j v r) (a : Int) (neg : Bool) : ∀ i, skp s i = j → i ≤ s.size → Ev (fun k => skerryref18_number.l0 k s a (i : Int) neg v) (numOut a neg r) := by
 have up : ∀ {i : Nat} {v : Int} {q : R8}, i < s.size → Ev (fun k => skerryref18_number.j3 k s a ((skp s i : Nat) : Int) neg v) q → Ev (fun k => skerryref18_number.l0 k s a (i : Int) neg v) q := by
  intro i v q hi ⟨K, hK⟩
  refine ⟨K + 2, fun k hk => ?_⟩
  obtain ⟨k, rfl⟩ : ∃ m, k = m + 2 := ⟨k - 2, by omega⟩
  simp only
  rw [rnum_l0 s hs i hi]
  exact hK k (by omega)
 have notin : ∀ {i j : Nat}, skp s i = j → i ≤ s.size → dg s j = true → i < s.size := by
  intro i j e hi hd
  rcases Nat.lt_or_ge i s.size with h' | h'
  ·
   exact h'
  ·
   have := dg_in hd
   have := skp_ge s i
   omega
 induction h with
 | @over j v h1 h2 =>
  intro i e hi
  refine up (notin e hi h1) ?_
  rw [e]
  exact Ev.step (fun k => by rw [rnum_j3 s hs j (dg_in h1), if_pos h1, if_pos h2]; rfl) (Ev.now _)
 | @more j v r h1 h2 _ ih =>
  intro i e hi
  have := dg_in h1
  refine up (notin e hi h1) ?_
  rw [e]
  exact Ev.step (fun k => by rw [rnum_j3 s hs j (dg_in h1), if_pos h1, if_neg h2]) (ih (j + 1) rfl (by omega))
 | @stop j v h1 =>
  intro i e hi
  have e2 : j = i := by
   rw [← e]
   unfold skp
   split
   ·
    rename_i e3
    unfold skp at e
    rw [if_pos e3] at e
    rw [← e, e3.2] at h1
    cases h1
   ·
    rfl
  subst e2
  rcases Nat.lt_or_ge j s.size with h' | h'
  ·
   refine up h' ?_
   rw [e]
   refine Ev.step (f := fun k => skerryref18_number.j4 k a (j : Int) neg v) (fun k => by rw [rnum_j3 s hs j h', if_neg (by rw [h1]; simp)]) (Ev.step (fun k => rnum_j4 s a v j neg k) (Ev.now _))
  ·
   exact Ev.step (f := fun k => skerryref18_number.j4 k a (j : Int) neg v) (fun k => by rw [skerryref18_number.l0, if_neg (by omega)]) (Ev.step (fun k => rnum_j4 s a v j neg k) (Ev.now _))
def hexv (b : Nat) : Int := if digitB (b : Int) = true then ((b : Int) - 48) % 256 else if 65 ≤ b ∧ b ≤ 70 then ((b : Int) - 65) % 256 + 10 else -1
theorem hex_f (b : Nat) : skerryref18_hex.f (b : Int) = some (hexv b) := by
 unfold skerryref18_hex.f hexv
 rw [rdig_f, Option.bind_some]
 split
 ·
  rfl
 ·
  by_cases h1 : 65 ≤ b
  ·
   rw [if_pos (by omega)]
   by_cases h2 : b ≤ 70
   ·
    rw [if_pos (by omega), if_pos ⟨h1, h2⟩]
   ·
    rw [if_neg (by omega), if_neg (fun e => h2 e.2)]
  ·
   rw [if_neg (by omega), if_neg (fun e => h1 e.1)]
theorem hex_ix : ∀ b : Fin 256, Lib.indexByte [48, 49, 50, 51, 52, 53, 54, 55, 56, 57, 65, 66, 67, 68, 69, 70] (b.val.toUInt8) = hexv b.val := by decide +kernel
theorem hex_lt : ∀ b : Fin 256, hexv b.val < 16 := by decide +kernel
theorem hex_pair : ∀ h l : Fin 16, (Go.bits .or .i64 (wrap64 ((h.val : Int) * 16)) (l.val : Int)) % 256 = (16 * h.val + l.val : Nat) ∧ (wrap64 ((wrap64 (16 * (h.val : Int))) + (l.val : Int))) % 256 = (16 * h.val + l.val : Nat) := by decide +kernel
def plainB (b : Nat) : Bool := decide (32 ≤ b) && (decide (b ≤ 126) && (!(b == 39) && !(b == 37)))
def hx2 (s : ByteArray) (i : Nat) : Int := 16 * hexv (cb s (i + 1)) + hexv (cb s (i + 2))
def pc (s : ByteArray) (i : Nat) : Prop := cb s i = 37 ∧ 0 ≤ hexv (cb s (i + 1)) ∧ 0 ≤ hexv (cb s (i + 2))
instance (s : ByteArray) (i : Nat) : Decidable (pc s i) := by unfold pc; infer_instance
inductive QR (s : ByteArray) : Nat → List Int → Nat × Option (List Int) → Prop
 | stop {i : Nat} {b : List Int} : cb s i = 39 → QR s i b (i, some b)
 | fin {i : Nat} {b : List Int} : s.size = i → QR s i b (s.size, none)
 | full {i : Nat} {b : List Int} : i < s.size → cb s i ≠ 39 → b.length = 64 → QR s i b (i, none)
 | plain {i : Nat} {b : List Int} {r : Nat × Option (List Int)} : b.length < 64 → plainB (cb s i) = true → QR s (i + 1) (b ++ [(cb s i : Int)]) r → QR s i b r
 | pct {i : Nat} {b : List Int} {r : Nat × Option (List Int)} : b.length < 64 → pc s i → QR s (i + 3) (b ++ [hx2 s i]) r → QR s i b r
 | bad {i : Nat} {b : List Int} : i < s.size → b.length < 64 → cb s i ≠ 39 → plainB (cb s i) = false → ¬ pc s i → QR s i b (i, none)
def qOut (a : Int) : Nat × Option (List Int) → R8
 | (i, some b) => (4, (⟨#[]⟩ : ByteArray), 2, 0, strOfNums b, a, ((i + 1 : Nat) : Int), (-1))
 | (i, none) => bad (i : Int)
theorem hex_in {s : ByteArray} {i : Nat} (h : 0 ≤ hexv (cb s i)) : i < s.size := by
 apply cb_in
 intro e
 rw [e] at h
 exact absurd h (by decide)
theorem plain_in {s : ByteArray} {i : Nat} (h : plainB (cb s i) = true) : i < s.size := by
 apply cb_in
 intro e
 rw [e] at h
 exact absurd h (by decide)
theorem QR.total (s : ByteArray) : ∀ (d i : Nat) (b : List Int), s.size ≤ d + i → i ≤ s.size → b.length ≤ 64 → ∃ r, QR s i b r := by
 intro d
 induction d using Nat.strongRecOn with
 | ind d ih =>
  intro i b h hi hb
  by_cases h1 : i = s.size
  ·
   exact ⟨_, .fin h1.symm⟩
  by_cases h2 : cb s i = 39
  ·
   exact ⟨_, .stop h2⟩
  by_cases h3 : b.length = 64
  ·
   exact ⟨_, .full (by omega) h2 h3⟩
  by_cases h4 : plainB (cb s i) = true
  ·
   obtain ⟨r, hr⟩ := ih (d - 1) (by omega) (i + 1) (b ++ [(cb s i : Int)]) (by omega) (by omega) (by simp; omega)
   exact ⟨r, .plain (by omega) h4 hr⟩
  by_cases h5 : pc s i
  ·
   have := hex_in h5.2.2
   obtain ⟨r, hr⟩ := ih (d - 3) (by omega) (i + 3) (b ++ [hx2 s i]) (by omega) (by omega) (by simp; omega)
   exact ⟨r, .pct (by omega) h5 hr⟩
  ·
   exact ⟨_, .bad (by omega) (by omega) h2 (by cases hb : plainB (cb s i) with | true => exact absurd hb h4 | false => rfl) h5⟩
theorem bne37 (b : Nat) : ((b : Int) != 37) = !(b == 37) := by
 by_cases h : b = 37
 ·
  subst h; rfl
 ·
  have h2 : (b : Int) ≠ 37 := by omega
  rw [bne_iff_ne.2 h2, beq_eq_false_iff_ne.2 h]; rfl
theorem itself_f (b : Nat) : lexer_itself.f (b : Int) = some (plainB b) := by
 unfold lexer_itself.f plainB
 by_cases h1 : 32 ≤ b
 ·
  rw [if_pos (by omega), decide_eq_true h1]
  by_cases h2 : b ≤ 126
  ·
   rw [if_pos (by omega), decide_eq_true h2]
   by_cases h3 : b = 39
   ·
    rw [if_pos (by omega), h3]; rfl
   ·
    rw [if_neg (by omega), bne37, beq_eq_false_iff_ne.2 h3]; rfl
  ·
   rw [if_neg (by omega), decide_eq_false h2]; rfl
 ·
  rw [if_neg (by omega), decide_eq_false h1]; rfl
theorem rplain_f (b : Nat) : skerryref18_plain.f (b : Int) = some (plainB b) := by
 rw [← itself_f]; rfl
theorem hex_ix' (s : ByteArray) (i : Nat) : strings_IndexByte.f (⟨#[48, 49, 50, 51, 52, 53, 54, 55, 56, 57, 65, 66, 67, 68, 69, 70]⟩ : ByteArray) (cb s i : Int) = some (hexv (cb s i)) := by
 unfold strings_IndexByte.f
 rw [Int.toNat_natCast]
 have := hex_ix ⟨cb s i, cb_lt s i⟩
 simp only at this
 rw [← this]
theorem hx2_lex {s : ByteArray} {i : Nat} (h : pc s i) : (Go.bits .or .i64 (wrap64 (hexv (cb s (i + 1)) * 16)) (hexv (cb s (i + 2)))) % 256 = hx2 s i ∧ (wrap64 ((wrap64 (16 * hexv (cb s (i + 1)))) + hexv (cb s (i + 2)))) % 256 = hx2 s i := by
 obtain ⟨_, h1, h2⟩ := h
 have l1 := hex_lt ⟨cb s (i + 1), cb_lt s (i + 1)⟩
 have l2 := hex_lt ⟨cb s (i + 2), cb_lt s (i + 2)⟩
 simp only at l1 l2
 unfold hx2
 obtain ⟨a, ha⟩ := Int.eq_ofNat_of_zero_le h1
 obtain ⟨b, hb⟩ := Int.eq_ofNat_of_zero_le h2
 rw [ha] at l1 ⊢
 rw [hb] at l2 ⊢
 have := hex_pair ⟨a, by omega⟩ ⟨b, by omega⟩
 simp only at this
 rw [this.1, this.2]
 constructor <;> omega
theorem lq_l0 (s : ByteArray) (hs : s.size ≤ 1000) (i : Nat) (hi : i < s.size) (a : Int) (b : List Int) (k : Nat) : lexer_cutter_quoted.l0 (k + 1) a b s (i : Int) = lexer_cutter_quoted.j1 k a b (!(cb s i == 39)) s (i : Int) := by
 have p0 := peek_f s hs i 0 (by omega) (by omega)
 rw [show ((0 : Nat) : Int) = 0 from rfl, Nat.add_zero] at p0
 rw [lexer_cutter_quoted.l0, if_pos (by omega), p0, Option.bind_some]
 have : ((cb s i : Int) != 39) = !(cb s i == 39) := by
  by_cases h : cb s i = 39
  ·
   rw [h]; rfl
  ·
   have h2 : (cb s i : Int) ≠ 39 := by omega
   rw [bne_iff_ne.2 h2, beq_eq_false_iff_ne.2 h]; rfl
 rw [this]
theorem lq_out (s : ByteArray) (hs : s.size ≤ 1000) (i : Nat) (hi : i ≤ s.size) (a : Int) (b : List Int) (k : Nat) : lexer_cutter_quoted.j1 (k + 1) a b false s (i : Int) = if i = s.size then some (bad (i : Int)) else some (qOut a (i, some b)) := by
 rw [lexer_cutter_quoted.j1, if_neg (by simp)]
 by_cases h : i = s.size
 ·
  rw [if_pos (by omega), if_pos h, wrong_f]
 ·
  rw [if_neg (by omega), if_neg h, show ((i : Int) + 1) = (i : Int) + ((1 : Nat) : Int) from rfl, wr1 (by omega) 1 (by omega)]
  rfl
theorem lq_in (s : ByteArray) (hs : s.size ≤ 1000) (i : Nat) (hi : i < s.size) (a : Int) (b : List Int) (hb : b.length ≤ 64) (k : Nat) : lexer_cutter_quoted.j1 (k + 1) a b true s (i : Int) =
  if b.length = 64 then some (bad (i : Int)) else if plainB (cb s i) = true then lexer_cutter_quoted.l0 k a (b ++ [(cb s i : Int)]) s ((i + 1 : Nat) : Int) else if cb s i = 37 then (if 0 ≤ hexv (cb s (i + 1)) then (if 0 ≤ hexv (cb s (i + 2)) then lexer_cutter_quoted.l0 k a (b ++ [(Go.bits .or .i64 (wrap64 (hexv (cb s (i + 1)) * 16)) (hexv (cb s (i + 2)))) % 256]) s ((i + 3 : Nat) : Int) else some (bad (i : Int))) else some (bad (i : Int))) else some (bad (i : Int)) := by
 have p0 := peek_f s hs i 0 (by omega) (by omega)
 have p1 := peek_f s hs i 1 (by omega) (by omega)
 have p2 := peek_f s hs i 2 (by omega) (by omega)
 rw [show ((0 : Nat) : Int) = 0 from rfl, Nat.add_zero] at p0
 rw [show ((1 : Nat) : Int) = 1 from rfl] at p1
 rw [show ((2 : Nat) : Int) = 2 from rfl] at p2
 rw [lexer_cutter_quoted.j1, if_pos rfl, p1, Option.bind_some, hex_ix', Option.bind_some, p2, Option.bind_some, hex_ix', Option.bind_some, p0, Option.bind_some]
 by_cases h1 : b.length = 64
 ·
  rw [if_pos (show (b.length : Int) = 64 by omega), if_pos h1, wrong_f]
 rw [if_neg (show ¬ (b.length : Int) = 64 by omega), if_neg h1, itself_f, Option.bind_some]
 by_cases h2 : plainB (cb s i) = true
 ·
  rw [if_pos h2, if_pos h2, if_pos (show b.length < 140737488355328 by omega), show ((i : Int) + 1) = (i : Int) + ((1 : Nat) : Int) from rfl, wr1 (by omega) 1 (by omega)]
 rw [if_neg h2, if_neg h2]
 by_cases h3 : cb s i = 37
 ·
  rw [if_pos (show (cb s i : Int) = 37 by omega), if_pos h3]
  by_cases h4 : 0 ≤ hexv (cb s (i + 1))
  ·
   rw [if_pos (show hexv (cb s (i + 1)) ≥ 0 from h4), if_pos h4]
   by_cases h5 : 0 ≤ hexv (cb s (i + 2))
   ·
    rw [if_pos (show hexv (cb s (i + 2)) ≥ 0 from h5), if_pos h5, if_pos (show b.length < 140737488355328 by omega), show ((i : Int) + 3) = (i : Int) + ((3 : Nat) : Int) from rfl, wr1 (by omega) 3 (by omega)]
   ·
    rw [if_neg (show ¬ hexv (cb s (i + 2)) ≥ 0 from h5), if_neg h5, wrong_f]
  ·
   rw [if_neg (show ¬ hexv (cb s (i + 1)) ≥ 0 from h4), if_neg h4, wrong_f]
 ·
  rw [if_neg (show ¬ (cb s i : Int) = 37 by omega), if_neg h3, wrong_f]
theorem lex_quo {s : ByteArray} (hs : s.size ≤ 1000) {i : Nat} {b : List Int} {r : Nat × Option (List Int)} (h : QR s i b r) (a : Int) : i ≤ s.size → b.length ≤ 64 → Ev (fun k => lexer_cutter_quoted.l0 k a b s (i : Int)) (qOut a r) := by
 have nq : ∀ {i : Nat}, cb s i ≠ 39 → (!(cb s i == 39)) = true := fun h => by rw [beq_eq_false_iff_ne.2 h]; rfl
 have pq : ∀ {i : Nat}, plainB (cb s i) = true → cb s i ≠ 39 := fun h e => by rw [e] at h; exact absurd h (by decide)
 induction h with
 | @stop i b h1 =>
  intro hi hb
  have hlt := cb_in (s := s) (i := i) (by omega)
  refine Ev.step (fun k => lq_l0 s hs i hlt a b k) ?_
  rw [h1]
  exact Ev.step (fun k => (lq_out s hs i hi a b k).trans (if_neg (by omega))) (Ev.now _)
 | @fin i b h1 =>
  intro hi hb
  subst h1
  refine Ev.step (f := fun k => lexer_cutter_quoted.j1 k a b false s (s.size : Int)) (fun k => by rw [lexer_cutter_quoted.l0, if_neg (by omega)]) ?_
  exact Ev.step (fun k => (lq_out s hs s.size hi a b k).trans (if_pos rfl)) (Ev.now _)
 | @full i b h1 h2 h3 =>
  intro hi hb
  refine Ev.step (fun k => lq_l0 s hs i h1 a b k) ?_
  rw [nq h2]
  exact Ev.step (fun k => (lq_in s hs i h1 a b hb k).trans (if_pos h3)) (Ev.now _)
 | @plain i b r h1 h2 _ ih =>
  intro hi hb
  have hlt := plain_in h2
  refine Ev.step (fun k => lq_l0 s hs i hlt a b k) ?_
  rw [nq (pq h2)]
  exact Ev.step (fun k => by rw [lq_in s hs i hlt a b hb k, if_neg (by omega), if_pos h2]) (ih (by omega) (by simp; omega))
 | @pct i b r h1 h2 _ ih =>
  intro hi hb
  have hlt := cb_in (s := s) (i := i) (by have := h2.1; omega)
  have hlt2 := hex_in h2.2.2
  refine Ev.step (fun k => lq_l0 s hs i hlt a b k) ?_
  rw [nq (by have := h2.1; omega)]
  refine Ev.step (fun k => ?_) (ih (by omega) (by simp; omega))
  rw [lq_in s hs i hlt a b hb k, if_neg (by omega), if_neg (by rw [h2.1]; decide), if_pos h2.1, if_pos h2.2.1, if_pos h2.2.2, (hx2_lex h2).1]
 | @bad i b h1 h2 h3 h4 h5 =>
  intro hi hb
  refine Ev.step (fun k => lq_l0 s hs i h1 a b k) ?_
  rw [nq h3]
  refine Ev.step (fun k => ?_) (Ev.now _)
  rw [lq_in s hs i h1 a b hb k, if_neg (by omega), if_neg (by rw [h4]; simp)]
  by_cases g1 : cb s i = 37
  ·
   rw [if_pos g1]
   by_cases g2 : 0 ≤ hexv (cb s (i + 1))
   ·
    rw [if_pos g2]
    by_cases g3 : 0 ≤ hexv (cb s (i + 2))
    ·
     exact absurd ⟨g1, g2, g3⟩ h5
    ·
     rw [if_neg g3]; rfl
   ·
    rw [if_neg g2]; rfl
  ·
   rw [if_neg g1]; rfl
theorem rq_l0 (s : ByteArray) (hs : s.size ≤ 1000) (i : Nat) (hi : i < s.size) (a : Int) (b : List Int) (hb : b.length ≤ 64) : ∀ k, 1 ≤ k → skerryref18_quoted.l0 (k + 1) s a b (i : Int) =
  if cb s i = 39 then some (qOut a (i, some b)) else if b.length = 64 then some (bad (i : Int)) else if plainB (cb s i) = true then skerryref18_quoted.l0 k s a (b ++ [(cb s i : Int)]) ((i + 1 : Nat) : Int) else if pc s i then skerryref18_quoted.l0 (k - 1) s a (b ++ [hx2 s i]) ((i + 3 : Nat) : Int) else some (bad (i : Int)) := by
 intro k hk
 obtain ⟨k, rfl⟩ : ∃ m, k = m + 1 := ⟨k - 1, by omega⟩
 have w1 : wrap64 ((i : Int) + 1) = ((i + 1 : Nat) : Int) := wr1 (by omega) 1 (by omega)
 have w2 : wrap64 ((i : Int) + 2) = ((i + 2 : Nat) : Int) := wr1 (by omega) 2 (by omega)
 have w3 : wrap64 ((i : Int) + 3) = ((i + 3 : Nat) : Int) := wr1 (by omega) 3 (by omega)
 have jb : skerryref18_quoted.j1 (k + 1) s a b (i : Int) true = some (bad (i : Int)) := by rw [skerryref18_quoted.j1, if_pos rfl]; rfl
 rw [skerryref18_quoted.l0, if_pos (by omega), if_pos (by omega), bt_cb]
 by_cases h1 : cb s i = 39
 ·
  rw [if_pos (show (cb s i : Int) = 39 by omega), if_pos h1, w1]; rfl
 rw [if_neg (show ¬ (cb s i : Int) = 39 by omega), if_neg h1]
 by_cases h2 : b.length = 64
 ·
  rw [if_pos (show (b.length : Int) = 64 by omega), if_pos h2]; rfl
 rw [if_neg (show ¬ (b.length : Int) = 64 by omega), if_neg h2, rplain_f, Option.bind_some]
 by_cases h3 : plainB (cb s i) = true
 ·
  rw [if_pos h3, if_pos h3, if_pos (show b.length < 140737488355328 by omega), w1]
 rw [if_neg h3, if_neg h3]
 by_cases h4 : cb s i = 37
 ·
  rw [if_pos (show (cb s i : Int) = 37 by omega), w2]
  by_cases h5 : s.size ≤ i + 2
  ·
   rw [if_pos (show ((i + 2 : Nat) : Int) ≥ (s.size : Int) by omega), jb, if_neg (fun e => by have := hex_in e.2.2; omega)]
  ·
   rw [if_neg (show ¬ ((i + 2 : Nat) : Int) ≥ (s.size : Int) by omega), w1, if_pos (by omega), if_pos (by omega), bt_cb, hex_f, Option.bind_some]
   by_cases h6 : hexv (cb s (i + 1)) < 0
   ·
    rw [if_pos h6, jb, if_neg (fun e => by have := e.2.1; omega)]
   ·
    rw [if_neg h6, if_pos (by omega), if_pos (by omega), bt_cb, hex_f, Option.bind_some]
    by_cases h7 : hexv (cb s (i + 2)) < 0
    ·
     rw [decide_eq_true h7, jb, if_neg (fun e => by have := e.2.2; omega)]
    ·
     have hp : pc s i := ⟨h4, by omega, by omega⟩
     rw [decide_eq_false h7, if_pos hp, skerryref18_quoted.j1, if_neg (by simp), w1, w2, w3, if_pos (by omega), if_pos (by omega), bt_cb, hex_f, Option.bind_some, if_pos (by omega), if_pos (by omega), bt_cb, hex_f, Option.bind_some, if_pos (show b.length < 140737488355328 by omega), (hx2_lex hp).2]
     rfl
 ·
  rw [if_neg (show ¬ (cb s i : Int) = 37 by omega), jb, if_neg (fun e => h4 e.1)]
theorem ref_quo {s : ByteArray} (hs : s.size ≤ 1000) {i : Nat} {b : List Int} {r : Nat × Option (List Int)} (h : QR s i b r) (a : Int) : i ≤ s.size → b.length ≤ 64 → Ev (fun k => skerryref18_quoted.l0 k s a b (i : Int)) (qOut a r) := by
 have pq : ∀ {i : Nat}, plainB (cb s i) = true → cb s i ≠ 39 := fun h e => by rw [e] at h; exact absurd h (by decide)
 have at2 : ∀ {i : Nat} {b : List Int} {q : R8}, (∀ k, 1 ≤ k → skerryref18_quoted.l0 (k + 1) s a b (i : Int) = some q) → Ev (fun k => skerryref18_quoted.l0 k s a b (i : Int)) q := fun h => ⟨2, fun k hk => by obtain ⟨k, rfl⟩ : ∃ m, k = m + 1 := ⟨k - 1, by omega⟩; exact h k (by omega)⟩
 induction h with
 | @stop i b h1 =>
  intro hi hb
  exact at2 (fun k hk => (rq_l0 s hs i (cb_in (by omega)) a b hb k hk).trans (if_pos h1))
 | @fin i b h1 =>
  intro hi hb
  subst h1
  exact at2 (fun k hk => by rw [skerryref18_quoted.l0, if_neg (by omega)]; rfl)
 | @full i b h1 h2 h3 =>
  intro hi hb
  exact at2 (fun k hk => by rw [rq_l0 s hs i h1 a b hb k hk, if_neg h2, if_pos h3]; rfl)
 | @plain i b r h1 h2 _ ih =>
  intro hi hb
  have hlt := plain_in h2
  obtain ⟨K, hK⟩ := ih (by omega) (by simp; omega)
  refine ⟨K + 2, fun k hk => ?_⟩
  obtain ⟨k, rfl⟩ : ∃ m, k = m + 1 := ⟨k - 1, by omega⟩
  have e := rq_l0 s hs i hlt a b hb k (by omega)
  rw [if_neg (pq h2), if_neg (by omega), if_pos h2] at e
  exact e.trans (hK k (by omega))
 | @pct i b r h1 h2 _ ih =>
  intro hi hb
  have hlt := cb_in (s := s) (i := i) (by have := h2.1; omega)
  have hlt2 := hex_in h2.2.2
  obtain ⟨K, hK⟩ := ih (by omega) (by simp; omega)
  refine ⟨K + 2, fun k hk => ?_⟩
  obtain ⟨k, rfl⟩ : ∃ m, k = m + 1 := ⟨k - 1, by omega⟩
  have e := rq_l0 s hs i hlt a b hb k (by omega)
  rw [if_neg (by have := h2.1; omega), if_neg (by omega), if_neg (by rw [h2.1]; decide), if_pos h2] at e
  exact e.trans (hK (k - 1) (by omega))
 | @bad i b h1 h2 h3 h4 h5 =>
  intro hi hb
  exact at2 (fun k hk => by rw [rq_l0 s hs i h1 a b hb k hk, if_neg h3, if_neg (by omega), if_neg (by rw [h4]; simp), if_neg h5]; rfl)
end Go.Proofs.YtfaogccfiklinaaDoor.Pl
