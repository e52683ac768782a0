/- The lexer's bytes: what a look ahead, a run and a blank come to. -/
import Derived.Test.YtfaogccfiklinaaDoorKfQx13
import Derived.Test.YtfaogccfiklinaaDoorKfJ12
import Derived.Lib.RuneCountTail
set_option linter.unusedVariables false
set_option linter.unusedSimpArgs false
namespace Go.Proofs.YtfaogccfiklinaaDoor.Pl
open Go.RowKit Go.Proofs.YtfaogccfiklinaaDoorW.PrintWords
open Go.Proofs.YtfaogccfiklinaaDoor.Q
def cb (s : ByteArray) (i : Nat) : Nat := if h : i < s.size then (s[i]'h).toNat else 0
theorem cb_lt (s : ByteArray) (i : Nat) : cb s i < 256 := by
 unfold cb
 split
 ·
  rename_i h; exact (s[i]'h).toNat_lt
 ·
  omega
theorem cb_out {s : ByteArray} {i : Nat} (h : s.size ≤ i) : cb s i = 0 := by unfold cb; rw [dif_neg (by omega)]
theorem cb_in {s : ByteArray} {i : Nat} (h : cb s i ≠ 0) : i < s.size := by
 rcases Nat.lt_or_ge i s.size with h' | h'
 ·
  exact h'
 ·
  exact absurd (cb_out h') h
theorem bt_cb (s : ByteArray) (i : Nat) : bt s (i : Int) = (cb s i : Int) := by
 unfold bt cb
 simp only [Int.toNat_natCast]
 split <;> rfl
theorem wr {x : Int} (h : -1000000 ≤ x ∧ x ≤ 1000000) : wrap64 x = x := by unfold wrap64; omega
theorem wr1 {n : Nat} (h : n ≤ 10000) (m : Nat) (hm : m ≤ 1000) : wrap64 ((n : Int) + (m : Int)) = ((n + m : Nat) : Int) := by rw [wr (by omega)]; omega
theorem peek_f (s : ByteArray) (hs : s.size ≤ 1000) (a n : Nat) (ha : a ≤ s.size) (hn : n ≤ 10) : lexer_cutter_peek.f s (a : Int) (n : Int) = some (cb s (a + n) : Int) := by
 unfold lexer_cutter_peek.f
 rw [wr (x := (s.size : Int) - a) (by omega), wr1 (by omega) n (by omega)]
 by_cases h : (n : Int) ≥ (s.size : Int) - a
 ·
  rw [if_pos h, cb_out (by omega)]; rfl
 ·
  rw [if_neg h, if_pos (by omega), if_pos (by omega), bt_cb]
theorem rest_f' (s : ByteArray) (a : Nat) (ha : a ≤ s.size) : lexer_cutter_rest.f s (a : Int) = some (s.extract a s.size) := by
 rw [rest_f s a (by omega) (by omega), Int.toNat_natCast]
theorem get_ext (s : ByteArray) (a i : Nat) : cb (s.extract a s.size) i = cb s (a + i) := by
 unfold cb
 by_cases h : a + i < s.size
 ·
  have h2 : i < (s.extract a s.size).size := by rw [ByteArray.size_extract]; omega
  rw [dif_pos h, dif_pos h2]
  congr 1
  exact ByteArray.getElem_extract h2
 ·
  rw [dif_neg h, dif_neg (by rw [ByteArray.size_extract]; omega)]
theorem get_cb (s : ByteArray) (i : Nat) : (s.get! i).toNat = cb s i := by
 unfold cb
 by_cases h : i < s.size
 ·
  rw [dif_pos h]
  congr 1
  show s.data[i]! = s.data[i]
  rw [getElem!_pos s.data i h]
 ·
  rw [dif_neg h]
  show (s.data[i]!).toNat = 0
  rw [getElem!_neg s.data i h]
  rfl
theorem decode_small {s : ByteArray} {i : Nat} (h : cb s i < 128) : Utf8.decode s i = (cb s i, 1) := by
 unfold Utf8.decode
 simp only [Nat.add_zero, get_cb]
 rw [if_pos h]
theorem decode_big {s : ByteArray} {i : Nat} (h : 128 ≤ cb s i) : 128 ≤ (Utf8.decode s i).1 ∧ 1 ≤ (Utf8.decode s i).2 ∧ ∀ j, i ≤ j → j < i + (Utf8.decode s i).2 → 128 ≤ cb s j := by
 unfold Utf8.decode
 simp only [Nat.add_zero, get_cb]
 rw [if_neg (by omega)]
 have one : ∀ j, i ≤ j → j < i + 1 → 128 ≤ cb s j := fun j h1 h2 => by rw [show j = i by omega]; exact h
 simp only [Utf8.runeError]
 split
 ·
  rename_i h1
  simp only [Bool.and_eq_true, decide_eq_true_eq, beq_iff_eq] at h1
  split
  ·
   rename_i h2
   refine ⟨h2, by omega, fun j h3 h4 => ?_⟩
   rcases (by omega : j = i ∨ j = i + 1) with e | e <;> subst e <;> simp only at h4 ⊢ <;> omega
  ·
   exact ⟨by omega, by omega, one⟩
 ·
  split
  ·
   rename_i h1
   simp only [Bool.and_eq_true, decide_eq_true_eq, beq_iff_eq] at h1
   split
   ·
    rename_i h2
    simp only [Bool.and_eq_true, decide_eq_true_eq] at h2
    refine ⟨by simp only; omega, by omega, fun j h3 h4 => ?_⟩
    rcases (by simp only at h4; omega : j = i ∨ j = i + 1 ∨ j = i + 2) with e | e | e <;> subst e <;> omega
   ·
    exact ⟨by omega, by omega, one⟩
  ·
   split
   ·
    rename_i h1
    simp only [Bool.and_eq_true, decide_eq_true_eq, beq_iff_eq] at h1
    split
    ·
     rename_i h2
     simp only [Bool.and_eq_true, decide_eq_true_eq] at h2
     refine ⟨by simp only; omega, by omega, fun j h3 h4 => ?_⟩
     rcases (by simp only at h4; omega : j = i ∨ j = i + 1 ∨ j = i + 2 ∨ j = i + 3) with e | e | e | e <;> subst e <;> omega
    ·
     exact ⟨by omega, by omega, one⟩
   ·
    exact ⟨by omega, by omega, one⟩
def firstNot (pb : Nat → Bool) (s : ByteArray) : Nat → Nat → Nat
 | 0, i => i
 | f + 1, i => if i < s.size then (if pb (cb s i) = true then firstNot pb s f (i + 1) else i) else i
def fn (pb : Nat → Bool) (s : ByteArray) (i : Nat) : Nat := firstNot pb s s.size i
theorem firstNot_more (pb : Nat → Bool) (s : ByteArray) : ∀ f i, s.size ≤ f + i → firstNot pb s (f + 1) i = firstNot pb s f i
 | 0, i, h => by simp only [firstNot]; rw [if_neg (by omega)]
 | f + 1, i, h => by
  conv => lhs; unfold firstNot
  conv => rhs; unfold firstNot
  rw [firstNot_more pb s f (i + 1) (by omega)]
theorem firstNot_any (pb : Nat → Bool) (s : ByteArray) (i : Nat) : ∀ d f, s.size ≤ f + i → firstNot pb s (f + d) i = firstNot pb s f i
 | 0, f, h => rfl
 | d + 1, f, h => by rw [← Nat.add_assoc, firstNot_more pb s (f + d) i (by omega), firstNot_any pb s i d f h]
theorem firstNot_fn (pb : Nat → Bool) (s : ByteArray) (f i : Nat) (h : s.size ≤ f + i) : firstNot pb s f i = fn pb s i := by
 unfold fn
 rcases Nat.le_total f s.size with h1 | h1
 ·
  obtain ⟨d, hd⟩ := Nat.exists_eq_add_of_le h1
  rw [hd] at h ⊢
  conv => rhs; rw [← hd]
  rw [show s.size = f + d from hd, firstNot_any pb s i d f (by omega)]
 ·
  obtain ⟨d, hd⟩ := Nat.exists_eq_add_of_le h1
  rw [hd, firstNot_any pb s i d s.size (by omega)]
theorem fn_yes {pb : Nat → Bool} {s : ByteArray} {i : Nat} (h : i < s.size) (hp : pb (cb s i) = true) : fn pb s i = fn pb s (i + 1) := by
 rw [← firstNot_fn pb s (s.size + 1) i (by omega)]
 unfold firstNot
 rw [if_pos h, if_pos hp]
 rfl
theorem fn_no {pb : Nat → Bool} {s : ByteArray} {i : Nat} (hp : i < s.size → pb (cb s i) = false) : fn pb s i = i := by
 rw [← firstNot_fn pb s (s.size + 1) i (by omega)]
 unfold firstNot
 by_cases h : i < s.size
 ·
  rw [if_pos h, if_neg (by rw [hp h]; simp)]
 ·
  rw [if_neg h]
theorem fn_ge (pb : Nat → Bool) (s : ByteArray) (i : Nat) : i ≤ fn pb s i := by
 have : ∀ f i, i ≤ firstNot pb s f i := by
  intro f
  induction f with
  | zero => intro i; exact Nat.le_refl _
  | succ f ih =>
   intro i
   unfold firstNot
   split
   ·
    split
    ·
     exact Nat.le_trans (Nat.le_succ i) (ih (i + 1))
    ·
     exact Nat.le_refl _
   ·
    exact Nat.le_refl _
 exact this _ _
theorem fn_le (pb : Nat → Bool) (s : ByteArray) (i : Nat) (h : i ≤ s.size) : fn pb s i ≤ s.size := by
 have : ∀ f i, i ≤ s.size → firstNot pb s f i ≤ s.size := by
  intro f
  induction f with
  | zero => intro i h; exact h
  | succ f ih =>
   intro i h
   unfold firstNot
   split
   ·
    split
    ·
     exact ih (i + 1) (by omega)
    ·
     exact h
   ·
    exact h
 exact this _ _ h
theorem fn_over {pb : Nat → Bool} {s : ByteArray} : ∀ (w i : Nat), (∀ j, i ≤ j → j < i + w → j < s.size ∧ pb (cb s j) = true) → fn pb s i = fn pb s (i + w)
 | 0, i, _ => rfl
 | w + 1, i, h => by
  rw [fn_yes (h i (Nat.le_refl _) (by omega)).1 (h i (Nat.le_refl _) (by omega)).2, fn_over w (i + 1) (fun j h1 h2 => h j (by omega) (by omega))]
  congr 1
  omega
def Goes (p pb : Nat → Bool) (s : ByteArray) : Prop := ∀ i, i < s.size → (p (Utf8.decode s i).1 = false → pb (cb s i) = false) ∧ (p (Utf8.decode s i).1 = true → ∀ j, i ≤ j → j < i + (Utf8.decode s i).2 → pb (cb s j) = true)
theorem goes_low {p pb : Nat → Bool} (h1 : ∀ b, b < 128 → p b = pb b) (h2 : ∀ r, 128 ≤ r → p r = false) (h3 : ∀ b, 128 ≤ b → pb b = false) (s : ByteArray) : Goes p pb s := by
 intro i hi
 by_cases h : cb s i < 128
 ·
  rw [decode_small h]
  exact ⟨fun e => (h1 _ h).symm.trans e, fun e j ha hb => by
   have e2 : j = i := Nat.le_antisymm (Nat.le_of_lt_succ hb) ha
   rw [e2]
   exact (h1 _ h).symm.trans e⟩
 ·
  have hd := decode_big (s := s) (i := i) (by omega)
  exact ⟨fun _ => h3 _ (by omega), fun e => by rw [h2 _ hd.1] at e; cases e⟩
theorem goes_high {p pb : Nat → Bool} (h1 : ∀ b, b < 128 → p b = pb b) (h2 : ∀ r, 128 ≤ r → p r = true) (h3 : ∀ b, 128 ≤ b → pb b = true) (s : ByteArray) : Goes p pb s := by
 intro i hi
 by_cases h : cb s i < 128
 ·
  rw [decode_small h]
  exact ⟨fun e => (h1 _ h).symm.trans e, fun e j ha hb => by
   have e2 : j = i := Nat.le_antisymm (Nat.le_of_lt_succ hb) ha
   rw [e2]
   exact (h1 _ h).symm.trans e⟩
 ·
  have hd := decode_big (s := s) (i := i) (by omega)
  exact ⟨fun e => (by rw [h2 _ hd.1] at e; cases e), fun _ j ha hb => h3 _ (hd.2.2 j ha hb)⟩
theorem idx_fn {p pb : Nat → Bool} {s : ByteArray} (hg : Goes p pb s) (h0 : pb 0 = false ∨ True) (a : Nat) : ∀ f pos, a + pos ≤ s.size → s.size ≤ f + (a + pos) →
  (fn pb s (a + pos) < s.size → Lib.idxFuncFrom p false (s.extract a s.size) f pos = ((fn pb s (a + pos) - a : Nat) : Int)) ∧ (s.size ≤ fn pb s (a + pos) → Lib.idxFuncFrom p false (s.extract a s.size) f pos = -1)
 | 0, pos, h1, h2 => by
  have e : fn pb s (a + pos) = a + pos := fn_no (fun h => by omega)
  rw [e]
  exact ⟨fun h => by omega, fun _ => rfl⟩
 | f + 1, pos, h1, h2 => by
  unfold Lib.idxFuncFrom
  rw [Lib.tail_decode s a pos, ByteArray.size_extract]
  by_cases hp : a + pos < s.size
  ·
   rw [if_pos (by omega)]
   obtain ⟨g1, g2⟩ := hg (a + pos) hp
   cases hpr : p (Utf8.decode s (a + pos)).1
   ·
    rw [if_pos rfl]
    have e : fn pb s (a + pos) = a + pos := fn_no (fun _ => g1 hpr)
    rw [e]
    exact ⟨fun _ => by congr 1; omega, fun h => by omega⟩
   ·
    rw [if_neg (by simp)]
    have hw : 1 ≤ (Utf8.decode s (a + pos)).2 := by
     by_cases h : cb s (a + pos) < 128
     ·
      rw [decode_small h]; exact Nat.le_refl _
     ·
      exact (decode_big (by omega)).2.1
    by_cases hin : a + pos + (Utf8.decode s (a + pos)).2 ≤ s.size
    ·
     have e := fn_over (pb := pb) (s := s) (Utf8.decode s (a + pos)).2 (a + pos) (fun j ha hb => ⟨by omega, g2 hpr j ha hb⟩)
     have ih := idx_fn hg h0 a f (pos + (Utf8.decode s (a + pos)).2) (by omega) (by omega)
     rw [← Nat.add_assoc, ← e] at ih
     exact ih
    ·
     exfalso
     have h3 := g2 hpr
     by_cases h : cb s (a + pos) < 128
     ·
      rw [decode_small h] at hin; simp only at hin; omega
     ·
      have hd := (decode_big (s := s) (i := a + pos) (by omega)).2.2 s.size (by omega) (by omega)
      rw [cb_out (Nat.le_refl _)] at hd
      omega
  ·
   rw [if_neg (by omega)]
   have e : fn pb s (a + pos) = a + pos := fn_no (fun h => by omega)
   rw [e]
   exact ⟨fun h => by omega, fun _ => rfl⟩
theorem run_fn {p pb : Nat → Bool} {s : ByteArray} (hg : Goes p pb s) (a : Nat) (ha : a ≤ s.size) (hs : s.size ≤ 1000) : runGen p s (a : Int) = some ((fn pb s a - a : Nat) : Int) := by
 unfold runGen
 rw [if_pos ⟨by omega, by omega, by omega⟩, Int.toNat_natCast]
 congr 1
 unfold runOf Lib.idxFunc
 obtain ⟨h1, h2⟩ := idx_fn hg (.inr trivial) a (s.extract a s.size).size 0 (by omega) (by rw [ByteArray.size_extract]; omega)
 simp only [Nat.add_zero] at h1 h2
 rcases Nat.lt_or_ge (fn pb s a) s.size with h | h
 ·
  rw [h1 h, if_neg (by omega)]
 ·
  rw [h2 h, if_pos (by omega), ByteArray.size_extract]
  have := fn_le pb s a ha
  congr 1
  omega
def blankB (b : Nat) : Bool := b == 32 || b == 9 || b == 10 || b == 13
def noteB (b : Nat) : Bool := b != 10
def wordc (b : Nat) : Bool := (decide (97 ≤ b) && decide (b ≤ 122)) || (decide (65 ≤ b) && decide (b ≤ 90)) || (decide (48 ≤ b) && decide (b ≤ 57)) || b == 95
theorem goes_blank (s : ByteArray) : Goes blankR blankB s := goes_low (p := blankR) (pb := blankB) (fun _ _ => rfl) (fun r h => by unfold blankR; simp; omega) (fun b h => by unfold blankB; simp; omega) s
theorem goes_note (s : ByteArray) : Goes noteR noteB s := goes_high (p := noteR) (pb := noteB) (fun _ _ => rfl) (fun r h => by unfold noteR; simp; omega) (fun b h => by unfold noteB; simp; omega) s
theorem goes_word (s : ByteArray) : Goes wordR wordc s := goes_low (p := wordR) (pb := wordc) (fun _ _ => rfl) (fun r h => by unfold wordR; simp; omega) (fun b h => by unfold wordc; simp; omega) s
inductive Sk (s : ByteArray) : Nat → Nat → Prop
 | blank {i j : Nat} : i < s.size → blankB (cb s i) = true → Sk s (i + 1) j → Sk s i j
 | note {i j : Nat} : cb s i = 45 → cb s (i + 1) = 45 → Sk s (fn noteB s i) j → Sk s i j
 | stop {i : Nat} : (i < s.size → blankB (cb s i) = false) → ¬ (cb s i = 45 ∧ cb s (i + 1) = 45) → Sk s i i
theorem note_gt {s : ByteArray} {i : Nat} (h : cb s i = 45) : i < fn noteB s i := by
 rw [fn_yes (cb_in (by omega)) (by rw [h]; rfl)]
 exact Nat.lt_of_lt_of_le (Nat.lt_succ_self i) (fn_ge _ _ _)
theorem Sk.le {s : ByteArray} {i j : Nat} (h : Sk s i j) (hi : i ≤ s.size) : i ≤ j ∧ j ≤ s.size := by
 induction h with
 | blank h1 _ _ ih => have := ih (by omega); omega
 | @note i j h1 h2 _ ih =>
  have g := note_gt h1
  have := ih (fn_le _ _ _ hi)
  omega
 | stop _ _ => exact ⟨Nat.le_refl _, hi⟩
theorem Sk.total (s : ByteArray) : ∀ (d i : Nat), s.size ≤ d + i → ∃ j, Sk s i j := by
 intro d
 induction d with
 | zero => intro i h; exact ⟨i, .stop (fun h => by omega) (fun h => by rw [cb_out (by omega)] at h; omega)⟩
 | succ d ih =>
  intro i h
  by_cases h1 : i < s.size ∧ blankB (cb s i) = true
  ·
   obtain ⟨j, hj⟩ := ih (i + 1) (by omega)
   exact ⟨j, .blank h1.1 h1.2 hj⟩
  ·
   by_cases h2 : cb s i = 45 ∧ cb s (i + 1) = 45
   ·
    obtain ⟨j, hj⟩ := ih (fn noteB s i) (by have := note_gt h2.1; omega)
    exact ⟨j, .note h2.1 h2.2 hj⟩
   ·
    exact ⟨i, .stop (fun h => by cases hb : blankB (cb s i) with | true => exact absurd ⟨h, hb⟩ h1 | false => rfl) h2⟩
end Go.Proofs.YtfaogccfiklinaaDoor.Pl
