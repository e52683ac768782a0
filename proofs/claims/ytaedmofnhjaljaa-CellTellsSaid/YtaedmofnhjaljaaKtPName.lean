/- A name is a name for both: the program's runes and the document's bytes. -/
import Derived.Test.YtaedmofnhjaljaaKtQx15
import Derived.Test.YtaedmofnhjaljaaKtP
namespace Go.Proofs.Ytaedmofnhjaljaa.Pl
open Go.RowKit Go.Proofs.YtaedmofnhjaljaaW.PrintWords
open Go.Proofs.Ytaedmofnhjaljaa.Q
def okByte (b : Nat) : Bool := (decide (97 ≤ b) && decide (b ≤ 122)) || (decide (48 ≤ b) && decide (b ≤ 57)) || decide (b = 95)
def byteAt (s : ByteArray) (i : Nat) : Nat := (s.get! i).toNat
def okFrom (s : ByteArray) : Nat → Nat → Bool
  | 0, _ => true
  | f + 1, pos => if pos < s.size then (okByte (byteAt s pos) && okFrom s f (pos + 1)) else true
theorem badRune_ok {b : Nat} : badRune b = !okByte b := by
  by_cases h1 : 97 ≤ b <;> by_cases h2 : b ≤ 122 <;> by_cases h3 : 48 ≤ b <;> by_cases h4 : b ≤ 57 <;> by_cases h5 : b = 95 <;> simp [badRune, okByte, h1, h2, h3, h4, h5] <;> omega
theorem decode_small {s : ByteArray} {i : Nat} (h : byteAt s i < 128) : Utf8.decode s i = (byteAt s i, 1) := by
  unfold Utf8.decode
  simp only [byteAt, Nat.add_zero] at h ⊢
  rw [if_pos (by exact h)]
theorem decode_big {s : ByteArray} {i : Nat} (h : ¬ byteAt s i < 128) : 128 ≤ (Utf8.decode s i).1 := by
  unfold Utf8.decode
  simp only [byteAt] at h
  simp only [Nat.add_zero]
  rw [if_neg (by exact h)]
  simp only [Utf8.runeError]
  repeat' split
  all_goals simp only
  all_goals first
    | omega
    | (rename_i h; have := of_decide_eq_true (Bool.and_eq_true_iff.1 h).1; omega)
    | (rename_i h; simp only [Bool.and_eq_true, decide_eq_true_eq] at h; omega)
theorem bad_big {r : Nat} (h : 128 ≤ r) : badRune r = true := by
  rw [badRune_ok]; simp [okByte]; omega
theorem idx_ok (s : ByteArray) : ∀ f pos, s.size ≤ f + pos → (Lib.idxFuncFrom badRune true s f pos < 0 ↔ okFrom s f pos = true)
  | 0, pos, _ => by simp [Lib.idxFuncFrom, okFrom]
  | f + 1, pos, hf => by
    unfold Lib.idxFuncFrom okFrom
    by_cases hp : pos < s.size
    · rw [if_pos hp, if_pos hp]
      by_cases h : byteAt s pos < 128
      · rw [decode_small h]
        simp only [badRune_ok]
        cases ho : okByte (byteAt s pos)
        · simp
        · simp only [Bool.not_true, Bool.false_eq_true, if_false, Bool.true_and]
          exact idx_ok s f (pos + 1) (by omega)
      · rw [if_pos (bad_big (decode_big h))]
        have : okByte (byteAt s pos) = false := by simp [okByte]; omega
        simp [this]
    · rw [if_neg hp, if_neg hp]; simp
theorem bt_byte {s : ByteArray} {i : Nat} (h : i < s.size) : bt s (i : Int) = (byteAt s i : Int) := by
  unfold bt byteAt
  rw [dif_pos (by simpa using h)]
  simp only [Int.toNat_natCast]
  congr 2
  show s.data[i] = s.data[i]!
  rw [getElem!_pos s.data i h]
theorem ref_loop (s : ByteArray) (hs : s.size ≤ 1000) : ∀ f pos, s.size ≤ f + pos → pos ≤ s.size → skerryref04_Name.l0 (f + 1) s (pos : Int) = some (okFrom s f pos)
  | 0, pos, hf, _ => by
    rw [skerryref04_Name.l0, if_neg (by omega)]; rfl
  | f + 1, pos, hf, hp => by
    rw [skerryref04_Name.l0]
    unfold okFrom
    by_cases h : pos < s.size
    · rw [if_pos (by omega), if_pos (by omega), if_pos h, bt_byte h]
      have hw : wrap64 ((pos : Int) + 1) = ((pos + 1 : Nat) : Int) := by
        rw [show ((pos : Int) + 1) = ((pos + 1 : Nat) : Int) by omega]
        unfold wrap64; omega
      rw [hw, ref_loop s hs f (pos + 1) (by omega) (by omega)]
      generalize byteAt s pos = b
      by_cases h1 : 97 ≤ b <;> by_cases h2 : b ≤ 122 <;> by_cases h3 : 48 ≤ b <;> by_cases h4 : b ≤ 57 <;> by_cases h5 : b = 95 <;>
        simp [okByte, h1, h2, h3, h4, h5, show ((b : Int) ≥ 97) = (97 ≤ b) by simp; omega, show ((b : Int) ≤ 122) = (b ≤ 122) by simp; omega,
          show ((b : Int) ≥ 48) = (48 ≤ b) by simp; omega, show ((b : Int) ≤ 57) = (b ≤ 57) by simp; omega, show ((b : Int) = 95) = (b = 95) by simp; omega] <;> omega
    · rw [if_neg (by omega), if_neg h]
theorem name_f (k : Nat) (hk : 30 ≤ k) (s : ByteArray) : skerryref04_Name.f k s = key_Name.f s := by
  obtain ⟨n, rfl⟩ : ∃ n, k = n + 30 := ⟨k - 30, by omega⟩
  unfold skerryref04_Name.f key_Name.f nameB
  by_cases h1 : (s.size : Int) < 1
  · rw [if_pos h1, skerryref04_Name.j0, if_pos rfl]
    have : ¬ 1 ≤ s.size := by omega
    simp [this]
  rw [if_neg h1]
  by_cases h2 : (s.size : Int) > 16
  · rw [if_pos h2, skerryref04_Name.j0, if_pos rfl]
    have : ¬ s.size ≤ 16 := by omega
    simp [this]
  rw [if_neg h2, if_pos (by omega)]
  by_cases h3 : bt s 0 < 97
  · rw [if_pos h3, skerryref04_Name.j0, if_pos rfl]
    have : ¬ 97 ≤ bt s 0 := by omega
    simp [this]
  rw [if_neg h3]
  by_cases h4 : bt s 0 > 122
  · rw [decide_eq_true h4, skerryref04_Name.j0, if_pos rfl]
    have : ¬ bt s 0 ≤ 122 := by omega
    simp [this]
  rw [decide_eq_false h4, skerryref04_Name.j0, if_neg (by simp)]
  have hl := ref_loop s (by omega) (n + 28) 0 (by omega) (by omega)
  simp only [Int.natCast_zero] at hl
  rw [show n + 29 = n + 28 + 1 by omega, hl]
  have hi := idx_ok s s.size 0 (by omega)
  have e : ∀ f g pos, s.size ≤ f + pos → s.size ≤ g + pos → okFrom s f pos = okFrom s g pos := by
    intro f
    induction f with
    | zero => intro g pos h1 h2; cases g <;> simp [okFrom]; omega
    | succ f ih =>
      intro g pos h1 h2
      cases g with
      | zero => simp [okFrom]; omega
      | succ g => simp only [okFrom]; rw [ih g (pos + 1) (by omega) (by omega)]
  rw [e (n + 28) s.size 0 (by omega) (by omega)]
  have : decide (Lib.idxFunc badRune true s < 0) = okFrom s s.size 0 := by
    unfold Lib.idxFunc
    cases h : okFrom s s.size 0
    · simp only [h, Bool.false_eq_true, iff_false] at hi; simpa using hi
    · exact decide_eq_true (hi.2 h)
  rw [this]
  have a1 : 1 ≤ s.size := by omega
  have a2 : s.size ≤ 16 := by omega
  have a3 : 97 ≤ bt s 0 := by omega
  have a4 : bt s 0 ≤ 122 := by omega
  simp [a1, a2, a3, a4]
end Go.Proofs.Ytaedmofnhjaljaa.Pl
