/- Names and words: the program's and the document's are the same (turned from the lexer's texts of chapter 18). -/
import Derived.Test.YtdagddhccdchoaaDoorWeQx3
import Derived.Test.YtdagddhccdchoaaDoorWeJ10
import Derived.Test.YtdagddhccdchoaaDoorWeQx9
import Derived.Lib.RuneCountTail
set_option linter.unusedVariables false
set_option linter.unusedSimpArgs false
namespace Go.Proofs.YtdagddhccdchoaaDoor.Pl
open Go.RowKit Go.Proofs.YtdagddhccdchoaaDoorW.PrintWords
open Go.Proofs.YtdagddhccdchoaaDoor.Q
def cb (s : ByteArray) (i : Nat) : Nat := if h : i < s.size then (s[i]'h).toNat else 0
theorem bt_cb (s : ByteArray) (i : Nat) : bt s (i : Int) = (cb s i : Int) := by
 unfold bt cb
 simp only [Int.toNat_natCast]
 split <;> rfl
theorem wr {x : Int} (h : -1000000 ≤ x ∧ x ≤ 1000000) : wrap64 x = x := by unfold wrap64; omega
theorem get_cb (s : ByteArray) (i : Nat) : (s.get! i).toNat = cb s i := by
 unfold cb
 by_cases h : i < s.size
 ·
  rw [dif_pos h]
  congr 1
  show s.data[i]! = s.data[i]
  rw [getElem!_pos s.data i h]
 ·
  rw [dif_neg h]
  show (s.data[i]!).toNat = 0
  rw [getElem!_neg s.data i h]
  rfl
theorem decode_small {s : ByteArray} {i : Nat} (h : cb s i < 128) : Utf8.decode s i = (cb s i, 1) := by
 unfold Utf8.decode
 simp only [Nat.add_zero, get_cb]
 rw [if_pos h]
theorem decode_big {s : ByteArray} {i : Nat} (h : 128 ≤ cb s i) : 128 ≤ (Utf8.decode s i).1 ∧ 1 ≤ (Utf8.decode s i).2 ∧ ∀ j, i ≤ j → j < i + (Utf8.decode s i).2 → 128 ≤ cb s j := by
 unfold Utf8.decode
 simp only [Nat.add_zero, get_cb]
 rw [if_neg (by omega)]
 have one : ∀ j, i ≤ j → j < i + 1 → 128 ≤ cb s j := fun j h1 h2 => by rw [show j = i by omega]; exact h
 simp only [Utf8.runeError]
 split
 ·
  rename_i h1
  simp only [Bool.and_eq_true, decide_eq_true_eq, beq_iff_eq] at h1
  split
  ·
   rename_i h2
   refine ⟨h2, by omega, fun j h3 h4 => ?_⟩
   rcases (by omega : j = i ∨ j = i + 1) with e | e <;> subst e <;> simp only at h4 ⊢ <;> omega
  ·
   exact ⟨by omega, by omega, one⟩
 ·
  split
  ·
   rename_i h1
   simp only [Bool.and_eq_true, decide_eq_true_eq, beq_iff_eq] at h1
   split
   ·
    rename_i h2
    simp only [Bool.and_eq_true, decide_eq_true_eq] at h2
    refine ⟨by simp only; omega, by omega, fun j h3 h4 => ?_⟩
    rcases (by simp only at h4; omega : j = i ∨ j = i + 1 ∨ j = i + 2) with e | e | e <;> subst e <;> omega
   ·
    exact ⟨by omega, by omega, one⟩
  ·
   split
   ·
    rename_i h1
    simp only [Bool.and_eq_true, decide_eq_true_eq, beq_iff_eq] at h1
    split
    ·
     rename_i h2
     simp only [Bool.and_eq_true, decide_eq_true_eq] at h2
     refine ⟨by simp only; omega, by omega, fun j h3 h4 => ?_⟩
     rcases (by simp only at h4; omega : j = i ∨ j = i + 1 ∨ j = i + 2 ∨ j = i + 3) with e | e | e | e <;> subst e <;> omega
    ·
     exact ⟨by omega, by omega, one⟩
   ·
    exact ⟨by omega, by omega, one⟩
def okByte (b : Nat) : Bool := (decide (97 ≤ b) && decide (b ≤ 122)) || (decide (48 ≤ b) && decide (b ≤ 57)) || decide (b = 95)
theorem badRune_ok {b : Nat} : badRune b = !okByte b := by
 by_cases h1 : 97 ≤ b <;> by_cases h2 : b ≤ 122 <;> by_cases h3 : 48 ≤ b <;> by_cases h4 : b ≤ 57 <;> by_cases h5 : b = 95 <;> simp [badRune, okByte, h1, h2, h3, h4, h5] <;> omega
theorem bad_big {r : Nat} (h : 128 ≤ r) : badRune r = true := by
 rw [badRune_ok]; unfold okByte; simp; omega
def okFrom (s : ByteArray) : Nat → Nat → Bool
 | 0, _ => true
 | f + 1, pos => if pos < s.size then (okByte (cb s pos) && okFrom s f (pos + 1)) else true
theorem idx_ok (s : ByteArray) : ∀ f pos, s.size ≤ f + pos → (Lib.idxFuncFrom badRune true s f pos < 0 ↔ okFrom s f pos = true)
 | 0, pos, _ => by simp [Lib.idxFuncFrom, okFrom]
 | f + 1, pos, hf => by
  unfold Lib.idxFuncFrom okFrom
  by_cases hp : pos < s.size
  ·
   rw [if_pos hp, if_pos hp]
   by_cases h : cb s pos < 128
   ·
    rw [decode_small h]
    simp only [badRune_ok]
    cases ho : okByte (cb s pos)
    ·
     simp
    ·
     simp only [Bool.not_true, Bool.false_eq_true, if_false, Bool.true_and]
     exact idx_ok s f (pos + 1) (by omega)
   ·
    rw [if_pos (bad_big (decode_big (by omega)).1)]
    have : okByte (cb s pos) = false := by unfold okByte; simp; omega
    simp [this]
  ·
   rw [if_neg hp, if_neg hp]; simp
theorem okB {b : Nat} : okByte b = true ↔ (97 ≤ b ∧ b ≤ 122) ∨ (48 ≤ b ∧ b ≤ 57) ∨ b = 95 := by
 unfold okByte
 simp [or_assoc]
def words : List (List UInt8) := [[99, 114, 101, 97, 116, 101], [116, 97, 98, 108, 101], [112, 114, 105, 109, 97, 114, 121], [107, 101, 121], [105, 110, 115, 101, 114, 116], [105, 110, 116, 111], [118, 97, 108, 117, 101, 115], [117, 115, 105, 110, 103], [116, 105, 109, 101, 115, 116, 97, 109, 112], [99, 111, 110, 115, 105, 115, 116, 101, 110, 99, 121], [117, 112, 100, 97, 116, 101], [115, 101, 116], [119, 104, 101, 114, 101], [97, 110, 100], [100, 101, 108, 101, 116, 101], [102, 114, 111, 109], [115, 101, 108, 101, 99, 116], [108, 105, 109, 105, 116], [111, 110, 101], [113, 117, 111, 114, 117, 109], [97, 108, 108], [116, 101, 120, 116], [105, 110, 116]]
def WSL : List UInt8 := [32, 99, 114, 101, 97, 116, 101, 32, 116, 97, 98, 108, 101, 32, 112, 114, 105, 109, 97, 114, 121, 32, 107, 101, 121, 32, 105, 110, 115, 101, 114, 116, 32, 105, 110, 116, 111, 32, 118, 97, 108, 117, 101, 115, 32, 117, 115, 105, 110, 103, 32, 116, 105, 109, 101, 115, 116, 97, 109, 112, 32, 99, 111, 110, 115, 105, 115, 116, 101, 110, 99, 121, 32, 117, 112, 100, 97, 116, 101, 32, 115, 101, 116, 32, 119, 104, 101, 114, 101, 32, 97, 110, 100, 32, 100, 101, 108, 101, 116, 101, 32, 102, 114, 111, 109, 32, 115, 101, 108, 101, 99, 116, 32, 108, 105, 109, 105, 116, 32, 111, 110, 101, 32, 113, 117, 111, 114, 117, 109, 32, 97, 108, 108, 32, 116, 101, 120, 116, 32, 105, 110, 116, 32]
def fits (x : List UInt8) (i : Nat) : Bool := WSL.getD i 0 == 32 && ((WSL.drop (i + 1)).take x.length == x && WSL.getD (i + 1 + x.length) 0 == 32)
theorem cb_get (s : ByteArray) (i : Nat) : cb s i = (s.data.toList.getD i 0).toNat := by
 unfold cb
 by_cases h : i < s.size
 ·
  rw [dif_pos h, List.getD_eq_getElem?_getD, List.getElem?_eq_getElem (by rw [Array.length_toList]; exact h)]
  rfl
 ·
  rw [dif_neg h, List.getD_eq_getElem?_getD, List.getElem?_eq_none (by rw [Array.length_toList]; exact Nat.le_of_not_lt h)]
  rfl
theorem vocab_split : (Spl.split vocabS).map (fun w => w.data.toList) = words := by decide +kernel
theorem isWord_is (s : ByteArray) : isWord s = words.contains s.data.toList := by
 unfold isWord
 rw [← vocab_split, Bool.eq_iff_iff, List.any_eq_true, List.contains_iff_mem, List.mem_map]
 constructor
 ·
  rintro ⟨w, hw, h⟩
  have := beq_iff_eq.1 h
  rw [Lib.toList_data, Lib.toList_data] at this
  exact ⟨w, hw, this⟩
 ·
  rintro ⟨w, hw, h⟩
  exact ⟨w, hw, by rw [beq_iff_eq, Lib.toList_data, Lib.toList_data, h]⟩
end Go.Proofs.YtdagddhccdchoaaDoor.Pl
