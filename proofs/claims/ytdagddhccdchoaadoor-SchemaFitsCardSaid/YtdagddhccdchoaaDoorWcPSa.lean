/- Names and words: the program's and the document's are the same (turned from the lexer's texts of chapter 18). -/
import Derived.Test.YtdagddhccdchoaaDoorWcQx3
import Derived.Test.YtdagddhccdchoaaDoorWcQx0
import Derived.Test.YtdagddhccdchoaaDoorWcQx9
import Derived.Test.YtdagddhccdchoaaDoorWcQx10
import Derived.Lib.RuneCountTail
set_option linter.unusedVariables false
set_option linter.unusedSimpArgs false
namespace Go.Proofs.YtdagddhccdchoaaDoor.Pl
open Go.RowKit Go.Proofs.YtdagddhccdchoaaDoorW.PrintWords
open Go.Proofs.YtdagddhccdchoaaDoor.Q
def cb (s : ByteArray) (i : Nat) : Nat := if h : i < s.size then (s[i]'h).toNat else 0
theorem bt_cb (s : ByteArray) (i : Nat) : bt s (i : Int) = (cb s i : Int) := by
 unfold bt cb
 simp only [Int.toNat_natCast]
 split <;> rfl
theorem wr {x : Int} (h : -1000000 ≤ x ∧ x ≤ 1000000) : wrap64 x = x := by unfold wrap64; omega
theorem wr1 {n : Nat} (h : n ≤ 10000) (m : Nat) (hm : m ≤ 1000) : wrap64 ((n : Int) + (m : Int)) = ((n + m : Nat) : Int) := by rw [wr (by omega)]; omega
theorem get_cb (s : ByteArray) (i : Nat) : (s.get! i).toNat = cb s i := by
 unfold cb
 by_cases h : i < s.size
 ·
  rw [dif_pos h]
  congr 1
  show s.data[i]! = s.data[i]
  rw [getElem!_pos s.data i h]
 ·
  rw [dif_neg h]
  show (s.data[i]!).toNat = 0
  rw [getElem!_neg s.data i h]
  rfl
theorem decode_small {s : ByteArray} {i : Nat} (h : cb s i < 128) : Utf8.decode s i = (cb s i, 1) := by
 unfold Utf8.decode
 simp only [Nat.add_zero, get_cb]
 rw [if_pos h]
theorem decode_big {s : ByteArray} {i : Nat} (h : 128 ≤ cb s i) : 128 ≤ (Utf8.decode s i).1 ∧ 1 ≤ (Utf8.decode s i).2 ∧ ∀ j, i ≤ j → j < i + (Utf8.decode s i).2 → 128 ≤ cb s j := by
 unfold Utf8.decode
 simp only [Nat.add_zero, get_cb]
 rw [if_neg (by omega)]
 have one : ∀ j, i ≤ j → j < i + 1 → 128 ≤ cb s j := fun j h1 h2 => by rw [show j = i by omega]; exact h
 simp only [Utf8.runeError]
 split
 ·
  rename_i h1
  simp only [Bool.and_eq_true, decide_eq_true_eq, beq_iff_eq] at h1
  split
  ·
   rename_i h2
   refine ⟨h2, by omega, fun j h3 h4 => ?_⟩
   rcases (by omega : j = i ∨ j = i + 1) with e | e <;> subst e <;> simp only at h4 ⊢ <;> omega
  ·
   exact ⟨by omega, by omega, one⟩
 ·
  split
  ·
   rename_i h1
   simp only [Bool.and_eq_true, decide_eq_true_eq, beq_iff_eq] at h1
   split
   ·
    rename_i h2
    simp only [Bool.and_eq_true, decide_eq_true_eq] at h2
    refine ⟨by simp only; omega, by omega, fun j h3 h4 => ?_⟩
    rcases (by simp only at h4; omega : j = i ∨ j = i + 1 ∨ j = i + 2) with e | e | e <;> subst e <;> omega
   ·
    exact ⟨by omega, by omega, one⟩
  ·
   split
   ·
    rename_i h1
    simp only [Bool.and_eq_true, decide_eq_true_eq, beq_iff_eq] at h1
    split
    ·
     rename_i h2
     simp only [Bool.and_eq_true, decide_eq_true_eq] at h2
     refine ⟨by simp only; omega, by omega, fun j h3 h4 => ?_⟩
     rcases (by simp only at h4; omega : j = i ∨ j = i + 1 ∨ j = i + 2 ∨ j = i + 3) with e | e | e | e <;> subst e <;> omega
    ·
     exact ⟨by omega, by omega, one⟩
   ·
    exact ⟨by omega, by omega, one⟩
def okByte (b : Nat) : Bool := (decide (97 ≤ b) && decide (b ≤ 122)) || (decide (48 ≤ b) && decide (b ≤ 57)) || decide (b = 95)
theorem badRune_ok {b : Nat} : badRune b = !okByte b := by
 by_cases h1 : 97 ≤ b <;> by_cases h2 : b ≤ 122 <;> by_cases h3 : 48 ≤ b <;> by_cases h4 : b ≤ 57 <;> by_cases h5 : b = 95 <;> simp [badRune, okByte, h1, h2, h3, h4, h5] <;> omega
theorem bad_big {r : Nat} (h : 128 ≤ r) : badRune r = true := by
 rw [badRune_ok]; unfold okByte; simp; omega
def okFrom (s : ByteArray) : Nat → Nat → Bool
 | 0, _ => true
 | f + 1, pos => if pos < s.size then (okByte (cb s pos) && okFrom s f (pos + 1)) else true
theorem idx_ok (s : ByteArray) : ∀ f pos, s.size ≤ f + pos → (Lib.idxFuncFrom badRune true s f pos < 0 ↔ okFrom s f pos = true)
 | 0, pos, _ => by simp [Lib.idxFuncFrom, okFrom]
 | f + 1, pos, hf => by
  unfold Lib.idxFuncFrom okFrom
  by_cases hp : pos < s.size
  ·
   rw [if_pos hp, if_pos hp]
   by_cases h : cb s pos < 128
   ·
    rw [decode_small h]
    simp only [badRune_ok]
    cases ho : okByte (cb s pos)
    ·
     simp
    ·
     simp only [Bool.not_true, Bool.false_eq_true, if_false, Bool.true_and]
     exact idx_ok s f (pos + 1) (by omega)
   ·
    rw [if_pos (bad_big (decode_big (by omega)).1)]
    have : okByte (cb s pos) = false := by unfold okByte; simp; omega
    simp [this]
  ·
   rw [if_neg hp, if_neg hp]; simp
theorem okB {b : Nat} : okByte b = true ↔ (97 ≤ b ∧ b ≤ 122) ∨ (48 ≤ b ∧ b ≤ 57) ∨ b = 95 := by
 unfold okByte
 simp [or_assoc]
theorem ref_loop (s : ByteArray) (hs : s.size ≤ 1000) : ∀ f pos, s.size ≤ f + pos → pos ≤ s.size → skerryref04_Name.l0 (f + 1) s (pos : Int) = some (okFrom s f pos)
 | 0, pos, hf, _ => by
  rw [skerryref04_Name.l0, if_neg (by omega)]; rfl
 | f + 1, pos, hf, hp => by
  rw [skerryref04_Name.l0]
  unfold okFrom
  by_cases h : pos < s.size
  ·
   rw [if_pos (by omega), if_pos (by omega), if_pos h, bt_cb]
   have hw : wrap64 ((pos : Int) + 1) = ((pos + 1 : Nat) : Int) := wr1 (by omega) 1 (by omega)
   rw [hw, ref_loop s hs f (pos + 1) (by omega) (by omega)]
   generalize cb s pos = b
   cases hok : okByte b with
   | true =>
    rw [okB] at hok
    rw [Bool.true_and]
    by_cases h1 : (b : Int) ≥ 97
    ·
     rw [if_pos h1]
     by_cases h2 : (b : Int) ≤ 122
     ·
      rw [if_pos h2]
     ·
      omega
    ·
     rw [if_neg h1]
     by_cases h3 : (b : Int) ≥ 48
     ·
      rw [if_pos h3]
      by_cases h4 : (b : Int) ≤ 57
      ·
       rw [if_pos h4]
      ·
       rw [if_neg h4, if_pos (by omega)]
     ·
      omega
   | false =>
    have hn : ¬ ((97 ≤ b ∧ b ≤ 122) ∨ (48 ≤ b ∧ b ≤ 57) ∨ b = 95) := by rw [← okB, hok]; simp
    rw [Bool.false_and]
    by_cases h1 : (b : Int) ≥ 97
    ·
     rw [if_pos h1, if_neg (by omega)]
     by_cases h3 : (b : Int) ≥ 48
     ·
      rw [if_pos h3, if_neg (by omega), if_neg (by omega)]
     ·
      rw [if_neg h3, if_neg (by omega)]
    ·
     rw [if_neg h1]
     by_cases h3 : (b : Int) ≥ 48
     ·
      rw [if_pos h3, if_neg (by omega), if_neg (by omega)]
     ·
      rw [if_neg h3, if_neg (by omega)]
  ·
   rw [if_neg (by omega), if_neg h]
theorem okFrom_any (s : ByteArray) : ∀ f g pos, s.size ≤ f + pos → s.size ≤ g + pos → okFrom s f pos = okFrom s g pos := by
 intro f
 induction f with
 | zero => intro g pos h1 h2; cases g with
  | zero => rfl
  | succ g => simp only [okFrom]; rw [if_neg (by omega)]
 | succ f ih =>
  intro g pos h1 h2
  cases g with
  | zero => simp only [okFrom]; rw [if_neg (by omega)]
  | succ g => simp only [okFrom]; rw [ih g (pos + 1) (by omega) (by omega)]
theorem name_f (k : Nat) (hk : 30 ≤ k) (s : ByteArray) : skerryref04_Name.f k s = some (nameB s) := by
 obtain ⟨n, rfl⟩ : ∃ n, k = n + 30 := ⟨k - 30, by omega⟩
 unfold skerryref04_Name.f nameB
 by_cases h1 : (s.size : Int) < 1
 ·
  rw [if_pos h1, skerryref04_Name.j0, if_pos rfl, decide_eq_false (show ¬ 1 ≤ s.size by omega)]; rfl
 rw [if_neg h1, decide_eq_true (show 1 ≤ s.size by omega)]
 by_cases h2 : (s.size : Int) > 16
 ·
  rw [if_pos h2, skerryref04_Name.j0, if_pos rfl, decide_eq_false (show ¬ s.size ≤ 16 by omega)]; rfl
 rw [if_neg h2, if_pos (by omega), decide_eq_true (show s.size ≤ 16 by omega)]
 by_cases h3 : bt s 0 < 97
 ·
  rw [if_pos h3, skerryref04_Name.j0, if_pos rfl, decide_eq_false (show ¬ 97 ≤ bt s 0 by omega)]; rfl
 rw [if_neg h3, decide_eq_true (show 97 ≤ bt s 0 by omega)]
 by_cases h4 : bt s 0 > 122
 ·
  rw [decide_eq_true h4, skerryref04_Name.j0, if_pos rfl, decide_eq_false (show ¬ bt s 0 ≤ 122 by omega)]; rfl
 rw [decide_eq_false h4, skerryref04_Name.j0, if_neg (by simp), decide_eq_true (show bt s 0 ≤ 122 by omega)]
 have hl := ref_loop s (by omega) (n + 28) 0 (by omega) (by omega)
 simp only [Int.natCast_zero] at hl
 rw [show n + 29 = n + 28 + 1 by omega, hl, okFrom_any s (n + 28) s.size 0 (by omega) (by omega)]
 have hi := idx_ok s s.size 0 (by omega)
 have : decide (Lib.idxFunc badRune true s < 0) = okFrom s s.size 0 := by
  unfold Lib.idxFunc
  cases h : okFrom s s.size 0
  ·
   simp only [h, Bool.false_eq_true, iff_false] at hi; simpa using hi
  ·
   exact decide_eq_true (hi.2 h)
 rw [this]
 rfl
def words : List (List UInt8) := [[99, 114, 101, 97, 116, 101], [116, 97, 98, 108, 101], [112, 114, 105, 109, 97, 114, 121], [107, 101, 121], [105, 110, 115, 101, 114, 116], [105, 110, 116, 111], [118, 97, 108, 117, 101, 115], [117, 115, 105, 110, 103], [116, 105, 109, 101, 115, 116, 97, 109, 112], [99, 111, 110, 115, 105, 115, 116, 101, 110, 99, 121], [117, 112, 100, 97, 116, 101], [115, 101, 116], [119, 104, 101, 114, 101], [97, 110, 100], [100, 101, 108, 101, 116, 101], [102, 114, 111, 109], [115, 101, 108, 101, 99, 116], [108, 105, 109, 105, 116], [111, 110, 101], [113, 117, 111, 114, 117, 109], [97, 108, 108], [116, 101, 120, 116], [105, 110, 116]]
def WSL : List UInt8 := [32, 99, 114, 101, 97, 116, 101, 32, 116, 97, 98, 108, 101, 32, 112, 114, 105, 109, 97, 114, 121, 32, 107, 101, 121, 32, 105, 110, 115, 101, 114, 116, 32, 105, 110, 116, 111, 32, 118, 97, 108, 117, 101, 115, 32, 117, 115, 105, 110, 103, 32, 116, 105, 109, 101, 115, 116, 97, 109, 112, 32, 99, 111, 110, 115, 105, 115, 116, 101, 110, 99, 121, 32, 117, 112, 100, 97, 116, 101, 32, 115, 101, 116, 32, 119, 104, 101, 114, 101, 32, 97, 110, 100, 32, 100, 101, 108, 101, 116, 101, 32, 102, 114, 111, 109, 32, 115, 101, 108, 101, 99, 116, 32, 108, 105, 109, 105, 116, 32, 111, 110, 101, 32, 113, 117, 111, 114, 117, 109, 32, 97, 108, 108, 32, 116, 101, 120, 116, 32, 105, 110, 116, 32]
def fits (x : List UInt8) (i : Nat) : Bool := WSL.getD i 0 == 32 && ((WSL.drop (i + 1)).take x.length == x && WSL.getD (i + 1 + x.length) 0 == 32)
theorem vocab_split : (Spl.split vocabS).map (fun w => w.data.toList) = words := by decide +kernel
theorem isWord_is (s : ByteArray) : isWord s = words.contains s.data.toList := by
 unfold isWord
 rw [← vocab_split, Bool.eq_iff_iff, List.any_eq_true, List.contains_iff_mem, List.mem_map]
 constructor
 ·
  rintro ⟨w, hw, h⟩
  have := beq_iff_eq.1 h
  rw [Lib.toList_data, Lib.toList_data] at this
  exact ⟨w, hw, this⟩
 ·
  rintro ⟨w, hw, h⟩
  exact ⟨w, hw, by rw [beq_iff_eq, Lib.toList_data, Lib.toList_data, h]⟩
end Go.Proofs.YtdagddhccdchoaaDoor.Pl
