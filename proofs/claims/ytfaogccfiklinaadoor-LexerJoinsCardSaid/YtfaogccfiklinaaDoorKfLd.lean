/- Words, names and signs: both read the same. -/
import Derived.Test.YtfaogccfiklinaaDoorKfLc
import Derived.Test.YtfaogccfiklinaaDoorKfQx9
import Derived.Test.YtfaogccfiklinaaDoorKfQx10
import Derived.Test.YtfaogccfiklinaaDoorKfQx20
import Derived.Test.YtfaogccfiklinaaDoorKfJ14
import Derived.Test.YtfaogccfiklinaaDoorKfJ12
set_option linter.unusedVariables false
set_option linter.unusedSimpArgs false
namespace Go.Proofs.YtfaogccfiklinaaDoor.Pl
open Go.RowKit Go.Proofs.YtfaogccfiklinaaDoorW.PrintWords
open Go.Proofs.YtfaogccfiklinaaDoor.Q
def okByte (b : Nat) : Bool := (decide (97 ≤ b) && decide (b ≤ 122)) || (decide (48 ≤ b) && decide (b ≤ 57)) || decide (b = 95)
theorem badRune_ok {b : Nat} : badRune b = !okByte b := by
 by_cases h1 : 97 ≤ b <;> by_cases h2 : b ≤ 122 <;> by_cases h3 : 48 ≤ b <;> by_cases h4 : b ≤ 57 <;> by_cases h5 : b = 95 <;> simp [badRune, okByte, h1, h2, h3, h4, h5] <;> omega
theorem bad_big {r : Nat} (h : 128 ≤ r) : badRune r = true := by
 rw [badRune_ok]; unfold okByte; simp; omega
def okFrom (s : ByteArray) : Nat → Nat → Bool
 | 0, _ => true
 | f + 1, pos => if pos < s.size then (okByte (cb s pos) && okFrom s f (pos + 1)) else true
theorem idx_ok (s : ByteArray) : ∀ f pos, s.size ≤ f + pos → (Lib.idxFuncFrom badRune true s f pos < 0 ↔ okFrom s f pos = true)
 | 0, pos, _ => by simp [Lib.idxFuncFrom, okFrom]
 | f + 1, pos, hf => by
  unfold Lib.idxFuncFrom okFrom
  by_cases hp : pos < s.size
  ·
   rw [if_pos hp, if_pos hp]
   by_cases h : cb s pos < 128
   ·
    rw [decode_small h]
    simp only [badRune_ok]
    cases ho : okByte (cb s pos)
    ·
     simp
    ·
     simp only [Bool.not_true, Bool.false_eq_true, if_false, Bool.true_and]
     exact idx_ok s f (pos + 1) (by omega)
   ·
    rw [if_pos (bad_big (decode_big (by omega)).1)]
    have : okByte (cb s pos) = false := by unfold okByte; simp; omega
    simp [this]
  ·
   rw [if_neg hp, if_neg hp]; simp
theorem okB {b : Nat} : okByte b = true ↔ (97 ≤ b ∧ b ≤ 122) ∨ (48 ≤ b ∧ b ≤ 57) ∨ b = 95 := by
 unfold okByte
 simp [or_assoc]
theorem ref_loop (s : ByteArray) (hs : s.size ≤ 1000) : ∀ f pos, s.size ≤ f + pos → pos ≤ s.size → skerryref04_Name.l0 (f + 1) s (pos : Int) = some (okFrom s f pos)
 | 0, pos, hf, _ => by
  rw [skerryref04_Name.l0, if_neg (by omega)]; rfl
 | f + 1, pos, hf, hp => by
  rw [skerryref04_Name.l0]
  unfold okFrom
  by_cases h : pos < s.size
  ·
   rw [if_pos (by omega), if_pos (by omega), if_pos h, bt_cb]
   have hw : wrap64 ((pos : Int) + 1) = ((pos + 1 : Nat) : Int) := wr1 (by omega) 1 (by omega)
   rw [hw, ref_loop s hs f (pos + 1) (by omega) (by omega)]
   generalize cb s pos = b
   cases hok : okByte b with
   | true =>
    rw [okB] at hok
    rw [Bool.true_and]
    by_cases h1 : (b : Int) ≥ 97
    ·
     rw [if_pos h1]
     by_cases h2 : (b : Int) ≤ 122
     ·
      rw [if_pos h2]
     ·
      omega
    ·
     rw [if_neg h1]
     by_cases h3 : (b : Int) ≥ 48
     ·
      rw [if_pos h3]
      by_cases h4 : (b : Int) ≤ 57
      ·
       rw [if_pos h4]
      ·
       rw [if_neg h4, if_pos (by omega)]
     ·
      omega
   | false =>
    have hn : ¬ ((97 ≤ b ∧ b ≤ 122) ∨ (48 ≤ b ∧ b ≤ 57) ∨ b = 95) := by rw [← okB, hok]; simp
    rw [Bool.false_and]
    by_cases h1 : (b : Int) ≥ 97
    ·
     rw [if_pos h1, if_neg (by omega)]
     by_cases h3 : (b : Int) ≥ 48
     ·
      rw [if_pos h3, if_neg (by omega), if_neg (by omega)]
     ·
      rw [if_neg h3, if_neg (by omega)]
    ·
     rw [if_neg h1]
     by_cases h3 : (b : Int) ≥ 48
     ·
      rw [if_pos h3, if_neg (by omega), if_neg (by omega)]
     ·
      rw [if_neg h3, if_neg (by omega)]
  ·
   rw [if_neg (by omega), if_neg h]
theorem okFrom_any (s : ByteArray) : ∀ f g pos, s.size ≤ f + pos → s.size ≤ g + pos → okFrom s f pos = okFrom s g pos := by
 intro f
 induction f with
 | zero => intro g pos h1 h2; cases g with
  | zero => rfl
  | succ g => simp only [okFrom]; rw [if_neg (by omega)]
 | succ f ih =>
  intro g pos h1 h2
  cases g with
  | zero => simp only [okFrom]; rw [if_neg (by omega)]
  | succ g => simp only [okFrom]; rw [ih g (pos + 1) (by omega) (by omega)]
theorem name_f (k : Nat) (hk : 30 ≤ k) (s : ByteArray) : skerryref04_Name.f k s = some (nameB s) := by
 obtain ⟨n, rfl⟩ : ∃ n, k = n + 30 := ⟨k - 30, by omega⟩
 unfold skerryref04_Name.f nameB
 by_cases h1 : (s.size : Int) < 1
 ·
  rw [if_pos h1, skerryref04_Name.j0, if_pos rfl, decide_eq_false (show ¬ 1 ≤ s.size by omega)]; rfl
 rw [if_neg h1, decide_eq_true (show 1 ≤ s.size by omega)]
 by_cases h2 : (s.size : Int) > 16
 ·
  rw [if_pos h2, skerryref04_Name.j0, if_pos rfl, decide_eq_false (show ¬ s.size ≤ 16 by omega)]; rfl
 rw [if_neg h2, if_pos (by omega), decide_eq_true (show s.size ≤ 16 by omega)]
 by_cases h3 : bt s 0 < 97
 ·
  rw [if_pos h3, skerryref04_Name.j0, if_pos rfl, decide_eq_false (show ¬ 97 ≤ bt s 0 by omega)]; rfl
 rw [if_neg h3, decide_eq_true (show 97 ≤ bt s 0 by omega)]
 by_cases h4 : bt s 0 > 122
 ·
  rw [decide_eq_true h4, skerryref04_Name.j0, if_pos rfl, decide_eq_false (show ¬ bt s 0 ≤ 122 by omega)]; rfl
 rw [decide_eq_false h4, skerryref04_Name.j0, if_neg (by simp), decide_eq_true (show bt s 0 ≤ 122 by omega)]
 have hl := ref_loop s (by omega) (n + 28) 0 (by omega) (by omega)
 simp only [Int.natCast_zero] at hl
 rw [show n + 29 = n + 28 + 1 by omega, hl, okFrom_any s (n + 28) s.size 0 (by omega) (by omega)]
 have hi := idx_ok s s.size 0 (by omega)
 have : decide (Lib.idxFunc badRune true s < 0) = okFrom s s.size 0 := by
  unfold Lib.idxFunc
  cases h : okFrom s s.size 0
  ·
   simp only [h, Bool.false_eq_true, iff_false] at hi; simpa using hi
  ·
   exact decide_eq_true (hi.2 h)
 rw [this]
 rfl
theorem bytes_in (s : ByteArray) : ∀ x ∈ bytesOf s, ∃ b : Nat, b < 256 ∧ x = (b : Int) := by
 intro x hx
 unfold bytesOf at hx
 obtain ⟨y, _, rfl⟩ := List.mem_map.1 hx
 exact ⟨y.toNat, y.toNat_lt, rfl⟩
theorem mapB_congr {f g : Int → Int} (h : ∀ b : Fin 256, f (b.val : Int) = g (b.val : Int)) (s : ByteArray) : By.mapB f s = By.mapB g s := by
 unfold By.mapB
 congr 1
 refine List.map_congr_left (fun x hx => ?_)
 obtain ⟨b, hb, rfl⟩ := bytes_in s x hx
 exact h ⟨b, hb⟩
theorem casG_up (s : ByteArray) : By.mapB (casG 97 122) s = By.mapB upG s := mapB_congr (by decide +kernel) s
theorem casG_low (s : ByteArray) : By.mapB (casG 65 90) s = By.mapB lowG s := mapB_congr (by decide +kernel) s
theorem bytesOf_list (s : ByteArray) : bytesOf s = s.data.toList.map fun c => (c.toNat : Int) := rfl
def low8 (c : UInt8) : UInt8 := if 65 ≤ c ∧ c ≤ 90 then c + 32 else c
def up8 (c : UInt8) : UInt8 := if 97 ≤ c ∧ c ≤ 122 then c - 32 else c
theorem strOf_list (xs : List Int) : (strOfNums xs).data.toList = xs.map fun x => x.toNat.toUInt8 := by
 unfold strOfNums
 simp
theorem mapB_list (g : Int → Int) (h8 : UInt8 → UInt8) (hg : ∀ b : Fin 256, (g (b.val : Int)).toNat.toUInt8 = h8 b.val.toUInt8) (s : ByteArray) : (By.mapB g s).data.toList = s.data.toList.map h8 := by
 unfold By.mapB
 rw [strOf_list, bytesOf_list, List.map_map, List.map_map]
 refine List.map_congr_left (fun c _ => ?_)
 have := hg ⟨c.toNat, c.toNat_lt⟩
 simp only at this
 simp only [Function.comp]
 rw [this]
 congr 1
 exact UInt8.toNat_inj.1 (by simp)
theorem low_list (s : ByteArray) : (By.mapB lowG s).data.toList = s.data.toList.map low8 := mapB_list lowG low8 (by decide +kernel) s
theorem up_list (s : ByteArray) : (By.mapB upG s).data.toList = s.data.toList.map up8 := mapB_list upG up8 (by decide +kernel) s
theorem low_up : ∀ c : UInt8, low8 (up8 c) = low8 c := by
 have h : ∀ b : Fin 256, low8 (up8 b.val.toUInt8) = low8 b.val.toUInt8 := by decide +kernel
 intro c
 have := h ⟨c.toNat, c.toNat_lt⟩
 simp only at this
 rwa [show c.toNat.toUInt8 = c from UInt8.toNat_inj.1 (by simp)] at this
theorem up_low : ∀ c : UInt8, up8 (low8 c) = up8 c := by
 have h : ∀ b : Fin 256, up8 (low8 b.val.toUInt8) = up8 b.val.toUInt8 := by decide +kernel
 intro c
 have := h ⟨c.toNat, c.toNat_lt⟩
 simp only at this
 rwa [show c.toNat.toUInt8 = c from UInt8.toNat_inj.1 (by simp)] at this
def lowL (l : List UInt8) : List UInt8 := l.map low8
def upL (l : List UInt8) : List UInt8 := l.map up8
theorem lowL_upL (l : List UInt8) : lowL (upL l) = lowL l := by
 unfold lowL upL; rw [List.map_map]; exact List.map_congr_left (fun c _ => low_up c)
theorem upL_lowL (l : List UInt8) : upL (lowL l) = upL l := by
 unfold lowL upL; rw [List.map_map]; exact List.map_congr_left (fun c _ => up_low c)
def words : List (List UInt8) := [[99, 114, 101, 97, 116, 101], [116, 97, 98, 108, 101], [112, 114, 105, 109, 97, 114, 121], [107, 101, 121], [105, 110, 115, 101, 114, 116], [105, 110, 116, 111], [118, 97, 108, 117, 101, 115], [117, 115, 105, 110, 103], [116, 105, 109, 101, 115, 116, 97, 109, 112], [99, 111, 110, 115, 105, 115, 116, 101, 110, 99, 121], [117, 112, 100, 97, 116, 101], [115, 101, 116], [119, 104, 101, 114, 101], [97, 110, 100], [100, 101, 108, 101, 116, 101], [102, 114, 111, 109], [115, 101, 108, 101, 99, 116], [108, 105, 109, 105, 116], [111, 110, 101], [113, 117, 111, 114, 117, 109], [97, 108, 108], [116, 101, 120, 116], [105, 110, 116]]
def bigs : List (List UInt8) := [[67, 82, 69, 65, 84, 69], [84, 65, 66, 76, 69], [80, 82, 73, 77, 65, 82, 89], [75, 69, 89], [73, 78, 83, 69, 82, 84], [73, 78, 84, 79], [86, 65, 76, 85, 69, 83], [85, 83, 73, 78, 71], [84, 73, 77, 69, 83, 84, 65, 77, 80], [67, 79, 78, 83, 73, 83, 84, 69, 78, 67, 89], [85, 80, 68, 65, 84, 69], [83, 69, 84], [87, 72, 69, 82, 69], [65, 78, 68], [68, 69, 76, 69, 84, 69], [70, 82, 79, 77], [83, 69, 76, 69, 67, 84], [76, 73, 77, 73, 84], [79, 78, 69], [81, 85, 79, 82, 85, 77], [65, 76, 76], [84, 69, 88, 84], [73, 78, 84]]
theorem bigs_words : bigs = words.map upL := by decide +kernel
def isWord (l : List UInt8) : Bool := words.contains (lowL l)
theorem vocab_split : (Spl.split vocab).map (fun w => w.data.toList) = bigs := by decide +kernel
theorem wordB_is (s : ByteArray) : wordB s = isWord s.data.toList := by
 have e : wordB s = bigs.contains (upL s.data.toList) := by
  unfold wordB
  rw [← vocab_split, Bool.eq_iff_iff, List.any_eq_true, List.contains_iff_mem, List.mem_map]
  have hu : (upperB s).data.toList = upL s.data.toList := by unfold upperB; rw [casG_up, up_list]; rfl
  constructor
  ·
   rintro ⟨w, hw, h⟩
   refine ⟨w, hw, ?_⟩
   rw [← hu]
   have := beq_iff_eq.1 h
   rwa [Lib.toList_data, Lib.toList_data] at this
  ·
   rintro ⟨w, hw, h⟩
   refine ⟨w, hw, ?_⟩
   rw [beq_iff_eq, Lib.toList_data, Lib.toList_data, hu, h]
 rw [e]
 unfold isWord
 rw [Bool.eq_iff_iff, List.contains_iff_mem, List.contains_iff_mem, bigs_words, List.mem_map]
 constructor
 ·
  rintro ⟨w, hw, h⟩
  have h2 : lowL s.data.toList = w := by
   rw [← lowL_upL, ← h, lowL_upL]
   have : ∀ w ∈ words, lowL w = w := by decide +kernel
   exact this w hw
  rw [h2]; exact hw
 ·
  intro h
  exact ⟨_, h, upL_lowL _⟩
def WSL : List UInt8 := [32, 99, 114, 101, 97, 116, 101, 32, 116, 97, 98, 108, 101, 32, 112, 114, 105, 109, 97, 114, 121, 32, 107, 101, 121, 32, 105, 110, 115, 101, 114, 116, 32, 105, 110, 116, 111, 32, 118, 97, 108, 117, 101, 115, 32, 117, 115, 105, 110, 103, 32, 116, 105, 109, 101, 115, 116, 97, 109, 112, 32, 99, 111, 110, 115, 105, 115, 116, 101, 110, 99, 121, 32, 117, 112, 100, 97, 116, 101, 32, 115, 101, 116, 32, 119, 104, 101, 114, 101, 32, 97, 110, 100, 32, 100, 101, 108, 101, 116, 101, 32, 102, 114, 111, 109, 32, 115, 101, 108, 101, 99, 116, 32, 108, 105, 109, 105, 116, 32, 111, 110, 101, 32, 113, 117, 111, 114, 117, 109, 32, 97, 108, 108, 32, 116, 101, 120, 116, 32, 105, 110, 116, 32]
def WS : ByteArray := ⟨WSL.toArray⟩
def fits (x : List UInt8) (i : Nat) : Bool := WSL.getD i 0 == 32 && ((WSL.drop (i + 1)).take x.length == x && WSL.getD (i + 1 + x.length) 0 == 32)
theorem seg_words : ∀ i : Fin 143, WSL.getD i.val 0 = 32 → ∀ n : Fin 143, WSL.getD (i.val + 1 + n.val) 0 = 32 → ((WSL.drop (i.val + 1)).take n.val).contains 32 = true ∨ n.val = 0 ∨ words.contains ((WSL.drop (i.val + 1)).take n.val) = true := by decide +kernel
theorem word_fits : ∀ w ∈ words, 0 < w.length ∧ w.contains 32 = false ∧ ∃ i : Fin 143, i.val + w.length + 1 < 143 ∧ fits w i.val = true := by decide +kernel
end Go.Proofs.YtfaogccfiklinaaDoor.Pl
