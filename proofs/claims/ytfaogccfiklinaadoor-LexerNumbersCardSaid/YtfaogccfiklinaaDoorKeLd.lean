/- Words, names and signs: both read the same. -/
import Derived.Test.YtfaogccfiklinaaDoorKeLc
import Derived.Test.YtfaogccfiklinaaDoorKeQx9
import Derived.Test.YtfaogccfiklinaaDoorKeQx10
import Derived.Test.YtfaogccfiklinaaDoorKeQx0
import Derived.Test.YtfaogccfiklinaaDoorKeJ12
set_option linter.unusedVariables false
set_option linter.unusedSimpArgs false
namespace Go.Proofs.YtfaogccfiklinaaDoor.Pl
open Go.RowKit Go.Proofs.YtfaogccfiklinaaDoorW.PrintWords
open Go.Proofs.YtfaogccfiklinaaDoor.Q
theorem bytes_in (s : ByteArray) : ∀ x ∈ bytesOf s, ∃ b : Nat, b < 256 ∧ x = (b : Int) := by
 intro x hx
 unfold bytesOf at hx
 obtain ⟨y, _, rfl⟩ := List.mem_map.1 hx
 exact ⟨y.toNat, y.toNat_lt, rfl⟩
theorem mapB_congr {f g : Int → Int} (h : ∀ b : Fin 256, f (b.val : Int) = g (b.val : Int)) (s : ByteArray) : By.mapB f s = By.mapB g s := by
 unfold By.mapB
 congr 1
 refine List.map_congr_left (fun x hx => ?_)
 obtain ⟨b, hb, rfl⟩ := bytes_in s x hx
 exact h ⟨b, hb⟩
theorem casG_up (s : ByteArray) : By.mapB (casG 97 122) s = By.mapB upG s := mapB_congr (by decide +kernel) s
theorem casG_low (s : ByteArray) : By.mapB (casG 65 90) s = By.mapB lowG s := mapB_congr (by decide +kernel) s
theorem bytesOf_list (s : ByteArray) : bytesOf s = s.data.toList.map fun c => (c.toNat : Int) := rfl
def low8 (c : UInt8) : UInt8 := if 65 ≤ c ∧ c ≤ 90 then c + 32 else c
def up8 (c : UInt8) : UInt8 := if 97 ≤ c ∧ c ≤ 122 then c - 32 else c
theorem strOf_list (xs : List Int) : (strOfNums xs).data.toList = xs.map fun x => x.toNat.toUInt8 := by
 unfold strOfNums
 simp
theorem mapB_list (g : Int → Int) (h8 : UInt8 → UInt8) (hg : ∀ b : Fin 256, (g (b.val : Int)).toNat.toUInt8 = h8 b.val.toUInt8) (s : ByteArray) : (By.mapB g s).data.toList = s.data.toList.map h8 := by
 unfold By.mapB
 rw [strOf_list, bytesOf_list, List.map_map, List.map_map]
 refine List.map_congr_left (fun c _ => ?_)
 have := hg ⟨c.toNat, c.toNat_lt⟩
 simp only at this
 simp only [Function.comp]
 rw [this]
 congr 1
 exact UInt8.toNat_inj.1 (by simp)
theorem up_list (s : ByteArray) : (By.mapB upG s).data.toList = s.data.toList.map up8 := mapB_list upG up8 (by decide +kernel) s
theorem low_up : ∀ c : UInt8, low8 (up8 c) = low8 c := by
 have h : ∀ b : Fin 256, low8 (up8 b.val.toUInt8) = low8 b.val.toUInt8 := by decide +kernel
 intro c
 have := h ⟨c.toNat, c.toNat_lt⟩
 simp only at this
 rwa [show c.toNat.toUInt8 = c from UInt8.toNat_inj.1 (by simp)] at this
theorem up_low : ∀ c : UInt8, up8 (low8 c) = up8 c := by
 have h : ∀ b : Fin 256, up8 (low8 b.val.toUInt8) = up8 b.val.toUInt8 := by decide +kernel
 intro c
 have := h ⟨c.toNat, c.toNat_lt⟩
 simp only at this
 rwa [show c.toNat.toUInt8 = c from UInt8.toNat_inj.1 (by simp)] at this
def lowL (l : List UInt8) : List UInt8 := l.map low8
def upL (l : List UInt8) : List UInt8 := l.map up8
theorem lowL_upL (l : List UInt8) : lowL (upL l) = lowL l := by
 unfold lowL upL; rw [List.map_map]; exact List.map_congr_left (fun c _ => low_up c)
theorem upL_lowL (l : List UInt8) : upL (lowL l) = upL l := by
 unfold lowL upL; rw [List.map_map]; exact List.map_congr_left (fun c _ => up_low c)
def words : List (List UInt8) := [[99, 114, 101, 97, 116, 101], [116, 97, 98, 108, 101], [112, 114, 105, 109, 97, 114, 121], [107, 101, 121], [105, 110, 115, 101, 114, 116], [105, 110, 116, 111], [118, 97, 108, 117, 101, 115], [117, 115, 105, 110, 103], [116, 105, 109, 101, 115, 116, 97, 109, 112], [99, 111, 110, 115, 105, 115, 116, 101, 110, 99, 121], [117, 112, 100, 97, 116, 101], [115, 101, 116], [119, 104, 101, 114, 101], [97, 110, 100], [100, 101, 108, 101, 116, 101], [102, 114, 111, 109], [115, 101, 108, 101, 99, 116], [108, 105, 109, 105, 116], [111, 110, 101], [113, 117, 111, 114, 117, 109], [97, 108, 108], [116, 101, 120, 116], [105, 110, 116]]
def bigs : List (List UInt8) := [[67, 82, 69, 65, 84, 69], [84, 65, 66, 76, 69], [80, 82, 73, 77, 65, 82, 89], [75, 69, 89], [73, 78, 83, 69, 82, 84], [73, 78, 84, 79], [86, 65, 76, 85, 69, 83], [85, 83, 73, 78, 71], [84, 73, 77, 69, 83, 84, 65, 77, 80], [67, 79, 78, 83, 73, 83, 84, 69, 78, 67, 89], [85, 80, 68, 65, 84, 69], [83, 69, 84], [87, 72, 69, 82, 69], [65, 78, 68], [68, 69, 76, 69, 84, 69], [70, 82, 79, 77], [83, 69, 76, 69, 67, 84], [76, 73, 77, 73, 84], [79, 78, 69], [81, 85, 79, 82, 85, 77], [65, 76, 76], [84, 69, 88, 84], [73, 78, 84]]
theorem bigs_words : bigs = words.map upL := by decide +kernel
def isWord (l : List UInt8) : Bool := words.contains (lowL l)
theorem vocab_split : (Spl.split vocab).map (fun w => w.data.toList) = bigs := by decide +kernel
theorem wordB_is (s : ByteArray) : wordB s = isWord s.data.toList := by
 have e : wordB s = bigs.contains (upL s.data.toList) := by
  unfold wordB
  rw [← vocab_split, Bool.eq_iff_iff, List.any_eq_true, List.contains_iff_mem, List.mem_map]
  have hu : (upperB s).data.toList = upL s.data.toList := by unfold upperB; rw [casG_up, up_list]; rfl
  constructor
  ·
   rintro ⟨w, hw, h⟩
   refine ⟨w, hw, ?_⟩
   rw [← hu]
   have := beq_iff_eq.1 h
   rwa [Lib.toList_data, Lib.toList_data] at this
  ·
   rintro ⟨w, hw, h⟩
   refine ⟨w, hw, ?_⟩
   rw [beq_iff_eq, Lib.toList_data, Lib.toList_data, hu, h]
 rw [e]
 unfold isWord
 rw [Bool.eq_iff_iff, List.contains_iff_mem, List.contains_iff_mem, bigs_words, List.mem_map]
 constructor
 ·
  rintro ⟨w, hw, h⟩
  have h2 : lowL s.data.toList = w := by
   rw [← lowL_upL, ← h, lowL_upL]
   have : ∀ w ∈ words, lowL w = w := by decide +kernel
   exact this w hw
  rw [h2]; exact hw
 ·
  intro h
  exact ⟨_, h, upL_lowL _⟩
end Go.Proofs.YtfaogccfiklinaaDoor.Pl
