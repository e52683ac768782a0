/- '[]byte(s)', rewritten byte by byte in place: what is told of its row on the way. -/
import Derived.Test.YtojgecnhhaelkaaDoorProg
import Derived.Test.YtojgecnhhaelkaaDoorXnJ5
import Derived.Lib.Hide
import Derived.Outline
namespace Go.Proofs.YtojgecnhhaelkaaDoor.By
open Go Go.RowKit Go.Lib Go.Proofs Go.Proofs.YtojgecnhhaelkaaDoorW.PrintWords
set_option linter.unusedVariables false
set_option linter.unusedSimpArgs false
structure RowB (w : World) (B : Nat) (ys : List Int) : Prop where
 cell : ∀ j y, ys[j]? = some y → w.cell? ⟨B, j, none⟩ = some (.int .u8 y)
 free : ∀ j, j < ys.length → w.frozen? ⟨B, j, none⟩ = false
theorem bytesOf_get (s : ByteArray) (j : Nat) (hj : j < s.size) : (bytesOf s)[j]? = some ((s.data.toList.getD j 0).toNat : Int) := by
 have h' : j < s.data.toList.length := by rw [Array.length_toList]; exact hj
 simp [bytesOf, List.getD_eq_getElem?_getD, List.getElem?_eq_getElem h']
theorem RowB.made (w : World) (e : TypeId) (s : ByteArray) : RowB (Lib.bytesWorld w e s) w.heap.size (bytesOf s) := by
 refine ⟨fun j y hy => ?_, fun j hj => ?_⟩
 ·
  have hj : j < s.size := by have := (List.getElem?_eq_some_iff.1 hy).1; rw [bytesOf_length] at this; exact this
  rw [Lib.bytesWorld_cell w e s j hj]
  rw [bytesOf_get s j hj] at hy
  rw [Option.some.inj hy]
 ·
  rw [bytesOf_length] at hj
  unfold World.frozen?
  rw [Lib.bytesWorld_at_new]
  have h1 : s.size ≤ (Lib.bytesCells w e s).size := by
   simp only [Lib.bytesCells, Array.size_append, Array.size_map]
   show s.data.size ≤ _
   omega
  have h2 : ¬ (Lib.bytesCells w e s).size ≤ j := by omega
  simp [h2]
theorem RowB.below {w w' : World} {B : Nat} {ys : List Int} (h : RowB w B ys) (hB : B < w.heap.size) (hb : Below w.heap.size w w') : RowB w' B ys :=
 ⟨fun j y hy => (hb.cell (p := ⟨B, j, none⟩) hB).trans (h.cell j y hy), fun j hj => (hb.frozen (p := ⟨B, j, none⟩) hB).trans (h.free j hj)⟩
theorem RowB.set {w : World} {B : Nat} {ys : List Int} (h : RowB w B ys) (i : Nat) (x : Int) (hi : i < ys.length) : RowB (w.setCell ⟨B, i, none⟩ (.int .u8 x)) B (ys.set i x) := by
 refine ⟨fun j y hy => ?_, fun j hj => ?_⟩
 ·
  by_cases e : i = j
  ·
   subst e
   rw [List.getElem?_set_self hi] at hy
   rw [← Option.some.inj hy]
   exact World.cell?_setCell_same w _ _ (h.cell i _ (List.getElem?_eq_getElem hi))
  ·
   rw [List.getElem?_set_ne e] at hy
   rw [World.cell?_setCell_other w _ _ _ (fun e2 => e (by injection e2))]
   exact h.cell j y hy
 ·
  rw [World.frozen?_setCell]
  exact h.free j (by simpa using hj)
theorem RowB.string {P : Program} {w : World} {B : Nat} {ys : List Int} (h : RowB w B ys) (src e dst : TypeId) (hs : P.underlying src = some (.slice e)) (he : P.underlying e = some (.int .u8)) (hd : P.underlying dst = some .string) (cap : Nat) :
  (convert src dst (.slice (some ⟨B, 0, none⟩) ys.length cap)).run P w = .ok (.string (strOfNums ys)) w :=
 run_convert_bytes_arg w src e hs he B 0 ys.length cap ys rfl (fun i hi => by
  rw [Nat.zero_add, h.cell i _ (List.getElem?_eq_getElem hi), List.getD_eq_getElem?_getD, List.getElem?_eq_getElem hi]; rfl) dst hd
def upto (g : Int → Int) (l : List Int) (i : Nat) : List Int := (l.take i).map g ++ l.drop i
theorem upto_length (g : Int → Int) (l : List Int) (i : Nat) : (upto g l i).length = l.length := by
 simp only [upto, List.length_append, List.length_map, List.length_take, List.length_drop]; omega
theorem upto_get (g : Int → Int) (l : List Int) (i : Nat) (y : Int) (h : l[i]? = some y) : (upto g l i)[i]? = some y := by
 have hi := (List.getElem?_eq_some_iff.1 h).1
 unfold upto
 rw [List.getElem?_append_right (by simp; omega)]
 simp [List.getElem?_drop, Nat.min_eq_left (Nat.le_of_lt hi), h]
theorem upto_snoc (g : Int → Int) (l : List Int) (i : Nat) (y : Int) (h : l[i]? = some y) : upto g l (i + 1) = (upto g l i).set i (g y) := by
 obtain ⟨hi, hy⟩ := List.getElem?_eq_some_iff.1 h
 unfold upto
 rw [List.take_add_one, h, List.map_append, List.set_append_right _ _ (by simp; omega)]
 rw [show i - (List.map g (List.take i l)).length = 0 by simp; omega, List.drop_eq_getElem_cons hi, List.set_cons_zero]
 simp
theorem upto_same (g : Int → Int) (l : List Int) (i : Nat) (y : Int) (h : l[i]? = some y) (hg : g y = y) : upto g l (i + 1) = upto g l i := by
 rw [upto_snoc g l i y h, hg]
 have hi := (List.getElem?_eq_some_iff.1 (upto_get g l i y h)).1
 apply List.ext_getElem?
 intro j
 by_cases e : i = j
 ·
  subst e; rw [List.getElem?_set_self hi, upto_get g l i y h]
 ·
  rw [List.getElem?_set_ne e]
theorem upto_zero (g : Int → Int) (l : List Int) : upto g l 0 = l := by simp [upto]
theorem upto_all (g : Int → Int) (l : List Int) : upto g l l.length = l.map g := by simp [upto]
theorem bytesOf_get' (s : ByteArray) (j : Nat) (hj : j < s.size) : (bytesOf s)[j]? = some (bt s j) := by
 rw [bytesOf_get s j hj, ← bt_at s j hj]
 have h' : j < s.data.toList.length := by rw [Array.length_toList]; exact hj
 rw [List.getD_eq_getElem?_getD, List.getElem?_eq_getElem h']
 rfl
def mapB (g : Int → Int) (s : ByteArray) : ByteArray := strOfNums ((bytesOf s).map g)
theorem ret_s_ {a b : ByteArray} (h : a = b) : Ending.returned (.string a) = .returned (.string b) := by rw [h]
end Go.Proofs.YtojgecnhhaelkaaDoor.By
