/- Lemmas for this claim's walk: no condition of their own. -/
import Derived.Test.YthlffcaaifpdeaaVbJ15
import Derived.Test.YthlffcaaifpdeaaVbJ17
import Derived.Test.YthlffcaaifpdeaaVbQx13
namespace Go.Proofs.Ythlffcaaifpdeaa.Q
open Go.RowKit Go.Proofs.YthlffcaaifpdeaaW.PrintWords Go.Proofs.YthlffcaaifpdeaaW.PrintLast Go.Proofs.YthlffcaaifpdeaaW.PrintMore
attribute [local go_sem] max2_int min2_int max_two min_two max_three min_three max_four min_four
set_option linter.unusedVariables false
set_option linter.unusedSimpArgs false
def skerryref12_Choose.pick (m : Int) (bs : List (List Int)) : List Int := bs.foldl (fun best b => if m ≤ (b.length : Int) ∧ best.length < b.length then b else best) []
theorem skerryref12_Choose.pick_snoc (m : Int) (bs : List (List Int)) (b : List Int) : skerryref12_Choose.pick m (bs ++ [b]) = if m ≤ (b.length : Int) ∧ (skerryref12_Choose.pick m bs).length < b.length then b else skerryref12_Choose.pick m bs := by unfold skerryref12_Choose.pick; rw [List.foldl_append]; rfl
theorem skerryref12_Choose.elem {w W : World} {v : Value} {bs : List (List Int)} (hB : Below w.heap.size w W) (h : Kd.S (Kd.slice 3 (Kd.int .i64)) 22 W w.heap.size (fun _ => True) v bs) (j : Nat) (hj : j < bs.length) :
  ∃ g c A1 c1, v = .slice (some ⟨g, 0, none⟩) bs.length c ∧ W.cell? ⟨g, j, none⟩ = some (.slice A1 bs[j].length c1) ∧ Kd.R (Kd.int .i64) 3 W w.heap.size (fun _ => True) (.slice A1 bs[j].length c1) bs[j] := by
 have hR := Kd.S_R h
 obtain ⟨g, c, e, h1, h2, cells, h3⟩ := Kd.R_form hR (by omega)
 subst e
 obtain ⟨cs, c1, c2, c3, c4⟩ := Kd.R_elem hR [] (j : Int) (by omega) (by omega)
 rw [Int.toNat_natCast] at c2 c3
 rw [List.getD_eq_getElem?_getD, List.getElem?_eq_getElem hj, Option.getD_some] at c2
 obtain ⟨u, rfl, hu⟩ := c2
 obtain ⟨A1, d1, rfl⟩ := Kd.R_slice hu
 have c5 := c3 0 _ rfl
 rw [show j * (Kd.slice 3 (Kd.int .i64)).sz + 0 = j from Nat.mul_one j] at c5
 exact ⟨g, c, A1, d1, rfl, c5, Kd.R_mono hu (fun _ _ => trivial)⟩
end Go.Proofs.Ythlffcaaifpdeaa.Q
