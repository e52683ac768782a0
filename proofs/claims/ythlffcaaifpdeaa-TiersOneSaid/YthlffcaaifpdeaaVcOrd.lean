/- Three-way comparisons: whole numbers, texts, one after another. Plain lemmas, no program in sight. -/
import Derived.Lib.ConvBytes
namespace Go.Proofs.Ythlffcaaifpdeaa.Ord
open Go
set_option linter.unusedVariables false
set_option linter.unusedSimpArgs false
structure Cmp3 {α : Type} (c : α → α → Int) : Prop where
 anti : ∀ x y, c x y = - c y x
 trans : ∀ x y z, c x y ≤ 0 → c y z ≤ 0 → c x z ≤ 0
theorem Cmp3.refl {α : Type} {c : α → α → Int} (h : Cmp3 c) (x : α) : c x x = 0 := by have := h.anti x x; omega
theorem Cmp3.on {α β : Type} {c : β → β → Int} (h : Cmp3 c) (f : α → β) : Cmp3 (fun x y => c (f x) (f y)) := ⟨fun _ _ => h.anti _ _, fun _ _ _ => h.trans _ _ _⟩
def ci (a b : Int) : Int := if a < b then -1 else if b < a then 1 else 0
theorem ci_cmp : Cmp3 ci := by
 refine ⟨fun x y => ?_, fun x y z => ?_⟩ <;> unfold ci <;> repeat' split
 all_goals omega
def cl (a b : List UInt8) : Int := if Op.bytesLess a b = true then -1 else if a = b then 0 else 1
def cs (a b : ByteArray) : Int := cl a.toList b.toList
end Go.Proofs.Ythlffcaaifpdeaa.Ord
