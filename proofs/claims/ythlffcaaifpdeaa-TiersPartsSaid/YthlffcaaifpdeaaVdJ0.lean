/- Three-way comparisons: whole numbers, texts, one after another. Plain lemmas, no program in sight. -/
import Derived.Lib.ConvBytes
import Derived.SizedLaws
import Derived.ChangeSlices
namespace Go.Proofs.Ythlffcaaifpdeaa.Ord
open Go
set_option linter.unusedVariables false
set_option linter.unusedSimpArgs false
structure Cmp3 {α : Type} (c : α → α → Int) : Prop where
 anti : ∀ x y, c x y = - c y x
 trans : ∀ x y z, c x y ≤ 0 → c y z ≤ 0 → c x z ≤ 0
theorem Cmp3.refl {α : Type} {c : α → α → Int} (h : Cmp3 c) (x : α) : c x x = 0 := by have := h.anti x x; omega
theorem Cmp3.on {α β : Type} {c : β → β → Int} (h : Cmp3 c) (f : α → β) : Cmp3 (fun x y => c (f x) (f y)) := ⟨fun _ _ => h.anti _ _, fun _ _ _ => h.trans _ _ _⟩
theorem Cmp3.of_eq {α : Type} {c d : α → α → Int} (h : Cmp3 c) (e : ∀ x y, d x y = c x y) : Cmp3 d := by
 have : d = c := funext fun x => funext fun y => e x y
 rw [this]; exact h
def ci (a b : Int) : Int := if a < b then -1 else if b < a then 1 else 0
theorem ci_cmp : Cmp3 ci := by
 refine ⟨fun x y => ?_, fun x y z => ?_⟩ <;> unfold ci <;> repeat' split
 all_goals omega
def cl (a b : List UInt8) : Int := if Op.bytesLess a b = true then -1 else if a = b then 0 else 1
def cs (a b : ByteArray) : Int := cl a.toList b.toList
end Go.Proofs.Ythlffcaaifpdeaa.Ord
namespace Go.Proofs.YthlffcaaifpdeaaW.PrintWords
open Go.ChangeShapes Go.WideShapes
theorem sized_ints {H : Type} {enc : TypeId × Value → H} {P : Program} {W : World} {base : Nat} {spare : Nat → Bool} {held : Bool} {t e : TypeId} {k : IntKind} {a : Option Addr} {len cap : Nat} {d : DataW H} {ps : List MemPlace} {ts : List TypeId} {ds : List (DataW H)} {j : Nat}
  (hsz : (DataW.weightsEach P ts ds).all (· ≤ reachBytes) = true) (ht : ts[j]? = some t) (hd : ds[j]? = some d) (hu : P.underlying t = some (.slice e)) (he : P.underlying e = some (.int k)) (hc : P.cellsOf e = 1) {B : Nat} (hB : P.bytesOf e = B)
  (h : DataW.Trod enc P W base spare held t (.slice a len cap) d ps) : len * B ≤ 140737488351232 := by
 obtain ⟨fuel, hf⟩ := h
 rcases open_ints hu he hc hf with ⟨hcs, _⟩ | ⟨x, l, c, zs, hcs, _, hl, _, hz, hx, _, _⟩
 ·
  simp [Value.cells] at hcs
  obtain ⟨rfl, rfl, rfl⟩ := hcs
  simp
 ·
  simp [Value.cells] at hcs
  obtain ⟨rfl, rfl, rfl⟩ := hcs
  obtain ⟨hx, _⟩ := Prod.mk.inj hx
  subst hx
  have z := sized_slice hsz ht hd hu
  rw [hB] at z
  have hl2 : len ≤ zs.length := by
   rw [hz]
   split
   ·
    exact hl
   ·
    exact Nat.le_refl _
  have h1 : (lits (H := H) k (zs.take len)).length + (lits (H := H) k (zs.drop len)).length = zs.length := by
   simp [lits]
   omega
  rw [h1] at z
  exact Nat.le_trans (Nat.mul_le_mul_right _ hl2) z
end Go.Proofs.YthlffcaaifpdeaaW.PrintWords
