/- A row of elements of one cell that is written in place while other blocks are laid: the one-cell twin of SortRow. -/
import Derived.Test.YthlffcaaifpdeaaVaSortRow
namespace Go.Proofs.Ythlffcaaifpdeaa.Srt
open Go Go.Shelf Go.RowKit Go.Lib Go.Sort Go.Proofs
set_option linter.unusedVariables false
set_option linter.unusedSimpArgs false
@[reducible] def oneC {α : Type} (ev : α → Value) : α → List Value := fun x => [ev x]
section
variable {α : Type} [Inhabited α] {ev : α → Value} {w0 W : World} {blk off : Nat} {dk d0 : Array α} {P : Program}
theorem cells1 (R : RowK (oneC ev) 1 w0 blk off d0) (x : α) : (ev x).cells = #[ev x] := by
 have := R.h1 x (ev x) (List.mem_singleton.2 rfl)
 generalize ev x = v at this ⊢
 cases v <;> simp_all [Value.oneCell', Value.cells]
theorem store1 (R : RowK (oneC ev) 1 w0 blk off d0) (P : Program) (x : α) (a : Addr) (m : Mode) (w : World) : Sem.run P (store a (ev x) m) w = stored P w a (ev x) m := run_store P w a _ m (R.h1 x _ (List.mem_singleton.2 rfl))
theorem SWB.c1 (h : SWB (oneC ev) 1 w0 blk off dk W) (R : RowK (oneC ev) 1 w0 blk off d0) (hs : dk.size = d0.size) (i : Nat) (hi : i < dk.size) : W.cell? ⟨blk, off + i, none⟩ = some (ev dk[i]!) := by
 have := HoldsK.cells (h.holds R.hH hs) R.hk hi 0 (ev dk[i]!) rfl
 rw [Nat.mul_one] at this
 exact this
theorem SWB.f1 (h : SWB (oneC ev) 1 w0 blk off dk W) (R : RowK (oneC ev) 1 w0 blk off d0) (hs : dk.size = d0.size) (i : Nat) (hi : i < dk.size) : W.frozen? ⟨blk, off + i, none⟩ = false :=
 (h.holds R.hH hs i (by rw [size_flatK]; omega)).2
theorem SWB.cl (h : SWB (oneC ev) 1 w0 blk off dk W) (R : RowK (oneC ev) 1 w0 blk off d0) (hs : dk.size = d0.size) (i : Nat) (hi : i < dk.size) (p : BW W) : p.w'.cell? ⟨blk, off + i, none⟩ = some (ev dk[i]!) := (h.grown R p).c1 R hs i hi
theorem SWB.c2 (h : SWB (oneC ev) 1 w0 blk off dk W) (R : RowK (oneC ev) 1 w0 blk off d0) (hs : dk.size = d0.size) (i j : Nat) (hi : i < dk.size) (hj : j < dk.size) (v : Value) :
  ∃ u, (W.setCell ⟨blk, off + i, none⟩ v).cell? ⟨blk, off + j, none⟩ = some u := by
 by_cases e : i = j
 ·
  subst e; exact ⟨v, World.cell?_setCell_same _ _ _ (h.c1 R hs i hi)⟩
 ·
  exact ⟨_, (World.cell?_setCell_other _ _ _ _ (by intro e'; simp only [Addr.mk.injEq] at e'; omega)).trans (h.c1 R hs j hj)⟩
theorem SWB.swapped1 (h : SWB (oneC ev) 1 w0 blk off dk W) (R : RowK (oneC ev) 1 w0 blk off d0) (i j : Nat) (hi : i < dk.size) (hj : j < dk.size) :
  SWB (oneC ev) 1 w0 blk off (swp dk i j) ((W.setCell ⟨blk, off + i, none⟩ (ev dk[j]!)).setCell ⟨blk, off + j, none⟩ (ev dk[i]!)).drew := by
 have := h.swapped R i j hi hj
 rw [Nat.mul_one, Nat.mul_one] at this
 exact this
def CmpB1 (P : Program) (g : Nat) (cb : Array Value) (ev : α → Value) (cf : α → α → Int) (w0 : World) (blk off size : Nat) : Prop :=
 ∀ (W : World) (dk : Array α), dk.size = size → SWB (oneC ev) 1 w0 blk off dk W → ∀ x y : α, Calls P g (#[ev x, ev y] ++ cb) W fun e w' => e = .returned (.int .i64 (cf x y)) ∧ Below W.heap.size W w'
theorem SWB.cmp1 {g : Nat} {cb : Array Value} {cf : α → α → Int} {size : Nat} (h : SWB (oneC ev) 1 w0 blk off dk W) (hC : CmpB1 P g cb ev cf w0 blk off size) (R : RowK (oneC ev) 1 w0 blk off d0) (hs : dk.size = size) (x y : α) (p : BW W) :
  Calls P g (#[ev x, ev y] ++ cb) p.w' fun e w' => e = .returned (.int .i64 (cf x y)) ∧ Below p.w'.heap.size p.w' w' := hC p.w' dk hs (h.grown R p) x y
end
end Go.Proofs.Ythlffcaaifpdeaa.Srt
