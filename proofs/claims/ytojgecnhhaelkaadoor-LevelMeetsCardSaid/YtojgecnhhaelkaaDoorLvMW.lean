/- What LevelMeets' walks share. -/
import Derived.Test.YtojgecnhhaelkaaDoorLvM
import Derived.Test.YtojgecnhhaelkaaDoorLvB
import Derived.WalkSmall
import Derived.Deep.QuietTactic
import Derived.BigQuiet
namespace Go.Proofs.YtojgecnhhaelkaaDoor
open Go.RowKit
theorem NamesAt.below {w w' : World} (hN : NamesAt w) (h : Below w.heap.size w w') : NamesAt w' :=
  ⟨(h.cell (World.block_lt_of_cell? _ _ hN.1)).trans hN.1, (h.cell (World.block_lt_of_cell? _ _ hN.2.1)).trans hN.2.1, (h.cell (World.block_lt_of_cell? _ _ hN.2.2.1)).trans hN.2.2.1, (h.cell (World.block_lt_of_cell? _ _ hN.2.2.2)).trans hN.2.2.2⟩
theorem popc_le (n : Nat) : popc n ≤ 8 := by unfold popc; omega
end Go.Proofs.YtojgecnhhaelkaaDoor
