/- Short words for the printed texts: what became of a block, a row, a world. -/
import Derived.Test.YtdagddhccdchoaaDoorWeWWords
import Derived.Test.YtdagddhccdchoaaDoorWeJ6
namespace Go.Proofs.YtdagddhccdchoaaDoorW.PrintWords
open Go Go.RowKit
/-- W has come of w0 by draws and new blocks. -/
class GW (w0 W : World) : Prop where
 out : Below w0.heap.size w0 W
instance GW.refl (w : World) : GW w w := ⟨Below.refl _ _⟩
instance GW.drew {w0 W : World} [h : GW w0 W] : GW w0 W.drew := ⟨below_drew h.out⟩
instance GW.drewN {w0 W : World} [h : GW w0 W] (n : Nat) : GW w0 (W.drewN n) := ⟨pw_below_drewN h.out n⟩
instance GW.alloc {w0 W : World} [h : GW w0 W] (o : Obj) : GW w0 (W.alloc o) := ⟨below_alloc h.out o⟩
theorem kbW {w0 W : World} {g : Nat} {o : Obj} (h : Aside0 (w0.heap[g]? = some o)) [G : GW w0 W] : W.heap[g]? = some o := blk_below h.out G.out
theorem kB {w0 W w1 : World} {g : Nat} {o : Obj} (h : Aside0 (w0.heap[g]? = some o)) (hb : Below W.heap.size W w1) [G : GW w0 W] : Aside0 (w1.heap[g]? = some o) := ⟨blk_below (blk_below h.out G.out) hb⟩
theorem kBf {w0 W w1 : World} {g : Nat} {o : Obj} (h : Aside0 (w0.heap[g]? = some o)) (f : w0.heap[g]? = some o → W.heap[g]? = some o) (hb : Below W.heap.size W w1) : Aside0 (w1.heap[g]? = some o) := ⟨blk_below (f h.out) hb⟩
theorem kwW {w wr W : World} (h : Aside0 (Below w.heap.size w wr)) [G : GW wr W] : Below w.heap.size w W := below_step h.out G.out
theorem bA_ {w W : World} (h : Below w.heap.size w W) (o : Obj) : Below w.heap.size w (W.alloc o) := below_alloc h o
theorem bN_ {B : Nat} {w W : World} (h : Below B w W) (n : Nat) : Below B w (W.drewN n) := pw_below_drewN h n
theorem bD_ {base : Nat} {w W : World} (h : Below base w W) : Below base w W.drew := h.drew
theorem bS_ {w W : World} {g j : Nat} {v : Value} (h : Below w.heap.size w W) (hg : Aside0 (w.heap.size ≤ g)) : Below w.heap.size w (W.setCell ⟨g, j, none⟩ v) := below_set h hg.out
theorem bZ_ {w W : World} (h : Below w.heap.size w W) : w.heap.size ≤ W.heap.size := h.size
theorem cf_ {w : World} {g g' o j : Nat} {u : Value} {x : Option Value} (h : Aside0 (g ≠ g')) (hc : w.cell? ⟨g, o, none⟩ = x) : (w.setCell ⟨g', j, none⟩ u).cell? ⟨g, o, none⟩ = x := (cell_far (p := ⟨g', j, none⟩) h.out _).trans hc
theorem mT_ {α β : Type} {f : α → β} {l : List α} : l.toArray.map f = (l.map f).toArray := List.map_toArray ..
theorem mC_ {α β : Type} {f : α → β} {a : α} {l : List α} : (a :: l).map f = f a :: l.map f := rfl
theorem mN_ {α β : Type} {f : α → β} : ([] : List α).map f = [] := rfl
theorem sT_ {α : Type} {l : List α} {i : Nat} {a : α} : l.toArray.setIfInBounds i a = (l.set i a).toArray := List.setIfInBounds_toArray ..
theorem sO_ {α : Type} {x : α} {xs : List α} {a : α} : (x :: xs).set 0 a = a :: xs := List.set_cons_zero
theorem sN_ {α : Type} {x : α} {xs : List α} {i : Nat} {a : α} : (x :: xs).set (i + 1) a = x :: xs.set i a := List.set_cons_succ
theorem cB_ {w wr : World} {a : Addr} {v : Value} (h : Aside0 (Below w.heap.size w wr)) (hx : w.cell? a = some v) : wr.cell? a = some v := (h.out.cell (World.block_lt_of_cell? w _ hx)).trans hx
abbrev tf_ (a b : Nat) : Array Bool := ⟨List.replicate a true ++ List.replicate b false⟩
def tb_ (n m : Nat) : Array Bool := ⟨(List.range m).map fun i => n.testBit i⟩
section
variable {α : Type} {d : Kd α} {e : TypeId} {base : Nat} {ok : Nat → Prop} {v : Value} {xs : List α}
theorem krW {w0 W : World} (h : Aside0 (d.R e w0 base ok v xs)) [G : GW w0 W] : d.R e W base ok v xs := Kd.R_below h.out G.out
theorem kR {w0 W w1 : World} (h : Aside0 (d.R e w0 base ok v xs)) (hb : Below W.heap.size W w1) [G : GW w0 W] : Aside0 (d.R e w1 base ok v xs) := ⟨Kd.R_below (Kd.R_below h.out G.out) hb⟩
theorem rf4 {w : World} {g o0 o1 o2 o3 : Nat} {u0 u1 u2 u3 : Value} (h : d.R e w base ok v xs) (hok : ∀ k, ok k → k ≠ g) : d.R e ((((w.setCell ⟨g, o0, none⟩ u0).setCell ⟨g, o1, none⟩ u1).setCell ⟨g, o2, none⟩ u2).setCell ⟨g, o3, none⟩ u3) base ok v xs := (Kd.R_far (p := ⟨g, o3, none⟩) (Kd.R_far (p := ⟨g, o2, none⟩) (Kd.R_far (p := ⟨g, o1, none⟩) (Kd.R_far (p := ⟨g, o0, none⟩) h hok u0) hok u1) hok u2) hok u3)
end
theorem cz2 {w : World} {g : Nat} {t : TypeId} {a0 a1 : Value} (h : Aside0 (w.heap[g]? = some (.cells #[a0, a1] t (0, 0)))) : w.cell? ⟨g, 0, none⟩ = some a0 ∧ w.cell? ⟨g, 1, none⟩ = some a1 := ⟨(blk_cell h.out 0).trans rfl, (blk_cell h.out 1).trans rfl⟩
theorem czf2 {w : World} {g : Nat} {t : TypeId} {a0 a1 : Value} (h : Aside0 (w.heap[g]? = some (.cells #[a0, a1] t (0, 0)))) : w.cell? ⟨g, 0, none⟩ = some a0 ∧ w.cell? ⟨g, 1, none⟩ = some a1 ∧ w.frozen? ⟨g, 0, none⟩ = false ∧ w.frozen? ⟨g, 1, none⟩ = false := ⟨(blk_cell h.out 0).trans rfl, (blk_cell h.out 1).trans rfl, blk_frozen h.out 0, blk_frozen h.out 1⟩
theorem cz4 {w : World} {g : Nat} {t : TypeId} {a0 a1 a2 a3 : Value} (h : Aside0 (w.heap[g]? = some (.cells #[a0, a1, a2, a3] t (0, 0)))) : w.cell? ⟨g, 0, none⟩ = some a0 ∧ w.cell? ⟨g, 1, none⟩ = some a1 ∧ w.cell? ⟨g, 2, none⟩ = some a2 ∧ w.cell? ⟨g, 3, none⟩ = some a3 := ⟨(blk_cell h.out 0).trans rfl, (blk_cell h.out 1).trans rfl, (blk_cell h.out 2).trans rfl, (blk_cell h.out 3).trans rfl⟩
theorem czf4 {w : World} {g : Nat} {t : TypeId} {a0 a1 a2 a3 : Value} (h : Aside0 (w.heap[g]? = some (.cells #[a0, a1, a2, a3] t (0, 0)))) : w.cell? ⟨g, 0, none⟩ = some a0 ∧ w.cell? ⟨g, 1, none⟩ = some a1 ∧ w.cell? ⟨g, 2, none⟩ = some a2 ∧ w.cell? ⟨g, 3, none⟩ = some a3 ∧ w.frozen? ⟨g, 0, none⟩ = false ∧ w.frozen? ⟨g, 1, none⟩ = false ∧ w.frozen? ⟨g, 2, none⟩ = false ∧ w.frozen? ⟨g, 3, none⟩ = false := ⟨(blk_cell h.out 0).trans rfl, (blk_cell h.out 1).trans rfl, (blk_cell h.out 2).trans rfl, (blk_cell h.out 3).trans rfl, blk_frozen h.out 0, blk_frozen h.out 1, blk_frozen h.out 2, blk_frozen h.out 3⟩
theorem bp4 {w : World} {g : Nat} {t : TypeId} {a0 a1 a2 a3 u0 u1 u2 u3 : Value} (h : w.heap[g]? = some (.cells #[a0, a1, a2, a3] t (0, 0))) : ((((w.setCell ⟨g, 0, none⟩ u0).setCell ⟨g, 1, none⟩ u1).setCell ⟨g, 2, none⟩ u2).setCell ⟨g, 3, none⟩ u3).heap[g]? = some (.cells #[u0, u1, u2, u3] t (0, 0)) := (blk_put (cs := #[u0, u1, u2, a3]) (blk_put (cs := #[u0, u1, a2, a3]) (blk_put (cs := #[u0, a1, a2, a3]) (blk_put (cs := #[a0, a1, a2, a3]) h 0 u0 rfl) 1 u1 rfl) 2 u2 rfl) 3 u3 rfl)
theorem bf4 {w : World} {g g' o0 o1 o2 o3 : Nat} {u0 u1 u2 u3 : Value} {t : TypeId} {cs : Array Value} (h : w.heap[g]? = some (.cells cs t (0, 0))) (hne : g ≠ g') : ((((w.setCell ⟨g', o0, none⟩ u0).setCell ⟨g', o1, none⟩ u1).setCell ⟨g', o2, none⟩ u2).setCell ⟨g', o3, none⟩ u3).heap[g]? = some (.cells cs t (0, 0)) := (blk_far (blk_far (blk_far (blk_far h (p := ⟨g', o0, none⟩) hne u0) (p := ⟨g', o1, none⟩) hne u1) (p := ⟨g', o2, none⟩) hne u2) (p := ⟨g', o3, none⟩) hne u3)
end Go.Proofs.YtdagddhccdchoaaDoorW.PrintWords
