/- A row of elements of k cells that is written in place while other blocks are laid: what is told of the worlds on the way, and a region that draws its order, only reads, and calls what lays blocks of its own. -/
import Derived.Shelf.SlSortCmp.KitK
import Derived.Below
namespace Go.Proofs.Ythlffcaaifpdeaa.Srt
open Go Go.Shelf Go.RowKit Go.Lib Go.Sort Go.Proofs
set_option linter.unusedVariables false
set_option linter.unusedSimpArgs false
structure BW (w : World) where
 w' : World
 h : Below w.heap.size w w'
instance (w : World) : Inhabited (BW w) := ⟨⟨w, Below.refl _ _⟩⟩
theorem below_drew0 (w : World) : Below w.heap.size w w.drew := ⟨rfl, rfl, rfl, Nat.le_refl _, fun _ _ => rfl⟩
theorem wp_region_quiet_bw {P : Program} {id : Nat} {Q : Exit → Act → World → Prop} {a : Act} {w : World} {l : List Oper} (hm : P.follows .mixedOrders = true) (hB : Region.lexB .any l.toArray = true)
  (h : wpQuiet P l.toArray (fun w' => ∃ p : BW w, w' = p.w') (fun a' => ∀ w', (∃ p : BW w, w' = p.w') → Q .normal a' w') l a) : (Code.region id l.toArray true).wp P Q a w :=
 wp_region_quiet (C := fun w' => ∃ p : BW w, w' = p.w') hm hB ⟨⟨w.drew, below_drew0 w⟩, rfl⟩ (by simpa using h)
theorem Calls.bw_of {P : Program} {f : FuncId} {args : Array Value} {w : World} {p : BW w} {v : Value}
  (h : Calls P f args p.w' fun e w' => e = .returned v ∧ Below p.w'.heap.size p.w' w') : Calls P f args p.w' fun e w'' => e = .returned v ∧ ∃ q : BW w, w'' = q.w' :=
 h.mono fun _ w2 ⟨he, hb⟩ => ⟨he, ⟨w2, p.h.trans (hb.mono p.h.size)⟩, rfl⟩
section
variable {α : Type} [Inhabited α]
structure SWB (enc : α → List Value) (k : Nat) (w0 : World) (blk off : Nat) (dk : Array α) (W : World) : Prop where
 os : W.os = w0.os
 tape : W.tape = w0.tape
 output : W.output = w0.output
 size : w0.heap.size ≤ W.heap.size
 other : ∀ i, i < w0.heap.size → i ≠ blk → W.heap[i]? = w0.heap[i]?
 row : W.heap[blk]? = (putRowK enc k w0 blk off dk).heap[blk]?
variable {enc : α → List Value} {k : Nat} {w0 W : World} {blk off : Nat} {dk d0 : Array α} {P : Program}
theorem SWB.start (h : HoldsK enc k w0 blk off dk) : SWB enc k w0 blk off dk w0 := ⟨rfl, rfl, rfl, Nat.le_refl _, fun _ _ _ => rfl, by rw [putRowK_self enc k w0 blk off dk h]⟩
theorem SWB.on (h : SWB enc k w0 blk off dk W) (hblk : blk < w0.heap.size) {W' : World} (hb : Below W.heap.size W W') : SWB enc k w0 blk off dk W' :=
 ⟨hb.os.trans h.os, hb.tape.trans h.tape, hb.output.trans h.output, Nat.le_trans h.size hb.size, fun i hi hne => (hb.block i (Nat.lt_of_lt_of_le hi h.size)).trans (h.other i hi hne), (hb.block blk (Nat.lt_of_lt_of_le hblk h.size)).trans h.row⟩
theorem SWB.drew (h : SWB enc k w0 blk off dk W) : SWB enc k w0 blk off dk W.drew := ⟨h.os, h.tape, h.output, h.size, h.other, h.row⟩
theorem SWB.holds (h : SWB enc k w0 blk off dk W) (h0 : HoldsK enc k w0 blk off d0) (hs : dk.size = d0.size) : HoldsK enc k W blk off dk := by
 have g := holdsK_putRowK enc k w0 blk off d0 dk h0 hs
 intro j hj
 obtain ⟨g1, g2⟩ := g j hj
 constructor
 ·
  rw [← g1]; unfold World.cell?; rw [show (⟨blk, off + j, none⟩ : Addr).block = blk from rfl, h.row]
 ·
  rw [← g2]; unfold World.frozen?; rw [show (⟨blk, off + j, none⟩ : Addr).block = blk from rfl, h.row]
theorem SWB.grown (h : SWB enc k w0 blk off dk W) (R : RowK enc k w0 blk off d0) (p : BW W) : SWB enc k w0 blk off dk p.w' := h.on R.hblk p.h
theorem SWB.load (h : SWB enc k w0 blk off dk W) (R : RowK enc k w0 blk off d0) (hs : dk.size = d0.size) (P : Program) (i : Nat) (hi : i < dk.size) :
  Sem.run P (loadCellsFrom ⟨blk, off + i * k, none⟩ 0 k #[]) W = .ok (enc dk[i]!).toArray W :=
 run_loadCellsFrom_list P _ _ _ k (R.hk _) (HoldsK.cells (h.holds R.hH hs) R.hk hi)
omit [Inhabited α] in
theorem setCells_row (blk : Nat) : ∀ (vs : List Value) (o : Nat) (W V : World), W.heap[blk]? = V.heap[blk]? → (W.setCells blk o vs).heap[blk]? = (V.setCells blk o vs).heap[blk]?
 | [], _, _, _, h => h
 | v :: vs, o, W, V, h => setCells_row blk vs (o + 1) _ _ (by simp only [World.setCell, Array.getElem?_modify, if_true, h])
omit [Inhabited α] in
theorem setCells_same (blk : Nat) : ∀ (vs : List Value) (o : Nat) (W : World), (W.setCells blk o vs).os = W.os ∧ (W.setCells blk o vs).tape = W.tape ∧ (W.setCells blk o vs).output = W.output ∧ (W.setCells blk o vs).heap.size = W.heap.size ∧ ∀ i, i ≠ blk → (W.setCells blk o vs).heap[i]? = W.heap[i]?
 | [], _, _ => ⟨rfl, rfl, rfl, rfl, fun _ _ => rfl⟩
 | v :: vs, o, W => by
  obtain ⟨h1, h2, h3, h4, h5⟩ := setCells_same blk vs (o + 1) (W.setCell ⟨blk, o, none⟩ v)
  refine ⟨h1, h2, h3, h4.trans (by simp [World.setCell]), fun i hi => (h5 i hi).trans ?_⟩
  simp only [World.setCell, Array.getElem?_modify]
  rw [if_neg (fun e => hi e.symm)]
theorem SWB.swapped (h : SWB enc k w0 blk off dk W) (R : RowK enc k w0 blk off d0) (i j : Nat) (hi : i < dk.size) (hj : j < dk.size) :
  SWB enc k w0 blk off (swp dk i j) ((W.drew.setCells blk (off + i * k) (enc dk[j]!)).setCells blk (off + j * k) (enc dk[i]!)) := by
 obtain ⟨a1, a2, a3, a4, a5⟩ := setCells_same blk (enc dk[j]!) (off + i * k) W.drew
 obtain ⟨b1, b2, b3, b4, b5⟩ := setCells_same blk (enc dk[i]!) (off + j * k) (W.drew.setCells blk (off + i * k) (enc dk[j]!))
 refine ⟨b1.trans (a1.trans h.os), b2.trans (a2.trans h.tape), b3.trans (a3.trans h.output), by rw [b4, a4]; exact h.size, fun q hq hne => (b5 q hne).trans ((a5 q hne).trans (h.other q hq hne)), ?_⟩
 rw [← putRowK_swp enc k R.hk w0 blk off dk i j hi hj]
 exact setCells_row blk _ _ _ _ (setCells_row blk _ _ _ _ h.row)
end
end Go.Proofs.Ythlffcaaifpdeaa.Srt
