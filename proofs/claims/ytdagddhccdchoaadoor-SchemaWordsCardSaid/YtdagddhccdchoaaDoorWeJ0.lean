/-
 DERIVED: THE SHELF's CONTRACTS AT THIS DUMP, IN PLAIN WORDS (tools/lay-plain.mjs out of 'TryShelf.lean', which tools/lay-shelf.mjs wrote): THE SAME DECLARATIONS UNDER THE SAME NAMES: 'import', 'namespace', 'open', 'def', 'theorem' AND NOTHING ELSE: no command of the shelf's: FOR A HAND-IN. Each laying: the table of numbers ('.._ren') and one theorem, a field a fact of the dump's own or the kernel's comparison; each contract: ONE APPLICATION.
-/
import Derived.Shelf.GgClosure.StringsIndexFunc
import Derived.Ground.GgwProg
import Derived.Shelf.GgClosure.StringsIndexFuncTop
import Derived.Ground.Names2Prog
import Derived.Shelf.Slices.SearchI
import Derived.Test.YtdagddhccdchoaaDoorProg
import Derived.Shelf.SlSortCmp.KitK
import Derived.Below
namespace Go.Proofs
open Go.Shelf
set_option linter.unusedVariables false
set_option linter.unusedSimpArgs false
def Tryd.laysGw17_ren : Go.Shelf.Ren := ⟨fun | 17 => 42 | 15 => 55 | 20 => 61 | n => n, fun | 9 => 9 | 23 => 69 | 4 => 4 | 3 => 3 | 0 => 0 | 21 => 21 | n => n, fun | n => n⟩
theorem Tryd.laysGw17 : Go.Proofs.LaysGw.n17 Tryd.prog Tryd.laysGw17_ren := {
 mixed := by kernel_rfl
 f15 := Tryd.func55.trans (congrArg some (by kernel_rfl))
 f17 := Tryd.func42.trans (congrArg some (by kernel_rfl))
 f20 := Tryd.func61.trans (congrArg some (by kernel_rfl))
 t0 := Tryd.underlying0
 a0 := Tryd.isAgg0
 z0 := Tryd.sizeOf0
 v0 := Tryd.zeroValue0
 i0 := by kernel_rfl
 t3 := Tryd.underlying3
 a3 := Tryd.isAgg3
 z3 := Tryd.sizeOf3
 v3 := Tryd.zeroValue3
 i3 := by kernel_rfl
 t4 := Tryd.underlying4
 a4 := Tryd.isAgg4
 z4 := Tryd.sizeOf4
 v4 := Tryd.zeroValue4
 i4 := by kernel_rfl
 t9 := Tryd.underlying9
 a9 := Tryd.isAgg9
 z9 := Tryd.sizeOf9
 v9 := Tryd.zeroValue9
 i9 := by kernel_rfl
 t21 := Tryd.underlying21
 a21 := Tryd.isAgg21
 z21 := Tryd.sizeOf21
 v21 := Tryd.zeroValue21
 i21 := by kernel_rfl
 t23 := Tryd.underlying69
 a23 := Tryd.isAgg69
 z23 := Tryd.sizeOf69
 v23 := Tryd.zeroValue69
 i23 := by kernel_rfl }
open Go.RowKit Go.Lib in
theorem Tryd.strings_ContainsFunc (g : Nat) (lb : Array Value) (eg : ∀ args w, (callFunc g args).run Tryd.prog w = .ok (.enter g args) w) (p : Nat → Bool) (s : ByteArray) (w : World) (hp : PredAt Tryd.prog g lb encR p w) :
  Calls Tryd.prog 42 #[.string s, .func (.func g) #[] lb] w fun e w' => e = .returned (.bool (decide (0 ≤ Lib.idxFunc p true s))) ∧ Below w.heap.size w w' := Any.strings_ContainsFunc Tryd.laysGw17 g lb eg p s w hp
end Go.Proofs
namespace Go.Proofs.YtdagddhccdchoaaDoor.Srt
open Go Go.Shelf Go.RowKit Go.Lib Go.Sort Go.Proofs
set_option linter.unusedVariables false
set_option linter.unusedSimpArgs false
structure BW (w : World) where
 w' : World
 h : Below w.heap.size w w'
instance (w : World) : Inhabited (BW w) := ⟨⟨w, Below.refl _ _⟩⟩
section
variable {α : Type} [Inhabited α]
structure SWB (enc : α → List Value) (k : Nat) (w0 : World) (blk off : Nat) (dk : Array α) (W : World) : Prop where
 os : W.os = w0.os
 tape : W.tape = w0.tape
 output : W.output = w0.output
 size : w0.heap.size ≤ W.heap.size
 other : ∀ i, i < w0.heap.size → i ≠ blk → W.heap[i]? = w0.heap[i]?
 row : W.heap[blk]? = (putRowK enc k w0 blk off dk).heap[blk]?
variable {enc : α → List Value} {k : Nat} {w0 W : World} {blk off : Nat} {dk d0 : Array α} {P : Program}
theorem SWB.start (h : HoldsK enc k w0 blk off dk) : SWB enc k w0 blk off dk w0 := ⟨rfl, rfl, rfl, Nat.le_refl _, fun _ _ _ => rfl, by rw [putRowK_self enc k w0 blk off dk h]⟩
theorem SWB.on (h : SWB enc k w0 blk off dk W) (hblk : blk < w0.heap.size) {W' : World} (hb : Below W.heap.size W W') : SWB enc k w0 blk off dk W' :=
 ⟨hb.os.trans h.os, hb.tape.trans h.tape, hb.output.trans h.output, Nat.le_trans h.size hb.size, fun i hi hne => (hb.block i (Nat.lt_of_lt_of_le hi h.size)).trans (h.other i hi hne), (hb.block blk (Nat.lt_of_lt_of_le hblk h.size)).trans h.row⟩
theorem SWB.drew (h : SWB enc k w0 blk off dk W) : SWB enc k w0 blk off dk W.drew := ⟨h.os, h.tape, h.output, h.size, h.other, h.row⟩
theorem SWB.holds (h : SWB enc k w0 blk off dk W) (h0 : HoldsK enc k w0 blk off d0) (hs : dk.size = d0.size) : HoldsK enc k W blk off dk := by
 have g := holdsK_putRowK enc k w0 blk off d0 dk h0 hs
 intro j hj
 obtain ⟨g1, g2⟩ := g j hj
 constructor
 ·
  rw [← g1]; unfold World.cell?; rw [show (⟨blk, off + j, none⟩ : Addr).block = blk from rfl, h.row]
 ·
  rw [← g2]; unfold World.frozen?; rw [show (⟨blk, off + j, none⟩ : Addr).block = blk from rfl, h.row]
theorem SWB.grown (h : SWB enc k w0 blk off dk W) (R : RowK enc k w0 blk off d0) (p : BW W) : SWB enc k w0 blk off dk p.w' := h.on R.hblk p.h
theorem SWB.load (h : SWB enc k w0 blk off dk W) (R : RowK enc k w0 blk off d0) (hs : dk.size = d0.size) (P : Program) (i : Nat) (hi : i < dk.size) :
  Sem.run P (loadCellsFrom ⟨blk, off + i * k, none⟩ 0 k #[]) W = .ok (enc dk[i]!).toArray W :=
 run_loadCellsFrom_list P _ _ _ k (R.hk _) (HoldsK.cells (h.holds R.hH hs) R.hk hi)
end
end Go.Proofs.YtdagddhccdchoaaDoor.Srt
