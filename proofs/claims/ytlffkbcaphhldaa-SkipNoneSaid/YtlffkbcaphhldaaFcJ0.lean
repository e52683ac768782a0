/-
 DERIVED: THE SHELF's CONTRACTS AT THIS DUMP, IN PLAIN WORDS (tools/lay-plain.mjs out of 'TryShelf.lean', which tools/lay-shelf.mjs wrote): THE SAME DECLARATIONS UNDER THE SAME NAMES: 'import', 'namespace', 'open', 'def', 'theorem' AND NOTHING ELSE: no command of the shelf's: FOR A HAND-IN. Each laying: the table of numbers ('.._ren') and one theorem, a field a fact of the dump's own or the kernel's comparison; each contract: ONE APPLICATION.
-/
import Derived.Shelf.GgClosure.StringsIndexFunc
import Derived.Ground.GgwProg
import Derived.Shelf.GgClosure.StringsIndexFuncTop
import Derived.Ground.Names2Prog
import Derived.Shelf.Slices.SearchI
import Derived.Test.YtlffkbcaphhldaaProg
import Derived.Shelf.SlSortCmp.KitK
import Derived.Below
namespace Go.Proofs
open Go.Shelf
set_option linter.unusedVariables false
set_option linter.unusedSimpArgs false
def Try.laysGw17_ren : Go.Shelf.Ren := ⟨fun | 17 => 58 | 15 => 60 | 20 => 61 | n => n, fun | 9 => 9 | 23 => 91 | 4 => 4 | 3 => 3 | 0 => 0 | 21 => 21 | n => n, fun | n => n⟩
theorem Try.laysGw17 : Go.Proofs.LaysGw.n17 Try.prog Try.laysGw17_ren := {
 mixed := by kernel_rfl
 f15 := Try.func60.trans (congrArg some (by kernel_rfl))
 f17 := Try.func58.trans (congrArg some (by kernel_rfl))
 f20 := Try.func61.trans (congrArg some (by kernel_rfl))
 t0 := Try.underlying0
 a0 := Try.isAgg0
 z0 := Try.sizeOf0
 v0 := Try.zeroValue0
 i0 := by kernel_rfl
 t3 := Try.underlying3
 a3 := Try.isAgg3
 z3 := Try.sizeOf3
 v3 := Try.zeroValue3
 i3 := by kernel_rfl
 t4 := Try.underlying4
 a4 := Try.isAgg4
 z4 := Try.sizeOf4
 v4 := Try.zeroValue4
 i4 := by kernel_rfl
 t9 := Try.underlying9
 a9 := Try.isAgg9
 z9 := Try.sizeOf9
 v9 := Try.zeroValue9
 i9 := by kernel_rfl
 t21 := Try.underlying21
 a21 := Try.isAgg21
 z21 := Try.sizeOf21
 v21 := Try.zeroValue21
 i21 := by kernel_rfl
 t23 := Try.underlying91
 a23 := Try.isAgg91
 z23 := Try.sizeOf91
 v23 := Try.zeroValue91
 i23 := by kernel_rfl }
open Go.RowKit Go.Lib in
theorem Try.strings_ContainsFunc (g : Nat) (lb : Array Value) (eg : ∀ args w, (callFunc g args).run Try.prog w = .ok (.enter g args) w) (p : Nat → Bool) (s : ByteArray) (w : World) (hp : PredAt Try.prog g lb encR p w) :
  Calls Try.prog 58 #[.string s, .func (.func g) #[] lb] w fun e w' => e = .returned (.bool (decide (0 ≤ Lib.idxFunc p true s))) ∧ Below w.heap.size w w' := Any.strings_ContainsFunc Try.laysGw17 g lb eg p s w hp
end Go.Proofs
namespace Go.Proofs.Ytlffkbcaphhldaa.Srt
open Go Go.RowKit Go.Sort
set_option linter.unusedVariables false
set_option linter.unusedSimpArgs false
variable {α : Type}
section stab
variable (lt : α → α → Bool)
def eqv (a b : α) : Bool := !lt a b && !lt b a
structure Stab (l r : List α) : Prop where
 perm : r.Perm l
 srt : r.Pairwise fun x y => lt y x = false
 flt : ∀ a, r.filter (eqv lt a) = l.filter (eqv lt a)
variable {lt}
theorem Stab.refl {l : List α} (h : l.Pairwise fun x y => lt y x = false) : Stab lt l l := ⟨List.Perm.refl _, h, fun _ => rfl⟩
theorem Stab.trans {l m r : List α} (h : Stab lt l m) (h' : Stab lt m r) : Stab lt l r := ⟨h'.perm.trans h.perm, h'.srt, fun a => (h'.flt a).trans (h.flt a)⟩
theorem Stab.length {l r : List α} (h : Stab lt l r) : r.length = l.length := h.perm.length_eq
theorem Stab.mem {l r : List α} (h : Stab lt l r) (x : α) : x ∈ r ↔ x ∈ l := h.perm.mem_iff
def ins (lt : α → α → Bool) (x : α) : List α → List α
 | [] => [x]
 | y :: l => if lt x y then x :: y :: l else y :: ins lt x l
end stab
section arr
variable [Inhabited α]
end arr
theorem part (l : List α) (i : Nat) (h : i ≤ l.length) : ∃ p q, l = p ++ q ∧ p.length = i := ⟨l.take i, l.drop i, (List.take_append_drop _ _).symm, by rw [List.length_take]; omega⟩
section chunks
variable (lt : α → α → Bool) (n : Nat)
inductive Chunks : List α → List α → Prop
 | last {l r : List α} : l.length ≤ n → Stab lt l r → Chunks l r
 | cons {l r ls rs : List α} : l.length = n → Stab lt l r → Chunks ls rs → Chunks (l ++ ls) (r ++ rs)
variable {lt n}
theorem Chunks.length {l r : List α} (h : Chunks lt n l r) : r.length = l.length := by
 induction h with
 | last _ h => exact h.length
 | cons _ h _ ih => rw [List.length_append, List.length_append, ih, h.length]
theorem Chunks.done {l r : List α} (h : Chunks lt n l r) (hl : l.length ≤ n) : Stab lt l r := by
 cases h with
 | last _ h => exact h
 | cons hn h hs =>
  rename_i l r ls rs
  have e : ls = [] := List.eq_nil_of_length_eq_zero (by rw [List.length_append] at hl; omega)
  have e' : rs = [] := List.eq_nil_of_length_eq_zero (by rw [hs.length, e]; rfl)
  subst e e'
  simpa using h
theorem Chunks.snoc {l r m s : List α} (h : Chunks lt n l r) (hl : n ∣ l.length) (hm : m.length ≤ n) (hs : Stab lt m s) : Chunks lt n (l ++ m) (r ++ s) := by
 induction h with
 | last hl' h =>
  rename_i l r
  rcases Nat.lt_or_ge l.length n with g | g
  ·
   have e : l = [] := List.eq_nil_of_length_eq_zero (Nat.eq_zero_of_dvd_of_lt hl g)
   subst e
   have e' : r = [] := List.eq_nil_of_length_eq_zero (by rw [h.length]; rfl)
   subst e'
   exact .last hm hs
  ·
   exact .cons (by omega) h (.last hm hs)
 | cons he h _ ih =>
  rw [List.append_assoc, List.append_assoc]
  refine .cons he h (ih ?_)
  rw [List.length_append, he] at hl
  exact (Nat.dvd_add_right (Nat.dvd_refl n)).1 hl
end chunks
section search
variable {lt : α → α → Bool}
end search
end Go.Proofs.Ytlffkbcaphhldaa.Srt
namespace Go.Proofs.Ytlffkbcaphhldaa.Srt
open Go Go.Shelf Go.RowKit Go.Lib Go.Sort Go.Proofs
set_option linter.unusedVariables false
set_option linter.unusedSimpArgs false
structure BW (w : World) where
 w' : World
 h : Below w.heap.size w w'
instance (w : World) : Inhabited (BW w) := ⟨⟨w, Below.refl _ _⟩⟩
theorem below_drew0 (w : World) : Below w.heap.size w w.drew := ⟨rfl, rfl, rfl, Nat.le_refl _, fun _ _ => rfl⟩
theorem wp_region_quiet_bw {P : Program} {id : Nat} {Q : Exit → Act → World → Prop} {a : Act} {w : World} {l : List Oper} (hm : P.follows .mixedOrders = true) (hB : Region.lexB .any l.toArray = true)
  (h : wpQuiet P l.toArray (fun w' => ∃ p : BW w, w' = p.w') (fun a' => ∀ w', (∃ p : BW w, w' = p.w') → Q .normal a' w') l a) : (Code.region id l.toArray true).wp P Q a w :=
 wp_region_quiet (C := fun w' => ∃ p : BW w, w' = p.w') hm hB ⟨⟨w.drew, below_drew0 w⟩, rfl⟩ (by simpa using h)
theorem Calls.bw_of {P : Program} {f : FuncId} {args : Array Value} {w : World} {p : BW w} {v : Value}
  (h : Calls P f args p.w' fun e w' => e = .returned v ∧ Below p.w'.heap.size p.w' w') : Calls P f args p.w' fun e w'' => e = .returned v ∧ ∃ q : BW w, w'' = q.w' :=
 h.mono fun _ w2 ⟨he, hb⟩ => ⟨he, ⟨w2, p.h.trans (hb.mono p.h.size)⟩, rfl⟩
section
variable {α : Type} [Inhabited α]
structure SWB (enc : α → List Value) (k : Nat) (w0 : World) (blk off : Nat) (dk : Array α) (W : World) : Prop where
 os : W.os = w0.os
 tape : W.tape = w0.tape
 output : W.output = w0.output
 size : w0.heap.size ≤ W.heap.size
 other : ∀ i, i < w0.heap.size → i ≠ blk → W.heap[i]? = w0.heap[i]?
 row : W.heap[blk]? = (putRowK enc k w0 blk off dk).heap[blk]?
variable {enc : α → List Value} {k : Nat} {w0 W : World} {blk off : Nat} {dk d0 : Array α} {P : Program}
theorem SWB.on (h : SWB enc k w0 blk off dk W) (hblk : blk < w0.heap.size) {W' : World} (hb : Below W.heap.size W W') : SWB enc k w0 blk off dk W' :=
 ⟨hb.os.trans h.os, hb.tape.trans h.tape, hb.output.trans h.output, Nat.le_trans h.size hb.size, fun i hi hne => (hb.block i (Nat.lt_of_lt_of_le hi h.size)).trans (h.other i hi hne), (hb.block blk (Nat.lt_of_lt_of_le hblk h.size)).trans h.row⟩
theorem SWB.drew (h : SWB enc k w0 blk off dk W) : SWB enc k w0 blk off dk W.drew := ⟨h.os, h.tape, h.output, h.size, h.other, h.row⟩
theorem SWB.holds (h : SWB enc k w0 blk off dk W) (h0 : HoldsK enc k w0 blk off d0) (hs : dk.size = d0.size) : HoldsK enc k W blk off dk := by
 have g := holdsK_putRowK enc k w0 blk off d0 dk h0 hs
 intro j hj
 obtain ⟨g1, g2⟩ := g j hj
 constructor
 ·
  rw [← g1]; unfold World.cell?; rw [show (⟨blk, off + j, none⟩ : Addr).block = blk from rfl, h.row]
 ·
  rw [← g2]; unfold World.frozen?; rw [show (⟨blk, off + j, none⟩ : Addr).block = blk from rfl, h.row]
theorem SWB.grown (h : SWB enc k w0 blk off dk W) (R : RowK enc k w0 blk off d0) (p : BW W) : SWB enc k w0 blk off dk p.w' := h.on R.hblk p.h
theorem SWB.load (h : SWB enc k w0 blk off dk W) (R : RowK enc k w0 blk off d0) (hs : dk.size = d0.size) (P : Program) (i : Nat) (hi : i < dk.size) :
  Sem.run P (loadCellsFrom ⟨blk, off + i * k, none⟩ 0 k #[]) W = .ok (enc dk[i]!).toArray W :=
 run_loadCellsFrom_list P _ _ _ k (R.hk _) (HoldsK.cells (h.holds R.hH hs) R.hk hi)
end
end Go.Proofs.Ytlffkbcaphhldaa.Srt
