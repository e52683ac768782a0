/-
 DERIVED: THE SHELF's CONTRACTS AT THIS DUMP, IN PLAIN WORDS (tools/lay-plain.mjs out of 'TryShelf.lean', which tools/lay-shelf.mjs wrote): THE SAME DECLARATIONS UNDER THE SAME NAMES: 'import', 'namespace', 'open', 'def', 'theorem' AND NOTHING ELSE: no command of the shelf's: FOR A HAND-IN. Each laying: the table of numbers ('.._ren') and one theorem, a field a fact of the dump's own or the kernel's comparison; each contract: ONE APPLICATION.
-/
import Derived.Shelf.GgClosure.StringsIndexFunc
import Derived.Ground.GgwProg
import Derived.Shelf.GgClosure.StringsIndexFuncTop
import Derived.Ground.Names2Prog
import Derived.Shelf.Slices.SearchI
import Derived.Test.YtaedmofnhjaljaaProg
import Derived.Shelf.SlSortCmp.KitK
import Derived.Below
import Derived.RowKit
import Derived.Laws.BitsLemmas
namespace Go.Proofs
open Go.Shelf
def Try.laysGw17_ren : Go.Shelf.Ren := ⟨fun | 17 => 72 | 15 => 79 | 20 => 81 | n => n, fun | 9 => 9 | 23 => 82 | 4 => 4 | 3 => 3 | 0 => 0 | 21 => 21 | n => n, fun | n => n⟩
theorem Try.laysGw17 : Go.Proofs.LaysGw.n17 Try.prog Try.laysGw17_ren := {
 mixed := by kernel_rfl
 f15 := Try.func79.trans (congrArg some (by kernel_rfl))
 f17 := Try.func72.trans (congrArg some (by kernel_rfl))
 f20 := Try.func81.trans (congrArg some (by kernel_rfl))
 t0 := Try.underlying0
 a0 := Try.isAgg0
 z0 := Try.sizeOf0
 v0 := Try.zeroValue0
 i0 := by kernel_rfl
 t3 := Try.underlying3
 a3 := Try.isAgg3
 z3 := Try.sizeOf3
 v3 := Try.zeroValue3
 i3 := by kernel_rfl
 t4 := Try.underlying4
 a4 := Try.isAgg4
 z4 := Try.sizeOf4
 v4 := Try.zeroValue4
 i4 := by kernel_rfl
 t9 := Try.underlying9
 a9 := Try.isAgg9
 z9 := Try.sizeOf9
 v9 := Try.zeroValue9
 i9 := by kernel_rfl
 t21 := Try.underlying21
 a21 := Try.isAgg21
 z21 := Try.sizeOf21
 v21 := Try.zeroValue21
 i21 := by kernel_rfl
 t23 := Try.underlying82
 a23 := Try.isAgg82
 z23 := Try.sizeOf82
 v23 := Try.zeroValue82
 i23 := by kernel_rfl }
open Go.RowKit Go.Lib in
theorem Try.strings_ContainsFunc (g : Nat) (lb : Array Value) (eg : ∀ args w, (callFunc g args).run Try.prog w = .ok (.enter g args) w) (p : Nat → Bool) (s : ByteArray) (w : World) (hp : PredAt Try.prog g lb encR p w) :
  Calls Try.prog 72 #[.string s, .func (.func g) #[] lb] w fun e w' => e = .returned (.bool (decide (0 ≤ Lib.idxFunc p true s))) ∧ Below w.heap.size w w' := Any.strings_ContainsFunc Try.laysGw17 g lb eg p s w hp
end Go.Proofs
namespace Go.Proofs.Ytaedmofnhjaljaa.Srt
open Go Go.RowKit Go.Sort
variable {α : Type}
section stab
variable (lt : α → α → Bool)
def eqv (a b : α) : Bool := !lt a b && !lt b a
structure Stab (l r : List α) : Prop where
 perm : r.Perm l
 srt : r.Pairwise fun x y => lt y x = false
 flt : ∀ a, r.filter (eqv lt a) = l.filter (eqv lt a)
variable {lt}
theorem Stab.refl {l : List α} (h : l.Pairwise fun x y => lt y x = false) : Stab lt l l := ⟨List.Perm.refl _, h, fun _ => rfl⟩
theorem Stab.trans {l m r : List α} (h : Stab lt l m) (h' : Stab lt m r) : Stab lt l r := ⟨h'.perm.trans h.perm, h'.srt, fun a => (h'.flt a).trans (h.flt a)⟩
theorem Stab.length {l r : List α} (h : Stab lt l r) : r.length = l.length := h.perm.length_eq
end stab
section arr
variable [Inhabited α]
end arr
theorem part (l : List α) (i : Nat) (h : i ≤ l.length) : ∃ p q, l = p ++ q ∧ p.length = i := ⟨l.take i, l.drop i, (List.take_append_drop _ _).symm, by rw [List.length_take]; omega⟩
section chunks
variable (lt : α → α → Bool) (n : Nat)
inductive Chunks : List α → List α → Prop
 | last {l r : List α} : l.length ≤ n → Stab lt l r → Chunks l r
 | cons {l r ls rs : List α} : l.length = n → Stab lt l r → Chunks ls rs → Chunks (l ++ ls) (r ++ rs)
variable {lt n}
theorem Chunks.length {l r : List α} (h : Chunks lt n l r) : r.length = l.length := by
 induction h with
 | last _ h => exact h.length
 | cons _ h _ ih => rw [List.length_append, List.length_append, ih, h.length]
theorem Chunks.done {l r : List α} (h : Chunks lt n l r) (hl : l.length ≤ n) : Stab lt l r := by
 cases h with
 | last _ h => exact h
 | cons hn h hs =>
  rename_i l r ls rs
  have e : ls = [] := List.eq_nil_of_length_eq_zero (by rw [List.length_append] at hl; omega)
  have e' : rs = [] := List.eq_nil_of_length_eq_zero (by rw [hs.length, e]; rfl)
  subst e e'
  simpa using h
theorem Chunks.snoc {l r m s : List α} (h : Chunks lt n l r) (hl : n ∣ l.length) (hm : m.length ≤ n) (hs : Stab lt m s) : Chunks lt n (l ++ m) (r ++ s) := by
 induction h with
 | last hl' h =>
  rename_i l r
  rcases Nat.lt_or_ge l.length n with g | g
  ·
   have e : l = [] := List.eq_nil_of_length_eq_zero (Nat.eq_zero_of_dvd_of_lt hl g)
   subst e
   have e' : r = [] := List.eq_nil_of_length_eq_zero (by rw [h.length]; rfl)
   subst e'
   exact .last hm hs
  ·
   exact .cons (by omega) h (.last hm hs)
 | cons he h _ ih =>
  rw [List.append_assoc, List.append_assoc]
  refine .cons he h (ih ?_)
  rw [List.length_append, he] at hl
  exact (Nat.dvd_add_right (Nat.dvd_refl n)).1 hl
end chunks
section search
variable {lt : α → α → Bool}
end search
end Go.Proofs.Ytaedmofnhjaljaa.Srt
namespace Go.Proofs.Ytaedmofnhjaljaa.Srt
open Go Go.Shelf Go.RowKit Go.Lib Go.Sort Go.Proofs
structure BW (w : World) where
 w' : World
 h : Below w.heap.size w w'
instance (w : World) : Inhabited (BW w) := ⟨⟨w, Below.refl _ _⟩⟩
section
variable {α : Type} [Inhabited α]
structure SWB (enc : α → List Value) (k : Nat) (w0 : World) (blk off : Nat) (dk : Array α) (W : World) : Prop where
 os : W.os = w0.os
 tape : W.tape = w0.tape
 output : W.output = w0.output
 size : w0.heap.size ≤ W.heap.size
 other : ∀ i, i < w0.heap.size → i ≠ blk → W.heap[i]? = w0.heap[i]?
 row : W.heap[blk]? = (putRowK enc k w0 blk off dk).heap[blk]?
variable {enc : α → List Value} {k : Nat} {w0 W : World} {blk off : Nat} {dk d0 : Array α} {P : Program}
theorem SWB.start (h : HoldsK enc k w0 blk off dk) : SWB enc k w0 blk off dk w0 := ⟨rfl, rfl, rfl, Nat.le_refl _, fun _ _ _ => rfl, by rw [putRowK_self enc k w0 blk off dk h]⟩
theorem SWB.on (h : SWB enc k w0 blk off dk W) (hblk : blk < w0.heap.size) {W' : World} (hb : Below W.heap.size W W') : SWB enc k w0 blk off dk W' :=
 ⟨hb.os.trans h.os, hb.tape.trans h.tape, hb.output.trans h.output, Nat.le_trans h.size hb.size, fun i hi hne => (hb.block i (Nat.lt_of_lt_of_le hi h.size)).trans (h.other i hi hne), (hb.block blk (Nat.lt_of_lt_of_le hblk h.size)).trans h.row⟩
theorem SWB.drew (h : SWB enc k w0 blk off dk W) : SWB enc k w0 blk off dk W.drew := ⟨h.os, h.tape, h.output, h.size, h.other, h.row⟩
theorem SWB.holds (h : SWB enc k w0 blk off dk W) (h0 : HoldsK enc k w0 blk off d0) (hs : dk.size = d0.size) : HoldsK enc k W blk off dk := by
 have g := holdsK_putRowK enc k w0 blk off d0 dk h0 hs
 intro j hj
 obtain ⟨g1, g2⟩ := g j hj
 constructor
 ·
  rw [← g1]; unfold World.cell?; rw [show (⟨blk, off + j, none⟩ : Addr).block = blk from rfl, h.row]
 ·
  rw [← g2]; unfold World.frozen?; rw [show (⟨blk, off + j, none⟩ : Addr).block = blk from rfl, h.row]
theorem SWB.grown (h : SWB enc k w0 blk off dk W) (R : RowK enc k w0 blk off d0) (p : BW W) : SWB enc k w0 blk off dk p.w' := h.on R.hblk p.h
theorem SWB.load (h : SWB enc k w0 blk off dk W) (R : RowK enc k w0 blk off d0) (hs : dk.size = d0.size) (P : Program) (i : Nat) (hi : i < dk.size) :
  Sem.run P (loadCellsFrom ⟨blk, off + i * k, none⟩ 0 k #[]) W = .ok (enc dk[i]!).toArray W :=
 run_loadCellsFrom_list P _ _ _ k (R.hk _) (HoldsK.cells (h.holds R.hH hs) R.hk hi)
omit [Inhabited α] in
theorem setCells_row (blk : Nat) : ∀ (vs : List Value) (o : Nat) (W V : World), W.heap[blk]? = V.heap[blk]? → (W.setCells blk o vs).heap[blk]? = (V.setCells blk o vs).heap[blk]?
 | [], _, _, _, h => h
 | v :: vs, o, W, V, h => setCells_row blk vs (o + 1) _ _ (by simp only [World.setCell, Array.getElem?_modify, if_true, h])
omit [Inhabited α] in
theorem setCells_same (blk : Nat) : ∀ (vs : List Value) (o : Nat) (W : World), (W.setCells blk o vs).os = W.os ∧ (W.setCells blk o vs).tape = W.tape ∧ (W.setCells blk o vs).output = W.output ∧ (W.setCells blk o vs).heap.size = W.heap.size ∧ ∀ i, i ≠ blk → (W.setCells blk o vs).heap[i]? = W.heap[i]?
 | [], _, _ => ⟨rfl, rfl, rfl, rfl, fun _ _ => rfl⟩
 | v :: vs, o, W => by
  obtain ⟨h1, h2, h3, h4, h5⟩ := setCells_same blk vs (o + 1) (W.setCell ⟨blk, o, none⟩ v)
  refine ⟨h1, h2, h3, h4.trans (by simp [World.setCell]), fun i hi => (h5 i hi).trans ?_⟩
  simp only [World.setCell, Array.getElem?_modify]
  rw [if_neg (fun e => hi e.symm)]
end
end Go.Proofs.Ytaedmofnhjaljaa.Srt
namespace Go.Proofs.Ytaedmofnhjaljaa.Pl
open Go Go.RowKit
theorem wrap_u64 (n : Int) : IntKind.u64.wrap n = n % 18446744073709551616 := by simp [IntKind.wrap, IntKind.bits, IntKind.signed]
theorem wraps_u64 (n : Int) (h₀ : 0 ≤ n) (h₁ : n < 2 ^ 64) : IntKind.u64.wrap n = n := by rw [wrap_u64]; omega
theorem or_join (i : Nat) (x y : Int) (hx₀ : 0 ≤ x) (hx : x % 2 ^ i = 0) (hx₁ : x < 2 ^ 64) (hy₀ : 0 ≤ y) (hy : y < 2 ^ i) (hy₁ : y < 2 ^ 64) : Go.bits .or .u64 x y = x + y :=
 bits_join .u64 64 (by decide) wraps_u64 i x y hx₀ hx hx₁ hy₀ hy hy₁
theorem or_comm64 (x y : Int) : Go.bits .or .u64 x y = Go.bits .or .u64 y x := by
 unfold Go.bits
 simp only [BitVec.or_comm]
theorem xor_zero (x : Int) (h0 : 0 ≤ x) (h1 : x < 18446744073709551616) : Go.bits .xor .u64 x 0 = x := by
 obtain ⟨a, rfl⟩ := Int.eq_ofNat_of_zero_le h0
 unfold Go.bits
 simp only [BitVec.ofInt_natCast, show ((0 : Int)) = ((0 : Nat) : Int) from rfl, BitVec.toNat_xor, BitVec.toNat_ofNat]
 rw [wrap_u64]
 simp [IntKind.bits]
 omega
theorem xor_ones (x : Int) (h0 : 0 ≤ x) (h1 : x < 18446744073709551616) : Go.bits .xor .u64 x 18446744073709551615 = 18446744073709551615 - x := by
 obtain ⟨a, rfl⟩ := Int.eq_ofNat_of_zero_le h0
 have e : BitVec.ofInt 64 18446744073709551615 = BitVec.allOnes 64 := by decide
 show IntKind.u64.wrap (((BitVec.ofInt 64 (a : Int) ^^^ BitVec.ofInt 64 18446744073709551615 : BitVec 64).toNat : Nat) : Int) = _
 rw [e, BitVec.xor_allOnes, BitVec.toNat_not, BitVec.ofInt_natCast, BitVec.toNat_ofNat, wrap_u64]
 omega
set_option maxRecDepth 100000 in
theorem or_128 : ∀ b : Nat, b < 256 → Go.bits .or .u8 (b : Int) 128 = ((b % 128 + 128 : Nat) : Int) := by decide
theorem or_128' (x : Int) (h : 0 ≤ x) : Go.bits .or .u8 (x % 256) 128 = x % 128 + 128 := by
 obtain ⟨a, rfl⟩ := Int.eq_ofNat_of_zero_le h
 have := or_128 (a % 256) (Nat.mod_lt _ (by decide))
 rw [show ((a : Int) % 256) = ((a % 256 : Nat) : Int) by omega, this]
 omega
def putL : Nat → Int → List Int
 | 0, _ => []
 | k + 1, u => if u > 127 then (u % 128 + 128) :: putL k (u / 128) else [u]
theorem putL_len : ∀ k u, (putL k u).length ≤ k
 | 0, _ => Nat.le_refl _
 | k + 1, u => by
  unfold putL
  split
  ·
   have := putL_len k (u / 128); simp; omega
  ·
   simp
def zig (n : Int) : Int := if n < 0 then -2 * n - 1 else 2 * n
theorem zig_range {n : Int} (h0 : -9223372036854775808 ≤ n) (h1 : n ≤ 9223372036854775807) : 0 ≤ zig n ∧ zig n < 18446744073709551616 := by unfold zig; split <;> omega
theorem zig_bits {n : Int} (h0 : -9223372036854775808 ≤ n) (h1 : n ≤ 9223372036854775807) :
  Go.bits .xor .u64 (IntKind.u64.wrap (IntKind.u64.wrap n * 2)) (IntKind.u64.wrap (n / 9223372036854775808)) = zig n := by
 simp only [wrap_u64]
 unfold zig
 by_cases h : n < 0
 ·
  rw [if_pos h, show n / 9223372036854775808 % 18446744073709551616 = 18446744073709551615 by omega, xor_ones _ (by omega) (by omega)]
  omega
 ·
  rw [if_neg h, show n / 9223372036854775808 % 18446744073709551616 = 0 by omega, xor_zero _ (by omega) (by omega)]
  omega
theorem zig_plain {n : Int} (h0 : -9223372036854775808 ≤ n) (h1 : n ≤ 9223372036854775807) :
  (if n < 0 then some (IntKind.u64.wrap ((IntKind.u64.wrap (2 * (IntKind.u64.wrap (wrap64 (-(wrap64 (n + 1))))))) + 1)) else some (IntKind.u64.wrap (2 * (IntKind.u64.wrap n)))) = some (zig n) := by
 unfold zig
 simp only [wrap_u64]
 by_cases h : n < 0
 ·
  rw [if_pos h, if_pos h]
  congr 1
  have e1 : wrap64 (n + 1) = n + 1 := by unfold wrap64; omega
  have e2 : wrap64 (-(n + 1)) = -(n + 1) := by unfold wrap64; omega
  rw [e1, e2]; omega
 ·
  rw [if_neg h, if_neg h]; congr 1; omega
end Go.Proofs.Ytaedmofnhjaljaa.Pl
