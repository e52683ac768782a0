/-
 DERIVED: THE SHELF's CONTRACTS AT THIS DUMP, IN PLAIN WORDS (tools/lay-plain.mjs out of 'TryShelf.lean', which tools/lay-shelf.mjs wrote): THE SAME DECLARATIONS UNDER THE SAME NAMES: 'import', 'namespace', 'open', 'def', 'theorem' AND NOTHING ELSE: no command of the shelf's: FOR A HAND-IN. Each laying: the table of numbers ('.._ren') and one theorem, a field a fact of the dump's own or the kernel's comparison; each contract: ONE APPLICATION.
-/
import Derived.Shelf.GgClosure.StringsIndexFunc
import Derived.Ground.GgwProg
import Derived.Shelf.GgClosure.StringsIndexFuncTop
import Derived.Ground.Names2Prog
import Derived.Shelf.Slices.SearchI
import Derived.Test.YtlffkbcaphhldaaProg
import Derived.Shelf.SlSortCmp.KitK
import Derived.Below
import Derived.Lib.ConvBytes
namespace Go.Proofs
open Go.Shelf
set_option linter.unusedVariables false
set_option linter.unusedSimpArgs false
def Try.laysGw17_ren : Go.Shelf.Ren := ⟨fun | 17 => 58 | 15 => 60 | 20 => 61 | n => n, fun | 9 => 9 | 23 => 91 | 4 => 4 | 3 => 3 | 0 => 0 | 21 => 21 | n => n, fun | n => n⟩
theorem Try.laysGw17 : Go.Proofs.LaysGw.n17 Try.prog Try.laysGw17_ren := {
 mixed := by kernel_rfl
 f15 := Try.func60.trans (congrArg some (by kernel_rfl))
 f17 := Try.func58.trans (congrArg some (by kernel_rfl))
 f20 := Try.func61.trans (congrArg some (by kernel_rfl))
 t0 := Try.underlying0
 a0 := Try.isAgg0
 z0 := Try.sizeOf0
 v0 := Try.zeroValue0
 i0 := by kernel_rfl
 t3 := Try.underlying3
 a3 := Try.isAgg3
 z3 := Try.sizeOf3
 v3 := Try.zeroValue3
 i3 := by kernel_rfl
 t4 := Try.underlying4
 a4 := Try.isAgg4
 z4 := Try.sizeOf4
 v4 := Try.zeroValue4
 i4 := by kernel_rfl
 t9 := Try.underlying9
 a9 := Try.isAgg9
 z9 := Try.sizeOf9
 v9 := Try.zeroValue9
 i9 := by kernel_rfl
 t21 := Try.underlying21
 a21 := Try.isAgg21
 z21 := Try.sizeOf21
 v21 := Try.zeroValue21
 i21 := by kernel_rfl
 t23 := Try.underlying91
 a23 := Try.isAgg91
 z23 := Try.sizeOf91
 v23 := Try.zeroValue91
 i23 := by kernel_rfl }
open Go.RowKit Go.Lib in
theorem Try.strings_ContainsFunc (g : Nat) (lb : Array Value) (eg : ∀ args w, (callFunc g args).run Try.prog w = .ok (.enter g args) w) (p : Nat → Bool) (s : ByteArray) (w : World) (hp : PredAt Try.prog g lb encR p w) :
  Calls Try.prog 58 #[.string s, .func (.func g) #[] lb] w fun e w' => e = .returned (.bool (decide (0 ≤ Lib.idxFunc p true s))) ∧ Below w.heap.size w w' := Any.strings_ContainsFunc Try.laysGw17 g lb eg p s w hp
end Go.Proofs
namespace Go.Proofs.Ytlffkbcaphhldaa.Srt
open Go Go.Shelf Go.RowKit Go.Lib Go.Sort Go.Proofs
set_option linter.unusedVariables false
set_option linter.unusedSimpArgs false
structure BW (w : World) where
 w' : World
 h : Below w.heap.size w w'
instance (w : World) : Inhabited (BW w) := ⟨⟨w, Below.refl _ _⟩⟩
theorem below_drew0 (w : World) : Below w.heap.size w w.drew := ⟨rfl, rfl, rfl, Nat.le_refl _, fun _ _ => rfl⟩
theorem wp_region_quiet_bw {P : Program} {id : Nat} {Q : Exit → Act → World → Prop} {a : Act} {w : World} {l : List Oper} (hm : P.follows .mixedOrders = true) (hB : Region.lexB .any l.toArray = true)
  (h : wpQuiet P l.toArray (fun w' => ∃ p : BW w, w' = p.w') (fun a' => ∀ w', (∃ p : BW w, w' = p.w') → Q .normal a' w') l a) : (Code.region id l.toArray true).wp P Q a w :=
 wp_region_quiet (C := fun w' => ∃ p : BW w, w' = p.w') hm hB ⟨⟨w.drew, below_drew0 w⟩, rfl⟩ (by simpa using h)
theorem Calls.bw_of {P : Program} {f : FuncId} {args : Array Value} {w : World} {p : BW w} {v : Value}
  (h : Calls P f args p.w' fun e w' => e = .returned v ∧ Below p.w'.heap.size p.w' w') : Calls P f args p.w' fun e w'' => e = .returned v ∧ ∃ q : BW w, w'' = q.w' :=
 h.mono fun _ w2 ⟨he, hb⟩ => ⟨he, ⟨w2, p.h.trans (hb.mono p.h.size)⟩, rfl⟩
section
variable {α : Type} [Inhabited α]
structure SWB (enc : α → List Value) (k : Nat) (w0 : World) (blk off : Nat) (dk : Array α) (W : World) : Prop where
 os : W.os = w0.os
 tape : W.tape = w0.tape
 output : W.output = w0.output
 size : w0.heap.size ≤ W.heap.size
 other : ∀ i, i < w0.heap.size → i ≠ blk → W.heap[i]? = w0.heap[i]?
 row : W.heap[blk]? = (putRowK enc k w0 blk off dk).heap[blk]?
variable {enc : α → List Value} {k : Nat} {w0 W : World} {blk off : Nat} {dk d0 : Array α} {P : Program}
theorem SWB.on (h : SWB enc k w0 blk off dk W) (hblk : blk < w0.heap.size) {W' : World} (hb : Below W.heap.size W W') : SWB enc k w0 blk off dk W' :=
 ⟨hb.os.trans h.os, hb.tape.trans h.tape, hb.output.trans h.output, Nat.le_trans h.size hb.size, fun i hi hne => (hb.block i (Nat.lt_of_lt_of_le hi h.size)).trans (h.other i hi hne), (hb.block blk (Nat.lt_of_lt_of_le hblk h.size)).trans h.row⟩
theorem SWB.drew (h : SWB enc k w0 blk off dk W) : SWB enc k w0 blk off dk W.drew := ⟨h.os, h.tape, h.output, h.size, h.other, h.row⟩
theorem SWB.holds (h : SWB enc k w0 blk off dk W) (h0 : HoldsK enc k w0 blk off d0) (hs : dk.size = d0.size) : HoldsK enc k W blk off dk := by
 have g := holdsK_putRowK enc k w0 blk off d0 dk h0 hs
 intro j hj
 obtain ⟨g1, g2⟩ := g j hj
 constructor
 ·
  rw [← g1]; unfold World.cell?; rw [show (⟨blk, off + j, none⟩ : Addr).block = blk from rfl, h.row]
 ·
  rw [← g2]; unfold World.frozen?; rw [show (⟨blk, off + j, none⟩ : Addr).block = blk from rfl, h.row]
theorem SWB.grown (h : SWB enc k w0 blk off dk W) (R : RowK enc k w0 blk off d0) (p : BW W) : SWB enc k w0 blk off dk p.w' := h.on R.hblk p.h
theorem SWB.load (h : SWB enc k w0 blk off dk W) (R : RowK enc k w0 blk off d0) (hs : dk.size = d0.size) (P : Program) (i : Nat) (hi : i < dk.size) :
  Sem.run P (loadCellsFrom ⟨blk, off + i * k, none⟩ 0 k #[]) W = .ok (enc dk[i]!).toArray W :=
 run_loadCellsFrom_list P _ _ _ k (R.hk _) (HoldsK.cells (h.holds R.hH hs) R.hk hi)
end
end Go.Proofs.Ytlffkbcaphhldaa.Srt
namespace Go.Proofs.Ytlffkbcaphhldaa.Srt
open Go Go.RowKit Go.Sort
set_option linter.unusedVariables false
set_option linter.unusedSimpArgs false
variable {α : Type}
section stab
variable (lt : α → α → Bool)
structure WOrd : Prop where
 asym : ∀ x y, lt x y = true → lt y x = false
 tr : ∀ x y z, lt y x = false → lt z y = false → lt z x = false
def eqv (a b : α) : Bool := !lt a b && !lt b a
structure Stab (l r : List α) : Prop where
 perm : r.Perm l
 srt : r.Pairwise fun x y => lt y x = false
 flt : ∀ a, r.filter (eqv lt a) = l.filter (eqv lt a)
variable {lt}
theorem WOrd.irr (H : WOrd lt) (x : α) : lt x x = false := by
 cases h : lt x x
 ·
  rfl
 ·
  have := H.asym x x h; rw [h] at this; exact this
theorem eqv_self (H : WOrd lt) (x : α) : eqv lt x x = true := by simp [eqv, H.irr x]
theorem eqv_iff {a b : α} : eqv lt a b = true ↔ lt a b = false ∧ lt b a = false := by simp [eqv]
theorem Stab.refl {l : List α} (h : l.Pairwise fun x y => lt y x = false) : Stab lt l l := ⟨List.Perm.refl _, h, fun _ => rfl⟩
theorem unique (H : WOrd lt) : ∀ (r s : List α), (r.Pairwise fun x y => lt y x = false) → (s.Pairwise fun x y => lt y x = false) → (∀ a, r.filter (eqv lt a) = s.filter (eqv lt a)) → r = s
 | [], [], _, _, _ => rfl
 | [], y :: s, _, _, h => by
  have := h y
  rw [List.filter_cons_of_pos (by exact eqv_self H y)] at this
  cases this
 | x :: r, [], _, _, h => by
  have := h x
  rw [List.filter_cons_of_pos (by exact eqv_self H x)] at this
  cases this
 | x :: r, y :: s, hr, hs, h => by
  have hx : x ∈ (y :: s).filter (eqv lt x) := by rw [← h x]; exact List.mem_filter.2 ⟨List.mem_cons_self, eqv_self H x⟩
  have hy : y ∈ (x :: r).filter (eqv lt y) := by rw [h y]; exact List.mem_filter.2 ⟨List.mem_cons_self, eqv_self H y⟩
  have h1 : lt x y = false := by
   rcases List.mem_cons.1 (List.mem_filter.1 hx).1 with e | e
   ·
    rw [e]; exact H.irr y
   ·
    exact (List.pairwise_cons.1 hs).1 x e
  have h2 : lt y x = false := by
   rcases List.mem_cons.1 (List.mem_filter.1 hy).1 with e | e
   ·
    rw [e]; exact H.irr x
   ·
    exact (List.pairwise_cons.1 hr).1 y e
  have e := h x
  rw [List.filter_cons_of_pos (by exact eqv_self H x), List.filter_cons_of_pos (by exact eqv_iff.2 ⟨h1, h2⟩)] at e
  injection e with e1 _
  subst e1
  congr 1
  refine unique H r s (List.pairwise_cons.1 hr).2 (List.pairwise_cons.1 hs).2 fun a => ?_
  have e := h a
  cases ha : eqv lt a x
  ·
   rw [List.filter_cons_of_neg (by simp [ha]), List.filter_cons_of_neg (by simp [ha])] at e; exact e
  ·
   rw [List.filter_cons_of_pos ha, List.filter_cons_of_pos ha] at e; injection e
theorem Stab.eq (H : WOrd lt) {l r s : List α} (h : Stab lt l r) (h' : Stab lt l s) : r = s := unique H r s h.srt h'.srt fun a => (h.flt a).trans (h'.flt a).symm
theorem Stab.trans {l m r : List α} (h : Stab lt l m) (h' : Stab lt m r) : Stab lt l r := ⟨h'.perm.trans h.perm, h'.srt, fun a => (h'.flt a).trans (h.flt a)⟩
theorem Stab.length {l r : List α} (h : Stab lt l r) : r.length = l.length := h.perm.length_eq
theorem Stab.mem {l r : List α} (h : Stab lt l r) (x : α) : x ∈ r ↔ x ∈ l := h.perm.mem_iff
def ins (lt : α → α → Bool) (x : α) : List α → List α
 | [] => [x]
 | y :: l => if lt x y then x :: y :: l else y :: ins lt x l
end stab
section arr
variable [Inhabited α]
end arr
theorem part (l : List α) (i : Nat) (h : i ≤ l.length) : ∃ p q, l = p ++ q ∧ p.length = i := ⟨l.take i, l.drop i, (List.take_append_drop _ _).symm, by rw [List.length_take]; omega⟩
section chunks
variable (lt : α → α → Bool) (n : Nat)
inductive Chunks : List α → List α → Prop
 | last {l r : List α} : l.length ≤ n → Stab lt l r → Chunks l r
 | cons {l r ls rs : List α} : l.length = n → Stab lt l r → Chunks ls rs → Chunks (l ++ ls) (r ++ rs)
variable {lt n}
theorem Chunks.length {l r : List α} (h : Chunks lt n l r) : r.length = l.length := by
 induction h with
 | last _ h => exact h.length
 | cons _ h _ ih => rw [List.length_append, List.length_append, ih, h.length]
theorem Chunks.done {l r : List α} (h : Chunks lt n l r) (hl : l.length ≤ n) : Stab lt l r := by
 cases h with
 | last _ h => exact h
 | cons hn h hs =>
  rename_i l r ls rs
  have e : ls = [] := List.eq_nil_of_length_eq_zero (by rw [List.length_append] at hl; omega)
  have e' : rs = [] := List.eq_nil_of_length_eq_zero (by rw [hs.length, e]; rfl)
  subst e e'
  simpa using h
theorem Chunks.snoc {l r m s : List α} (h : Chunks lt n l r) (hl : n ∣ l.length) (hm : m.length ≤ n) (hs : Stab lt m s) : Chunks lt n (l ++ m) (r ++ s) := by
 induction h with
 | last hl' h =>
  rename_i l r
  rcases Nat.lt_or_ge l.length n with g | g
  ·
   have e : l = [] := List.eq_nil_of_length_eq_zero (Nat.eq_zero_of_dvd_of_lt hl g)
   subst e
   have e' : r = [] := List.eq_nil_of_length_eq_zero (by rw [h.length]; rfl)
   subst e'
   exact .last hm hs
  ·
   exact .cons (by omega) h (.last hm hs)
 | cons he h _ ih =>
  rw [List.append_assoc, List.append_assoc]
  refine .cons he h (ih ?_)
  rw [List.length_append, he] at hl
  exact (Nat.dvd_add_right (Nat.dvd_refl n)).1 hl
end chunks
section search
variable {lt : α → α → Bool}
end search
end Go.Proofs.Ytlffkbcaphhldaa.Srt
namespace Go.Proofs.Ytlffkbcaphhldaa.Ord
open Go
set_option linter.unusedVariables false
set_option linter.unusedSimpArgs false
structure Cmp3 {α : Type} (c : α → α → Int) : Prop where
 anti : ∀ x y, c x y = - c y x
 trans : ∀ x y z, c x y ≤ 0 → c y z ≤ 0 → c x z ≤ 0
theorem Cmp3.refl {α : Type} {c : α → α → Int} (h : Cmp3 c) (x : α) : c x x = 0 := by have := h.anti x x; omega
def lex {α : Type} (c d : α → α → Int) (x y : α) : Int := if c x y = 0 then d x y else c x y
theorem Cmp3.lex {α : Type} {c d : α → α → Int} (hc : Cmp3 c) (hd : Cmp3 d) : Cmp3 (lex c d) := by
 refine ⟨fun x y => ?_, fun x y z h1 h2 => ?_⟩
 ·
  have := hc.anti x y; have := hd.anti x y
  unfold Ord.lex
  split <;> split <;> omega
 ·
  have a1 := hc.anti x y; have a2 := hc.anti y z; have a3 := hc.anti x z
  have t1 := hc.trans x y z; have t2 := hc.trans z x y; have t3 := hc.trans y z x
  have d1 := hd.trans x y z
  unfold Ord.lex at h1 h2 ⊢
  by_cases e1 : c x y = 0 <;> by_cases e2 : c y z = 0 <;> by_cases e3 : c x z = 0 <;> simp only [e1, e2, e3, if_true, if_false] at h1 h2 ⊢ <;> omega
theorem Cmp3.on {α β : Type} {c : β → β → Int} (h : Cmp3 c) (f : α → β) : Cmp3 (fun x y => c (f x) (f y)) := ⟨fun _ _ => h.anti _ _, fun _ _ _ => h.trans _ _ _⟩
def ci (a b : Int) : Int := if a < b then -1 else if b < a then 1 else 0
theorem ci_cmp : Cmp3 ci := by
 refine ⟨fun x y => ?_, fun x y z => ?_⟩ <;> unfold ci <;> repeat' split
 all_goals omega
theorem ci_zero {a b : Int} : ci a b = 0 ↔ a = b := by unfold ci; split <;> (try split) <;> omega
theorem less_irrefl : ∀ x : List UInt8, Op.bytesLess x x = false
 | [] => by simp [Op.bytesLess]
 | a :: x => by simp [Op.bytesLess, less_irrefl x]
theorem less_asymm : ∀ x y : List UInt8, Op.bytesLess x y = true → Op.bytesLess y x = false
 | [], [], h => by simp [Op.bytesLess] at h
 | [], _ :: _, _ => by simp [Op.bytesLess]
 | _ :: _, [], h => by simp [Op.bytesLess] at h
 | a :: x, b :: y, h => by
  simp only [Op.bytesLess, Bool.or_eq_true, decide_eq_true_eq, Bool.and_eq_true, beq_iff_eq] at h
  simp only [Op.bytesLess, Bool.or_eq_false_iff, decide_eq_false_iff_not, Bool.and_eq_false_iff]
  rcases h with h | ⟨rfl, h⟩
  ·
   refine ⟨fun h' => ?_, .inl ?_⟩
   ·
    exact absurd (UInt8.lt_trans h h') (UInt8.lt_irrefl _)
   ·
    simp only [beq_eq_false_iff_ne]; rintro rfl; exact UInt8.lt_irrefl _ h
  ·
   exact ⟨UInt8.lt_irrefl _, .inr (less_asymm x y h)⟩
theorem less_total : ∀ x y : List UInt8, Op.bytesLess x y = true ∨ x = y ∨ Op.bytesLess y x = true
 | [], [] => .inr (.inl rfl)
 | [], _ :: _ => .inl (by simp [Op.bytesLess])
 | _ :: _, [] => .inr (.inr (by simp [Op.bytesLess]))
 | a :: x, b :: y => by
  simp only [Op.bytesLess, Bool.or_eq_true, decide_eq_true_eq, Bool.and_eq_true, beq_iff_eq, List.cons.injEq]
  by_cases h : a < b
  ·
   exact .inl (.inl h)
  by_cases h' : b < a
  ·
   exact .inr (.inr (.inl h'))
  have e : a = b := by
   have h1 := UInt8.not_lt.1 h; have h2 := UInt8.not_lt.1 h'
   exact UInt8.le_antisymm h2 h1
  subst e
  rcases less_total x y with h1 | h1 | h1
  ·
   exact .inl (.inr ⟨rfl, h1⟩)
  ·
   exact .inr (.inl ⟨rfl, h1⟩)
  ·
   exact .inr (.inr (.inr ⟨rfl, h1⟩))
theorem less_trans : ∀ x y z : List UInt8, Op.bytesLess x y = true → Op.bytesLess y z = true → Op.bytesLess x z = true
 | [], y, [], h1, h2 => by cases y <;> simp [Op.bytesLess] at h1 h2
 | [], _, _ :: _, _, _ => by simp [Op.bytesLess]
 | _ :: _, [], _, h1, _ => by simp [Op.bytesLess] at h1
 | _ :: _, _ :: _, [], _, h2 => by simp [Op.bytesLess] at h2
 | a :: x, b :: y, c :: z, h1, h2 => by
  simp only [Op.bytesLess, Bool.or_eq_true, decide_eq_true_eq, Bool.and_eq_true, beq_iff_eq] at h1 h2 ⊢
  rcases h1 with h1 | ⟨rfl, h1⟩ <;> rcases h2 with h2 | ⟨rfl, h2⟩
  ·
   exact .inl (UInt8.lt_trans h1 h2)
  ·
   exact .inl h1
  ·
   exact .inl h2
  ·
   exact .inr ⟨rfl, less_trans x y z h1 h2⟩
def cl (a b : List UInt8) : Int := if Op.bytesLess a b = true then -1 else if a = b then 0 else 1
theorem cl_zero {a b : List UInt8} : cl a b = 0 ↔ a = b := by
 unfold cl
 by_cases h : Op.bytesLess a b = true
 ·
  rw [if_pos h]; constructor
  ·
   intro h'; omega
  ·
   rintro rfl; rw [less_irrefl] at h; cases h
 ·
  rw [if_neg h]; split <;> simp_all
theorem cl_neg {a b : List UInt8} : cl a b < 0 ↔ Op.bytesLess a b = true := by
 unfold cl; split <;> (try split) <;> simp_all
theorem cl_cmp : Cmp3 cl := by
 have anti : ∀ x y, cl x y = - cl y x := fun x y => by
  rcases less_total x y with h | rfl | h
  ·
   have h' := less_asymm _ _ h
   have : y ≠ x := by rintro rfl; rw [less_irrefl] at h; cases h
   simp [cl, h, h', this]
  ·
   simp [cl, less_irrefl]
  ·
   have h' := less_asymm _ _ h
   have : x ≠ y := by rintro rfl; rw [less_irrefl] at h; cases h
   simp [cl, h, h', this]
 refine ⟨anti, fun x y z h1 h2 => ?_⟩
 have key : ∀ {u v}, cl u v ≤ 0 → Op.bytesLess u v = true ∨ u = v := fun {u v} h => by
  by_cases h0 : cl u v = 0
  ·
   exact .inr (cl_zero.1 h0)
  ·
   exact .inl (cl_neg.1 (by omega))
 rcases key h1 with h1 | rfl
 ·
  rcases key h2 with h2 | rfl
  ·
   have := cl_neg.2 (less_trans _ _ _ h1 h2); omega
  ·
   have := cl_neg.2 h1; omega
 ·
  exact h2
def cs (a b : ByteArray) : Int := cl a.toList b.toList
theorem cs_cmp : Cmp3 cs := cl_cmp.on _
theorem cs_zero {a b : ByteArray} : cs a b = 0 ↔ a.toList = b.toList := cl_zero
theorem lex_zero {α : Type} {c d : α → α → Int} {x y : α} : lex c d x y = 0 ↔ c x y = 0 ∧ d x y = 0 := by
 unfold lex; split <;> simp_all
end Go.Proofs.Ytlffkbcaphhldaa.Ord
namespace Go.Proofs.Ytlffkbcaphhldaa.Nm
open Go.Proofs.Ytlffkbcaphhldaa.Ord Go.Proofs.Ytlffkbcaphhldaa.Srt
set_option linter.unusedVariables false
set_option linter.unusedSimpArgs false
section
variable {α κ : Type} (c : κ → κ → Int) (key : α → κ) (jn : α → α → α)
def add (x : α) : List α → List α
 | [] => [x]
 | y :: l => if c (key y) (key x) = 0 then jn y x :: l else if c (key y) (key x) > 0 then x :: y :: l else y :: add x l
def norm (l : List α) : List α := l.foldl (fun s x => add c key jn x s) []
def Inc (l : List α) : Prop := l.Pairwise fun x y => c (key x) (key y) < 0
def lk (k : κ) (l : List α) : Option α := l.find? fun x => c (key x) k == 0
def jo (o : Option α) (x : α) : Option α := match o with | none => some x | some a => some (jn a x)
def gets (k : κ) (l : List α) : Option α := (l.filter fun x => c (key x) k == 0).foldl (jo jn) none
variable {c key jn}
theorem add_less (x : α) {y : α} {l : List α} (h : c (key y) (key x) < 0) : add c key jn x (y :: l) = y :: add c key jn x l := by
 rw [add, if_neg (by omega), if_neg (by omega)]
theorem add_same (x : α) {y : α} {l : List α} (h : c (key y) (key x) = 0) : add c key jn x (y :: l) = jn y x :: l := by
 rw [add, if_pos h]
theorem add_more (x : α) {y : α} {l : List α} (h : c (key y) (key x) > 0) : add c key jn x (y :: l) = x :: y :: l := by
 rw [add, if_neg (by omega), if_pos h]
theorem add_key (hj : ∀ a b, key (jn a b) = key a) (x : α) : ∀ (l : List α) (z : α), z ∈ add c key jn x l → key z = key x ∨ ∃ y ∈ l, key z = key y
 | [], z, h => by rw [add, List.mem_singleton] at h; exact .inl (by rw [h])
 | y :: l, z, h => by
  unfold add at h
  split at h
  ·
   rcases List.mem_cons.1 h with rfl | h
   ·
    exact .inr ⟨y, List.mem_cons_self, hj _ _⟩
   ·
    exact .inr ⟨z, List.mem_cons_of_mem _ h, rfl⟩
  ·
   split at h
   ·
    rcases List.mem_cons.1 h with rfl | h
    ·
     exact .inl rfl
    ·
     exact .inr ⟨z, h, rfl⟩
   ·
    rcases List.mem_cons.1 h with rfl | h
    ·
     exact .inr ⟨z, List.mem_cons_self, rfl⟩
    ·
     rcases add_key hj x l z h with h | ⟨w, hw, e⟩
     ·
      exact .inl h
     ·
      exact .inr ⟨w, List.mem_cons_of_mem _ hw, e⟩
theorem add_inc (H : Cmp3 c) (hj : ∀ a b, key (jn a b) = key a) (x : α) : ∀ (l : List α), Inc c key l → Inc c key (add c key jn x l)
 | [], _ => List.pairwise_singleton _ _
 | y :: l, h => by
  have hp := List.pairwise_cons.1 h
  have n1 := H.anti (key y) (key x)
  unfold add
  split
  ·
   exact List.pairwise_cons.2 ⟨fun z hz => by rw [hj]; exact hp.1 z hz, hp.2⟩
  ·
   split
   ·
    refine List.pairwise_cons.2 ⟨fun z hz => ?_, h⟩
    rcases List.mem_cons.1 hz with rfl | hz
    ·
     omega
    ·
     have := hp.1 z hz
     have t := H.trans (key x) (key y) (key z); have t' := H.trans (key z) (key x) (key y); have a1 := H.anti (key x) (key z); have a2 := H.anti (key y) (key z)
     omega
   ·
    refine List.pairwise_cons.2 ⟨fun z hz => ?_, add_inc H hj x l hp.2⟩
    rcases add_key hj x l z hz with e | ⟨w, hw, e⟩
    ·
     rw [e]; omega
    ·
     rw [e]; exact hp.1 w hw
theorem run_inc (H : Cmp3 c) (hj : ∀ a b, key (jn a b) = key a) : ∀ (l s : List α), Inc c key s → Inc c key (l.foldl (fun s x => add c key jn x s) s)
 | [], _, h => h
 | x :: l, s, h => run_inc H hj l _ (add_inc H hj x s h)
theorem norm_inc (H : Cmp3 c) (hj : ∀ a b, key (jn a b) = key a) (l : List α) : Inc c key (norm c key jn l) := run_inc H hj l [] List.Pairwise.nil
theorem add_len (x : α) : ∀ l : List α, (add c key jn x l).length ≤ l.length + 1
 | [] => Nat.le_refl _
 | y :: l => by
  have := add_len x l
  unfold add; split <;> (try split) <;> simp <;> omega
theorem run_len : ∀ (l s : List α), (l.foldl (fun s x => add c key jn x s) s).length ≤ s.length + l.length
 | [], _ => Nat.le_refl _
 | x :: l, s => by
  have h1 := run_len l (add c key jn x s)
  have h2 := add_len (c := c) (key := key) (jn := jn) x s
  simp only [List.foldl_cons, List.length_cons]; omega
theorem norm_len (l : List α) : (norm c key jn l).length ≤ l.length := by have := run_len (c := c) (key := key) (jn := jn) l []; simpa [norm] using this
theorem lk_cons (k : κ) (y : α) (l : List α) : lk c key k (y :: l) = if c (key y) k = 0 then some y else lk c key k l := by
 unfold lk
 by_cases h : c (key y) k = 0
 ·
  rw [List.find?_cons_of_pos (by simp [h]), if_pos h]
 ·
  rw [List.find?_cons_of_neg (by simp [h]), if_neg h]
theorem lk_none {k : κ} : ∀ {l : List α}, (∀ y ∈ l, ¬ c (key y) k = 0) → lk c key k l = none
 | [], _ => rfl
 | y :: l, h => by rw [lk_cons, if_neg (h y List.mem_cons_self)]; exact lk_none fun z hz => h z (List.mem_cons_of_mem _ hz)
theorem lk_add (H : Cmp3 c) (hj : ∀ a b, key (jn a b) = key a) (k : κ) (x : α) : ∀ (l : List α), Inc c key l → lk c key k (add c key jn x l) = if c (key x) k = 0 then jo jn (lk c key k l) x else lk c key k l
 | [], _ => by
  show lk c key k [x] = _
  rw [lk_cons]; rfl
 | y :: l, h => by
  have hp := List.pairwise_cons.1 h
  have n1 := H.anti (key y) (key x); have n2 := H.anti (key x) k; have n3 := H.anti (key y) k
  have t1 := H.trans (key x) (key y) k; have t2 := H.trans (key y) (key x) k; have t3 := H.trans k (key y) (key x); have t4 := H.trans k (key x) (key y); have t5 := H.trans (key x) k (key y); have t6 := H.trans (key y) k (key x)
  have rest : c (key y) k ≥ 0 → ∀ z ∈ l, ¬ c (key z) k = 0 := fun hk z hz => by
   have := hp.1 z hz
   have t := H.trans (key z) k (key y); have a1 := H.anti (key z) (key y)
   omega
  rcases Int.lt_trichotomy (c (key y) (key x)) 0 with e | e | e
  ·
   rw [add_less _ e, lk_cons, lk_cons]
   by_cases hy : c (key y) k = 0
   ·
    rw [if_pos hy, if_pos hy, if_neg (by omega)]
   ·
    rw [if_neg hy, if_neg hy]; exact lk_add H hj k x l hp.2
  ·
   rw [add_same _ e, lk_cons, lk_cons, hj]
   by_cases hy : c (key y) k = 0
   ·
    rw [if_pos hy, if_pos hy, if_pos (by omega)]; rfl
   ·
    rw [if_neg hy, if_neg hy, if_neg (by omega)]
  ·
   rw [add_more _ e, lk_cons]
   by_cases hx : c (key x) k = 0
   ·
    rw [if_pos hx, if_pos hx, lk_cons, if_neg (by omega), lk_none (rest (by omega))]; rfl
   ·
    rw [if_neg hx, if_neg hx]
theorem run_gets (H : Cmp3 c) (hj : ∀ a b, key (jn a b) = key a) (k : κ) : ∀ (l s : List α), Inc c key s →
  lk c key k (l.foldl (fun s x => add c key jn x s) s) = (l.filter fun x => c (key x) k == 0).foldl (jo jn) (lk c key k s)
 | [], _, _ => rfl
 | x :: l, s, h => by
  rw [List.foldl_cons, run_gets H hj k l _ (add_inc H hj x s h), lk_add H hj k x s h]
  by_cases hx : c (key x) k = 0
  ·
   rw [if_pos hx, List.filter_cons_of_pos (by simp [hx]), List.foldl_cons]
  ·
   rw [if_neg hx, List.filter_cons_of_neg (by simp [hx])]
theorem lk_norm (H : Cmp3 c) (hj : ∀ a b, key (jn a b) = key a) (k : κ) (l : List α) : lk c key k (norm c key jn l) = gets c key jn k l := run_gets H hj k l [] List.Pairwise.nil
theorem lk_some {k : κ} {l : List α} {y : α} (h : lk c key k l = some y) : y ∈ l ∧ c (key y) k = 0 := by
 unfold lk at h
 exact ⟨List.mem_of_find?_eq_some h, by simpa using List.find?_some h⟩
end
end Go.Proofs.Ytlffkbcaphhldaa.Nm
namespace Go.Proofs.Ytlffkbcaphhldaa.Nm
open Go.Proofs.Ytlffkbcaphhldaa.Ord
set_option linter.unusedVariables false
set_option linter.unusedSimpArgs false
structure Gd {α κ : Type} (c : κ → κ → Int) (key : α → κ) (jn : α → α → α) (v : α → α → Int) (P : α → Prop) : Prop where
 cc : Cmp3 c
 vv : Cmp3 v
 hj : ∀ a b, key (jn a b) = key a
 or : ∀ a b, c (key a) (key b) = 0 → P a → P b → jn a b = a ∨ jn a b = b
 ge : ∀ a b, 0 ≤ v (jn a b) a ∧ 0 ≤ v (jn a b) b
 eq : ∀ a b, c (key a) (key b) = 0 → P a → P b → v a b = 0 → a = b
section
variable {α κ : Type} {c : κ → κ → Int} {key : α → κ} {jn : α → α → α} {v : α → α → Int} {P : α → Prop}
theorem same_key (H : Cmp3 c) {a b k : κ} (h1 : c a k = 0) (h2 : c b k = 0) : c a b = 0 := by
 have a1 := H.anti a k; have a2 := H.anti b k; have a3 := H.anti a b
 have t1 := H.trans a k b; have t2 := H.trans b k a
 omega
theorem top (H : Gd c key jn v P) (k : κ) : ∀ (l : List α) (a : α), (∀ x ∈ l, P x ∧ c (key x) k = 0) → P a → c (key a) k = 0 →
  ∃ m, l.foldl (jo jn) (some a) = some m ∧ (m = a ∨ m ∈ l) ∧ 0 ≤ v m a ∧ ∀ x ∈ l, 0 ≤ v m x
 | [], a, _, _, _ => ⟨a, rfl, .inl rfl, by rw [H.vv.refl]; omega, fun x h => by cases h⟩
 | b :: l, a, h, ha, hk => by
  obtain ⟨hb, hbk⟩ := h b List.mem_cons_self
  have hab := same_key H.cc hk hbk
  have hor := H.or a b hab ha hb
  have hge := H.ge a b
  have hP : P (jn a b) := by rcases hor with e | e <;> rw [e] <;> assumption
  have hK : c (key (jn a b)) k = 0 := by rw [H.hj]; exact hk
  obtain ⟨m, h1, h2, h3, h4⟩ := top H k l (jn a b) (fun x hx => h x (List.mem_cons_of_mem _ hx)) hP hK
  have tr : ∀ y, 0 ≤ v (jn a b) y → 0 ≤ v m y := fun y hy => by
   have a1 := H.vv.anti m y; have a2 := H.vv.anti (jn a b) y; have a3 := H.vv.anti m (jn a b)
   have t := H.vv.trans y (jn a b) m
   omega
  refine ⟨m, h1, ?_, tr a hge.1, fun x hx => ?_⟩
  ·
   rcases h2 with e | e
   ·
    rcases hor with f | f
    ·
     exact .inl (e.trans f)
    ·
     exact .inr (by rw [e, f]; exact List.mem_cons_self)
   ·
    exact .inr (List.mem_cons_of_mem _ e)
  ·
   rcases List.mem_cons.1 hx with e | e
   ·
    rw [e]; exact tr b hge.2
   ·
    exact h4 x e
theorem gets_top (H : Gd c key jn v P) (k : κ) (l : List α) (hP : ∀ x ∈ l, P x) :
  (gets c key jn k l = none ∧ ∀ x ∈ l, ¬ c (key x) k = 0) ∨ ∃ m, gets c key jn k l = some m ∧ m ∈ l ∧ c (key m) k = 0 ∧ ∀ x ∈ l, c (key x) k = 0 → 0 ≤ v m x := by
 unfold gets
 have hf : ∀ x, x ∈ l.filter (fun x => c (key x) k == 0) ↔ x ∈ l ∧ c (key x) k = 0 := fun x => by rw [List.mem_filter, beq_iff_eq]
 cases hs : l.filter (fun x => c (key x) k == 0) with
 | nil =>
  refine .inl ⟨rfl, fun x hx he => ?_⟩
  have := (hf x).2 ⟨hx, he⟩
  rw [hs] at this; cases this
 | cons a s =>
  rw [hs] at hf
  obtain ⟨ha, hak⟩ := (hf a).1 List.mem_cons_self
  obtain ⟨m, h1, h2, h3, h4⟩ := top H k s a (fun x hx => by obtain ⟨q1, q2⟩ := (hf x).1 (List.mem_cons_of_mem _ hx); exact ⟨hP x q1, q2⟩) (hP a ha) hak
  have hm : m ∈ a :: s := by
   rcases h2 with e | e
   ·
    rw [e]; exact List.mem_cons_self
   ·
    exact List.mem_cons_of_mem _ e
  obtain ⟨m1, m2⟩ := (hf m).1 hm
  refine .inr ⟨m, h1, m1, m2, fun x hx he => ?_⟩
  rcases List.mem_cons.1 ((hf x).2 ⟨hx, he⟩) with e | e
  ·
   rw [e]; exact h3
  ·
   exact h4 x e
def Dom (c : κ → κ → Int) (key : α → κ) (v : α → α → Int) (l m : List α) : Prop := ∀ x ∈ l, ∃ y ∈ m, c (key y) (key x) = 0 ∧ 0 ≤ v y x
theorem lk_top (H : Gd c key jn v P) {l : List α} (hl : ∀ x ∈ l, P x) {x : α} (hx : x ∈ l) : ∃ m, lk c key (key x) (norm c key jn l) = some m ∧ m ∈ norm c key jn l ∧ c (key m) (key x) = 0 ∧ 0 ≤ v m x := by
 rw [lk_norm H.cc H.hj]
 rcases gets_top H (key x) l hl with ⟨_, n1⟩ | ⟨a, e1, m1, k1, t1⟩
 ·
  exact absurd (H.cc.refl _) (n1 x hx)
 ·
  refine ⟨a, e1, ?_, k1, t1 x hx (H.cc.refl _)⟩
  rw [← lk_norm H.cc H.hj] at e1
  exact (lk_some e1).1
theorem Dom.norm (H : Gd c key jn v P) {l : List α} (hl : ∀ x ∈ l, P x) : Dom c key v l (norm c key jn l) := fun x hx => by
 obtain ⟨m, _, h2, h3, h4⟩ := lk_top H hl hx
 exact ⟨m, h2, h3, h4⟩
end
end Go.Proofs.Ytlffkbcaphhldaa.Nm
