/- Three-way comparisons: whole numbers, texts, one after another. Plain lemmas, no program in sight. -/
import Derived.Lib.ConvBytes
import Derived.Shelf.SlSortCmp.KitK
import Derived.Below
namespace Go.Proofs.Ytabiekkebdocnaa.Ord
open Go
set_option linter.unusedVariables false
set_option linter.unusedSimpArgs false
structure Cmp3 {α : Type} (c : α → α → Int) : Prop where
 anti : ∀ x y, c x y = - c y x
 trans : ∀ x y z, c x y ≤ 0 → c y z ≤ 0 → c x z ≤ 0
theorem Cmp3.refl {α : Type} {c : α → α → Int} (h : Cmp3 c) (x : α) : c x x = 0 := by have := h.anti x x; omega
def lex {α : Type} (c d : α → α → Int) (x y : α) : Int := if c x y = 0 then d x y else c x y
theorem Cmp3.lex {α : Type} {c d : α → α → Int} (hc : Cmp3 c) (hd : Cmp3 d) : Cmp3 (lex c d) := by
 refine ⟨fun x y => ?_, fun x y z h1 h2 => ?_⟩
 ·
  have := hc.anti x y; have := hd.anti x y
  unfold Ord.lex
  split <;> split <;> omega
 ·
  have a1 := hc.anti x y; have a2 := hc.anti y z; have a3 := hc.anti x z
  have t1 := hc.trans x y z; have t2 := hc.trans z x y; have t3 := hc.trans y z x
  have d1 := hd.trans x y z
  unfold Ord.lex at h1 h2 ⊢
  by_cases e1 : c x y = 0 <;> by_cases e2 : c y z = 0 <;> by_cases e3 : c x z = 0 <;> simp only [e1, e2, e3, if_true, if_false] at h1 h2 ⊢ <;> omega
theorem Cmp3.on {α β : Type} {c : β → β → Int} (h : Cmp3 c) (f : α → β) : Cmp3 (fun x y => c (f x) (f y)) := ⟨fun _ _ => h.anti _ _, fun _ _ _ => h.trans _ _ _⟩
def ci (a b : Int) : Int := if a < b then -1 else if b < a then 1 else 0
theorem ci_cmp : Cmp3 ci := by
 refine ⟨fun x y => ?_, fun x y z => ?_⟩ <;> unfold ci <;> repeat' split
 all_goals omega
theorem ci_zero {a b : Int} : ci a b = 0 ↔ a = b := by unfold ci; split <;> (try split) <;> omega
theorem less_irrefl : ∀ x : List UInt8, Op.bytesLess x x = false
 | [] => by simp [Op.bytesLess]
 | a :: x => by simp [Op.bytesLess, less_irrefl x]
theorem less_asymm : ∀ x y : List UInt8, Op.bytesLess x y = true → Op.bytesLess y x = false
 | [], [], h => by simp [Op.bytesLess] at h
 | [], _ :: _, _ => by simp [Op.bytesLess]
 | _ :: _, [], h => by simp [Op.bytesLess] at h
 | a :: x, b :: y, h => by
  simp only [Op.bytesLess, Bool.or_eq_true, decide_eq_true_eq, Bool.and_eq_true, beq_iff_eq] at h
  simp only [Op.bytesLess, Bool.or_eq_false_iff, decide_eq_false_iff_not, Bool.and_eq_false_iff]
  rcases h with h | ⟨rfl, h⟩
  ·
   refine ⟨fun h' => ?_, .inl ?_⟩
   ·
    exact absurd (UInt8.lt_trans h h') (UInt8.lt_irrefl _)
   ·
    simp only [beq_eq_false_iff_ne]; rintro rfl; exact UInt8.lt_irrefl _ h
  ·
   exact ⟨UInt8.lt_irrefl _, .inr (less_asymm x y h)⟩
theorem less_total : ∀ x y : List UInt8, Op.bytesLess x y = true ∨ x = y ∨ Op.bytesLess y x = true
 | [], [] => .inr (.inl rfl)
 | [], _ :: _ => .inl (by simp [Op.bytesLess])
 | _ :: _, [] => .inr (.inr (by simp [Op.bytesLess]))
 | a :: x, b :: y => by
  simp only [Op.bytesLess, Bool.or_eq_true, decide_eq_true_eq, Bool.and_eq_true, beq_iff_eq, List.cons.injEq]
  by_cases h : a < b
  ·
   exact .inl (.inl h)
  by_cases h' : b < a
  ·
   exact .inr (.inr (.inl h'))
  have e : a = b := by
   have h1 := UInt8.not_lt.1 h; have h2 := UInt8.not_lt.1 h'
   exact UInt8.le_antisymm h2 h1
  subst e
  rcases less_total x y with h1 | h1 | h1
  ·
   exact .inl (.inr ⟨rfl, h1⟩)
  ·
   exact .inr (.inl ⟨rfl, h1⟩)
  ·
   exact .inr (.inr (.inr ⟨rfl, h1⟩))
theorem less_trans : ∀ x y z : List UInt8, Op.bytesLess x y = true → Op.bytesLess y z = true → Op.bytesLess x z = true
 | [], y, [], h1, h2 => by cases y <;> simp [Op.bytesLess] at h1 h2
 | [], _, _ :: _, _, _ => by simp [Op.bytesLess]
 | _ :: _, [], _, h1, _ => by simp [Op.bytesLess] at h1
 | _ :: _, _ :: _, [], _, h2 => by simp [Op.bytesLess] at h2
 | a :: x, b :: y, c :: z, h1, h2 => by
  simp only [Op.bytesLess, Bool.or_eq_true, decide_eq_true_eq, Bool.and_eq_true, beq_iff_eq] at h1 h2 ⊢
  rcases h1 with h1 | ⟨rfl, h1⟩ <;> rcases h2 with h2 | ⟨rfl, h2⟩
  ·
   exact .inl (UInt8.lt_trans h1 h2)
  ·
   exact .inl h1
  ·
   exact .inl h2
  ·
   exact .inr ⟨rfl, less_trans x y z h1 h2⟩
def cl (a b : List UInt8) : Int := if Op.bytesLess a b = true then -1 else if a = b then 0 else 1
theorem cl_zero {a b : List UInt8} : cl a b = 0 ↔ a = b := by
 unfold cl
 by_cases h : Op.bytesLess a b = true
 ·
  rw [if_pos h]; constructor
  ·
   intro h'; omega
  ·
   rintro rfl; rw [less_irrefl] at h; cases h
 ·
  rw [if_neg h]; split <;> simp_all
theorem cl_neg {a b : List UInt8} : cl a b < 0 ↔ Op.bytesLess a b = true := by
 unfold cl; split <;> (try split) <;> simp_all
theorem cl_cmp : Cmp3 cl := by
 have anti : ∀ x y, cl x y = - cl y x := fun x y => by
  rcases less_total x y with h | rfl | h
  ·
   have h' := less_asymm _ _ h
   have : y ≠ x := by rintro rfl; rw [less_irrefl] at h; cases h
   simp [cl, h, h', this]
  ·
   simp [cl, less_irrefl]
  ·
   have h' := less_asymm _ _ h
   have : x ≠ y := by rintro rfl; rw [less_irrefl] at h; cases h
   simp [cl, h, h', this]
 refine ⟨anti, fun x y z h1 h2 => ?_⟩
 have key : ∀ {u v}, cl u v ≤ 0 → Op.bytesLess u v = true ∨ u = v := fun {u v} h => by
  by_cases h0 : cl u v = 0
  ·
   exact .inr (cl_zero.1 h0)
  ·
   exact .inl (cl_neg.1 (by omega))
 rcases key h1 with h1 | rfl
 ·
  rcases key h2 with h2 | rfl
  ·
   have := cl_neg.2 (less_trans _ _ _ h1 h2); omega
  ·
   have := cl_neg.2 h1; omega
 ·
  exact h2
def cs (a b : ByteArray) : Int := cl a.toList b.toList
theorem cs_cmp : Cmp3 cs := cl_cmp.on _
theorem cs_zero {a b : ByteArray} : cs a b = 0 ↔ a.toList = b.toList := cl_zero
theorem lex_zero {α : Type} {c d : α → α → Int} {x y : α} : lex c d x y = 0 ↔ c x y = 0 ∧ d x y = 0 := by
 unfold lex; split <;> simp_all
end Go.Proofs.Ytabiekkebdocnaa.Ord
namespace Go.Proofs.Ytabiekkebdocnaa.Srt
open Go Go.Shelf Go.RowKit Go.Lib Go.Sort Go.Proofs
set_option linter.unusedVariables false
set_option linter.unusedSimpArgs false
structure BW (w : World) where
 w' : World
 h : Below w.heap.size w w'
instance (w : World) : Inhabited (BW w) := ⟨⟨w, Below.refl _ _⟩⟩
theorem below_drew0 (w : World) : Below w.heap.size w w.drew := ⟨rfl, rfl, rfl, Nat.le_refl _, fun _ _ => rfl⟩
theorem wp_region_quiet_bw {P : Program} {id : Nat} {Q : Exit → Act → World → Prop} {a : Act} {w : World} {l : List Oper} (hm : P.follows .mixedOrders = true) (hB : Region.lexB .any l.toArray = true)
  (h : wpQuiet P l.toArray (fun w' => ∃ p : BW w, w' = p.w') (fun a' => ∀ w', (∃ p : BW w, w' = p.w') → Q .normal a' w') l a) : (Code.region id l.toArray true).wp P Q a w :=
 wp_region_quiet (C := fun w' => ∃ p : BW w, w' = p.w') hm hB ⟨⟨w.drew, below_drew0 w⟩, rfl⟩ (by simpa using h)
theorem Calls.bw_of {P : Program} {f : FuncId} {args : Array Value} {w : World} {p : BW w} {v : Value}
  (h : Calls P f args p.w' fun e w' => e = .returned v ∧ Below p.w'.heap.size p.w' w') : Calls P f args p.w' fun e w'' => e = .returned v ∧ ∃ q : BW w, w'' = q.w' :=
 h.mono fun _ w2 ⟨he, hb⟩ => ⟨he, ⟨w2, p.h.trans (hb.mono p.h.size)⟩, rfl⟩
section
variable {α : Type} [Inhabited α]
structure SWB (enc : α → List Value) (k : Nat) (w0 : World) (blk off : Nat) (dk : Array α) (W : World) : Prop where
 os : W.os = w0.os
 tape : W.tape = w0.tape
 output : W.output = w0.output
 size : w0.heap.size ≤ W.heap.size
 other : ∀ i, i < w0.heap.size → i ≠ blk → W.heap[i]? = w0.heap[i]?
 row : W.heap[blk]? = (putRowK enc k w0 blk off dk).heap[blk]?
variable {enc : α → List Value} {k : Nat} {w0 W : World} {blk off : Nat} {dk d0 : Array α} {P : Program}
theorem SWB.start (h : HoldsK enc k w0 blk off dk) : SWB enc k w0 blk off dk w0 := ⟨rfl, rfl, rfl, Nat.le_refl _, fun _ _ _ => rfl, by rw [putRowK_self enc k w0 blk off dk h]⟩
theorem SWB.on (h : SWB enc k w0 blk off dk W) (hblk : blk < w0.heap.size) {W' : World} (hb : Below W.heap.size W W') : SWB enc k w0 blk off dk W' :=
 ⟨hb.os.trans h.os, hb.tape.trans h.tape, hb.output.trans h.output, Nat.le_trans h.size hb.size, fun i hi hne => (hb.block i (Nat.lt_of_lt_of_le hi h.size)).trans (h.other i hi hne), (hb.block blk (Nat.lt_of_lt_of_le hblk h.size)).trans h.row⟩
theorem SWB.drew (h : SWB enc k w0 blk off dk W) : SWB enc k w0 blk off dk W.drew := ⟨h.os, h.tape, h.output, h.size, h.other, h.row⟩
theorem SWB.holds (h : SWB enc k w0 blk off dk W) (h0 : HoldsK enc k w0 blk off d0) (hs : dk.size = d0.size) : HoldsK enc k W blk off dk := by
 have g := holdsK_putRowK enc k w0 blk off d0 dk h0 hs
 intro j hj
 obtain ⟨g1, g2⟩ := g j hj
 constructor
 ·
  rw [← g1]; unfold World.cell?; rw [show (⟨blk, off + j, none⟩ : Addr).block = blk from rfl, h.row]
 ·
  rw [← g2]; unfold World.frozen?; rw [show (⟨blk, off + j, none⟩ : Addr).block = blk from rfl, h.row]
theorem SWB.grown (h : SWB enc k w0 blk off dk W) (R : RowK enc k w0 blk off d0) (p : BW W) : SWB enc k w0 blk off dk p.w' := h.on R.hblk p.h
theorem SWB.load (h : SWB enc k w0 blk off dk W) (R : RowK enc k w0 blk off d0) (hs : dk.size = d0.size) (P : Program) (i : Nat) (hi : i < dk.size) :
  Sem.run P (loadCellsFrom ⟨blk, off + i * k, none⟩ 0 k #[]) W = .ok (enc dk[i]!).toArray W :=
 run_loadCellsFrom_list P _ _ _ k (R.hk _) (HoldsK.cells (h.holds R.hH hs) R.hk hi)
theorem SWB.ld (h : SWB enc k w0 blk off dk W) (R : RowK enc k w0 blk off d0) (hs : dk.size = d0.size) (P : Program) (i : Nat) (hi : i < dk.size) (p : BW W) :
  Sem.run P (loadCellsFrom ⟨blk, off + i * k, none⟩ 0 k #[]) p.w' = .ok (enc dk[i]!).toArray p.w' := (h.grown R p).load R hs P i hi
theorem SWB.ld1 (h : SWB enc k w0 blk off dk W) (R : RowK enc k w0 blk off d0) (hs : dk.size = d0.size) (P : Program) (i : Nat) (hi : i < dk.size) :
  Sem.run P (loadCellsFrom ⟨blk, off + i * k, none⟩ 0 k #[]) W.drew = .ok (enc dk[i]!).toArray W.drew := h.drew.load R hs P i hi
theorem SWB.st1 (h : SWB enc k w0 blk off dk W) (R : RowK enc k w0 blk off d0) (hs : dk.size = d0.size) (P : Program) (i : Nat) (hi : i < dk.size) (y : α) :
  Sem.run P (storeCells ⟨blk, off + i * k, none⟩ (enc y) 0) W.drew = .ok () (W.drew.setCells blk (off + i * k) (enc y)) :=
 stores_of_holds P (h.drew.holds R.hH hs) (i * k) _ (by rw [R.hk, size_flatK]; exact rowK_bnd dk k i hi) (R.h1 _)
theorem SWB.st2 (h : SWB enc k w0 blk off dk W) (R : RowK enc k w0 blk off d0) (hs : dk.size = d0.size) (P : Program) (i j : Nat) (hi : i < dk.size) (hj : j < dk.size) (y x : α) :
  Sem.run P (storeCells ⟨blk, off + j * k, none⟩ (enc x) 0) (W.drew.setCells blk (off + i * k) (enc y)) = .ok () ((W.drew.setCells blk (off + i * k) (enc y)).setCells blk (off + j * k) (enc x)) :=
 stores_of_holds P (holds_setCells_c (h.drew.holds R.hH hs) (i * k) _ (by rw [R.hk, size_flatK]; exact rowK_bnd dk k i hi)) (j * k) _ (by rw [R.hk, size_setMany, size_flatK]; exact rowK_bnd dk k j hj) (R.h1 _)
omit [Inhabited α] in
theorem setCells_row (blk : Nat) : ∀ (vs : List Value) (o : Nat) (W V : World), W.heap[blk]? = V.heap[blk]? → (W.setCells blk o vs).heap[blk]? = (V.setCells blk o vs).heap[blk]?
 | [], _, _, _, h => h
 | v :: vs, o, W, V, h => setCells_row blk vs (o + 1) _ _ (by simp only [World.setCell, Array.getElem?_modify, if_true, h])
omit [Inhabited α] in
theorem setCells_same (blk : Nat) : ∀ (vs : List Value) (o : Nat) (W : World), (W.setCells blk o vs).os = W.os ∧ (W.setCells blk o vs).tape = W.tape ∧ (W.setCells blk o vs).output = W.output ∧ (W.setCells blk o vs).heap.size = W.heap.size ∧ ∀ i, i ≠ blk → (W.setCells blk o vs).heap[i]? = W.heap[i]?
 | [], _, _ => ⟨rfl, rfl, rfl, rfl, fun _ _ => rfl⟩
 | v :: vs, o, W => by
  obtain ⟨h1, h2, h3, h4, h5⟩ := setCells_same blk vs (o + 1) (W.setCell ⟨blk, o, none⟩ v)
  refine ⟨h1, h2, h3, h4.trans (by simp [World.setCell]), fun i hi => (h5 i hi).trans ?_⟩
  simp only [World.setCell, Array.getElem?_modify]
  rw [if_neg (fun e => hi e.symm)]
theorem SWB.swapped (h : SWB enc k w0 blk off dk W) (R : RowK enc k w0 blk off d0) (i j : Nat) (hi : i < dk.size) (hj : j < dk.size) :
  SWB enc k w0 blk off (swp dk i j) ((W.drew.setCells blk (off + i * k) (enc dk[j]!)).setCells blk (off + j * k) (enc dk[i]!)) := by
 obtain ⟨a1, a2, a3, a4, a5⟩ := setCells_same blk (enc dk[j]!) (off + i * k) W.drew
 obtain ⟨b1, b2, b3, b4, b5⟩ := setCells_same blk (enc dk[i]!) (off + j * k) (W.drew.setCells blk (off + i * k) (enc dk[j]!))
 refine ⟨b1.trans (a1.trans h.os), b2.trans (a2.trans h.tape), b3.trans (a3.trans h.output), by rw [b4, a4]; exact h.size, fun q hq hne => (b5 q hne).trans ((a5 q hne).trans (h.other q hq hne)), ?_⟩
 rw [← putRowK_swp enc k R.hk w0 blk off dk i j hi hj]
 exact setCells_row blk _ _ _ _ (setCells_row blk _ _ _ _ h.row)
def CmpB (P : Program) (g : Nat) (cb : Array Value) (enc : α → List Value) (k : Nat) (cf : α → α → Int) (w0 : World) (blk off size : Nat) : Prop :=
 ∀ (W : World) (dk : Array α), dk.size = size → SWB enc k w0 blk off dk W → ∀ x y : α, Calls P g (#[.agg (enc x).toArray, .agg (enc y).toArray] ++ cb) W fun e w' => e = .returned (.int .i64 (cf x y)) ∧ Below W.heap.size W w'
theorem SWB.cmp {g : Nat} {cb : Array Value} {cf : α → α → Int} {size : Nat} (h : SWB enc k w0 blk off dk W) (hC : CmpB P g cb enc k cf w0 blk off size) (R : RowK enc k w0 blk off d0) (hs : dk.size = size) (x y : α) (p : BW W) :
  Calls P g (#[.agg (enc x).toArray, .agg (enc y).toArray] ++ cb) p.w' fun e w' => e = .returned (.int .i64 (cf x y)) ∧ Below p.w'.heap.size p.w' w' := hC p.w' dk hs (h.grown R p) x y
end
end Go.Proofs.Ytabiekkebdocnaa.Srt
