/- A range over an iterator that keeps rows of its own (of elements of type T) and reads blocks between n0 and n1: the statement's law, where what the loop's own text says abides all turns of the iterator's rows. Adapted from the range law of Derived.RangeFuncFrom. -/
import Derived.RangeFuncNested
import Derived.RangeFuncBound
import Derived.RangeFuncCalls
import Derived.RangeFuncLeaves
import Derived.RangeFuncFrom
import Derived.Shelf.Abstract
import Derived.Shelf.RegionOpen
import Derived.WalkKit
import Derived.OwnWalkIn
import Derived.TacticsInMore
import Derived.LoopNIn
import Derived.LoopIn
import Derived.Lib.Hide
namespace Go.Proofs.Ytlffkbcaphhldaa.Rh
open Go Go.RowKit
set_option linter.unusedVariables false
set_option linter.unusedSimpArgs false
structure KO (W W' : World) : Prop where
 size : W.heap.size ≤ W'.heap.size
 same : ∀ (k : Nat) (o : Obj), W.heap[k]? = some o → o.isCells = false → o.isWalk = false → W'.heap[k]? = some o
theorem KO.of {A B : World} (h : KeepsOthers A B) : KO A B := ⟨h.size, fun k o hk ho _ => h.same k o hk ho⟩
theorem KO.trans {A B C : World} (h : KO A B) (k : KO B C) : KO A C := ⟨Nat.le_trans h.size k.size, fun i o hi ho hw => k.same i o (h.same i o hi ho hw) ho hw⟩
structure Mv (T n1 : Nat) (A C : World) : Prop where
 os : C.os = A.os
 tape : C.tape = A.tape
 output : C.output = A.output
 size : A.heap.size ≤ C.heap.size
 same : ∀ k, k < A.heap.size → (k < n1 ∨ ∀ cells fr, A.heap[k]? ≠ some (.cells cells T fr)) → C.heap[k]? = A.heap[k]?
structure MvB (T n1 B : Nat) (A C : World) : Prop where
 os : C.os = A.os
 tape : C.tape = A.tape
 output : C.output = A.output
 size : A.heap.size ≤ C.heap.size
 same : ∀ k, k < A.heap.size → (k < n1 ∨ ∀ cells fr, A.heap[k]? ≠ some (.cells cells T fr)) → (k < B ∨ ∃ o, A.heap[k]? = some o ∧ o.isCells = true) → C.heap[k]? = A.heap[k]?
structure Kp (T n0 n1 : Nat) (A C : World) : Prop where
 os : C.os = A.os
 tape : C.tape = A.tape
 output : C.output = A.output
 size : A.heap.size ≤ C.heap.size
 same : ∀ k, k < A.heap.size → ((n0 ≤ k ∧ k < n1) ∨ ∃ cells fr, A.heap[k]? = some (.cells cells T fr)) → C.heap[k]? = A.heap[k]?
theorem Mv.b {T n1 B : Nat} {A C : World} (h : Mv T n1 A C) : MvB T n1 B A C := ⟨h.os, h.tape, h.output, h.size, fun k hk hT _ => h.same k hk hT⟩
theorem MvB.alloc (T n1 B : Nat) (A : World) (o : Obj) : MvB T n1 B A (A.alloc o) := ⟨rfl, rfl, rfl, by simp, fun k hk _ _ => Below.heap_alloc A o k hk⟩
theorem MvB.putObj (T n1 B : Nat) (A : World) {l : Nat} {o : Obj} (o' : Obj) (hB : B ≤ l) (hl : A.heap[l]? = some o) (ho : o.isCells = false) : MvB T n1 B A (A.putObj l o') := by
 have hg := grownBy_putObj' A l o'
 refine ⟨hg.os, hg.tape, hg.output, hg.size, fun k hk _ hc => hg.block k hk (fun e => ?_)⟩
 injection e with e
 subst e
 rcases hc with hc | ⟨o2, h1, h2⟩
 ·
  omega
 ·
  rw [hl] at h1
  injection h1 with h1
  subst h1
  rw [ho] at h2; cases h2
theorem Kp.refl (T n0 n1 : Nat) (A : World) : Kp T n0 n1 A A := ⟨rfl, rfl, rfl, Nat.le_refl _, fun _ _ _ => rfl⟩
theorem Kp.trans {T n0 n1 : Nat} {A B C : World} (h : Kp T n0 n1 A B) (k : Kp T n0 n1 B C) : Kp T n0 n1 A C := by
 refine ⟨k.os.trans h.os, k.tape.trans h.tape, k.output.trans h.output, Nat.le_trans h.size k.size, fun i hi hc => ?_⟩
 have h1 := h.same i hi hc
 refine (k.same i (Nat.lt_of_lt_of_le hi h.size) ?_).trans h1
 rcases hc with hc | ⟨cells, fr, hc⟩
 ·
  exact .inl hc
 ·
  exact .inr ⟨cells, fr, h1.trans hc⟩
theorem Kp.putObj (T n0 n1 : Nat) (A : World) {l : Nat} {o : Obj} (o' : Obj) (hB : n1 ≤ l) (hl : A.heap[l]? = some o) (ho : o.isCells = false) : Kp T n0 n1 A (A.putObj l o') := by
 have hg := grownBy_putObj' A l o'
 refine ⟨hg.os, hg.tape, hg.output, hg.size, fun k hk hc => hg.block k hk (fun e => ?_)⟩
 injection e with e
 subst e
 rcases hc with hc | ⟨cells, fr, hc⟩
 ·
  omega
 ·
  rw [hl] at hc
  injection hc with hc
  subst hc
  cases ho
theorem Mv.nocells {T n1 : Nat} {A C : World} (h : Mv T n1 A C) {k : Nat} {o : Obj} (hk : A.heap[k]? = some o) (ho : o.isCells = false) : C.heap[k]? = some o :=
 (h.same k (Array.getElem?_eq_some_iff.1 hk).1 (.inr fun cells fr e => by rw [hk] at e; injection e with e; subst e; cases ho)).trans hk
def SeqH {α : Type} (T n0 n1 : Nat) (F : Fence) (n : Nat) (P : Program) (g : Nat) (lb : Array Value) (encs : α → Array Value) (all : List α) (w : World) : Prop :=
 ∀ (l : Nat) (J Jx : List α → World → Prop) (W : World), Below w.heap.size w W → (∀ s A C, J s A → Mv T n1 A C → J s C) →
  (∀ pre x W1, J pre W1 → (pre ++ [x]) <+: all → YieldAt F (n - 1) P l (encs x) W1 fun e W' =>
   (e = .returned (.bool true) ∧ J (pre ++ [x]) W' ∧ Kp T n0 n1 W1 W') ∨ (e = .returned (.bool false) ∧ Jx (pre ++ [x]) W')) →
  J [] W →
  CallsIn F n P g (#[.func (.yield l) #[] #[]] ++ lb) W fun e W' => (∃ v, e = .returned v) ∧ (J all W' ∨ ∃ pre, pre <+: all ∧ Jx pre W')
def RPost {α : Type} (T n0 n1 : Nat) (I : List α → World → Prop) (Ix : Code → List α → World → Prop) (xs : List α) (W : World) : Exit → Act → World → Prop
 | .normal, _, W' => KO W W' ∧ Kp T n0 n1 W W' ∧ I xs W'
 | .ret, _, W' => KO W W' ∧ Ix .ret xs W'
 | .exit id, _, W' => KO W W' ∧ Ix (.exit id) xs W'
 | _, _, _ => False
variable {F : Fence} {n : Nat} {P : Program}
theorem wpIn_range_h {α : Type} {g : Operand} {ps : Array Tmp} {assign body : Code} {Q : Exit → Act → World → Prop} {a : Act} {w : World}
  (hro : F.round = none) (h1 : 1 ≤ n) {gf : Nat} {lb : Array Value} (hg : a.eval g = .func (.func gf) #[] lb) (hFg : F.fn gf) (eg : ∀ args w, (callFunc gf args).run P w = .ok (.enter gf args) w)
  {T n0 n1 : Nat} {encs : α → Array Value} {all : List α} (hn1 : n1 ≤ w.heap.size) (hseq : SeqH T n0 n1 F (n - 1) P gf lb encs all w) (hps : ∀ x, (encs x).size = ps.size)
  (I : List α → World → Prop) (Ix : Code → List α → World → Prop) (hI : ∀ s A C, I s A → MvB T n1 w.heap.size A C → I s C) (hIx : ∀ c s A C, Ix c s A → MvB T n1 w.heap.size A C → Ix c s C) (h0 : I [] w) (A : List α → α → Act → World → Prop) (hA : ∀ pre x a' V C, A pre x a' V → MvB T n1 w.heap.size V C → A pre x a' C)
  (hassign : ∀ (l : Nat) (pre : List α) (x : α) (W : World) (K : Act → World → Prop), I pre W → (pre ++ [x]) <+: all → (∀ a' W', KO W W' → Kp T n0 n1 W W' → A pre x a' W' → K a' W') →
   assign.wpIn (F.inRound l) (n - 1 - 1) P (Exit.then K (fun _ _ _ => False)) { tmps := (ps.zip (encs x)).foldl (fun t (p, v) => t.setIfInBounds p v) a.tmps, defers := [] } W)
  (hbody : ∀ (l : Nat) (pre : List α) (x : α) (a' : Act) (W : World), A pre x a' W → (pre ++ [x]) <+: all → body.wpIn (F.inRound l) (n - 1 - 1) P (RPost T n0 n1 I Ix (pre ++ [x]) W) a' W)
  (hdone : ∀ (D : Nat) (W : World), w.heap.size ≤ D → I all W → W.heap[D]? = some (.deferred (some [])) → Q .normal { a with defers := { target := .collected D, args := #[] } :: a.defers } W)
  (hstop : ∀ (D : Nat) (c : Code) (pre : List α) (W : World), w.heap.size ≤ D → pre <+: all → Ix c pre W → W.heap[D]? = some (.deferred (some [])) → c.wpIn F n P Q { a with defers := { target := .collected D, args := #[] } :: a.defers } W) :
  (Code.rangeFunc g ps assign body).wpIn F n P Q a w := by
 refine wpIn_rangeFunc ?_
 intro fn hfn
 rw [hro]
 obtain ⟨rec, hrec⟩ : ∃ rec : LoopState → Option Code → Loop, rec = fun st pe => { state := st, pending := pe, fn, tmps := a.tmps, params := ps, assign, body, defers := w.heap.size } := ⟨_, rfl⟩
 obtain ⟨W1, hW1⟩ : ∃ W1, (w.alloc (.deferred (some []))).alloc (.loop (rec .ready none)) = W1 := ⟨_, rfl⟩
 have hL1 : W1.heap[w.heap.size + 1]? = some (.loop (rec .ready none)) := by
  rw [← hW1]; have := World.alloc_heap_new (w.alloc (.deferred (some []))) (.loop (rec .ready none)); rwa [World.size_alloc] at this
 have hK1 : W1.heap[w.heap.size]? = some (.deferred (some [])) := by
  rw [← hW1]; exact (Below.heap_alloc _ _ _ (by simp)).trans (World.alloc_heap_new w _)
 have hI1 : I [] W1 := by rw [← hW1]; exact hI _ _ _ (hI _ _ _ h0 (MvB.alloc _ _ _ _ _)) (MvB.alloc _ _ _ _ _)
 have hb1 : Below w.heap.size w W1 := by
  rw [← hW1]; exact ((Below.refl _ w).alloc (Nat.le_refl _) _).alloc (by simp) _
 refine ⟨w.heap.size + 1, [{ target := .collected w.heap.size, args := #[] }], W1, { target := .fn (.func gf) lb, args := #[.func (.yield (w.heap.size + 1)) #[] #[]] }, W1, gf,
  #[.func (.yield (w.heap.size + 1)) #[] #[]] ++ lb, W1, ?_, ?_, ?_, ?_, fun _ => h1, ?_⟩
 ·
  rw [← hW1, hrec]; exact run_enterLoop_outer _ _ _ _ _
 ·
  simp only [resolve, hg]
  simp [go_sem]
 ·
  intro f' hf'; simp [Target.leads] at hf'; subst hf'; exact hFg
 ·
  simp [invoke, go_sem, eg]
 ·
  refine (hseq (w.heap.size + 1)
   (fun pre W => I pre W ∧ W.heap[w.heap.size + 1]? = some (.loop (rec .ready none)) ∧ W.heap[w.heap.size]? = some (.deferred (some [])))
   (fun pre W => ∃ c, Ix c pre W ∧ W.heap[w.heap.size + 1]? = some (.loop (rec .done (some c))) ∧ W.heap[w.heap.size]? = some (.deferred (some [])))
   W1 hb1
   (fun s A C hs hm => ⟨hI s A C hs.1 hm.b, hm.nocells hs.2.1 rfl, hm.nocells hs.2.2 rfl⟩)
   ?_ ⟨hI1, hL1, hK1⟩).mono ?_
  ·
   rintro pre x W ⟨hi, hl, hk⟩ hpre
   have hlt : w.heap.size + 1 < W.heap.size := (Array.getElem?_eq_some_iff.1 hl).1
   have hy := run_yield (P := P) (args := encs x) hl (by rw [hrec]; exact hps x)
   rw [hrec] at hy
   refine ⟨fn, _, assign, body, hy, roundIn_of_wpIn hfn (hassign _ pre x W _ hi hpre fun a' V ho hkp0 hA' => ⟨_, run_beginRound (ho.same _ _ hl rfl rfl) (by rw [hrec]), ?_⟩)⟩
   replace hl := ho.same _ _ hl rfl rfl
   replace hk := ho.same _ _ hk rfl rfl
   replace hlt : w.heap.size + 1 < V.heap.size := (Array.getElem?_eq_some_iff.1 hl).1
   have hl2 : (V.putObj (w.heap.size + 1) (.loop { rec .ready none with state := .busy })).heap[w.heap.size + 1]? = some (.loop { rec .ready none with state := .busy }) := World.putObj_heap_same hlt
   have hk2 : (V.putObj (w.heap.size + 1) (.loop { rec .ready none with state := .busy })).heap[w.heap.size]? = some (.deferred (some [])) := (World.putObj_heap_other (by omega)).trans hk
   have hw2 : Kp T n0 n1 W (V.putObj (w.heap.size + 1) (.loop { rec .ready none with state := .busy })) := hkp0.trans (Kp.putObj T n0 n1 V _ (by omega) hl rfl)
   refine wpIn_mono (hbody _ pre x a' _ (hA _ _ _ _ _ hA' (MvB.putObj _ _ _ _ _ (by omega) hl rfl)) hpre) ?_
   have fin : ∀ (jump : Option Code) (W3 : World), KO (V.putObj (w.heap.size + 1) (.loop { rec .ready none with state := .busy })) W3 →
     (Instr.endRound (w.heap.size + 1) jump).run P W3 = .ok (.bool jump.isNone) (W3.putObj (w.heap.size + 1) (.loop (rec (if jump.isNone then .ready else .done) jump))) ∧
     W3.heap[w.heap.size + 1]? = some (.loop { rec .ready none with state := .busy }) ∧
     (W3.putObj (w.heap.size + 1) (.loop (rec (if jump.isNone then .ready else .done) jump))).heap[w.heap.size + 1]? = some (.loop (rec (if jump.isNone then .ready else .done) jump)) ∧
     (W3.putObj (w.heap.size + 1) (.loop (rec (if jump.isNone then .ready else .done) jump))).heap[w.heap.size]? = some (.deferred (some [])) := fun jump W3 hk3 => by
    have hl3 := hk3.same _ _ hl2 rfl rfl
    have := run_endRound (P := P) jump hl3
    rw [hrec] at this ⊢
    exact ⟨this, by rw [hrec] at hl3; exact hl3, World.putObj_heap_same (Array.getElem?_eq_some_iff.1 hl3).1, (World.putObj_heap_other (by omega)).trans (hk3.same _ _ hk2 rfl rfl)⟩
   rintro e a3 W3 hp
   cases e with
   | normal =>
    obtain ⟨hk3, hkp3, hi3⟩ := hp
    obtain ⟨hr, hl3, hl4, hk4⟩ := fin none W3 hk3
    exact ⟨_, _, hr, .inl ⟨rfl, ⟨hI _ _ _ hi3 (MvB.putObj _ _ _ _ _ (by omega) hl3 rfl), hl4, hk4⟩, (hw2.trans hkp3).trans (Kp.putObj T n0 n1 W3 _ (by omega) hl3 rfl)⟩⟩
   | ret =>
    obtain ⟨hk3, hi3⟩ := hp
    obtain ⟨hr, hl3, hl4, hk4⟩ := fin (some .ret) W3 hk3
    exact ⟨_, _, hr, .inr ⟨rfl, .ret, hIx _ _ _ _ hi3 (MvB.putObj _ _ _ _ _ (by omega) hl3 rfl), hl4, hk4⟩⟩
   | exit id =>
    obtain ⟨hk3, hi3⟩ := hp
    obtain ⟨hr, hl3, hl4, hk4⟩ := fin (some (.exit id)) W3 hk3
    exact ⟨_, _, hr, .inr ⟨rfl, .exit id, hIx _ _ _ _ hi3 (MvB.putObj _ _ _ _ _ (by omega) hl3 rfl), hl4, hk4⟩⟩
   | goto t => exact hp.elim
   | panic ch => exact hp.elim
   | outgrown => exact hp.elim
  ·
   rintro e W2 ⟨⟨v, rfl⟩, (⟨hi, hl, hk⟩ | ⟨pre, hpre, c, hi, hl, hk⟩)⟩
   ·
    exact ⟨none, _, by have := run_endLoop (P := P) hl (by rw [hrec]; simp); rw [hrec] at this; exact this, hdone _ _ (Nat.le_refl _) (hI _ _ _ hi (MvB.putObj _ _ _ _ _ (by omega) hl rfl)) ((World.putObj_heap_other (by omega)).trans hk)⟩
   ·
    exact ⟨some c, _, by have := run_endLoop (P := P) hl (by rw [hrec]; simp); rw [hrec] at this; exact this, hstop _ c pre _ (Nat.le_refl _) hpre (hIx _ _ _ _ hi (MvB.putObj _ _ _ _ _ (by omega) hl rfl)) ((World.putObj_heap_other (by omega)).trans hk)⟩
end Go.Proofs.Ytlffkbcaphhldaa.Rh
