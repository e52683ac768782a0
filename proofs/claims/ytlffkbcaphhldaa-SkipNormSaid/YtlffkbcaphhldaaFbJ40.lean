/- Lemmas for this claim's walk: no condition of their own. -/
import Derived.Test.YtlffkbcaphhldaaFbQx9
import Derived.Test.YtlffkbcaphhldaaFbSkAll
import Derived.Test.YtlffkbcaphhldaaFbGet
import Derived.Test.YtlffkbcaphhldaaFbJ21
import Derived.Deep.MidRow
import Derived.WalkLawsBesides
import Derived.WalkSpells
import Derived.Lib.Hide
import Derived.Deep.DeepFit
import Derived.Outline
import Derived.Maps.OwnIn
import Derived.Test.YtlffkbcaphhldaaFbJ6
import Derived.Test.YtlffkbcaphhldaaFbWWords
namespace Go.Proofs.Ytlffkbcaphhldaa.Q
open Go.RowKit Go.Proofs.YtlffkbcaphhldaaW.PrintWords Go.Proofs.YtlffkbcaphhldaaW.PrintLast Go.Proofs.YtlffkbcaphhldaaW.PrintMore
attribute [local go_sem] max2_int min2_int max_two min_two max_three min_three max_four min_four
set_option linter.unusedVariables false
set_option linter.unusedSimpArgs false
open Go.Lib Go.Proofs.Ytlffkbcaphhldaa.Sk Go.Proofs.Ytlffkbcaphhldaa.Pl Go.Proofs.Ytlffkbcaphhldaa.Ord Go.Proofs.Ytlffkbcaphhldaa.Nm Go.Proofs.Ytlffkbcaphhldaa.Rh
attribute [local go_sem] Oper.semAt_some
attribute [local go_sem high] idx8
abbrev ka (k : Ky) : Array Value := #[.string k.f0, .string k.f1, .int .i64 k.f2, .string k.f3]
structure SI (w : World) (T : List Tw) (u : Ky) (pre : List Tw) (W : World) : Prop where
 out : OutB k37 37 23 w (w.heap.size + 1 + 1) W (pre.map (·.c))
 mem : Mem W T
 ub : W.heap[w.heap.size + 1]? = some (.cells (ka u) 31 (0, 0))
 lt : ∀ y ∈ pre, cmpK y.c.f0 u < 0
theorem SI.mvb {w : World} {T : List Tw} {u : Ky} {pre : List Tw} {A C : World} {B : Nat} (h : SI w T u pre A) (h1 : ∀ q, q < T.length → (tg T q).b < w.heap.size) (hB : w.heap.size ≤ B) (hm : MvB 65 w.heap.size B A C) : SI w T u pre C :=
 ⟨OutB.mvb rfl (by decide) (by decide) (Nat.le_refl _) hB h.out hm, Mem.mvb h.mem h1 hB hm, (hm.same _ (blk_lt h.ub) (.inr (typed_ne h.ub (by decide))) (.inr ⟨_, h.ub, rfl⟩)).trans h.ub, h.lt⟩
theorem SI.below {w : World} {T : List Tw} {u : Ky} {pre : List Tw} {A C : World} (h : SI w T u pre A) (hb : Below A.heap.size A C) : SI w T u pre C := ⟨h.out.below hb, h.mem.below hb, blk_below h.ub hb, h.lt⟩
end Go.Proofs.Ytlffkbcaphhldaa.Q
namespace Go.Proofs.Ytlffkbcaphhldaa.Q
open Go.RowKit Go.Proofs.YtlffkbcaphhldaaW.PrintWords Go.Proofs.YtlffkbcaphhldaaW.PrintLast Go.Proofs.YtlffkbcaphhldaaW.PrintMore
attribute [local go_sem] max2_int min2_int max_two min_two max_three min_three max_four min_four
set_option linter.unusedVariables false
set_option linter.unusedSimpArgs false
open Go.Lib Go.Proofs.Ytlffkbcaphhldaa.Sk Go.Proofs.Ytlffkbcaphhldaa.Pl Go.Proofs.Ytlffkbcaphhldaa.Ord Go.Proofs.Ytlffkbcaphhldaa.Nm Go.Proofs.Ytlffkbcaphhldaa.Rh
attribute [local go_sem] Oper.semAt_some
theorem Mv.below {n1 : Nat} {A C : World} (h : Below A.heap.size A C) : Mv 65 n1 A C := ⟨h.os, h.tape, h.output, h.size, fun k hk _ => h.block k hk⟩
theorem cl_cells {W : World} {A : Option Addr} {M : List Cl} (h : Kd.C k37 W A M.length M) (i : Nat) (hi : i < M.length) : ∃ ad, A = some ad ∧ W.cell? (ad.add (i * 10)) = some (.string (M.getD i z37).f0.f0) ∧ W.cell? ⟨(ad.add (i * 10)).block, (ad.add (i * 10)).off + 1, none⟩ = some (.string (M.getD i z37).f0.f1) ∧ W.cell? ⟨(ad.add (i * 10)).block, (ad.add (i * 10)).off + 2, none⟩ = some (.int .i64 (M.getD i z37).f0.f2) ∧ W.cell? ⟨(ad.add (i * 10)).block, (ad.add (i * 10)).off + 3, none⟩ = some (.string (M.getD i z37).f0.f3) ∧ W.cell? ⟨(ad.add (i * 10)).block, (ad.add (i * 10)).off + 4, none⟩ = some (.int .i64 (M.getD i z37).f1.f0) ∧ W.cell? ⟨(ad.add (i * 10)).block, (ad.add (i * 10)).off + 5, none⟩ = some (.bool (M.getD i z37).f1.f1) ∧ W.cell? ⟨(ad.add (i * 10)).block, (ad.add (i * 10)).off + 6, none⟩ = some (.int .i64 (M.getD i z37).f1.f2) ∧ W.cell? ⟨(ad.add (i * 10)).block, (ad.add (i * 10)).off + 7, none⟩ = some (.int .i64 (M.getD i z37).f1.f3.f0) ∧ W.cell? ⟨(ad.add (i * 10)).block, (ad.add (i * 10)).off + 8, none⟩ = some (.int .i64 (M.getD i z37).f1.f3.f1) ∧ W.cell? ⟨(ad.add (i * 10)).block, (ad.add (i * 10)).off + 9, none⟩ = some (.string (M.getD i z37).f1.f3.f2) := by
 have h1 := at_T37 h (i : Int) (by omega) (by omega)
 unfold rd_T37 at h1
 rw [Int.toNat_natCast] at h1
 exact h1
abbrev cc (x : Cl) : Array Value := #[.string x.f0.f0, .string x.f0.f1, .int .i64 x.f0.f2, .string x.f0.f3, .int .i64 x.f1.f0, .bool x.f1.f1, .int .i64 x.f1.f2, .int .i64 x.f1.f3.f0, .int .i64 x.f1.f3.f1, .string x.f1.f3.f2]
end Go.Proofs.Ytlffkbcaphhldaa.Q
namespace Go.Proofs.Ytlffkbcaphhldaa.Q
open Go.RowKit Go.Proofs.YtlffkbcaphhldaaW.PrintWords Go.Proofs.YtlffkbcaphhldaaW.PrintLast Go.Proofs.YtlffkbcaphhldaaW.PrintMore
attribute [local go_sem] max2_int min2_int max_two min_two max_three min_three max_four min_four
set_option linter.unusedVariables false
set_option linter.unusedSimpArgs false
open Go.Lib Go.Proofs.Ytlffkbcaphhldaa.Sk Go.Proofs.Ytlffkbcaphhldaa.Pl Go.Proofs.Ytlffkbcaphhldaa.Ord Go.Proofs.Ytlffkbcaphhldaa.Nm Go.Proofs.Ytlffkbcaphhldaa.Rh
attribute [local go_sem] Oper.semAt_some
theorem eqF (d : Nat) (w : World) (f : Fn) (x y : Array Value) : (Op.equalIn (d + 1) 53 (.func f x y) .nilFunc).run Try.prog w = .ok false w := by
 have h := Try.underlying53
 unfold Op.equalIn
 simp [go_sem, h]
theorem eqFn (w : World) (f : Fn) (x y : Array Value) : (binOp .eql 53 (.func f x y) .nilFunc).run Try.prog w = .ok (.bool false) w := by
 simp only [binOp]
 simp [Op.equal, Op.maxDepth, eqF 9999]
attribute [local go_sem high] eqFn
structure GI (w : World) (n1 : Nat) (stop : Int) (pre : List Cl) (W : World) : Prop where
 box : ∃ v, W.heap[w.heap.size + 1 + 1 + 1]? = some (.cells #[v] 23 (0, 0)) ∧ Kd.R k37 37 W w.heap.size (fun k => n1 ≤ k) v pre
 sb : W.heap[w.heap.size + 1 + 1]? = some (.cells #[.int .i64 stop] 3 (0, 0))
 bel : Below w.heap.size w W
 le : w.heap.size + 4 ≤ n1 ∧ n1 ≤ W.heap.size
 ns : ∀ i : Nat, i < pre.length → (i : Int) ≠ stop
theorem GI.below {w : World} {n1 : Nat} {stop : Int} {pre : List Cl} {A C : World} (h : GI w n1 stop pre A) (hb : Below A.heap.size A C) : GI w n1 stop pre C := by
 obtain ⟨⟨v, h1, h2⟩, h3, h4, h5, h6⟩ := h
 exact ⟨⟨v, blk_below h1 hb, Kd.R_below h2 hb⟩, blk_below h3 hb, below_step h4 hb, ⟨h5.1, Nat.le_trans h5.2 hb.size⟩, h6⟩
theorem GI.mvb {w : World} {n1 B : Nat} {stop : Int} {pre : List Cl} {A C : World} (h : GI w n1 stop pre A) (hB : n1 ≤ B) (hm : MvB 65 n1 B A C) : GI w n1 stop pre C := by
 obtain ⟨⟨v, h1, h2⟩, h3, h4, h5, h6⟩ := h
 refine ⟨⟨v, (hm.same _ (blk_lt h1) (.inr (typed_ne h1 (by decide))) (.inr ⟨_, h1, rfl⟩)).trans h1, ?_⟩, (hm.same _ (blk_lt h3) (.inr (typed_ne h3 (by decide))) (.inr ⟨_, h3, rfl⟩)).trans h3, ⟨hm.os.trans h4.os, hm.tape.trans h4.tape, hm.output.trans h4.output, Nat.le_trans h4.size hm.size, fun k hk => (hm.same k (Nat.lt_of_lt_of_le hk h4.size) (.inl (by omega)) (.inl (by omega))).trans (h4.block k hk)⟩, ⟨h5.1, Nat.le_trans h5.2 hm.size⟩, h6⟩
 refine Kd.R_mono (Kd.R_move (Kd.R_bound h2) fun k hk => ?_) (fun k hk => hk.1)
 obtain ⟨-, -, hk2, q, hq, cells, hc⟩ := hk
 obtain rfl : q = 37 := by
  rcases List.mem_cons.1 hq with e | e
  ·
   exact e
  ·
   cases e
 exact hm.same k hk2 (.inr (typed_ne hc (by decide))) (.inr ⟨_, hc, rfl⟩)
theorem GI.put {w : World} {n1 : Nat} {stop : Int} {pre : List Cl} {x : Cl} {A C : World} {v v1 : Value} (h : GI w n1 stop pre A) (hv : A.heap[w.heap.size + 1 + 1 + 1]? = some (.cells #[v] 23 (0, 0))) (hR0 : Kd.R k37 37 A w.heap.size (fun k => n1 ≤ k) v pre) (hR : Kd.R k37 37 C w.heap.size (fun k => n1 ≤ k) v1 (pre ++ [x])) (hB : Below w.heap.size w C) (hg : A.grownBy C v.ownBlock) (hs : (pre.length : Int) ≠ stop) : GI w n1 stop (pre ++ [x]) (C.setCell ⟨w.heap.size + 1 + 1 + 1, 0, none⟩ v1) := by
 obtain ⟨-, h3, h4, h5, h6⟩ := h
 have hb : C.heap[w.heap.size + 1 + 1 + 1]? = some (.cells #[v] 23 (0, 0)) := blk_grown hv hg (Kd.R_ne hR0 hv (by decide))
 have hb3 := blk_grown h3 hg (Kd.R_ne hR0 h3 (by decide))
 have hsz : (C.setCell ⟨w.heap.size + 1 + 1 + 1, 0, none⟩ v1).heap.size = C.heap.size := by simp [World.setCell]
 refine ⟨⟨v1, blk_put hb 0 _ rfl, Kd.R_far (p := ⟨w.heap.size + 1 + 1 + 1, 0, none⟩) hR (fun k hk => by have hk : n1 ≤ k := hk; have h7 := h5.1; show k ≠ w.heap.size + 1 + 1 + 1; omega) _⟩, blk_far hb3 (p := ⟨w.heap.size + 1 + 1 + 1, 0, none⟩) (by simp) _, below_set hB (by omega), ⟨h5.1, by rw [hsz]; exact Nat.le_trans h5.2 hg.size⟩, fun i hi => ?_⟩
 rw [List.length_append, List.length_singleton] at hi
 by_cases e : i < pre.length
 ·
  exact h6 i e
 ·
  rw [show i = pre.length by omega]; exact hs
theorem GKp.put {w : World} {n0 n1 : Nat} {pre : List Cl} {A C : World} {v v1 : Value} (hv : A.heap[w.heap.size + 1 + 1 + 1]? = some (.cells #[v] 23 (0, 0))) (hR0 : Kd.R k37 37 A w.heap.size (fun k => n1 ≤ k) v pre) (hg : A.grownBy C v.ownBlock) (hb : w.heap.size + 1 + 1 + 1 < n0) : Kp 65 n0 n1 A (C.setCell ⟨w.heap.size + 1 + 1 + 1, 0, none⟩ v1) := by
 have hs : (C.setCell ⟨w.heap.size + 1 + 1 + 1, 0, none⟩ v1).heap.size = C.heap.size := by simp [World.setCell]
 refine ⟨hg.os, hg.tape, hg.output, by rw [hs]; exact hg.size, fun k hk hc => ?_⟩
 have hne : k ≠ w.heap.size + 1 + 1 + 1 := fun e => by
  subst e
  rcases hc with hc | ⟨cells, fr, hc⟩
  ·
   omega
  ·
   exact typed_ne hv (by decide) _ _ hc
 refine (Below.heap_setCell _ ⟨w.heap.size + 1 + 1 + 1, 0, none⟩ v1 k hne).trans (hg.block k hk fun e => ?_)
 rcases hc with hc | ⟨cells, fr, hc⟩
 ·
  have := hR0.1 k e.symm; omega
 ·
  obtain ⟨cs, h2⟩ := Kd.R_typed hR0 k e.symm
  exact typed_ne h2 (by decide) _ _ hc
end Go.Proofs.Ytlffkbcaphhldaa.Q
