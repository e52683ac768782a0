/- Lemmas for this claim's walk: no condition of their own. -/
import Derived.Test.YtlffkbcaphhldaaFaQx9
import Derived.Test.YtlffkbcaphhldaaFaSkAll
import Derived.Test.YtlffkbcaphhldaaFaGet
import Derived.Test.YtlffkbcaphhldaaFaJ28
import Derived.Deep.MidRow
import Derived.WalkLawsBesides
import Derived.WalkSpells
import Derived.Lib.Hide
import Derived.Deep.DeepFit
import Derived.Outline
namespace Go.Proofs.Ytlffkbcaphhldaa.Q
open Go.RowKit Go.Proofs.YtlffkbcaphhldaaW.PrintWords Go.Proofs.YtlffkbcaphhldaaW.PrintLast Go.Proofs.YtlffkbcaphhldaaW.PrintMore
attribute [local go_sem] max2_int min2_int max_two min_two max_three min_three max_four min_four
set_option linter.unusedVariables false
set_option linter.unusedSimpArgs false
open Go.Lib Go.Proofs.Ytlffkbcaphhldaa.Sk Go.Proofs.Ytlffkbcaphhldaa.Pl Go.Proofs.Ytlffkbcaphhldaa.Ord Go.Proofs.Ytlffkbcaphhldaa.Nm Go.Proofs.Ytlffkbcaphhldaa.Rh
attribute [local go_sem] Oper.semAt_some
attribute [local go_sem high] idx8
abbrev ka (k : Ky) : Array Value := #[.string k.f0, .string k.f1, .int .i64 k.f2, .string k.f3]
structure SI (w : World) (T : List Tw) (u : Ky) (pre : List Tw) (W : World) : Prop where
 out : OutB k37 37 23 w (w.heap.size + 1 + 1) W (pre.map (·.c))
 mem : Mem W T
 ub : W.heap[w.heap.size + 1]? = some (.cells (ka u) 31 (0, 0))
 lt : ∀ y ∈ pre, cmpK y.c.f0 u < 0
theorem SI.mvb {w : World} {T : List Tw} {u : Ky} {pre : List Tw} {A C : World} {B : Nat} (h : SI w T u pre A) (h1 : ∀ q, q < T.length → (tg T q).b < w.heap.size) (hB : w.heap.size ≤ B) (hm : MvB 65 w.heap.size B A C) : SI w T u pre C :=
 ⟨OutB.mvb rfl (by decide) (by decide) (Nat.le_refl _) hB h.out hm, Mem.mvb h.mem h1 hB hm, (hm.same _ (blk_lt h.ub) (.inr (typed_ne h.ub (by decide))) (.inr ⟨_, h.ub, rfl⟩)).trans h.ub, h.lt⟩
theorem SI.below {w : World} {T : List Tw} {u : Ky} {pre : List Tw} {A C : World} (h : SI w T u pre A) (hb : Below A.heap.size A C) : SI w T u pre C := ⟨h.out.below hb, h.mem.below hb, blk_below h.ub hb, h.lt⟩
end Go.Proofs.Ytlffkbcaphhldaa.Q
namespace Go.Proofs.Ytlffkbcaphhldaa.Q
open Go.RowKit Go.Proofs.YtlffkbcaphhldaaW.PrintWords Go.Proofs.YtlffkbcaphhldaaW.PrintLast Go.Proofs.YtlffkbcaphhldaaW.PrintMore
attribute [local go_sem] max2_int min2_int max_two min_two max_three min_three max_four min_four
set_option linter.unusedVariables false
set_option linter.unusedSimpArgs false
open Go.Lib Go.Proofs.Ytlffkbcaphhldaa.Sk Go.Proofs.Ytlffkbcaphhldaa.Pl Go.Proofs.Ytlffkbcaphhldaa.Ord Go.Proofs.Ytlffkbcaphhldaa.Nm Go.Proofs.Ytlffkbcaphhldaa.Rh
attribute [local go_sem] Oper.semAt_some
theorem Mv.below {n1 : Nat} {A C : World} (h : Below A.heap.size A C) : Mv 65 n1 A C := ⟨h.os, h.tape, h.output, h.size, fun k hk _ => h.block k hk⟩
theorem cl_cells {W : World} {A : Option Addr} {M : List Cl} (h : Kd.C k37 W A M.length M) (i : Nat) (hi : i < M.length) : ∃ ad, A = some ad ∧ W.cell? (ad.add (i * 10)) = some (.string (M.getD i z37).f0.f0) ∧ W.cell? ⟨(ad.add (i * 10)).block, (ad.add (i * 10)).off + 1, none⟩ = some (.string (M.getD i z37).f0.f1) ∧ W.cell? ⟨(ad.add (i * 10)).block, (ad.add (i * 10)).off + 2, none⟩ = some (.int .i64 (M.getD i z37).f0.f2) ∧ W.cell? ⟨(ad.add (i * 10)).block, (ad.add (i * 10)).off + 3, none⟩ = some (.string (M.getD i z37).f0.f3) ∧ W.cell? ⟨(ad.add (i * 10)).block, (ad.add (i * 10)).off + 4, none⟩ = some (.int .i64 (M.getD i z37).f1.f0) ∧ W.cell? ⟨(ad.add (i * 10)).block, (ad.add (i * 10)).off + 5, none⟩ = some (.bool (M.getD i z37).f1.f1) ∧ W.cell? ⟨(ad.add (i * 10)).block, (ad.add (i * 10)).off + 6, none⟩ = some (.int .i64 (M.getD i z37).f1.f2) ∧ W.cell? ⟨(ad.add (i * 10)).block, (ad.add (i * 10)).off + 7, none⟩ = some (.int .i64 (M.getD i z37).f1.f3.f0) ∧ W.cell? ⟨(ad.add (i * 10)).block, (ad.add (i * 10)).off + 8, none⟩ = some (.int .i64 (M.getD i z37).f1.f3.f1) ∧ W.cell? ⟨(ad.add (i * 10)).block, (ad.add (i * 10)).off + 9, none⟩ = some (.string (M.getD i z37).f1.f3.f2) := by
 have h1 := at_T37 h (i : Int) (by omega) (by omega)
 unfold rd_T37 at h1
 rw [Int.toNat_natCast] at h1
 exact h1
abbrev cc (x : Cl) : Array Value := #[.string x.f0.f0, .string x.f0.f1, .int .i64 x.f0.f2, .string x.f0.f3, .int .i64 x.f1.f0, .bool x.f1.f1, .int .i64 x.f1.f2, .int .i64 x.f1.f3.f0, .int .i64 x.f1.f3.f1, .string x.f1.f3.f2]
end Go.Proofs.Ytlffkbcaphhldaa.Q
