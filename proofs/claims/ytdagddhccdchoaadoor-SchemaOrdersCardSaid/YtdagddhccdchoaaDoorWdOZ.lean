/- The structs of the schema's laws: what reads as one, and is no heavier than a row's data may be. -/
import Derived.Test.YtdagddhccdchoaaDoorWdQx4
import Derived.Test.YtdagddhccdchoaaDoorWdOpenZ
namespace Go.Proofs.YtdagddhccdchoaaDoor.Opn
open Go.RowKit Go.Proofs.YtdagddhccdchoaaDoorW.PrintWords Go.ChangeShapes Go.WideShapes
open Go.Proofs.YtdagddhccdchoaaDoor.Q
set_option linter.unusedVariables false
set_option linter.unusedSimpArgs false
theorem zCol : OpensZ Tryd.prog 29 k29 (fun x => x.f0.size ≤ 140737488351232 ∧ (Lit.int .i64 x.f1).wf = true) :=
 OpensZ.struct (f := fun x : S29 => (x.f0, x.f1)) Tryd.underlying29 (by kernel_rfl)
  (OpensFZ.cons (OpensZ.string Tryd.underlying9) rfl (by kernel_rfl) (OpensFZ.one (OpensZ.int Tryd.underlying3) rfl (by kernel_rfl))) (fun y => ⟨y.1, y.2⟩) (fun _ => rfl)
def WTab (x : S26) : Prop := x.f0.size ≤ 140737488351232 ∧ x.f1.size ≤ 140737488351232 ∧ x.f2.size ≤ 140737488351232 ∧ (∀ c ∈ x.f3, c.f0.size ≤ 140737488351232 ∧ (Lit.int .i64 c.f1).wf = true) ∧ x.f3.length * 24 ≤ 140737488351232 ∧ x.f3.length ≤ maxLen
theorem zTab : OpensZ Tryd.prog 26 k26 WTab :=
 OpensZ.struct (f := fun x : S26 => (x.f0, x.f1, x.f2, x.f3)) Tryd.underlying26 (by kernel_rfl)
  (OpensFZ.cons (OpensZ.string Tryd.underlying9) rfl (by kernel_rfl) (OpensFZ.cons (OpensZ.string Tryd.underlying9) rfl (by kernel_rfl) (OpensFZ.cons (OpensZ.string Tryd.underlying9) rfl (by kernel_rfl)
   (OpensFZ.one (OpensZ.slice (B := 24) Tryd.underlying24 (by kernel_rfl) (by kernel_rfl) zCol) rfl (by kernel_rfl)))))
  (fun y => ⟨y.1, y.2.1, y.2.2.1, y.2.2.2⟩) (fun _ => rfl)
end Go.Proofs.YtdagddhccdchoaaDoor.Opn
