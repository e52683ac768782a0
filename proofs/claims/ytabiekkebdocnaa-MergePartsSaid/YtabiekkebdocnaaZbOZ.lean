/- The structs of cells: what reads as one, and is no heavier than a row's data may be. -/
import Derived.Test.YtabiekkebdocnaaZbQx6
import Derived.Test.YtabiekkebdocnaaZbJ14
namespace Go.Proofs.Ytabiekkebdocnaa.Opn
open Go.RowKit Go.Proofs.YtabiekkebdocnaaW.PrintWords Go.ChangeShapes Go.WideShapes
open Go.Proofs.Ytabiekkebdocnaa.Q
set_option linter.unusedVariables false
set_option linter.unusedSimpArgs false
def WK (x : S33) : Prop := x.f0.size ≤ 140737488351232 ∧ x.f1.size ≤ 140737488351232 ∧ (Lit.int .i64 x.f2).wf = true ∧ x.f3.size ≤ 140737488351232
def WV (x : S35) : Prop := (Lit.int .i64 x.f0).wf = true ∧ (Lit.int .i64 x.f1).wf = true ∧ x.f2.size ≤ 140737488351232
def WVer (x : S37) : Prop := (Lit.int .i64 x.f0).wf = true ∧ True ∧ (Lit.int .i64 x.f2).wf = true ∧ WV x.f3
def WC (x : S39) : Prop := WK x.f0 ∧ WVer x.f1
theorem z33 : OpensZ Try.prog 33 k33 WK :=
 OpensZ.struct (f := fun x : S33 => (x.f0, x.f1, x.f2, x.f3)) Try.underlying33 (by kernel_rfl)
  (OpensFZ.cons (OpensZ.string Try.underlying9) rfl (by kernel_rfl) (OpensFZ.cons (OpensZ.string Try.underlying9) rfl (by kernel_rfl)
   (OpensFZ.cons (OpensZ.int Try.underlying3) rfl (by kernel_rfl) (OpensFZ.one (OpensZ.string Try.underlying9) rfl (by kernel_rfl)))))
  (fun y => ⟨y.1, y.2.1, y.2.2.1, y.2.2.2⟩) (fun _ => rfl)
theorem z35 : OpensZ Try.prog 35 k35 WV :=
 OpensZ.struct (f := fun x : S35 => (x.f0, x.f1, x.f2)) Try.underlying35 (by kernel_rfl)
  (OpensFZ.cons (OpensZ.int Try.underlying3) rfl (by kernel_rfl) (OpensFZ.cons (OpensZ.int Try.underlying3) rfl (by kernel_rfl) (OpensFZ.one (OpensZ.string Try.underlying9) rfl (by kernel_rfl))))
  (fun y => ⟨y.1, y.2.1, y.2.2⟩) (fun _ => rfl)
theorem z37 : OpensZ Try.prog 37 k37 WVer :=
 OpensZ.struct (f := fun x : S37 => (x.f0, x.f1, x.f2, x.f3)) Try.underlying37 (by kernel_rfl)
  (OpensFZ.cons (OpensZ.int Try.underlying3) rfl (by kernel_rfl) (OpensFZ.cons (OpensZ.bool Try.underlying4) rfl (by kernel_rfl) (OpensFZ.cons (OpensZ.int Try.underlying3) rfl (by kernel_rfl) (OpensFZ.one z35 rfl (by kernel_rfl)))))
  (fun y => ⟨y.1, y.2.1, y.2.2.1, y.2.2.2⟩) (fun _ => rfl)
theorem z39 : OpensZ Try.prog 39 k39 WC :=
 OpensZ.struct (f := fun x : S39 => (x.f0, x.f1)) Try.underlying39 (by kernel_rfl)
  (OpensFZ.cons z33 rfl (by kernel_rfl) (OpensFZ.one z37 rfl (by kernel_rfl))) (fun y => ⟨y.1, y.2⟩) (fun _ => rfl)
end Go.Proofs.Ytabiekkebdocnaa.Opn
