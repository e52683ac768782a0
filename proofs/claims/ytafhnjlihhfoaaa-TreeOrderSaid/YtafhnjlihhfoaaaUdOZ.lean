/- The structs of cells: what reads as one, and is no heavier than a row's data may be. -/
import Derived.Test.YtafhnjlihhfoaaaUdQx7
import Derived.Test.YtafhnjlihhfoaaaUdJ11
namespace Go.Proofs.Ytafhnjlihhfoaaa.Opn
open Go.RowKit Go.Proofs.YtafhnjlihhfoaaaW.PrintWords Go.ChangeShapes Go.WideShapes
open Go.Proofs.Ytafhnjlihhfoaaa.Q
def WK (x : S32) : Prop := x.f0.size ≤ 140737488351232 ∧ x.f1.size ≤ 140737488351232 ∧ (Lit.int .i64 x.f2).wf = true ∧ x.f3.size ≤ 140737488351232
def WV (x : S34) : Prop := (Lit.int .i64 x.f0).wf = true ∧ (Lit.int .i64 x.f1).wf = true ∧ x.f2.size ≤ 140737488351232
def WVer (x : S36) : Prop := (Lit.int .i64 x.f0).wf = true ∧ True ∧ (Lit.int .i64 x.f2).wf = true ∧ WV x.f3
def WC (x : S38) : Prop := WK x.f0 ∧ WVer x.f1
theorem z32 : OpensZ Try.prog 32 k32 WK :=
 OpensZ.struct (f := fun x : S32 => (x.f0, x.f1, x.f2, x.f3)) Try.underlying32 (by kernel_rfl)
  (OpensFZ.cons (OpensZ.string Try.underlying9) rfl (by kernel_rfl) (OpensFZ.cons (OpensZ.string Try.underlying9) rfl (by kernel_rfl)
   (OpensFZ.cons (OpensZ.int Try.underlying3) rfl (by kernel_rfl) (OpensFZ.one (OpensZ.string Try.underlying9) rfl (by kernel_rfl)))))
  (fun y => ⟨y.1, y.2.1, y.2.2.1, y.2.2.2⟩) (fun _ => rfl)
theorem z34 : OpensZ Try.prog 34 k34 WV :=
 OpensZ.struct (f := fun x : S34 => (x.f0, x.f1, x.f2)) Try.underlying34 (by kernel_rfl)
  (OpensFZ.cons (OpensZ.int Try.underlying3) rfl (by kernel_rfl) (OpensFZ.cons (OpensZ.int Try.underlying3) rfl (by kernel_rfl) (OpensFZ.one (OpensZ.string Try.underlying9) rfl (by kernel_rfl))))
  (fun y => ⟨y.1, y.2.1, y.2.2⟩) (fun _ => rfl)
theorem z36 : OpensZ Try.prog 36 k36 WVer :=
 OpensZ.struct (f := fun x : S36 => (x.f0, x.f1, x.f2, x.f3)) Try.underlying36 (by kernel_rfl)
  (OpensFZ.cons (OpensZ.int Try.underlying3) rfl (by kernel_rfl) (OpensFZ.cons (OpensZ.bool Try.underlying4) rfl (by kernel_rfl) (OpensFZ.cons (OpensZ.int Try.underlying3) rfl (by kernel_rfl) (OpensFZ.one z34 rfl (by kernel_rfl)))))
  (fun y => ⟨y.1, y.2.1, y.2.2.1, y.2.2.2⟩) (fun _ => rfl)
theorem z38 : OpensZ Try.prog 38 k38 WC :=
 OpensZ.struct (f := fun x : S38 => (x.f0, x.f1)) Try.underlying38 (by kernel_rfl)
  (OpensFZ.cons z32 rfl (by kernel_rfl) (OpensFZ.one z36 rfl (by kernel_rfl))) (fun y => ⟨y.1, y.2⟩) (fun _ => rfl)
theorem wf_i64 {n : Int} (h : (Lit.int .i64 n).wf = true) : -9223372036854775808 ≤ n ∧ n ≤ 9223372036854775807 := by
 simpa [Lit.wf, IntKind.min, IntKind.max, IntKind.signed, IntKind.bits] using h
end Go.Proofs.Ytafhnjlihhfoaaa.Opn
