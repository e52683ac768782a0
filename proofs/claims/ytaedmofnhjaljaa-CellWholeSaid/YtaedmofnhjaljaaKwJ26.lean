/- The structs of cells: what reads as one, and is no heavier than a row's data may be. -/
import Derived.Test.YtaedmofnhjaljaaKwQx7
import Derived.Test.YtaedmofnhjaljaaKwOpenZ
import Derived.Test.YtaedmofnhjaljaaKwJ17
import Derived.Test.YtaedmofnhjaljaaKwPWeigh
namespace Go.Proofs.Ytaedmofnhjaljaa.Opn
open Go.RowKit Go.Proofs.YtaedmofnhjaljaaW.PrintWords Go.ChangeShapes Go.WideShapes
open Go.Proofs.Ytaedmofnhjaljaa.Q
def WK (x : S23) : Prop := x.f0.size ≤ 140737488351232 ∧ x.f1.size ≤ 140737488351232 ∧ (Lit.int .i64 x.f2).wf = true ∧ x.f3.size ≤ 140737488351232
def WV (x : S25) : Prop := (Lit.int .i64 x.f0).wf = true ∧ (Lit.int .i64 x.f1).wf = true ∧ x.f2.size ≤ 140737488351232
def WVer (x : S27) : Prop := (Lit.int .i64 x.f0).wf = true ∧ True ∧ (Lit.int .i64 x.f2).wf = true ∧ WV x.f3
def WC (x : S29) : Prop := WK x.f0 ∧ WVer x.f1
theorem z23 : OpensZ Try.prog 23 k23 WK :=
 OpensZ.struct (f := fun x : S23 => (x.f0, x.f1, x.f2, x.f3)) Try.underlying23 (by kernel_rfl)
  (OpensFZ.cons (OpensZ.string Try.underlying9) rfl (by kernel_rfl) (OpensFZ.cons (OpensZ.string Try.underlying9) rfl (by kernel_rfl)
   (OpensFZ.cons (OpensZ.int Try.underlying3) rfl (by kernel_rfl) (OpensFZ.one (OpensZ.string Try.underlying9) rfl (by kernel_rfl)))))
  (fun y => ⟨y.1, y.2.1, y.2.2.1, y.2.2.2⟩) (fun _ => rfl)
theorem z25 : OpensZ Try.prog 25 k25 WV :=
 OpensZ.struct (f := fun x : S25 => (x.f0, x.f1, x.f2)) Try.underlying25 (by kernel_rfl)
  (OpensFZ.cons (OpensZ.int Try.underlying3) rfl (by kernel_rfl) (OpensFZ.cons (OpensZ.int Try.underlying3) rfl (by kernel_rfl) (OpensFZ.one (OpensZ.string Try.underlying9) rfl (by kernel_rfl))))
  (fun y => ⟨y.1, y.2.1, y.2.2⟩) (fun _ => rfl)
theorem z27 : OpensZ Try.prog 27 k27 WVer :=
 OpensZ.struct (f := fun x : S27 => (x.f0, x.f1, x.f2, x.f3)) Try.underlying27 (by kernel_rfl)
  (OpensFZ.cons (OpensZ.int Try.underlying3) rfl (by kernel_rfl) (OpensFZ.cons (OpensZ.bool Try.underlying4) rfl (by kernel_rfl) (OpensFZ.cons (OpensZ.int Try.underlying3) rfl (by kernel_rfl) (OpensFZ.one z25 rfl (by kernel_rfl)))))
  (fun y => ⟨y.1, y.2.1, y.2.2.1, y.2.2.2⟩) (fun _ => rfl)
theorem z29 : OpensZ Try.prog 29 k29 WC :=
 OpensZ.struct (f := fun x : S29 => (x.f0, x.f1)) Try.underlying29 (by kernel_rfl)
  (OpensFZ.cons z23 rfl (by kernel_rfl) (OpensFZ.one z27 rfl (by kernel_rfl))) (fun y => ⟨y.1, y.2⟩) (fun _ => rfl)
theorem wf_i64 {n : Int} (h : (Lit.int .i64 n).wf = true) : -9223372036854775808 ≤ n ∧ n ≤ 9223372036854775807 := by
 simpa [Lit.wf, IntKind.min, IntKind.max, IntKind.signed, IntKind.bits] using h
end Go.Proofs.Ytaedmofnhjaljaa.Opn
namespace Go.Proofs.Ytaedmofnhjaljaa.Pl
open Go Go.RowKit Go.Proofs.YtaedmofnhjaljaaW.PrintWords Go.Proofs.Ytaedmofnhjaljaa.Q Go.Proofs.Ytaedmofnhjaljaa.Opn
theorem WC.fine {c : S29} (h : WC c) : FineC c := ⟨h.1.1, h.1.2.1, h.1.2.2.2, h.2.2.2.2.2.2⟩
theorem WC.ok {c : S29} (h : WC c) : okC c := ⟨wf_i64 h.1.2.2.1, wf_i64 h.2.1, wf_i64 h.2.2.2.1, wf_i64 h.2.2.2.2.2.1⟩
theorem len_of {n : Nat} (h : n * 112 ≤ 140737488351232) : n ≤ 1256584717421 := by omega
end Go.Proofs.Ytaedmofnhjaljaa.Pl
