/- The chapter's structs: what reads as one of type 23, 25, 27, 29 is of the print's kind. -/
import Derived.Test.YtaedmofnhjaljaaQx0
import Derived.Test.YtaedmofnhjaljaaOpen
namespace Go.Proofs.Ytaedmofnhjaljaa.Opn
open Go.RowKit Go.Proofs.YtaedmofnhjaljaaW.PrintWords Go.ChangeShapes Go.WideShapes
open Go.Proofs.Ytaedmofnhjaljaa.Q

theorem o23 : Opens Try.prog 23 k23 (fun x => x.f0.size ≤ maxLen ∧ x.f1.size ≤ maxLen ∧ (Lit.int .i64 x.f2).wf = true ∧ x.f3.size ≤ maxLen) :=
  Opens.struct (f := fun x : S23 => (x.f0, x.f1, x.f2, x.f3)) Try.underlying23 (by kernel_rfl)
    (OpensF.cons (Opens.string Try.underlying9) rfl (by kernel_rfl) (OpensF.cons (Opens.string Try.underlying9) rfl (by kernel_rfl)
      (OpensF.cons (Opens.int Try.underlying3) rfl (by kernel_rfl) (OpensF.one (Opens.string Try.underlying9) rfl (by kernel_rfl)))))
    (fun y => ⟨y.1, y.2.1, y.2.2.1, y.2.2.2⟩) (fun _ => rfl)
theorem o25 : Opens Try.prog 25 k25 (fun x => (Lit.int .i64 x.f0).wf = true ∧ (Lit.int .i64 x.f1).wf = true ∧ x.f2.size ≤ maxLen) :=
  Opens.struct (f := fun x : S25 => (x.f0, x.f1, x.f2)) Try.underlying25 (by kernel_rfl)
    (OpensF.cons (Opens.int Try.underlying3) rfl (by kernel_rfl) (OpensF.cons (Opens.int Try.underlying3) rfl (by kernel_rfl) (OpensF.one (Opens.string Try.underlying9) rfl (by kernel_rfl))))
    (fun y => ⟨y.1, y.2.1, y.2.2⟩) (fun _ => rfl)
theorem o27 : Opens Try.prog 27 k27 (fun x => (Lit.int .i64 x.f0).wf = true ∧ True ∧ (Lit.int .i64 x.f2).wf = true ∧ (Lit.int .i64 x.f3.f0).wf = true ∧ (Lit.int .i64 x.f3.f1).wf = true ∧ x.f3.f2.size ≤ maxLen) :=
  Opens.struct (f := fun x : S27 => (x.f0, x.f1, x.f2, x.f3)) Try.underlying27 (by kernel_rfl)
    (OpensF.cons (Opens.int Try.underlying3) rfl (by kernel_rfl) (OpensF.cons (Opens.bool Try.underlying4) rfl (by kernel_rfl) (OpensF.cons (Opens.int Try.underlying3) rfl (by kernel_rfl) (OpensF.one o25 rfl (by kernel_rfl)))))
    (fun y => ⟨y.1, y.2.1, y.2.2.1, y.2.2.2⟩) (fun _ => rfl)
theorem o29 : Opens Try.prog 29 k29 (fun x => (x.f0.f0.size ≤ maxLen ∧ x.f0.f1.size ≤ maxLen ∧ (Lit.int .i64 x.f0.f2).wf = true ∧ x.f0.f3.size ≤ maxLen) ∧ (Lit.int .i64 x.f1.f0).wf = true ∧ True ∧ (Lit.int .i64 x.f1.f2).wf = true ∧ (Lit.int .i64 x.f1.f3.f0).wf = true ∧ (Lit.int .i64 x.f1.f3.f1).wf = true ∧ x.f1.f3.f2.size ≤ maxLen) :=
  Opens.struct (f := fun x : S29 => (x.f0, x.f1)) Try.underlying29 (by kernel_rfl)
    (OpensF.cons o23 rfl (by kernel_rfl) (OpensF.one o27 rfl (by kernel_rfl))) (fun y => ⟨y.1, y.2⟩) (fun _ => rfl)
end Go.Proofs.Ytaedmofnhjaljaa.Opn
