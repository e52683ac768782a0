/- The structs of the schema's laws: what reads as one, and is no heavier than a row's data may be. -/
import Derived.Test.YtdagddhccdchoaaDoorWcQx4
import Derived.Test.YtdagddhccdchoaaDoorWcOpenZ
namespace Go.Proofs.YtdagddhccdchoaaDoor.Opn
open Go.RowKit Go.Proofs.YtdagddhccdchoaaDoorW.PrintWords Go.ChangeShapes Go.WideShapes
open Go.Proofs.YtdagddhccdchoaaDoor.Q
set_option linter.unusedVariables false
set_option linter.unusedSimpArgs false
theorem zCol : OpensZ Tryd.prog 29 k29 (fun x => x.f0.size ≤ 140737488351232 ∧ (Lit.int .i64 x.f1).wf = true) :=
 OpensZ.struct (f := fun x : S29 => (x.f0, x.f1)) Tryd.underlying29 (by kernel_rfl)
  (OpensFZ.cons (OpensZ.string Tryd.underlying9) rfl (by kernel_rfl) (OpensFZ.one (OpensZ.int Tryd.underlying3) rfl (by kernel_rfl))) (fun y => ⟨y.1, y.2⟩) (fun _ => rfl)
def WTab (x : S26) : Prop := x.f0.size ≤ 140737488351232 ∧ x.f1.size ≤ 140737488351232 ∧ x.f2.size ≤ 140737488351232 ∧ (∀ c ∈ x.f3, c.f0.size ≤ 140737488351232 ∧ (Lit.int .i64 c.f1).wf = true) ∧ x.f3.length * 24 ≤ 140737488351232 ∧ x.f3.length ≤ maxLen
theorem zTab : OpensZ Tryd.prog 26 k26 WTab :=
 OpensZ.struct (f := fun x : S26 => (x.f0, x.f1, x.f2, x.f3)) Tryd.underlying26 (by kernel_rfl)
  (OpensFZ.cons (OpensZ.string Tryd.underlying9) rfl (by kernel_rfl) (OpensFZ.cons (OpensZ.string Tryd.underlying9) rfl (by kernel_rfl) (OpensFZ.cons (OpensZ.string Tryd.underlying9) rfl (by kernel_rfl)
   (OpensFZ.one (OpensZ.slice (B := 24) Tryd.underlying24 (by kernel_rfl) (by kernel_rfl) zCol) rfl (by kernel_rfl)))))
  (fun y => ⟨y.1, y.2.1, y.2.2.1, y.2.2.2⟩) (fun _ => rfl)
abbrev KeyT := ByteArray × ByteArray × Int × ByteArray
abbrev ValT := Int × Int × ByteArray
abbrev VerT := Int × Bool × Int × ValT
def kKey : Kd KeyT := Kd.iso (Kd.pair Kd.string (Kd.pair Kd.string (Kd.pair (Kd.int .i64) Kd.string))) (fun x => x)
def kVal : Kd ValT := Kd.iso (Kd.pair (Kd.int .i64) (Kd.pair (Kd.int .i64) Kd.string)) (fun x => x)
def kVer : Kd VerT := Kd.iso (Kd.pair (Kd.int .i64) (Kd.pair Kd.bool (Kd.pair (Kd.int .i64) kVal))) (fun x => x)
def kCell : Kd (KeyT × VerT) := Kd.iso (Kd.pair kKey kVer) (fun x => x)
theorem zKey : OpensZ Tryd.prog 43 kKey (fun _ => True) := OpensZ.imp (
 OpensZ.struct (f := fun x : KeyT => x) Tryd.underlying43 (by kernel_rfl)
  (OpensFZ.cons (OpensZ.string Tryd.underlying9) rfl (by kernel_rfl) (OpensFZ.cons (OpensZ.string Tryd.underlying9) rfl (by kernel_rfl)
   (OpensFZ.cons (OpensZ.int Tryd.underlying3) rfl (by kernel_rfl) (OpensFZ.one (OpensZ.string Tryd.underlying9) rfl (by kernel_rfl))))) (fun y => y) (fun _ => rfl)) (fun _ _ => trivial)
theorem zVal : OpensZ Tryd.prog 45 kVal (fun _ => True) := OpensZ.imp (
 OpensZ.struct (f := fun x : ValT => x) Tryd.underlying45 (by kernel_rfl)
  (OpensFZ.cons (OpensZ.int Tryd.underlying3) rfl (by kernel_rfl) (OpensFZ.cons (OpensZ.int Tryd.underlying3) rfl (by kernel_rfl) (OpensFZ.one (OpensZ.string Tryd.underlying9) rfl (by kernel_rfl)))) (fun y => y) (fun _ => rfl)) (fun _ _ => trivial)
theorem zVer : OpensZ Tryd.prog 47 kVer (fun _ => True) := OpensZ.imp (
 OpensZ.struct (f := fun x : VerT => x) Tryd.underlying47 (by kernel_rfl)
  (OpensFZ.cons (OpensZ.int Tryd.underlying3) rfl (by kernel_rfl) (OpensFZ.cons (OpensZ.bool Tryd.underlying4) rfl (by kernel_rfl) (OpensFZ.cons (OpensZ.int Tryd.underlying3) rfl (by kernel_rfl) (OpensFZ.one zVal rfl (by kernel_rfl))))) (fun y => y) (fun _ => rfl)) (fun _ _ => trivial)
theorem zCell : OpensZ Tryd.prog 49 kCell (fun _ => True) :=
 OpensZ.imp (OpensZ.struct (f := fun x : KeyT × VerT => x) Tryd.underlying49 (by kernel_rfl)
  (OpensFZ.cons zKey rfl (by kernel_rfl) (OpensFZ.one zVer rfl (by kernel_rfl))) (fun y => y) (fun _ => rfl)) (fun _ _ => trivial)
theorem kCell_open {w : World} {x : KeyT × VerT} {cs : List Value} (h : kCell.K w x cs) :
  cs = [.string x.1.1, .string x.1.2.1, .int .i64 x.1.2.2.1, .string x.1.2.2.2, .int .i64 x.2.1, .bool x.2.2.1, .int .i64 x.2.2.2.1, .int .i64 x.2.2.2.2.1, .int .i64 x.2.2.2.2.2.1, .string x.2.2.2.2.2.2] := by
 obtain ⟨_, _, rfl, ⟨_, _, rfl, rfl, ⟨_, _, rfl, rfl, ⟨_, _, rfl, rfl, rfl⟩⟩⟩, ⟨_, _, rfl, rfl, ⟨_, _, rfl, rfl, ⟨_, _, rfl, rfl, ⟨_, _, rfl, rfl, ⟨_, _, rfl, rfl, rfl⟩⟩⟩⟩⟩⟩ := h
 exact rfl
end Go.Proofs.YtdagddhccdchoaaDoor.Opn
