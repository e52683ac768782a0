/- Good cells: what their versions are, and that only the same are alike. -/
import Derived.Test.YtaedmofnhjaljaaQx10
import Derived.Test.YtaedmofnhjaljaaP
namespace Go.Proofs.Ytaedmofnhjaljaa.Pl
open Go.RowKit Go.Proofs.YtaedmofnhjaljaaW.PrintWords
open Go.Proofs.Ytaedmofnhjaljaa.Q Go.Proofs.Ytaedmofnhjaljaa.Ord

theorem kg_some (a0 a1 : ByteArray) (a2 : Int) (a3 : ByteArray) : ∃ b, key_Good.f a0 a1 a2 a3 = some b := by
  unfold key_Good.f key_Name.f
  simp only [Option.bind_some]
  repeat' split
  all_goals exact ⟨_, rfl⟩
theorem cg_some (a0 a1 : ByteArray) (a2 : Int) (a3 : ByteArray) (x : S27) : ∃ b, cell_Good.f a0 a1 a2 a3 x.f0 x.f1 x.f2 x.f3.f0 x.f3.f1 x.f3.f2 = some b := by
  unfold cell_Good.f
  obtain ⟨b, hb⟩ := kg_some a0 a1 a2 a3
  rw [hb]
  simp only [Option.bind_some]
  repeat' split
  all_goals exact ⟨_, rfl⟩
theorem cg_true {a0 a1 : ByteArray} {a2 : Int} {a3 : ByteArray} {x : S27} (h : cell_Good.f a0 a1 a2 a3 x.f0 x.f1 x.f2 x.f3.f0 x.f3.f1 x.f3.f2 = some true) :
    (x.f1 = true → x.f3.f0 = 0 ∧ x.f3.f1 = 0 ∧ x.f3.f2.toList = []) ∧ (x.f1 = false → x.f2 = 0) := by
  unfold cell_Good.f at h
  obtain ⟨b, hb⟩ := kg_some a0 a1 a2 a3
  rw [hb] at h
  simp only [Option.bind_some] at h
  cases b with
  | false => simp at h
  | true =>
    rw [if_pos rfl] at h
    by_cases h1 : x.f1 = true
    · rw [if_pos h1] at h
      simp only [Option.some.injEq, Bool.and_eq_true, beq_iff_eq] at h
      exact ⟨fun _ => h, fun z => by rw [h1] at z; cases z⟩
    · rw [if_neg h1] at h
      refine ⟨fun z => absurd z h1, fun _ => ?_⟩
      by_cases h2 : x.f2 = 0
      · exact h2
      · rw [if_neg h2] at h; cases h
theorem good_eq {x y : S27} (hx : (x.f1 = true → x.f3.f0 = 0 ∧ x.f3.f1 = 0 ∧ x.f3.f2.toList = []) ∧ (x.f1 = false → x.f2 = 0)) (hy : (y.f1 = true → y.f3.f0 = 0 ∧ y.f3.f1 = 0 ∧ y.f3.f2.toList = []) ∧ (y.f1 = false → y.f2 = 0)) :
    cmpV x y = 0 ↔ x.f0 = y.f0 ∧ x.f1 = y.f1 ∧ x.f2 = y.f2 ∧ x.f3.f0 = y.f3.f0 ∧ x.f3.f1 = y.f3.f1 ∧ x.f3.f2.toList = y.f3.f2.toList := by
  rw [cmpV_zero]
  obtain ⟨x0, x1, x2, x3, x4, x5⟩ := x
  obtain ⟨y0, y1, y2, y3, y4, y5⟩ := y
  cases x1 <;> cases y1 <;> simp_all [v1, v2, v3]

end Go.Proofs.Ytaedmofnhjaljaa.Pl
