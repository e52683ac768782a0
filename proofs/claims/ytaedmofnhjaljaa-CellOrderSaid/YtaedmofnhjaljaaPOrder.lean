/- CellOrder's plain law: it answers true, whatever the three versions. -/
import Derived.Test.YtaedmofnhjaljaaQx12
import Derived.Test.YtaedmofnhjaljaaP
namespace Go.Proofs.Ytaedmofnhjaljaa.Pl
open Go.RowKit Go.Proofs.YtaedmofnhjaljaaW.PrintWords
open Go.Proofs.Ytaedmofnhjaljaa.Q Go.Proofs.Ytaedmofnhjaljaa.Ord

theorem lex_range {α : Type} {c d : α → α → Int} {x y : α} (hc : -1 ≤ c x y ∧ c x y ≤ 1) (hd : -1 ≤ d x y ∧ d x y ≤ 1) : -1 ≤ lex c d x y ∧ lex c d x y ≤ 1 := by
  unfold lex; split <;> assumption
theorem ci_range (a b : Int) : -1 ≤ ci a b ∧ ci a b ≤ 1 := by unfold ci; repeat' split
                                                              all_goals omega
theorem cl_range (a b : List UInt8) : -1 ≤ cl a b ∧ cl a b ≤ 1 := by unfold cl; repeat' split
                                                                     all_goals omega
theorem cmpV_range (x y : S27) : -1 ≤ cmpV x y ∧ cmpV x y ≤ 1 := lex_range (ci_range _ _) (lex_range (ci_range _ _) (lex_range (ci_range _ _) (lex_range (ci_range _ _) (cl_range _ _))))

theorem kg_some (a0 a1 : ByteArray) (a2 : Int) (a3 : ByteArray) : ∃ b, key_Good.f a0 a1 a2 a3 = some b := by
  unfold key_Good.f key_Name.f
  simp only [Option.bind_some]
  repeat' split
  all_goals exact ⟨_, rfl⟩
theorem cg_some (a0 a1 : ByteArray) (a2 : Int) (a3 : ByteArray) (x : S27) : ∃ b, cell_Good.f a0 a1 a2 a3 x.f0 x.f1 x.f2 x.f3.f0 x.f3.f1 x.f3.f2 = some b := by
  unfold cell_Good.f
  obtain ⟨b, hb⟩ := kg_some a0 a1 a2 a3
  rw [hb]
  simp only [Option.bind_some]
  repeat' split
  all_goals exact ⟨_, rfl⟩
theorem cg_true {a0 a1 : ByteArray} {a2 : Int} {a3 : ByteArray} {x : S27} (h : cell_Good.f a0 a1 a2 a3 x.f0 x.f1 x.f2 x.f3.f0 x.f3.f1 x.f3.f2 = some true) :
    (x.f1 = true → x.f3.f0 = 0 ∧ x.f3.f1 = 0 ∧ x.f3.f2.toList = []) ∧ (x.f1 = false → x.f2 = 0) := by
  unfold cell_Good.f at h
  obtain ⟨b, hb⟩ := kg_some a0 a1 a2 a3
  rw [hb] at h
  simp only [Option.bind_some] at h
  cases b with
  | false => simp at h
  | true =>
    rw [if_pos rfl] at h
    by_cases h1 : x.f1 = true
    · rw [if_pos h1] at h
      simp only [Option.some.injEq, Bool.and_eq_true, beq_iff_eq] at h
      exact ⟨fun _ => h, fun z => by rw [h1] at z; cases z⟩
    · rw [if_neg h1] at h
      refine ⟨fun z => absurd z h1, fun _ => ?_⟩
      by_cases h2 : x.f2 = 0
      · exact h2
      · rw [if_neg h2] at h; cases h
theorem good_eq {x y : S27} (hx : (x.f1 = true → x.f3.f0 = 0 ∧ x.f3.f1 = 0 ∧ x.f3.f2.toList = []) ∧ (x.f1 = false → x.f2 = 0)) (hy : (y.f1 = true → y.f3.f0 = 0 ∧ y.f3.f1 = 0 ∧ y.f3.f2.toList = []) ∧ (y.f1 = false → y.f2 = 0)) :
    cmpV x y = 0 ↔ x.f0 = y.f0 ∧ x.f1 = y.f1 ∧ x.f2 = y.f2 ∧ x.f3.f0 = y.f3.f0 ∧ x.f3.f1 = y.f3.f1 ∧ x.f3.f2.toList = y.f3.f2.toList := by
  rw [cmpV_zero]
  obtain ⟨x0, x1, x2, x3, x4, x5⟩ := x
  obtain ⟨y0, y1, y2, y3, y4, y5⟩ := y
  cases x1 <;> cases y1 <;> simp_all [v1, v2, v3]

theorem cellOrder (a b c : S27) : ∃ k, skerrylaw05_CellOrder.f k a.f0 a.f1 a.f2 a.f3.f0 a.f3.f1 a.f3.f2 b.f0 b.f1 b.f2 b.f3.f0 b.f3.f1 b.f3.f2 c.f0 c.f1 c.f2 c.f3.f0 c.f3.f1 c.f3.f2 = some true := by
  refine ⟨20, ?_⟩
  unfold skerrylaw05_CellOrder.f
  have ew : wrap64 (-(cmpV b a)) = cmpV a b := by
    have h := cmpV_cmp.anti a b; have r := cmpV_range b a
    rw [h]; unfold wrap64; omega
  have hend : skerrylaw05_CellOrder.j0 20 false a.f0 a.f1 a.f2 a.f3.f0 a.f3.f1 a.f3.f2 b.f0 b.f1 b.f2 b.f3.f0 b.f3.f1 b.f3.f2 = some true := by
    rw [skerrylaw05_CellOrder.j0, if_neg (by simp)]
    simp only [lives_f 19 (by omega), Option.bind_some]
    split
    · rfl
    rw [show skerrylaw05_key.f (⟨#[97]⟩ : ByteArray) = some (⟨#[116]⟩, ⟨#[120]⟩, 1, ⟨#[97]⟩) from rfl]
    simp only [Option.bind_some]
    obtain ⟨g, hg⟩ := cg_some ⟨#[116]⟩ ⟨#[120]⟩ 1 ⟨#[97]⟩ a
    obtain ⟨g', hg'⟩ := cg_some ⟨#[116]⟩ ⟨#[120]⟩ 1 ⟨#[97]⟩ b
    rw [hg, hg']
    simp only [Option.bind_some]
    cases g with
    | false => rfl
    | true =>
      rw [if_pos rfl]
      cases g' with
      | false => rfl
      | true =>
        rw [if_pos rfl, cmp_f 19 (by omega)]
        simp only [Option.bind_some]
        have e := good_eq (cg_true hg) (cg_true hg')
        rw [if_neg]
        simp only [bne_iff_ne, ne_eq, Decidable.not_not]
        rw [Bool.eq_iff_iff]
        simp only [beq_iff_eq, Bool.and_eq_true]
        exact e
  simp only [cmp_f 20 (by omega), Option.bind_some]
  rw [show (⟨a.f0, a.f1, a.f2, ⟨a.f3.f0, a.f3.f1, a.f3.f2⟩⟩ : S27) = a from rfl, show (⟨b.f0, b.f1, b.f2, ⟨b.f3.f0, b.f3.f1, b.f3.f2⟩⟩ : S27) = b from rfl, show (⟨c.f0, c.f1, c.f2, ⟨c.f3.f0, c.f3.f1, c.f3.f2⟩⟩ : S27) = c from rfl]
  rw [ew, if_pos rfl, cmpV_cmp.refl, if_pos rfl, hend]
  split
  · split
    · rename_i h1 h2
      have := cmpV_cmp.trans a b c h1 h2
      rw [decide_eq_false (by omega)]; exact hend
    · rfl
  · rfl
end Go.Proofs.Ytaedmofnhjaljaa.Pl
