/- CellJoins' plain law: it answers true, whatever the three versions. -/
import Derived.Test.YtaedmofnhjaljaaQx21
import Derived.Test.YtaedmofnhjaljaaPGood
namespace Go.Proofs.Ytaedmofnhjaljaa.Pl
open Go.RowKit Go.Proofs.YtaedmofnhjaljaaW.PrintWords
open Go.Proofs.Ytaedmofnhjaljaa.Q Go.Proofs.Ytaedmofnhjaljaa.Ord

theorem bytes_ext {a b : ByteArray} (h : a.toList = b.toList) : a = b := by
  rw [Lib.toList_data, Lib.toList_data] at h
  cases a; cases b
  simp only [ByteArray.mk.injEq]
  exact Array.toList_inj.1 h
theorem good_same {x y : S27} (hx : (x.f1 = true → x.f3.f0 = 0 ∧ x.f3.f1 = 0 ∧ x.f3.f2.toList = []) ∧ (x.f1 = false → x.f2 = 0)) (hy : (y.f1 = true → y.f3.f0 = 0 ∧ y.f3.f1 = 0 ∧ y.f3.f2.toList = []) ∧ (y.f1 = false → y.f2 = 0))
    (h : cmpV x y = 0) : x = y := by
  obtain ⟨h0, h1, h2, h3, h4, h5⟩ := (good_eq hx hy).1 h
  obtain ⟨x0, x1, x2, x3, x4, x5⟩ := x
  obtain ⟨y0, y1, y2, y3, y4, y5⟩ := y
  have h6 := bytes_ext h5
  clear h5
  simp only at h0 h1 h2 h3 h4 h6
  subst h0; subst h1; subst h2; subst h3; subst h4; subst h6
  rfl
theorem join_self (x : S27) : joinV x x = x := by unfold joinV; split <;> rfl
theorem join_comm {x y : S27} (h : cmpV x y = 0 → x = y) : joinV x y = joinV y x := by
  have a := cmpV_cmp.anti x y
  unfold joinV
  by_cases h1 : cmpV x y < 0
  · rw [if_pos h1, if_neg (by omega)]
  · by_cases h2 : cmpV x y = 0
    · rw [h h2]
    · rw [if_neg h1, if_pos (by omega)]
theorem join_assoc (x y z : S27) : joinV (joinV x y) z = joinV x (joinV y z) := by
  have a1 := cmpV_cmp.anti x y; have a2 := cmpV_cmp.anti y z; have a3 := cmpV_cmp.anti x z
  have t1 := cmpV_cmp.trans x y z; have t2 := cmpV_cmp.trans z y x; have t3 := cmpV_cmp.trans y x z; have t4 := cmpV_cmp.trans z x y; have t5 := cmpV_cmp.trans x z y; have t6 := cmpV_cmp.trans y z x
  unfold joinV
  by_cases h1 : cmpV x y < 0 <;> by_cases h2 : cmpV y z < 0 <;> by_cases h3 : cmpV x z < 0 <;> simp only [h1, h2, h3, if_true, if_false] <;> omega
theorem join_or (x y : S27) : joinV x y = x ∨ joinV x y = y := by unfold joinV; split <;> simp
theorem join_ge (x y : S27) : 0 ≤ cmpV (joinV x y) x ∧ 0 ≤ cmpV (joinV x y) y := by
  have a := cmpV_cmp.anti x y
  unfold joinV
  split
  · rw [cmpV_cmp.refl y]; omega
  · rw [cmpV_cmp.refl x]; omega


theorem j1_true (a b : S27) : skerrylaw05_CellJoins.j1 20 false a.f0 a.f1 a.f2 a.f3.f0 a.f3.f1 a.f3.f2 b.f0 b.f1 b.f2 b.f3.f0 b.f3.f1 b.f3.f2 = some true := by
  rw [skerrylaw05_CellJoins.j1, if_neg (by simp)]
  simp only [join_f 19 (by omega), cmp_f 19 (by omega), lives_f 19 (by omega), Option.bind_some]
  have g := join_ge a b
  have o := join_or a b
  rw [show (⟨a.f0, a.f1, a.f2, ⟨a.f3.f0, a.f3.f1, a.f3.f2⟩⟩ : S27) = a from rfl, show (⟨b.f0, b.f1, b.f2, ⟨b.f3.f0, b.f3.f1, b.f3.f2⟩⟩ : S27) = b from rfl]
  generalize joinV a b = J at *
  rw [show (⟨(tupV J).1, (tupV J).2.1, (tupV J).2.2.1, ⟨(tupV J).2.2.2.1, (tupV J).2.2.2.2.1, (tupV J).2.2.2.2.2⟩⟩ : S27) = J from rfl]
  rw [if_pos (show cmpV J a ≥ 0 from g.1), if_pos (show cmpV J b ≥ 0 from g.2)]
  rcases o with rfl | rfl
  · rw [if_pos (by simp [tupV])]
  · split
    · rfl
    · rw [if_pos (by simp [tupV])]

theorem cellJoins (a b c : S27) : ∃ k, skerrylaw05_CellJoins.f k a.f0 a.f1 a.f2 a.f3.f0 a.f3.f1 a.f3.f2 b.f0 b.f1 b.f2 b.f3.f0 b.f3.f1 b.f3.f2 c.f0 c.f1 c.f2 c.f3.f0 c.f3.f1 c.f3.f2 = some true := by
  refine ⟨24, ?_⟩
  unfold skerrylaw05_CellJoins.f
  rw [show skerrylaw05_key.f (⟨#[97]⟩ : ByteArray) = some (⟨#[116]⟩, ⟨#[120]⟩, 1, ⟨#[97]⟩) from rfl]
  simp only [Option.bind_some]
  have w1 : wrap64 (0 + 1) = 1 := by decide +kernel
  have w2 : wrap64 (1 + 1) = 2 := by decide +kernel
  have w3 : wrap64 (2 + 1) = 3 := by decide +kernel
  obtain ⟨g1, hg1⟩ := cg_some ⟨#[116]⟩ ⟨#[120]⟩ 1 ⟨#[97]⟩ a
  obtain ⟨g2, hg2⟩ := cg_some ⟨#[116]⟩ ⟨#[120]⟩ 1 ⟨#[97]⟩ b
  obtain ⟨g3, hg3⟩ := cg_some ⟨#[116]⟩ ⟨#[120]⟩ 1 ⟨#[97]⟩ c
  have s0 : ∀ {α : Type} (x y z : α), sel3 0 x y z = x := fun _ _ _ => rfl
  have s1 : ∀ {α : Type} (x y z : α), sel3 1 x y z = y := fun _ _ _ => rfl
  have s2 : ∀ {α : Type} (x y z : α), sel3 2 x y z = z := fun _ _ _ => rfl
  rw [skerrylaw05_CellJoins.l0, if_pos (by omega), if_pos (by omega)]
  simp only [s0, lives_f 23 (by omega), Option.bind_some, hg1]
  split
  · rfl
  cases g1 with
  | false => rfl
  | true =>
  rw [if_pos rfl, w1, skerrylaw05_CellJoins.l0, if_pos (by omega), if_pos (by omega)]
  simp only [s1, lives_f 22 (by omega), Option.bind_some, hg2]
  split
  · rfl
  cases g2 with
  | false => rfl
  | true =>
  rw [if_pos rfl, w2, skerrylaw05_CellJoins.l0, if_pos (by omega), if_pos (by omega)]
  simp only [s2, lives_f 21 (by omega), Option.bind_some, hg3]
  split
  · rfl
  cases g3 with
  | false => rfl
  | true =>
  rw [if_pos rfl, w3, skerrylaw05_CellJoins.l0, if_neg (by omega)]
  have ea := good_same (cg_true hg1) (cg_true hg2)
  simp only [join_f 20 (by omega), Option.bind_some]
  rw [show (⟨a.f0, a.f1, a.f2, ⟨a.f3.f0, a.f3.f1, a.f3.f2⟩⟩ : S27) = a from rfl, show (⟨b.f0, b.f1, b.f2, ⟨b.f3.f0, b.f3.f1, b.f3.f2⟩⟩ : S27) = b from rfl, show (⟨c.f0, c.f1, c.f2, ⟨c.f3.f0, c.f3.f1, c.f3.f2⟩⟩ : S27) = c from rfl]
  have tt : ∀ J : S27, (⟨(tupV J).1, (tupV J).2.1, (tupV J).2.2.1, ⟨(tupV J).2.2.2.1, (tupV J).2.2.2.2.1, (tupV J).2.2.2.2.2⟩⟩ : S27) = J := fun _ => rfl
  rw [← join_comm ea, join_self a, tt, tt, join_assoc a b c]
  rw [if_neg (by simp), if_neg (by simp [tupV])]
  simp only [beq_self_eq_true, Bool.not_true, Bool.or_self]
  exact j1_true a b
end Go.Proofs.Ytaedmofnhjaljaa.Pl
