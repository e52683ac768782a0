/- CellLater's plain law: it answers true, whatever the two versions. -/
import Derived.Test.YtaedmofnhjaljaaQx14
import Derived.Test.YtaedmofnhjaljaaP
namespace Go.Proofs.Ytaedmofnhjaljaa.Pl
open Go.RowKit Go.Proofs.YtaedmofnhjaljaaW.PrintWords
open Go.Proofs.Ytaedmofnhjaljaa.Q Go.Proofs.Ytaedmofnhjaljaa.Ord

theorem cmpV_lt {x y : S27} (h : x.f0 < y.f0) : cmpV x y < 0 := by
  have : ci x.f0 y.f0 = -1 := by unfold ci; rw [if_pos h]
  simp [cmpV, lex, this]
theorem cmpV_gt {x y : S27} (h : y.f0 < x.f0) : ¬ cmpV x y < 0 := by
  have : ci x.f0 y.f0 = 1 := by unfold ci; rw [if_neg (by omega), if_pos h]
  simp [cmpV, lex, this]
theorem cmpV_dead {x y : S27} (h : x.f0 = y.f0) (h1 : x.f1 = false) (h2 : y.f1 = true) : cmpV x y < 0 := by
  have : ci x.f0 y.f0 = 0 := ci_zero.2 h
  have e : ci (rk x) (rk y) = -1 := by simp [rk, h1, h2, ci]
  simp [cmpV, lex, this, e]
theorem cmpV_alive {x y : S27} (h : x.f0 = y.f0) (h1 : x.f1 = true) (h2 : y.f1 = false) : ¬ cmpV x y < 0 := by
  have : ci x.f0 y.f0 = 0 := ci_zero.2 h
  have e : ci (rk x) (rk y) = 1 := by simp [rk, h1, h2, ci]
  simp [cmpV, lex, this, e]

theorem cellLater (a b : S27) : ∃ k, skerrylaw05_CellLater.f k a.f0 a.f1 a.f2 a.f3.f0 a.f3.f1 a.f3.f2 b.f0 b.f1 b.f2 b.f3.f0 b.f3.f1 b.f3.f2 = some true := by
  refine ⟨12, ?_⟩
  unfold skerrylaw05_CellLater.f
  rw [join_f 12 (by omega)]
  simp only [Option.bind_some]
  have hJ : joinV a b = a ∨ joinV a b = b := by unfold joinV; split <;> simp
  have l1 : a.f0 < b.f0 → joinV a b = b := fun h => by unfold joinV; rw [if_pos (cmpV_lt h)]
  have l2 : b.f0 < a.f0 → joinV a b = a := fun h => by unfold joinV; rw [if_neg (cmpV_gt h)]
  have l3 : a.f0 = b.f0 → a.f1 = false → b.f1 = true → joinV a b = b := fun h h1 h2 => by unfold joinV; rw [if_pos (cmpV_dead h h1 h2)]
  have l4 : a.f0 = b.f0 → a.f1 = true → b.f1 = false → joinV a b = a := fun h h1 h2 => by unfold joinV; rw [if_neg (cmpV_alive h h1 h2)]
  obtain ⟨a0, a1, a2, a3, a4, a5⟩ := a
  obtain ⟨b0, b1, b2, b3, b4, b5⟩ := b
  simp only at l1 l2 l3 l4 ⊢
  generalize joinV ⟨a0, a1, a2, ⟨a3, a4, a5⟩⟩ ⟨b0, b1, b2, ⟨b3, b4, b5⟩⟩ = J at *
  rcases Int.lt_trichotomy a0 b0 with h | h | h
  · obtain rfl := l1 h
    have h' : ¬ b0 < a0 := by omega
    have h'' : ¬ a0 = b0 := by omega
    simp [tupV, h, h', h'', skerrylaw05_CellLater.j0, skerrylaw05_CellLater.j1, cell_Live.f, lives_f]
  · subst h
    have h' : ¬ a0 < a0 := by omega
    cases a1 <;> cases b1
    · rcases hJ with rfl | rfl <;> simp [tupV, h', skerrylaw05_CellLater.j0, skerrylaw05_CellLater.j1, cell_Live.f, lives_f]
    · obtain rfl := l3 rfl rfl rfl
      simp [tupV, h', skerrylaw05_CellLater.j0, skerrylaw05_CellLater.j1, cell_Live.f, lives_f]
    · obtain rfl := l4 rfl rfl rfl
      simp [tupV, h', skerrylaw05_CellLater.j0, skerrylaw05_CellLater.j1, cell_Live.f, lives_f]
    · rcases hJ with rfl | rfl <;> simp [tupV, h', skerrylaw05_CellLater.j0, skerrylaw05_CellLater.j1, cell_Live.f, lives_f]
  · obtain rfl := l2 h
    have h' : ¬ a0 < b0 := by omega
    have h'' : ¬ a0 = b0 := by omega
    simp [tupV, h, h', h'', skerrylaw05_CellLater.j0, skerrylaw05_CellLater.j1, cell_Live.f, lives_f]
end Go.Proofs.Ytaedmofnhjaljaa.Pl
