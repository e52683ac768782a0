/- CellTells' plain law: it answers true, whatever the two cells. -/
import Derived.Test.YtaedmofnhjaljaaKtQx19
import Derived.Test.YtaedmofnhjaljaaKtPName
namespace Go.Proofs.Ytaedmofnhjaljaa.Pl
open Go.RowKit Go.Proofs.YtaedmofnhjaljaaW.PrintWords
open Go.Proofs.Ytaedmofnhjaljaa.Q Go.Proofs.Ytaedmofnhjaljaa.Ord
theorem empty_size {s : ByteArray} : s.toList = [] ↔ s.size = 0 := by
  rw [Lib.toList_data]
  cases s with | mk d => simp [ByteArray.size]
theorem keyGood_f (k : Nat) (hk : 30 ≤ k) (a0 a1 : ByteArray) (a2 : Int) (a3 : ByteArray) : skerryref04_Good.f k a0 a1 a2 a3 = key_Good.f a0 a1 a2 a3 := by
  unfold skerryref04_Good.f key_Good.f
  rw [name_f k hk a0, name_f k hk a3]
  simp only [key_Name.f, Option.bind_some]
  by_cases h : nameB a0 = true
  · rw [if_pos h, if_pos h]
    by_cases e : a1.toList = []
    · rw [if_pos e, if_neg (by have := empty_size.1 e; omega)]
    · rw [if_neg e, if_pos (by have : ¬ a1.size = 0 := fun z => e (empty_size.2 z); omega)]
  · rw [if_neg h, if_neg h]
theorem keyGood_some (a0 a1 : ByteArray) (a2 : Int) (a3 : ByteArray) : ∃ b, key_Good.f a0 a1 a2 a3 = some b := by
  unfold key_Good.f key_Name.f
  simp only [Option.bind_some]
  repeat' split
  all_goals exact ⟨_, rfl⟩
theorem cellGood_f (k : Nat) (hk : 30 ≤ k) (a0 a1 : ByteArray) (a2 : Int) (a3 : ByteArray) (a4 : Int) (a5 : Bool) (a6 a7 a8 : Int) (a9 : ByteArray) :
    skerryref05_Good.f k a0 a1 a2 a3 a4 a5 a6 a7 a8 a9 = cell_Good.f a0 a1 a2 a3 a4 a5 a6 a7 a8 a9 := by
  unfold skerryref05_Good.f cell_Good.f
  rw [keyGood_f k hk]
  obtain ⟨b, hb⟩ := keyGood_some a0 a1 a2 a3
  obtain ⟨n, rfl⟩ : ∃ n, k = n + 1 := ⟨k - 1, by omega⟩
  rw [hb]
  simp only [Option.bind_some, skerryref05_Good.j0, if_true]
  have hx : ∀ p q : Bool, (p != q) = (q != p) := by decide
  simp only [hx (a7 == 0)]
theorem cellGood_some (a0 a1 : ByteArray) (a2 : Int) (a3 : ByteArray) (a4 : Int) (a5 : Bool) (a6 a7 a8 : Int) (a9 : ByteArray) : ∃ b, cell_Good.f a0 a1 a2 a3 a4 a5 a6 a7 a8 a9 = some b := by
  unfold cell_Good.f
  obtain ⟨b, hb⟩ := keyGood_some a0 a1 a2 a3
  rw [hb]
  simp only [Option.bind_some]
  repeat' split
  all_goals exact ⟨_, rfl⟩
theorem ints_f (a b : Int) : skerryref05_ints.f a b = some (ci a b) := by
  unfold skerryref05_ints.f ci
  repeat' split
  all_goals first | rfl | omega
theorem rcmp_f (a0 : Int) (a1 : Bool) (a2 a3 a4 : Int) (a5 : ByteArray) (b0 : Int) (b1 : Bool) (b2 b3 b4 : Int) (b5 : ByteArray) :
    skerryref05_Cmp.f a0 a1 a2 a3 a4 a5 b0 b1 b2 b3 b4 b5 = some (cmpV ⟨a0, a1, a2, ⟨a3, a4, a5⟩⟩ ⟨b0, b1, b2, ⟨b3, b4, b5⟩⟩) := by
  unfold skerryref05_Cmp.f
  simp only [ints_f, Option.bind_some]
  have ci0 : ∀ z : Int, ci z z = 0 := fun z => ci_cmp.refl z
  have cl0 : ∀ z : List UInt8, cl z z = 0 := fun z => cl_cmp.refl z
  have h10 : ci 1 0 = 1 := by decide
  have h01 : ci 0 1 = -1 := by decide
  by_cases h : a0 = b0
  · rw [if_pos h]; subst h
    cases a1 <;> cases b1 <;> simp only [cmpV, lex, rk, v1, v2, v3, ci0, cl0, h10, h01, if_true, if_false, Bool.false_eq_true, show ¬((-1 : Int) = 0) by decide, show ¬((1 : Int) = 0) by decide, bne_self_eq_false, show (false != true) = true from rfl, show (true != false) = true from rfl]
    · by_cases h1 : a3 = b3
      · subst h1
        simp only [ci0, if_true]
        by_cases h2 : a4 = b4
        · subst h2; simp only [ci0, if_true, cl]
          repeat' split
          all_goals rfl
        · have : ¬ ci a4 b4 = 0 := fun z => h2 (ci_zero.1 z)
          simp only [h2, this, if_false]
      · have : ¬ ci a3 b3 = 0 := fun z => h1 (ci_zero.1 z)
        simp only [h1, this, if_false]
    · by_cases h1 : ci a2 b2 = 0 <;> simp only [h1, if_true, if_false]
  · have : ¬ ci a0 b0 = 0 := fun z => h (ci_zero.1 z)
    simp only [cmpV, lex, h, this, if_false]
theorem rjoin_f (a0 : Int) (a1 : Bool) (a2 a3 a4 : Int) (a5 : ByteArray) (b0 : Int) (b1 : Bool) (b2 b3 b4 : Int) (b5 : ByteArray) :
    skerryref05_Join.f a0 a1 a2 a3 a4 a5 b0 b1 b2 b3 b4 b5 = some (tupV (joinV ⟨a0, a1, a2, ⟨a3, a4, a5⟩⟩ ⟨b0, b1, b2, ⟨b3, b4, b5⟩⟩)) := by
  unfold skerryref05_Join.f
  rw [rcmp_f]
  simp only [Option.bind_some, joinV]
  have := cmpV_cmp.anti ⟨a0, a1, a2, ⟨a3, a4, a5⟩⟩ ⟨b0, b1, b2, ⟨b3, b4, b5⟩⟩
  by_cases h : cmpV ⟨a0, a1, a2, ⟨a3, a4, a5⟩⟩ ⟨b0, b1, b2, ⟨b3, b4, b5⟩⟩ < 0
  · rw [if_pos h, if_pos (by omega)]; rfl
  · rw [if_neg h, if_neg (by omega)]; rfl
theorem weigh2 (k : Nat) (hk : 4 ≤ k) (x y : S29) (m : Int) : ∃ v, skerrylaw05_weigh.f k [x, y] m = some v := by
  obtain ⟨n, rfl⟩ : ∃ n, k = n + 4 := ⟨k - 4, by omega⟩
  unfold skerrylaw05_weigh.f
  have w1 : wrap64 (0 + 1) = 1 := by decide +kernel
  have w2 : wrap64 (1 + 1) = 2 := by decide +kernel
  have l0 : (([x, y] : List S29).length : Int) = 2 := rfl
  simp only [skerrylaw05_weigh.l0, l0, w1, w2, show ((0 : Int) < 2) = True by simp, show ((0 : Int) ≤ 0) = True by simp, show ((1 : Int) < 2) = True by simp, show ((0 : Int) ≤ 1) = True by simp, show ((2 : Int) < 2) = False by simp, if_true, if_false]
  repeat' split
  all_goals exact ⟨_, rfl⟩
theorem cellTells (a b : S29) : ∃ k, skerrylaw05_CellTells.f k a.f0.f0 a.f0.f1 a.f0.f2 a.f0.f3 a.f1.f0 a.f1.f1 a.f1.f2 a.f1.f3.f0 a.f1.f3.f1 a.f1.f3.f2 b.f0.f0 b.f0.f1 b.f0.f2 b.f0.f3 b.f1.f0 b.f1.f1 b.f1.f2 b.f1.f3.f0 b.f1.f3.f1 b.f1.f3.f2 = some true := by
  refine ⟨40, ?_⟩
  unfold skerrylaw05_CellTells.f
  obtain ⟨v, hv⟩ := weigh2 40 (by omega) a b 500
  rw [show ([(⟨(⟨a.f0.f0, a.f0.f1, a.f0.f2, a.f0.f3⟩ : S23), (⟨a.f1.f0, a.f1.f1, a.f1.f2, (⟨a.f1.f3.f0, a.f1.f3.f1, a.f1.f3.f2⟩ : S25)⟩ : S27)⟩ : S29), (⟨(⟨b.f0.f0, b.f0.f1, b.f0.f2, b.f0.f3⟩ : S23), (⟨b.f1.f0, b.f1.f1, b.f1.f2, (⟨b.f1.f3.f0, b.f1.f3.f1, b.f1.f3.f2⟩ : S25)⟩ : S27)⟩ : S29)] : List S29) = [a, b] from rfl, hv]
  simp only [Option.bind_some]
  rw [lives_f 40 (by omega)]
  simp only [Option.bind_some]
  split
  · rfl
  obtain ⟨g, hg⟩ := cellGood_some a.f0.f0 a.f0.f1 a.f0.f2 a.f0.f3 a.f1.f0 a.f1.f1 a.f1.f2 a.f1.f3.f0 a.f1.f3.f1 a.f1.f3.f2
  rw [cellGood_f 40 (by omega), hg]
  simp only [Option.bind_some, beq_self_eq_true, if_true, cmp_f 40 (by omega), rcmp_f, join_f 40 (by omega), rjoin_f, Bool.and_self, cell_Live.f]
  cases a.f1.f1 <;> rfl
end Go.Proofs.Ytaedmofnhjaljaa.Pl
