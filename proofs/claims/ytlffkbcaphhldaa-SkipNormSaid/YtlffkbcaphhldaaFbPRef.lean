/- The document's Cmp and Join of versions, and its Cmp of keys: what the program's are. -/
import Derived.Test.YtlffkbcaphhldaaFbQx13
import Derived.Test.YtlffkbcaphhldaaFbQx14
import Derived.Test.YtlffkbcaphhldaaFbQx9
import Derived.Test.YtlffkbcaphhldaaFbPVer
import Derived.Test.YtlffkbcaphhldaaFbJ21
namespace Go.Proofs.Ytlffkbcaphhldaa.Pl
open Go.RowKit Go.Proofs.YtlffkbcaphhldaaW.PrintWords
open Go.Proofs.Ytlffkbcaphhldaa.Q Go.Proofs.Ytlffkbcaphhldaa.Ord
set_option linter.unusedVariables false
set_option linter.unusedSimpArgs false
theorem ints_f (a b : Int) : skerryref05_ints.f a b = some (ci a b) := by
 unfold skerryref05_ints.f ci
 repeat' split
 all_goals first | rfl | omega
theorem rcmp_f (a0 : Int) (a1 : Bool) (a2 a3 a4 : Int) (a5 : ByteArray) (b0 : Int) (b1 : Bool) (b2 b3 b4 : Int) (b5 : ByteArray) :
  skerryref05_Cmp.f a0 a1 a2 a3 a4 a5 b0 b1 b2 b3 b4 b5 = some (cmpV ⟨a0, a1, a2, ⟨a3, a4, a5⟩⟩ ⟨b0, b1, b2, ⟨b3, b4, b5⟩⟩) := by
 unfold skerryref05_Cmp.f
 simp only [ints_f, Option.bind_some]
 have ci0 : ∀ z : Int, ci z z = 0 := fun z => ci_cmp.refl z
 have cl0 : ∀ z : List UInt8, cl z z = 0 := fun z => cl_cmp.refl z
 have h10 : ci 1 0 = 1 := by decide
 have h01 : ci 0 1 = -1 := by decide
 by_cases h : a0 = b0
 ·
  rw [if_pos h]; subst h
  cases a1 <;> cases b1 <;> simp only [cmpV, lex, rk, v1, v2, v3, ci0, cl0, h10, h01, if_true, if_false, Bool.false_eq_true, show ¬((-1 : Int) = 0) by decide, show ¬((1 : Int) = 0) by decide, bne_self_eq_false, show (false != true) = true from rfl, show (true != false) = true from rfl]
  ·
   by_cases h1 : a3 = b3
   ·
    subst h1
    simp only [ci0, if_true]
    by_cases h2 : a4 = b4
    ·
     subst h2; simp only [ci0, if_true, cl]
     repeat' split
     all_goals rfl
    ·
     have : ¬ ci a4 b4 = 0 := fun z => h2 (ci_zero.1 z)
     simp only [h2, this, if_false]
   ·
    have : ¬ ci a3 b3 = 0 := fun z => h1 (ci_zero.1 z)
    simp only [h1, this, if_false]
  ·
   by_cases h1 : ci a2 b2 = 0 <;> simp only [h1, if_true, if_false]
 ·
  have : ¬ ci a0 b0 = 0 := fun z => h (ci_zero.1 z)
  simp only [cmpV, lex, h, this, if_false]
theorem rjoin_f (a0 : Int) (a1 : Bool) (a2 a3 a4 : Int) (a5 : ByteArray) (b0 : Int) (b1 : Bool) (b2 b3 b4 : Int) (b5 : ByteArray) :
  skerryref05_Join.f a0 a1 a2 a3 a4 a5 b0 b1 b2 b3 b4 b5 = some (tupV (joinV ⟨a0, a1, a2, ⟨a3, a4, a5⟩⟩ ⟨b0, b1, b2, ⟨b3, b4, b5⟩⟩)) := by
 unfold skerryref05_Join.f
 rw [rcmp_f]
 simp only [Option.bind_some, joinV]
 have := cmpV_cmp.anti ⟨a0, a1, a2, ⟨a3, a4, a5⟩⟩ ⟨b0, b1, b2, ⟨b3, b4, b5⟩⟩
 by_cases h : cmpV ⟨a0, a1, a2, ⟨a3, a4, a5⟩⟩ ⟨b0, b1, b2, ⟨b3, b4, b5⟩⟩ < 0
 ·
  rw [if_pos h, if_pos (by omega)]; rfl
 ·
  rw [if_neg h, if_neg (by omega)]; rfl
theorem rtexts_f (a b : ByteArray) : skerryref04_texts.f a b = some (cs a b) := by
 unfold skerryref04_texts.f cs cl
 repeat' split
 all_goals rfl
theorem rkey_f (x y : S31) : skerryref04_Cmp.f x.f0 x.f1 x.f2 x.f3 y.f0 y.f1 y.f2 y.f3 = some (cmpK x y) := by
 unfold skerryref04_Cmp.f
 simp only [rtexts_f, Option.bind_some]
 by_cases h0 : x.f0.toList = y.f0.toList
 ·
  have e0 : cs x.f0 y.f0 = 0 := cs_zero.2 h0
  rw [if_pos h0]
  by_cases h1 : x.f1.toList = y.f1.toList
  ·
   have e1 : cs x.f1 y.f1 = 0 := cs_zero.2 h1
   rw [if_pos h1]
   simp only [cmpK, lex, e0, e1, if_true]
   by_cases h2 : x.f2 < y.f2
   ·
    have e2 : ci x.f2 y.f2 = -1 := by unfold ci; rw [if_pos h2]
    rw [if_pos h2, e2]; rfl
   ·
    by_cases h3 : y.f2 < x.f2
    ·
     have e2 : ci x.f2 y.f2 = 1 := by unfold ci; rw [if_neg h2, if_pos h3]
     rw [if_neg h2, if_pos h3, e2]; rfl
    ·
     have e2 : ci x.f2 y.f2 = 0 := by unfold ci; rw [if_neg h2, if_neg h3]
     rw [if_neg h2, if_neg h3, e2, if_pos rfl]
  ·
   have e1 : ¬ cs x.f1 y.f1 = 0 := fun z => h1 (cs_zero.1 z)
   rw [if_neg h1]
   simp only [cmpK, lex, e0, e1, if_true, if_false]
 ·
  have e0 : ¬ cs x.f0 y.f0 = 0 := fun z => h0 (cs_zero.1 z)
  rw [if_neg h0]
  simp only [cmpK, lex, e0, if_false]
theorem keyB_cmp (x y : S31) : (x.f0.toList == y.f0.toList && (x.f1.toList == y.f1.toList && (x.f2 == y.f2 && (x.f3.toList == y.f3.toList)))) = (cmpK x y == 0) := by
 rw [Bool.eq_iff_iff]
 simp only [Bool.and_eq_true, beq_iff_eq, cmpK, lex_zero, cs_zero, ci_zero]
end Go.Proofs.Ytlffkbcaphhldaa.Pl
