/- What Cmp and Join of versions compute, in plain Lean, and that Cmp is an order. -/
import Derived.Test.YtlffkbcaphhldaaFcQx11
import Derived.Test.YtlffkbcaphhldaaFcOrd
namespace Go.Proofs.Ytlffkbcaphhldaa.Pl
open Go.RowKit Go.Proofs.YtlffkbcaphhldaaW.PrintWords
open Go.Proofs.Ytlffkbcaphhldaa.Q Go.Proofs.Ytlffkbcaphhldaa.Ord
set_option linter.unusedVariables false
set_option linter.unusedSimpArgs false
theorem compare_int (a b : Int) : cmp_Compare_int.f a b = some (ci a b) := by
 unfold cmp_Compare_int.f cmp_isNaN_int.f ci
 simp only [Option.bind_some, bne_self_eq_false, Bool.false_eq_true, if_false]
 repeat' split
 all_goals first | rfl | omega
theorem compare_string (a b : ByteArray) : cmp_Compare_string.f a b = some (cs a b) := by
 unfold cmp_Compare_string.f cmp_isNaN_string.f cs cl
 simp only [Option.bind_some, bne_self_eq_false, Bool.false_eq_true, if_false]
 repeat' split
 all_goals rfl
theorem rank (b : Bool) : cell_rank.f b = some (if b = true then 1 else 0) := by unfold cell_rank.f; split <;> rfl
theorem or2 (k : Nat) (hk : 4 ≤ k) (a b : Int) : cmp_Or_int.f k [a, b] = some (if a = 0 then b else a) := by
 obtain ⟨n, rfl⟩ : ∃ n, k = n + 4 := ⟨k - 4, by omega⟩
 unfold cmp_Or_int.f
 by_cases ha : a = 0 <;> by_cases hb : b = 0 <;> simp [cmp_Or_int.l0, rd, wrap64, ha, hb]
theorem or3 (k : Nat) (hk : 5 ≤ k) (a b c : Int) : cmp_Or_int.f k [a, b, c] = some (if a = 0 then (if b = 0 then c else b) else a) := by
 obtain ⟨n, rfl⟩ : ∃ n, k = n + 5 := ⟨k - 5, by omega⟩
 unfold cmp_Or_int.f
 by_cases ha : a = 0 <;> by_cases hb : b = 0 <;> by_cases hc : c = 0 <;> simp [cmp_Or_int.l0, rd, wrap64, ha, hb, hc]
def rk (x : S35) : Int := if x.f1 = true then 1 else 0
def v1 (x : S35) : Int := if x.f1 = true then x.f2 else x.f3.f0
def v2 (x : S35) : Int := if x.f1 = true then 0 else x.f3.f1
def v3 (x : S35) : List UInt8 := if x.f1 = true then [] else x.f3.f2.toList
def cmpV (x y : S35) : Int :=
 lex (fun x y => ci x.f0 y.f0) (lex (fun x y => ci (rk x) (rk y)) (lex (fun x y => ci (v1 x) (v1 y)) (lex (fun x y => ci (v2 x) (v2 y)) (fun x y => cl (v3 x) (v3 y))))) x y
theorem cmpV_zero {x y : S35} : cmpV x y = 0 ↔ x.f0 = y.f0 ∧ x.f1 = y.f1 ∧ v1 x = v1 y ∧ v2 x = v2 y ∧ v3 x = v3 y := by
 unfold cmpV
 simp only [lex_zero, ci_zero, cl_zero]
 have : rk x = rk y ↔ x.f1 = y.f1 := by
  unfold rk
  cases x.f1 <;> cases y.f1 <;> simp
 rw [this]
theorem cmp_f (k : Nat) (hk : 5 ≤ k) (a0 : Int) (a1 : Bool) (a2 a3 a4 : Int) (a5 : ByteArray) (b0 : Int) (b1 : Bool) (b2 b3 b4 : Int) (b5 : ByteArray) :
  cell_Cmp.f k a0 a1 a2 a3 a4 a5 b0 b1 b2 b3 b4 b5 = some (cmpV ⟨a0, a1, a2, ⟨a3, a4, a5⟩⟩ ⟨b0, b1, b2, ⟨b3, b4, b5⟩⟩) := by
 unfold cell_Cmp.f
 by_cases h : (a0 == b0 && (a1 == b1 && (a2 == b2 && ((a3 == b3 && (a4 == b4 && (a5.toList == b5.toList))))))) = true
 ·
  rw [if_pos h]
  simp only [Bool.and_eq_true, beq_iff_eq] at h
  obtain ⟨rfl, rfl, rfl, rfl, rfl, h5⟩ := h
  rw [(cmpV_zero (x := ⟨a0, a1, a2, ⟨a3, a4, a5⟩⟩) (y := ⟨a0, a1, a2, ⟨a3, a4, b5⟩⟩)).2 ⟨rfl, rfl, rfl, rfl, by simp only [v3, h5]⟩]
 ·
  rw [if_neg h]
  simp only [compare_int, compare_string, rank, or2 k (by omega), or3 k hk, Option.bind_some]
  have ci0 : ∀ z : Int, ci z z = 0 := fun z => ci_cmp.refl z
  have cl0 : ∀ z : List UInt8, cl z z = 0 := fun z => cl_cmp.refl z
  have h10 : ci 1 0 = 1 := by decide
  have h01 : ci 0 1 = -1 := by decide
  by_cases hA : ci a0 b0 = 0
  ·
   cases a1 <;> cases b1 <;> simp only [cmpV, lex, rk, v1, v2, v3, cs, hA, ci0, cl0, h10, h01, if_true, if_false, Bool.false_eq_true, show ¬((-1 : Int) = 0) by decide, show ¬((1 : Int) = 0) by decide]
   ·
    by_cases h1 : ci a2 b2 = 0 <;> simp only [h1, if_true, if_false]
  ·
   simp only [cmpV, lex, hA, if_false]
def joinV (x y : S35) : S35 := if cmpV x y < 0 then y else x
def tupV (x : S35) : Int × Bool × Int × Int × Int × ByteArray := (x.f0, x.f1, x.f2, x.f3.f0, x.f3.f1, x.f3.f2)
theorem join_f (k : Nat) (hk : 5 ≤ k) (a0 : Int) (a1 : Bool) (a2 a3 a4 : Int) (a5 : ByteArray) (b0 : Int) (b1 : Bool) (b2 b3 b4 : Int) (b5 : ByteArray) :
  cell_Join.f k a0 a1 a2 a3 a4 a5 b0 b1 b2 b3 b4 b5 = some (tupV (joinV ⟨a0, a1, a2, ⟨a3, a4, a5⟩⟩ ⟨b0, b1, b2, ⟨b3, b4, b5⟩⟩)) := by
 unfold cell_Join.f
 rw [cmp_f k hk]
 simp only [Option.bind_some, joinV]
 split <;> rfl
end Go.Proofs.Ytlffkbcaphhldaa.Pl
