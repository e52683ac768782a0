/- What Cmp and Join of versions compute, in plain Lean, and that Cmp is an order. -/
import Derived.Test.YtlffkbcaphhldaaFdQx11
import Derived.Test.YtlffkbcaphhldaaFdJ0
import Derived.Test.YtlffkbcaphhldaaFdQx13
import Derived.Test.YtlffkbcaphhldaaFdQx14
import Derived.Test.YtlffkbcaphhldaaFdQx9
import Derived.Test.YtlffkbcaphhldaaFdJ22
import Derived.Test.YtlffkbcaphhldaaFdQx0
import Derived.Test.YtlffkbcaphhldaaFdQx15
import Derived.Test.YtlffkbcaphhldaaFdQx17
namespace Go.Proofs.Ytlffkbcaphhldaa.Pl
open Go.RowKit Go.Proofs.YtlffkbcaphhldaaW.PrintWords
open Go.Proofs.Ytlffkbcaphhldaa.Q Go.Proofs.Ytlffkbcaphhldaa.Ord
set_option linter.unusedVariables false
set_option linter.unusedSimpArgs false
theorem compare_int (a b : Int) : cmp_Compare_int.f a b = some (ci a b) := by
 unfold cmp_Compare_int.f cmp_isNaN_int.f ci
 simp only [Option.bind_some, bne_self_eq_false, Bool.false_eq_true, if_false]
 repeat' split
 all_goals first | rfl | omega
theorem compare_string (a b : ByteArray) : cmp_Compare_string.f a b = some (cs a b) := by
 unfold cmp_Compare_string.f cmp_isNaN_string.f cs cl
 simp only [Option.bind_some, bne_self_eq_false, Bool.false_eq_true, if_false]
 repeat' split
 all_goals rfl
theorem rank (b : Bool) : cell_rank.f b = some (if b = true then 1 else 0) := by unfold cell_rank.f; split <;> rfl
theorem or2 (k : Nat) (hk : 4 ≤ k) (a b : Int) : cmp_Or_int.f k [a, b] = some (if a = 0 then b else a) := by
 obtain ⟨n, rfl⟩ : ∃ n, k = n + 4 := ⟨k - 4, by omega⟩
 unfold cmp_Or_int.f
 by_cases ha : a = 0 <;> by_cases hb : b = 0 <;> simp [cmp_Or_int.l0, rd, wrap64, ha, hb]
theorem or3 (k : Nat) (hk : 5 ≤ k) (a b c : Int) : cmp_Or_int.f k [a, b, c] = some (if a = 0 then (if b = 0 then c else b) else a) := by
 obtain ⟨n, rfl⟩ : ∃ n, k = n + 5 := ⟨k - 5, by omega⟩
 unfold cmp_Or_int.f
 by_cases ha : a = 0 <;> by_cases hb : b = 0 <;> by_cases hc : c = 0 <;> simp [cmp_Or_int.l0, rd, wrap64, ha, hb, hc]
def rk (x : S35) : Int := if x.f1 = true then 1 else 0
def v1 (x : S35) : Int := if x.f1 = true then x.f2 else x.f3.f0
def v2 (x : S35) : Int := if x.f1 = true then 0 else x.f3.f1
def v3 (x : S35) : List UInt8 := if x.f1 = true then [] else x.f3.f2.toList
def cmpV (x y : S35) : Int :=
 lex (fun x y => ci x.f0 y.f0) (lex (fun x y => ci (rk x) (rk y)) (lex (fun x y => ci (v1 x) (v1 y)) (lex (fun x y => ci (v2 x) (v2 y)) (fun x y => cl (v3 x) (v3 y))))) x y
theorem cmpV_zero {x y : S35} : cmpV x y = 0 ↔ x.f0 = y.f0 ∧ x.f1 = y.f1 ∧ v1 x = v1 y ∧ v2 x = v2 y ∧ v3 x = v3 y := by
 unfold cmpV
 simp only [lex_zero, ci_zero, cl_zero]
 have : rk x = rk y ↔ x.f1 = y.f1 := by
  unfold rk
  cases x.f1 <;> cases y.f1 <;> simp
 rw [this]
theorem cmp_f (k : Nat) (hk : 5 ≤ k) (a0 : Int) (a1 : Bool) (a2 a3 a4 : Int) (a5 : ByteArray) (b0 : Int) (b1 : Bool) (b2 b3 b4 : Int) (b5 : ByteArray) :
  cell_Cmp.f k a0 a1 a2 a3 a4 a5 b0 b1 b2 b3 b4 b5 = some (cmpV ⟨a0, a1, a2, ⟨a3, a4, a5⟩⟩ ⟨b0, b1, b2, ⟨b3, b4, b5⟩⟩) := by
 unfold cell_Cmp.f
 by_cases h : (a0 == b0 && (a1 == b1 && (a2 == b2 && ((a3 == b3 && (a4 == b4 && (a5.toList == b5.toList))))))) = true
 ·
  rw [if_pos h]
  simp only [Bool.and_eq_true, beq_iff_eq] at h
  obtain ⟨rfl, rfl, rfl, rfl, rfl, h5⟩ := h
  rw [(cmpV_zero (x := ⟨a0, a1, a2, ⟨a3, a4, a5⟩⟩) (y := ⟨a0, a1, a2, ⟨a3, a4, b5⟩⟩)).2 ⟨rfl, rfl, rfl, rfl, by simp only [v3, h5]⟩]
 ·
  rw [if_neg h]
  simp only [compare_int, compare_string, rank, or2 k (by omega), or3 k hk, Option.bind_some]
  have ci0 : ∀ z : Int, ci z z = 0 := fun z => ci_cmp.refl z
  have cl0 : ∀ z : List UInt8, cl z z = 0 := fun z => cl_cmp.refl z
  have h10 : ci 1 0 = 1 := by decide
  have h01 : ci 0 1 = -1 := by decide
  by_cases hA : ci a0 b0 = 0
  ·
   cases a1 <;> cases b1 <;> simp only [cmpV, lex, rk, v1, v2, v3, cs, hA, ci0, cl0, h10, h01, if_true, if_false, Bool.false_eq_true, show ¬((-1 : Int) = 0) by decide, show ¬((1 : Int) = 0) by decide]
   ·
    by_cases h1 : ci a2 b2 = 0 <;> simp only [h1, if_true, if_false]
  ·
   simp only [cmpV, lex, hA, if_false]
def joinV (x y : S35) : S35 := if cmpV x y < 0 then y else x
def tupV (x : S35) : Int × Bool × Int × Int × Int × ByteArray := (x.f0, x.f1, x.f2, x.f3.f0, x.f3.f1, x.f3.f2)
theorem join_f (k : Nat) (hk : 5 ≤ k) (a0 : Int) (a1 : Bool) (a2 a3 a4 : Int) (a5 : ByteArray) (b0 : Int) (b1 : Bool) (b2 b3 b4 : Int) (b5 : ByteArray) :
  cell_Join.f k a0 a1 a2 a3 a4 a5 b0 b1 b2 b3 b4 b5 = some (tupV (joinV ⟨a0, a1, a2, ⟨a3, a4, a5⟩⟩ ⟨b0, b1, b2, ⟨b3, b4, b5⟩⟩)) := by
 unfold cell_Join.f
 rw [cmp_f k hk]
 simp only [Option.bind_some, joinV]
 split <;> rfl
end Go.Proofs.Ytlffkbcaphhldaa.Pl
namespace Go.Proofs.Ytlffkbcaphhldaa.Pl
open Go.RowKit Go.Proofs.YtlffkbcaphhldaaW.PrintWords
open Go.Proofs.Ytlffkbcaphhldaa.Q Go.Proofs.Ytlffkbcaphhldaa.Ord
set_option linter.unusedVariables false
set_option linter.unusedSimpArgs false
theorem rtexts_f (a b : ByteArray) : skerryref04_texts.f a b = some (cs a b) := by
 unfold skerryref04_texts.f cs cl
 repeat' split
 all_goals rfl
theorem rkey_f (x y : S31) : skerryref04_Cmp.f x.f0 x.f1 x.f2 x.f3 y.f0 y.f1 y.f2 y.f3 = some (cmpK x y) := by
 unfold skerryref04_Cmp.f
 simp only [rtexts_f, Option.bind_some]
 by_cases h0 : x.f0.toList = y.f0.toList
 ·
  have e0 : cs x.f0 y.f0 = 0 := cs_zero.2 h0
  rw [if_pos h0]
  by_cases h1 : x.f1.toList = y.f1.toList
  ·
   have e1 : cs x.f1 y.f1 = 0 := cs_zero.2 h1
   rw [if_pos h1]
   simp only [cmpK, lex, e0, e1, if_true]
   by_cases h2 : x.f2 < y.f2
   ·
    have e2 : ci x.f2 y.f2 = -1 := by unfold ci; rw [if_pos h2]
    rw [if_pos h2, e2]; rfl
   ·
    by_cases h3 : y.f2 < x.f2
    ·
     have e2 : ci x.f2 y.f2 = 1 := by unfold ci; rw [if_neg h2, if_pos h3]
     rw [if_neg h2, if_pos h3, e2]; rfl
    ·
     have e2 : ci x.f2 y.f2 = 0 := by unfold ci; rw [if_neg h2, if_neg h3]
     rw [if_neg h2, if_neg h3, e2, if_pos rfl]
  ·
   have e1 : ¬ cs x.f1 y.f1 = 0 := fun z => h1 (cs_zero.1 z)
   rw [if_neg h1]
   simp only [cmpK, lex, e0, e1, if_true, if_false]
 ·
  have e0 : ¬ cs x.f0 y.f0 = 0 := fun z => h0 (cs_zero.1 z)
  rw [if_neg h0]
  simp only [cmpK, lex, e0, if_false]
theorem keyB_cmp (x y : S31) : (x.f0.toList == y.f0.toList && (x.f1.toList == y.f1.toList && (x.f2 == y.f2 && (x.f3.toList == y.f3.toList)))) = (cmpK x y == 0) := by
 rw [Bool.eq_iff_iff]
 simp only [Bool.and_eq_true, beq_iff_eq, cmpK, lex_zero, cs_zero, ci_zero]
end Go.Proofs.Ytlffkbcaphhldaa.Pl
namespace Go.Proofs.Ytlffkbcaphhldaa.Pl
open Go Go.RowKit Go.Proofs.YtlffkbcaphhldaaW.PrintWords Go.Proofs.Ytlffkbcaphhldaa.Q Go.Proofs.Ytlffkbcaphhldaa.Ord Go.Proofs.Ytlffkbcaphhldaa.Nm
set_option linter.unusedVariables false
set_option linter.unusedSimpArgs false
def keyC (x : S37) : S31 := x.f0
def joinC (a b : S37) : S37 := ⟨a.f0, joinV a.f1 b.f1⟩
theorem joinC_key (a b : S37) : keyC (joinC a b) = keyC a := rfl
abbrev normC (l : List (S37)) : List (S37) := norm cmpK keyC joinC l
theorem next_n {i n : Nat} (hi : i < n) (hn : n ≤ 1256584717458) : wrap64 ((i : Int) + 1) = ((i + 1 : Nat) : Int) := by unfold wrap64; omega
end Go.Proofs.Ytlffkbcaphhldaa.Pl
namespace Go.Proofs.Ytlffkbcaphhldaa.Pl
open Go Go.RowKit Go.Proofs.YtlffkbcaphhldaaW.PrintWords Go.Proofs.Ytlffkbcaphhldaa.Q Go.Proofs.Ytlffkbcaphhldaa.Ord Go.Proofs.Ytlffkbcaphhldaa.Nm
set_option linter.unusedVariables false
set_option linter.unusedSimpArgs false
theorem like_l0 (l : List (S37)) (hl : l.length ≤ 1256584717458) : ∀ (d i k : Nat), i + d = l.length → d < k → skerryref01_Like.l0 k l l (l.length : Int) (i : Int) = some true
 | d, i, 0, _, hk => by omega
 | 0, i, k + 1, hd, hk => by rw [skerryref01_Like.l0, if_neg (by omega)]
 | d + 1, i, k + 1, hd, hk => by
  have hi : i < l.length := by omega
  rw [skerryref01_Like.l0, if_pos (by omega), if_pos (by omega), if_pos (by omega), if_pos (by omega), if_neg (by simp), next_n hi hl]
  exact like_l0 l hl d (i + 1) k (by omega) (by omega)
theorem like_self (l : List (S37)) (hl : l.length ≤ 1256584717458) (k : Nat) (hk : l.length < k) : skerryref01_Like.f k l l = some true := by
 unfold skerryref01_Like.f
 rw [if_pos rfl]
 exact like_l0 l hl l.length 0 k (by omega) hk
end Go.Proofs.Ytlffkbcaphhldaa.Pl
