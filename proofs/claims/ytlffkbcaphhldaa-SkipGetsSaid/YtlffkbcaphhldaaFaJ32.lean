/- Lemmas for this claim's walk: no condition of their own. -/
import Derived.Test.YtlffkbcaphhldaaFaSq
import Derived.Test.YtlffkbcaphhldaaFaQx0
import Derived.Test.YtlffkbcaphhldaaFaQx13
import Derived.Test.YtlffkbcaphhldaaFaQx9
import Derived.Test.YtlffkbcaphhldaaFaPVer
import Derived.Test.YtlffkbcaphhldaaFaJ28
import Derived.Test.YtlffkbcaphhldaaFaNormT
namespace Go.Proofs.Ytlffkbcaphhldaa.Q
open Go.RowKit Go.Proofs.YtlffkbcaphhldaaW.PrintWords Go.Proofs.YtlffkbcaphhldaaW.PrintLast Go.Proofs.YtlffkbcaphhldaaW.PrintMore
attribute [local go_sem] max2_int min2_int max_two min_two max_three min_three max_four min_four
set_option linter.unusedVariables false
set_option linter.unusedSimpArgs false
def skerryref05_Add.turn (x c : S37) (d : Int) (done : Bool) : Option (S37 × Bool) := if d = 0 then (skerryref05_Join.f x.f1.f0 x.f1.f1 x.f1.f2 x.f1.f3.f0 x.f1.f3.f1 x.f1.f3.f2 c.f1.f0 c.f1.f1 c.f1.f2 c.f1.f3.f0 c.f1.f3.f1 c.f1.f3.f2).bind fun v => some (⟨x.f0, ⟨v.1, v.2.1, v.2.2.1, ⟨v.2.2.2.1, v.2.2.2.2.1, v.2.2.2.2.2⟩⟩⟩, true) else some (x, done)
structure AS (w : World) (g3 g8 : Nat) (c x : S37) (W : World) (v : Value) (out : List (S37)) : Prop where
 b3 : W.heap[g3]? = some (.cells #[.string c.f0.f0, .string c.f0.f1, .int .i64 c.f0.f2, .string c.f0.f3, .int .i64 c.f1.f0, .bool c.f1.f1, .int .i64 c.f1.f2, .int .i64 c.f1.f3.f0, .int .i64 c.f1.f3.f1, .string c.f1.f3.f2] 37 (0, 0))
 b8 : W.heap[g8]? = some (.cells #[.string x.f0.f0, .string x.f0.f1, .int .i64 x.f0.f2, .string x.f0.f3, .int .i64 x.f1.f0, .bool x.f1.f1, .int .i64 x.f1.f2, .int .i64 x.f1.f3.f0, .int .i64 x.f1.f3.f1, .string x.f1.f3.f2] 37 (0, 0))
 ro : Kd.R k37 37 W w.heap.size (fun k => k ≠ g3 ∧ k ≠ g8) v out
 bel : Below w.heap.size w W
 ge : w.heap.size ≤ g8
 ne : g3 ≠ g8
theorem AS.below {w : World} {g3 g8 : Nat} {c x : S37} {W W1 : World} {v : Value} {out : List (S37)} (h : AS w g3 g8 c x W v out) (hb : Below W.heap.size W W1) : AS w g3 g8 c x W1 v out :=
 ⟨blk_below h.b3 hb, blk_below h.b8 hb, Kd.R_below h.ro hb, below_step h.bel hb, h.ge, h.ne⟩
theorem AS.grown {w : World} {g3 g8 : Nat} {c x : S37} {W W1 : World} {v v1 : Value} {out out1 : List (S37)} (h : AS w g3 g8 c x W v out) (ho : Kd.R k37 37 W1 w.heap.size (fun k => k ≠ g3 ∧ k ≠ g8) v1 out1) (hb : Below w.heap.size w W1) (hg : W.grownBy W1 v.ownBlock) : AS w g3 g8 c x W1 v1 out1 :=
 ⟨blk_grown h.b3 hg (fun e => (h.ro.1 g3 e.symm).1 rfl), blk_grown h.b8 hg (fun e => (h.ro.1 g8 e.symm).2 rfl), ho, hb, h.ge, h.ne⟩
end Go.Proofs.Ytlffkbcaphhldaa.Q
namespace Go.Proofs.Ytlffkbcaphhldaa.Pl
open Go.RowKit Go.Proofs.YtlffkbcaphhldaaW.PrintWords
open Go.Proofs.Ytlffkbcaphhldaa.Q Go.Proofs.Ytlffkbcaphhldaa.Ord
set_option linter.unusedVariables false
set_option linter.unusedSimpArgs false
theorem ints_f (a b : Int) : skerryref05_ints.f a b = some (ci a b) := by
 unfold skerryref05_ints.f ci
 repeat' split
 all_goals first | rfl | omega
theorem rcmp_f (a0 : Int) (a1 : Bool) (a2 a3 a4 : Int) (a5 : ByteArray) (b0 : Int) (b1 : Bool) (b2 b3 b4 : Int) (b5 : ByteArray) :
  skerryref05_Cmp.f a0 a1 a2 a3 a4 a5 b0 b1 b2 b3 b4 b5 = some (cmpV ⟨a0, a1, a2, ⟨a3, a4, a5⟩⟩ ⟨b0, b1, b2, ⟨b3, b4, b5⟩⟩) := by
 unfold skerryref05_Cmp.f
 simp only [ints_f, Option.bind_some]
 have ci0 : ∀ z : Int, ci z z = 0 := fun z => ci_cmp.refl z
 have cl0 : ∀ z : List UInt8, cl z z = 0 := fun z => cl_cmp.refl z
 have h10 : ci 1 0 = 1 := by decide
 have h01 : ci 0 1 = -1 := by decide
 by_cases h : a0 = b0
 ·
  rw [if_pos h]; subst h
  cases a1 <;> cases b1 <;> simp only [cmpV, lex, rk, v1, v2, v3, ci0, cl0, h10, h01, if_true, if_false, Bool.false_eq_true, show ¬((-1 : Int) = 0) by decide, show ¬((1 : Int) = 0) by decide, bne_self_eq_false, show (false != true) = true from rfl, show (true != false) = true from rfl]
  ·
   by_cases h1 : a3 = b3
   ·
    subst h1
    simp only [ci0, if_true]
    by_cases h2 : a4 = b4
    ·
     subst h2; simp only [ci0, if_true, cl]
     repeat' split
     all_goals rfl
    ·
     have : ¬ ci a4 b4 = 0 := fun z => h2 (ci_zero.1 z)
     simp only [h2, this, if_false]
   ·
    have : ¬ ci a3 b3 = 0 := fun z => h1 (ci_zero.1 z)
    simp only [h1, this, if_false]
  ·
   by_cases h1 : ci a2 b2 = 0 <;> simp only [h1, if_true, if_false]
 ·
  have : ¬ ci a0 b0 = 0 := fun z => h (ci_zero.1 z)
  simp only [cmpV, lex, h, this, if_false]
theorem rjoin_f (a0 : Int) (a1 : Bool) (a2 a3 a4 : Int) (a5 : ByteArray) (b0 : Int) (b1 : Bool) (b2 b3 b4 : Int) (b5 : ByteArray) :
  skerryref05_Join.f a0 a1 a2 a3 a4 a5 b0 b1 b2 b3 b4 b5 = some (tupV (joinV ⟨a0, a1, a2, ⟨a3, a4, a5⟩⟩ ⟨b0, b1, b2, ⟨b3, b4, b5⟩⟩)) := by
 unfold skerryref05_Join.f
 rw [rcmp_f]
 simp only [Option.bind_some, joinV]
 have := cmpV_cmp.anti ⟨a0, a1, a2, ⟨a3, a4, a5⟩⟩ ⟨b0, b1, b2, ⟨b3, b4, b5⟩⟩
 by_cases h : cmpV ⟨a0, a1, a2, ⟨a3, a4, a5⟩⟩ ⟨b0, b1, b2, ⟨b3, b4, b5⟩⟩ < 0
 ·
  rw [if_pos h, if_pos (by omega)]; rfl
 ·
  rw [if_neg h, if_neg (by omega)]; rfl
theorem keyB_cmp (x y : S31) : (x.f0.toList == y.f0.toList && (x.f1.toList == y.f1.toList && (x.f2 == y.f2 && (x.f3.toList == y.f3.toList)))) = (cmpK x y == 0) := by
 rw [Bool.eq_iff_iff]
 simp only [Bool.and_eq_true, beq_iff_eq, cmpK, lex_zero, cs_zero, ci_zero]
end Go.Proofs.Ytlffkbcaphhldaa.Pl
namespace Go.Proofs.Ytlffkbcaphhldaa.Pl
open Go Go.RowKit Go.Proofs.YtlffkbcaphhldaaW.PrintWords Go.Proofs.Ytlffkbcaphhldaa.Q Go.Proofs.Ytlffkbcaphhldaa.Ord Go.Proofs.Ytlffkbcaphhldaa.Nm
set_option linter.unusedVariables false
set_option linter.unusedSimpArgs false
def keyC (x : S37) : S31 := x.f0
def joinC (a b : S37) : S37 := ⟨a.f0, joinV a.f1 b.f1⟩
theorem joinC_key (a b : S37) : keyC (joinC a b) = keyC a := rfl
abbrev normC (l : List (S37)) : List (S37) := norm cmpK keyC joinC l
end Go.Proofs.Ytlffkbcaphhldaa.Pl
