/- Lemmas for this claim's walk: no condition of their own. -/
import Derived.Test.YtlffkbcaphhldaaFdSq
import Derived.Test.YtlffkbcaphhldaaFdQx0
import Derived.Test.YtlffkbcaphhldaaFdQx13
import Derived.Test.YtlffkbcaphhldaaFdQx14
namespace Go.Proofs.Ytlffkbcaphhldaa.Q
open Go.RowKit Go.Proofs.YtlffkbcaphhldaaW.PrintWords Go.Proofs.YtlffkbcaphhldaaW.PrintLast Go.Proofs.YtlffkbcaphhldaaW.PrintMore
attribute [local go_sem] max2_int min2_int max_two min_two max_three min_three max_four min_four
set_option linter.unusedVariables false
set_option linter.unusedSimpArgs false
def skerryref05_Add.turn (x c : S37) (d : Int) (done : Bool) : Option (S37 × Bool) := if d = 0 then (skerryref05_Join.f x.f1.f0 x.f1.f1 x.f1.f2 x.f1.f3.f0 x.f1.f3.f1 x.f1.f3.f2 c.f1.f0 c.f1.f1 c.f1.f2 c.f1.f3.f0 c.f1.f3.f1 c.f1.f3.f2).bind fun v => some (⟨x.f0, ⟨v.1, v.2.1, v.2.2.1, ⟨v.2.2.2.1, v.2.2.2.2.1, v.2.2.2.2.2⟩⟩⟩, true) else some (x, done)
structure AS (w : World) (g3 g8 : Nat) (c x : S37) (W : World) (v : Value) (out : List (S37)) : Prop where
 b3 : W.heap[g3]? = some (.cells #[.string c.f0.f0, .string c.f0.f1, .int .i64 c.f0.f2, .string c.f0.f3, .int .i64 c.f1.f0, .bool c.f1.f1, .int .i64 c.f1.f2, .int .i64 c.f1.f3.f0, .int .i64 c.f1.f3.f1, .string c.f1.f3.f2] 37 (0, 0))
 b8 : W.heap[g8]? = some (.cells #[.string x.f0.f0, .string x.f0.f1, .int .i64 x.f0.f2, .string x.f0.f3, .int .i64 x.f1.f0, .bool x.f1.f1, .int .i64 x.f1.f2, .int .i64 x.f1.f3.f0, .int .i64 x.f1.f3.f1, .string x.f1.f3.f2] 37 (0, 0))
 ro : Kd.R k37 37 W w.heap.size (fun k => k ≠ g3 ∧ k ≠ g8) v out
 bel : Below w.heap.size w W
 ge : w.heap.size ≤ g8
 ne : g3 ≠ g8
theorem AS.below {w : World} {g3 g8 : Nat} {c x : S37} {W W1 : World} {v : Value} {out : List (S37)} (h : AS w g3 g8 c x W v out) (hb : Below W.heap.size W W1) : AS w g3 g8 c x W1 v out :=
 ⟨blk_below h.b3 hb, blk_below h.b8 hb, Kd.R_below h.ro hb, below_step h.bel hb, h.ge, h.ne⟩
theorem AS.grown {w : World} {g3 g8 : Nat} {c x : S37} {W W1 : World} {v v1 : Value} {out out1 : List (S37)} (h : AS w g3 g8 c x W v out) (ho : Kd.R k37 37 W1 w.heap.size (fun k => k ≠ g3 ∧ k ≠ g8) v1 out1) (hb : Below w.heap.size w W1) (hg : W.grownBy W1 v.ownBlock) : AS w g3 g8 c x W1 v1 out1 :=
 ⟨blk_grown h.b3 hg (fun e => (h.ro.1 g3 e.symm).1 rfl), blk_grown h.b8 hg (fun e => (h.ro.1 g8 e.symm).2 rfl), ho, hb, h.ge, h.ne⟩
end Go.Proofs.Ytlffkbcaphhldaa.Q
