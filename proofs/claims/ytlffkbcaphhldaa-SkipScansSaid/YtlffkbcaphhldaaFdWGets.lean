/- Lemmas for this claim's walk: no condition of their own. -/
import Derived.Test.YtlffkbcaphhldaaFdQx4
import Derived.Test.YtlffkbcaphhldaaFdQx13
import Derived.Test.YtlffkbcaphhldaaFdSkLv
import Derived.Test.YtlffkbcaphhldaaFdGath
import Derived.Deep.MidRow
import Derived.WalkLawsBesides
import Derived.WalkSpells
import Derived.Lib.Hide
import Derived.Deep.DeepFit
import Derived.Outline
namespace Go.Proofs.Ytlffkbcaphhldaa.Q
open Go.RowKit Go.Proofs.YtlffkbcaphhldaaW.PrintWords Go.Proofs.YtlffkbcaphhldaaW.PrintLast Go.Proofs.YtlffkbcaphhldaaW.PrintMore
attribute [local go_sem] max2_int min2_int max_two min_two max_three min_three max_four min_four
set_option linter.unusedVariables false
set_option linter.unusedSimpArgs false
open Go.Lib Go.Proofs.Ytlffkbcaphhldaa.Sk Go.Proofs.Ytlffkbcaphhldaa.Pl Go.Proofs.Ytlffkbcaphhldaa.Ord Go.Proofs.Ytlffkbcaphhldaa.Nm Go.Proofs.Ytlffkbcaphhldaa.Rh
attribute [local go_sem] Oper.semAt_some
attribute [local go_sem high] eqA31 eqA35
structure InC (xs : List Cl) : Prop where
 fine : ∀ c ∈ xs, FineC c
 len : xs.length ≤ 1256584717421
theorem weigh_calls {xs : List Cl} (h : InC xs) : ∃ r : Nat, (r ≤ 200 → xs.length ≤ 200) ∧ ∀ (A : Option Addr) (c : Nat) (W : World), k37.C W A xs.length xs → xs.length ≤ c →
  Calls Try.prog 8 #[.slice A xs.length c, .int .i64 200] W fun e w' => e = .returned (.int .i64 (r : Int)) ∧ Below W.heap.size W w' := by
 obtain ⟨r, e, h2⟩ := weigh_f 200 (by omega) xs h.fine (Nat.le_trans h.len (by omega)) (xs.length + 1) (by omega)
 exact ⟨r, fun hr => by rcases h2 with h2 | ⟨h2, -⟩ <;> omega, fun A c W hC hc => skerrylaw06_weigh.calls (xs.length + 1) A c xs 200 r W hC hc e⟩
theorem fin_ofD {xs : List Cl} {i : Nat} (hi : i < xs.length) : xs.getD i z37 = xs[i] := by rw [List.getD_eq_getElem?_getD, List.getElem?_eq_getElem hi]; rfl
structure GS (w : World) (k : Ky) (base l g8 : Nat) (lv : List Int) (C : List Cl) (H : List Int) (v : S35) (W : World) : Prop where
 isl : ∃ own, IsL W base l lv C H own ∧ ¬ own g8
 b5 : W.heap[w.heap.size]? = some (.cells (ka k) 31 (0, 0))
 b8 : W.heap[g8]? = some (.cells (va v) 35 (0, 0))
 bel : Below w.heap.size w W
 lt : w.heap.size < base ∧ base ≤ g8
theorem GS.below {w : World} {k : Ky} {base l g8 : Nat} {lv : List Int} {C : List Cl} {H : List Int} {v : S35} {A B : World} (h : GS w k base l g8 lv C H v A) (hb : Below A.heap.size A B) : GS w k base l g8 lv C H v B := by
 obtain ⟨⟨own, h1, h2⟩, h3, h4, h5, h6⟩ := h
 exact ⟨⟨own, h1.below hb, h2⟩, blk_below h3 hb, blk_below h4 hb, below_step h5 hb, h6⟩
end Go.Proofs.Ytlffkbcaphhldaa.Q
