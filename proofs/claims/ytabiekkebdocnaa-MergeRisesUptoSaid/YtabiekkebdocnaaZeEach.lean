/- Lemmas for this claim's walk: no condition of their own. -/
import Derived.Test.YtabiekkebdocnaaZeQx23
import Derived.Test.YtabiekkebdocnaaZeJ32
import Derived.Test.YtabiekkebdocnaaZeJ0
import Derived.Test.YtabiekkebdocnaaZeDown
import Derived.Test.YtabiekkebdocnaaZeSorted
import Derived.Test.YtabiekkebdocnaaZeTake
import Derived.Deep.MidRow
import Derived.WalkLawsBesides
import Derived.WalkSpells
import Derived.Lib.Hide
import Derived.Deep.DeepFit
import Derived.Outline
namespace Go.Proofs.Ytabiekkebdocnaa.Q
open Go.RowKit Go.Proofs.YtabiekkebdocnaaW.PrintWords Go.Proofs.YtabiekkebdocnaaW.PrintLast Go.Proofs.YtabiekkebdocnaaW.PrintMore
attribute [local go_sem] max2_int min2_int max_two min_two max_three min_three max_four min_four
set_option linter.unusedVariables false
set_option linter.unusedSimpArgs false
open Go.Lib Go.Proofs.Ytabiekkebdocnaa.Hp
set_option maxHeartbeats 2000000 in
set_option maxRecDepth 100000 in
theorem each_calls {lt : It → It → Bool} (hlt : Lt lt) (hO : Srt.WOrd lt) (N : List Cl → List Cl) (A0 : Option Addr) (c0 : Nat) (ls : List (List Cl)) (w : World) (hC : Kd.C (Kd.slice 39 k39) w A0 ls.length ls) (hc : ls.length ≤ c0) (hN : ∀ l ∈ ls, Nl N l) (hlen : ls.length ≤ 1000000) :
  Calls Try.prog 13 #[.slice A0 ls.length c0] w fun e w' => ∃ (B : Nat) (v : Value) (ys : List It), e = .returned (.func (.func 29) #[] #[.pointer (some ⟨B, 0, none⟩)]) ∧ w.heap.size ≤ B ∧ w'.heap[B]? = some (.cells #[v] 54 (0, 0)) ∧ HW lt w.heap.size (fun k => w.heap.size ≤ k) w' v ys ∧ (ys.map It.c).Perm (src0 N 0 ls) ∧ Below w.heap.size w w' := by
 have HS := Lib.hid (sorted_calls hlt hO N A0 c0 ls w hC hc hN hlen)
 clear hC hN
 go_enter Try.func13, Try.ntmps13
 go_wp2_with (go_at_call 28; (with_reducible refine HS.out.mono ?_); rintro e w1 ⟨v, ys, rfl, hh, hp, hb⟩; obtain ⟨Av, cv, rfl⟩ := Kd.R_slice hh.row; have HH := Lib.hid hh; have HP := Lib.hid hp; have HB := Lib.hid hb; clear hh hp hb)
 go_ret
 exact ⟨w1.heap.size, _, ys, rfl, below_size HB.out, heap_new_ _ _, ⟨Kd.R_alloc HH.out.row _, srcs_below (below_alloc (Below.refl _ _) _) HH.out.src, HH.out.hp⟩, HP.out, below_alloc HB.out _⟩
end Go.Proofs.Ytabiekkebdocnaa.Q
