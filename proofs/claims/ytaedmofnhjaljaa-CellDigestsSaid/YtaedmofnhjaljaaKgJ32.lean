/- Lemmas for this claim's walk: no condition of their own. -/
import Derived.Test.YtaedmofnhjaljaaKgSq
import Derived.Shelf.SlicesE.Clone
import Derived.Test.YtaedmofnhjaljaaKgJ4
import Derived.Test.YtaedmofnhjaljaaKgQx0
import Derived.Test.YtaedmofnhjaljaaKgJ16
import Derived.Test.YtaedmofnhjaljaaKgQx26
import Derived.Test.YtaedmofnhjaljaaKgQx12
import Derived.Test.YtaedmofnhjaljaaKgQx15
import Derived.Test.YtaedmofnhjaljaaProg
import Derived.Test.YtaedmofnhjaljaaKgJ0
import Derived.Shelf.SlSortCmp.KitK
import Derived.Lib.Hide
import Derived.Outline
import Derived.Test.YtaedmofnhjaljaaKgOrd
import Derived.Test.YtaedmofnhjaljaaKgQx8
import Derived.Test.YtaedmofnhjaljaaKgQx5
import Derived.Test.YtaedmofnhjaljaaKgQx10
import Derived.Shelf.SlicesQ.IndexFunc
namespace Go.Proofs.Ytaedmofnhjaljaa.Q
open Go.RowKit Go.Proofs.YtaedmofnhjaljaaW.PrintWords Go.Proofs.YtaedmofnhjaljaaW.PrintLast Go.Proofs.YtaedmofnhjaljaaW.PrintMore
attribute [local go_sem] max2_int min2_int max_two min_two max_three min_three max_four min_four
set_option linter.unusedVariables false
set_option linter.unusedSimpArgs false
def cell_Digest.f (k : Nat) (l0 : List (S29)) : Option (Int) := (codec_Cells.f k l0).bind fun t402 => ((murmur_Sum.f t402 0).bind fun bt405 => (some bt405.1))
set_option maxHeartbeats 8000000 in
set_option maxRecDepth 100000 in
theorem cell_Digest.calls (k : Nat) (A0 : Option Addr) (c0 : Nat) (l0 : List (S29)) (r : Int) (w : World) (hr0 : Kd.C k29 w A0 l0.length l0) (hc0 : l0.length ≤ c0) (h : cell_Digest.f k l0 = some r) :
  Calls Try.prog 20 #[.slice A0 l0.length c0] w fun e w' => e = .returned (.int .u64 r) ∧ Below w.heap.size w w' := by
 have HR0 := Aside0.mk hr0
 have HC0 := Aside0.mk hc0
 clear hr0 hc0
 have HB := Aside0.mk (Below.refl w.heap.size w)
 have H : ((codec_Cells.f k l0).bind fun t402 => ((murmur_Sum.f t402 0).bind fun bt405 => (some bt405.1))) = some r := h
 clear h
 replace H := Option.bind_eq_some_iff.mp H
 obtain ⟨t402, A20, H⟩ := H
 have A2 := Aside0.mk A20
 clear A20
 replace H := Option.bind_eq_some_iff.mp H
 obtain ⟨⟨t405, t406⟩, A30, H⟩ := H
 have A3 := Aside0.mk A30
 clear A30
 obtain rfl := Option.some.inj H
 go_enter Try.func20, Try.ntmps20
 go_wp2_with (first | ((with_reducible refine gate_callee (f := 38) rfl ?_); refine goesL_ (some 7) rfl rfl Try.func38 (by kernel_rfl) rfl #[.slice A0 l0.length c0] rfl (by (try simp only [mT_, mC_, mN_]); first | done | rfl) ?_; (with_reducible refine (codec_Cells.calls k _ _ l0 t402 _ ?side1 ?side2 A2.out).mono ?_); (case side1 => repeat (first | exact HR0.out | (with_reducible refine Kd.C_alloc ?_ _) | (with_reducible refine Kd.C_drewN ?_ _) | (with_reducible refine Kd.C_drew ?_))); (case side2 => exact HC0.out); rintro e w4 ⟨v403, rfl, ho0, hb⟩; refine ⟨_, rfl, ?_⟩; have HO404 := Aside0.mk (Kd.R_lower ho0 (bZ_ (kwW HB))); replace HB := Aside0.mk (below_step (kwW HB) hb); (try clear hb); (try clear hb2); (try clear hk); (try clear hi); (try clear ho0); obtain ⟨Ao5, co5, eo5⟩ := Kd.R_slice HO404.out; subst eo5) | ((with_reducible refine gate_callee (f := 37) rfl ?_); refine goesL_ (some 8) rfl rfl Try.func37 (by kernel_rfl) rfl #[.slice Ao5 t402.length co5, .int .u64 0] rfl (by (try simp only [mT_, mC_, mN_]); first | done | rfl) ?_; (with_reducible refine (murmur_Sum.calls _ _ t402 0 t405 t406 _ ?side1 ?side2 A3.out).mono ?_); (case side1 => repeat (first | exact (Kd.R_reads' HO404.out).2.2 | (with_reducible refine Kd.C_alloc ?_ _) | (with_reducible refine Kd.C_drewN ?_ _) | (with_reducible refine Kd.C_drew ?_))); (case side2 => exact (Kd.R_reads' HO404.out).2.1); rintro e w6 ⟨rfl, hb⟩; refine ⟨_, rfl, ?_⟩; replace HO404 := kR HO404 hb; replace HB := Aside0.mk (below_step (kwW HB) hb); (try clear hb); (try clear hb2); (try clear hk); (try clear hi)))
 go_ret
 exact ⟨by first | rfl | (simp <;> rfl) | (simp [*] <;> rfl), kwW HB⟩
end Go.Proofs.Ytaedmofnhjaljaa.Q
namespace Go.Proofs.Ytaedmofnhjaljaa.Q
open Go.RowKit Go.Proofs.YtaedmofnhjaljaaW.PrintWords Go.Proofs.YtaedmofnhjaljaaW.PrintLast Go.Proofs.YtaedmofnhjaljaaW.PrintMore
attribute [local go_sem] max2_int min2_int max_two min_two max_three min_three max_four min_four
set_option linter.unusedVariables false
set_option linter.unusedSimpArgs false
attribute [local go_sem high] eqA27
def skerryref05_Digest.f (k : Nat) (l0 : List (S29)) : Option (Int) := (skerryref01_Cells.f k l0).bind fun t679 => ((skerryref02_Sum.f k t679 0).bind fun bt682 => (some bt682.1))
end Go.Proofs.Ytaedmofnhjaljaa.Q
