/- Lemmas for this claim's walk: no condition of their own. -/
import Derived.Test.YtdagddhccdchoaaDoorWbSq
import Derived.Test.YtdagddhccdchoaaDoorWbQx0
import Derived.Test.YtdagddhccdchoaaDoorWbQx3
import Derived.Test.YtdagddhccdchoaaDoorWbQx9
import Derived.Test.YtdagddhccdchoaaDoorWbQx10
import Derived.Test.YtdagddhccdchoaaDoorWbQx11
namespace Go.Proofs.YtdagddhccdchoaaDoor.Q
open Go.RowKit Go.Proofs.YtdagddhccdchoaaDoorW.PrintWords Go.Proofs.YtdagddhccdchoaaDoorW.PrintLast Go.Proofs.YtdagddhccdchoaaDoorW.PrintMore
attribute [local go_sem] max2_int min2_int max_two min_two max_three min_three max_four min_four
set_option linter.unusedVariables false
set_option linter.unusedSimpArgs false
def skerryref17_Name.f (k : Nat) (a0 : ByteArray) : Option (Bool) := (skerryref04_Name.f k a0).bind fun t148 => (if t148 = true then ((skerryref17_Word.f k a0).bind fun t149 => (some (!t149))) else (some false))
set_option maxHeartbeats 8000000 in
set_option maxRecDepth 100000 in
theorem skerryref17_Name.calls (k : Nat) (a0 : ByteArray) (r : Bool) (w : World) (h : skerryref17_Name.f k a0 = some r) :
  Calls Tryd.prog 10 #[.string a0] w fun e w' => e = .returned (.bool r) ∧ Drawn0 w w' := by
 have H : ((skerryref04_Name.f k a0).bind fun t148 => (if t148 = true then ((skerryref17_Word.f k a0).bind fun t149 => (some (!t149))) else (some false))) = some r := h
 clear h
 replace H := Option.bind_eq_some_iff.mp H
 obtain ⟨t148, A20, H⟩ := H
 have A2 := Aside0.mk A20
 clear A20
 by_cases c3 : t148 = true
 ·
  subst c3
  have H1 : ((skerryref17_Word.f k a0).bind fun t149 => (some (!t149))) = some r := by rw [if_pos rfl] at H; exact H
  clear H
  have H := H1
  clear H1
  replace H := Option.bind_eq_some_iff.mp H
  obtain ⟨t149, A40, H⟩ := H
  have A4 := Aside0.mk A40
  clear A40
  obtain rfl := Option.some.inj H
  go_enter Tryd.func10, Tryd.ntmps10
  go_wp2_with (first | ((with_reducible refine gate_callee (f := 24) rfl ?_); refine goesL_ (some 4) rfl rfl Tryd.func24 (by kernel_rfl) rfl #[.string a0] rfl (by (try simp only [mT_, mC_, mN_]); first | done | rfl) ?_; (with_reducible refine (skerryref04_Name.calls k a0 true _ A2.out).mono ?_); rintro e w' ⟨rfl, ⟨nd, rfl⟩⟩; refine ⟨_, rfl, ?_⟩) | (go_at_call 25; (with_reducible refine (skerryref17_Word.calls k a0 t149 _ A4.out).mono ?_); rintro e w' ⟨rfl, ⟨nd, rfl⟩⟩))
  go_ret
  exact ⟨by first | rfl | (simp; done) | (simp [*]; done), by repeat (first | exact Drawn0.refl _ | apply Drawn0.step)⟩
 ·
  replace c3 := Bool.eq_false_iff.mpr c3
  subst c3
  have H1 : (some false) = some r := by rw [if_neg (show ¬ (false = true) by decide)] at H; exact H
  clear H
  have H := H1
  clear H1
  obtain rfl := Option.some.inj H
  go_enter Tryd.func10, Tryd.ntmps10
  go_wp2_with (first | ((with_reducible refine gate_callee (f := 24) rfl ?_); refine goesL_ (some 4) rfl rfl Tryd.func24 (by kernel_rfl) rfl #[.string a0] rfl (by (try simp only [mT_, mC_, mN_]); first | done | rfl) ?_; (with_reducible refine (skerryref04_Name.calls k a0 false _ A2.out).mono ?_); rintro e w' ⟨rfl, ⟨nd, rfl⟩⟩; refine ⟨_, rfl, ?_⟩))
  go_ret
  exact ⟨by first | rfl | (simp; done) | (simp [*]; done), by repeat (first | exact Drawn0.refl _ | apply Drawn0.step)⟩
end Go.Proofs.YtdagddhccdchoaaDoor.Q
