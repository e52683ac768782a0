/- Lemmas for this claim's walk: no condition of their own. -/
import Derived.Test.YtdagddhccdchoaaDoorWaSq
import Derived.Test.YtdagddhccdchoaaDoorWaJ10
import Derived.Test.YtdagddhccdchoaaDoorWaQx3
import Derived.Test.YtdagddhccdchoaaDoorWaQx9
import Derived.Test.YtdagddhccdchoaaDoorWaQx10
import Derived.Test.YtdagddhccdchoaaDoorWaQx11
namespace Go.Proofs.YtdagddhccdchoaaDoor.Q
open Go.RowKit Go.Proofs.YtdagddhccdchoaaDoorW.PrintWords Go.Proofs.YtdagddhccdchoaaDoorW.PrintLast Go.Proofs.YtdagddhccdchoaaDoorW.PrintMore
attribute [local go_sem] max2_int min2_int max_two min_two max_three min_three max_four min_four
set_option linter.unusedVariables false
set_option linter.unusedSimpArgs false
def skerryref17_Name.f (k : Nat) (a0 : ByteArray) : Option (Bool) := (skerryref04_Name.f k a0).bind fun t148 => (if t148 = true then ((skerryref17_Word.f k a0).bind fun t149 => (some (!t149))) else (some false))
set_option maxHeartbeats 8000000 in
set_option maxRecDepth 100000 in
theorem skerryref17_Name.calls (k : Nat) (a0 : ByteArray) (r : Bool) (w : World) (h : skerryref17_Name.f k a0 = some r) :
  Calls Tryd.prog 10 #[.string a0] w fun e w' => e = .returned (.bool r) ∧ Drawn0 w w' := by
 have H : ((skerryref04_Name.f k a0).bind fun t148 => (if t148 = true then ((skerryref17_Word.f k a0).bind fun t149 => (some (!t149))) else (some false))) = some r := h
 clear h
 replace H := Option.bind_eq_some_iff.mp H
 obtain ⟨t148, A20, H⟩ := H
 have A2 := Aside0.mk A20
 clear A20
 by_cases c3 : t148 = true
 ·
  subst c3
  have H1 : ((skerryref17_Word.f k a0).bind fun t149 => (some (!t149))) = some r := by rw [if_pos rfl] at H; exact H
  clear H
  have H := H1
  clear H1
  replace H := Option.bind_eq_some_iff.mp H
  obtain ⟨t149, A40, H⟩ := H
  have A4 := Aside0.mk A40
  clear A40
  obtain rfl := Option.some.inj H
  go_enter Tryd.func10, Tryd.ntmps10
  go_wp2_with (first | ((with_reducible refine gate_callee (f := 24) rfl ?_); refine goesL_ (some 4) rfl rfl Tryd.func24 (by kernel_rfl) rfl #[.string a0] rfl (by (try simp only [mT_, mC_, mN_]); first | done | rfl) ?_; (with_reducible refine (skerryref04_Name.calls k a0 true _ A2.out).mono ?_); rintro e w' ⟨rfl, ⟨nd, rfl⟩⟩; refine ⟨_, rfl, ?_⟩) | (go_at_call 25; (with_reducible refine (skerryref17_Word.calls k a0 t149 _ A4.out).mono ?_); rintro e w' ⟨rfl, ⟨nd, rfl⟩⟩))
  go_ret
  exact ⟨by first | rfl | (simp; done) | (simp [*]; done), by repeat (first | exact Drawn0.refl _ | apply Drawn0.step)⟩
 ·
  replace c3 := Bool.eq_false_iff.mpr c3
  subst c3
  have H1 : (some false) = some r := by rw [if_neg (show ¬ (false = true) by decide)] at H; exact H
  clear H
  have H := H1
  clear H1
  obtain rfl := Option.some.inj H
  go_enter Tryd.func10, Tryd.ntmps10
  go_wp2_with (first | ((with_reducible refine gate_callee (f := 24) rfl ?_); refine goesL_ (some 4) rfl rfl Tryd.func24 (by kernel_rfl) rfl #[.string a0] rfl (by (try simp only [mT_, mC_, mN_]); first | done | rfl) ?_; (with_reducible refine (skerryref04_Name.calls k a0 false _ A2.out).mono ?_); rintro e w' ⟨rfl, ⟨nd, rfl⟩⟩; refine ⟨_, rfl, ?_⟩))
  go_ret
  exact ⟨by first | rfl | (simp; done) | (simp [*]; done), by repeat (first | exact Drawn0.refl _ | apply Drawn0.step)⟩
def skerrylaw17_SchemaNames.f (k : Nat) (a0 : ByteArray) : Option (Bool) := if (a0.size : Int) > 10000 then ((skerrylaw17_lives.f k).bind fun t150 => (some t150)) else ((schema_Name.f a0).bind fun t151 => ((skerryref17_Name.f k a0).bind fun t152 => (if (t151 == t152) = true then ((skerrylaw17_lives.f k).bind fun t153 => (some t153)) else (none))))
set_option maxHeartbeats 8000000 in
set_option maxRecDepth 100000 in
theorem skerrylaw17_SchemaNames.calls (k : Nat) (a0 : ByteArray) (r : Bool) (w : World) (h : skerrylaw17_SchemaNames.f k a0 = some r) :
  Calls Tryd.prog 3 #[.string a0] w fun e w' => e = .returned (.bool r) ∧ Below w.heap.size w w' := by
 have HB := Aside0.mk (Below.refl w.heap.size w)
 have H : (if (a0.size : Int) > 10000 then ((skerrylaw17_lives.f k).bind fun t150 => (some t150)) else ((schema_Name.f a0).bind fun t151 => ((skerryref17_Name.f k a0).bind fun t152 => (if (t151 == t152) = true then ((skerrylaw17_lives.f k).bind fun t153 => (some t153)) else (none))))) = some r := h
 clear h
 by_cases c2 : (a0.size : Int) > 10000
 ·
  rw [if_pos c2] at H
  have c2b0 : decide (10000 < (a0.size : Int)) = true := decide_eq_true c2
  have c2b1 : decide (10000 < a0.size) = true := decide_eq_true (by omega)
  clear c2
  replace H := Option.bind_eq_some_iff.mp H
  obtain ⟨t150, A30, H⟩ := H
  have A3 := Aside0.mk A30
  clear A30
  obtain rfl := Option.some.inj H
  go_enter Tryd.func3, Tryd.ntmps3
  go_wp2_with (first | ((with_reducible refine gate_callee (f := 8) rfl ?_); refine goesL_ (some 6) rfl rfl Tryd.func8 (by kernel_rfl) rfl #[] rfl (by (try simp only [mT_, mC_, mN_]); first | done | rfl) ?_; (with_reducible refine (skerrylaw17_lives.calls k  t150 _ A3.out).mono ?_); rintro e w4 ⟨rfl, hb⟩; refine ⟨_, rfl, ?_⟩; replace HB := Aside0.mk (below_step (kwW HB) hb); (try clear hb); (try clear hb2); (try clear hk); (try clear hi)))
  go_ret
  exact ⟨by first | rfl | (simp <;> rfl) | (simp [*] <;> rfl), kwW HB⟩
 ·
  rw [if_neg c2] at H
  have c2b0 : decide (10000 < (a0.size : Int)) = false := decide_eq_false c2
  have c2b1 : decide (10000 < a0.size) = false := decide_eq_false (by omega)
  clear c2
  replace H := Option.bind_eq_some_iff.mp H
  obtain ⟨t151, A50, H⟩ := H
  have A5 := Aside0.mk A50
  clear A50
  replace H := Option.bind_eq_some_iff.mp H
  obtain ⟨t152, A60, H⟩ := H
  have A6 := Aside0.mk A60
  clear A60
  by_cases c7 : (t151 == t152) = true
  rotate_left
  ·
   rw [if_neg c7] at H
   exact absurd H (by simp)
  rw [if_pos c7] at H
  have c7b0 : (t151 == t152) = true := c7
  (try (have c7b1 : decide (t151 = t152) = true := by simpa using c7))
  (try (have c7b2 : (t151 == t152) = true := by simpa using c7))
  clear c7
  replace H := Option.bind_eq_some_iff.mp H
  obtain ⟨t153, A80, H⟩ := H
  have A8 := Aside0.mk A80
  clear A80
  obtain rfl := Option.some.inj H
  go_enter Tryd.func3, Tryd.ntmps3
  go_wp2_with (first | ((with_reducible refine gate_callee (f := 9) rfl ?_); refine goesL_ (some 8) rfl rfl Tryd.func9 (by kernel_rfl) rfl #[.string a0] rfl (by (try simp only [mT_, mC_, mN_]); first | done | rfl) ?_; (with_reducible refine (schema_Name.calls a0 t151 _ A5.out).mono ?_); rintro e w9 ⟨rfl, hb⟩; refine ⟨_, rfl, ?_⟩; replace HB := Aside0.mk (below_step (kwW HB) hb); (try clear hb); (try clear hb2); (try clear hk); (try clear hi)) | ((with_reducible refine gate_callee (f := 10) rfl ?_); refine goesL_ (some 10) rfl rfl Tryd.func10 (by kernel_rfl) rfl #[.string a0] rfl (by (try simp only [mT_, mC_, mN_]); first | done | rfl) ?_; (with_reducible refine (skerryref17_Name.calls k a0 t152 _ A6.out).mono ?_); rintro e w' ⟨rfl, ⟨nd, rfl⟩⟩; refine ⟨_, rfl, ?_⟩) | (go_at_call 8; (with_reducible refine (skerrylaw17_lives.calls k  t153 _ A8.out).mono ?_); rintro e w10 ⟨rfl, hb⟩; replace HB := Aside0.mk (below_step (kwW HB) hb); (try clear hb); (try clear hb2); (try clear hk); (try clear hi)))
  go_ret
  exact ⟨by first | rfl | (simp <;> rfl) | (simp [*] <;> rfl), kwW HB⟩
end Go.Proofs.YtdagddhccdchoaaDoor.Q
