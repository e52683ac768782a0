/- Lemmas for this claim's walk: no condition of their own. -/
import Derived.Test.YtaedmofnhjaljaaKwSq
import Derived.Test.YtaedmofnhjaljaaKwQx0
import Derived.Test.YtaedmofnhjaljaaKwJ17
import Derived.Test.YtaedmofnhjaljaaKwJ28
import Derived.Test.YtaedmofnhjaljaaKwQx34
namespace Go.Proofs.Ytaedmofnhjaljaa.Q
open Go.RowKit Go.Proofs.YtaedmofnhjaljaaW.PrintWords Go.Proofs.YtaedmofnhjaljaaW.PrintLast Go.Proofs.YtaedmofnhjaljaaW.PrintMore
attribute [local go_sem] max2_int min2_int max_two min_two max_three min_three max_four min_four
set_option linter.unusedVariables false
set_option linter.unusedSimpArgs false
attribute [local go_sem high] eqA29
def cell_Norm.f (k : Nat) (l0 : List (S29)) : Option ((List (S29))) := (api_Cell_39.f l0).bind fun t481 => ((api_Cell_40.f k t481).bind fun t484 => ((api_Cell_43.f k t484).bind fun t485 => (some t485)))
set_option maxHeartbeats 8000000 in
set_option maxRecDepth 100000 in
theorem cell_Norm.calls (k : Nat) (A0 : Option Addr) (c0 : Nat) (l0 : List (S29)) (r : List (S29)) (w : World) (hr0 : Kd.C k29 w A0 l0.length l0) (hc0 : l0.length ≤ c0) (h : cell_Norm.f k l0 = some r) :
  Calls Try.prog 21 #[.slice A0 l0.length c0] w fun e w' => ∃ v0_ : Value, e = .returned (v0_) ∧ Kd.R k29 29 w' w.heap.size (fun _ => True) v0_ r ∧ Below w.heap.size w w' := by
 have HR0 := Aside0.mk hr0
 have HC0 := Aside0.mk hc0
 clear hr0 hc0
 have HB := Aside0.mk (Below.refl w.heap.size w)
 have H : ((api_Cell_39.f l0).bind fun t481 => ((api_Cell_40.f k t481).bind fun t484 => ((api_Cell_43.f k t484).bind fun t485 => (some t485)))) = some r := h
 clear h
 replace H := Option.bind_eq_some_iff.mp H
 obtain ⟨t481, A20, H⟩ := H
 have A2 := Aside0.mk A20
 clear A20
 replace H := Option.bind_eq_some_iff.mp H
 obtain ⟨t484, A30, H⟩ := H
 have A3 := Aside0.mk A30
 clear A30
 replace H := Option.bind_eq_some_iff.mp H
 obtain ⟨t485, A40, H⟩ := H
 have A4 := Aside0.mk A40
 clear A40
 obtain rfl := Option.some.inj H
 go_enter Try.func21, Try.ntmps21
 go_wp2_with (first | ((with_reducible refine gate_callee (f := 39) rfl ?_); refine goesL_ (some 4) rfl rfl Try.func39 (by kernel_rfl) rfl #[.slice A0 l0.length c0] rfl (by (try simp only [mT_, mC_, mN_]); first | done | rfl) ?_; (with_reducible refine (api_Cell_39.calls _ _ l0 t481 _ ?side1 ?side2 A2.out).mono ?_); (case side1 => repeat (first | exact HR0.out | (with_reducible refine Kd.C_alloc ?_ _) | (with_reducible refine Kd.C_drewN ?_ _) | (with_reducible refine Kd.C_drew ?_))); (case side2 => exact HC0.out); rintro e w5 ⟨v482, rfl, ho0, hb⟩; refine ⟨_, rfl, ?_⟩; have HO483 := Aside0.mk (Kd.R_lower ho0 (bZ_ (kwW HB))); replace HB := Aside0.mk (below_step (kwW HB) hb); (try clear hb); (try clear hb2); (try clear hk); (try clear hi); (try clear ho0); obtain ⟨Ao6, co6, eo6⟩ := Kd.R_slice HO483.out; subst eo6) | ((with_reducible refine gate_callee (f := 40) rfl ?_); refine goesL_ (some 6) rfl rfl Try.func40 (by kernel_rfl) rfl #[.slice Ao6 t481.length co6, .func (.func 41) #[] #[]] rfl (by (try simp only [mT_, mC_, mN_]); first | done | rfl) ?_; (with_reducible refine (api_Cell_40.calls k (fun k_ => some k_ = (.slice Ao6 t481.length co6 : Value).ownBlock) (.slice Ao6 t481.length co6) t481  t484 w _ ?side1 ?side2 A3.out).mono ?_); (case side1 => repeat (first | (with_reducible first | exact HB.out | apply bA_ | apply bN_ | apply bD_) | exact HB.out)); (case side2 => exact Kd.R_tight rfl HO483.out); rintro e w7 ⟨rfl, hy0, hb, hkp⟩; refine ⟨_, rfl, ?_⟩; replace HO483 := Aside0.mk (Kd.R_reok rfl hy0 (fun k_ e_ => HO483.out.1 k_ e_)); replace HB := Aside0.mk (hb); (try clear hb); (try clear hkp); (try clear hy0)) | ((with_reducible refine gate_callee (f := 43) rfl ?_); refine goesL_ (some 8) rfl rfl Try.func43 (by kernel_rfl) rfl #[.slice Ao6 t484.length co6, .func (.func 44) #[] #[], .func (.func 45) #[] #[]] rfl (by (try simp only [mT_, mC_, mN_]); first | done | (rw [show t484.length = t481.length from (Kd.R_reads' HO483.out).1.symm] <;> rfl) | rfl | (simp only [List.length_drop, List.length_take]; rfl)) ?_; (with_reducible refine (api_Cell_43.calls k _ _ t484   t485 _ ?side1 ?side2 A4.out).mono ?_); (case side1 => repeat (first | exact (Kd.R_reads' HO483.out).2.2 | (with_reducible refine Kd.C_alloc ?_ _) | (with_reducible refine Kd.C_drewN ?_ _) | (with_reducible refine Kd.C_drew ?_))); (case side2 => rw [show t484.length = t481.length from (Kd.R_reads' HO483.out).1.symm]; exact (Kd.R_reads' HO483.out).2.1); rintro e w8 ⟨v486, rfl, ho0, hb⟩; refine ⟨_, rfl, ?_⟩; have HO487 := Aside0.mk (Kd.R_lower (Kd.R_new' ho0 (Kd.R_lt (krW HO483))) (bZ_ (kwW HB))); replace HO483 := Aside0.mk (Kd.R_elder' (krW HO483) (Kd.R_base ho0) hb); replace HB := Aside0.mk (below_step (kwW HB) hb); (try clear hb); (try clear hb2); (try clear hk); (try clear hi); (try clear ho0)))
 go_ret
 exact ⟨_, by first | rfl | (simp <;> rfl) | (simp [*] <;> rfl), by (with_reducible repeat (first | apply Kd.R_alloc | apply Kd.R_drewN | apply Kd.R_drew)); exact Kd.R_mono HO487.out (fun _ hk => trivial), kwW HB⟩
def skerryref01_Like.l0 : Nat → List (S29) → List (S29) → Int → Int → Option (Bool)
 | 0, _, _, _, _ => none
 | k + 1, x0, x1, x12, x13 => if x13 < x12 then (if 0 ≤ x13 then (if x13 < (x0.length : Int) then (if x13 < (x1.length : Int) then (if ((!((((rd_T29 x0 x13).f0.f0).toList) == (((rd_T29 x1 x13).f0.f0).toList)) || (!((((rd_T29 x0 x13).f0.f1).toList) == (((rd_T29 x1 x13).f0.f1).toList)) || (!(((rd_T29 x0 x13).f0.f2) == ((rd_T29 x1 x13).f0.f2)) || (!((((rd_T29 x0 x13).f0.f3).toList) == (((rd_T29 x1 x13).f0.f3).toList)))))) || ((!(((rd_T29 x0 x13).f1.f0) == ((rd_T29 x1 x13).f1.f0)) || (!(((rd_T29 x0 x13).f1.f1) == ((rd_T29 x1 x13).f1.f1)) || (!(((rd_T29 x0 x13).f1.f2) == ((rd_T29 x1 x13).f1.f2)) || ((!(((rd_T29 x0 x13).f1.f3.f0) == ((rd_T29 x1 x13).f1.f3.f0)) || (!(((rd_T29 x0 x13).f1.f3.f1) == ((rd_T29 x1 x13).f1.f3.f1)) || (!((((rd_T29 x0 x13).f1.f3.f2).toList) == (((rd_T29 x1 x13).f1.f3.f2).toList))))))))))) = true then (some false) else (skerryref01_Like.l0 k x0 x1 x12 (wrap64 (x13 + 1)))) else (none)) else (none)) else (none)) else (some true)
def skerryref01_Like.f (k : Nat) (l0 : List (S29)) (l1 : List (S29)) : Option (Bool) := if (l0.length : Int) = (l1.length : Int) then (skerryref01_Like.l0 k l0 l1 (l0.length : Int) 0) else (some false)
set_option maxHeartbeats 8000000 in
set_option maxRecDepth 100000 in
theorem skerryref01_Like.calls (k : Nat) (A0 : Option Addr) (c0 : Nat) (l0 : List (S29)) (A1 : Option Addr) (c1 : Nat) (l1 : List (S29)) (r : Bool) (w : World) (hr0 : Kd.C k29 w A0 l0.length l0) (hc0 : l0.length ≤ c0) (hr1 : Kd.C k29 w A1 l1.length l1) (hc1 : l1.length ≤ c1) (h : skerryref01_Like.f k l0 l1 = some r) :
  Calls Try.prog 22 #[.slice A0 l0.length c0, .slice A1 l1.length c1] w fun e w' => e = .returned (.bool r) ∧ Drawn0 w w' := by
 have hu29 := Try.underlying29
 have HR0 := Aside0.mk hr0
 have HC0 := Aside0.mk hc0
 clear hr0 hc0
 have HR1 := Aside0.mk hr1
 have HC1 := Aside0.mk hc1
 clear hr1 hc1
 have H : (if (l0.length : Int) = (l1.length : Int) then (skerryref01_Like.l0 k l0 l1 (l0.length : Int) 0) else (some false)) = some r := h
 clear h
 by_cases c3 : (l0.length : Int) = (l1.length : Int)
 rotate_left
 ·
  rw [if_neg c3] at H
  have c3b0 : ((l0.length : Int) == (l1.length : Int)) = false := beq_eq_false_iff_ne.mpr c3
  have c3b1 : ((l0.length : Int) != (l1.length : Int)) = true := bne_iff_ne.mpr c3
  have c3b2 : (l0.length == l1.length) = false := by first | simpa using c3 | (simp at c3 ⊢; omega)
  obtain rfl := Option.some.inj H
  go_enter Try.func22, Try.ntmps22
  go_wp2
  repeat (go_quiet (fail); try go_wp2)
  go_ret
  exact ⟨by first | rfl | (simp; done) | (simp [*]; done), by repeat (first | exact Drawn0.refl _ | apply Drawn0.step)⟩
 rw [if_pos c3] at H
 have c3b0 : ((l0.length : Int) == (l1.length : Int)) = true := beq_iff_eq.mpr c3
 have c3b1 : ((l0.length : Int) != (l1.length : Int)) = false := bne_eq_false_iff_eq.mpr c3
 have c3b2 : (l0.length == l1.length) = true := by first | simpa using c3 | (simp at c3 ⊢; omega)
 clear c3
 have H' := Aside0.mk H
 clear H
 go_enter Try.func22, Try.ntmps22
 go_wp2
 repeat (go_quiet (fail); try go_wp2)
 go_loopg [13] k (fun kq v13 w' => ∃ (x13_1 : Int), v13 = .int .i64 x13_1 ∧ Aside0 (skerryref01_Like.l0 kq l0 l1 (l0.length : Int) x13_1 = some r) ∧ Aside0 (kq ≤ k) ∧ Drawn0 w w')
 case atStart => exact ⟨(0), (by first | rfl | (simp; done) | (simp [bne, *]; done)), H', ⟨Nat.le_refl _⟩, by repeat (first | exact Drawn0.refl _ | apply Drawn0.step)⟩
 case round =>
  clear H'
  try clear c1
  try clear c2
  try clear p2
  try clear c3
  try clear c3b0
  try clear c3b1
  try clear c3b2
  obtain ⟨x13_1, rfl, HA, HK1, ⟨m1, rfl⟩⟩ := hrel
  cases gk with
  | zero => exact absurd HA.out (by simp [skerryref01_Like.l0])
  | succ k1 =>
   have H := HA.out
   clear HA
   simp only [skerryref01_Like.l0] at H
   by_cases c4 : x13_1 < (l0.length : Int)
   rotate_left
   ·
    rw [if_neg c4] at H
    have c4b0 : decide (x13_1 < (l0.length : Int)) = false := decide_eq_false c4
    clear c4
    obtain rfl := Option.some.inj H
    go_wp2
    repeat (go_quiet (fail); try go_wp2)
    go_ret
    exact ⟨by first | rfl | (simp; done) | (simp [*]; done), by repeat (first | exact Drawn0.refl _ | apply Drawn0.step)⟩
   rw [if_pos c4] at H
   have c4b0 : decide (x13_1 < (l0.length : Int)) = true := decide_eq_true c4
   clear c4
   by_cases c5 : 0 ≤ x13_1
   rotate_left
   ·
    rw [if_neg c5] at H
    exact absurd H (by simp)
   rw [if_pos c5] at H
   have c5b0 : decide (0 ≤ x13_1) = true := decide_eq_true c5
   clear c5
   by_cases c6 : x13_1 < (l0.length : Int)
   rotate_left
   ·
    rw [if_neg c6] at H
    exact absurd H (by simp)
   rw [if_pos c6] at H
   have c6b0 : decide (x13_1 < (l0.length : Int)) = true := decide_eq_true c6
   clear c6
   by_cases c7 : x13_1 < (l1.length : Int)
   rotate_left
   ·
    rw [if_neg c7] at H
    exact absurd H (by simp)
   rw [if_pos c7] at H
   have c7b0 : decide (x13_1 < (l1.length : Int)) = true := decide_eq_true c7
   clear c7
   by_cases c8 : ((!((((rd_T29 l0 x13_1).f0.f0).toList) == (((rd_T29 l1 x13_1).f0.f0).toList)) || (!((((rd_T29 l0 x13_1).f0.f1).toList) == (((rd_T29 l1 x13_1).f0.f1).toList)) || (!(((rd_T29 l0 x13_1).f0.f2) == ((rd_T29 l1 x13_1).f0.f2)) || (!((((rd_T29 l0 x13_1).f0.f3).toList) == (((rd_T29 l1 x13_1).f0.f3).toList)))))) || ((!(((rd_T29 l0 x13_1).f1.f0) == ((rd_T29 l1 x13_1).f1.f0)) || (!(((rd_T29 l0 x13_1).f1.f1) == ((rd_T29 l1 x13_1).f1.f1)) || (!(((rd_T29 l0 x13_1).f1.f2) == ((rd_T29 l1 x13_1).f1.f2)) || ((!(((rd_T29 l0 x13_1).f1.f3.f0) == ((rd_T29 l1 x13_1).f1.f3.f0)) || (!(((rd_T29 l0 x13_1).f1.f3.f1) == ((rd_T29 l1 x13_1).f1.f3.f1)) || (!((((rd_T29 l0 x13_1).f1.f3.f2).toList) == (((rd_T29 l1 x13_1).f1.f3.f2).toList))))))))))) = true
   ·
    rw [if_pos c8] at H
    have c8b0 : ((!((((rd_T29 l0 x13_1).f0.f0).toList) == (((rd_T29 l1 x13_1).f0.f0).toList)) || (!((((rd_T29 l0 x13_1).f0.f1).toList) == (((rd_T29 l1 x13_1).f0.f1).toList)) || (!(((rd_T29 l0 x13_1).f0.f2) == ((rd_T29 l1 x13_1).f0.f2)) || (!((((rd_T29 l0 x13_1).f0.f3).toList) == (((rd_T29 l1 x13_1).f0.f3).toList)))))) || ((!(((rd_T29 l0 x13_1).f1.f0) == ((rd_T29 l1 x13_1).f1.f0)) || (!(((rd_T29 l0 x13_1).f1.f1) == ((rd_T29 l1 x13_1).f1.f1)) || (!(((rd_T29 l0 x13_1).f1.f2) == ((rd_T29 l1 x13_1).f1.f2)) || ((!(((rd_T29 l0 x13_1).f1.f3.f0) == ((rd_T29 l1 x13_1).f1.f3.f0)) || (!(((rd_T29 l0 x13_1).f1.f3.f1) == ((rd_T29 l1 x13_1).f1.f3.f1)) || (!((((rd_T29 l0 x13_1).f1.f3.f2).toList) == (((rd_T29 l1 x13_1).f1.f3.f2).toList))))))))))) = true := c8
    clear c8
    obtain rfl := Option.some.inj H
    have p488 : 0 ≤ (x13_1 : Int) := of_decide_eq_true (by first | (with_reducible assumption) | assumption)
    have q488 : x13_1 < (l0.length : Int) := of_decide_eq_true (by first | (with_reducible assumption) | assumption)
    obtain ⟨ad488, e488, hx488_0, hx488_1, hx488_2, hx488_3, hx488_4, hx488_5, hx488_6, hx488_7, hx488_8, hx488_9⟩ := at_T29 HR0.out x13_1 p488 q488
    cases e488
    replace p488 := eq_true p488
    replace q488 := eq_true q488
    have p489 : 0 ≤ (x13_1 : Int) := of_decide_eq_true (by first | (with_reducible assumption) | assumption)
    have q489 : x13_1 < (l1.length : Int) := of_decide_eq_true (by first | (with_reducible assumption) | assumption)
    obtain ⟨ad489, e489, hx489_0, hx489_1, hx489_2, hx489_3, hx489_4, hx489_5, hx489_6, hx489_7, hx489_8, hx489_9⟩ := at_T29 HR1.out x13_1 p489 q489
    cases e489
    replace p489 := eq_true p489
    replace q489 := eq_true q489
    go_wp2
    repeat (go_quiet (fail); try go_wp2)
    go_ret
    exact ⟨by first | rfl | (simp; done) | (simp [*]; done), by repeat (first | exact Drawn0.refl _ | apply Drawn0.step)⟩
   ·
    rw [if_neg c8] at H
    have c8b0 : ((!((((rd_T29 l0 x13_1).f0.f0).toList) == (((rd_T29 l1 x13_1).f0.f0).toList)) || (!((((rd_T29 l0 x13_1).f0.f1).toList) == (((rd_T29 l1 x13_1).f0.f1).toList)) || (!(((rd_T29 l0 x13_1).f0.f2) == ((rd_T29 l1 x13_1).f0.f2)) || (!((((rd_T29 l0 x13_1).f0.f3).toList) == (((rd_T29 l1 x13_1).f0.f3).toList)))))) || ((!(((rd_T29 l0 x13_1).f1.f0) == ((rd_T29 l1 x13_1).f1.f0)) || (!(((rd_T29 l0 x13_1).f1.f1) == ((rd_T29 l1 x13_1).f1.f1)) || (!(((rd_T29 l0 x13_1).f1.f2) == ((rd_T29 l1 x13_1).f1.f2)) || ((!(((rd_T29 l0 x13_1).f1.f3.f0) == ((rd_T29 l1 x13_1).f1.f3.f0)) || (!(((rd_T29 l0 x13_1).f1.f3.f1) == ((rd_T29 l1 x13_1).f1.f3.f1)) || (!((((rd_T29 l0 x13_1).f1.f3.f2).toList) == (((rd_T29 l1 x13_1).f1.f3.f2).toList))))))))))) = false := by simpa using c8
    clear c8
    have H' := Aside0.mk H
    clear H
    have p488 : 0 ≤ (x13_1 : Int) := of_decide_eq_true (by first | (with_reducible assumption) | assumption)
    have q488 : x13_1 < (l0.length : Int) := of_decide_eq_true (by first | (with_reducible assumption) | assumption)
    obtain ⟨ad488, e488, hx488_0, hx488_1, hx488_2, hx488_3, hx488_4, hx488_5, hx488_6, hx488_7, hx488_8, hx488_9⟩ := at_T29 HR0.out x13_1 p488 q488
    cases e488
    replace p488 := eq_true p488
    replace q488 := eq_true q488
    have p489 : 0 ≤ (x13_1 : Int) := of_decide_eq_true (by first | (with_reducible assumption) | assumption)
    have q489 : x13_1 < (l1.length : Int) := of_decide_eq_true (by first | (with_reducible assumption) | assumption)
    obtain ⟨ad489, e489, hx489_0, hx489_1, hx489_2, hx489_3, hx489_4, hx489_5, hx489_6, hx489_7, hx489_8, hx489_9⟩ := at_T29 HR1.out x13_1 p489 q489
    cases e489
    replace p489 := eq_true p489
    replace q489 := eq_true q489
    go_wp2
    repeat (go_quiet (fail); try go_wp2)
    go_roundg k1
    case measure => have := HK1.out; omega
    case rel => exact ⟨(wrap64 (x13_1 + 1)), (by first | rfl | (simp; done) | (simp [bne, *]; done)), H', ⟨by have := HK1.out; omega⟩, by repeat (first | exact Drawn0.refl _ | apply Drawn0.step)⟩
end Go.Proofs.Ytaedmofnhjaljaa.Q
