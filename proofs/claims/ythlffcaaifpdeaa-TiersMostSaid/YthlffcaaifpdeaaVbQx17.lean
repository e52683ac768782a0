/- Lemmas for this claim's walk: no condition of their own. -/
import Derived.Test.YthlffcaaifpdeaaVbJ15
import Derived.Test.YthlffcaaifpdeaaVbJ17
import Derived.Test.YthlffcaaifpdeaaVbQx12
import Derived.Test.YthlffcaaifpdeaaVbQx13
namespace Go.Proofs.Ythlffcaaifpdeaa.Q
open Go.RowKit Go.Proofs.YthlffcaaifpdeaaW.PrintWords Go.Proofs.YthlffcaaifpdeaaW.PrintLast Go.Proofs.YthlffcaaifpdeaaW.PrintMore
attribute [local go_sem] max2_int min2_int max_two min_two max_three min_three max_four min_four
set_option linter.unusedVariables false
set_option linter.unusedSimpArgs false
mutual
def skerrylaw12_TiersMost.j0 : Nat → List Int → Int → List Int → Option (Bool)
 | 0, _, _, _ => none
 | k + 1, x0, x5, x6 => (tiers_Buckets.f x0).bind fun t281 => (skerrylaw12_TiersMost.l0 k x5 x6 ((x6.length : Int) == 0) t281 (t281.length : Int) 0)
def skerrylaw12_TiersMost.l0 : Nat → Int → List Int → Bool → List (List Int) → Int → Int → Option (Bool)
 | 0, _, _, _, _, _, _ => none
 | k + 1, x5, x6, x7, x26, x27, x28 => if x28 < x27 then (if 0 ≤ x28 then (if x28 < (x26.length : Int) then (if ((rd_L1 x26 x28).length : Int) ≥ x5 then (if ((rd_L1 x26 x28).length : Int) > (x6.length : Int) then (none) else (if x7 = true then (skerrylaw12_TiersMost.l0 k x5 x6 true x26 x27 (wrap64 (x28 + 1))) else ((skerryref01_Ints.f k (rd_L1 x26 x28) x6).bind fun t285 => (skerrylaw12_TiersMost.l0 k x5 x6 t285 x26 x27 (wrap64 (x28 + 1)))))) else (if x7 = true then (skerrylaw12_TiersMost.l0 k x5 x6 true x26 x27 (wrap64 (x28 + 1))) else ((skerryref01_Ints.f k (rd_L1 x26 x28) x6).bind fun t286 => (skerrylaw12_TiersMost.l0 k x5 x6 t286 x26 x27 (wrap64 (x28 + 1)))))) else (none)) else (none)) else (if x7 = true then (if (x6.length : Int) = 0 then ((skerrylaw12_lives.f k).bind fun t287 => (some t287)) else (if (x6.length : Int) ≥ x5 then ((skerrylaw12_lives.f k).bind fun t288 => (some t288)) else (none))) else (none))
end
def skerrylaw12_TiersMost.f (k : Nat) (l0 : List Int) (a1 : Int) : Option (Bool) := if (l0.length : Int) > 300 then ((skerrylaw12_lives.f k).bind fun t277 => (some t277)) else ((tiers_Choose.f l0 (wrap64 (Int.tmod a1 20))).bind fun t278 => (if (wrap64 (Int.tmod a1 20)) < 2 then (skerrylaw12_TiersMost.j0 k l0 2 t278) else (skerrylaw12_TiersMost.j0 k l0 (wrap64 (Int.tmod a1 20)) t278)))
set_option maxHeartbeats 8000000 in
set_option maxRecDepth 100000 in
theorem skerrylaw12_TiersMost.calls (k : Nat) (A0 : Option Addr) (c0 : Nat) (l0 : List Int) (a1 : Int) (r : Bool) (w : World) (hr0 : Kd.C (Kd.int .i64) w A0 l0.length l0) (hc0 : l0.length ≤ c0) (h : skerrylaw12_TiersMost.f k l0 a1 = some r) :
  Calls Try.prog 5 #[.slice A0 l0.length c0, .int .u64 a1] w fun e w' => e = .returned (.bool r) ∧ Below w.heap.size w w' := by
 have HR0 := Aside0.mk hr0
 have HC0 := Aside0.mk hc0
 clear hr0 hc0
 have HB := Aside0.mk (Below.refl w.heap.size w)
 have H : (if (l0.length : Int) > 300 then ((skerrylaw12_lives.f k).bind fun t277 => (some t277)) else ((tiers_Choose.f l0 (wrap64 (Int.tmod a1 20))).bind fun t278 => (if (wrap64 (Int.tmod a1 20)) < 2 then (skerrylaw12_TiersMost.j0 k l0 2 t278) else (skerrylaw12_TiersMost.j0 k l0 (wrap64 (Int.tmod a1 20)) t278)))) = some r := h
 clear h
 by_cases c3 : (l0.length : Int) > 300
 ·
  rw [if_pos c3] at H
  have c3b0 : decide (300 < (l0.length : Int)) = true := decide_eq_true c3
  have c3b1 : decide (300 < l0.length) = true := decide_eq_true (by omega)
  clear c3
  replace H := Option.bind_eq_some_iff.mp H
  obtain ⟨t277, A40, H⟩ := H
  have A4 := Aside0.mk A40
  clear A40
  obtain rfl := Option.some.inj H
  go_enter Try.func5, Try.ntmps5
  go_wp2_with (first | ((with_reducible refine gate_callee (f := 7) rfl ?_); refine goesL_ (some 13) rfl rfl Try.func7 (by kernel_rfl) rfl #[] rfl (by (try simp only [mT_, mC_, mN_]); first | done | rfl) ?_; (with_reducible refine (skerrylaw12_lives.calls k  t277 _ A4.out).mono ?_); rintro e w5 ⟨rfl, hb⟩; refine ⟨_, rfl, ?_⟩; replace HB := Aside0.mk (below_step (kwW HB) hb); (try clear hb); (try clear hb2); (try clear hk); (try clear hi)))
  go_ret
  exact ⟨by first | rfl | (simp <;> rfl) | (simp [*] <;> rfl), kwW HB⟩
 ·
  rw [if_neg c3] at H
  have c3b0 : decide (300 < (l0.length : Int)) = false := decide_eq_false c3
  have c3b1 : decide (300 < l0.length) = false := decide_eq_false (by omega)
  clear c3
  replace H := Option.bind_eq_some_iff.mp H
  obtain ⟨t278, A60, H⟩ := H
  have A6 := Aside0.mk A60
  clear A60
  have HC7 := Aside0.mk H
  clear H
  go_enter Try.func5, Try.ntmps5
  go_upto_if 21 with (first | ((with_reducible refine gate_callee (f := 11) rfl ?_); refine goesL_ (some 19) rfl rfl Try.func11 (by kernel_rfl) rfl #[.slice A0 l0.length c0, .int .i64 (wrap64 (Int.tmod a1 20))] rfl (by (try simp only [mT_, mC_, mN_]); first | done | rfl) ?_; (with_reducible refine (tiers_Choose.calls _ _ l0 (wrap64 (Int.tmod a1 20)) t278 _ ?side1 ?side2 A6.out).mono ?_); (case side1 => repeat (first | exact HR0.out | (with_reducible refine Kd.C_alloc ?_ _) | (with_reducible refine Kd.C_drewN ?_ _) | (with_reducible refine Kd.C_drew ?_))); (case side2 => exact HC0.out); rintro e w8 ⟨v279, rfl, ho0, hb⟩; refine ⟨_, rfl, ?_⟩; have HO280 := Aside0.mk (Kd.R_lower ho0 (bZ_ (kwW HB))); replace HB := Aside0.mk (below_step (kwW HB) hb); (try clear hb); (try clear hb2); (try clear hk); (try clear hi); (try clear ho0)))
  (try simp only [Act.put, List.setIfInBounds_toArray, List.set_cons_zero, List.set_cons_succ])
  go_cut [5] (fun v5 wc => ∃ (kq : Nat) (x5_6 : Int), v5 = .int .i64 x5_6 ∧ Aside0 (skerrylaw12_TiersMost.j0 kq l0 x5_6 t278 = some r) ∧ Aside0 (kq ≤ k) ∧ Aside0 (Kd.R (Kd.int .i64) 3 wc w.heap.size (fun _ => True) v279 t278) ∧ Aside0 (Below w.heap.size w wc))
  case first =>
   have H := HC7.out
   clear HC7
   by_cases c9 : (wrap64 (Int.tmod a1 20)) < 2
   ·
    rw [if_pos c9] at H
    have c9b0 : decide ((wrap64 (Int.tmod a1 20)) < 2) = true := decide_eq_true c9
    clear c9
    (first | rw [c9b0] | (simp only [i64_w, i32_w]; rw [c9b0]) | skip)
    have H' := Aside0.mk H
    clear H
    go_wp2
    go_meet
    case rel => exact ⟨_, (2), (by first | rfl | (simp; done) | (simp [bne, *]; done)), H', ⟨by first | omega | exact Nat.le_refl _⟩, ⟨krW HO280⟩, ⟨kwW HB⟩⟩
   ·
    rw [if_neg c9] at H
    have c9b0 : decide ((wrap64 (Int.tmod a1 20)) < 2) = false := decide_eq_false c9
    clear c9
    (first | rw [c9b0] | (simp only [i64_w, i32_w]; rw [c9b0]) | skip)
    have H' := Aside0.mk H
    clear H
    go_wp2
    go_meet
    case rel => exact ⟨_, (wrap64 (Int.tmod a1 20)), (by first | rfl | (simp; done) | (simp [bne, *]; done)), H', ⟨by first | omega | exact Nat.le_refl _⟩, ⟨krW HO280⟩, ⟨kwW HB⟩⟩
  case rest =>
   clear HC7
   try clear c1
   try clear p2
   try clear c3
   try clear c3b0
   try clear c3b1
   try clear c5
   try clear p6
   try clear c7
   try clear c9
   try clear c9b0
   obtain ⟨kq, x5_6, rfl, HA, HJ6, HO_6, HB⟩ := hcut
   cases kq with
   | zero => exact absurd HA.out (by simp [skerrylaw12_TiersMost.j0])
   | succ kj6 =>
    have H := HA.out
    clear HA
    simp only [skerrylaw12_TiersMost.j0] at H
    replace H := Option.bind_eq_some_iff.mp H
    obtain ⟨t281, A100, H⟩ := H
    have A10 := Aside0.mk A100
    clear A100
    have H' := Aside0.mk H
    clear H
    obtain ⟨Ao11, co11, eo11⟩ := Kd.R_slice HO_6.out
    subst eo11
    go_wp2_with (first | ((with_reducible refine gate_callee (f := 8) rfl ?_); refine goesL_ (some 26) rfl rfl Try.func8 (by kernel_rfl) rfl #[.slice A0 l0.length c0] rfl (by (try simp only [mT_, mC_, mN_]); first | done | rfl) ?_; (with_reducible refine (tiers_Buckets.calls _ _ l0 t281 _ ?side1 ?side2 A10.out).mono ?_); (case side1 => repeat (first | exact (Kd.C_below HR0.out HB.out) | (with_reducible refine Kd.C_alloc ?_ _) | (with_reducible refine Kd.C_drewN ?_ _) | (with_reducible refine Kd.C_drew ?_))); (case side2 => exact HC0.out); rintro e w12 ⟨v282, rfl, ho0, hb⟩; refine ⟨_, rfl, ?_⟩; have HO283 := Aside0.mk (Kd.S_lower (Kd.S_new' ho0 (Kd.R_lt (krW HO_6))) (bZ_ (kwW HB))); replace HO_6 := kR HO_6 hb; replace HB := Aside0.mk (below_step (kwW HB) hb); (try clear hb); (try clear hb2); (try clear hk); (try clear hi); (try clear ho0); obtain ⟨Ao13, co13, eo13⟩ := Kd.S_slice HO283.out; subst eo13))
    go_loopg [7, 28] kj6 (fun kq v7 v28 w' => ∃ (x7_2 : Bool) (x28_2 : Int), v7 = .bool x7_2 ∧ v28 = .int .i64 x28_2 ∧ Aside0 (skerrylaw12_TiersMost.l0 kq x5_6 t278 x7_2 t281 (t281.length : Int) x28_2 = some r) ∧ Aside0 (kq ≤ kj6) ∧ Aside0 (Kd.R (Kd.int .i64) 3 w' w.heap.size (fun _ => True) (.slice Ao11 t278.length co11) t278) ∧ Aside0 (Kd.S (Kd.slice 3 (Kd.int .i64)) 22 w' w.heap.size (fun k_ => some k_ ≠ ((.slice Ao11 t278.length co11) : Value).ownBlock) (.slice Ao13 t281.length co13) t281) ∧ Aside0 (Below w.heap.size w w'))
    case atStart => exact ⟨(((t278.length : Int) == 0)), (0), (by first | rfl | (simp; done) | (simp [bne, *]; done)), (by first | rfl | (simp; done) | (simp [bne, *]; done)), H', ⟨Nat.le_refl _⟩, ⟨krW HO_6⟩, ⟨by (with_reducible repeat (first | apply Kd.S_alloc | apply Kd.S_drewN | apply Kd.S_drew)); exact Kd.S_mono HO283.out (fun _ hk => hk.2)⟩, ⟨kwW HB⟩⟩
    case round =>
     clear H'
     try clear c1
     try clear p2
     try clear c3
     try clear c3b0
     try clear c3b1
     try clear c5
     try clear p6
     try clear c7
     try clear c8
     try clear c9
     try clear c9b0
     try clear c11
     try clear p2
     try clear p6
     obtain ⟨x7_2, x28_2, rfl, rfl, HA, HK2, HO_6, HO_26, HB⟩ := hrel
     cases gk with
     | zero => exact absurd HA.out (by simp [skerrylaw12_TiersMost.l0])
     | succ k2 =>
      have H := HA.out
      clear HA
      simp only [skerrylaw12_TiersMost.l0] at H
      by_cases c14 : x28_2 < (t281.length : Int)
      rotate_left
      ·
       rw [if_neg c14] at H
       have c14b0 : decide (x28_2 < (t281.length : Int)) = false := decide_eq_false c14
       clear c14
       by_cases c23 : x7_2 = true
       rotate_left
       ·
        replace c23 := Bool.eq_false_iff.mpr c23
        subst c23
        have H1 : (none) = some r := by rw [if_neg (show ¬ (false = true) by decide)] at H; exact H
        clear H
        have H := H1
        clear H1
        exact absurd H (by simp)
       subst c23
       have H1 : (if (t278.length : Int) = 0 then ((skerrylaw12_lives.f k2).bind fun t287 => (some t287)) else (if (t278.length : Int) ≥ x5_6 then ((skerrylaw12_lives.f k2).bind fun t288 => (some t288)) else (none))) = some r := by rw [if_pos rfl] at H; exact H
       clear H
       have H := H1
       clear H1
       by_cases c24 : (t278.length : Int) = 0
       ·
        rw [if_pos c24] at H
        have c24b0 : ((t278.length : Int) == 0) = true := beq_iff_eq.mpr c24
        have c24b1 : ((t278.length : Int) != 0) = false := bne_eq_false_iff_eq.mpr c24
        clear c24
        replace H := Option.bind_eq_some_iff.mp H
        obtain ⟨t287, A250, H⟩ := H
        have A25 := Aside0.mk A250
        clear A250
        obtain rfl := Option.some.inj H
        go_wp2_with (first | (go_at_call 7; (with_reducible refine (skerrylaw12_lives.calls k2  t287 _ A25.out).mono ?_); rintro e w26 ⟨rfl, hb⟩; replace HO_6 := kR HO_6 hb; replace HO_26 := Aside0.mk (Kd.S_below (by (with_reducible repeat (first | apply Kd.S_alloc | apply Kd.S_drewN | apply Kd.S_drew)); exact HO_26.out) hb); replace HB := Aside0.mk (below_step (kwW HB) hb); (try clear hb); (try clear hb2); (try clear hk); (try clear hi)))
        go_ret
        exact ⟨by first | rfl | (simp <;> rfl) | (simp [*] <;> rfl), kwW HB⟩
       ·
        rw [if_neg c24] at H
        have c24b0 : ((t278.length : Int) == 0) = false := beq_eq_false_iff_ne.mpr c24
        have c24b1 : ((t278.length : Int) != 0) = true := bne_iff_ne.mpr c24
        have c24b2 : ¬ (t278 = []) := fun h_ => c24 (by rw [h_]; rfl)
        by_cases c27 : (t278.length : Int) ≥ x5_6
        rotate_left
        ·
         rw [if_neg c27] at H
         exact absurd H (by simp)
        rw [if_pos c27] at H
        have c27b0 : decide (x5_6 ≤ (t278.length : Int)) = true := decide_eq_true c27
        clear c27
        replace H := Option.bind_eq_some_iff.mp H
        obtain ⟨t288, A280, H⟩ := H
        have A28 := Aside0.mk A280
        clear A280
        obtain rfl := Option.some.inj H
        go_wp2_with (first | (go_at_call 7; (with_reducible refine (skerrylaw12_lives.calls k2  t288 _ A28.out).mono ?_); rintro e w29 ⟨rfl, hb⟩; replace HO_6 := kR HO_6 hb; replace HO_26 := Aside0.mk (Kd.S_below (by (with_reducible repeat (first | apply Kd.S_alloc | apply Kd.S_drewN | apply Kd.S_drew)); exact HO_26.out) hb); replace HB := Aside0.mk (below_step (kwW HB) hb); (try clear hb); (try clear hb2); (try clear hk); (try clear hi)))
        go_ret
        exact ⟨by first | rfl | (simp <;> rfl) | (simp [*] <;> rfl), kwW HB⟩
      rw [if_pos c14] at H
      have c14b0 : decide (x28_2 < (t281.length : Int)) = true := decide_eq_true c14
      clear c14
      by_cases c15 : 0 ≤ x28_2
      rotate_left
      ·
       rw [if_neg c15] at H
       exact absurd H (by simp)
      rw [if_pos c15] at H
      have c15b0 : decide (0 ≤ x28_2) = true := decide_eq_true c15
      clear c15
      by_cases c16 : x28_2 < (t281.length : Int)
      rotate_left
      ·
       rw [if_neg c16] at H
       exact absurd H (by simp)
      rw [if_pos c16] at H
      have c16b0 : decide (x28_2 < (t281.length : Int)) = true := decide_eq_true c16
      clear c16
      by_cases c17 : ((rd_L1 t281 x28_2).length : Int) ≥ x5_6
      rotate_left
      ·
       rw [if_neg c17] at H
       have c17b0 : decide (x5_6 ≤ ((rd_L1 t281 x28_2).length : Int)) = false := decide_eq_false c17
       clear c17
       by_cases c21 : x7_2 = true
       ·
        subst c21
        have H1 : (skerrylaw12_TiersMost.l0 k2 x5_6 t278 true t281 (t281.length : Int) (wrap64 (x28_2 + 1))) = some r := by rw [if_pos rfl] at H; exact H
        clear H
        have H := H1
        clear H1
        have H' := Aside0.mk H
        clear H
        have p284 : 0 ≤ (x28_2 : Int) := of_decide_eq_true (by first | (with_reducible assumption) | assumption)
        have q284 : x28_2 < (t281.length : Int) := of_decide_eq_true (by first | (with_reducible assumption) | assumption)
        obtain ⟨ad284, A284_0, c284_0, e284, hx284_0, hl284_0, hi284_0⟩ := at_L1 (Kd.S_reads' HO_26.out).2.2 x28_2 p284 q284
        cases e284
        obtain ⟨ce284, hce284, hMe284, hcc284⟩ := Kd.S_get HO_26.out [] x28_2 p284 (by first | exact q284 | exact of_decide_eq_true (by first | (with_reducible assumption) | assumption) | (have e_ := (Kd.S_reads' HO_26.out).1; omega))
        obtain ⟨ve284_0, rfl, ge284_0⟩ := hMe284
        have hv284_0 := hcc284 0 _ rfl
        rw [Nat.add_zero, show ((Kd.slice 3 (Kd.int .i64))).sz = 1 from rfl, Nat.mul_one] at hv284_0
        replace hv284_0 := Option.some.inj (hv284_0.symm.trans hx284_0)
        rw [hv284_0] at ge284_0
        have HL284_0 := Aside0.mk (show Kd.R (Kd.int .i64) 3 _ _ _ _ (rd_L1 t281 x28_2) from ge284_0)
        clear hv284_0 ge284_0
        clear hcc284 hce284
        have HR284_0 := Aside0.mk hi284_0
        have HC284_0 := Aside0.mk hl284_0
        clear hi284_0 hl284_0
        replace p284 := eq_true p284
        replace q284 := eq_true q284
        go_wp2
        go_roundg k2
        case measure => have := HJ6.out; have := HK2.out; omega
        case rel => exact ⟨(true), (wrap64 (x28_2 + 1)), (by first | rfl | (simp; done) | (simp [bne, *]; done)), (by first | rfl | (simp; done) | (simp [bne, *]; done)), H', ⟨by have := HJ6.out; have := HK2.out; omega⟩, ⟨krW HO_6⟩, ⟨by (with_reducible repeat (first | apply Kd.S_alloc | apply Kd.S_drewN | apply Kd.S_drew)); exact HO_26.out⟩, ⟨kwW HB⟩⟩
       ·
        replace c21 := Bool.eq_false_iff.mpr c21
        subst c21
        have H1 : ((skerryref01_Ints.f k2 (rd_L1 t281 x28_2) t278).bind fun t286 => (skerrylaw12_TiersMost.l0 k2 x5_6 t278 t286 t281 (t281.length : Int) (wrap64 (x28_2 + 1)))) = some r := by rw [if_neg (show ¬ (false = true) by decide)] at H; exact H
        clear H
        have H := H1
        clear H1
        replace H := Option.bind_eq_some_iff.mp H
        obtain ⟨t286, A220, H⟩ := H
        have A22 := Aside0.mk A220
        clear A220
        have H' := Aside0.mk H
        clear H
        have p284 : 0 ≤ (x28_2 : Int) := of_decide_eq_true (by first | (with_reducible assumption) | assumption)
        have q284 : x28_2 < (t281.length : Int) := of_decide_eq_true (by first | (with_reducible assumption) | assumption)
        obtain ⟨ad284, A284_0, c284_0, e284, hx284_0, hl284_0, hi284_0⟩ := at_L1 (Kd.S_reads' HO_26.out).2.2 x28_2 p284 q284
        cases e284
        obtain ⟨ce284, hce284, hMe284, hcc284⟩ := Kd.S_get HO_26.out [] x28_2 p284 (by first | exact q284 | exact of_decide_eq_true (by first | (with_reducible assumption) | assumption) | (have e_ := (Kd.S_reads' HO_26.out).1; omega))
        obtain ⟨ve284_0, rfl, ge284_0⟩ := hMe284
        have hv284_0 := hcc284 0 _ rfl
        rw [Nat.add_zero, show ((Kd.slice 3 (Kd.int .i64))).sz = 1 from rfl, Nat.mul_one] at hv284_0
        replace hv284_0 := Option.some.inj (hv284_0.symm.trans hx284_0)
        rw [hv284_0] at ge284_0
        have HL284_0 := Aside0.mk (show Kd.R (Kd.int .i64) 3 _ _ _ _ (rd_L1 t281 x28_2) from ge284_0)
        clear hv284_0 ge284_0
        clear hcc284 hce284
        have HR284_0 := Aside0.mk hi284_0
        have HC284_0 := Aside0.mk hl284_0
        clear hi284_0 hl284_0
        replace p284 := eq_true p284
        replace q284 := eq_true q284
        go_wp2_with (first | (go_at_call 10; (with_reducible refine (skerryref01_Ints.calls k2 _ _ (rd_L1 t281 x28_2) _ _ t278 t286 _ ?side1 ?side2 ?side3 ?side4 A22.out).mono ?_); (case side1 => repeat (first | exact (by repeat (first | (with_reducible exact HR284_0.out) | (with_reducible refine Kd.C_alloc ?_ _) | (with_reducible refine Kd.C_drewN ?_ _) | (with_reducible refine Kd.C_drew ?_) | exact HR284_0.out)) | (with_reducible refine Kd.C_alloc ?_ _) | (with_reducible refine Kd.C_drewN ?_ _) | (with_reducible refine Kd.C_drew ?_))); (case side2 => exact HC284_0.out); (case side3 => repeat (first | exact (Kd.R_reads' HO_6.out).2.2 | (with_reducible refine Kd.C_alloc ?_ _) | (with_reducible refine Kd.C_drewN ?_ _) | (with_reducible refine Kd.C_drew ?_))); (case side4 => exact (Kd.R_reads' HO_6.out).2.1); rintro e w' ⟨rfl, ⟨nd, rfl⟩⟩))
        go_roundg k2
        case measure => have := HJ6.out; have := HK2.out; omega
        case rel => exact ⟨(t286), (wrap64 (x28_2 + 1)), (by first | rfl | (simp; done) | (simp [bne, *]; done)), (by first | rfl | (simp; done) | (simp [bne, *]; done)), H', ⟨by have := HJ6.out; have := HK2.out; omega⟩, ⟨krW HO_6⟩, ⟨by (with_reducible repeat (first | apply Kd.S_alloc | apply Kd.S_drewN | apply Kd.S_drew)); exact HO_26.out⟩, ⟨kwW HB⟩⟩
      rw [if_pos c17] at H
      have c17b0 : decide (x5_6 ≤ ((rd_L1 t281 x28_2).length : Int)) = true := decide_eq_true c17
      clear c17
      by_cases c18 : ((rd_L1 t281 x28_2).length : Int) > (t278.length : Int)
      ·
       rw [if_pos c18] at H
       exact absurd H (by simp)
      ·
       rw [if_neg c18] at H
       have c18b0 : decide ((t278.length : Int) < ((rd_L1 t281 x28_2).length : Int)) = false := decide_eq_false c18
       have c18b1 : decide (t278.length < (rd_L1 t281 x28_2).length) = false := decide_eq_false (fun h => c18 (Int.ofNat_lt.mpr h))
       clear c18
       by_cases c19 : x7_2 = true
       ·
        subst c19
        have H1 : (skerrylaw12_TiersMost.l0 k2 x5_6 t278 true t281 (t281.length : Int) (wrap64 (x28_2 + 1))) = some r := by rw [if_pos rfl] at H; exact H
        clear H
        have H := H1
        clear H1
        have H' := Aside0.mk H
        clear H
        have p284 : 0 ≤ (x28_2 : Int) := of_decide_eq_true (by first | (with_reducible assumption) | assumption)
        have q284 : x28_2 < (t281.length : Int) := of_decide_eq_true (by first | (with_reducible assumption) | assumption)
        obtain ⟨ad284, A284_0, c284_0, e284, hx284_0, hl284_0, hi284_0⟩ := at_L1 (Kd.S_reads' HO_26.out).2.2 x28_2 p284 q284
        cases e284
        obtain ⟨ce284, hce284, hMe284, hcc284⟩ := Kd.S_get HO_26.out [] x28_2 p284 (by first | exact q284 | exact of_decide_eq_true (by first | (with_reducible assumption) | assumption) | (have e_ := (Kd.S_reads' HO_26.out).1; omega))
        obtain ⟨ve284_0, rfl, ge284_0⟩ := hMe284
        have hv284_0 := hcc284 0 _ rfl
        rw [Nat.add_zero, show ((Kd.slice 3 (Kd.int .i64))).sz = 1 from rfl, Nat.mul_one] at hv284_0
        replace hv284_0 := Option.some.inj (hv284_0.symm.trans hx284_0)
        rw [hv284_0] at ge284_0
        have HL284_0 := Aside0.mk (show Kd.R (Kd.int .i64) 3 _ _ _ _ (rd_L1 t281 x28_2) from ge284_0)
        clear hv284_0 ge284_0
        clear hcc284 hce284
        have HR284_0 := Aside0.mk hi284_0
        have HC284_0 := Aside0.mk hl284_0
        clear hi284_0 hl284_0
        replace p284 := eq_true p284
        replace q284 := eq_true q284
        go_wp2
        go_roundg k2
        case measure => have := HJ6.out; have := HK2.out; omega
        case rel => exact ⟨(true), (wrap64 (x28_2 + 1)), (by first | rfl | (simp; done) | (simp [bne, *]; done)), (by first | rfl | (simp; done) | (simp [bne, *]; done)), H', ⟨by have := HJ6.out; have := HK2.out; omega⟩, ⟨krW HO_6⟩, ⟨by (with_reducible repeat (first | apply Kd.S_alloc | apply Kd.S_drewN | apply Kd.S_drew)); exact HO_26.out⟩, ⟨kwW HB⟩⟩
       ·
        replace c19 := Bool.eq_false_iff.mpr c19
        subst c19
        have H1 : ((skerryref01_Ints.f k2 (rd_L1 t281 x28_2) t278).bind fun t285 => (skerrylaw12_TiersMost.l0 k2 x5_6 t278 t285 t281 (t281.length : Int) (wrap64 (x28_2 + 1)))) = some r := by rw [if_neg (show ¬ (false = true) by decide)] at H; exact H
        clear H
        have H := H1
        clear H1
        replace H := Option.bind_eq_some_iff.mp H
        obtain ⟨t285, A200, H⟩ := H
        have A20 := Aside0.mk A200
        clear A200
        have H' := Aside0.mk H
        clear H
        have p284 : 0 ≤ (x28_2 : Int) := of_decide_eq_true (by first | (with_reducible assumption) | assumption)
        have q284 : x28_2 < (t281.length : Int) := of_decide_eq_true (by first | (with_reducible assumption) | assumption)
        obtain ⟨ad284, A284_0, c284_0, e284, hx284_0, hl284_0, hi284_0⟩ := at_L1 (Kd.S_reads' HO_26.out).2.2 x28_2 p284 q284
        cases e284
        obtain ⟨ce284, hce284, hMe284, hcc284⟩ := Kd.S_get HO_26.out [] x28_2 p284 (by first | exact q284 | exact of_decide_eq_true (by first | (with_reducible assumption) | assumption) | (have e_ := (Kd.S_reads' HO_26.out).1; omega))
        obtain ⟨ve284_0, rfl, ge284_0⟩ := hMe284
        have hv284_0 := hcc284 0 _ rfl
        rw [Nat.add_zero, show ((Kd.slice 3 (Kd.int .i64))).sz = 1 from rfl, Nat.mul_one] at hv284_0
        replace hv284_0 := Option.some.inj (hv284_0.symm.trans hx284_0)
        rw [hv284_0] at ge284_0
        have HL284_0 := Aside0.mk (show Kd.R (Kd.int .i64) 3 _ _ _ _ (rd_L1 t281 x28_2) from ge284_0)
        clear hv284_0 ge284_0
        clear hcc284 hce284
        have HR284_0 := Aside0.mk hi284_0
        have HC284_0 := Aside0.mk hl284_0
        clear hi284_0 hl284_0
        replace p284 := eq_true p284
        replace q284 := eq_true q284
        go_wp2_with (first | (go_at_call 10; (with_reducible refine (skerryref01_Ints.calls k2 _ _ (rd_L1 t281 x28_2) _ _ t278 t285 _ ?side1 ?side2 ?side3 ?side4 A20.out).mono ?_); (case side1 => repeat (first | exact (by repeat (first | (with_reducible exact HR284_0.out) | (with_reducible refine Kd.C_alloc ?_ _) | (with_reducible refine Kd.C_drewN ?_ _) | (with_reducible refine Kd.C_drew ?_) | exact HR284_0.out)) | (with_reducible refine Kd.C_alloc ?_ _) | (with_reducible refine Kd.C_drewN ?_ _) | (with_reducible refine Kd.C_drew ?_))); (case side2 => exact HC284_0.out); (case side3 => repeat (first | exact (Kd.R_reads' HO_6.out).2.2 | (with_reducible refine Kd.C_alloc ?_ _) | (with_reducible refine Kd.C_drewN ?_ _) | (with_reducible refine Kd.C_drew ?_))); (case side4 => exact (Kd.R_reads' HO_6.out).2.1); rintro e w' ⟨rfl, ⟨nd, rfl⟩⟩))
        go_roundg k2
        case measure => have := HJ6.out; have := HK2.out; omega
        case rel => exact ⟨(t285), (wrap64 (x28_2 + 1)), (by first | rfl | (simp; done) | (simp [bne, *]; done)), (by first | rfl | (simp; done) | (simp [bne, *]; done)), H', ⟨by have := HJ6.out; have := HK2.out; omega⟩, ⟨krW HO_6⟩, ⟨by (with_reducible repeat (first | apply Kd.S_alloc | apply Kd.S_drewN | apply Kd.S_drew)); exact HO_26.out⟩, ⟨kwW HB⟩⟩
def skerrylaw12_TiersMost.Pure : Prop := ∀ (l0 : List Int) (a1 : Int), l0.length ≤ maxLen → l0.length * 8 ≤ 140737488351232 → (∀ x ∈ l0, (Lit.int .i64 x).wf = true) → (Lit.int .u64 a1).wf = true → ∃ k, skerrylaw12_TiersMost.f k l0 a1 = some true
theorem skerrylaw12_TiersMost.walk (P : skerrylaw12_TiersMost.Pure) (a0 : Option Addr) (len0 cap0 : Nat) (z0 : List Int) (a1 : Int) (w : World) (w0 : (a0 = none ∧ len0 = 0 ∧ cap0 = 0 ∧ z0 = []) ∨ ∃ x, a0 = some x ∧ len0 ≤ cap0 ∧ cap0 ≤ maxLen ∧ z0.length = cap0 ∧ (∀ i, i < z0.length → w.cell? (x.add i) = some (.int .i64 (z0.getD i 0))) ∧ ∀ n ∈ z0, (Lit.int .i64 n).wf = true) (y0 : len0 * 8 ≤ 140737488351232) (w1 : (Lit.int .u64 a1).wf = true) :
  Calls Try.prog 5 #[.slice a0 len0 cap0, .int .u64 a1] w fun e w' => e = .returned (.bool true) ∧ Below w.heap.size w w' := by
 obtain ⟨l0, rfl, hr0, hm0, hw0, hc0⟩ := ReadsInt.ofRowC w0
 obtain ⟨k, h⟩ := P l0 a1 hm0 y0 hw0 w1
 refine (skerrylaw12_TiersMost.calls k _ _ l0 a1 true w (Kd.C_of_reads (d := (0 : Int)) (h1 := fun _ => rfl) hr0) hc0 h).mono ?_
 rintro e w' ⟨rfl, hd⟩
 exact ⟨rfl, hd⟩
end Go.Proofs.Ythlffcaaifpdeaa.Q
