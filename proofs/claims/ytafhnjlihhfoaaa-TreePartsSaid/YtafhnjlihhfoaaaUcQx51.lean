/- Lemmas for this claim's walk: no condition of their own. -/
import Derived.Test.YtafhnjlihhfoaaaUcSq
import Derived.Test.YtafhnjlihhfoaaaUcQx0
import Derived.Test.YtafhnjlihhfoaaaUcJ16
import Derived.Test.YtafhnjlihhfoaaaUcQx28
import Derived.Test.YtafhnjlihhfoaaaUcQx29
import Derived.Test.YtafhnjlihhfoaaaUcQx36
import Derived.Test.YtafhnjlihhfoaaaUcJ38
namespace Go.Proofs.Ytafhnjlihhfoaaa.Q
open Go.RowKit Go.Proofs.YtafhnjlihhfoaaaW.PrintWords Go.Proofs.YtafhnjlihhfoaaaW.PrintLast Go.Proofs.YtafhnjlihhfoaaaW.PrintMore
attribute [local go_sem] max2_int min2_int max_two min_two max_three min_three max_four min_four
set_option linter.unusedVariables false
set_option linter.unusedSimpArgs false
mutual
def skerrylaw22_TreeParts.l0 : Nat → List (S38) → Int → Int → List (S38) → Int → Option (Bool)
 | 0, _, _, _, _, _ => none
 | k + 1, x0, x1, x5, x6, x7 => if x7 < x5 then ((tree_Pick.f k x0 x1 (([x7] : List Int))).bind fun t603 => (skerrylaw22_TreeParts.l1 k x0 x1 x5 x6 x7 t603 t603 (t603.length : Int) 0)) else ((tree_Leaves.f k x0 x1).bind fun t612 => (if (t612.length : Int) = x5 then ((skerryref05_Norm.f k x6).bind fun t615 => ((skerryref05_Norm.f k x0).bind fun t618 => ((skerryref01_Like.f k t615 t618).bind fun t621 => (if t621 = true then ((skerryref05_Norm.f k x0).bind fun t622 => (if (x6.length : Int) = (t622.length : Int) then ((skerrylaw22_lives.f k).bind fun t625 => (some t625)) else (none))) else (none))))) else (none)))
def skerrylaw22_TreeParts.l1 : Nat → List (S38) → Int → Int → List (S38) → Int → List (S38) → List (S38) → Int → Int → Option (Bool)
 | 0, _, _, _, _, _, _, _, _, _ => none
 | k + 1, x0, x1, x5, x6, x7, x8, x29, x30, x31 => if x31 < x30 then (if 0 ≤ x31 then (if x31 < (x29.length : Int) then ((tree_Bucket.f ((rd_T38 x29 x31).f0.f1) x1).bind fun t608 => (if t608 = x7 then (skerrylaw22_TreeParts.l1 k x0 x1 x5 x6 x7 x8 x29 x30 (wrap64 (x31 + 1))) else (none))) else (none)) else (none)) else (if x6.length + x8.length < 1256584717458 then (skerrylaw22_TreeParts.l0 k x0 x1 x5 (x6 ++ x8) (wrap64 (x7 + 1))) else (none))
end
def skerrylaw22_TreeParts.f (k : Nat) (l0 : List (S38)) (a1 : Int) : Option (Bool) := (skerrylaw22_weigh.f k l0 60).bind fun t597 => (if t597 > 60 then ((skerrylaw22_lives.f k).bind fun t598 => (some t598)) else ((skerryref22_Depth.f a1).bind fun t599 => (if 0 ≤ (IntKind.u64.wrap (t599)) then (skerrylaw22_TreeParts.l0 k l0 a1 (shl .i64 1 (IntKind.u64.wrap (t599))) ([] : List (S38)) 0) else (none))))
set_option maxHeartbeats 8000000 in
set_option maxRecDepth 100000 in
theorem skerrylaw22_TreeParts.calls (k : Nat) (A0 : Option Addr) (c0 : Nat) (l0 : List (S38)) (a1 : Int) (r : Bool) (w : World) (hr0 : Kd.C k38 w A0 l0.length l0) (hc0 : l0.length ≤ c0) (h : skerrylaw22_TreeParts.f k l0 a1 = some r) :
  Calls Try.prog 6 #[.slice A0 l0.length c0, .int .i64 a1] w fun e w' => e = .returned (.bool r) ∧ Below w.heap.size w w' := by
 have hu38 := Try.underlying38
 have HR0 := Aside0.mk hr0
 have HC0 := Aside0.mk hc0
 clear hr0 hc0
 have HB := Aside0.mk (Below.refl w.heap.size w)
 have H : ((skerrylaw22_weigh.f k l0 60).bind fun t597 => (if t597 > 60 then ((skerrylaw22_lives.f k).bind fun t598 => (some t598)) else ((skerryref22_Depth.f a1).bind fun t599 => (if 0 ≤ (IntKind.u64.wrap (t599)) then (skerrylaw22_TreeParts.l0 k l0 a1 (shl .i64 1 (IntKind.u64.wrap (t599))) ([] : List (S38)) 0) else (none))))) = some r := h
 clear h
 replace H := Option.bind_eq_some_iff.mp H
 obtain ⟨t597, A30, H⟩ := H
 have A3 := Aside0.mk A30
 clear A30
 by_cases c4 : t597 > 60
 ·
  rw [if_pos c4] at H
  have c4b0 : decide (60 < t597) = true := decide_eq_true c4
  clear c4
  replace H := Option.bind_eq_some_iff.mp H
  obtain ⟨t598, A50, H⟩ := H
  have A5 := Aside0.mk A50
  clear A50
  obtain rfl := Option.some.inj H
  go_enter Try.func6, Try.ntmps6
  go_wp2_with (first | ((with_reducible refine gate_callee (f := 15) rfl ?_); refine goesL_ (some 12) rfl rfl Try.func15 (by kernel_rfl) rfl #[.slice A0 l0.length c0, .int .i64 60] rfl (by (try simp only [mT_, mC_, mN_]); first | done | rfl) ?_; (with_reducible refine (skerrylaw22_weigh.calls k _ _ l0 60 t597 _ ?side1 ?side2 A3.out).mono ?_); (case side1 => repeat (first | exact HR0.out | (with_reducible refine Kd.C_alloc ?_ _) | (with_reducible refine Kd.C_drewN ?_ _) | (with_reducible refine Kd.C_drew ?_))); (case side2 => exact HC0.out); rintro e w6 ⟨rfl, hb⟩; refine ⟨_, rfl, ?_⟩; replace HB := Aside0.mk (below_step (kwW HB) hb); (try clear hb); (try clear hb2); (try clear hk); (try clear hi)) | ((with_reducible refine gate_callee (f := 8) rfl ?_); refine goesL_ (some 14) rfl rfl Try.func8 (by kernel_rfl) rfl #[] rfl (by (try simp only [mT_, mC_, mN_]); first | done | rfl) ?_; (with_reducible refine (skerrylaw22_lives.calls k  t598 _ A5.out).mono ?_); rintro e w7 ⟨rfl, hb⟩; refine ⟨_, rfl, ?_⟩; replace HB := Aside0.mk (below_step (kwW HB) hb); (try clear hb); (try clear hb2); (try clear hk); (try clear hi)))
  go_ret
  exact ⟨by first | rfl | (simp <;> rfl) | (simp [*] <;> rfl), kwW HB⟩
 ·
  rw [if_neg c4] at H
  have c4b0 : decide (60 < t597) = false := decide_eq_false c4
  clear c4
  replace H := Option.bind_eq_some_iff.mp H
  obtain ⟨t599, A80, H⟩ := H
  have A8 := Aside0.mk A80
  clear A80
  obtain ⟨ji9, hji9⟩ : ∃ j_ : Int, (IntKind.u64.wrap (t599)) = j_ := ⟨_, rfl⟩
  replace H : (if 0 ≤ (ji9) then (skerrylaw22_TreeParts.l0 k l0 a1 (shl .i64 1 (ji9)) ([] : List (S38)) 0) else (none)) = some r := by first | (rw [hji9] at H; exact H) | (simp only [hji9] at H ⊢; exact H)
  (try rw [hji9] at A3)
  (try rw [hji9] at A8)
  by_cases c10 : 0 ≤ (ji9)
  rotate_left
  ·
   rw [if_neg c10] at H
   exact absurd H (by simp)
  rw [if_pos c10] at H
  have c10b0 := eq_true c10
  have c10b1 : decide (0 ≤ (ji9)) = true := decide_eq_true c10
  clear c10
  obtain ⟨ji11, hji11⟩ : ∃ j_ : Int, (shl .i64 1 (ji9)) = j_ := ⟨_, rfl⟩
  replace H : (skerrylaw22_TreeParts.l0 k l0 a1 ji11 ([] : List (S38)) 0) = some r := by first | (rw [hji11] at H; exact H) | (simp only [hji11] at H ⊢; exact H)
  (try rw [hji11] at A3)
  (try rw [hji11] at A8)
  have hji11_ : (IntKind.i64.wrap (1 * 2 ^ min (ji9).toNat 64)) = ji11 := hji11
  have hji11z : (ji9) ≤ 64 → (IntKind.i64.wrap (1 * 2 ^ (ji9).toNat)) = ji11 := shl_small hji11
  have hji11u : (IntKind.i64.wrap (2 ^ min (ji9).toNat 64)) = ji11 := by have h_ := hji11_; rw [Int.one_mul] at h_; exact h_
  have hji11v : (ji9) ≤ 64 → (IntKind.i64.wrap (2 ^ (ji9).toNat)) = ji11 := fun hle_ => by have h_ := hji11z hle_; rw [Int.one_mul] at h_; exact h_
  have hji11y : (wrap64 (1 * 2 ^ min (ji9).toNat 64)) = ji11 := (i64_w _).symm.trans hji11_
  have hji11x : (ji9) ≤ 64 → (wrap64 (1 * 2 ^ (ji9).toNat)) = ji11 := fun h_ => (i64_w _).symm.trans (hji11z h_)
  have H' := Aside0.mk H
  clear H
  go_enter Try.func6, Try.ntmps6
  go_wp2_with (first | ((with_reducible refine gate_callee (f := 15) rfl ?_); refine goesL_ (some 12) rfl rfl Try.func15 (by kernel_rfl) rfl #[.slice A0 l0.length c0, .int .i64 60] rfl (by (try simp only [mT_, mC_, mN_]); first | done | rfl) ?_; (with_reducible refine (skerrylaw22_weigh.calls k _ _ l0 60 t597 _ ?side1 ?side2 A3.out).mono ?_); (case side1 => repeat (first | exact HR0.out | (with_reducible refine Kd.C_alloc ?_ _) | (with_reducible refine Kd.C_drewN ?_ _) | (with_reducible refine Kd.C_drew ?_))); (case side2 => exact HC0.out); rintro e w12 ⟨rfl, hb⟩; refine ⟨_, rfl, ?_⟩; replace HB := Aside0.mk (below_step (kwW HB) hb); (try clear hb); (try clear hb2); (try clear hk); (try clear hi)) | ((with_reducible refine gate_callee (f := 25) rfl ?_); refine goesL_ (some 16) rfl rfl Try.func25 (by kernel_rfl) rfl #[.int .i64 a1] rfl (by (try simp only [mT_, mC_, mN_]); first | done | rfl) ?_; (with_reducible refine (skerryref22_Depth.calls a1 t599 _ A8.out).mono ?_); rintro e w' ⟨rfl, ⟨nd, rfl⟩⟩; refine ⟨_, rfl, ?_⟩))
  go_loopg [6, 7] k (fun kq v6 v7 w' => ∃ (x6_1 : List (S38)) (x7_1 : Int), v7 = .int .i64 x7_1 ∧ Aside0 (skerrylaw22_TreeParts.l0 kq l0 a1 ji11 x6_1 x7_1 = some r) ∧ Aside0 (kq ≤ k) ∧ Aside0 (Kd.R k38 38 w' w.heap.size (fun _ => True) v6 x6_1) ∧ Aside0 (Below w.heap.size w w'))
  case atStart => exact ⟨(([] : List (S38))), (0), (by first | rfl | (simp; done) | (simp [bne, *]; done)), H', ⟨Nat.le_refl _⟩, ⟨by first | exact Kd.R_nil _ _ _ _ _ | exact Kd.N_nil _ _ _ _ _ | exact Kd.V_nil _ _ _ _ _ | exact Kd.Q_nil _ _ _ _ _ | exact Kd.S_nil _ _ _ _ _⟩, ⟨kwW HB⟩⟩
  case round =>
   clear H'
   try clear c1
   try clear c2
   try clear p2
   try clear c4
   try clear c4b0
   try clear c6
   try clear p6
   try clear c8
   try clear c10
   try clear c10b0
   try clear c10b1
   obtain ⟨x6_1, x7_1, rfl, HA, HK1, HO_6, HB⟩ := hrel
   cases gk with
   | zero => exact absurd HA.out (by simp [skerrylaw22_TreeParts.l0])
   | succ k1 =>
    have H := HA.out
    clear HA
    simp only [skerrylaw22_TreeParts.l0] at H
    by_cases c13 : x7_1 < ji11
    rotate_left
    ·
     rw [if_neg c13] at H
     have c13b0 : decide (x7_1 < ji11) = false := decide_eq_false c13
     clear c13
     replace H := Option.bind_eq_some_iff.mp H
     obtain ⟨t612, A300, H⟩ := H
     have A30 := Aside0.mk A300
     clear A300
     by_cases c31 : (t612.length : Int) = ji11
     rotate_left
     ·
      rw [if_neg c31] at H
      exact absurd H (by simp)
     rw [if_pos c31] at H
     have c31b0 : ((t612.length : Int) == ji11) = true := beq_iff_eq.mpr c31
     have c31b1 : ((t612.length : Int) != ji11) = false := bne_eq_false_iff_eq.mpr c31
     clear c31
     replace H := Option.bind_eq_some_iff.mp H
     obtain ⟨t615, A320, H⟩ := H
     have A32 := Aside0.mk A320
     clear A320
     replace H := Option.bind_eq_some_iff.mp H
     obtain ⟨t618, A330, H⟩ := H
     have A33 := Aside0.mk A330
     clear A330
     replace H := Option.bind_eq_some_iff.mp H
     obtain ⟨t621, A340, H⟩ := H
     have A34 := Aside0.mk A340
     clear A340
     by_cases c35 : t621 = true
     rotate_left
     ·
      replace c35 := Bool.eq_false_iff.mpr c35
      subst c35
      have H1 : (none) = some r := by rw [if_neg (show ¬ (false = true) by decide)] at H; exact H
      clear H
      have H := H1
      clear H1
      exact absurd H (by simp)
     subst c35
     have H1 : ((skerryref05_Norm.f k1 l0).bind fun t622 => (if (x6_1.length : Int) = (t622.length : Int) then ((skerrylaw22_lives.f k1).bind fun t625 => (some t625)) else (none))) = some r := by rw [if_pos rfl] at H; exact H
     clear H
     have H := H1
     clear H1
     replace H := Option.bind_eq_some_iff.mp H
     obtain ⟨t622, A360, H⟩ := H
     have A36 := Aside0.mk A360
     clear A360
     by_cases c37 : (x6_1.length : Int) = (t622.length : Int)
     rotate_left
     ·
      rw [if_neg c37] at H
      exact absurd H (by simp)
     rw [if_pos c37] at H
     have c37b0 : ((x6_1.length : Int) == (t622.length : Int)) = true := beq_iff_eq.mpr c37
     have c37b1 : ((x6_1.length : Int) != (t622.length : Int)) = false := bne_eq_false_iff_eq.mpr c37
     have c37b2 : (x6_1.length == t622.length) = true := by first | simpa using c37 | (simp at c37 ⊢; omega)
     clear c37
     replace H := Option.bind_eq_some_iff.mp H
     obtain ⟨t625, A380, H⟩ := H
     have A38 := Aside0.mk A380
     clear A380
     obtain rfl := Option.some.inj H
     go_wp2_with (first | ((with_reducible refine gate_callee (f := 18) rfl ?_); refine goesL_ (some 48) rfl rfl Try.func18 (by kernel_rfl) rfl #[.slice A0 l0.length c0, .int .i64 a1] rfl (by (try simp only [mT_, mC_, mN_]); first | done | rfl) ?_; (with_reducible refine (tree_Leaves.calls k1 _ _ l0 a1 t612 _ ?side1 ?side2 A30.out).mono ?_); (case side1 => repeat (first | exact (Kd.C_below HR0.out HB.out) | (with_reducible refine Kd.C_alloc ?_ _) | (with_reducible refine Kd.C_drewN ?_ _) | (with_reducible refine Kd.C_drew ?_))); (case side2 => exact HC0.out); rintro e w39 ⟨v613, rfl, ho0, hb⟩; refine ⟨_, rfl, ?_⟩; replace HO_6 := kR HO_6 hb; have HO614 := Aside0.mk (Kd.R_lower ho0 (bZ_ (kwW HB))); replace HB := Aside0.mk (below_step (kwW HB) hb); (try clear hb); (try clear hb2); (try clear hk); (try clear hi); (try clear ho0); obtain ⟨Ao40, co40, eo40⟩ := Kd.R_slice HO614.out; subst eo40; obtain ⟨Ao41, co41, eo41⟩ := Kd.R_slice HO_6.out; subst eo41) | (go_at_call 26; (with_reducible refine (skerryref05_Norm.calls k1 _ _ x6_1 t615 _ ?side1 ?side2 A32.out).mono ?_); (case side1 => repeat (first | exact (Kd.R_reads' HO_6.out).2.2 | (with_reducible refine Kd.C_alloc ?_ _) | (with_reducible refine Kd.C_drewN ?_ _) | (with_reducible refine Kd.C_drew ?_))); (case side2 => exact (Kd.R_reads' HO_6.out).2.1); rintro e w42 ⟨v616, rfl, ho0, hb⟩; replace HO614 := kR HO614 hb; have HO617 := Aside0.mk (Kd.R_lower (Kd.R_new' ho0 (Kd.R_lt (krW HO_6))) (bZ_ (kwW HB))); replace HO_6 := Aside0.mk (Kd.R_elder' (krW HO_6) (Kd.R_base ho0) hb); replace HB := Aside0.mk (below_step (kwW HB) hb); (try clear hb); (try clear hb2); (try clear hk); (try clear hi); (try clear ho0)) | (go_at_call 26; (with_reducible refine (skerryref05_Norm.calls k1 _ _ l0 t618 _ ?side1 ?side2 A33.out).mono ?_); (case side1 => repeat (first | exact (Kd.C_below HR0.out HB.out) | (with_reducible refine Kd.C_alloc ?_ _) | (with_reducible refine Kd.C_drewN ?_ _) | (with_reducible refine Kd.C_drew ?_))); (case side2 => exact HC0.out); rintro e w43 ⟨v619, rfl, ho0, hb⟩; replace HO614 := kR HO614 hb; have HO620 := Aside0.mk (Kd.R_lower (Kd.R_new' (Kd.R_new' ho0 (Kd.R_lt (krW HO_6))) (Kd.R_lt (krW HO617))) (bZ_ (kwW HB))); replace HO_6 := Aside0.mk (Kd.R_elder' (krW HO_6) (Kd.R_base ho0) hb); replace HO617 := Aside0.mk (Kd.R_elder' (krW HO617) (Kd.R_base ho0) hb); replace HB := Aside0.mk (below_step (kwW HB) hb); (try clear hb); (try clear hb2); (try clear hk); (try clear hi); (try clear ho0); obtain ⟨Ao44, co44, eo44⟩ := Kd.R_slice HO617.out; subst eo44; obtain ⟨Ao45, co45, eo45⟩ := Kd.R_slice HO620.out; subst eo45) | (go_at_call 20; (with_reducible refine (skerryref01_Like.calls k1 _ _ t615 _ _ t618 true _ ?side1 ?side2 ?side3 ?side4 A34.out).mono ?_); (case side1 => repeat (first | exact (Kd.R_reads' HO617.out).2.2 | (with_reducible refine Kd.C_alloc ?_ _) | (with_reducible refine Kd.C_drewN ?_ _) | (with_reducible refine Kd.C_drew ?_))); (case side2 => exact (Kd.R_reads' HO617.out).2.1); (case side3 => repeat (first | exact (Kd.R_reads' HO620.out).2.2 | (with_reducible refine Kd.C_alloc ?_ _) | (with_reducible refine Kd.C_drewN ?_ _) | (with_reducible refine Kd.C_drew ?_))); (case side4 => exact (Kd.R_reads' HO620.out).2.1); rintro e w' ⟨rfl, ⟨nd, rfl⟩⟩) | (go_at_call 26; (with_reducible refine (skerryref05_Norm.calls k1 _ _ l0 t622 _ ?side1 ?side2 A36.out).mono ?_); (case side1 => repeat (first | exact (Kd.C_below HR0.out (kwW HB)) | (with_reducible refine Kd.C_alloc ?_ _) | (with_reducible refine Kd.C_drewN ?_ _) | (with_reducible refine Kd.C_drew ?_))); (case side2 => exact HC0.out); rintro e w46 ⟨v623, rfl, ho0, hb⟩; replace HO614 := kR HO614 hb; have HO624 := Aside0.mk (Kd.R_lower (Kd.R_new' (Kd.R_new' (Kd.R_new' ho0 (Kd.R_lt (krW HO_6))) (Kd.R_lt (krW HO617))) (Kd.R_lt (krW HO620))) (bZ_ (kwW HB))); replace HO_6 := Aside0.mk (Kd.R_elder' (krW HO_6) (Kd.R_base ho0) hb); replace HO617 := Aside0.mk (Kd.R_elder' (krW HO617) (Kd.R_base ho0) hb); replace HO620 := Aside0.mk (Kd.R_elder' (krW HO620) (Kd.R_base ho0) hb); replace HB := Aside0.mk (below_step (kwW HB) hb); (try clear hb); (try clear hb2); (try clear hk); (try clear hi); (try clear ho0); obtain ⟨Ao47, co47, eo47⟩ := Kd.R_slice HO624.out; subst eo47) | (go_at_call 8; (with_reducible refine (skerrylaw22_lives.calls k1  t625 _ A38.out).mono ?_); rintro e w48 ⟨rfl, hb⟩; replace HO_6 := kR HO_6 hb; replace HO614 := kR HO614 hb; replace HO617 := kR HO617 hb; replace HO620 := kR HO620 hb; replace HO624 := kR HO624 hb; replace HB := Aside0.mk (below_step (kwW HB) hb); (try clear hb); (try clear hb2); (try clear hk); (try clear hi)))
     go_ret
     exact ⟨by first | rfl | (simp [errW_none, errW_some] <;> rfl) | (simp only [← hji9, ← hji11]; first | rfl | (simp [errW_none, errW_some] <;> rfl)) | (simp [*, errW_none, errW_some] <;> rfl), kwW HB⟩
    rw [if_pos c13] at H
    have c13b0 : decide (x7_1 < ji11) = true := decide_eq_true c13
    clear c13
    obtain ⟨y600, hy600⟩ : ∃ y_ : List Int, y_ = (([x7_1] : List Int)) := ⟨_, rfl⟩
    replace H : ((tree_Pick.f k1 l0 a1 y600).bind fun t603 => (skerrylaw22_TreeParts.l1 k1 l0 a1 ji11 x6_1 x7_1 t603 t603 (t603.length : Int) 0)) = some r := by first | (rw [hy600]; with_reducible exact H) | (have H2_ := (Option.bind_some _ _).symm.trans H; rw [hy600]; with_reducible exact H2_) | (have H2_ := (Option.bind_some _ _).symm.trans H; with_reducible exact H2_) | with_reducible exact H | (rw [hy600]; exact H) | exact H
    have Ny600 := Aside0.mk hy600
    clear hy600
    replace H := Option.bind_eq_some_iff.mp H
    obtain ⟨t603, A140, H⟩ := H
    have A14 := Aside0.mk A140
    clear A140
    have H' := Aside0.mk H
    clear H
    go_wp2_with (first | ((with_reducible refine gate_dst (N := 27) rfl ?_); (try (refine gate_guard (by rfl) ?_; dsimp only)); refine Kd.R_lit (Kd.int .i64) _ 3 ?hg (N := 27) ?hd (xs := ([x7_1] : List Int)) (inner := [.int .i64 x7_1]) (ok := fun _ => True) (okp := fun _ => True) ?hr ?hp (fun _ hk => hk) trivial (Below.refl _ _) (Nat.le_refl _) (by simp) ?_; (case hd => rfl); (case hg => rfl); (case hr => first | (go_simp; done) | (go_simp; rfl)); (case hp => exact (Reps.one (show Kd.M (Kd.int .i64) _ _ _ x7_1 [.int .i64 x7_1] from rfl) (Reps.none _ _))); intro v601 w15 ho16 hb hg_ hnew_; clear hg_ hnew_; (first | rw [← Ny600.out] at ho16 | (simp only [Int.reduceToNat] at ho16; rw [← Ny600.out] at ho16)); replace HO_6 := kR HO_6 hb; have HO602 := Aside0.mk (Kd.R_lower ho16 (bZ_ (kwW HB))); replace HB := Aside0.mk (below_step (kwW HB) hb); clear hb ho16; obtain ⟨Ao17, co17, eo17⟩ := Kd.R_slice HO602.out; subst eo17) | ((with_reducible refine gate_callee (f := 21) rfl ?_); refine goesL_ (some 28) rfl rfl Try.func21 (by kernel_rfl) rfl #[.slice A0 l0.length c0, .int .i64 a1, .slice Ao17 y600.length co17] rfl (by (try simp only [mT_, mC_, mN_]); first | done | rfl) ?_; (with_reducible refine (tree_Pick.calls k1 _ _ l0 a1 _ _ y600 t603 _ ?side1 ?side2 ?side3 ?side4 A14.out).mono ?_); (case side1 => repeat (first | exact (Kd.C_below HR0.out HB.out) | (with_reducible refine Kd.C_alloc ?_ _) | (with_reducible refine Kd.C_drewN ?_ _) | (with_reducible refine Kd.C_drew ?_))); (case side2 => exact HC0.out); (case side3 => repeat (first | exact (Kd.R_reads' HO602.out).2.2 | (with_reducible refine Kd.C_alloc ?_ _) | (with_reducible refine Kd.C_drewN ?_ _) | (with_reducible refine Kd.C_drew ?_))); (case side4 => exact (Kd.R_reads' HO602.out).2.1); rintro e w18 ⟨v604, rfl, ho0, hb⟩; refine ⟨_, rfl, ?_⟩; replace HO602 := kR HO602 hb; have HO605 := Aside0.mk (Kd.R_lower (Kd.R_new' ho0 (Kd.R_lt (krW HO_6))) (bZ_ (kwW HB))); replace HO_6 := Aside0.mk (Kd.R_elder' (krW HO_6) (Kd.R_base ho0) hb); replace HB := Aside0.mk (below_step (kwW HB) hb); (try clear hb); (try clear hb2); (try clear hk); (try clear hi); (try clear ho0); obtain ⟨Ao19, co19, eo19⟩ := Kd.R_slice HO605.out; subst eo19))
    go_loopg [31] k1 (fun kq v31 w' => ∃ (x31_2 : Int), v31 = .int .i64 x31_2 ∧ Aside0 (skerrylaw22_TreeParts.l1 kq l0 a1 ji11 x6_1 x7_1 t603 t603 (t603.length : Int) x31_2 = some r) ∧ Aside0 (kq ≤ k1) ∧ Aside0 (Kd.R k38 38 w' w.heap.size (fun k_ => some k_ ≠ ((.slice Ao19 t603.length co19) : Value).ownBlock ∧ some k_ ≠ ((.slice Ao19 t603.length co19) : Value).ownBlock) u6 x6_1) ∧ Aside0 (Kd.R k38 38 w' w.heap.size (fun k_ => some k_ ≠ (u6 : Value).ownBlock) (.slice Ao19 t603.length co19) t603) ∧ Aside0 (Kd.R k38 38 w' w.heap.size (fun k_ => some k_ ≠ (u6 : Value).ownBlock) (.slice Ao19 t603.length co19) t603) ∧ Aside0 (Below w.heap.size w w'))
    case atStart => exact ⟨(0), (by first | rfl | (simp; done) | (simp [bne, *]; done)), H', ⟨Nat.le_refl _⟩, ⟨by (with_reducible repeat (first | apply Kd.R_alloc | apply Kd.R_drewN | apply Kd.R_drew)); exact Kd.R_mono HO_6.out (fun _ hk => ⟨hk.2, hk.2⟩)⟩, ⟨by (with_reducible repeat (first | apply Kd.R_alloc | apply Kd.R_drewN | apply Kd.R_drew)); exact Kd.R_mono HO605.out (fun _ hk => hk.2)⟩, ⟨by (with_reducible repeat (first | apply Kd.R_alloc | apply Kd.R_drewN | apply Kd.R_drew)); exact Kd.R_mono HO605.out (fun _ hk => hk.2)⟩, ⟨kwW HB⟩⟩
    case round =>
     clear H'
     try clear c1
     try clear c2
     try clear p2
     try clear c4
     try clear c4b0
     try clear c6
     try clear p6
     try clear c8
     try clear c10
     try clear c10b0
     try clear c10b1
     try clear c13
     try clear c13b0
     try clear c15
     try clear p2
     try clear p6
     obtain ⟨x31_2, rfl, HA, HK2, HO_6, HO_8, HO_29, HB⟩ := hrel
     cases gk with
     | zero => exact absurd HA.out (by simp [skerrylaw22_TreeParts.l1])
     | succ k2 =>
      have H := HA.out
      clear HA
      simp only [skerrylaw22_TreeParts.l1] at H
      by_cases c20 : x31_2 < (t603.length : Int)
      rotate_left
      ·
       rw [if_neg c20] at H
       have c20b0 : decide (x31_2 < (t603.length : Int)) = false := decide_eq_false c20
       clear c20
       by_cases c28 : x6_1.length + t603.length < 1256584717458
       rotate_left
       ·
        rw [if_neg c28] at H
        exact absurd H (by simp)
       rw [if_pos c28] at H
       have LMc28 := Aside0.mk c28
       clear c28
       obtain ⟨y609, hy609⟩ : ∃ y_ : List (S38), y_ = (x6_1 ++ t603) := ⟨_, rfl⟩
       replace H : (skerrylaw22_TreeParts.l0 k2 l0 a1 ji11 y609 (wrap64 (x7_1 + 1))) = some r := by first | (rw [hy609]; with_reducible exact H) | (have H2_ := (Option.bind_some _ _).symm.trans H; rw [hy609]; with_reducible exact H2_) | (have H2_ := (Option.bind_some _ _).symm.trans H; with_reducible exact H2_) | with_reducible exact H | (rw [hy609]; exact H) | exact H
       have Ny609 := Aside0.mk hy609
       clear hy609
       have H' := Aside0.mk H
       clear H
       go_wp2_with (first | ((with_reducible refine gate_builtin (b := .append) (xs := #[.tmp 43, .tmp 44]) rfl ?_); (try (refine gate_guard (by rfl) ?_; dsimp only)); at_builtin; refine Kd.R_append_rows k38 (w0 := w) w.heap.size rfl (.tmp 43) (.tmp 44) 29 38 (.agg #[(.string ⟨#[]⟩), (.string ⟨#[]⟩), (.int .i64 0), (.string ⟨#[]⟩), (.int .i64 0), (.bool false), (.int .i64 0), (.int .i64 0), (.int .i64 0), (.string ⟨#[]⟩)]) 112 rfl Try.underlying29 info38 rfl (by decide) (by omega) u6 x6_1 t603 _ _ _ (fun k_ => some k_ ≠ (.slice Ao19 t603.length co19 : Value).ownBlock ∧ some k_ ≠ (.slice Ao19 t603.length co19 : Value).ownBlock) (fun _ => False) rfl rfl ?aO ?aR (fun _ _ h => h) (fun _ h => h.elim) ?aF ?aB ?aS ?aL ?_; (case aR => repeat (first | exact (Kd.R_reads' HO_8.out).2.2 | (with_reducible refine Kd.C_alloc ?_ _) | (with_reducible refine Kd.C_drewN ?_ _) | (with_reducible refine Kd.C_drew ?_))); (case aB => exact (kwW HB)); (case aF => exact (fun k_ hk => ⟨Kd.fresh' (Kd.R_lt (krW HO_8)) k_ hk, Kd.fresh' (Kd.R_lt (krW HO_29)) k_ hk⟩)); (case aO => exact (krW HO_6)); (case aS => exact (bZ_ (kwW HB))); (case aL => have := LMc28.out; omega); intro v610 w29 ho hb hg hat; rw [← Ny609.out] at ho; replace HO_8 := Aside0.mk (Kd.R_after (ok := (fun _ => True)) (by (with_reducible repeat (first | apply Kd.R_alloc | apply Kd.R_drewN | apply Kd.R_drew)); exact Kd.R_mono HO_8.out (fun _ hk => ⟨trivial, hk⟩)) hg hat); replace HO_29 := Aside0.mk (Kd.R_after (ok := (fun _ => True)) (by (with_reducible repeat (first | apply Kd.R_alloc | apply Kd.R_drewN | apply Kd.R_drew)); exact Kd.R_mono HO_29.out (fun _ hk => ⟨trivial, hk⟩)) hg hat); replace HB := Aside0.mk (hb); have HO611 := Aside0.mk (ho); clear HO_6; clear ho hb hg hat))
       go_roundg k2
       case measure => have := HK1.out; have := HK2.out; omega
       case rel => exact ⟨(y609), (wrap64 (x7_1 + 1)), (by first | rfl | (simp; done) | (simp [bne, *]; done)), H', ⟨by have := HK1.out; have := HK2.out; omega⟩, ⟨by (with_reducible repeat (first | apply Kd.R_alloc | apply Kd.R_drewN | apply Kd.R_drew)); exact Kd.R_mono HO611.out (fun _ hk => trivial)⟩, ⟨kwW HB⟩⟩
      rw [if_pos c20] at H
      have c20b0 : decide (x31_2 < (t603.length : Int)) = true := decide_eq_true c20
      clear c20
      by_cases c21 : 0 ≤ x31_2
      rotate_left
      ·
       rw [if_neg c21] at H
       exact absurd H (by simp)
      rw [if_pos c21] at H
      have c21b0 : decide (0 ≤ x31_2) = true := decide_eq_true c21
      clear c21
      by_cases c22 : x31_2 < (t603.length : Int)
      rotate_left
      ·
       rw [if_neg c22] at H
       exact absurd H (by simp)
      rw [if_pos c22] at H
      have c22b0 : decide (x31_2 < (t603.length : Int)) = true := decide_eq_true c22
      clear c22
      replace H := Option.bind_eq_some_iff.mp H
      obtain ⟨t608, A230, H⟩ := H
      have A23 := Aside0.mk A230
      clear A230
      by_cases c24 : t608 = x7_1
      rotate_left
      ·
       rw [if_neg c24] at H
       exact absurd H (by simp)
      rw [if_pos c24] at H
      have c24b0 : (t608 == x7_1) = true := beq_iff_eq.mpr c24
      have c24b1 : (t608 != x7_1) = false := bne_eq_false_iff_eq.mpr c24
      clear c24
      have H' := Aside0.mk H
      clear H
      have p606 : 0 ≤ (x31_2 : Int) := of_decide_eq_true (by first | (with_reducible assumption) | assumption)
      have q606 : x31_2 < (t603.length : Int) := of_decide_eq_true (by first | (with_reducible assumption) | assumption)
      obtain ⟨ad606, e606, hx606_0, hx606_1, hx606_2, hx606_3, hx606_4, hx606_5, hx606_6, hx606_7, hx606_8, hx606_9⟩ := at_T38 (Kd.R_reads' HO_29.out).2.2 x31_2 p606 q606
      cases e606
      replace p606 := eq_true p606
      replace q606 := eq_true q606
      go_wp2_with (first | ((with_reducible refine gate_dst (N := 10) rfl ?_); (try (refine gate_guard (by rfl) ?_; dsimp only)); refine box_event ?hg (N := 10) ?hd (cs := #[.string (⟨#[]⟩ : ByteArray), .string (⟨#[]⟩ : ByteArray), .int .i64 0, .string (⟨#[]⟩ : ByteArray), .int .i64 0, .bool false, .int .i64 0, .int .i64 0, .int .i64 0, .string (⟨#[]⟩ : ByteArray)]) (t := 38) ?hr ?_; (case hd => rfl); (case hg => rfl); (case hr => first | (go_simp; done) | (go_simp; rfl)); intro gb607 hg w25 hbox hb; replace HO_6 := Aside0.mk (Kd.R_below (Kd.R_elderB (krW HO_6) gb607 (Nat.le_of_eq hg.symm)) hb); replace HO_8 := Aside0.mk (Kd.R_below (Kd.R_elderB (krW HO_8) gb607 (Nat.le_of_eq hg.symm)) hb); replace HO_29 := Aside0.mk (Kd.R_below (Kd.R_elderB (krW HO_29) gb607 (Nat.le_of_eq hg.symm)) hb); have BK607 := Aside0.mk (hbox); have GW607 := Aside0.mk ((by rw [hg]; exact (bZ_ (kwW HB)) : w.heap.size ≤ gb607)); replace HB := Aside0.mk (below_step (kwW HB) hb); have GE607 := GW607; clear hb hbox hg; obtain ⟨_, _, _, _, _, _, _, _, _, _, _, _, _, _, _, _, _, _, _, _⟩ := czf10 BK607) | ((with_reducible refine gate_callee (f := 16) rfl ?_); refine goesL_ (some 39) rfl rfl Try.func16 (by kernel_rfl) rfl #[.string ((rd_T38 t603 x31_2).f0.f1), .int .i64 a1] rfl (by (try simp only [mT_, mC_, mN_]); first | done | rfl) ?_; (with_reducible refine (tree_Bucket.calls ((rd_T38 t603 x31_2).f0.f1) a1 t608 _ A23.out).mono ?_); rintro e w27 ⟨rfl, hb⟩; refine ⟨_, rfl, ?_⟩; replace HO_6 := Aside0.mk (Kd.R_below (by (with_reducible repeat (first | apply Kd.R_alloc | apply Kd.R_drewN | apply Kd.R_drew)); exact (Kd.R_mono (rf10 (Kd.R_mono HO_6.out (fun k_ hk => (⟨hk, hk.2⟩ : _ ∧ k_ ≠ gb607))) (fun _ hk => hk.2)) (fun _ h_ => h_.1))) hb); replace HO_8 := Aside0.mk (Kd.R_below (by (with_reducible repeat (first | apply Kd.R_alloc | apply Kd.R_drewN | apply Kd.R_drew)); exact (Kd.R_mono (rf10 (Kd.R_mono HO_8.out (fun k_ hk => (⟨hk, hk.2⟩ : _ ∧ k_ ≠ gb607))) (fun _ hk => hk.2)) (fun _ h_ => h_.1))) hb); replace HO_29 := Aside0.mk (Kd.R_below (by (with_reducible repeat (first | apply Kd.R_alloc | apply Kd.R_drewN | apply Kd.R_drew)); exact (Kd.R_mono (rf10 (Kd.R_mono HO_29.out (fun k_ hk => (⟨hk, hk.2⟩ : _ ∧ k_ ≠ gb607))) (fun _ hk => hk.2)) (fun _ h_ => h_.1))) hb); replace BK607 := Aside0.mk (blk_below (g := gb607) (o := .cells #[.string ((rd_T38 t603 x31_2).f0.f0), .string ((rd_T38 t603 x31_2).f0.f1), .int .i64 ((rd_T38 t603 x31_2).f0.f2), .string ((rd_T38 t603 x31_2).f0.f3), .int .i64 ((rd_T38 t603 x31_2).f1.f0), .bool ((rd_T38 t603 x31_2).f1.f1), .int .i64 ((rd_T38 t603 x31_2).f1.f2), .int .i64 ((rd_T38 t603 x31_2).f1.f3.f0), .int .i64 ((rd_T38 t603 x31_2).f1.f3.f1), .string ((rd_T38 t603 x31_2).f1.f3.f2)] 38 (0, 0)) (by (with_reducible repeat (first | refine blk_drewN ?_ _ | refine blk_drew ?_ | refine blk_alloc ?_ _)); exact bp10 (kbW BK607)) hb); replace HB := Aside0.mk (below_step (by repeat (first | (with_reducible first | exact HB.out | apply bA_ | apply bN_ | apply bD_ | refine bS_ ?_ GE607) | exact HB.out)) hb); (try clear hb); (try clear hb2); (try clear hk); (try clear hi)))
      go_roundg k2
      case measure => have := HK1.out; have := HK2.out; omega
      case rel => exact ⟨(wrap64 (x31_2 + 1)), (by first | rfl | (simp; done) | (simp [bne, *]; done)), H', ⟨by have := HK1.out; have := HK2.out; omega⟩, ⟨by (with_reducible repeat (first | apply Kd.R_alloc | apply Kd.R_drewN | apply Kd.R_drew)); exact Kd.R_mono HO_6.out (fun _ hk => ⟨hk.1.1, hk.1.2⟩)⟩, ⟨by (with_reducible repeat (first | apply Kd.R_alloc | apply Kd.R_drewN | apply Kd.R_drew)); exact Kd.R_mono HO_8.out (fun _ hk => hk.1)⟩, ⟨by (with_reducible repeat (first | apply Kd.R_alloc | apply Kd.R_drewN | apply Kd.R_drew)); exact Kd.R_mono HO_29.out (fun _ hk => hk.1)⟩, ⟨by repeat (first | (with_reducible first | exact HB.out | apply bA_ | apply bN_ | apply bD_ | refine bS_ ?_ GE607) | exact HB.out)⟩⟩
end Go.Proofs.Ytafhnjlihhfoaaa.Q
