/- Lemmas for this claim's walk: no condition of their own. -/
import Derived.Test.YtafhnjlihhfoaaaUdSq
import Derived.Test.YtafhnjlihhfoaaaUdQx0
import Derived.Test.YtafhnjlihhfoaaaUdQx15
import Derived.Test.YtafhnjlihhfoaaaUdJ18
import Derived.Test.YtafhnjlihhfoaaaUdQx17
import Derived.Test.YtafhnjlihhfoaaaUdQx28
import Derived.Test.YtafhnjlihhfoaaaUdQx29
import Derived.Test.YtafhnjlihhfoaaaUdQx53
namespace Go.Proofs.Ytafhnjlihhfoaaa.Q
open Go.RowKit Go.Proofs.YtafhnjlihhfoaaaW.PrintWords Go.Proofs.YtafhnjlihhfoaaaW.PrintLast Go.Proofs.YtafhnjlihhfoaaaW.PrintMore
attribute [local go_sem] max2_int min2_int max_two min_two max_three min_three max_four min_four
set_option linter.unusedVariables false
set_option linter.unusedSimpArgs false
def skerrylaw22_TreeOrder.l0 : Nat → Int → List (S38) → List (S38) → List (S38) → Int → Int → Option (Bool)
 | 0, _, _, _, _, _, _ => none
 | k + 1, x1, x5, x6, x15, x16, x17 => if x17 < x16 then (if 0 ≤ x17 then (if x17 < (x15.length : Int) then ((cell_Good.f ((rd_T38 x15 x17).f0.f0) ((rd_T38 x15 x17).f0.f1) ((rd_T38 x15 x17).f0.f2) ((rd_T38 x15 x17).f0.f3) ((rd_T38 x15 x17).f1.f0) ((rd_T38 x15 x17).f1.f1) ((rd_T38 x15 x17).f1.f2) ((rd_T38 x15 x17).f1.f3.f0) ((rd_T38 x15 x17).f1.f3.f1) ((rd_T38 x15 x17).f1.f3.f2)).bind fun t636 => (if t636 = true then (if x5.length < 1256584717458 then ((some (([(⟨(⟨(rd_T38 x15 x17).f0.f0, (rd_T38 x15 x17).f0.f1, (rd_T38 x15 x17).f0.f2, (rd_T38 x15 x17).f0.f3⟩ : S32), (⟨(rd_T38 x15 x17).f1.f0, (rd_T38 x15 x17).f1.f1, (rd_T38 x15 x17).f1.f2, (⟨(rd_T38 x15 x17).f1.f3.f0, (rd_T38 x15 x17).f1.f3.f1, (rd_T38 x15 x17).f1.f3.f2⟩ : S34)⟩ : S36)⟩ : S38), (⟨(⟨(rd_T38 x15 x17).f0.f0, (rd_T38 x15 x17).f0.f1, (rd_T38 x15 x17).f0.f2, (rd_T38 x15 x17).f0.f3⟩ : S32), (⟨(rd_T38 x15 x17).f1.f0, (rd_T38 x15 x17).f1.f1, (rd_T38 x15 x17).f1.f2, (⟨(rd_T38 x15 x17).f1.f3.f0, (rd_T38 x15 x17).f1.f3.f1, (rd_T38 x15 x17).f1.f3.f2⟩ : S34)⟩ : S36)⟩ : S38)] : List (S38)) : List (S38))).bind fun y640 => (if y640.length + x6.length < 1256584717458 then (skerrylaw22_TreeOrder.l0 k x1 (x5 ++ [(⟨(⟨(rd_T38 x15 x17).f0.f0, (rd_T38 x15 x17).f0.f1, (rd_T38 x15 x17).f0.f2, (rd_T38 x15 x17).f0.f3⟩ : S32), (⟨(rd_T38 x15 x17).f1.f0, (rd_T38 x15 x17).f1.f1, (rd_T38 x15 x17).f1.f2, (⟨(rd_T38 x15 x17).f1.f3.f0, (rd_T38 x15 x17).f1.f3.f1, (rd_T38 x15 x17).f1.f3.f2⟩ : S34)⟩ : S36)⟩ : S38)]) (y640 ++ x6) x15 x16 (wrap64 (x17 + 1))) else (none))) else (none)) else (skerrylaw22_TreeOrder.l0 k x1 x5 x6 x15 x16 (wrap64 (x17 + 1))))) else (none)) else (none)) else ((tree_Leaves.f k x5 x1).bind fun t646 => ((tree_Leaves.f k x6 x1).bind fun t649 => ((skerryref01_Words.f k t646 t649).bind fun t652 => (if t652 = true then ((tree_Build.f t646).bind fun t653 => ((tree_Build.f t649).bind fun t656 => ((tree_Diff.f t653 t656).bind fun t659 => (if (t659.length : Int) = 0 then ((tree_Build.f t646).bind fun t662 => (if (t662.length : Int) = (wrap64 (2 * (t646.length : Int))) then ((skerrylaw22_lives.f k).bind fun t665 => (some t665)) else (none))) else (none))))) else (none)))))
def skerrylaw22_TreeOrder.f (k : Nat) (l0 : List (S38)) (a1 : Int) : Option (Bool) := (skerrylaw22_weigh.f k l0 60).bind fun t632 => (if t632 > 60 then ((skerrylaw22_lives.f k).bind fun t633 => (some t633)) else (skerrylaw22_TreeOrder.l0 k a1 ([] : List (S38)) ([] : List (S38)) l0 (l0.length : Int) 0))
set_option maxHeartbeats 8000000 in
set_option maxRecDepth 100000 in
theorem skerrylaw22_TreeOrder.calls (k : Nat) (A0 : Option Addr) (c0 : Nat) (l0 : List (S38)) (a1 : Int) (r : Bool) (w : World) (hr0 : Kd.C k38 w A0 l0.length l0) (hc0 : l0.length ≤ c0) (h : skerrylaw22_TreeOrder.f k l0 a1 = some r) :
  Calls Try.prog 7 #[.slice A0 l0.length c0, .int .i64 a1] w fun e w' => e = .returned (.bool r) ∧ Below w.heap.size w w' := by
 have hu38 := Try.underlying38
 have HR0 := Aside0.mk hr0
 have HC0 := Aside0.mk hc0
 clear hr0 hc0
 have HB := Aside0.mk (Below.refl w.heap.size w)
 have H : ((skerrylaw22_weigh.f k l0 60).bind fun t632 => (if t632 > 60 then ((skerrylaw22_lives.f k).bind fun t633 => (some t633)) else (skerrylaw22_TreeOrder.l0 k a1 ([] : List (S38)) ([] : List (S38)) l0 (l0.length : Int) 0))) = some r := h
 clear h
 replace H := Option.bind_eq_some_iff.mp H
 obtain ⟨t632, A30, H⟩ := H
 have A3 := Aside0.mk A30
 clear A30
 by_cases c4 : t632 > 60
 ·
  rw [if_pos c4] at H
  have c4b0 : decide (60 < t632) = true := decide_eq_true c4
  clear c4
  replace H := Option.bind_eq_some_iff.mp H
  obtain ⟨t633, A50, H⟩ := H
  have A5 := Aside0.mk A50
  clear A50
  obtain rfl := Option.some.inj H
  go_enter Try.func7, Try.ntmps7
  go_wp2_with (first | ((with_reducible refine gate_callee (f := 15) rfl ?_); refine goesL_ (some 12) rfl rfl Try.func15 (by kernel_rfl) rfl #[.slice A0 l0.length c0, .int .i64 60] rfl (by (try simp only [mT_, mC_, mN_]); first | done | rfl) ?_; (with_reducible refine (skerrylaw22_weigh.calls k _ _ l0 60 t632 _ ?side1 ?side2 A3.out).mono ?_); (case side1 => repeat (first | exact HR0.out | (with_reducible refine Kd.C_alloc ?_ _) | (with_reducible refine Kd.C_drewN ?_ _) | (with_reducible refine Kd.C_drew ?_))); (case side2 => exact HC0.out); rintro e w6 ⟨rfl, hb⟩; refine ⟨_, rfl, ?_⟩; replace HB := Aside0.mk (below_step (kwW HB) hb); (try clear hb); (try clear hb2); (try clear hk); (try clear hi)) | ((with_reducible refine gate_callee (f := 8) rfl ?_); refine goesL_ (some 14) rfl rfl Try.func8 (by kernel_rfl) rfl #[] rfl (by (try simp only [mT_, mC_, mN_]); first | done | rfl) ?_; (with_reducible refine (skerrylaw22_lives.calls k  t633 _ A5.out).mono ?_); rintro e w7 ⟨rfl, hb⟩; refine ⟨_, rfl, ?_⟩; replace HB := Aside0.mk (below_step (kwW HB) hb); (try clear hb); (try clear hb2); (try clear hk); (try clear hi)))
  go_ret
  exact ⟨by first | rfl | (simp <;> rfl) | (simp [*] <;> rfl), kwW HB⟩
 ·
  rw [if_neg c4] at H
  have c4b0 : decide (60 < t632) = false := decide_eq_false c4
  clear c4
  have H' := Aside0.mk H
  clear H
  go_enter Try.func7, Try.ntmps7
  go_wp2_with (first | ((with_reducible refine gate_callee (f := 15) rfl ?_); refine goesL_ (some 12) rfl rfl Try.func15 (by kernel_rfl) rfl #[.slice A0 l0.length c0, .int .i64 60] rfl (by (try simp only [mT_, mC_, mN_]); first | done | rfl) ?_; (with_reducible refine (skerrylaw22_weigh.calls k _ _ l0 60 t632 _ ?side1 ?side2 A3.out).mono ?_); (case side1 => repeat (first | exact HR0.out | (with_reducible refine Kd.C_alloc ?_ _) | (with_reducible refine Kd.C_drewN ?_ _) | (with_reducible refine Kd.C_drew ?_))); (case side2 => exact HC0.out); rintro e w8 ⟨rfl, hb⟩; refine ⟨_, rfl, ?_⟩; replace HB := Aside0.mk (below_step (kwW HB) hb); (try clear hb); (try clear hb2); (try clear hk); (try clear hi)))
  go_loopg [5, 6, 17] k (fun kq v5 v6 v17 w' => ∃ (x5_1 : List (S38)) (x6_1 : List (S38)) (x17_1 : Int), v17 = .int .i64 x17_1 ∧ Aside0 (skerrylaw22_TreeOrder.l0 kq a1 x5_1 x6_1 l0 (l0.length : Int) x17_1 = some r) ∧ Aside0 (kq ≤ k) ∧ Aside0 (Kd.R k38 38 w' w.heap.size (fun k_ => some k_ ≠ (v6 : Value).ownBlock) v5 x5_1) ∧ Aside0 (Kd.R k38 38 w' w.heap.size (fun k_ => some k_ ≠ (v5 : Value).ownBlock) v6 x6_1) ∧ Aside0 (Below w.heap.size w w'))
  case atStart => exact ⟨(([] : List (S38))), (([] : List (S38))), (0), (by first | rfl | (simp; done) | (simp [bne, *]; done)), H', ⟨Nat.le_refl _⟩, ⟨by first | exact Kd.R_nil _ _ _ _ _ | exact Kd.N_nil _ _ _ _ _ | exact Kd.V_nil _ _ _ _ _ | exact Kd.Q_nil _ _ _ _ _ | exact Kd.S_nil _ _ _ _ _⟩, ⟨by first | exact Kd.R_nil _ _ _ _ _ | exact Kd.N_nil _ _ _ _ _ | exact Kd.V_nil _ _ _ _ _ | exact Kd.Q_nil _ _ _ _ _ | exact Kd.S_nil _ _ _ _ _⟩, ⟨kwW HB⟩⟩
  case round =>
   clear H'
   try clear c1
   try clear p2
   try clear c4
   try clear c4b0
   try clear c7
   try clear c8
   obtain ⟨x5_1, x6_1, x17_1, rfl, HA, HK1, HO_5, HO_6, HB⟩ := hrel
   cases gk with
   | zero => exact absurd HA.out (by simp [skerrylaw22_TreeOrder.l0])
   | succ k1 =>
    have H := HA.out
    clear HA
    simp only [skerrylaw22_TreeOrder.l0] at H
    by_cases c9 : x17_1 < (l0.length : Int)
    rotate_left
    ·
     rw [if_neg c9] at H
     have c9b0 : decide (x17_1 < (l0.length : Int)) = false := decide_eq_false c9
     clear c9
     replace H := Option.bind_eq_some_iff.mp H
     obtain ⟨t646, A290, H⟩ := H
     have A29 := Aside0.mk A290
     clear A290
     replace H := Option.bind_eq_some_iff.mp H
     obtain ⟨t649, A300, H⟩ := H
     have A30 := Aside0.mk A300
     clear A300
     replace H := Option.bind_eq_some_iff.mp H
     obtain ⟨t652, A310, H⟩ := H
     have A31 := Aside0.mk A310
     clear A310
     by_cases c32 : t652 = true
     rotate_left
     ·
      replace c32 := Bool.eq_false_iff.mpr c32
      subst c32
      have H1 : (none) = some r := by rw [if_neg (show ¬ (false = true) by decide)] at H; exact H
      clear H
      have H := H1
      clear H1
      exact absurd H (by simp)
     subst c32
     have H1 : ((tree_Build.f t646).bind fun t653 => ((tree_Build.f t649).bind fun t656 => ((tree_Diff.f t653 t656).bind fun t659 => (if (t659.length : Int) = 0 then ((tree_Build.f t646).bind fun t662 => (if (t662.length : Int) = (wrap64 (2 * (t646.length : Int))) then ((skerrylaw22_lives.f k1).bind fun t665 => (some t665)) else (none))) else (none))))) = some r := by rw [if_pos rfl] at H; exact H
     clear H
     have H := H1
     clear H1
     replace H := Option.bind_eq_some_iff.mp H
     obtain ⟨t653, A330, H⟩ := H
     have A33 := Aside0.mk A330
     clear A330
     replace H := Option.bind_eq_some_iff.mp H
     obtain ⟨t656, A340, H⟩ := H
     have A34 := Aside0.mk A340
     clear A340
     replace H := Option.bind_eq_some_iff.mp H
     obtain ⟨t659, A350, H⟩ := H
     have A35 := Aside0.mk A350
     clear A350
     by_cases c36 : (t659.length : Int) = 0
     rotate_left
     ·
      rw [if_neg c36] at H
      exact absurd H (by simp)
     rw [if_pos c36] at H
     have c36b0 : ((t659.length : Int) == 0) = true := beq_iff_eq.mpr c36
     have c36b1 : ((t659.length : Int) != 0) = false := bne_eq_false_iff_eq.mpr c36
     clear c36
     replace H := Option.bind_eq_some_iff.mp H
     obtain ⟨t662, A370, H⟩ := H
     have A37 := Aside0.mk A370
     clear A370
     by_cases c38 : (t662.length : Int) = (wrap64 (2 * (t646.length : Int)))
     rotate_left
     ·
      rw [if_neg c38] at H
      exact absurd H (by simp)
     rw [if_pos c38] at H
     have c38b0 : ((t662.length : Int) == (wrap64 (2 * (t646.length : Int)))) = true := beq_iff_eq.mpr c38
     have c38b1 : ((t662.length : Int) != (wrap64 (2 * (t646.length : Int)))) = false := bne_eq_false_iff_eq.mpr c38
     clear c38
     replace H := Option.bind_eq_some_iff.mp H
     obtain ⟨t665, A390, H⟩ := H
     have A39 := Aside0.mk A390
     clear A390
     obtain rfl := Option.some.inj H
     obtain ⟨Ao40, co40, eo40⟩ := Kd.R_slice HO_5.out
     subst eo40
     have tokB_ : True := trivial
     go_wp2_with (first | ((with_reducible refine gate_callee (f := 18) rfl ?_); refine goesL_ (some 35) rfl rfl Try.func18 (by kernel_rfl) rfl #[.slice Ao40 x5_1.length co40, .int .i64 a1] rfl (by (try simp only [mT_, mC_, mN_]); first | done | rfl) ?_; (with_reducible refine (tree_Leaves.calls k1 _ _ x5_1 a1 t646 _ ?side1 ?side2 A29.out).mono ?_); (case side1 => repeat (first | exact (Kd.R_reads' HO_5.out).2.2 | (with_reducible refine Kd.C_alloc ?_ _) | (with_reducible refine Kd.C_drewN ?_ _) | (with_reducible refine Kd.C_drew ?_))); (case side2 => exact (Kd.R_reads' HO_5.out).2.1); rintro e w41 ⟨v647, rfl, ho0, hb⟩; refine ⟨_, rfl, ?_⟩; replace HO_5 := kR HO_5 hb; replace HO_6 := kR HO_6 hb; have HO648 := Aside0.mk (Kd.R_lower ho0 (bZ_ (kwW HB))); replace HB := Aside0.mk (below_step (kwW HB) hb); (try clear hb); (try clear hb2); (try clear hk); (try clear hi); (try clear ho0); obtain ⟨Ao42, co42, eo42⟩ := Kd.R_slice HO_6.out; subst eo42) | ((with_reducible refine gate_callee (f := 18) rfl ?_); refine goesL_ (some 38) rfl rfl Try.func18 (by kernel_rfl) rfl #[.slice Ao42 x6_1.length co42, .int .i64 a1] rfl (by (try simp only [mT_, mC_, mN_]); first | done | rfl) ?_; (with_reducible refine (tree_Leaves.calls k1 _ _ x6_1 a1 t649 _ ?side1 ?side2 A30.out).mono ?_); (case side1 => repeat (first | exact (Kd.R_reads' HO_6.out).2.2 | (with_reducible refine Kd.C_alloc ?_ _) | (with_reducible refine Kd.C_drewN ?_ _) | (with_reducible refine Kd.C_drew ?_))); (case side2 => exact (Kd.R_reads' HO_6.out).2.1); rintro e w43 ⟨v650, rfl, ho0, hb⟩; refine ⟨_, rfl, ?_⟩; replace HO_5 := kR HO_5 hb; replace HO_6 := kR HO_6 hb; have HO651 := Aside0.mk (Kd.R_lower (Kd.R_new' ho0 (Kd.R_lt (krW HO648))) (bZ_ (kwW HB))); replace HO648 := Aside0.mk (Kd.R_elder' (krW HO648) (Kd.R_base ho0) hb); replace HB := Aside0.mk (below_step (kwW HB) hb); (try clear hb); (try clear hb2); (try clear hk); (try clear hi); (try clear ho0); obtain ⟨Ao44, co44, eo44⟩ := Kd.R_slice HO648.out; subst eo44; obtain ⟨Ao45, co45, eo45⟩ := Kd.R_slice HO651.out; subst eo45) | ((with_reducible refine gate_callee (f := 10) rfl ?_); refine goesL_ (some 41) rfl rfl Try.func10 (by kernel_rfl) rfl #[.slice Ao44 t646.length co44, .slice Ao45 t649.length co45] rfl (by (try simp only [mT_, mC_, mN_]); first | done | rfl) ?_; (with_reducible refine (skerryref01_Words.calls k1 _ _ t646 _ _ t649 true _ ?side1 ?side2 ?side3 ?side4 A31.out).mono ?_); (case side1 => repeat (first | exact (Kd.R_reads' HO648.out).2.2 | (with_reducible refine Kd.C_alloc ?_ _) | (with_reducible refine Kd.C_drewN ?_ _) | (with_reducible refine Kd.C_drew ?_))); (case side2 => exact (Kd.R_reads' HO648.out).2.1); (case side3 => repeat (first | exact (Kd.R_reads' HO651.out).2.2 | (with_reducible refine Kd.C_alloc ?_ _) | (with_reducible refine Kd.C_drewN ?_ _) | (with_reducible refine Kd.C_drew ?_))); (case side4 => exact (Kd.R_reads' HO651.out).2.1); rintro e w' ⟨rfl, ⟨nd, rfl⟩⟩; refine ⟨_, rfl, ?_⟩) | (go_at_call 9; (with_reducible refine (tree_Build.calls _ _ t646 t653 _ ?side1 ?side2 A33.out).mono ?_); (case side1 => repeat (first | exact (Kd.R_reads' HO648.out).2.2 | (with_reducible refine Kd.C_alloc ?_ _) | (with_reducible refine Kd.C_drewN ?_ _) | (with_reducible refine Kd.C_drew ?_))); (case side2 => exact (Kd.R_reads' HO648.out).2.1); rintro e w46 ⟨v654, rfl, ho0, hb⟩; have tokC_ := tokB_; clear tokC_ tokB_; replace HO_5 := kR HO_5 hb; replace HO_6 := kR HO_6 hb; have HO655 := Aside0.mk (Kd.R_lower (Kd.R_new' (Kd.R_new' ho0 (Kd.R_lt (krW HO648))) (Kd.R_lt (krW HO651))) (bZ_ (kwW HB))); replace HO648 := Aside0.mk (Kd.R_elder' (krW HO648) (Kd.R_base ho0) hb); replace HO651 := Aside0.mk (Kd.R_elder' (krW HO651) (Kd.R_base ho0) hb); replace HB := Aside0.mk (below_step (kwW HB) hb); (try clear hb); (try clear hb2); (try clear hk); (try clear hi); (try clear ho0)) | (go_at_call 9; (with_reducible refine (tree_Build.calls _ _ t649 t656 _ ?side1 ?side2 A34.out).mono ?_); (case side1 => repeat (first | exact (Kd.R_reads' HO651.out).2.2 | (with_reducible refine Kd.C_alloc ?_ _) | (with_reducible refine Kd.C_drewN ?_ _) | (with_reducible refine Kd.C_drew ?_))); (case side2 => exact (Kd.R_reads' HO651.out).2.1); rintro e w47 ⟨v657, rfl, ho0, hb⟩; replace HO_5 := kR HO_5 hb; replace HO_6 := kR HO_6 hb; have HO658 := Aside0.mk (Kd.R_lower (Kd.R_new' (Kd.R_new' (Kd.R_new' ho0 (Kd.R_lt (krW HO648))) (Kd.R_lt (krW HO651))) (Kd.R_lt (krW HO655))) (bZ_ (kwW HB))); replace HO648 := Aside0.mk (Kd.R_elder' (krW HO648) (Kd.R_base ho0) hb); replace HO651 := Aside0.mk (Kd.R_elder' (krW HO651) (Kd.R_base ho0) hb); replace HO655 := Aside0.mk (Kd.R_elder' (krW HO655) (Kd.R_base ho0) hb); replace HB := Aside0.mk (below_step (kwW HB) hb); (try clear hb); (try clear hb2); (try clear hk); (try clear hi); (try clear ho0); obtain ⟨Ao48, co48, eo48⟩ := Kd.R_slice HO655.out; subst eo48; obtain ⟨Ao49, co49, eo49⟩ := Kd.R_slice HO658.out; subst eo49) | (go_at_call 13; (with_reducible refine (tree_Diff.calls _ _ t653 _ _ t656 t659 _ ?side1 ?side2 ?side3 ?side4 A35.out).mono ?_); (case side1 => repeat (first | exact (Kd.R_reads' HO655.out).2.2 | (with_reducible refine Kd.C_alloc ?_ _) | (with_reducible refine Kd.C_drewN ?_ _) | (with_reducible refine Kd.C_drew ?_))); (case side2 => exact (Kd.R_reads' HO655.out).2.1); (case side3 => repeat (first | exact (Kd.R_reads' HO658.out).2.2 | (with_reducible refine Kd.C_alloc ?_ _) | (with_reducible refine Kd.C_drewN ?_ _) | (with_reducible refine Kd.C_drew ?_))); (case side4 => exact (Kd.R_reads' HO658.out).2.1); rintro e w50 ⟨v660, rfl, ho0, hb⟩; replace HO_5 := kR HO_5 hb; replace HO_6 := kR HO_6 hb; replace HO648 := kR HO648 hb; replace HO651 := kR HO651 hb; replace HO655 := kR HO655 hb; replace HO658 := kR HO658 hb; have HO661 := Aside0.mk (Kd.R_lower ho0 (bZ_ (kwW HB))); replace HB := Aside0.mk (below_step (kwW HB) hb); (try clear hb); (try clear hb2); (try clear hk); (try clear hi); (try clear ho0); obtain ⟨Ao51, co51, eo51⟩ := Kd.R_slice HO661.out; subst eo51) | (go_at_call 9; (with_reducible refine (tree_Build.calls _ _ t646 t662 _ ?side1 ?side2 A37.out).mono ?_); (case side1 => repeat (first | exact (Kd.R_reads' HO648.out).2.2 | (with_reducible refine Kd.C_alloc ?_ _) | (with_reducible refine Kd.C_drewN ?_ _) | (with_reducible refine Kd.C_drew ?_))); (case side2 => exact (Kd.R_reads' HO648.out).2.1); rintro e w52 ⟨v663, rfl, ho0, hb⟩; replace HO_5 := kR HO_5 hb; replace HO_6 := kR HO_6 hb; replace HO661 := kR HO661 hb; have HO664 := Aside0.mk (Kd.R_lower (Kd.R_new' (Kd.R_new' (Kd.R_new' (Kd.R_new' ho0 (Kd.R_lt (krW HO648))) (Kd.R_lt (krW HO651))) (Kd.R_lt (krW HO655))) (Kd.R_lt (krW HO658))) (bZ_ (kwW HB))); replace HO648 := Aside0.mk (Kd.R_elder' (krW HO648) (Kd.R_base ho0) hb); replace HO651 := Aside0.mk (Kd.R_elder' (krW HO651) (Kd.R_base ho0) hb); replace HO655 := Aside0.mk (Kd.R_elder' (krW HO655) (Kd.R_base ho0) hb); replace HO658 := Aside0.mk (Kd.R_elder' (krW HO658) (Kd.R_base ho0) hb); replace HB := Aside0.mk (below_step (kwW HB) hb); (try clear hb); (try clear hb2); (try clear hk); (try clear hi); (try clear ho0); obtain ⟨Ao53, co53, eo53⟩ := Kd.R_slice HO664.out; subst eo53) | (go_at_call 8; (with_reducible refine (skerrylaw22_lives.calls k1  t665 _ A39.out).mono ?_); rintro e w54 ⟨rfl, hb⟩; replace HO_5 := kR HO_5 hb; replace HO_6 := kR HO_6 hb; replace HO648 := kR HO648 hb; replace HO651 := kR HO651 hb; replace HO655 := kR HO655 hb; replace HO658 := kR HO658 hb; replace HO661 := kR HO661 hb; replace HO664 := kR HO664 hb; replace HB := Aside0.mk (below_step (kwW HB) hb); (try clear hb); (try clear hb2); (try clear hk); (try clear hi)))
     go_ret
     exact ⟨by first | rfl | (simp <;> rfl) | (simp [*] <;> rfl), kwW HB⟩
    rw [if_pos c9] at H
    have c9b0 : decide (x17_1 < (l0.length : Int)) = true := decide_eq_true c9
    clear c9
    by_cases c10 : 0 ≤ x17_1
    rotate_left
    ·
     rw [if_neg c10] at H
     exact absurd H (by simp)
    rw [if_pos c10] at H
    have c10b0 : decide (0 ≤ x17_1) = true := decide_eq_true c10
    clear c10
    by_cases c11 : x17_1 < (l0.length : Int)
    rotate_left
    ·
     rw [if_neg c11] at H
     exact absurd H (by simp)
    rw [if_pos c11] at H
    have c11b0 : decide (x17_1 < (l0.length : Int)) = true := decide_eq_true c11
    clear c11
    replace H := Option.bind_eq_some_iff.mp H
    obtain ⟨t636, A120, H⟩ := H
    have A12 := Aside0.mk A120
    clear A120
    by_cases c13 : t636 = true
    rotate_left
    ·
     replace c13 := Bool.eq_false_iff.mpr c13
     subst c13
     have H1 : (skerrylaw22_TreeOrder.l0 k1 a1 x5_1 x6_1 l0 (l0.length : Int) (wrap64 (x17_1 + 1))) = some r := by rw [if_neg (show ¬ (false = true) by decide)] at H; exact H
     clear H
     have H := H1
     clear H1
     have H' := Aside0.mk H
     clear H
     have p634 : 0 ≤ (x17_1 : Int) := of_decide_eq_true (by first | (with_reducible assumption) | assumption)
     have q634 : x17_1 < (l0.length : Int) := of_decide_eq_true (by first | (with_reducible assumption) | assumption)
     obtain ⟨ad634, e634, hx634_0, hx634_1, hx634_2, hx634_3, hx634_4, hx634_5, hx634_6, hx634_7, hx634_8, hx634_9⟩ := at_T38 HR0.out x17_1 p634 q634
     cases e634
     replace hx634_0 := cB_ HB hx634_0
     replace hx634_1 := cB_ HB hx634_1
     replace hx634_2 := cB_ HB hx634_2
     replace hx634_3 := cB_ HB hx634_3
     replace hx634_4 := cB_ HB hx634_4
     replace hx634_5 := cB_ HB hx634_5
     replace hx634_6 := cB_ HB hx634_6
     replace hx634_7 := cB_ HB hx634_7
     replace hx634_8 := cB_ HB hx634_8
     replace hx634_9 := cB_ HB hx634_9
     replace p634 := eq_true p634
     replace q634 := eq_true q634
     go_wp2_with (first | ((with_reducible refine gate_dst (N := 8) rfl ?_); (try (refine gate_guard (by rfl) ?_; dsimp only)); refine box_event ?hg (N := 8) ?hd (cs := #[.string (⟨#[]⟩ : ByteArray), .string (⟨#[]⟩ : ByteArray), .int .i64 0, .string (⟨#[]⟩ : ByteArray), .int .i64 0, .bool false, .int .i64 0, .int .i64 0, .int .i64 0, .string (⟨#[]⟩ : ByteArray)]) (t := 38) ?hr ?_; (case hd => rfl); (case hg => rfl); (case hr => first | (go_simp; done) | (go_simp; rfl)); intro gb635 hg w26 hbox hb; replace HO_5 := Aside0.mk (Kd.R_below (Kd.R_elderB (krW HO_5) gb635 (Nat.le_of_eq hg.symm)) hb); replace HO_6 := Aside0.mk (Kd.R_below (Kd.R_elderB (krW HO_6) gb635 (Nat.le_of_eq hg.symm)) hb); have BK635 := Aside0.mk (hbox); have GW635 := Aside0.mk ((by rw [hg]; exact (bZ_ (kwW HB)) : w.heap.size ≤ gb635)); replace HB := Aside0.mk (below_step (kwW HB) hb); have GE635 := GW635; clear hb hbox hg; obtain ⟨_, _, _, _, _, _, _, _, _, _, _, _, _, _, _, _, _, _, _, _⟩ := czf10 BK635) | ((with_reducible refine gate_callee (f := 27) rfl ?_); refine goesL_ (some 22) rfl rfl Try.func27 (by kernel_rfl) rfl #[.agg #[.string ((rd_T38 l0 x17_1).f0.f0), .string ((rd_T38 l0 x17_1).f0.f1), .int .i64 ((rd_T38 l0 x17_1).f0.f2), .string ((rd_T38 l0 x17_1).f0.f3), .int .i64 ((rd_T38 l0 x17_1).f1.f0), .bool ((rd_T38 l0 x17_1).f1.f1), .int .i64 ((rd_T38 l0 x17_1).f1.f2), .int .i64 ((rd_T38 l0 x17_1).f1.f3.f0), .int .i64 ((rd_T38 l0 x17_1).f1.f3.f1), .string ((rd_T38 l0 x17_1).f1.f3.f2)]] rfl (by (try simp only [mT_, mC_, mN_]); first | done | rfl) ?_; (with_reducible refine (cell_Good.calls ((rd_T38 l0 x17_1).f0.f0) ((rd_T38 l0 x17_1).f0.f1) ((rd_T38 l0 x17_1).f0.f2) ((rd_T38 l0 x17_1).f0.f3) ((rd_T38 l0 x17_1).f1.f0) ((rd_T38 l0 x17_1).f1.f1) ((rd_T38 l0 x17_1).f1.f2) ((rd_T38 l0 x17_1).f1.f3.f0) ((rd_T38 l0 x17_1).f1.f3.f1) ((rd_T38 l0 x17_1).f1.f3.f2) false _ A12.out).mono ?_); rintro e w28 ⟨rfl, hb⟩; refine ⟨_, rfl, ?_⟩; replace HO_5 := Aside0.mk (Kd.R_below (by (with_reducible repeat (first | apply Kd.R_alloc | apply Kd.R_drewN | apply Kd.R_drew)); exact (Kd.R_mono (rf10 (Kd.R_mono HO_5.out (fun k_ hk => (⟨hk, hk.2⟩ : _ ∧ k_ ≠ gb635))) (fun _ hk => hk.2)) (fun _ h_ => h_.1))) hb); replace HO_6 := Aside0.mk (Kd.R_below (by (with_reducible repeat (first | apply Kd.R_alloc | apply Kd.R_drewN | apply Kd.R_drew)); exact (Kd.R_mono (rf10 (Kd.R_mono HO_6.out (fun k_ hk => (⟨hk, hk.2⟩ : _ ∧ k_ ≠ gb635))) (fun _ hk => hk.2)) (fun _ h_ => h_.1))) hb); replace BK635 := Aside0.mk (blk_below (g := gb635) (o := .cells #[.string ((rd_T38 l0 x17_1).f0.f0), .string ((rd_T38 l0 x17_1).f0.f1), .int .i64 ((rd_T38 l0 x17_1).f0.f2), .string ((rd_T38 l0 x17_1).f0.f3), .int .i64 ((rd_T38 l0 x17_1).f1.f0), .bool ((rd_T38 l0 x17_1).f1.f1), .int .i64 ((rd_T38 l0 x17_1).f1.f2), .int .i64 ((rd_T38 l0 x17_1).f1.f3.f0), .int .i64 ((rd_T38 l0 x17_1).f1.f3.f1), .string ((rd_T38 l0 x17_1).f1.f3.f2)] 38 (0, 0)) (by (with_reducible repeat (first | refine blk_drewN ?_ _ | refine blk_drew ?_ | refine blk_alloc ?_ _)); exact bp10 (kbW BK635)) hb); replace HB := Aside0.mk (below_step (by repeat (first | (with_reducible first | exact HB.out | apply bA_ | apply bN_ | apply bD_ | refine bS_ ?_ GE635) | exact HB.out)) hb); (try clear hb); (try clear hb2); (try clear hk); (try clear hi)))
     go_roundg k1
     case measure => have := HK1.out; omega
     case rel => exact ⟨(x5_1), (x6_1), (wrap64 (x17_1 + 1)), (by first | rfl | (simp; done) | (simp [bne, *]; done)), H', ⟨by have := HK1.out; omega⟩, ⟨by (with_reducible repeat (first | apply Kd.R_alloc | apply Kd.R_drewN | apply Kd.R_drew)); exact Kd.R_mono HO_5.out (fun _ hk => hk.1)⟩, ⟨by (with_reducible repeat (first | apply Kd.R_alloc | apply Kd.R_drewN | apply Kd.R_drew)); exact Kd.R_mono HO_6.out (fun _ hk => hk.1)⟩, ⟨by repeat (first | (with_reducible first | exact HB.out | apply bA_ | apply bN_ | apply bD_ | refine bS_ ?_ GE635) | exact HB.out)⟩⟩
    subst c13
    have H1 : (if x5_1.length < 1256584717458 then ((some (([(⟨(⟨(rd_T38 l0 x17_1).f0.f0, (rd_T38 l0 x17_1).f0.f1, (rd_T38 l0 x17_1).f0.f2, (rd_T38 l0 x17_1).f0.f3⟩ : S32), (⟨(rd_T38 l0 x17_1).f1.f0, (rd_T38 l0 x17_1).f1.f1, (rd_T38 l0 x17_1).f1.f2, (⟨(rd_T38 l0 x17_1).f1.f3.f0, (rd_T38 l0 x17_1).f1.f3.f1, (rd_T38 l0 x17_1).f1.f3.f2⟩ : S34)⟩ : S36)⟩ : S38), (⟨(⟨(rd_T38 l0 x17_1).f0.f0, (rd_T38 l0 x17_1).f0.f1, (rd_T38 l0 x17_1).f0.f2, (rd_T38 l0 x17_1).f0.f3⟩ : S32), (⟨(rd_T38 l0 x17_1).f1.f0, (rd_T38 l0 x17_1).f1.f1, (rd_T38 l0 x17_1).f1.f2, (⟨(rd_T38 l0 x17_1).f1.f3.f0, (rd_T38 l0 x17_1).f1.f3.f1, (rd_T38 l0 x17_1).f1.f3.f2⟩ : S34)⟩ : S36)⟩ : S38)] : List (S38)) : List (S38))).bind fun y640 => (if y640.length + x6_1.length < 1256584717458 then (skerrylaw22_TreeOrder.l0 k1 a1 (x5_1 ++ [(⟨(⟨(rd_T38 l0 x17_1).f0.f0, (rd_T38 l0 x17_1).f0.f1, (rd_T38 l0 x17_1).f0.f2, (rd_T38 l0 x17_1).f0.f3⟩ : S32), (⟨(rd_T38 l0 x17_1).f1.f0, (rd_T38 l0 x17_1).f1.f1, (rd_T38 l0 x17_1).f1.f2, (⟨(rd_T38 l0 x17_1).f1.f3.f0, (rd_T38 l0 x17_1).f1.f3.f1, (rd_T38 l0 x17_1).f1.f3.f2⟩ : S34)⟩ : S36)⟩ : S38)]) (y640 ++ x6_1) l0 (l0.length : Int) (wrap64 (x17_1 + 1))) else (none))) else (none)) = some r := by rw [if_pos rfl] at H; exact H
    clear H
    have H := H1
    clear H1
    by_cases c14 : x5_1.length < 1256584717458
    rotate_left
    ·
     rw [if_neg c14] at H
     exact absurd H (by simp)
    rw [if_pos c14] at H
    have LMc14 := Aside0.mk c14
    clear c14
    obtain ⟨y637, hy637⟩ : ∃ y_ : List (S38), y_ = (x5_1 ++ [(⟨(⟨(rd_T38 l0 x17_1).f0.f0, (rd_T38 l0 x17_1).f0.f1, (rd_T38 l0 x17_1).f0.f2, (rd_T38 l0 x17_1).f0.f3⟩ : S32), (⟨(rd_T38 l0 x17_1).f1.f0, (rd_T38 l0 x17_1).f1.f1, (rd_T38 l0 x17_1).f1.f2, (⟨(rd_T38 l0 x17_1).f1.f3.f0, (rd_T38 l0 x17_1).f1.f3.f1, (rd_T38 l0 x17_1).f1.f3.f2⟩ : S34)⟩ : S36)⟩ : S38)]) := ⟨_, rfl⟩
    replace H : ((some (([(⟨(⟨(rd_T38 l0 x17_1).f0.f0, (rd_T38 l0 x17_1).f0.f1, (rd_T38 l0 x17_1).f0.f2, (rd_T38 l0 x17_1).f0.f3⟩ : S32), (⟨(rd_T38 l0 x17_1).f1.f0, (rd_T38 l0 x17_1).f1.f1, (rd_T38 l0 x17_1).f1.f2, (⟨(rd_T38 l0 x17_1).f1.f3.f0, (rd_T38 l0 x17_1).f1.f3.f1, (rd_T38 l0 x17_1).f1.f3.f2⟩ : S34)⟩ : S36)⟩ : S38), (⟨(⟨(rd_T38 l0 x17_1).f0.f0, (rd_T38 l0 x17_1).f0.f1, (rd_T38 l0 x17_1).f0.f2, (rd_T38 l0 x17_1).f0.f3⟩ : S32), (⟨(rd_T38 l0 x17_1).f1.f0, (rd_T38 l0 x17_1).f1.f1, (rd_T38 l0 x17_1).f1.f2, (⟨(rd_T38 l0 x17_1).f1.f3.f0, (rd_T38 l0 x17_1).f1.f3.f1, (rd_T38 l0 x17_1).f1.f3.f2⟩ : S34)⟩ : S36)⟩ : S38)] : List (S38)) : List (S38))).bind fun y640 => (if y640.length + x6_1.length < 1256584717458 then (skerrylaw22_TreeOrder.l0 k1 a1 y637 (y640 ++ x6_1) l0 (l0.length : Int) (wrap64 (x17_1 + 1))) else (none))) = some r := by first | (rw [hy637]; with_reducible exact H) | (have H2_ := (Option.bind_some _ _).symm.trans H; rw [hy637]; with_reducible exact H2_) | (have H2_ := (Option.bind_some _ _).symm.trans H; with_reducible exact H2_) | with_reducible exact H | (rw [hy637]; exact H) | exact H
    have Ny637 := Aside0.mk hy637
    clear hy637
    obtain ⟨y640, hy640⟩ : ∃ y_ : List (S38), y_ = (([(⟨(⟨(rd_T38 l0 x17_1).f0.f0, (rd_T38 l0 x17_1).f0.f1, (rd_T38 l0 x17_1).f0.f2, (rd_T38 l0 x17_1).f0.f3⟩ : S32), (⟨(rd_T38 l0 x17_1).f1.f0, (rd_T38 l0 x17_1).f1.f1, (rd_T38 l0 x17_1).f1.f2, (⟨(rd_T38 l0 x17_1).f1.f3.f0, (rd_T38 l0 x17_1).f1.f3.f1, (rd_T38 l0 x17_1).f1.f3.f2⟩ : S34)⟩ : S36)⟩ : S38), (⟨(⟨(rd_T38 l0 x17_1).f0.f0, (rd_T38 l0 x17_1).f0.f1, (rd_T38 l0 x17_1).f0.f2, (rd_T38 l0 x17_1).f0.f3⟩ : S32), (⟨(rd_T38 l0 x17_1).f1.f0, (rd_T38 l0 x17_1).f1.f1, (rd_T38 l0 x17_1).f1.f2, (⟨(rd_T38 l0 x17_1).f1.f3.f0, (rd_T38 l0 x17_1).f1.f3.f1, (rd_T38 l0 x17_1).f1.f3.f2⟩ : S34)⟩ : S36)⟩ : S38)] : List (S38))) := ⟨_, rfl⟩
    replace H : (if y640.length + x6_1.length < 1256584717458 then (skerrylaw22_TreeOrder.l0 k1 a1 y637 (y640 ++ x6_1) l0 (l0.length : Int) (wrap64 (x17_1 + 1))) else (none)) = some r := by first | (rw [hy640]; with_reducible exact H) | (have H2_ := (Option.bind_some _ _).symm.trans H; rw [hy640]; with_reducible exact H2_) | (have H2_ := (Option.bind_some _ _).symm.trans H; with_reducible exact H2_) | with_reducible exact H | (rw [hy640]; exact H) | exact H
    have Ny640 := Aside0.mk hy640
    clear hy640
    by_cases c15 : y640.length + x6_1.length < 1256584717458
    rotate_left
    ·
     rw [if_neg c15] at H
     exact absurd H (by simp)
    rw [if_pos c15] at H
    have LMc15 := Aside0.mk c15
    clear c15
    obtain ⟨y643, hy643⟩ : ∃ y_ : List (S38), y_ = (y640 ++ x6_1) := ⟨_, rfl⟩
    replace H : (skerrylaw22_TreeOrder.l0 k1 a1 y637 y643 l0 (l0.length : Int) (wrap64 (x17_1 + 1))) = some r := by first | (rw [hy643]; with_reducible exact H) | (have H2_ := (Option.bind_some _ _).symm.trans H; rw [hy643]; with_reducible exact H2_) | (have H2_ := (Option.bind_some _ _).symm.trans H; with_reducible exact H2_) | with_reducible exact H | (rw [hy643]; exact H) | exact H
    have Ny643 := Aside0.mk hy643
    clear hy643
    have H' := Aside0.mk H
    clear H
    have p634 : 0 ≤ (x17_1 : Int) := of_decide_eq_true (by first | (with_reducible assumption) | assumption)
    have q634 : x17_1 < (l0.length : Int) := of_decide_eq_true (by first | (with_reducible assumption) | assumption)
    obtain ⟨ad634, e634, hx634_0, hx634_1, hx634_2, hx634_3, hx634_4, hx634_5, hx634_6, hx634_7, hx634_8, hx634_9⟩ := at_T38 HR0.out x17_1 p634 q634
    cases e634
    replace hx634_0 := cB_ HB hx634_0
    replace hx634_1 := cB_ HB hx634_1
    replace hx634_2 := cB_ HB hx634_2
    replace hx634_3 := cB_ HB hx634_3
    replace hx634_4 := cB_ HB hx634_4
    replace hx634_5 := cB_ HB hx634_5
    replace hx634_6 := cB_ HB hx634_6
    replace hx634_7 := cB_ HB hx634_7
    replace hx634_8 := cB_ HB hx634_8
    replace hx634_9 := cB_ HB hx634_9
    replace p634 := eq_true p634
    replace q634 := eq_true q634
    go_wp2_with (first | ((with_reducible refine gate_dst (N := 8) rfl ?_); (try (refine gate_guard (by rfl) ?_; dsimp only)); refine box_event ?hg (N := 8) ?hd (cs := #[.string (⟨#[]⟩ : ByteArray), .string (⟨#[]⟩ : ByteArray), .int .i64 0, .string (⟨#[]⟩ : ByteArray), .int .i64 0, .bool false, .int .i64 0, .int .i64 0, .int .i64 0, .string (⟨#[]⟩ : ByteArray)]) (t := 38) ?hr ?_; (case hd => rfl); (case hg => rfl); (case hr => first | (go_simp; done) | (go_simp; rfl)); intro gb635 hg w16 hbox hb; replace HO_5 := Aside0.mk (Kd.R_below (Kd.R_elderB (krW HO_5) gb635 (Nat.le_of_eq hg.symm)) hb); replace HO_6 := Aside0.mk (Kd.R_below (Kd.R_elderB (krW HO_6) gb635 (Nat.le_of_eq hg.symm)) hb); have BK635 := Aside0.mk (hbox); have GW635 := Aside0.mk ((by rw [hg]; exact (bZ_ (kwW HB)) : w.heap.size ≤ gb635)); replace HB := Aside0.mk (below_step (kwW HB) hb); have GE635 := GW635; clear hb hbox hg; obtain ⟨_, _, _, _, _, _, _, _, _, _, _, _, _, _, _, _, _, _, _, _⟩ := czf10 BK635) | ((with_reducible refine gate_callee (f := 27) rfl ?_); refine goesL_ (some 22) rfl rfl Try.func27 (by kernel_rfl) rfl #[.agg #[.string ((rd_T38 l0 x17_1).f0.f0), .string ((rd_T38 l0 x17_1).f0.f1), .int .i64 ((rd_T38 l0 x17_1).f0.f2), .string ((rd_T38 l0 x17_1).f0.f3), .int .i64 ((rd_T38 l0 x17_1).f1.f0), .bool ((rd_T38 l0 x17_1).f1.f1), .int .i64 ((rd_T38 l0 x17_1).f1.f2), .int .i64 ((rd_T38 l0 x17_1).f1.f3.f0), .int .i64 ((rd_T38 l0 x17_1).f1.f3.f1), .string ((rd_T38 l0 x17_1).f1.f3.f2)]] rfl (by (try simp only [mT_, mC_, mN_]); first | done | rfl) ?_; (with_reducible refine (cell_Good.calls ((rd_T38 l0 x17_1).f0.f0) ((rd_T38 l0 x17_1).f0.f1) ((rd_T38 l0 x17_1).f0.f2) ((rd_T38 l0 x17_1).f0.f3) ((rd_T38 l0 x17_1).f1.f0) ((rd_T38 l0 x17_1).f1.f1) ((rd_T38 l0 x17_1).f1.f2) ((rd_T38 l0 x17_1).f1.f3.f0) ((rd_T38 l0 x17_1).f1.f3.f1) ((rd_T38 l0 x17_1).f1.f3.f2) true _ A12.out).mono ?_); rintro e w18 ⟨rfl, hb⟩; refine ⟨_, rfl, ?_⟩; replace HO_5 := Aside0.mk (Kd.R_below (by (with_reducible repeat (first | apply Kd.R_alloc | apply Kd.R_drewN | apply Kd.R_drew)); exact (Kd.R_mono (rf10 (Kd.R_mono HO_5.out (fun k_ hk => (⟨hk, hk.2⟩ : _ ∧ k_ ≠ gb635))) (fun _ hk => hk.2)) (fun _ h_ => h_.1))) hb); replace HO_6 := Aside0.mk (Kd.R_below (by (with_reducible repeat (first | apply Kd.R_alloc | apply Kd.R_drewN | apply Kd.R_drew)); exact (Kd.R_mono (rf10 (Kd.R_mono HO_6.out (fun k_ hk => (⟨hk, hk.2⟩ : _ ∧ k_ ≠ gb635))) (fun _ hk => hk.2)) (fun _ h_ => h_.1))) hb); replace BK635 := Aside0.mk (blk_below (g := gb635) (o := .cells #[.string ((rd_T38 l0 x17_1).f0.f0), .string ((rd_T38 l0 x17_1).f0.f1), .int .i64 ((rd_T38 l0 x17_1).f0.f2), .string ((rd_T38 l0 x17_1).f0.f3), .int .i64 ((rd_T38 l0 x17_1).f1.f0), .bool ((rd_T38 l0 x17_1).f1.f1), .int .i64 ((rd_T38 l0 x17_1).f1.f2), .int .i64 ((rd_T38 l0 x17_1).f1.f3.f0), .int .i64 ((rd_T38 l0 x17_1).f1.f3.f1), .string ((rd_T38 l0 x17_1).f1.f3.f2)] 38 (0, 0)) (by (with_reducible repeat (first | refine blk_drewN ?_ _ | refine blk_drew ?_ | refine blk_alloc ?_ _)); exact bp10 (kbW BK635)) hb); replace HB := Aside0.mk (below_step (by repeat (first | (with_reducible first | exact HB.out | apply bA_ | apply bN_ | apply bD_ | refine bS_ ?_ GE635) | exact HB.out)) hb); (try clear hb); (try clear hb2); (try clear hk); (try clear hi); obtain ⟨_, _, _, _, _, _, _, _, _, _, _, _, _, _, _, _, _, _, _, _⟩ := czf10 BK635) | ((with_reducible refine gate_builtin (b := .append) (xs := #[.tmp 23, .tmp 25]) rfl ?_); (try (refine gate_guard (by rfl) ?_; dsimp only)); at_builtin; refine Kd.R_append k38 (w0 := w) w.heap.size rfl (.tmp 23) (.tmp 25) 29 38 (.agg #[(.string ⟨#[]⟩), (.string ⟨#[]⟩), (.int .i64 0), (.string ⟨#[]⟩), (.int .i64 0), (.bool false), (.int .i64 0), (.int .i64 0), (.int .i64 0), (.string ⟨#[]⟩)]) 112 rfl Try.underlying29 info38 rfl (by decide) (by omega) u5 x5_1 (⟨(⟨(rd_T38 l0 x17_1).f0.f0, (rd_T38 l0 x17_1).f0.f1, (rd_T38 l0 x17_1).f0.f2, (rd_T38 l0 x17_1).f0.f3⟩ : S32), (⟨(rd_T38 l0 x17_1).f1.f0, (rd_T38 l0 x17_1).f1.f1, (rd_T38 l0 x17_1).f1.f2, (⟨(rd_T38 l0 x17_1).f1.f3.f0, (rd_T38 l0 x17_1).f1.f3.f1, (rd_T38 l0 x17_1).f1.f3.f2⟩ : S34)⟩ : S36)⟩ : S38) [.string ((rd_T38 l0 x17_1).f0.f0), .string ((rd_T38 l0 x17_1).f0.f1), .int .i64 ((rd_T38 l0 x17_1).f0.f2), .string ((rd_T38 l0 x17_1).f0.f3), .int .i64 ((rd_T38 l0 x17_1).f1.f0), .bool ((rd_T38 l0 x17_1).f1.f1), .int .i64 ((rd_T38 l0 x17_1).f1.f2), .int .i64 ((rd_T38 l0 x17_1).f1.f3.f0), .int .i64 ((rd_T38 l0 x17_1).f1.f3.f1), .string ((rd_T38 l0 x17_1).f1.f3.f2)] (fun k_ => some k_ ≠ (u6 : Value).ownBlock ∧ k_ ≠ gb635) (fun _ => False) rfl rfl ?aP (fun _ hk => hk.elim) ?aF ?aO ?aB ?aS ?aL ?_; (case aP => exact k38_mkM _ _ _ (⟨(⟨(rd_T38 l0 x17_1).f0.f0, (rd_T38 l0 x17_1).f0.f1, (rd_T38 l0 x17_1).f0.f2, (rd_T38 l0 x17_1).f0.f3⟩ : S32), (⟨(rd_T38 l0 x17_1).f1.f0, (rd_T38 l0 x17_1).f1.f1, (rd_T38 l0 x17_1).f1.f2, (⟨(rd_T38 l0 x17_1).f1.f3.f0, (rd_T38 l0 x17_1).f1.f3.f1, (rd_T38 l0 x17_1).f1.f3.f2⟩ : S34)⟩ : S36)⟩ : S38)); (case aB => exact (by repeat (first | (with_reducible first | exact HB.out | apply bA_ | apply bN_ | apply bD_ | refine bS_ ?_ GE635) | exact HB.out))); (case aF => exact (fun k_ hk => ⟨Kd.fresh' (Kd.R_lt (krW HO_6)) k_ hk, Kd.freshB (kbW BK635) k_ hk⟩)); (case aO => exact (krW HO_5)); (case aS => exact (bZ_ (by repeat (first | (with_reducible first | exact HB.out | apply bA_ | apply bN_ | apply bD_ | refine bS_ ?_ GE635) | exact HB.out)))); (case aL => have := LMc14.out; omega); intro v638 w20 ho hb hg hat; rw [← Ny637.out] at ho; replace HO_6 := Aside0.mk (Kd.R_after (ok := (fun k_ => k_ ≠ gb635)) (by (with_reducible repeat (first | apply Kd.R_alloc | apply Kd.R_drewN | apply Kd.R_drew)); exact Kd.R_mono HO_6.out (fun _ hk => ⟨hk.2, hk.1⟩)) hg hat); replace BK635 := Aside0.mk (blk_grown (kbW BK635) hg (Kd.R_away HO_5.out (fun _ hk => hk.2))); replace HB := Aside0.mk (hb); have HO639 := Aside0.mk (ho); clear HO_5; clear ho hb hg hat; obtain ⟨_, _, _, _, _, _, _, _, _, _, _, _, _, _, _, _, _, _, _, _⟩ := czf10 BK635) | ((with_reducible refine gate_dst (N := 29) rfl ?_); (try (refine gate_guard (by rfl) ?_; dsimp only)); refine Kd.R_lit k38 _ 38 ?hg (N := 29) ?hd (xs := ([(⟨(⟨(rd_T38 l0 x17_1).f0.f0, (rd_T38 l0 x17_1).f0.f1, (rd_T38 l0 x17_1).f0.f2, (rd_T38 l0 x17_1).f0.f3⟩ : S32), (⟨(rd_T38 l0 x17_1).f1.f0, (rd_T38 l0 x17_1).f1.f1, (rd_T38 l0 x17_1).f1.f2, (⟨(rd_T38 l0 x17_1).f1.f3.f0, (rd_T38 l0 x17_1).f1.f3.f1, (rd_T38 l0 x17_1).f1.f3.f2⟩ : S34)⟩ : S36)⟩ : S38), (⟨(⟨(rd_T38 l0 x17_1).f0.f0, (rd_T38 l0 x17_1).f0.f1, (rd_T38 l0 x17_1).f0.f2, (rd_T38 l0 x17_1).f0.f3⟩ : S32), (⟨(rd_T38 l0 x17_1).f1.f0, (rd_T38 l0 x17_1).f1.f1, (rd_T38 l0 x17_1).f1.f2, (⟨(rd_T38 l0 x17_1).f1.f3.f0, (rd_T38 l0 x17_1).f1.f3.f1, (rd_T38 l0 x17_1).f1.f3.f2⟩ : S34)⟩ : S36)⟩ : S38)] : List (S38))) (inner := [.string ((rd_T38 l0 x17_1).f0.f0), .string ((rd_T38 l0 x17_1).f0.f1), .int .i64 ((rd_T38 l0 x17_1).f0.f2), .string ((rd_T38 l0 x17_1).f0.f3), .int .i64 ((rd_T38 l0 x17_1).f1.f0), .bool ((rd_T38 l0 x17_1).f1.f1), .int .i64 ((rd_T38 l0 x17_1).f1.f2), .int .i64 ((rd_T38 l0 x17_1).f1.f3.f0), .int .i64 ((rd_T38 l0 x17_1).f1.f3.f1), .string ((rd_T38 l0 x17_1).f1.f3.f2), .string ((rd_T38 l0 x17_1).f0.f0), .string ((rd_T38 l0 x17_1).f0.f1), .int .i64 ((rd_T38 l0 x17_1).f0.f2), .string ((rd_T38 l0 x17_1).f0.f3), .int .i64 ((rd_T38 l0 x17_1).f1.f0), .bool ((rd_T38 l0 x17_1).f1.f1), .int .i64 ((rd_T38 l0 x17_1).f1.f2), .int .i64 ((rd_T38 l0 x17_1).f1.f3.f0), .int .i64 ((rd_T38 l0 x17_1).f1.f3.f1), .string ((rd_T38 l0 x17_1).f1.f3.f2)]) (ok := fun _ => True) (okp := fun _ => True) ?hr ?hp (fun _ hk => hk) trivial (Below.refl _ _) (Nat.le_refl _) (by simp) ?_; (case hd => rfl); (case hg => rfl); (case hr => first | (go_simp; done) | (go_simp; rfl)); (case hp => exact (Reps.c10 (show Kd.M k38 _ _ _ (⟨(⟨(rd_T38 l0 x17_1).f0.f0, (rd_T38 l0 x17_1).f0.f1, (rd_T38 l0 x17_1).f0.f2, (rd_T38 l0 x17_1).f0.f3⟩ : S32), (⟨(rd_T38 l0 x17_1).f1.f0, (rd_T38 l0 x17_1).f1.f1, (rd_T38 l0 x17_1).f1.f2, (⟨(rd_T38 l0 x17_1).f1.f3.f0, (rd_T38 l0 x17_1).f1.f3.f1, (rd_T38 l0 x17_1).f1.f3.f2⟩ : S34)⟩ : S36)⟩ : S38) [.string ((rd_T38 l0 x17_1).f0.f0), .string ((rd_T38 l0 x17_1).f0.f1), .int .i64 ((rd_T38 l0 x17_1).f0.f2), .string ((rd_T38 l0 x17_1).f0.f3), .int .i64 ((rd_T38 l0 x17_1).f1.f0), .bool ((rd_T38 l0 x17_1).f1.f1), .int .i64 ((rd_T38 l0 x17_1).f1.f2), .int .i64 ((rd_T38 l0 x17_1).f1.f3.f0), .int .i64 ((rd_T38 l0 x17_1).f1.f3.f1), .string ((rd_T38 l0 x17_1).f1.f3.f2)] from (k38_mkM _ _ _ (⟨(⟨(rd_T38 l0 x17_1).f0.f0, (rd_T38 l0 x17_1).f0.f1, (rd_T38 l0 x17_1).f0.f2, (rd_T38 l0 x17_1).f0.f3⟩ : S32), (⟨(rd_T38 l0 x17_1).f1.f0, (rd_T38 l0 x17_1).f1.f1, (rd_T38 l0 x17_1).f1.f2, (⟨(rd_T38 l0 x17_1).f1.f3.f0, (rd_T38 l0 x17_1).f1.f3.f1, (rd_T38 l0 x17_1).f1.f3.f2⟩ : S34)⟩ : S36)⟩ : S38) )) (Reps.c10 (show Kd.M k38 _ _ _ (⟨(⟨(rd_T38 l0 x17_1).f0.f0, (rd_T38 l0 x17_1).f0.f1, (rd_T38 l0 x17_1).f0.f2, (rd_T38 l0 x17_1).f0.f3⟩ : S32), (⟨(rd_T38 l0 x17_1).f1.f0, (rd_T38 l0 x17_1).f1.f1, (rd_T38 l0 x17_1).f1.f2, (⟨(rd_T38 l0 x17_1).f1.f3.f0, (rd_T38 l0 x17_1).f1.f3.f1, (rd_T38 l0 x17_1).f1.f3.f2⟩ : S34)⟩ : S36)⟩ : S38) [.string ((rd_T38 l0 x17_1).f0.f0), .string ((rd_T38 l0 x17_1).f0.f1), .int .i64 ((rd_T38 l0 x17_1).f0.f2), .string ((rd_T38 l0 x17_1).f0.f3), .int .i64 ((rd_T38 l0 x17_1).f1.f0), .bool ((rd_T38 l0 x17_1).f1.f1), .int .i64 ((rd_T38 l0 x17_1).f1.f2), .int .i64 ((rd_T38 l0 x17_1).f1.f3.f0), .int .i64 ((rd_T38 l0 x17_1).f1.f3.f1), .string ((rd_T38 l0 x17_1).f1.f3.f2)] from (k38_mkM _ _ _ (⟨(⟨(rd_T38 l0 x17_1).f0.f0, (rd_T38 l0 x17_1).f0.f1, (rd_T38 l0 x17_1).f0.f2, (rd_T38 l0 x17_1).f0.f3⟩ : S32), (⟨(rd_T38 l0 x17_1).f1.f0, (rd_T38 l0 x17_1).f1.f1, (rd_T38 l0 x17_1).f1.f2, (⟨(rd_T38 l0 x17_1).f1.f3.f0, (rd_T38 l0 x17_1).f1.f3.f1, (rd_T38 l0 x17_1).f1.f3.f2⟩ : S34)⟩ : S36)⟩ : S38) )) (Reps.none _ _)))); intro v641 w22 ho23 hb hg_ hnew_; clear hg_ hnew_; (first | rw [← Ny640.out] at ho23 | (simp only [Int.reduceToNat] at ho23; rw [← Ny640.out] at ho23)); have HO642 := Aside0.mk (Kd.R_lower (Kd.R_newB (Kd.R_new' (Kd.R_new' ho23 (Kd.R_lt (krW HO_6))) (Kd.R_lt (krW HO639))) (g := gb635) (o := .cells #[.string ((rd_T38 l0 x17_1).f0.f0), .string ((rd_T38 l0 x17_1).f0.f1), .int .i64 ((rd_T38 l0 x17_1).f0.f2), .string ((rd_T38 l0 x17_1).f0.f3), .int .i64 ((rd_T38 l0 x17_1).f1.f0), .bool ((rd_T38 l0 x17_1).f1.f1), .int .i64 ((rd_T38 l0 x17_1).f1.f2), .int .i64 ((rd_T38 l0 x17_1).f1.f3.f0), .int .i64 ((rd_T38 l0 x17_1).f1.f3.f1), .string ((rd_T38 l0 x17_1).f1.f3.f2)] 38 (0, 0)) (kbW BK635)) (bZ_ (by repeat (first | (with_reducible first | exact HB.out | apply bA_ | apply bN_ | apply bD_ | refine bS_ ?_ GE635) | exact HB.out)))); replace HO_6 := Aside0.mk (Kd.R_elder' (krW HO_6) (Kd.R_base ho23) hb); replace HO639 := Aside0.mk (Kd.R_elder' (krW HO639) (Kd.R_base ho23) hb); replace BK635 := kB BK635 hb; replace HB := Aside0.mk (below_step (by repeat (first | (with_reducible first | exact HB.out | apply bA_ | apply bN_ | apply bD_ | refine bS_ ?_ GE635) | exact HB.out)) hb); clear hb ho23; obtain ⟨Ao25, co25, eo25⟩ := Kd.R_slice HO_6.out; subst eo25) | ((with_reducible refine gate_builtin (b := .append) (xs := #[.tmp 29, .tmp 30]) rfl ?_); (try (refine gate_guard (by rfl) ?_; dsimp only)); at_builtin; refine Kd.R_append_rows k38 (w0 := w) w.heap.size rfl (.tmp 29) (.tmp 30) 29 38 (.agg #[(.string ⟨#[]⟩), (.string ⟨#[]⟩), (.int .i64 0), (.string ⟨#[]⟩), (.int .i64 0), (.bool false), (.int .i64 0), (.int .i64 0), (.int .i64 0), (.string ⟨#[]⟩)]) 112 rfl Try.underlying29 info38 rfl (by decide) (by omega) v641 y640 x6_1 _ _ _ (fun k_ => some k_ ≠ (.slice Ao25 x6_1.length co25 : Value).ownBlock ∧ some k_ ≠ (v638 : Value).ownBlock ∧ k_ ≠ gb635) (fun _ => False) rfl rfl ?aO ?aR (fun _ _ h => h) (fun _ h => h.elim) ?aF ?aB ?aS ?aL ?_; (case aR => repeat (first | exact (Kd.R_reads' HO_6.out).2.2 | (with_reducible refine Kd.C_alloc ?_ _) | (with_reducible refine Kd.C_drewN ?_ _) | (with_reducible refine Kd.C_drew ?_))); (case aB => exact (by repeat (first | (with_reducible first | exact HB.out | apply bA_ | apply bN_ | apply bD_ | refine bS_ ?_ GE635) | exact HB.out))); (case aF => exact (fun k_ hk => ⟨Kd.fresh' (Kd.R_lt (krW HO_6)) k_ hk, Kd.fresh' (Kd.R_lt (krW HO639)) k_ hk, Kd.freshB (kbW BK635) k_ hk⟩)); (case aO => exact (by (with_reducible repeat (first | apply Kd.R_alloc | apply Kd.R_drewN | apply Kd.R_drew)); exact Kd.R_mono HO642.out (fun _ hk => ⟨hk.1.1.2, ⟨hk.1.2, hk.2⟩⟩))); (case aS => exact (bZ_ (by repeat (first | (with_reducible first | exact HB.out | apply bA_ | apply bN_ | apply bD_ | refine bS_ ?_ GE635) | exact HB.out)))); (case aL => have := LMc15.out; omega); intro v644 w24 ho hb hg hat; rw [← Ny643.out] at ho; replace HO_6 := Aside0.mk (Kd.R_after (ok := (fun k_ => some k_ ≠ (v638 : Value).ownBlock ∧ k_ ≠ gb635)) (by (with_reducible repeat (first | apply Kd.R_alloc | apply Kd.R_drewN | apply Kd.R_drew)); exact Kd.R_mono HO_6.out (fun _ hk => ⟨⟨hk.1.2, hk.1.1⟩, hk.2⟩)) hg hat); replace BK635 := Aside0.mk (blk_grown (kbW BK635) hg (Kd.R_away HO642.out (fun _ hk => hk.2))); replace HO639 := Aside0.mk (Kd.R_after (ok := (fun k_ => some k_ ≠ (.slice Ao25 x6_1.length co25 : Value).ownBlock ∧ k_ ≠ gb635)) (krW HO639) hg hat); replace HB := Aside0.mk (hb); have HO645 := Aside0.mk (ho); clear HO642; clear ho hb hg hat))
    go_roundg k1
    case measure => have := HK1.out; omega
    case rel => exact ⟨(y637), (y643), (wrap64 (x17_1 + 1)), (by first | rfl | (simp; done) | (simp [bne, *]; done)), H', ⟨by have := HK1.out; omega⟩, ⟨by (with_reducible repeat (first | apply Kd.R_alloc | apply Kd.R_drewN | apply Kd.R_drew)); exact Kd.R_mono HO639.out (fun _ hk => hk.2)⟩, ⟨by (with_reducible repeat (first | apply Kd.R_alloc | apply Kd.R_drewN | apply Kd.R_drew)); exact Kd.R_mono HO645.out (fun _ hk => hk.2.1)⟩, ⟨by repeat (first | (with_reducible first | exact HB.out | apply bA_ | apply bN_ | apply bD_ | refine bS_ ?_ GE635) | exact HB.out)⟩⟩
end Go.Proofs.Ytafhnjlihhfoaaa.Q
