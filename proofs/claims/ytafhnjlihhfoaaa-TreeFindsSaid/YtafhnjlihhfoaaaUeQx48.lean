/- Lemmas for this claim's walk: no condition of their own. -/
import Derived.Test.YtafhnjlihhfoaaaUeJ13
import Derived.Test.YtafhnjlihhfoaaaUeQx0
import Derived.Test.YtafhnjlihhfoaaaUeQx13
import Derived.Test.YtafhnjlihhfoaaaUeQx15
import Derived.Test.YtafhnjlihhfoaaaUeQx24
import Derived.Test.YtafhnjlihhfoaaaUeQx26
import Derived.Test.YtafhnjlihhfoaaaUeQx27
import Derived.Test.YtafhnjlihhfoaaaUeJ15
import Derived.Test.YtafhnjlihhfoaaaUeJ41
import Derived.Test.YtafhnjlihhfoaaaUeQx47
namespace Go.Proofs.Ytafhnjlihhfoaaa.Q
open Go.RowKit Go.Proofs.YtafhnjlihhfoaaaW.PrintWords Go.Proofs.YtafhnjlihhfoaaaW.PrintLast Go.Proofs.YtafhnjlihhfoaaaW.PrintMore
attribute [local go_sem] max2_int min2_int max_two min_two max_three min_three max_four min_four
set_option linter.unusedVariables false
set_option linter.unusedSimpArgs false
mutual
def skerrylaw22_TreeFinds.j0 : Nat → List (S38) → List (S38) → Int → Bool → Option (Bool)
 | 0, _, _, _, _ => none
 | k + 1, x0, x1, x2, x28 => if x28 = true then ((skerrylaw22_lives.f k).bind fun t484 => (some t484)) else ((tree_Leaves.f k x0 x2).bind fun t485 => ((tree_Build.f t485).bind fun t488 => ((tree_Leaves.f k x1 x2).bind fun t491 => ((tree_Build.f t491).bind fun t494 => ((tree_Diff.f t488 t494).bind fun t497 => ((tree_Leaves.f k x0 x2).bind fun t500 => (skerrylaw22_TreeFinds.l0 k x0 x1 x2 t497 (t500.length : Int) 0)))))))
def skerrylaw22_TreeFinds.l0 : Nat → List (S38) → List (S38) → Int → List Int → Int → Int → Option (Bool)
 | 0, _, _, _, _, _, _ => none
 | k + 1, x0, x1, x2, x7, x42, x43 => if x43 < x42 then ((tree_Pick.f k x0 x2 (([x43] : List Int))).bind fun t506 => ((tree_Pick.f k x1 x2 (([x43] : List Int))).bind fun t512 => ((skerryref01_Like.f k t506 t512).bind fun t515 => (skerrylaw22_TreeFinds.l1 k x0 x1 x2 x7 x43 t515 false x42 x43 x7 (x7.length : Int) 0)))) else ((some (([] : List (S38)) : List (S38))).bind fun y517 => (if y517.length + x0.length < 1256584717458 then ((some (y517 ++ x0 : List (S38))).bind fun y520 => ((tree_Pick.f k x1 x2 x7).bind fun t523 => (if y520.length + t523.length < 1256584717458 then ((cell_Norm.f k (y520 ++ t523)).bind fun t529 => ((some (([] : List (S38)) : List (S38))).bind fun y532 => (if y532.length + x0.length < 1256584717458 then ((some (y532 ++ x0 : List (S38))).bind fun y535 => (if y535.length + x1.length < 1256584717458 then ((cell_Norm.f k (y535 ++ x1)).bind fun t541 => ((skerryref01_Like.f k t529 t541).bind fun t544 => (if t544 = true then ((skerrylaw22_lives.f k).bind fun t545 => (some t545)) else (none)))) else (none))) else (none)))) else (none)))) else (none)))
def skerrylaw22_TreeFinds.l1 : Nat → List (S38) → List (S38) → Int → List Int → Int → Bool → Bool → Int → Int → List Int → Int → Int → Option (Bool)
 | 0, _, _, _, _, _, _, _, _, _, _, _, _ => none
 | k + 1, x0, x1, x2, x7, x8, x9, x10, x42, x43, x57, x58, x59 => if x59 < x58 then (if 0 ≤ x59 then (if x59 < (x57.length : Int) then (if x10 = true then (skerrylaw22_TreeFinds.l1 k x0 x1 x2 x7 x8 x9 true x42 x43 x57 x58 (wrap64 (x59 + 1))) else (skerrylaw22_TreeFinds.l1 k x0 x1 x2 x7 x8 x9 ((rd x57 x59) == x8) x42 x43 x57 x58 (wrap64 (x59 + 1)))) else (none)) else (none)) else (if (x10 == x9) = true then (none) else (skerrylaw22_TreeFinds.l0 k x0 x1 x2 x7 x42 (wrap64 (x43 + 1))))
end
def skerrylaw22_TreeFinds.f (k : Nat) (l0 : List (S38)) (l1 : List (S38)) (a2 : Int) : Option (Bool) := (skerrylaw22_weigh.f k l0 60).bind fun t481 => (if t481 > 60 then (skerrylaw22_TreeFinds.j0 k l0 l1 a2 true) else ((skerrylaw22_weigh.f k l1 60).bind fun t482 => (if t482 > 60 then (skerrylaw22_TreeFinds.j0 k l0 l1 a2 true) else ((skerrylaw22_clash.f k l0 l1 a2).bind fun t483 => (skerrylaw22_TreeFinds.j0 k l0 l1 a2 t483)))))
set_option maxHeartbeats 8000000 in
set_option maxRecDepth 100000 in
theorem skerrylaw22_TreeFinds.calls (k : Nat) (A0 : Option Addr) (c0 : Nat) (l0 : List (S38)) (A1 : Option Addr) (c1 : Nat) (l1 : List (S38)) (a2 : Int) (r : Bool) (w : World) (hr0 : Kd.C k38 w A0 l0.length l0) (hc0 : l0.length ≤ c0) (hr1 : Kd.C k38 w A1 l1.length l1) (hc1 : l1.length ≤ c1) (h : skerrylaw22_TreeFinds.f k l0 l1 a2 = some r) :
  Calls Try.prog 5 #[.slice A0 l0.length c0, .slice A1 l1.length c1, .int .i64 a2] w fun e w' => e = .returned (.bool r) ∧ Below w.heap.size w w' := by
 have HR0 := Aside0.mk hr0
 have HC0 := Aside0.mk hc0
 clear hr0 hc0
 have HR1 := Aside0.mk hr1
 have HC1 := Aside0.mk hc1
 clear hr1 hc1
 have HB := Aside0.mk (Below.refl w.heap.size w)
 have H : ((skerrylaw22_weigh.f k l0 60).bind fun t481 => (if t481 > 60 then (skerrylaw22_TreeFinds.j0 k l0 l1 a2 true) else ((skerrylaw22_weigh.f k l1 60).bind fun t482 => (if t482 > 60 then (skerrylaw22_TreeFinds.j0 k l0 l1 a2 true) else ((skerrylaw22_clash.f k l0 l1 a2).bind fun t483 => (skerrylaw22_TreeFinds.j0 k l0 l1 a2 t483)))))) = some r := h
 clear h
 have HC4 := Aside0.mk H
 clear H
 go_enter Try.func5, Try.ntmps5
 go_upto_region 1 with (fail)
 go_cut [28] (fun v28 wc => ∃ (kq : Nat) (x28_3 : Bool), v28 = .bool x28_3 ∧ Aside0 (skerrylaw22_TreeFinds.j0 kq l0 l1 a2 x28_3 = some r) ∧ Aside0 (kq ≤ k) ∧ Aside0 (Below w.heap.size w wc))
 case first =>
  have H := HC4.out
  clear HC4
  replace H := Option.bind_eq_some_iff.mp H
  obtain ⟨t481, A50, H⟩ := H
  have A5 := Aside0.mk A50
  clear A50
  by_cases c6 : t481 > 60
  ·
   rw [if_pos c6] at H
   have c6b0 : decide (60 < t481) = true := decide_eq_true c6
   clear c6
   (first | rw [c6b0] | (simp only [i64_w, i32_w]; rw [c6b0]) | skip)
   have H' := Aside0.mk H
   clear H
   go_wp2_with (first | ((with_reducible refine gate_callee (f := 15) rfl ?_); refine goesL_ (some 16) rfl rfl Try.func15 (by kernel_rfl) rfl #[.slice A0 l0.length c0, .int .i64 60] rfl (by (try simp only [mT_, mC_, mN_]); first | done | rfl) ?_; (with_reducible refine (skerrylaw22_weigh.calls k _ _ l0 60 t481 _ ?side1 ?side2 A5.out).mono ?_); (case side1 => repeat (first | exact (Kd.C_below HR0.out HB.out) | (with_reducible refine Kd.C_alloc ?_ _) | (with_reducible refine Kd.C_drewN ?_ _) | (with_reducible refine Kd.C_drew ?_))); (case side2 => exact HC0.out); rintro e w7 ⟨rfl, hb⟩; refine ⟨_, rfl, ?_⟩; replace HB := Aside0.mk (below_step (kwW HB) hb); (try clear hb); (try clear hb2); (try clear hk); (try clear hi)))
   go_meet
   case rel => exact ⟨_, (true), (by first | rfl | (simp; done) | (simp [bne, *]; done)), H', ⟨by first | omega | exact Nat.le_refl _⟩, ⟨kwW HB⟩⟩
  ·
   rw [if_neg c6] at H
   have c6b0 : decide (60 < t481) = false := decide_eq_false c6
   clear c6
   (first | rw [c6b0] | (simp only [i64_w, i32_w]; rw [c6b0]) | skip)
   replace H := Option.bind_eq_some_iff.mp H
   obtain ⟨t482, A80, H⟩ := H
   have A8 := Aside0.mk A80
   clear A80
   by_cases c9 : t482 > 60
   ·
    rw [if_pos c9] at H
    have c9b0 : decide (60 < t482) = true := decide_eq_true c9
    clear c9
    have H' := Aside0.mk H
    clear H
    go_wp2_with (first | ((with_reducible refine gate_callee (f := 15) rfl ?_); refine goesL_ (some 16) rfl rfl Try.func15 (by kernel_rfl) rfl #[.slice A0 l0.length c0, .int .i64 60] rfl (by (try simp only [mT_, mC_, mN_]); first | done | rfl) ?_; (with_reducible refine (skerrylaw22_weigh.calls k _ _ l0 60 t481 _ ?side1 ?side2 A5.out).mono ?_); (case side1 => repeat (first | exact (Kd.C_below HR0.out HB.out) | (with_reducible refine Kd.C_alloc ?_ _) | (with_reducible refine Kd.C_drewN ?_ _) | (with_reducible refine Kd.C_drew ?_))); (case side2 => exact HC0.out); rintro e w10 ⟨rfl, hb⟩; refine ⟨_, rfl, ?_⟩; replace HB := Aside0.mk (below_step (kwW HB) hb); (try clear hb); (try clear hb2); (try clear hk); (try clear hi)) | (go_at_call 15; (with_reducible refine (skerrylaw22_weigh.calls k _ _ l1 60 t482 _ ?side1 ?side2 A8.out).mono ?_); (case side1 => repeat (first | exact (Kd.C_below HR1.out HB.out) | (with_reducible refine Kd.C_alloc ?_ _) | (with_reducible refine Kd.C_drewN ?_ _) | (with_reducible refine Kd.C_drew ?_))); (case side2 => exact HC1.out); rintro e w11 ⟨rfl, hb⟩; replace HB := Aside0.mk (below_step (kwW HB) hb); (try clear hb); (try clear hb2); (try clear hk); (try clear hi)))
    go_meet
    case rel => exact ⟨_, (true), (by first | rfl | (simp; done) | (simp [bne, *]; done)), H', ⟨by first | omega | exact Nat.le_refl _⟩, ⟨kwW HB⟩⟩
   ·
    rw [if_neg c9] at H
    have c9b0 : decide (60 < t482) = false := decide_eq_false c9
    clear c9
    replace H := Option.bind_eq_some_iff.mp H
    obtain ⟨t483, A120, H⟩ := H
    have A12 := Aside0.mk A120
    clear A120
    have H' := Aside0.mk H
    clear H
    go_wp2_with (first | ((with_reducible refine gate_callee (f := 15) rfl ?_); refine goesL_ (some 16) rfl rfl Try.func15 (by kernel_rfl) rfl #[.slice A0 l0.length c0, .int .i64 60] rfl (by (try simp only [mT_, mC_, mN_]); first | done | rfl) ?_; (with_reducible refine (skerrylaw22_weigh.calls k _ _ l0 60 t481 _ ?side1 ?side2 A5.out).mono ?_); (case side1 => repeat (first | exact (Kd.C_below HR0.out HB.out) | (with_reducible refine Kd.C_alloc ?_ _) | (with_reducible refine Kd.C_drewN ?_ _) | (with_reducible refine Kd.C_drew ?_))); (case side2 => exact HC0.out); rintro e w13 ⟨rfl, hb⟩; refine ⟨_, rfl, ?_⟩; replace HB := Aside0.mk (below_step (kwW HB) hb); (try clear hb); (try clear hb2); (try clear hk); (try clear hi)) | (go_at_call 15; (with_reducible refine (skerrylaw22_weigh.calls k _ _ l1 60 t482 _ ?side1 ?side2 A8.out).mono ?_); (case side1 => repeat (first | exact (Kd.C_below HR1.out HB.out) | (with_reducible refine Kd.C_alloc ?_ _) | (with_reducible refine Kd.C_drewN ?_ _) | (with_reducible refine Kd.C_drew ?_))); (case side2 => exact HC1.out); rintro e w14 ⟨rfl, hb⟩; replace HB := Aside0.mk (below_step (kwW HB) hb); (try clear hb); (try clear hb2); (try clear hk); (try clear hi)) | (go_at_call 23; (with_reducible refine (skerrylaw22_clash.calls k _ _ l0 _ _ l1 a2 t483 _ ?side1 ?side2 ?side3 ?side4 A12.out).mono ?_); (case side1 => repeat (first | exact (Kd.C_below HR0.out HB.out) | (with_reducible refine Kd.C_alloc ?_ _) | (with_reducible refine Kd.C_drewN ?_ _) | (with_reducible refine Kd.C_drew ?_))); (case side2 => exact HC0.out); (case side3 => repeat (first | exact (Kd.C_below HR1.out HB.out) | (with_reducible refine Kd.C_alloc ?_ _) | (with_reducible refine Kd.C_drewN ?_ _) | (with_reducible refine Kd.C_drew ?_))); (case side4 => exact HC1.out); rintro e w15 ⟨rfl, hb⟩; replace HB := Aside0.mk (below_step (kwW HB) hb); (try clear hb); (try clear hb2); (try clear hk); (try clear hi)))
    go_meet
    case rel => exact ⟨_, (t483), (by first | rfl | (simp; done) | (simp [bne, *]; done)), H', ⟨by first | omega | exact Nat.le_refl _⟩, ⟨kwW HB⟩⟩
 case rest =>
  clear HC4
  try clear c1
  try clear p2
  try clear c5
  try clear c6
  try clear c6b0
  try clear c9
  try clear c9b0
  try clear c15
  obtain ⟨kq, x28_3, rfl, HA, HJ3, HB⟩ := hcut
  cases kq with
  | zero => exact absurd HA.out (by simp [skerrylaw22_TreeFinds.j0])
  | succ kj3 =>
   have H := HA.out
   clear HA
   simp only [skerrylaw22_TreeFinds.j0] at H
   by_cases c16 : x28_3 = true
   ·
    subst c16
    have H1 : ((skerrylaw22_lives.f kj3).bind fun t484 => (some t484)) = some r := by rw [if_pos rfl] at H; exact H
    clear H
    have H := H1
    clear H1
    replace H := Option.bind_eq_some_iff.mp H
    obtain ⟨t484, A170, H⟩ := H
    have A17 := Aside0.mk A170
    clear A170
    obtain rfl := Option.some.inj H
    go_wp2_with (first | ((with_reducible refine gate_callee (f := 8) rfl ?_); refine goesL_ (some 29) rfl rfl Try.func8 (by kernel_rfl) rfl #[] rfl (by (try simp only [mT_, mC_, mN_]); first | done | rfl) ?_; (with_reducible refine (skerrylaw22_lives.calls kj3  t484 _ A17.out).mono ?_); rintro e w18 ⟨rfl, hb⟩; refine ⟨_, rfl, ?_⟩; replace HB := Aside0.mk (below_step (kwW HB) hb); (try clear hb); (try clear hb2); (try clear hk); (try clear hi)))
    go_ret
    exact ⟨by first | rfl | (simp <;> rfl) | (simp [*] <;> rfl), kwW HB⟩
   ·
    replace c16 := Bool.eq_false_iff.mpr c16
    subst c16
    have H1 : ((tree_Leaves.f kj3 l0 a2).bind fun t485 => ((tree_Build.f t485).bind fun t488 => ((tree_Leaves.f kj3 l1 a2).bind fun t491 => ((tree_Build.f t491).bind fun t494 => ((tree_Diff.f t488 t494).bind fun t497 => ((tree_Leaves.f kj3 l0 a2).bind fun t500 => (skerrylaw22_TreeFinds.l0 kj3 l0 l1 a2 t497 (t500.length : Int) 0))))))) = some r := by rw [if_neg (show ¬ (false = true) by decide)] at H; exact H
    clear H
    have H := H1
    clear H1
    replace H := Option.bind_eq_some_iff.mp H
    obtain ⟨t485, A190, H⟩ := H
    have A19 := Aside0.mk A190
    clear A190
    replace H := Option.bind_eq_some_iff.mp H
    obtain ⟨t488, A200, H⟩ := H
    have A20 := Aside0.mk A200
    clear A200
    replace H := Option.bind_eq_some_iff.mp H
    obtain ⟨t491, A210, H⟩ := H
    have A21 := Aside0.mk A210
    clear A210
    replace H := Option.bind_eq_some_iff.mp H
    obtain ⟨t494, A220, H⟩ := H
    have A22 := Aside0.mk A220
    clear A220
    replace H := Option.bind_eq_some_iff.mp H
    obtain ⟨t497, A230, H⟩ := H
    have A23 := Aside0.mk A230
    clear A230
    replace H := Option.bind_eq_some_iff.mp H
    obtain ⟨t500, A240, H⟩ := H
    have A24 := Aside0.mk A240
    clear A240
    have H' := Aside0.mk H
    clear H
    go_wp2_with (first | ((with_reducible refine gate_callee (f := 18) rfl ?_); refine goesL_ (some 32) rfl rfl Try.func18 (by kernel_rfl) rfl #[.slice A0 l0.length c0, .int .i64 a2] rfl (by (try simp only [mT_, mC_, mN_]); first | done | rfl) ?_; (with_reducible refine (tree_Leaves.calls kj3 _ _ l0 a2 t485 _ ?side1 ?side2 A19.out).mono ?_); (case side1 => repeat (first | exact (Kd.C_below HR0.out HB.out) | (with_reducible refine Kd.C_alloc ?_ _) | (with_reducible refine Kd.C_drewN ?_ _) | (with_reducible refine Kd.C_drew ?_))); (case side2 => exact HC0.out); rintro e w25 ⟨v486, rfl, ho0, hb⟩; refine ⟨_, rfl, ?_⟩; have HO487 := Aside0.mk (Kd.R_lower ho0 (bZ_ (kwW HB))); replace HB := Aside0.mk (below_step (kwW HB) hb); (try clear hb); (try clear hb2); (try clear hk); (try clear hi); (try clear ho0); obtain ⟨Ao26, co26, eo26⟩ := Kd.R_slice HO487.out; subst eo26) | ((with_reducible refine gate_callee (f := 9) rfl ?_); refine goesL_ (some 33) rfl rfl Try.func9 (by kernel_rfl) rfl #[.slice Ao26 t485.length co26] rfl (by (try simp only [mT_, mC_, mN_]); first | done | rfl) ?_; (with_reducible refine (tree_Build.calls _ _ t485 t488 _ ?side1 ?side2 A20.out).mono ?_); (case side1 => repeat (first | exact (Kd.R_reads' HO487.out).2.2 | (with_reducible refine Kd.C_alloc ?_ _) | (with_reducible refine Kd.C_drewN ?_ _) | (with_reducible refine Kd.C_drew ?_))); (case side2 => exact (Kd.R_reads' HO487.out).2.1); rintro e w27 ⟨v489, rfl, ho0, hb⟩; refine ⟨_, rfl, ?_⟩; have HO490 := Aside0.mk (Kd.R_lower (Kd.R_new' ho0 (Kd.R_lt (krW HO487))) (bZ_ (kwW HB))); replace HO487 := Aside0.mk (Kd.R_elder' (krW HO487) (Kd.R_base ho0) hb); replace HB := Aside0.mk (below_step (kwW HB) hb); (try clear hb); (try clear hb2); (try clear hk); (try clear hi); (try clear ho0)) | ((with_reducible refine gate_callee (f := 18) rfl ?_); refine goesL_ (some 36) rfl rfl Try.func18 (by kernel_rfl) rfl #[.slice A1 l1.length c1, .int .i64 a2] rfl (by (try simp only [mT_, mC_, mN_]); first | done | rfl) ?_; (with_reducible refine (tree_Leaves.calls kj3 _ _ l1 a2 t491 _ ?side1 ?side2 A21.out).mono ?_); (case side1 => repeat (first | exact (Kd.C_below HR1.out HB.out) | (with_reducible refine Kd.C_alloc ?_ _) | (with_reducible refine Kd.C_drewN ?_ _) | (with_reducible refine Kd.C_drew ?_))); (case side2 => exact HC1.out); rintro e w28 ⟨v492, rfl, ho0, hb⟩; refine ⟨_, rfl, ?_⟩; have HO493 := Aside0.mk (Kd.R_lower (Kd.R_new' (Kd.R_new' ho0 (Kd.R_lt (krW HO487))) (Kd.R_lt (krW HO490))) (bZ_ (kwW HB))); replace HO487 := Aside0.mk (Kd.R_elder' (krW HO487) (Kd.R_base ho0) hb); replace HO490 := Aside0.mk (Kd.R_elder' (krW HO490) (Kd.R_base ho0) hb); replace HB := Aside0.mk (below_step (kwW HB) hb); (try clear hb); (try clear hb2); (try clear hk); (try clear hi); (try clear ho0); obtain ⟨Ao29, co29, eo29⟩ := Kd.R_slice HO493.out; subst eo29) | ((with_reducible refine gate_callee (f := 9) rfl ?_); refine goesL_ (some 37) rfl rfl Try.func9 (by kernel_rfl) rfl #[.slice Ao29 t491.length co29] rfl (by (try simp only [mT_, mC_, mN_]); first | done | rfl) ?_; (with_reducible refine (tree_Build.calls _ _ t491 t494 _ ?side1 ?side2 A22.out).mono ?_); (case side1 => repeat (first | exact (Kd.R_reads' HO493.out).2.2 | (with_reducible refine Kd.C_alloc ?_ _) | (with_reducible refine Kd.C_drewN ?_ _) | (with_reducible refine Kd.C_drew ?_))); (case side2 => exact (Kd.R_reads' HO493.out).2.1); rintro e w30 ⟨v495, rfl, ho0, hb⟩; refine ⟨_, rfl, ?_⟩; have HO496 := Aside0.mk (Kd.R_lower (Kd.R_new' (Kd.R_new' (Kd.R_new' ho0 (Kd.R_lt (krW HO487))) (Kd.R_lt (krW HO490))) (Kd.R_lt (krW HO493))) (bZ_ (kwW HB))); replace HO487 := Aside0.mk (Kd.R_elder' (krW HO487) (Kd.R_base ho0) hb); replace HO490 := Aside0.mk (Kd.R_elder' (krW HO490) (Kd.R_base ho0) hb); replace HO493 := Aside0.mk (Kd.R_elder' (krW HO493) (Kd.R_base ho0) hb); replace HB := Aside0.mk (below_step (kwW HB) hb); (try clear hb); (try clear hb2); (try clear hk); (try clear hi); (try clear ho0); obtain ⟨Ao31, co31, eo31⟩ := Kd.R_slice HO490.out; subst eo31; obtain ⟨Ao32, co32, eo32⟩ := Kd.R_slice HO496.out; subst eo32) | ((with_reducible refine gate_callee (f := 13) rfl ?_); refine goesL_ (some 38) rfl rfl Try.func13 (by kernel_rfl) rfl #[.slice Ao31 t488.length co31, .slice Ao32 t494.length co32] rfl (by (try simp only [mT_, mC_, mN_]); first | done | rfl) ?_; (with_reducible refine (tree_Diff.calls _ _ t488 _ _ t494 t497 _ ?side1 ?side2 ?side3 ?side4 A23.out).mono ?_); (case side1 => repeat (first | exact (Kd.R_reads' HO490.out).2.2 | (with_reducible refine Kd.C_alloc ?_ _) | (with_reducible refine Kd.C_drewN ?_ _) | (with_reducible refine Kd.C_drew ?_))); (case side2 => exact (Kd.R_reads' HO490.out).2.1); (case side3 => repeat (first | exact (Kd.R_reads' HO496.out).2.2 | (with_reducible refine Kd.C_alloc ?_ _) | (with_reducible refine Kd.C_drewN ?_ _) | (with_reducible refine Kd.C_drew ?_))); (case side4 => exact (Kd.R_reads' HO496.out).2.1); rintro e w33 ⟨v498, rfl, ho0, hb⟩; refine ⟨_, rfl, ?_⟩; replace HO487 := kR HO487 hb; replace HO490 := kR HO490 hb; replace HO493 := kR HO493 hb; replace HO496 := kR HO496 hb; have HO499 := Aside0.mk (Kd.R_lower ho0 (bZ_ (kwW HB))); replace HB := Aside0.mk (below_step (kwW HB) hb); (try clear hb); (try clear hb2); (try clear hk); (try clear hi); (try clear ho0)) | ((with_reducible refine gate_callee (f := 18) rfl ?_); refine goesL_ (some 41) rfl rfl Try.func18 (by kernel_rfl) rfl #[.slice A0 l0.length c0, .int .i64 a2] rfl (by (try simp only [mT_, mC_, mN_]); first | done | rfl) ?_; (with_reducible refine (tree_Leaves.calls kj3 _ _ l0 a2 t500 _ ?side1 ?side2 A24.out).mono ?_); (case side1 => repeat (first | exact (Kd.C_below HR0.out HB.out) | (with_reducible refine Kd.C_alloc ?_ _) | (with_reducible refine Kd.C_drewN ?_ _) | (with_reducible refine Kd.C_drew ?_))); (case side2 => exact HC0.out); rintro e w34 ⟨v501, rfl, ho0, hb⟩; refine ⟨_, rfl, ?_⟩; replace HO499 := kR HO499 hb; have HO502 := Aside0.mk (Kd.R_lower (Kd.R_new' (Kd.R_new' (Kd.R_new' (Kd.R_new' ho0 (Kd.R_lt (krW HO487))) (Kd.R_lt (krW HO490))) (Kd.R_lt (krW HO493))) (Kd.R_lt (krW HO496))) (bZ_ (kwW HB))); replace HO487 := Aside0.mk (Kd.R_elder' (krW HO487) (Kd.R_base ho0) hb); replace HO490 := Aside0.mk (Kd.R_elder' (krW HO490) (Kd.R_base ho0) hb); replace HO493 := Aside0.mk (Kd.R_elder' (krW HO493) (Kd.R_base ho0) hb); replace HO496 := Aside0.mk (Kd.R_elder' (krW HO496) (Kd.R_base ho0) hb); replace HB := Aside0.mk (below_step (kwW HB) hb); (try clear hb); (try clear hb2); (try clear hk); (try clear hi); (try clear ho0); obtain ⟨Ao35, co35, eo35⟩ := Kd.R_slice HO502.out; subst eo35))
    go_loopg [43] kj3 (fun kq v43 w' => ∃ (x43_2 : Int), v43 = .int .i64 x43_2 ∧ Aside0 (skerrylaw22_TreeFinds.l0 kq l0 l1 a2 t497 (t500.length : Int) x43_2 = some r) ∧ Aside0 (kq ≤ kj3) ∧ Aside0 (Kd.R (Kd.int .i64) 3 w' w.heap.size (fun _ => True) v498 t497) ∧ Aside0 (Below w.heap.size w w'))
    case atStart => exact ⟨(0), (by first | rfl | (simp; done) | (simp [bne, *]; done)), H', ⟨Nat.le_refl _⟩, ⟨krW HO499⟩, ⟨kwW HB⟩⟩
    case round =>
     clear H'
     try clear c1
     try clear p2
     try clear c5
     try clear c6
     try clear c6b0
     try clear c8
     try clear c9
     try clear c9b0
     try clear c13
     try clear c15
     try clear c16
     try clear c18
     try clear p2
     obtain ⟨x43_2, rfl, HA, HK2, HO_7, HB⟩ := hrel
     cases gk with
     | zero => exact absurd HA.out (by simp [skerrylaw22_TreeFinds.l0])
     | succ k2 =>
      have H := HA.out
      clear HA
      simp only [skerrylaw22_TreeFinds.l0] at H
      by_cases c36 : x43_2 < (t500.length : Int)
      rotate_left
      ·
       rw [if_neg c36] at H
       have c36b0 : decide (x43_2 < (t500.length : Int)) = false := decide_eq_false c36
       clear c36
       obtain ⟨y517, hy517⟩ : ∃ y_ : List (S38), y_ = (([] : List (S38))) := ⟨_, rfl⟩
       replace H : (if y517.length + l0.length < 1256584717458 then ((some (y517 ++ l0 : List (S38))).bind fun y520 => ((tree_Pick.f k2 l1 a2 t497).bind fun t523 => (if y520.length + t523.length < 1256584717458 then ((cell_Norm.f k2 (y520 ++ t523)).bind fun t529 => ((some (([] : List (S38)) : List (S38))).bind fun y532 => (if y532.length + l0.length < 1256584717458 then ((some (y532 ++ l0 : List (S38))).bind fun y535 => (if y535.length + l1.length < 1256584717458 then ((cell_Norm.f k2 (y535 ++ l1)).bind fun t541 => ((skerryref01_Like.f k2 t529 t541).bind fun t544 => (if t544 = true then ((skerrylaw22_lives.f k2).bind fun t545 => (some t545)) else (none)))) else (none))) else (none)))) else (none)))) else (none)) = some r := by first | (rw [hy517]; with_reducible exact H) | (have H2_ := (Option.bind_some _ _).symm.trans H; rw [hy517]; with_reducible exact H2_) | (have H2_ := (Option.bind_some _ _).symm.trans H; with_reducible exact H2_) | with_reducible exact H | (rw [hy517]; exact H) | exact H
       have Ny517 := Aside0.mk hy517
       clear hy517
       by_cases c56 : y517.length + l0.length < 1256584717458
       rotate_left
       ·
        rw [if_neg c56] at H
        exact absurd H (by simp)
       rw [if_pos c56] at H
       have LMc56 := Aside0.mk c56
       clear c56
       obtain ⟨y520, hy520⟩ : ∃ y_ : List (S38), y_ = (y517 ++ l0) := ⟨_, rfl⟩
       replace H : ((tree_Pick.f k2 l1 a2 t497).bind fun t523 => (if y520.length + t523.length < 1256584717458 then ((cell_Norm.f k2 (y520 ++ t523)).bind fun t529 => ((some (([] : List (S38)) : List (S38))).bind fun y532 => (if y532.length + l0.length < 1256584717458 then ((some (y532 ++ l0 : List (S38))).bind fun y535 => (if y535.length + l1.length < 1256584717458 then ((cell_Norm.f k2 (y535 ++ l1)).bind fun t541 => ((skerryref01_Like.f k2 t529 t541).bind fun t544 => (if t544 = true then ((skerrylaw22_lives.f k2).bind fun t545 => (some t545)) else (none)))) else (none))) else (none)))) else (none))) = some r := by first | (rw [hy520]; with_reducible exact H) | (have H2_ := (Option.bind_some _ _).symm.trans H; rw [hy520]; with_reducible exact H2_) | (have H2_ := (Option.bind_some _ _).symm.trans H; with_reducible exact H2_) | with_reducible exact H | (rw [hy520]; exact H) | exact H
       have Ny520 := Aside0.mk hy520
       clear hy520
       replace H := Option.bind_eq_some_iff.mp H
       obtain ⟨t523, A570, H⟩ := H
       have A57 := Aside0.mk A570
       clear A570
       by_cases c58 : y520.length + t523.length < 1256584717458
       rotate_left
       ·
        rw [if_neg c58] at H
        exact absurd H (by simp)
       rw [if_pos c58] at H
       have LMc58 := Aside0.mk c58
       clear c58
       obtain ⟨y526, hy526⟩ : ∃ y_ : List (S38), y_ = (y520 ++ t523) := ⟨_, rfl⟩
       replace H : ((cell_Norm.f k2 y526).bind fun t529 => ((some (([] : List (S38)) : List (S38))).bind fun y532 => (if y532.length + l0.length < 1256584717458 then ((some (y532 ++ l0 : List (S38))).bind fun y535 => (if y535.length + l1.length < 1256584717458 then ((cell_Norm.f k2 (y535 ++ l1)).bind fun t541 => ((skerryref01_Like.f k2 t529 t541).bind fun t544 => (if t544 = true then ((skerrylaw22_lives.f k2).bind fun t545 => (some t545)) else (none)))) else (none))) else (none)))) = some r := by first | (rw [hy526]; with_reducible exact H) | (have H2_ := (Option.bind_some _ _).symm.trans H; rw [hy526]; with_reducible exact H2_) | (have H2_ := (Option.bind_some _ _).symm.trans H; with_reducible exact H2_) | with_reducible exact H | (rw [hy526]; exact H) | exact H
       have Ny526 := Aside0.mk hy526
       clear hy526
       replace H := Option.bind_eq_some_iff.mp H
       obtain ⟨t529, A590, H⟩ := H
       have A59 := Aside0.mk A590
       clear A590
       obtain ⟨y532, hy532⟩ : ∃ y_ : List (S38), y_ = (([] : List (S38))) := ⟨_, rfl⟩
       replace H : (if y532.length + l0.length < 1256584717458 then ((some (y532 ++ l0 : List (S38))).bind fun y535 => (if y535.length + l1.length < 1256584717458 then ((cell_Norm.f k2 (y535 ++ l1)).bind fun t541 => ((skerryref01_Like.f k2 t529 t541).bind fun t544 => (if t544 = true then ((skerrylaw22_lives.f k2).bind fun t545 => (some t545)) else (none)))) else (none))) else (none)) = some r := by first | (rw [hy532]; with_reducible exact H) | (have H2_ := (Option.bind_some _ _).symm.trans H; rw [hy532]; with_reducible exact H2_) | (have H2_ := (Option.bind_some _ _).symm.trans H; with_reducible exact H2_) | with_reducible exact H | (rw [hy532]; exact H) | exact H
       have Ny532 := Aside0.mk hy532
       clear hy532
       by_cases c60 : y532.length + l0.length < 1256584717458
       rotate_left
       ·
        rw [if_neg c60] at H
        exact absurd H (by simp)
       rw [if_pos c60] at H
       have LMc60 := Aside0.mk c60
       clear c60
       obtain ⟨y535, hy535⟩ : ∃ y_ : List (S38), y_ = (y532 ++ l0) := ⟨_, rfl⟩
       replace H : (if y535.length + l1.length < 1256584717458 then ((cell_Norm.f k2 (y535 ++ l1)).bind fun t541 => ((skerryref01_Like.f k2 t529 t541).bind fun t544 => (if t544 = true then ((skerrylaw22_lives.f k2).bind fun t545 => (some t545)) else (none)))) else (none)) = some r := by first | (rw [hy535]; with_reducible exact H) | (have H2_ := (Option.bind_some _ _).symm.trans H; rw [hy535]; with_reducible exact H2_) | (have H2_ := (Option.bind_some _ _).symm.trans H; with_reducible exact H2_) | with_reducible exact H | (rw [hy535]; exact H) | exact H
       have Ny535 := Aside0.mk hy535
       clear hy535
       by_cases c61 : y535.length + l1.length < 1256584717458
       rotate_left
       ·
        rw [if_neg c61] at H
        exact absurd H (by simp)
       rw [if_pos c61] at H
       have LMc61 := Aside0.mk c61
       clear c61
       obtain ⟨y538, hy538⟩ : ∃ y_ : List (S38), y_ = (y535 ++ l1) := ⟨_, rfl⟩
       replace H : ((cell_Norm.f k2 y538).bind fun t541 => ((skerryref01_Like.f k2 t529 t541).bind fun t544 => (if t544 = true then ((skerrylaw22_lives.f k2).bind fun t545 => (some t545)) else (none)))) = some r := by first | (rw [hy538]; with_reducible exact H) | (have H2_ := (Option.bind_some _ _).symm.trans H; rw [hy538]; with_reducible exact H2_) | (have H2_ := (Option.bind_some _ _).symm.trans H; with_reducible exact H2_) | with_reducible exact H | (rw [hy538]; exact H) | exact H
       have Ny538 := Aside0.mk hy538
       clear hy538
       replace H := Option.bind_eq_some_iff.mp H
       obtain ⟨t541, A620, H⟩ := H
       have A62 := Aside0.mk A620
       clear A620
       replace H := Option.bind_eq_some_iff.mp H
       obtain ⟨t544, A630, H⟩ := H
       have A63 := Aside0.mk A630
       clear A630
       by_cases c64 : t544 = true
       rotate_left
       ·
        replace c64 := Bool.eq_false_iff.mpr c64
        subst c64
        have H1 : (none) = some r := by rw [if_neg (show ¬ (false = true) by decide)] at H; exact H
        clear H
        have H := H1
        clear H1
        exact absurd H (by simp)
       subst c64
       have H1 : ((skerrylaw22_lives.f k2).bind fun t545 => (some t545)) = some r := by rw [if_pos rfl] at H; exact H
       clear H
       have H := H1
       clear H1
       replace H := Option.bind_eq_some_iff.mp H
       obtain ⟨t545, A650, H⟩ := H
       have A65 := Aside0.mk A650
       clear A650
       obtain rfl := Option.some.inj H
       go_wp2_with (first | ((with_reducible refine gate_dst (N := 74) rfl ?_); refine Kd.R_lit k38 _ 38 ?hg (N := 74) ?hd (xs := ([] : List (S38))) (inner := []) (ok := fun _ => True) (okp := fun _ => True) ?hr ?hp (fun _ hk => hk) trivial (Below.refl _ _) (Nat.le_refl _) (by simp) ?_; (case hd => rfl); (case hg => rfl); (case hr => first | (go_simp; done) | (go_simp; rfl)); (case hp => exact (Reps.none _ _)); intro v518 w66 ho67 hb hg_ hnew_; clear hg_ hnew_; (first | rw [← Ny517.out] at ho67 | (simp only [Int.reduceToNat] at ho67; rw [← Ny517.out] at ho67)); replace HO_7 := kR HO_7 hb; have HO519 := Aside0.mk (Kd.R_lower ho67 (bZ_ (kwW HB))); replace HB := Aside0.mk (below_step (kwW HB) hb); clear hb ho67) | ((with_reducible refine gate_builtin (b := .append) (xs := #[.tmp 74, .tmp 75]) rfl ?_); at_builtin; refine Kd.R_append_rows k38 (w0 := w) w.heap.size rfl (.tmp 74) (.tmp 75) 29 38 (.agg #[(.string ⟨#[]⟩), (.string ⟨#[]⟩), (.int .i64 0), (.string ⟨#[]⟩), (.int .i64 0), (.bool false), (.int .i64 0), (.int .i64 0), (.int .i64 0), (.string ⟨#[]⟩)]) 112 rfl Try.underlying29 info38 rfl (by decide) (by omega) v518 y517 l0 _ _ _ (fun _ => True) (fun _ => False) rfl rfl ?aO ?aR (fun _ _ h => h) (fun _ h => h.elim) ?aF ?aB ?aS ?aL ?_; (case aR => repeat (first | exact (Kd.C_below HR0.out HB.out) | (with_reducible refine Kd.C_alloc ?_ _) | (with_reducible refine Kd.C_drewN ?_ _) | (with_reducible refine Kd.C_drew ?_))); (case aB => exact (kwW HB)); (case aF => exact (fun _ _ => trivial)); (case aO => exact (krW HO519)); (case aS => exact (bZ_ (kwW HB))); (case aL => have := LMc56.out; omega); intro v521 w68 ho hb hg hat; rw [← Ny520.out] at ho; replace HO_7 := Aside0.mk (Kd.R_over' (krW HO_7) (Kd.R_typed (krW HO519)) (by decide) hg); replace HB := Aside0.mk (hb); have HO522 := Aside0.mk (ho); clear HO519; clear ho hb hg hat; obtain ⟨Ao69, co69, eo69⟩ := Kd.R_slice HO_7.out; subst eo69) | ((with_reducible refine gate_callee (f := 21) rfl ?_); refine goesL_ (some 80) rfl rfl Try.func21 (by kernel_rfl) rfl #[.slice A1 l1.length c1, .int .i64 a2, .slice Ao69 t497.length co69] rfl (by (try simp only [mT_, mC_, mN_]); first | done | rfl) ?_; (with_reducible refine (tree_Pick.calls k2 _ _ l1 a2 _ _ t497 t523 _ ?side1 ?side2 ?side3 ?side4 A57.out).mono ?_); (case side1 => repeat (first | exact (Kd.C_below HR1.out HB.out) | (with_reducible refine Kd.C_alloc ?_ _) | (with_reducible refine Kd.C_drewN ?_ _) | (with_reducible refine Kd.C_drew ?_))); (case side2 => exact HC1.out); (case side3 => repeat (first | exact (Kd.R_reads' HO_7.out).2.2 | (with_reducible refine Kd.C_alloc ?_ _) | (with_reducible refine Kd.C_drewN ?_ _) | (with_reducible refine Kd.C_drew ?_))); (case side4 => exact (Kd.R_reads' HO_7.out).2.1); rintro e w70 ⟨v524, rfl, ho0, hb⟩; refine ⟨_, rfl, ?_⟩; replace HO_7 := kR HO_7 hb; have HO525 := Aside0.mk (Kd.R_lower (Kd.R_new' ho0 (Kd.R_lt (krW HO522))) (bZ_ (kwW HB))); replace HO522 := Aside0.mk (Kd.R_elder' (krW HO522) (Kd.R_base ho0) hb); replace HB := Aside0.mk (below_step (kwW HB) hb); (try clear hb); (try clear hb2); (try clear hk); (try clear hi); (try clear ho0); obtain ⟨Ao72, co72, eo72⟩ := Kd.R_slice HO525.out; subst eo72) | ((with_reducible refine gate_builtin (b := .append) (xs := #[.tmp 76, .tmp 80]) rfl ?_); at_builtin; refine Kd.R_append_rows k38 (w0 := w) w.heap.size rfl (.tmp 76) (.tmp 80) 29 38 (.agg #[(.string ⟨#[]⟩), (.string ⟨#[]⟩), (.int .i64 0), (.string ⟨#[]⟩), (.int .i64 0), (.bool false), (.int .i64 0), (.int .i64 0), (.int .i64 0), (.string ⟨#[]⟩)]) 112 rfl Try.underlying29 info38 rfl (by decide) (by omega) v521 y520 t523 _ _ _ (fun k_ => some k_ ≠ (.slice Ao72 t523.length co72 : Value).ownBlock) (fun _ => False) rfl rfl ?aO ?aR (fun _ _ h => h) (fun _ h => h.elim) ?aF ?aB ?aS ?aL ?_; (case aR => repeat (first | exact (Kd.R_reads' HO525.out).2.2 | (with_reducible refine Kd.C_alloc ?_ _) | (with_reducible refine Kd.C_drewN ?_ _) | (with_reducible refine Kd.C_drew ?_))); (case aB => exact (kwW HB)); (case aF => exact (fun k_ hk => Kd.fresh' (Kd.R_lt (krW HO525)) k_ hk)); (case aO => exact (by (with_reducible repeat (first | apply Kd.R_alloc | apply Kd.R_drewN | apply Kd.R_drew)); exact Kd.R_mono HO522.out (fun _ hk => hk.2))); (case aS => exact (bZ_ (kwW HB))); (case aL => have := LMc58.out; omega); intro v527 w71 ho hb hg hat; rw [← Ny526.out] at ho; replace HO_7 := Aside0.mk (Kd.R_over' (krW HO_7) (Kd.R_typed (krW HO522)) (by decide) hg); replace HO525 := Aside0.mk (Kd.R_after (ok := (fun _ => True)) (krW HO525) hg hat); replace HB := Aside0.mk (hb); have HO528 := Aside0.mk (ho); clear HO522; clear ho hb hg hat; obtain ⟨Ao73, co73, eo73⟩ := Kd.R_slice HO528.out; subst eo73) | ((with_reducible refine gate_callee (f := 24) rfl ?_); refine goesL_ (some 82) rfl rfl Try.func24 (by kernel_rfl) rfl #[.slice Ao73 y526.length co73] rfl (by (try simp only [mT_, mC_, mN_]); first | done | rfl) ?_; (with_reducible refine (cell_Norm.calls k2 _ _ y526 t529 _ ?side1 ?side2 A59.out).mono ?_); (case side1 => repeat (first | exact (Kd.R_reads' HO528.out).2.2 | (with_reducible refine Kd.C_alloc ?_ _) | (with_reducible refine Kd.C_drewN ?_ _) | (with_reducible refine Kd.C_drew ?_))); (case side2 => exact (Kd.R_reads' HO528.out).2.1); rintro e w74 ⟨v530, rfl, ho0, hb⟩; refine ⟨_, rfl, ?_⟩; replace HO_7 := kR HO_7 hb; have HO531 := Aside0.mk (Kd.R_lower (Kd.R_new' (Kd.R_new' ho0 (Kd.R_lt (krW HO525))) (Kd.R_lt (krW HO528))) (bZ_ (kwW HB))); replace HO525 := Aside0.mk (Kd.R_elder' (krW HO525) (Kd.R_base ho0) hb); replace HO528 := Aside0.mk (Kd.R_elder' (krW HO528) (Kd.R_base ho0) hb); replace HB := Aside0.mk (below_step (kwW HB) hb); (try clear hb); (try clear hb2); (try clear hk); (try clear hi); (try clear ho0)) | ((with_reducible refine gate_dst (N := 83) rfl ?_); refine Kd.R_lit k38 _ 38 ?hg (N := 83) ?hd (xs := ([] : List (S38))) (inner := []) (ok := fun _ => True) (okp := fun _ => True) ?hr ?hp (fun _ hk => hk) trivial (Below.refl _ _) (Nat.le_refl _) (by simp) ?_; (case hd => rfl); (case hg => rfl); (case hr => first | (go_simp; done) | (go_simp; rfl)); (case hp => exact (Reps.none _ _)); intro v533 w75 ho76 hb hg_ hnew_; clear hg_ hnew_; (first | rw [← Ny532.out] at ho76 | (simp only [Int.reduceToNat] at ho76; rw [← Ny532.out] at ho76)); replace HO_7 := kR HO_7 hb; have HO534 := Aside0.mk (Kd.R_lower (Kd.R_new' (Kd.R_new' (Kd.R_new' ho76 (Kd.R_lt (krW HO525))) (Kd.R_lt (krW HO528))) (Kd.R_lt (krW HO531))) (bZ_ (kwW HB))); replace HO525 := Aside0.mk (Kd.R_elder' (krW HO525) (Kd.R_base ho76) hb); replace HO528 := Aside0.mk (Kd.R_elder' (krW HO528) (Kd.R_base ho76) hb); replace HO531 := Aside0.mk (Kd.R_elder' (krW HO531) (Kd.R_base ho76) hb); replace HB := Aside0.mk (below_step (kwW HB) hb); clear hb ho76) | ((with_reducible refine gate_builtin (b := .append) (xs := #[.tmp 83, .tmp 84]) rfl ?_); at_builtin; refine Kd.R_append_rows k38 (w0 := w) w.heap.size rfl (.tmp 83) (.tmp 84) 29 38 (.agg #[(.string ⟨#[]⟩), (.string ⟨#[]⟩), (.int .i64 0), (.string ⟨#[]⟩), (.int .i64 0), (.bool false), (.int .i64 0), (.int .i64 0), (.int .i64 0), (.string ⟨#[]⟩)]) 112 rfl Try.underlying29 info38 rfl (by decide) (by omega) v533 y532 l0 _ _ _ (fun k_ => some k_ ≠ (.slice Ao72 t523.length co72 : Value).ownBlock ∧ some k_ ≠ (.slice Ao73 y526.length co73 : Value).ownBlock ∧ some k_ ≠ (v530 : Value).ownBlock) (fun _ => False) rfl rfl ?aO ?aR (fun _ _ h => h) (fun _ h => h.elim) ?aF ?aB ?aS ?aL ?_; (case aR => repeat (first | exact (Kd.C_below HR0.out HB.out) | (with_reducible refine Kd.C_alloc ?_ _) | (with_reducible refine Kd.C_drewN ?_ _) | (with_reducible refine Kd.C_drew ?_))); (case aB => exact (kwW HB)); (case aF => exact (fun k_ hk => ⟨Kd.fresh' (Kd.R_lt (krW HO525)) k_ hk, Kd.fresh' (Kd.R_lt (krW HO528)) k_ hk, Kd.fresh' (Kd.R_lt (krW HO531)) k_ hk⟩)); (case aO => exact (by (with_reducible repeat (first | apply Kd.R_alloc | apply Kd.R_drewN | apply Kd.R_drew)); exact Kd.R_mono HO534.out (fun _ hk => ⟨hk.1.1.2, ⟨hk.1.2, hk.2⟩⟩))); (case aS => exact (bZ_ (kwW HB))); (case aL => have := LMc60.out; omega); intro v536 w77 ho hb hg hat; rw [← Ny535.out] at ho; replace HO_7 := Aside0.mk (Kd.R_over' (krW HO_7) (Kd.R_typed (krW HO534)) (by decide) hg); replace HO525 := Aside0.mk (Kd.R_after (ok := (fun k_ => some k_ ≠ (.slice Ao73 y526.length co73 : Value).ownBlock ∧ some k_ ≠ (v530 : Value).ownBlock)) (by (with_reducible repeat (first | apply Kd.R_alloc | apply Kd.R_drewN | apply Kd.R_drew)); exact Kd.R_mono HO525.out (fun _ hk => ⟨⟨hk.1.1.2, hk.1.2⟩, hk.2⟩)) hg hat); replace HO528 := Aside0.mk (Kd.R_after (ok := (fun k_ => some k_ ≠ (.slice Ao72 t523.length co72 : Value).ownBlock ∧ some k_ ≠ (v530 : Value).ownBlock)) (krW HO528) hg hat); replace HO531 := Aside0.mk (Kd.R_after (ok := (fun k_ => some k_ ≠ (.slice Ao72 t523.length co72 : Value).ownBlock ∧ some k_ ≠ (.slice Ao73 y526.length co73 : Value).ownBlock)) (by (with_reducible repeat (first | apply Kd.R_alloc | apply Kd.R_drewN | apply Kd.R_drew)); exact Kd.R_mono HO531.out (fun _ hk => ⟨⟨hk.1.1.2, hk.1.2⟩, hk.2⟩)) hg hat); replace HB := Aside0.mk (hb); have HO537 := Aside0.mk (ho); clear HO534; clear ho hb hg hat) | ((with_reducible refine gate_builtin (b := .append) (xs := #[.tmp 85, .tmp 86]) rfl ?_); at_builtin; refine Kd.R_append_rows k38 (w0 := w) w.heap.size rfl (.tmp 85) (.tmp 86) 29 38 (.agg #[(.string ⟨#[]⟩), (.string ⟨#[]⟩), (.int .i64 0), (.string ⟨#[]⟩), (.int .i64 0), (.bool false), (.int .i64 0), (.int .i64 0), (.int .i64 0), (.string ⟨#[]⟩)]) 112 rfl Try.underlying29 info38 rfl (by decide) (by omega) v536 y535 l1 _ _ _ (fun k_ => some k_ ≠ (.slice Ao72 t523.length co72 : Value).ownBlock ∧ some k_ ≠ (.slice Ao73 y526.length co73 : Value).ownBlock ∧ some k_ ≠ (v530 : Value).ownBlock) (fun _ => False) rfl rfl ?aO ?aR (fun _ _ h => h) (fun _ h => h.elim) ?aF ?aB ?aS ?aL ?_; (case aR => repeat (first | exact (Kd.C_below HR1.out HB.out) | (with_reducible refine Kd.C_alloc ?_ _) | (with_reducible refine Kd.C_drewN ?_ _) | (with_reducible refine Kd.C_drew ?_))); (case aB => exact (kwW HB)); (case aF => exact (fun k_ hk => ⟨Kd.fresh' (Kd.R_lt (krW HO525)) k_ hk, Kd.fresh' (Kd.R_lt (krW HO528)) k_ hk, Kd.fresh' (Kd.R_lt (krW HO531)) k_ hk⟩)); (case aO => exact (krW HO537)); (case aS => exact (bZ_ (kwW HB))); (case aL => have := LMc61.out; omega); intro v539 w78 ho hb hg hat; rw [← Ny538.out] at ho; replace HO_7 := Aside0.mk (Kd.R_over' (krW HO_7) (Kd.R_typed (krW HO537)) (by decide) hg); replace HO525 := Aside0.mk (Kd.R_after (ok := (fun k_ => some k_ ≠ (.slice Ao73 y526.length co73 : Value).ownBlock ∧ some k_ ≠ (v530 : Value).ownBlock)) (krW HO525) hg hat); replace HO528 := Aside0.mk (Kd.R_after (ok := (fun k_ => some k_ ≠ (.slice Ao72 t523.length co72 : Value).ownBlock ∧ some k_ ≠ (v530 : Value).ownBlock)) (krW HO528) hg hat); replace HO531 := Aside0.mk (Kd.R_after (ok := (fun k_ => some k_ ≠ (.slice Ao72 t523.length co72 : Value).ownBlock ∧ some k_ ≠ (.slice Ao73 y526.length co73 : Value).ownBlock)) (krW HO531) hg hat); replace HB := Aside0.mk (hb); have HO540 := Aside0.mk (ho); clear HO537; clear ho hb hg hat; obtain ⟨Ao79, co79, eo79⟩ := Kd.R_slice HO540.out; subst eo79) | ((with_reducible refine gate_callee (f := 24) rfl ?_); refine goesL_ (some 88) rfl rfl Try.func24 (by kernel_rfl) rfl #[.slice Ao79 y538.length co79] rfl (by (try simp only [mT_, mC_, mN_]); first | done | rfl) ?_; (with_reducible refine (cell_Norm.calls k2 _ _ y538 t541 _ ?side1 ?side2 A62.out).mono ?_); (case side1 => repeat (first | exact (Kd.R_reads' HO540.out).2.2 | (with_reducible refine Kd.C_alloc ?_ _) | (with_reducible refine Kd.C_drewN ?_ _) | (with_reducible refine Kd.C_drew ?_))); (case side2 => exact (Kd.R_reads' HO540.out).2.1); rintro e w80 ⟨v542, rfl, ho0, hb⟩; refine ⟨_, rfl, ?_⟩; replace HO_7 := kR HO_7 hb; have HO543 := Aside0.mk (Kd.R_lower (Kd.R_new' (Kd.R_new' (Kd.R_new' (Kd.R_new' ho0 (Kd.R_lt (krW HO525))) (Kd.R_lt (krW HO528))) (Kd.R_lt (krW HO531))) (Kd.R_lt (krW HO540))) (bZ_ (kwW HB))); replace HO525 := Aside0.mk (Kd.R_elder' (krW HO525) (Kd.R_base ho0) hb); replace HO528 := Aside0.mk (Kd.R_elder' (krW HO528) (Kd.R_base ho0) hb); replace HO531 := Aside0.mk (Kd.R_elder' (krW HO531) (Kd.R_base ho0) hb); replace HO540 := Aside0.mk (Kd.R_elder' (krW HO540) (Kd.R_base ho0) hb); replace HB := Aside0.mk (below_step (kwW HB) hb); (try clear hb); (try clear hb2); (try clear hk); (try clear hi); (try clear ho0); obtain ⟨Ao81, co81, eo81⟩ := Kd.R_slice HO531.out; subst eo81; obtain ⟨Ao82, co82, eo82⟩ := Kd.R_slice HO543.out; subst eo82) | ((with_reducible refine gate_callee (f := 20) rfl ?_); refine goesL_ (some 91) rfl rfl Try.func20 (by kernel_rfl) rfl #[.slice Ao81 t529.length co81, .slice Ao82 t541.length co82] rfl (by (try simp only [mT_, mC_, mN_]); first | done | rfl) ?_; (with_reducible refine (skerryref01_Like.calls k2 _ _ t529 _ _ t541 true _ ?side1 ?side2 ?side3 ?side4 A63.out).mono ?_); (case side1 => repeat (first | exact (Kd.R_reads' HO531.out).2.2 | (with_reducible refine Kd.C_alloc ?_ _) | (with_reducible refine Kd.C_drewN ?_ _) | (with_reducible refine Kd.C_drew ?_))); (case side2 => exact (Kd.R_reads' HO531.out).2.1); (case side3 => repeat (first | exact (Kd.R_reads' HO543.out).2.2 | (with_reducible refine Kd.C_alloc ?_ _) | (with_reducible refine Kd.C_drewN ?_ _) | (with_reducible refine Kd.C_drew ?_))); (case side4 => exact (Kd.R_reads' HO543.out).2.1); rintro e w' ⟨rfl, ⟨nd, rfl⟩⟩; refine ⟨_, rfl, ?_⟩) | (go_at_call 8; (with_reducible refine (skerrylaw22_lives.calls k2  t545 _ A65.out).mono ?_); rintro e w83 ⟨rfl, hb⟩; replace HO_7 := kR HO_7 hb; replace HO525 := kR HO525 hb; replace HO528 := kR HO528 hb; replace HO531 := kR HO531 hb; replace HO540 := kR HO540 hb; replace HO543 := kR HO543 hb; replace HB := Aside0.mk (below_step (kwW HB) hb); (try clear hb); (try clear hb2); (try clear hk); (try clear hi)))
       go_ret
       exact ⟨by first | rfl | (simp <;> rfl) | (simp [*] <;> rfl), kwW HB⟩
      rw [if_pos c36] at H
      have c36b0 : decide (x43_2 < (t500.length : Int)) = true := decide_eq_true c36
      clear c36
      obtain ⟨y503, hy503⟩ : ∃ y_ : List Int, y_ = (([x43_2] : List Int)) := ⟨_, rfl⟩
      replace H : ((tree_Pick.f k2 l0 a2 y503).bind fun t506 => ((tree_Pick.f k2 l1 a2 (([x43_2] : List Int))).bind fun t512 => ((skerryref01_Like.f k2 t506 t512).bind fun t515 => (skerrylaw22_TreeFinds.l1 k2 l0 l1 a2 t497 x43_2 t515 false (t500.length : Int) x43_2 t497 (t497.length : Int) 0)))) = some r := by first | (rw [hy503]; with_reducible exact H) | (have H2_ := (Option.bind_some _ _).symm.trans H; rw [hy503]; with_reducible exact H2_) | (have H2_ := (Option.bind_some _ _).symm.trans H; with_reducible exact H2_) | with_reducible exact H | (rw [hy503]; exact H) | exact H
      have Ny503 := Aside0.mk hy503
      clear hy503
      replace H := Option.bind_eq_some_iff.mp H
      obtain ⟨t506, A370, H⟩ := H
      have A37 := Aside0.mk A370
      clear A370
      obtain ⟨y509, hy509⟩ : ∃ y_ : List Int, y_ = (([x43_2] : List Int)) := ⟨_, rfl⟩
      replace H : ((tree_Pick.f k2 l1 a2 y509).bind fun t512 => ((skerryref01_Like.f k2 t506 t512).bind fun t515 => (skerrylaw22_TreeFinds.l1 k2 l0 l1 a2 t497 x43_2 t515 false (t500.length : Int) x43_2 t497 (t497.length : Int) 0))) = some r := by first | (rw [hy509]; with_reducible exact H) | (have H2_ := (Option.bind_some _ _).symm.trans H; rw [hy509]; with_reducible exact H2_) | (have H2_ := (Option.bind_some _ _).symm.trans H; with_reducible exact H2_) | with_reducible exact H | (rw [hy509]; exact H) | exact H
      have Ny509 := Aside0.mk hy509
      clear hy509
      replace H := Option.bind_eq_some_iff.mp H
      obtain ⟨t512, A380, H⟩ := H
      have A38 := Aside0.mk A380
      clear A380
      replace H := Option.bind_eq_some_iff.mp H
      obtain ⟨t515, A390, H⟩ := H
      have A39 := Aside0.mk A390
      clear A390
      have H' := Aside0.mk H
      clear H
      go_wp2_with (first | ((with_reducible refine gate_dst (N := 49) rfl ?_); refine Kd.R_lit (Kd.int .i64) _ 3 ?hg (N := 49) ?hd (xs := ([x43_2] : List Int)) (inner := [.int .i64 x43_2]) (ok := fun _ => True) (okp := fun _ => True) ?hr ?hp (fun _ hk => hk) trivial (Below.refl _ _) (Nat.le_refl _) (by simp) ?_; (case hd => rfl); (case hg => rfl); (case hr => first | (go_simp; done) | (go_simp; rfl)); (case hp => exact (Reps.one (show Kd.M (Kd.int .i64) _ _ _ x43_2 [.int .i64 x43_2] from rfl) (Reps.none _ _))); intro v504 w40 ho41 hb hg_ hnew_; clear hg_ hnew_; (first | rw [← Ny503.out] at ho41 | (simp only [Int.reduceToNat] at ho41; rw [← Ny503.out] at ho41)); have HO505 := Aside0.mk (Kd.R_lower (Kd.R_new' ho41 (Kd.R_lt (krW HO_7))) (bZ_ (kwW HB))); replace HO_7 := Aside0.mk (Kd.R_elder' (krW HO_7) (Kd.R_base ho41) hb); replace HB := Aside0.mk (below_step (kwW HB) hb); clear hb ho41; obtain ⟨Ao42, co42, eo42⟩ := Kd.R_slice HO505.out; subst eo42) | ((with_reducible refine gate_callee (f := 21) rfl ?_); refine goesL_ (some 50) rfl rfl Try.func21 (by kernel_rfl) rfl #[.slice A0 l0.length c0, .int .i64 a2, .slice Ao42 y503.length co42] rfl (by (try simp only [mT_, mC_, mN_]); first | done | rfl) ?_; (with_reducible refine (tree_Pick.calls k2 _ _ l0 a2 _ _ y503 t506 _ ?side1 ?side2 ?side3 ?side4 A37.out).mono ?_); (case side1 => repeat (first | exact (Kd.C_below HR0.out HB.out) | (with_reducible refine Kd.C_alloc ?_ _) | (with_reducible refine Kd.C_drewN ?_ _) | (with_reducible refine Kd.C_drew ?_))); (case side2 => exact HC0.out); (case side3 => repeat (first | exact (Kd.R_reads' HO505.out).2.2 | (with_reducible refine Kd.C_alloc ?_ _) | (with_reducible refine Kd.C_drewN ?_ _) | (with_reducible refine Kd.C_drew ?_))); (case side4 => exact (Kd.R_reads' HO505.out).2.1); rintro e w43 ⟨v507, rfl, ho0, hb⟩; refine ⟨_, rfl, ?_⟩; replace HO_7 := kR HO_7 hb; replace HO505 := kR HO505 hb; have HO508 := Aside0.mk (Kd.R_lower ho0 (bZ_ (kwW HB))); replace HB := Aside0.mk (below_step (kwW HB) hb); (try clear hb); (try clear hb2); (try clear hk); (try clear hi); (try clear ho0)) | ((with_reducible refine gate_dst (N := 54) rfl ?_); refine Kd.R_lit (Kd.int .i64) _ 3 ?hg (N := 54) ?hd (xs := ([x43_2] : List Int)) (inner := [.int .i64 x43_2]) (ok := fun _ => True) (okp := fun _ => True) ?hr ?hp (fun _ hk => hk) trivial (Below.refl _ _) (Nat.le_refl _) (by simp) ?_; (case hd => rfl); (case hg => rfl); (case hr => first | (go_simp; done) | (go_simp; rfl)); (case hp => exact (Reps.one (show Kd.M (Kd.int .i64) _ _ _ x43_2 [.int .i64 x43_2] from rfl) (Reps.none _ _))); intro v510 w44 ho45 hb hg_ hnew_; clear hg_ hnew_; (first | rw [← Ny509.out] at ho45 | (simp only [Int.reduceToNat] at ho45; rw [← Ny509.out] at ho45)); replace HO508 := kR HO508 hb; have HO511 := Aside0.mk (Kd.R_lower (Kd.R_new' (Kd.R_new' ho45 (Kd.R_lt (krW HO_7))) (Kd.R_lt (krW HO505))) (bZ_ (kwW HB))); replace HO_7 := Aside0.mk (Kd.R_elder' (krW HO_7) (Kd.R_base ho45) hb); replace HO505 := Aside0.mk (Kd.R_elder' (krW HO505) (Kd.R_base ho45) hb); replace HB := Aside0.mk (below_step (kwW HB) hb); clear hb ho45; obtain ⟨Ao46, co46, eo46⟩ := Kd.R_slice HO511.out; subst eo46) | ((with_reducible refine gate_callee (f := 21) rfl ?_); refine goesL_ (some 55) rfl rfl Try.func21 (by kernel_rfl) rfl #[.slice A1 l1.length c1, .int .i64 a2, .slice Ao46 y509.length co46] rfl (by (try simp only [mT_, mC_, mN_]); first | done | rfl) ?_; (with_reducible refine (tree_Pick.calls k2 _ _ l1 a2 _ _ y509 t512 _ ?side1 ?side2 ?side3 ?side4 A38.out).mono ?_); (case side1 => repeat (first | exact (Kd.C_below HR1.out HB.out) | (with_reducible refine Kd.C_alloc ?_ _) | (with_reducible refine Kd.C_drewN ?_ _) | (with_reducible refine Kd.C_drew ?_))); (case side2 => exact HC1.out); (case side3 => repeat (first | exact (Kd.R_reads' HO511.out).2.2 | (with_reducible refine Kd.C_alloc ?_ _) | (with_reducible refine Kd.C_drewN ?_ _) | (with_reducible refine Kd.C_drew ?_))); (case side4 => exact (Kd.R_reads' HO511.out).2.1); rintro e w47 ⟨v513, rfl, ho0, hb⟩; refine ⟨_, rfl, ?_⟩; replace HO_7 := kR HO_7 hb; replace HO505 := kR HO505 hb; replace HO511 := kR HO511 hb; have HO514 := Aside0.mk (Kd.R_lower (Kd.R_new' ho0 (Kd.R_lt (krW HO508))) (bZ_ (kwW HB))); replace HO508 := Aside0.mk (Kd.R_elder' (krW HO508) (Kd.R_base ho0) hb); replace HB := Aside0.mk (below_step (kwW HB) hb); (try clear hb); (try clear hb2); (try clear hk); (try clear hi); (try clear ho0); obtain ⟨Ao48, co48, eo48⟩ := Kd.R_slice HO508.out; subst eo48; obtain ⟨Ao49, co49, eo49⟩ := Kd.R_slice HO514.out; subst eo49) | ((with_reducible refine gate_callee (f := 20) rfl ?_); refine goesL_ (some 56) rfl rfl Try.func20 (by kernel_rfl) rfl #[.slice Ao48 t506.length co48, .slice Ao49 t512.length co49] rfl (by (try simp only [mT_, mC_, mN_]); first | done | rfl) ?_; (with_reducible refine (skerryref01_Like.calls k2 _ _ t506 _ _ t512 t515 _ ?side1 ?side2 ?side3 ?side4 A39.out).mono ?_); (case side1 => repeat (first | exact (Kd.R_reads' HO508.out).2.2 | (with_reducible refine Kd.C_alloc ?_ _) | (with_reducible refine Kd.C_drewN ?_ _) | (with_reducible refine Kd.C_drew ?_))); (case side2 => exact (Kd.R_reads' HO508.out).2.1); (case side3 => repeat (first | exact (Kd.R_reads' HO514.out).2.2 | (with_reducible refine Kd.C_alloc ?_ _) | (with_reducible refine Kd.C_drewN ?_ _) | (with_reducible refine Kd.C_drew ?_))); (case side4 => exact (Kd.R_reads' HO514.out).2.1); rintro e w' ⟨rfl, ⟨nd, rfl⟩⟩; refine ⟨_, rfl, ?_⟩; obtain ⟨Ao50, co50, eo50⟩ := Kd.R_slice HO_7.out; subst eo50))
      go_loopg [10, 59] k2 (fun kq v10 v59 w' => ∃ (x10_3 : Bool) (x59_3 : Int), v10 = .bool x10_3 ∧ v59 = .int .i64 x59_3 ∧ Aside0 (skerrylaw22_TreeFinds.l1 kq l0 l1 a2 t497 x43_2 t515 x10_3 (t500.length : Int) x43_2 t497 (t497.length : Int) x59_3 = some r) ∧ Aside0 (kq ≤ k2) ∧ Aside0 (Kd.R (Kd.int .i64) 3 w' w.heap.size (fun _ => True) (.slice Ao50 t497.length co50) t497) ∧ Aside0 (Kd.R (Kd.int .i64) 3 w' w.heap.size (fun _ => True) (.slice Ao50 t497.length co50) t497) ∧ Aside0 (Below w.heap.size w w'))
      case atStart => exact ⟨(false), (0), (by first | rfl | (simp; done) | (simp [bne, *]; done)), (by first | rfl | (simp; done) | (simp [bne, *]; done)), H', ⟨Nat.le_refl _⟩, ⟨by (with_reducible repeat (first | apply Kd.R_alloc | apply Kd.R_drewN | apply Kd.R_drew)); exact Kd.R_mono HO_7.out (fun _ hk => trivial)⟩, ⟨by (with_reducible repeat (first | apply Kd.R_alloc | apply Kd.R_drewN | apply Kd.R_drew)); exact Kd.R_mono HO_7.out (fun _ hk => trivial)⟩, ⟨kwW HB⟩⟩
      case round =>
       clear H'
       try clear c1
       try clear c2
       try clear p2
       try clear c3
       try clear c5
       try clear c6
       try clear c6b0
       try clear c8
       try clear c9
       try clear c9b0
       try clear c13
       try clear c15
       try clear c16
       try clear c18
       try clear c20
       try clear c21
       try clear c36
       try clear c36b0
       try clear p2
       obtain ⟨x10_3, x59_3, rfl, rfl, HA, HK3, HO_7, HO_57, HB⟩ := hrel
       cases gk with
       | zero => exact absurd HA.out (by simp [skerrylaw22_TreeFinds.l1])
       | succ k3 =>
        have H := HA.out
        clear HA
        simp only [skerrylaw22_TreeFinds.l1] at H
        by_cases c51 : x59_3 < (t497.length : Int)
        rotate_left
        ·
         rw [if_neg c51] at H
         have c51b0 : decide (x59_3 < (t497.length : Int)) = false := decide_eq_false c51
         clear c51
         by_cases c55 : (x10_3 == t515) = true
         ·
          rw [if_pos c55] at H
          exact absurd H (by simp)
         ·
          rw [if_neg c55] at H
          have c55b0 : (x10_3 == t515) = false := by simpa using c55
          (try (have c55b1 : decide (x10_3 = t515) = false := by simpa using c55))
          (try (have c55b2 : (x10_3 == t515) = false := by simpa using c55))
          (try (have c55b3 : ¬ (x10_3 = t515) := by simpa using c55))
          clear c55
          have H' := Aside0.mk H
          clear H
          go_wp2
          go_roundg k3
          case measure => have := HJ3.out; have := HK2.out; have := HK3.out; omega
          case rel => exact ⟨(wrap64 (x43_2 + 1)), (by first | rfl | (simp; done) | (simp [bne, *]; done)), H', ⟨by have := HJ3.out; have := HK2.out; have := HK3.out; omega⟩, ⟨krW HO_7⟩, ⟨kwW HB⟩⟩
        rw [if_pos c51] at H
        have c51b0 : decide (x59_3 < (t497.length : Int)) = true := decide_eq_true c51
        clear c51
        by_cases c52 : 0 ≤ x59_3
        rotate_left
        ·
         rw [if_neg c52] at H
         exact absurd H (by simp)
        rw [if_pos c52] at H
        have c52b0 : decide (0 ≤ x59_3) = true := decide_eq_true c52
        clear c52
        by_cases c53 : x59_3 < (t497.length : Int)
        rotate_left
        ·
         rw [if_neg c53] at H
         exact absurd H (by simp)
        rw [if_pos c53] at H
        have c53b0 : decide (x59_3 < (t497.length : Int)) = true := decide_eq_true c53
        clear c53
        by_cases c54 : x10_3 = true
        ·
         subst c54
         have H1 : (skerrylaw22_TreeFinds.l1 k3 l0 l1 a2 t497 x43_2 t515 true (t500.length : Int) x43_2 t497 (t497.length : Int) (wrap64 (x59_3 + 1))) = some r := by rw [if_pos rfl] at H; exact H
         clear H
         have H := H1
         clear H1
         have H' := Aside0.mk H
         clear H
         have p516 : 0 ≤ (x59_3 : Int) := of_decide_eq_true (by first | (with_reducible assumption) | assumption)
         have q516 : x59_3 < (t497.length : Int) := of_decide_eq_true (by first | (with_reducible assumption) | assumption)
         obtain ⟨ad516, e516, hx516_0⟩ := Kd.at_int (Kd.R_reads' HO_57.out).2.2 x59_3 p516 q516
         cases e516
         replace p516 := eq_true p516
         replace q516 := eq_true q516
         go_wp2
         go_roundg k3
         case measure => have := HJ3.out; have := HK2.out; have := HK3.out; omega
         case rel => exact ⟨(true), (wrap64 (x59_3 + 1)), (by first | rfl | (simp; done) | (simp [bne, *]; done)), (by first | rfl | (simp; done) | (simp [bne, *]; done)), H', ⟨by have := HJ3.out; have := HK2.out; have := HK3.out; omega⟩, ⟨krW HO_7⟩, ⟨krW HO_57⟩, ⟨kwW HB⟩⟩
        ·
         replace c54 := Bool.eq_false_iff.mpr c54
         subst c54
         have H1 : (skerrylaw22_TreeFinds.l1 k3 l0 l1 a2 t497 x43_2 t515 ((rd t497 x59_3) == x43_2) (t500.length : Int) x43_2 t497 (t497.length : Int) (wrap64 (x59_3 + 1))) = some r := by rw [if_neg (show ¬ (false = true) by decide)] at H; exact H
         clear H
         have H := H1
         clear H1
         have H' := Aside0.mk H
         clear H
         have p516 : 0 ≤ (x59_3 : Int) := of_decide_eq_true (by first | (with_reducible assumption) | assumption)
         have q516 : x59_3 < (t497.length : Int) := of_decide_eq_true (by first | (with_reducible assumption) | assumption)
         obtain ⟨ad516, e516, hx516_0⟩ := Kd.at_int (Kd.R_reads' HO_57.out).2.2 x59_3 p516 q516
         cases e516
         replace p516 := eq_true p516
         replace q516 := eq_true q516
         go_wp2
         go_roundg k3
         case measure => have := HJ3.out; have := HK2.out; have := HK3.out; omega
         case rel => exact ⟨(((rd t497 x59_3) == x43_2)), (wrap64 (x59_3 + 1)), (by first | rfl | (simp; done) | (simp [bne, *]; done)), (by first | rfl | (simp; done) | (simp [bne, *]; done)), H', ⟨by have := HJ3.out; have := HK2.out; have := HK3.out; omega⟩, ⟨krW HO_7⟩, ⟨krW HO_57⟩, ⟨kwW HB⟩⟩
end Go.Proofs.Ytafhnjlihhfoaaa.Q
