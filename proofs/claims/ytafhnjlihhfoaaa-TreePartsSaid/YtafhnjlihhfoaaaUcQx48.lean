/- Lemmas for this claim's walk: no condition of their own. -/
import Derived.Test.YtafhnjlihhfoaaaUcSq
import Derived.Test.YtafhnjlihhfoaaaUcQx0
import Derived.Test.YtafhnjlihhfoaaaUcQx15
import Derived.Test.YtafhnjlihhfoaaaUcJ16
import Derived.Test.YtafhnjlihhfoaaaUcQx17
import Derived.Test.YtafhnjlihhfoaaaUcQx29
import Derived.Test.YtafhnjlihhfoaaaUcQx45
import Derived.Test.YtafhnjlihhfoaaaUcQx47
namespace Go.Proofs.Ytafhnjlihhfoaaa.Q
open Go.RowKit Go.Proofs.YtafhnjlihhfoaaaW.PrintWords Go.Proofs.YtafhnjlihhfoaaaW.PrintLast Go.Proofs.YtafhnjlihhfoaaaW.PrintMore
attribute [local go_sem] max2_int min2_int max_two min_two max_three min_three max_four min_four
set_option linter.unusedVariables false
set_option linter.unusedSimpArgs false
def skerrylaw22_TreeDiffs.j0 : Nat → List Int → List Int → Bool → Option (Bool)
 | 0, _, _, _ => none
 | k + 1, x0, x1, x14 => if x14 = true then ((skerrylaw22_lives.f k).bind fun t467 => (some t467)) else ((tree_Build.f x0).bind fun t468 => ((tree_Build.f x1).bind fun t471 => ((skerryref22_Build.f k x0).bind fun t474 => ((skerryref01_Words.f k t468 t474).bind fun t477 => (if t477 = true then ((skerryref22_Build.f k x1).bind fun t478 => ((skerryref01_Words.f k t471 t478).bind fun t481 => (if t481 = true then ((tree_Diff.f t468 t471).bind fun t482 => ((skerryref22_Diff.f k t468 t471).bind fun t485 => ((skerryref01_Ints.f k t482 t485).bind fun t488 => (if t488 = true then ((tree_Diff.f x0 x1).bind fun t489 => ((skerryref22_Diff.f k x0 x1).bind fun t492 => ((skerryref01_Ints.f k t489 t492).bind fun t495 => (if t495 = true then ((skerrylaw22_lives.f k).bind fun t496 => (some t496)) else (none))))) else (none))))) else (none)))) else (none))))))
def skerrylaw22_TreeDiffs.f (k : Nat) (l0 : List Int) (l1 : List Int) : Option (Bool) := if (l0.length : Int) > 1000 then (skerrylaw22_TreeDiffs.j0 k l0 l1 true) else (skerrylaw22_TreeDiffs.j0 k l0 l1 (decide ((l1.length : Int) > 1000)))
set_option maxHeartbeats 8000000 in
set_option maxRecDepth 100000 in
theorem skerrylaw22_TreeDiffs.calls (k : Nat) (A0 : Option Addr) (c0 : Nat) (l0 : List Int) (A1 : Option Addr) (c1 : Nat) (l1 : List Int) (r : Bool) (w : World) (hr0 : Kd.C (Kd.int .u64) w A0 l0.length l0) (hc0 : l0.length ≤ c0) (hr1 : Kd.C (Kd.int .u64) w A1 l1.length l1) (hc1 : l1.length ≤ c1) (h : skerrylaw22_TreeDiffs.f k l0 l1 = some r) :
  Calls Try.prog 3 #[.slice A0 l0.length c0, .slice A1 l1.length c1] w fun e w' => e = .returned (.bool r) ∧ Below w.heap.size w w' := by
 have HR0 := Aside0.mk hr0
 have HC0 := Aside0.mk hc0
 clear hr0 hc0
 have HR1 := Aside0.mk hr1
 have HC1 := Aside0.mk hc1
 clear hr1 hc1
 have HB := Aside0.mk (Below.refl w.heap.size w)
 have H : (if (l0.length : Int) > 1000 then (skerrylaw22_TreeDiffs.j0 k l0 l1 true) else (skerrylaw22_TreeDiffs.j0 k l0 l1 (decide ((l1.length : Int) > 1000)))) = some r := h
 clear h
 have HC3 := Aside0.mk H
 clear H
 go_enter Try.func3, Try.ntmps3
 go_upto_region 1 with (fail)
 go_cut [14] (fun v14 wc => ∃ (kq : Nat) (x14_2 : Bool), v14 = .bool x14_2 ∧ Aside0 (skerrylaw22_TreeDiffs.j0 kq l0 l1 x14_2 = some r) ∧ Aside0 (kq ≤ k) ∧ Aside0 (Below w.heap.size w wc))
 case first =>
  have H := HC3.out
  clear HC3
  by_cases c4 : (l0.length : Int) > 1000
  ·
   rw [if_pos c4] at H
   have c4b0 : decide (1000 < (l0.length : Int)) = true := decide_eq_true c4
   have c4b1 : decide (1000 < l0.length) = true := decide_eq_true (by omega)
   clear c4
   (first | rw [c4b0] | (simp only [i64_w, i32_w]; rw [c4b0]) | skip)
   have H' := Aside0.mk H
   clear H
   go_wp2
   go_meet
   case rel => exact ⟨_, (true), (by first | rfl | (simp; done) | (simp [bne, *]; done)), H', ⟨by first | omega | exact Nat.le_refl _⟩, ⟨kwW HB⟩⟩
  ·
   rw [if_neg c4] at H
   have c4b0 : decide (1000 < (l0.length : Int)) = false := decide_eq_false c4
   have c4b1 : decide (1000 < l0.length) = false := decide_eq_false (by omega)
   clear c4
   (first | rw [c4b0] | (simp only [i64_w, i32_w]; rw [c4b0]) | skip)
   have H' := Aside0.mk H
   clear H
   go_wp2
   go_meet
   case rel => exact ⟨_, (decide ((l1.length : Int) > 1000)), (by first | rfl | (simp; done) | (simp [bne, *]; done)), H', ⟨by first | omega | exact Nat.le_refl _⟩, ⟨kwW HB⟩⟩
 case rest =>
  clear HC3
  try clear c1
  try clear p2
  try clear c3
  try clear c4
  try clear c4b0
  try clear c4b1
  obtain ⟨kq, x14_2, rfl, HA, HJ2, HB⟩ := hcut
  cases kq with
  | zero => exact absurd HA.out (by simp [skerrylaw22_TreeDiffs.j0])
  | succ kj2 =>
   have H := HA.out
   clear HA
   simp only [skerrylaw22_TreeDiffs.j0] at H
   by_cases c5 : x14_2 = true
   ·
    subst c5
    have H1 : ((skerrylaw22_lives.f kj2).bind fun t467 => (some t467)) = some r := by rw [if_pos rfl] at H; exact H
    clear H
    have H := H1
    clear H1
    replace H := Option.bind_eq_some_iff.mp H
    obtain ⟨t467, A60, H⟩ := H
    have A6 := Aside0.mk A60
    clear A60
    obtain rfl := Option.some.inj H
    go_wp2_with (first | ((with_reducible refine gate_callee (f := 8) rfl ?_); refine goesL_ (some 15) rfl rfl Try.func8 (by kernel_rfl) rfl #[] rfl (by (try simp only [mT_, mC_, mN_]); first | done | rfl) ?_; (with_reducible refine (skerrylaw22_lives.calls kj2  t467 _ A6.out).mono ?_); rintro e w7 ⟨rfl, hb⟩; refine ⟨_, rfl, ?_⟩; replace HB := Aside0.mk (below_step (kwW HB) hb); (try clear hb); (try clear hb2); (try clear hk); (try clear hi)))
    go_ret
    exact ⟨by first | rfl | (simp <;> rfl) | (simp [*] <;> rfl), kwW HB⟩
   ·
    replace c5 := Bool.eq_false_iff.mpr c5
    subst c5
    have H1 : ((tree_Build.f l0).bind fun t468 => ((tree_Build.f l1).bind fun t471 => ((skerryref22_Build.f kj2 l0).bind fun t474 => ((skerryref01_Words.f kj2 t468 t474).bind fun t477 => (if t477 = true then ((skerryref22_Build.f kj2 l1).bind fun t478 => ((skerryref01_Words.f kj2 t471 t478).bind fun t481 => (if t481 = true then ((tree_Diff.f t468 t471).bind fun t482 => ((skerryref22_Diff.f kj2 t468 t471).bind fun t485 => ((skerryref01_Ints.f kj2 t482 t485).bind fun t488 => (if t488 = true then ((tree_Diff.f l0 l1).bind fun t489 => ((skerryref22_Diff.f kj2 l0 l1).bind fun t492 => ((skerryref01_Ints.f kj2 t489 t492).bind fun t495 => (if t495 = true then ((skerrylaw22_lives.f kj2).bind fun t496 => (some t496)) else (none))))) else (none))))) else (none)))) else (none)))))) = some r := by rw [if_neg (show ¬ (false = true) by decide)] at H; exact H
    clear H
    have H := H1
    clear H1
    replace H := Option.bind_eq_some_iff.mp H
    obtain ⟨t468, A80, H⟩ := H
    have A8 := Aside0.mk A80
    clear A80
    replace H := Option.bind_eq_some_iff.mp H
    obtain ⟨t471, A90, H⟩ := H
    have A9 := Aside0.mk A90
    clear A90
    replace H := Option.bind_eq_some_iff.mp H
    obtain ⟨t474, A100, H⟩ := H
    have A10 := Aside0.mk A100
    clear A100
    replace H := Option.bind_eq_some_iff.mp H
    obtain ⟨t477, A110, H⟩ := H
    have A11 := Aside0.mk A110
    clear A110
    by_cases c12 : t477 = true
    rotate_left
    ·
     replace c12 := Bool.eq_false_iff.mpr c12
     subst c12
     have H1 : (none) = some r := by rw [if_neg (show ¬ (false = true) by decide)] at H; exact H
     clear H
     have H := H1
     clear H1
     exact absurd H (by simp)
    subst c12
    have H1 : ((skerryref22_Build.f kj2 l1).bind fun t478 => ((skerryref01_Words.f kj2 t471 t478).bind fun t481 => (if t481 = true then ((tree_Diff.f t468 t471).bind fun t482 => ((skerryref22_Diff.f kj2 t468 t471).bind fun t485 => ((skerryref01_Ints.f kj2 t482 t485).bind fun t488 => (if t488 = true then ((tree_Diff.f l0 l1).bind fun t489 => ((skerryref22_Diff.f kj2 l0 l1).bind fun t492 => ((skerryref01_Ints.f kj2 t489 t492).bind fun t495 => (if t495 = true then ((skerrylaw22_lives.f kj2).bind fun t496 => (some t496)) else (none))))) else (none))))) else (none)))) = some r := by rw [if_pos rfl] at H; exact H
    clear H
    have H := H1
    clear H1
    replace H := Option.bind_eq_some_iff.mp H
    obtain ⟨t478, A130, H⟩ := H
    have A13 := Aside0.mk A130
    clear A130
    replace H := Option.bind_eq_some_iff.mp H
    obtain ⟨t481, A140, H⟩ := H
    have A14 := Aside0.mk A140
    clear A140
    by_cases c15 : t481 = true
    rotate_left
    ·
     replace c15 := Bool.eq_false_iff.mpr c15
     subst c15
     have H1 : (none) = some r := by rw [if_neg (show ¬ (false = true) by decide)] at H; exact H
     clear H
     have H := H1
     clear H1
     exact absurd H (by simp)
    subst c15
    have H1 : ((tree_Diff.f t468 t471).bind fun t482 => ((skerryref22_Diff.f kj2 t468 t471).bind fun t485 => ((skerryref01_Ints.f kj2 t482 t485).bind fun t488 => (if t488 = true then ((tree_Diff.f l0 l1).bind fun t489 => ((skerryref22_Diff.f kj2 l0 l1).bind fun t492 => ((skerryref01_Ints.f kj2 t489 t492).bind fun t495 => (if t495 = true then ((skerrylaw22_lives.f kj2).bind fun t496 => (some t496)) else (none))))) else (none))))) = some r := by rw [if_pos rfl] at H; exact H
    clear H
    have H := H1
    clear H1
    replace H := Option.bind_eq_some_iff.mp H
    obtain ⟨t482, A160, H⟩ := H
    have A16 := Aside0.mk A160
    clear A160
    replace H := Option.bind_eq_some_iff.mp H
    obtain ⟨t485, A170, H⟩ := H
    have A17 := Aside0.mk A170
    clear A170
    replace H := Option.bind_eq_some_iff.mp H
    obtain ⟨t488, A180, H⟩ := H
    have A18 := Aside0.mk A180
    clear A180
    by_cases c19 : t488 = true
    rotate_left
    ·
     replace c19 := Bool.eq_false_iff.mpr c19
     subst c19
     have H1 : (none) = some r := by rw [if_neg (show ¬ (false = true) by decide)] at H; exact H
     clear H
     have H := H1
     clear H1
     exact absurd H (by simp)
    subst c19
    have H1 : ((tree_Diff.f l0 l1).bind fun t489 => ((skerryref22_Diff.f kj2 l0 l1).bind fun t492 => ((skerryref01_Ints.f kj2 t489 t492).bind fun t495 => (if t495 = true then ((skerrylaw22_lives.f kj2).bind fun t496 => (some t496)) else (none))))) = some r := by rw [if_pos rfl] at H; exact H
    clear H
    have H := H1
    clear H1
    replace H := Option.bind_eq_some_iff.mp H
    obtain ⟨t489, A200, H⟩ := H
    have A20 := Aside0.mk A200
    clear A200
    replace H := Option.bind_eq_some_iff.mp H
    obtain ⟨t492, A210, H⟩ := H
    have A21 := Aside0.mk A210
    clear A210
    replace H := Option.bind_eq_some_iff.mp H
    obtain ⟨t495, A220, H⟩ := H
    have A22 := Aside0.mk A220
    clear A220
    by_cases c23 : t495 = true
    rotate_left
    ·
     replace c23 := Bool.eq_false_iff.mpr c23
     subst c23
     have H1 : (none) = some r := by rw [if_neg (show ¬ (false = true) by decide)] at H; exact H
     clear H
     have H := H1
     clear H1
     exact absurd H (by simp)
    subst c23
    have H1 : ((skerrylaw22_lives.f kj2).bind fun t496 => (some t496)) = some r := by rw [if_pos rfl] at H; exact H
    clear H
    have H := H1
    clear H1
    replace H := Option.bind_eq_some_iff.mp H
    obtain ⟨t496, A240, H⟩ := H
    have A24 := Aside0.mk A240
    clear A240
    obtain rfl := Option.some.inj H
    go_wp2_with (first | ((with_reducible refine gate_callee (f := 9) rfl ?_); refine goesL_ (some 17) rfl rfl Try.func9 (by kernel_rfl) rfl #[.slice A0 l0.length c0] rfl (by (try simp only [mT_, mC_, mN_]); first | done | rfl) ?_; (with_reducible refine (tree_Build.calls _ _ l0 t468 _ ?side1 ?side2 A8.out).mono ?_); (case side1 => repeat (first | exact (Kd.C_below HR0.out HB.out) | (with_reducible refine Kd.C_alloc ?_ _) | (with_reducible refine Kd.C_drewN ?_ _) | (with_reducible refine Kd.C_drew ?_))); (case side2 => exact HC0.out); rintro e w25 ⟨v469, rfl, ho0, hb⟩; refine ⟨_, rfl, ?_⟩; have HO470 := Aside0.mk (Kd.R_lower ho0 (bZ_ (kwW HB))); replace HB := Aside0.mk (below_step (kwW HB) hb); (try clear hb); (try clear hb2); (try clear hk); (try clear hi); (try clear ho0)) | ((with_reducible refine gate_callee (f := 9) rfl ?_); refine goesL_ (some 19) rfl rfl Try.func9 (by kernel_rfl) rfl #[.slice A1 l1.length c1] rfl (by (try simp only [mT_, mC_, mN_]); first | done | rfl) ?_; (with_reducible refine (tree_Build.calls _ _ l1 t471 _ ?side1 ?side2 A9.out).mono ?_); (case side1 => repeat (first | exact (Kd.C_below HR1.out HB.out) | (with_reducible refine Kd.C_alloc ?_ _) | (with_reducible refine Kd.C_drewN ?_ _) | (with_reducible refine Kd.C_drew ?_))); (case side2 => exact HC1.out); rintro e w26 ⟨v472, rfl, ho0, hb⟩; refine ⟨_, rfl, ?_⟩; have HO473 := Aside0.mk (Kd.R_lower (Kd.R_new' ho0 (Kd.R_lt (krW HO470))) (bZ_ (kwW HB))); replace HO470 := Aside0.mk (Kd.R_elder' (krW HO470) (Kd.R_base ho0) hb); replace HB := Aside0.mk (below_step (kwW HB) hb); (try clear hb); (try clear hb2); (try clear hk); (try clear hi); (try clear ho0)) | ((with_reducible refine gate_callee (f := 11) rfl ?_); refine goesL_ (some 22) rfl rfl Try.func11 (by kernel_rfl) rfl #[.slice A0 l0.length c0] rfl (by (try simp only [mT_, mC_, mN_]); first | done | rfl) ?_; (with_reducible refine (skerryref22_Build.calls kj2 _ _ l0 t474 _ ?side1 ?side2 A10.out).mono ?_); (case side1 => repeat (first | exact (Kd.C_below HR0.out HB.out) | (with_reducible refine Kd.C_alloc ?_ _) | (with_reducible refine Kd.C_drewN ?_ _) | (with_reducible refine Kd.C_drew ?_))); (case side2 => exact HC0.out); rintro e w27 ⟨v475, rfl, ho0, hb⟩; refine ⟨_, rfl, ?_⟩; have HO476 := Aside0.mk (Kd.R_lower (Kd.R_new' (Kd.R_new' ho0 (Kd.R_lt (krW HO470))) (Kd.R_lt (krW HO473))) (bZ_ (kwW HB))); replace HO470 := Aside0.mk (Kd.R_elder' (krW HO470) (Kd.R_base ho0) hb); replace HO473 := Aside0.mk (Kd.R_elder' (krW HO473) (Kd.R_base ho0) hb); replace HB := Aside0.mk (below_step (kwW HB) hb); (try clear hb); (try clear hb2); (try clear hk); (try clear hi); (try clear ho0); obtain ⟨Ao28, co28, eo28⟩ := Kd.R_slice HO470.out; subst eo28; obtain ⟨Ao29, co29, eo29⟩ := Kd.R_slice HO476.out; subst eo29) | ((with_reducible refine gate_callee (f := 10) rfl ?_); refine goesL_ (some 23) rfl rfl Try.func10 (by kernel_rfl) rfl #[.slice Ao28 t468.length co28, .slice Ao29 t474.length co29] rfl (by (try simp only [mT_, mC_, mN_]); first | done | rfl) ?_; (with_reducible refine (skerryref01_Words.calls kj2 _ _ t468 _ _ t474 true _ ?side1 ?side2 ?side3 ?side4 A11.out).mono ?_); (case side1 => repeat (first | exact (Kd.R_reads' HO470.out).2.2 | (with_reducible refine Kd.C_alloc ?_ _) | (with_reducible refine Kd.C_drewN ?_ _) | (with_reducible refine Kd.C_drew ?_))); (case side2 => exact (Kd.R_reads' HO470.out).2.1); (case side3 => repeat (first | exact (Kd.R_reads' HO476.out).2.2 | (with_reducible refine Kd.C_alloc ?_ _) | (with_reducible refine Kd.C_drewN ?_ _) | (with_reducible refine Kd.C_drew ?_))); (case side4 => exact (Kd.R_reads' HO476.out).2.1); rintro e w' ⟨rfl, ⟨nd, rfl⟩⟩; refine ⟨_, rfl, ?_⟩) | (go_at_call 11; (with_reducible refine (skerryref22_Build.calls kj2 _ _ l1 t478 _ ?side1 ?side2 A13.out).mono ?_); (case side1 => repeat (first | exact (Kd.C_below HR1.out (kwW HB)) | (with_reducible refine Kd.C_alloc ?_ _) | (with_reducible refine Kd.C_drewN ?_ _) | (with_reducible refine Kd.C_drew ?_))); (case side2 => exact HC1.out); rintro e w30 ⟨v479, rfl, ho0, hb⟩; have HO480 := Aside0.mk (Kd.R_lower (Kd.R_new' (Kd.R_new' (Kd.R_new' ho0 (Kd.R_lt (krW HO470))) (Kd.R_lt (krW HO473))) (Kd.R_lt (krW HO476))) (bZ_ (kwW HB))); replace HO470 := Aside0.mk (Kd.R_elder' (krW HO470) (Kd.R_base ho0) hb); replace HO473 := Aside0.mk (Kd.R_elder' (krW HO473) (Kd.R_base ho0) hb); replace HO476 := Aside0.mk (Kd.R_elder' (krW HO476) (Kd.R_base ho0) hb); replace HB := Aside0.mk (below_step (kwW HB) hb); (try clear hb); (try clear hb2); (try clear hk); (try clear hi); (try clear ho0); obtain ⟨Ao31, co31, eo31⟩ := Kd.R_slice HO473.out; subst eo31; obtain ⟨Ao32, co32, eo32⟩ := Kd.R_slice HO480.out; subst eo32) | (go_at_call 10; (with_reducible refine (skerryref01_Words.calls kj2 _ _ t471 _ _ t478 true _ ?side1 ?side2 ?side3 ?side4 A14.out).mono ?_); (case side1 => repeat (first | exact (Kd.R_reads' HO473.out).2.2 | (with_reducible refine Kd.C_alloc ?_ _) | (with_reducible refine Kd.C_drewN ?_ _) | (with_reducible refine Kd.C_drew ?_))); (case side2 => exact (Kd.R_reads' HO473.out).2.1); (case side3 => repeat (first | exact (Kd.R_reads' HO480.out).2.2 | (with_reducible refine Kd.C_alloc ?_ _) | (with_reducible refine Kd.C_drewN ?_ _) | (with_reducible refine Kd.C_drew ?_))); (case side4 => exact (Kd.R_reads' HO480.out).2.1); rintro e w' ⟨rfl, ⟨nd, rfl⟩⟩) | (go_at_call 13; (with_reducible refine (tree_Diff.calls _ _ t468 _ _ t471 t482 _ ?side1 ?side2 ?side3 ?side4 A16.out).mono ?_); (case side1 => repeat (first | exact (Kd.R_reads' HO470.out).2.2 | (with_reducible refine Kd.C_alloc ?_ _) | (with_reducible refine Kd.C_drewN ?_ _) | (with_reducible refine Kd.C_drew ?_))); (case side2 => exact (Kd.R_reads' HO470.out).2.1); (case side3 => repeat (first | exact (Kd.R_reads' HO473.out).2.2 | (with_reducible refine Kd.C_alloc ?_ _) | (with_reducible refine Kd.C_drewN ?_ _) | (with_reducible refine Kd.C_drew ?_))); (case side4 => exact (Kd.R_reads' HO473.out).2.1); rintro e w33 ⟨v483, rfl, ho0, hb⟩; replace HO470 := kR HO470 hb; replace HO473 := kR HO473 hb; replace HO476 := kR HO476 hb; replace HO480 := kR HO480 hb; have HO484 := Aside0.mk (Kd.R_lower ho0 (bZ_ (kwW HB))); replace HB := Aside0.mk (below_step (kwW HB) hb); (try clear hb); (try clear hb2); (try clear hk); (try clear hi); (try clear ho0)) | (go_at_call 14; (with_reducible refine (skerryref22_Diff.calls kj2 _ _ t468 _ _ t471 t485 _ ?side1 ?side2 ?side3 ?side4 A17.out).mono ?_); (case side1 => repeat (first | exact (Kd.R_reads' HO470.out).2.2 | (with_reducible refine Kd.C_alloc ?_ _) | (with_reducible refine Kd.C_drewN ?_ _) | (with_reducible refine Kd.C_drew ?_))); (case side2 => exact (Kd.R_reads' HO470.out).2.1); (case side3 => repeat (first | exact (Kd.R_reads' HO473.out).2.2 | (with_reducible refine Kd.C_alloc ?_ _) | (with_reducible refine Kd.C_drewN ?_ _) | (with_reducible refine Kd.C_drew ?_))); (case side4 => exact (Kd.R_reads' HO473.out).2.1); rintro e w34 ⟨v486, rfl, ho0, hb⟩; replace HO470 := kR HO470 hb; replace HO473 := kR HO473 hb; replace HO476 := kR HO476 hb; replace HO480 := kR HO480 hb; have HO487 := Aside0.mk (Kd.R_lower (Kd.R_new' ho0 (Kd.R_lt (krW HO484))) (bZ_ (kwW HB))); replace HO484 := Aside0.mk (Kd.R_elder' (krW HO484) (Kd.R_base ho0) hb); replace HB := Aside0.mk (below_step (kwW HB) hb); (try clear hb); (try clear hb2); (try clear hk); (try clear hi); (try clear ho0); obtain ⟨Ao35, co35, eo35⟩ := Kd.R_slice HO484.out; subst eo35; obtain ⟨Ao36, co36, eo36⟩ := Kd.R_slice HO487.out; subst eo36) | (go_at_call 12; (with_reducible refine (skerryref01_Ints.calls kj2 _ _ t482 _ _ t485 true _ ?side1 ?side2 ?side3 ?side4 A18.out).mono ?_); (case side1 => repeat (first | exact (Kd.R_reads' HO484.out).2.2 | (with_reducible refine Kd.C_alloc ?_ _) | (with_reducible refine Kd.C_drewN ?_ _) | (with_reducible refine Kd.C_drew ?_))); (case side2 => exact (Kd.R_reads' HO484.out).2.1); (case side3 => repeat (first | exact (Kd.R_reads' HO487.out).2.2 | (with_reducible refine Kd.C_alloc ?_ _) | (with_reducible refine Kd.C_drewN ?_ _) | (with_reducible refine Kd.C_drew ?_))); (case side4 => exact (Kd.R_reads' HO487.out).2.1); rintro e w' ⟨rfl, ⟨nd, rfl⟩⟩) | (go_at_call 13; (with_reducible refine (tree_Diff.calls _ _ l0 _ _ l1 t489 _ ?side1 ?side2 ?side3 ?side4 A20.out).mono ?_); (case side1 => repeat (first | exact (Kd.C_below HR0.out (kwW HB)) | (with_reducible refine Kd.C_alloc ?_ _) | (with_reducible refine Kd.C_drewN ?_ _) | (with_reducible refine Kd.C_drew ?_))); (case side2 => exact HC0.out); (case side3 => repeat (first | exact (Kd.C_below HR1.out (kwW HB)) | (with_reducible refine Kd.C_alloc ?_ _) | (with_reducible refine Kd.C_drewN ?_ _) | (with_reducible refine Kd.C_drew ?_))); (case side4 => exact HC1.out); rintro e w37 ⟨v490, rfl, ho0, hb⟩; replace HO470 := kR HO470 hb; replace HO473 := kR HO473 hb; replace HO476 := kR HO476 hb; replace HO480 := kR HO480 hb; have HO491 := Aside0.mk (Kd.R_lower (Kd.R_new' (Kd.R_new' ho0 (Kd.R_lt (krW HO484))) (Kd.R_lt (krW HO487))) (bZ_ (kwW HB))); replace HO484 := Aside0.mk (Kd.R_elder' (krW HO484) (Kd.R_base ho0) hb); replace HO487 := Aside0.mk (Kd.R_elder' (krW HO487) (Kd.R_base ho0) hb); replace HB := Aside0.mk (below_step (kwW HB) hb); (try clear hb); (try clear hb2); (try clear hk); (try clear hi); (try clear ho0)) | (go_at_call 14; (with_reducible refine (skerryref22_Diff.calls kj2 _ _ l0 _ _ l1 t492 _ ?side1 ?side2 ?side3 ?side4 A21.out).mono ?_); (case side1 => repeat (first | exact (Kd.C_below HR0.out HB.out) | (with_reducible refine Kd.C_alloc ?_ _) | (with_reducible refine Kd.C_drewN ?_ _) | (with_reducible refine Kd.C_drew ?_))); (case side2 => exact HC0.out); (case side3 => repeat (first | exact (Kd.C_below HR1.out HB.out) | (with_reducible refine Kd.C_alloc ?_ _) | (with_reducible refine Kd.C_drewN ?_ _) | (with_reducible refine Kd.C_drew ?_))); (case side4 => exact HC1.out); rintro e w38 ⟨v493, rfl, ho0, hb⟩; replace HO470 := kR HO470 hb; replace HO473 := kR HO473 hb; replace HO476 := kR HO476 hb; replace HO480 := kR HO480 hb; have HO494 := Aside0.mk (Kd.R_lower (Kd.R_new' (Kd.R_new' (Kd.R_new' ho0 (Kd.R_lt (krW HO484))) (Kd.R_lt (krW HO487))) (Kd.R_lt (krW HO491))) (bZ_ (kwW HB))); replace HO484 := Aside0.mk (Kd.R_elder' (krW HO484) (Kd.R_base ho0) hb); replace HO487 := Aside0.mk (Kd.R_elder' (krW HO487) (Kd.R_base ho0) hb); replace HO491 := Aside0.mk (Kd.R_elder' (krW HO491) (Kd.R_base ho0) hb); replace HB := Aside0.mk (below_step (kwW HB) hb); (try clear hb); (try clear hb2); (try clear hk); (try clear hi); (try clear ho0); obtain ⟨Ao39, co39, eo39⟩ := Kd.R_slice HO491.out; subst eo39; obtain ⟨Ao40, co40, eo40⟩ := Kd.R_slice HO494.out; subst eo40) | (go_at_call 12; (with_reducible refine (skerryref01_Ints.calls kj2 _ _ t489 _ _ t492 true _ ?side1 ?side2 ?side3 ?side4 A22.out).mono ?_); (case side1 => repeat (first | exact (Kd.R_reads' HO491.out).2.2 | (with_reducible refine Kd.C_alloc ?_ _) | (with_reducible refine Kd.C_drewN ?_ _) | (with_reducible refine Kd.C_drew ?_))); (case side2 => exact (Kd.R_reads' HO491.out).2.1); (case side3 => repeat (first | exact (Kd.R_reads' HO494.out).2.2 | (with_reducible refine Kd.C_alloc ?_ _) | (with_reducible refine Kd.C_drewN ?_ _) | (with_reducible refine Kd.C_drew ?_))); (case side4 => exact (Kd.R_reads' HO494.out).2.1); rintro e w' ⟨rfl, ⟨nd, rfl⟩⟩) | (go_at_call 8; (with_reducible refine (skerrylaw22_lives.calls kj2  t496 _ A24.out).mono ?_); rintro e w41 ⟨rfl, hb⟩; replace HO470 := kR HO470 hb; replace HO473 := kR HO473 hb; replace HO476 := kR HO476 hb; replace HO480 := kR HO480 hb; replace HO484 := kR HO484 hb; replace HO487 := kR HO487 hb; replace HO491 := kR HO491 hb; replace HO494 := kR HO494 hb; replace HB := Aside0.mk (below_step (kwW HB) hb); (try clear hb); (try clear hb2); (try clear hk); (try clear hi)))
    go_ret
    exact ⟨by first | rfl | (simp <;> rfl) | (simp [*] <;> rfl), kwW HB⟩
def skerrylaw22_TreeDiffs.Pure : Prop := ∀ (l0 : List Int) (l1 : List Int), l0.length ≤ maxLen → l0.length * 8 ≤ 140737488351232 → (∀ x ∈ l0, (Lit.int .u64 x).wf = true) → l1.length ≤ maxLen → l1.length * 8 ≤ 140737488351232 → (∀ x ∈ l1, (Lit.int .u64 x).wf = true) → ∃ k, skerrylaw22_TreeDiffs.f k l0 l1 = some true
theorem skerrylaw22_TreeDiffs.walk (P : skerrylaw22_TreeDiffs.Pure) (a0 : Option Addr) (len0 cap0 : Nat) (z0 : List Int) (a1 : Option Addr) (len1 cap1 : Nat) (z1 : List Int) (w : World) (w0 : (a0 = none ∧ len0 = 0 ∧ cap0 = 0 ∧ z0 = []) ∨ ∃ x, a0 = some x ∧ len0 ≤ cap0 ∧ cap0 ≤ maxLen ∧ z0.length = cap0 ∧ (∀ i, i < z0.length → w.cell? (x.add i) = some (.int .u64 (z0.getD i 0))) ∧ ∀ n ∈ z0, (Lit.int .u64 n).wf = true) (y0 : len0 * 8 ≤ 140737488351232) (w1 : (a1 = none ∧ len1 = 0 ∧ cap1 = 0 ∧ z1 = []) ∨ ∃ x, a1 = some x ∧ len1 ≤ cap1 ∧ cap1 ≤ maxLen ∧ z1.length = cap1 ∧ (∀ i, i < z1.length → w.cell? (x.add i) = some (.int .u64 (z1.getD i 0))) ∧ ∀ n ∈ z1, (Lit.int .u64 n).wf = true) (y1 : len1 * 8 ≤ 140737488351232) :
  Calls Try.prog 3 #[.slice a0 len0 cap0, .slice a1 len1 cap1] w fun e w' => e = .returned (.bool true) ∧ Below w.heap.size w w' := by
 obtain ⟨l0, rfl, hr0, hm0, hw0, hc0⟩ := ReadsInt.ofRowC w0
 obtain ⟨l1, rfl, hr1, hm1, hw1, hc1⟩ := ReadsInt.ofRowC w1
 obtain ⟨k, h⟩ := P l0 l1 hm0 y0 hw0 hm1 y1 hw1
 refine (skerrylaw22_TreeDiffs.calls k _ _ l0 _ _ l1 true w (Kd.C_of_reads (d := (0 : Int)) (h1 := fun _ => rfl) hr0) hc0 (Kd.C_of_reads (d := (0 : Int)) (h1 := fun _ => rfl) hr1) hc1 h).mono ?_
 rintro e w' ⟨rfl, hd⟩
 exact ⟨rfl, hd⟩
end Go.Proofs.Ytafhnjlihhfoaaa.Q
