/- Lemmas for this claim's walk: no condition of their own. -/
import Derived.Test.YtafhnjlihhfoaaaUbJ13
import Derived.Test.YtafhnjlihhfoaaaUbQx0
import Derived.Test.YtafhnjlihhfoaaaUbJ15
import Derived.Test.YtafhnjlihhfoaaaUbQx26
import Derived.Test.YtafhnjlihhfoaaaUbQx27
import Derived.Test.YtafhnjlihhfoaaaUbQx31
import Derived.Test.YtafhnjlihhfoaaaUbQx35
import Derived.Test.YtafhnjlihhfoaaaUbQx38
import Derived.Test.YtafhnjlihhfoaaaUbJ41
namespace Go.Proofs.Ytafhnjlihhfoaaa.Q
open Go.RowKit Go.Proofs.YtafhnjlihhfoaaaW.PrintWords Go.Proofs.YtafhnjlihhfoaaaW.PrintLast Go.Proofs.YtafhnjlihhfoaaaW.PrintMore
attribute [local go_sem] max2_int min2_int max_two min_two max_three min_three max_four min_four
set_option linter.unusedVariables false
set_option linter.unusedSimpArgs false
mutual
def skerrylaw22_TreeLeaves.j0 : Nat → List (S38) → Int → List Int → Bool → Option (Bool)
 | 0, _, _, _, _ => none
 | k + 1, x0, x1, x2, x16 => if x16 = true then ((skerrylaw22_lives.f k).bind fun t370 => (some t370)) else (skerrylaw22_TreeLeaves.l0 k x0 x1 x2 x0 (x0.length : Int) 0)
def skerrylaw22_TreeLeaves.l0 : Nat → List (S38) → Int → List Int → List (S38) → Int → Int → Option (Bool)
 | 0, _, _, _, _, _, _ => none
 | k + 1, x0, x1, x2, x18, x19, x20 => if x20 < x19 then (if 0 ≤ x20 then (if x20 < (x18.length : Int) then ((tree_Bucket.f ((rd_T38 x18 x20).f0.f1) x1).bind fun t373 => ((skerryref22_Bucket.f k ((rd_T38 x18 x20).f0.f1) x1).bind fun t374 => (if t373 = t374 then (skerrylaw22_TreeLeaves.l0 k x0 x1 x2 x18 x19 (wrap64 (x20 + 1))) else (none)))) else (none)) else (none)) else ((tree_Leaves.f k x0 x1).bind fun t375 => ((skerryref22_Leaves.f k x0 x1).bind fun t378 => ((skerryref01_Words.f k t375 t378).bind fun t381 => (if t381 = true then ((tree_Pick.f k x0 x1 x2).bind fun t382 => ((skerryref22_Pick.f k x0 x1 x2).bind fun t385 => ((skerryref01_Like.f k t382 t385).bind fun t388 => (if t388 = true then ((skerrylaw22_lives.f k).bind fun t389 => (some t389)) else (none))))) else (none)))))
end
def skerrylaw22_TreeLeaves.f (k : Nat) (l0 : List (S38)) (a1 : Int) (l2 : List Int) : Option (Bool) := (skerrylaw22_weigh.f k l0 100).bind fun t369 => (if t369 > 100 then (skerrylaw22_TreeLeaves.j0 k l0 a1 l2 true) else (skerrylaw22_TreeLeaves.j0 k l0 a1 l2 (decide ((l2.length : Int) > 200))))
def skerrylaw22_TreeLeaves.T6 : Bool × List (List Nat × List Nat) := (true, [([], []), ([0], [0]), ([1], [1]), ([], []), ([2, 3], [2, 3]), ([], []), ([5], [5]), ([6], [6]), ([], []), ([7, 8, 4], [7, 8]), ([4, 9], [4, 9])])
def skerrylaw22_TreeLeaves.B6 : List Nat := [0, 1, 3, 0, 15, 0, 32, 96, 0, 511, 1023]
theorem skerrylaw22_TreeLeaves.tab6 : rtab .any (opsOf Try.f4 6) = skerrylaw22_TreeLeaves.T6 := by kernel_rfl
theorem skerrylaw22_TreeLeaves.bits6 : waitsOk skerrylaw22_TreeLeaves.T6.2 skerrylaw22_TreeLeaves.B6 = true := by kernel_rfl
set_option maxHeartbeats 8000000 in
set_option maxRecDepth 100000 in
theorem skerrylaw22_TreeLeaves.calls (k : Nat) (A0 : Option Addr) (c0 : Nat) (l0 : List (S38)) (a1 : Int) (A2 : Option Addr) (c2 : Nat) (l2 : List Int) (r : Bool) (w : World) (hr0 : Kd.C k38 w A0 l0.length l0) (hc0 : l0.length ≤ c0) (hr2 : Kd.C (Kd.int .i64) w A2 l2.length l2) (hc2 : l2.length ≤ c2) (h : skerrylaw22_TreeLeaves.f k l0 a1 l2 = some r) :
  Calls Try.prog 4 #[.slice A0 l0.length c0, .int .i64 a1, .slice A2 l2.length c2] w fun e w' => e = .returned (.bool r) ∧ Below w.heap.size w w' := by
 have hu38 := Try.underlying38
 have HR0 := Aside0.mk hr0
 have HC0 := Aside0.mk hc0
 clear hr0 hc0
 have HR2 := Aside0.mk hr2
 have HC2 := Aside0.mk hc2
 clear hr2 hc2
 have HB := Aside0.mk (Below.refl w.heap.size w)
 have H : ((skerrylaw22_weigh.f k l0 100).bind fun t369 => (if t369 > 100 then (skerrylaw22_TreeLeaves.j0 k l0 a1 l2 true) else (skerrylaw22_TreeLeaves.j0 k l0 a1 l2 (decide ((l2.length : Int) > 200))))) = some r := h
 clear h
 have HC4 := Aside0.mk H
 clear H
 go_enter Try.func4, Try.ntmps4
 go_upto_region 1 with (fail)
 go_cut [16] (fun v16 wc => ∃ (kq : Nat) (x16_3 : Bool), v16 = .bool x16_3 ∧ Aside0 (skerrylaw22_TreeLeaves.j0 kq l0 a1 l2 x16_3 = some r) ∧ Aside0 (kq ≤ k) ∧ Aside0 (Below w.heap.size w wc))
 case first =>
  have H := HC4.out
  clear HC4
  replace H := Option.bind_eq_some_iff.mp H
  obtain ⟨t369, A50, H⟩ := H
  have A5 := Aside0.mk A50
  clear A50
  by_cases c6 : t369 > 100
  ·
   rw [if_pos c6] at H
   have c6b0 : decide (100 < t369) = true := decide_eq_true c6
   clear c6
   (first | rw [c6b0] | (simp only [i64_w, i32_w]; rw [c6b0]) | skip)
   have H' := Aside0.mk H
   clear H
   go_wp2_with (first | ((with_reducible refine gate_callee (f := 15) rfl ?_); refine goesL_ (some 10) rfl rfl Try.func15 (by kernel_rfl) rfl #[.slice A0 l0.length c0, .int .i64 100] rfl (by (try simp only [mT_, mC_, mN_]); first | done | rfl) ?_; (with_reducible refine (skerrylaw22_weigh.calls k _ _ l0 100 t369 _ ?side1 ?side2 A5.out).mono ?_); (case side1 => repeat (first | exact (Kd.C_below HR0.out HB.out) | (with_reducible refine Kd.C_alloc ?_ _) | (with_reducible refine Kd.C_drewN ?_ _) | (with_reducible refine Kd.C_drew ?_))); (case side2 => exact HC0.out); rintro e w7 ⟨rfl, hb⟩; refine ⟨_, rfl, ?_⟩; replace HB := Aside0.mk (below_step (kwW HB) hb); (try clear hb); (try clear hb2); (try clear hk); (try clear hi)))
   go_meet
   case rel => exact ⟨_, (true), (by first | rfl | (simp; done) | (simp [bne, *]; done)), H', ⟨by first | omega | exact Nat.le_refl _⟩, ⟨kwW HB⟩⟩
  ·
   rw [if_neg c6] at H
   have c6b0 : decide (100 < t369) = false := decide_eq_false c6
   clear c6
   (first | rw [c6b0] | (simp only [i64_w, i32_w]; rw [c6b0]) | skip)
   have H' := Aside0.mk H
   clear H
   go_wp2_with (first | ((with_reducible refine gate_callee (f := 15) rfl ?_); refine goesL_ (some 10) rfl rfl Try.func15 (by kernel_rfl) rfl #[.slice A0 l0.length c0, .int .i64 100] rfl (by (try simp only [mT_, mC_, mN_]); first | done | rfl) ?_; (with_reducible refine (skerrylaw22_weigh.calls k _ _ l0 100 t369 _ ?side1 ?side2 A5.out).mono ?_); (case side1 => repeat (first | exact (Kd.C_below HR0.out HB.out) | (with_reducible refine Kd.C_alloc ?_ _) | (with_reducible refine Kd.C_drewN ?_ _) | (with_reducible refine Kd.C_drew ?_))); (case side2 => exact HC0.out); rintro e w8 ⟨rfl, hb⟩; refine ⟨_, rfl, ?_⟩; replace HB := Aside0.mk (below_step (kwW HB) hb); (try clear hb); (try clear hb2); (try clear hk); (try clear hi)))
   go_meet
   case rel => exact ⟨_, (decide ((l2.length : Int) > 200)), (by first | rfl | (simp; done) | (simp [bne, *]; done)), H', ⟨by first | omega | exact Nat.le_refl _⟩, ⟨kwW HB⟩⟩
 case rest =>
  clear HC4
  try clear c1
  try clear c2
  try clear p2
  try clear c4
  try clear c6
  try clear c6b0
  obtain ⟨kq, x16_3, rfl, HA, HJ3, HB⟩ := hcut
  cases kq with
  | zero => exact absurd HA.out (by simp [skerrylaw22_TreeLeaves.j0])
  | succ kj3 =>
   have H := HA.out
   clear HA
   simp only [skerrylaw22_TreeLeaves.j0] at H
   by_cases c9 : x16_3 = true
   ·
    subst c9
    have H1 : ((skerrylaw22_lives.f kj3).bind fun t370 => (some t370)) = some r := by rw [if_pos rfl] at H; exact H
    clear H
    have H := H1
    clear H1
    replace H := Option.bind_eq_some_iff.mp H
    obtain ⟨t370, A100, H⟩ := H
    have A10 := Aside0.mk A100
    clear A100
    obtain rfl := Option.some.inj H
    go_wp2_with (first | ((with_reducible refine gate_callee (f := 8) rfl ?_); refine goesL_ (some 17) rfl rfl Try.func8 (by kernel_rfl) rfl #[] rfl (by (try simp only [mT_, mC_, mN_]); first | done | rfl) ?_; (with_reducible refine (skerrylaw22_lives.calls kj3  t370 _ A10.out).mono ?_); rintro e w11 ⟨rfl, hb⟩; refine ⟨_, rfl, ?_⟩; replace HB := Aside0.mk (below_step (kwW HB) hb); (try clear hb); (try clear hb2); (try clear hk); (try clear hi)))
    go_ret
    exact ⟨by first | rfl | (simp <;> rfl) | (simp [*] <;> rfl), kwW HB⟩
   ·
    replace c9 := Bool.eq_false_iff.mpr c9
    subst c9
    have H1 : (skerrylaw22_TreeLeaves.l0 kj3 l0 a1 l2 l0 (l0.length : Int) 0) = some r := by rw [if_neg (show ¬ (false = true) by decide)] at H; exact H
    clear H
    have H := H1
    clear H1
    have H' := Aside0.mk H
    clear H
    go_wp2
    go_loopg [20] kj3 (fun kq v20 w' => ∃ (x20_2 : Int), v20 = .int .i64 x20_2 ∧ Aside0 (skerrylaw22_TreeLeaves.l0 kq l0 a1 l2 l0 (l0.length : Int) x20_2 = some r) ∧ Aside0 (kq ≤ kj3) ∧ Aside0 (Below w.heap.size w w'))
    case atStart => exact ⟨(0), (by first | rfl | (simp; done) | (simp [bne, *]; done)), H', ⟨Nat.le_refl _⟩, ⟨kwW HB⟩⟩
    case round =>
     clear H'
     try clear c1
     try clear c2
     try clear p2
     try clear c4
     try clear c6
     try clear c6b0
     try clear c8
     try clear c9
     try clear p2
     obtain ⟨x20_2, rfl, HA, HK2, HB⟩ := hrel
     cases gk with
     | zero => exact absurd HA.out (by simp [skerrylaw22_TreeLeaves.l0])
     | succ k2 =>
      have H := HA.out
      clear HA
      simp only [skerrylaw22_TreeLeaves.l0] at H
      by_cases c12 : x20_2 < (l0.length : Int)
      rotate_left
      ·
       rw [if_neg c12] at H
       have c12b0 : decide (x20_2 < (l0.length : Int)) = false := decide_eq_false c12
       clear c12
       replace H := Option.bind_eq_some_iff.mp H
       obtain ⟨t375, A240, H⟩ := H
       have A24 := Aside0.mk A240
       clear A240
       replace H := Option.bind_eq_some_iff.mp H
       obtain ⟨t378, A250, H⟩ := H
       have A25 := Aside0.mk A250
       clear A250
       replace H := Option.bind_eq_some_iff.mp H
       obtain ⟨t381, A260, H⟩ := H
       have A26 := Aside0.mk A260
       clear A260
       by_cases c27 : t381 = true
       rotate_left
       ·
        replace c27 := Bool.eq_false_iff.mpr c27
        subst c27
        have H1 : (none) = some r := by rw [if_neg (show ¬ (false = true) by decide)] at H; exact H
        clear H
        have H := H1
        clear H1
        exact absurd H (by simp)
       subst c27
       have H1 : ((tree_Pick.f k2 l0 a1 l2).bind fun t382 => ((skerryref22_Pick.f k2 l0 a1 l2).bind fun t385 => ((skerryref01_Like.f k2 t382 t385).bind fun t388 => (if t388 = true then ((skerrylaw22_lives.f k2).bind fun t389 => (some t389)) else (none))))) = some r := by rw [if_pos rfl] at H; exact H
       clear H
       have H := H1
       clear H1
       replace H := Option.bind_eq_some_iff.mp H
       obtain ⟨t382, A280, H⟩ := H
       have A28 := Aside0.mk A280
       clear A280
       replace H := Option.bind_eq_some_iff.mp H
       obtain ⟨t385, A290, H⟩ := H
       have A29 := Aside0.mk A290
       clear A290
       replace H := Option.bind_eq_some_iff.mp H
       obtain ⟨t388, A300, H⟩ := H
       have A30 := Aside0.mk A300
       clear A300
       by_cases c31 : t388 = true
       rotate_left
       ·
        replace c31 := Bool.eq_false_iff.mpr c31
        subst c31
        have H1 : (none) = some r := by rw [if_neg (show ¬ (false = true) by decide)] at H; exact H
        clear H
        have H := H1
        clear H1
        exact absurd H (by simp)
       subst c31
       have H1 : ((skerrylaw22_lives.f k2).bind fun t389 => (some t389)) = some r := by rw [if_pos rfl] at H; exact H
       clear H
       have H := H1
       clear H1
       replace H := Option.bind_eq_some_iff.mp H
       obtain ⟨t389, A320, H⟩ := H
       have A32 := Aside0.mk A320
       clear A320
       obtain rfl := Option.some.inj H
       go_wp2_with (first | ((with_reducible refine gate_callee (f := 18) rfl ?_); refine goesL_ (some 38) rfl rfl Try.func18 (by kernel_rfl) rfl #[.slice A0 l0.length c0, .int .i64 a1] rfl (by (try simp only [mT_, mC_, mN_]); first | done | rfl) ?_; (with_reducible refine (tree_Leaves.calls k2 _ _ l0 a1 t375 _ ?side1 ?side2 A24.out).mono ?_); (case side1 => repeat (first | exact (Kd.C_below HR0.out HB.out) | (with_reducible refine Kd.C_alloc ?_ _) | (with_reducible refine Kd.C_drewN ?_ _) | (with_reducible refine Kd.C_drew ?_))); (case side2 => exact HC0.out); rintro e w33 ⟨v376, rfl, ho0, hb⟩; refine ⟨_, rfl, ?_⟩; have HO377 := Aside0.mk (Kd.R_lower ho0 (bZ_ (kwW HB))); replace HB := Aside0.mk (below_step (kwW HB) hb); (try clear hb); (try clear hb2); (try clear hk); (try clear hi); (try clear ho0)) | ((with_reducible refine gate_callee (f := 19) rfl ?_); refine goesL_ (some 41) rfl rfl Try.func19 (by kernel_rfl) rfl #[.slice A0 l0.length c0, .int .i64 a1] rfl (by (try simp only [mT_, mC_, mN_]); first | done | rfl) ?_; (with_reducible refine (skerryref22_Leaves.calls k2 _ _ l0 a1 t378 _ ?side1 ?side2 A25.out).mono ?_); (case side1 => repeat (first | exact (Kd.C_below HR0.out HB.out) | (with_reducible refine Kd.C_alloc ?_ _) | (with_reducible refine Kd.C_drewN ?_ _) | (with_reducible refine Kd.C_drew ?_))); (case side2 => exact HC0.out); rintro e w34 ⟨v379, rfl, ho0, hb⟩; refine ⟨_, rfl, ?_⟩; have HO380 := Aside0.mk (Kd.R_lower (Kd.R_new' ho0 (Kd.R_lt (krW HO377))) (bZ_ (kwW HB))); replace HO377 := Aside0.mk (Kd.R_elder' (krW HO377) (Kd.R_base ho0) hb); replace HB := Aside0.mk (below_step (kwW HB) hb); (try clear hb); (try clear hb2); (try clear hk); (try clear hi); (try clear ho0); obtain ⟨Ao35, co35, eo35⟩ := Kd.R_slice HO377.out; subst eo35; obtain ⟨Ao36, co36, eo36⟩ := Kd.R_slice HO380.out; subst eo36) | ((with_reducible refine gate_callee (f := 10) rfl ?_); refine goesL_ (some 42) rfl rfl Try.func10 (by kernel_rfl) rfl #[.slice Ao35 t375.length co35, .slice Ao36 t378.length co36] rfl (by (try simp only [mT_, mC_, mN_]); first | done | rfl) ?_; (with_reducible refine (skerryref01_Words.calls k2 _ _ t375 _ _ t378 true _ ?side1 ?side2 ?side3 ?side4 A26.out).mono ?_); (case side1 => repeat (first | exact (Kd.R_reads' HO377.out).2.2 | (with_reducible refine Kd.C_alloc ?_ _) | (with_reducible refine Kd.C_drewN ?_ _) | (with_reducible refine Kd.C_drew ?_))); (case side2 => exact (Kd.R_reads' HO377.out).2.1); (case side3 => repeat (first | exact (Kd.R_reads' HO380.out).2.2 | (with_reducible refine Kd.C_alloc ?_ _) | (with_reducible refine Kd.C_drewN ?_ _) | (with_reducible refine Kd.C_drew ?_))); (case side4 => exact (Kd.R_reads' HO380.out).2.1); rintro e w' ⟨rfl, ⟨nd, rfl⟩⟩; refine ⟨_, rfl, ?_⟩) | (go_at_call 21; (with_reducible refine (tree_Pick.calls k2 _ _ l0 a1 _ _ l2 t382 _ ?side1 ?side2 ?side3 ?side4 A28.out).mono ?_); (case side1 => repeat (first | exact (Kd.C_below HR0.out (kwW HB)) | (with_reducible refine Kd.C_alloc ?_ _) | (with_reducible refine Kd.C_drewN ?_ _) | (with_reducible refine Kd.C_drew ?_))); (case side2 => exact HC0.out); (case side3 => repeat (first | exact (Kd.C_below HR2.out (kwW HB)) | (with_reducible refine Kd.C_alloc ?_ _) | (with_reducible refine Kd.C_drewN ?_ _) | (with_reducible refine Kd.C_drew ?_))); (case side4 => exact HC2.out); rintro e w37 ⟨v383, rfl, ho0, hb⟩; replace HO377 := kR HO377 hb; replace HO380 := kR HO380 hb; have HO384 := Aside0.mk (Kd.R_lower ho0 (bZ_ (kwW HB))); replace HB := Aside0.mk (below_step (kwW HB) hb); (try clear hb); (try clear hb2); (try clear hk); (try clear hi); (try clear ho0)) | (go_at_call 22; (with_reducible refine (skerryref22_Pick.calls k2 _ _ l0 a1 _ _ l2 t385 _ ?side1 ?side2 ?side3 ?side4 A29.out).mono ?_); (case side1 => repeat (first | exact (Kd.C_below HR0.out HB.out) | (with_reducible refine Kd.C_alloc ?_ _) | (with_reducible refine Kd.C_drewN ?_ _) | (with_reducible refine Kd.C_drew ?_))); (case side2 => exact HC0.out); (case side3 => repeat (first | exact (Kd.C_below HR2.out HB.out) | (with_reducible refine Kd.C_alloc ?_ _) | (with_reducible refine Kd.C_drewN ?_ _) | (with_reducible refine Kd.C_drew ?_))); (case side4 => exact HC2.out); rintro e w38 ⟨v386, rfl, ho0, hb⟩; replace HO377 := kR HO377 hb; replace HO380 := kR HO380 hb; have HO387 := Aside0.mk (Kd.R_lower (Kd.R_new' ho0 (Kd.R_lt (krW HO384))) (bZ_ (kwW HB))); replace HO384 := Aside0.mk (Kd.R_elder' (krW HO384) (Kd.R_base ho0) hb); replace HB := Aside0.mk (below_step (kwW HB) hb); (try clear hb); (try clear hb2); (try clear hk); (try clear hi); (try clear ho0); obtain ⟨Ao39, co39, eo39⟩ := Kd.R_slice HO384.out; subst eo39; obtain ⟨Ao40, co40, eo40⟩ := Kd.R_slice HO387.out; subst eo40) | (go_at_call 20; (with_reducible refine (skerryref01_Like.calls k2 _ _ t382 _ _ t385 true _ ?side1 ?side2 ?side3 ?side4 A30.out).mono ?_); (case side1 => repeat (first | exact (Kd.R_reads' HO384.out).2.2 | (with_reducible refine Kd.C_alloc ?_ _) | (with_reducible refine Kd.C_drewN ?_ _) | (with_reducible refine Kd.C_drew ?_))); (case side2 => exact (Kd.R_reads' HO384.out).2.1); (case side3 => repeat (first | exact (Kd.R_reads' HO387.out).2.2 | (with_reducible refine Kd.C_alloc ?_ _) | (with_reducible refine Kd.C_drewN ?_ _) | (with_reducible refine Kd.C_drew ?_))); (case side4 => exact (Kd.R_reads' HO387.out).2.1); rintro e w' ⟨rfl, ⟨nd, rfl⟩⟩) | (go_at_call 8; (with_reducible refine (skerrylaw22_lives.calls k2  t389 _ A32.out).mono ?_); rintro e w41 ⟨rfl, hb⟩; replace HO377 := kR HO377 hb; replace HO380 := kR HO380 hb; replace HO384 := kR HO384 hb; replace HO387 := kR HO387 hb; replace HB := Aside0.mk (below_step (kwW HB) hb); (try clear hb); (try clear hb2); (try clear hk); (try clear hi)))
       go_ret
       exact ⟨by first | rfl | (simp <;> rfl) | (simp [*] <;> rfl), kwW HB⟩
      rw [if_pos c12] at H
      have c12b0 : decide (x20_2 < (l0.length : Int)) = true := decide_eq_true c12
      clear c12
      by_cases c13 : 0 ≤ x20_2
      rotate_left
      ·
       rw [if_neg c13] at H
       exact absurd H (by simp)
      rw [if_pos c13] at H
      have c13b0 : decide (0 ≤ x20_2) = true := decide_eq_true c13
      clear c13
      by_cases c14 : x20_2 < (l0.length : Int)
      rotate_left
      ·
       rw [if_neg c14] at H
       exact absurd H (by simp)
      rw [if_pos c14] at H
      have c14b0 : decide (x20_2 < (l0.length : Int)) = true := decide_eq_true c14
      clear c14
      replace H := Option.bind_eq_some_iff.mp H
      obtain ⟨t373, A150, H⟩ := H
      have A15 := Aside0.mk A150
      clear A150
      replace H := Option.bind_eq_some_iff.mp H
      obtain ⟨t374, A160, H⟩ := H
      have A16 := Aside0.mk A160
      clear A160
      by_cases c17 : t373 = t374
      rotate_left
      ·
       rw [if_neg c17] at H
       exact absurd H (by simp)
      rw [if_pos c17] at H
      have c17b0 : (t373 == t374) = true := beq_iff_eq.mpr c17
      have c17b1 : (t373 != t374) = false := bne_eq_false_iff_eq.mpr c17
      clear c17
      have H' := Aside0.mk H
      clear H
      have p371 : 0 ≤ (x20_2 : Int) := of_decide_eq_true (by first | (with_reducible assumption) | assumption)
      have q371 : x20_2 < (l0.length : Int) := of_decide_eq_true (by first | (with_reducible assumption) | assumption)
      obtain ⟨ad371, e371, hx371_0, hx371_1, hx371_2, hx371_3, hx371_4, hx371_5, hx371_6, hx371_7, hx371_8, hx371_9⟩ := at_T38 HR0.out x20_2 p371 q371
      cases e371
      replace hx371_0 := cB_ HB hx371_0
      replace hx371_1 := cB_ HB hx371_1
      replace hx371_2 := cB_ HB hx371_2
      replace hx371_3 := cB_ HB hx371_3
      replace hx371_4 := cB_ HB hx371_4
      replace hx371_5 := cB_ HB hx371_5
      replace hx371_6 := cB_ HB hx371_6
      replace hx371_7 := cB_ HB hx371_7
      replace hx371_8 := cB_ HB hx371_8
      replace hx371_9 := cB_ HB hx371_9
      replace p371 := eq_true p371
      replace q371 := eq_true q371
      try go_wp2_with (first | ((with_reducible refine gate_dst (N := 8) rfl ?_); (try (refine gate_guard (by rfl) ?_; dsimp only)); refine box_event ?hg (N := 8) ?hd (cs := #[.string (⟨#[]⟩ : ByteArray), .string (⟨#[]⟩ : ByteArray), .int .i64 0, .string (⟨#[]⟩ : ByteArray), .int .i64 0, .bool false, .int .i64 0, .int .i64 0, .int .i64 0, .string (⟨#[]⟩ : ByteArray)]) (t := 38) ?hr ?_; (case hd => rfl); (case hg => rfl); (case hr => first | (go_simp; done) | (go_simp; rfl)); intro gb372 hg w18 hbox hb; have BK372 := Aside0.mk (hbox); have GW372 := Aside0.mk ((by rw [hg]; exact (bZ_ (kwW HB)) : w.heap.size ≤ gb372)); replace HB := Aside0.mk (below_step (kwW HB) hb); have GE372 := GW372; clear hb hbox hg; obtain ⟨_, _, _, _, _, _, _, _, _, _, _, _, _, _, _, _, _, _, _, _⟩ := czf10 BK372))
      have n0_ : Aside0 (((((((((((w18.setCell ⟨gb372, 0, none⟩ (.string ((rd_T38 l0 x20_2).f0.f0))).setCell ⟨gb372, 1, none⟩ (.string ((rd_T38 l0 x20_2).f0.f1))).setCell ⟨gb372, 2, none⟩ (.int .i64 ((rd_T38 l0 x20_2).f0.f2))).setCell ⟨gb372, 3, none⟩ (.string ((rd_T38 l0 x20_2).f0.f3))).setCell ⟨gb372, 4, none⟩ (.int .i64 ((rd_T38 l0 x20_2).f1.f0))).setCell ⟨gb372, 5, none⟩ (.bool ((rd_T38 l0 x20_2).f1.f1))).setCell ⟨gb372, 6, none⟩ (.int .i64 ((rd_T38 l0 x20_2).f1.f2))).setCell ⟨gb372, 7, none⟩ (.int .i64 ((rd_T38 l0 x20_2).f1.f3.f0))).setCell ⟨gb372, 8, none⟩ (.int .i64 ((rd_T38 l0 x20_2).f1.f3.f1))).setCell ⟨gb372, 9, none⟩ (.string ((rd_T38 l0 x20_2).f1.f3.f2))).heap[gb372]? = some (.cells #[.string ((rd_T38 l0 x20_2).f0.f0), .string ((rd_T38 l0 x20_2).f0.f1), .int .i64 ((rd_T38 l0 x20_2).f0.f2), .string ((rd_T38 l0 x20_2).f0.f3), .int .i64 ((rd_T38 l0 x20_2).f1.f0), .bool ((rd_T38 l0 x20_2).f1.f1), .int .i64 ((rd_T38 l0 x20_2).f1.f2), .int .i64 ((rd_T38 l0 x20_2).f1.f3.f0), .int .i64 ((rd_T38 l0 x20_2).f1.f3.f1), .string ((rd_T38 l0 x20_2).f1.f3.f2)] 38 (0, 0))) := ⟨by (with_reducible repeat (first | refine blk_drewN ?_ _ | refine blk_drew ?_ | refine blk_alloc ?_ _)); exact bp10 (kbW BK372)⟩
      have n1_ : Aside0 (Below w.heap.size w ((((((((((w18.setCell ⟨gb372, 0, none⟩ (.string ((rd_T38 l0 x20_2).f0.f0))).setCell ⟨gb372, 1, none⟩ (.string ((rd_T38 l0 x20_2).f0.f1))).setCell ⟨gb372, 2, none⟩ (.int .i64 ((rd_T38 l0 x20_2).f0.f2))).setCell ⟨gb372, 3, none⟩ (.string ((rd_T38 l0 x20_2).f0.f3))).setCell ⟨gb372, 4, none⟩ (.int .i64 ((rd_T38 l0 x20_2).f1.f0))).setCell ⟨gb372, 5, none⟩ (.bool ((rd_T38 l0 x20_2).f1.f1))).setCell ⟨gb372, 6, none⟩ (.int .i64 ((rd_T38 l0 x20_2).f1.f2))).setCell ⟨gb372, 7, none⟩ (.int .i64 ((rd_T38 l0 x20_2).f1.f3.f0))).setCell ⟨gb372, 8, none⟩ (.int .i64 ((rd_T38 l0 x20_2).f1.f3.f1))).setCell ⟨gb372, 9, none⟩ (.string ((rd_T38 l0 x20_2).f1.f3.f2)))) := ⟨by repeat (first | (with_reducible first | exact HB.out | apply bA_ | apply bN_ | apply bD_ | refine bS_ ?_ GE372) | exact HB.out)⟩
      (try clear BK372)
      (try clear HB)
      generalize ((((((((((w18.setCell ⟨gb372, 0, none⟩ (.string ((rd_T38 l0 x20_2).f0.f0))).setCell ⟨gb372, 1, none⟩ (.string ((rd_T38 l0 x20_2).f0.f1))).setCell ⟨gb372, 2, none⟩ (.int .i64 ((rd_T38 l0 x20_2).f0.f2))).setCell ⟨gb372, 3, none⟩ (.string ((rd_T38 l0 x20_2).f0.f3))).setCell ⟨gb372, 4, none⟩ (.int .i64 ((rd_T38 l0 x20_2).f1.f0))).setCell ⟨gb372, 5, none⟩ (.bool ((rd_T38 l0 x20_2).f1.f1))).setCell ⟨gb372, 6, none⟩ (.int .i64 ((rd_T38 l0 x20_2).f1.f2))).setCell ⟨gb372, 7, none⟩ (.int .i64 ((rd_T38 l0 x20_2).f1.f3.f0))).setCell ⟨gb372, 8, none⟩ (.int .i64 ((rd_T38 l0 x20_2).f1.f3.f1))).setCell ⟨gb372, 9, none⟩ (.string ((rd_T38 l0 x20_2).f1.f3.f2))) = w20 at n0_ n1_ ⊢
      have BK372 := n0_
      have HB := n1_
      clear n0_ n1_
      replace BK372 := Aside0.mk (blk_drew BK372.out)
      replace HB := Aside0.mk (below_drew1 HB.out)
      refine start_ (n := 11) (S := fun w' => w'.cell? ⟨gb372, 0, none⟩ = some (.string ((rd_T38 l0 x20_2).f0.f0)) ∧ w'.cell? ⟨gb372, 1, none⟩ = some (.string ((rd_T38 l0 x20_2).f0.f1)) ∧ w'.cell? ⟨gb372, 2, none⟩ = some (.int .i64 ((rd_T38 l0 x20_2).f0.f2)) ∧ w'.cell? ⟨gb372, 3, none⟩ = some (.string ((rd_T38 l0 x20_2).f0.f3)) ∧ w'.cell? ⟨gb372, 4, none⟩ = some (.int .i64 ((rd_T38 l0 x20_2).f1.f0)) ∧ w'.cell? ⟨gb372, 5, none⟩ = some (.bool ((rd_T38 l0 x20_2).f1.f1)) ∧ w'.cell? ⟨gb372, 6, none⟩ = some (.int .i64 ((rd_T38 l0 x20_2).f1.f2)) ∧ w'.cell? ⟨gb372, 7, none⟩ = some (.int .i64 ((rd_T38 l0 x20_2).f1.f3.f0)) ∧ w'.cell? ⟨gb372, 8, none⟩ = some (.int .i64 ((rd_T38 l0 x20_2).f1.f3.f1)) ∧ w'.cell? ⟨gb372, 9, none⟩ = some (.string ((rd_T38 l0 x20_2).f1.f3.f2))) (ds := []) (tf_ 0 11) (by kernel_rfl) rfl rfl (cd10 BK372) (fun hHeld => ?_); refine with_tabW skerrylaw22_TreeLeaves.tab6 skerrylaw22_TreeLeaves.bits6 (fun HT_ HW_ => ?_)
      generalize w20.drew = w21 at BK372 HB hHeld ⊢
      refine pure_ (i := 0) (N := some 24) (v := ?_) (a' := ?_) (tf_ 1 10) rfl rfl (any_of HT_.out (by kernel_rfl)) (fun _ _ _ h => h) (Or.inl ⟨by rfl, ?_⟩) ?_ ?_
      rotate_left; · (intro w'; go_simp; with_reducible rfl)
      rotate_left; · (simp only [Act.put, sT_, sO_, sN_, i64_w, i32_w]; rfl)
      refine pure_ (i := 1) (N := some 25) (v := ?_) (a' := ?_) (tf_ 2 9) rfl rfl (any_of HT_.out (by kernel_rfl)) (fun _ _ _ h => h) (Or.inl ⟨by rfl, ?_⟩) ?_ ?_
      rotate_left; · (intro w'; go_simp; with_reducible rfl)
      rotate_left; · (simp only [Act.put, sT_, sO_, sN_, i64_w, i32_w]; rfl)
      refine pure_ (i := 3) (N := some 27) (v := ?_) (a' := ?_) (tb_ 11 11) rfl rfl (any_of HT_.out (by kernel_rfl)) (fun _ _ _ h => h) (Or.inl ⟨by rfl, ?_⟩) ?_ ?_
      rotate_left; · (intro w'; go_simp; with_reducible rfl)
      rotate_left; · (simp only [Act.put, sT_, sO_, sN_, i64_w, i32_w]; rfl)
      refine pure_ (i := 5) (N := some 29) (v := ?_) (a' := ?_) (tb_ 43 11) rfl rfl (any_of HT_.out (by kernel_rfl)) (fun _ _ _ h => h) (Or.inl ⟨by rfl, ?_⟩) ?_ ?_
      rotate_left; · (intro w'; go_simp; with_reducible rfl)
      rotate_left; · (simp only [Act.put, sT_, sO_, sN_, i64_w, i32_w]; rfl)
      refine pure_ (i := 6) (N := some 30) (v := ?_) (a' := ?_) (tb_ 107 11) rfl rfl (any_of HT_.out (by kernel_rfl)) (fun _ _ _ h => h) (Or.inl ⟨by rfl, ?_⟩) ?_ ?_
      rotate_left; · (intro w'; go_simp; with_reducible rfl)
      rotate_left; · (simp only [Act.put, sT_, sO_, sN_, i64_w, i32_w]; rfl)
      refine pure_ (i := 8) (N := some 32) (v := ?_) (a' := ?_) (tb_ 363 11) rfl rfl (any_of HT_.out (by kernel_rfl)) (fun _ _ _ h => h) (Or.inl ⟨by rfl, ?_⟩) ?_ ?_
      rotate_left; · (intro w'; go_simp; with_reducible rfl)
      rotate_left; · (simp only [Act.put, sT_, sO_, sN_, i64_w, i32_w]; rfl)
      refine take_ (i := 2) (N := some 26) (v := ?_) (a' := ?_) (tb_ 367 11) rfl rfl (take_ofW HT_.out HW_.out (by kernel_rfl)) (fun _ _ _ h => h) (Or.inl ⟨by rfl, ?_⟩) hHeld ?_ ?_
      rotate_left; · (rintro w' ⟨s0, s1, s2, s3, s4, s5, s6, s7, s8, s9⟩; go_simp; with_reducible rfl)
      rotate_left; · (simp only [Act.put, sT_, sO_, sN_, i64_w, i32_w]; rfl)
      refine take_ (i := 7) (N := some 31) (v := ?_) (a' := ?_) (tb_ 495 11) rfl rfl (take_ofW HT_.out HW_.out (by kernel_rfl)) (fun _ _ _ h => h) (Or.inl ⟨by rfl, ?_⟩) hHeld ?_ ?_
      rotate_left; · (rintro w' ⟨s0, s1, s2, s3, s4, s5, s6, s7, s8, s9⟩; go_simp; with_reducible rfl)
      rotate_left; · (simp only [Act.put, sT_, sO_, sN_, i64_w, i32_w]; rfl)
      refine one_ (i := 4) (N := some 28) (tf_ 9 2) rfl rfl (one_of HT_.out (by kernel_rfl)) (by decide) (fun K hK => ?_)
      refine goes_ Try.func16 (by kernel_rfl) rfl #[.string ((rd_T38 l0 x20_2).f0.f1), .int .i64 a1] (by rfl) rfl rfl (by (try simp only [mT_, mC_, mN_]); first | done | rfl) ?_
      with_reducible refine (tree_Bucket.calls ((rd_T38 l0 x20_2).f0.f1) a1 t373 _ A15.out).mono ?_
      rintro e w22 ⟨rfl, hb⟩
      refine ⟨_, rfl, ?_⟩
      replace BK372 := kB BK372 hb
      replace HB := Aside0.mk (below_step (by repeat (first | (with_reducible first | exact HB.out | apply bA_ | apply bN_ | apply bD_ | refine bS_ ?_ GE372) | exact HB.out)) hb)
      (try clear hb)
      (try clear hb2)
      (try clear hk)
      (try clear hi)
      refine hK.out _ _ (cd10 BK372) (fun hHeld => ?_)
      clear hK K
      refine norm_ (a' := ?_) ?_ ?_
      rotate_left
      ·
       show Act.put _ (some 28) _ = _
       simp only [Act.put, sT_, sO_, sN_, i64_w, i32_w]
       rfl
      refine one_ (i := 9) (N := some 33) (tf_ 10 1) rfl rfl (one_of HT_.out (by kernel_rfl)) (by decide) (fun K hK => ?_)
      refine goes_ Try.func17 (by kernel_rfl) rfl #[.string ((rd_T38 l0 x20_2).f0.f1), .int .i64 a1] (by rfl) rfl rfl (by (try simp only [mT_, mC_, mN_]); first | done | rfl) ?_
      with_reducible refine (skerryref22_Bucket.calls k2 ((rd_T38 l0 x20_2).f0.f1) a1 t374 _ A16.out).mono ?_
      rintro e w23 ⟨rfl, hb⟩
      refine ⟨_, rfl, ?_⟩
      replace BK372 := kB BK372 hb
      replace HB := Aside0.mk (below_step (by repeat (first | (with_reducible first | exact HB.out | apply bA_ | apply bN_ | apply bD_ | refine bS_ ?_ GE372) | exact HB.out)) hb)
      (try clear hb)
      (try clear hb2)
      (try clear hk)
      (try clear hi)
      refine hK.out _ _ (cd10 BK372) (fun hHeld => ?_)
      clear hK K
      refine norm_ (a' := ?_) ?_ ?_
      rotate_left
      ·
       show Act.put _ (some 33) _ = _
       simp only [Act.put, sT_, sO_, sN_, i64_w, i32_w]
       rfl
      refine pure_ (i := 10) (N := some 34) (v := ?_) (a' := ?_) (tf_ 11 0) rfl rfl (any_of HT_.out (by kernel_rfl)) (fun _ _ _ h => h) (Or.inl ⟨by rfl, ?_⟩) ?_ ?_
      rotate_left; · (intro w'; go_simp; with_reducible rfl)
      rotate_left; · (simp only [Act.put, sT_, sO_, sN_, i64_w, i32_w]; rfl)
      refine done_ (done_of HT_.out (by kernel_rfl)) ?_
      try go_wp2
      go_roundg k2
      case measure => have := HJ3.out; have := HK2.out; omega
      case rel => exact ⟨(wrap64 (x20_2 + 1)), (by first | rfl | (simp; done) | (simp [bne, *]; done)), H', ⟨by have := HJ3.out; have := HK2.out; omega⟩, ⟨by repeat (first | (with_reducible first | exact HB.out | apply bA_ | apply bN_ | apply bD_ | refine bS_ ?_ GE372) | exact HB.out)⟩⟩
end Go.Proofs.Ytafhnjlihhfoaaa.Q
