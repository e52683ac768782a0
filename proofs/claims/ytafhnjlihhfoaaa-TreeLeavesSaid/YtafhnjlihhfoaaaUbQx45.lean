/- Lemmas for this claim's walk: no condition of their own. -/
import Derived.Test.YtafhnjlihhfoaaaUbJ13
import Derived.Test.YtafhnjlihhfoaaaUbQx0
import Derived.Test.YtafhnjlihhfoaaaUbJ15
namespace Go.Proofs.Ytafhnjlihhfoaaa.Q
open Go.RowKit Go.Proofs.YtafhnjlihhfoaaaW.PrintWords Go.Proofs.YtafhnjlihhfoaaaW.PrintLast Go.Proofs.YtafhnjlihhfoaaaW.PrintMore
attribute [local go_sem] max2_int min2_int max_two min_two max_three min_three max_four min_four
set_option linter.unusedVariables false
set_option linter.unusedSimpArgs false
mutual
def skerryref22_Diff.j0 : Nat → List Int → List Int → Bool → Option (List Int)
 | 0, _, _, _ => none
 | k + 1, x0, x1, x25 => if x25 = true then (some ([] : List Int)) else (skerryref22_Diff.l0 k x0 x1 (wrap64 ((x0.length : Int) / 2)) ([] : List Int) 0)
def skerryref22_Diff.l0 : Nat → List Int → List Int → Int → List Int → Int → Option (List Int)
 | 0, _, _, _, _, _ => none
 | k + 1, x0, x1, x5, x6, x7 => if x7 < x5 then (skerryref22_Diff.l1 k x0 x1 x5 x6 x7 true (wrap64 (x5 + x7))) else (some x6)
def skerryref22_Diff.l1 : Nat → List Int → List Int → Int → List Int → Int → Bool → Int → Option (List Int)
 | 0, _, _, _, _, _, _, _ => none
 | k + 1, x0, x1, x5, x6, x7, x8, x9 => if x9 ≥ 1 then (if x8 = true then (if 0 ≤ x9 then (if x9 < (x0.length : Int) then (if x9 < (x1.length : Int) then (skerryref22_Diff.l1 k x0 x1 x5 x6 x7 ((rd x0 x9) != (rd x1 x9)) (wrap64 (Int.tdiv x9 2))) else (none)) else (none)) else (none)) else (skerryref22_Diff.l1 k x0 x1 x5 x6 x7 false (wrap64 (Int.tdiv x9 2)))) else (if x8 = true then (if x6.length < 17592186044416 then (skerryref22_Diff.l0 k x0 x1 x5 (x6 ++ [x7]) (wrap64 (x7 + 1))) else (none)) else (skerryref22_Diff.l0 k x0 x1 x5 x6 (wrap64 (x7 + 1))))
end
def skerryref22_Diff.f (k : Nat) (l0 : List Int) (l1 : List Int) : Option (List Int) := if (l0.length : Int) = (l1.length : Int) then (if (l0.length : Int) < 2 then (skerryref22_Diff.j0 k l0 l1 true) else ((skerryref22_power.f k (l0.length : Int) 7).bind fun t410 => (skerryref22_Diff.j0 k l0 l1 (!t410)))) else (skerryref22_Diff.j0 k l0 l1 true)
set_option maxHeartbeats 8000000 in
set_option maxRecDepth 100000 in
theorem skerryref22_Diff.calls (k : Nat) (A0 : Option Addr) (c0 : Nat) (l0 : List Int) (A1 : Option Addr) (c1 : Nat) (l1 : List Int) (r : List Int) (w : World) (hr0 : Kd.C (Kd.int .u64) w A0 l0.length l0) (hc0 : l0.length ≤ c0) (hr1 : Kd.C (Kd.int .u64) w A1 l1.length l1) (hc1 : l1.length ≤ c1) (h : skerryref22_Diff.f k l0 l1 = some r) :
  Calls Try.prog 14 #[.slice A0 l0.length c0, .slice A1 l1.length c1] w fun e w' => ∃ v0_ : Value, e = .returned (v0_) ∧ Kd.R (Kd.int .i64) 3 w' w.heap.size (fun _ => True) v0_ r ∧ Below w.heap.size w w' := by
 have HR0 := Aside0.mk hr0
 have HC0 := Aside0.mk hc0
 clear hr0 hc0
 have HR1 := Aside0.mk hr1
 have HC1 := Aside0.mk hc1
 clear hr1 hc1
 have HB := Aside0.mk (Below.refl w.heap.size w)
 have H : (if (l0.length : Int) = (l1.length : Int) then (if (l0.length : Int) < 2 then (skerryref22_Diff.j0 k l0 l1 true) else ((skerryref22_power.f k (l0.length : Int) 7).bind fun t410 => (skerryref22_Diff.j0 k l0 l1 (!t410)))) else (skerryref22_Diff.j0 k l0 l1 true)) = some r := h
 clear h
 have HC3 := Aside0.mk H
 clear H
 go_enter Try.func14, Try.ntmps14
 go_upto_region 1 with (fail)
 repeat (go_quiet (fail); go_upto_region 1 with (fail))
 go_cut [25] (fun v25 wc => ∃ (kq : Nat) (x25_2 : Bool), v25 = .bool x25_2 ∧ Aside0 (skerryref22_Diff.j0 kq l0 l1 x25_2 = some r) ∧ Aside0 (kq ≤ k) ∧ Aside0 (Below w.heap.size w wc))
 case first =>
  have H := HC3.out
  clear HC3
  by_cases c4 : (l0.length : Int) = (l1.length : Int)
  rotate_left
  ·
   rw [if_neg c4] at H
   have c4b0 : ((l0.length : Int) == (l1.length : Int)) = false := beq_eq_false_iff_ne.mpr c4
   have c4b1 : ((l0.length : Int) != (l1.length : Int)) = true := bne_iff_ne.mpr c4
   have c4b2 : (l0.length == l1.length) = false := by first | simpa using c4 | (simp at c4 ⊢; omega)
   (first | rw [c4b0] | (simp only [i64_w, i32_w]; rw [c4b0]) | skip)
   have H' := Aside0.mk H
   clear H
   go_wp2
   repeat (go_quiet (fail); try go_wp2)
   go_meet
   case rel => exact ⟨_, (true), (by first | rfl | (simp; done) | (simp [bne, *]; done)), H', ⟨by first | omega | exact Nat.le_refl _⟩, ⟨kwW HB⟩⟩
  rw [if_pos c4] at H
  have c4b0 : ((l0.length : Int) == (l1.length : Int)) = true := beq_iff_eq.mpr c4
  have c4b1 : ((l0.length : Int) != (l1.length : Int)) = false := bne_eq_false_iff_eq.mpr c4
  have c4b2 : (l0.length == l1.length) = true := by first | simpa using c4 | (simp at c4 ⊢; omega)
  clear c4
  (first | rw [c4b0] | (simp only [i64_w, i32_w]; rw [c4b0]) | skip)
  by_cases c5 : (l0.length : Int) < 2
  ·
   rw [if_pos c5] at H
   have c5b0 : decide ((l0.length : Int) < 2) = true := decide_eq_true c5
   have c5b1 : decide (l0.length < 2) = true := decide_eq_true (by omega)
   clear c5
   have H' := Aside0.mk H
   clear H
   go_wp2
   repeat (go_quiet (fail); try go_wp2)
   go_meet
   case rel => exact ⟨_, (true), (by first | rfl | (simp; done) | (simp [bne, *]; done)), H', ⟨by first | omega | exact Nat.le_refl _⟩, ⟨kwW HB⟩⟩
  ·
   rw [if_neg c5] at H
   have c5b0 : decide ((l0.length : Int) < 2) = false := decide_eq_false c5
   have c5b1 : decide (l0.length < 2) = false := decide_eq_false (by omega)
   clear c5
   replace H := Option.bind_eq_some_iff.mp H
   obtain ⟨t410, A60, H⟩ := H
   have A6 := Aside0.mk A60
   clear A60
   have H' := Aside0.mk H
   clear H
   go_wp2_with (first | (go_at_call 32; (with_reducible refine (skerryref22_power.calls k (l0.length : Int) 7 t410 _ A6.out).mono ?_); rintro e w' ⟨rfl, ⟨nd, rfl⟩⟩; (try first | exact ⟨rfl, _, World.drewN_drewN _ _ _⟩ | exact ⟨rfl, _, Eq.trans (World.drewN_drewN _ _ _) (congrArg (World.drewN _) (Nat.add_assoc _ _ _))⟩)))
   repeat (go_quiet (first | (go_at_call 32; (with_reducible refine (skerryref22_power.calls k (l0.length : Int) 7 t410 _ A6.out).mono ?_); rintro e w' ⟨rfl, ⟨nd, rfl⟩⟩; (try first | exact ⟨rfl, _, World.drewN_drewN _ _ _⟩ | exact ⟨rfl, _, Eq.trans (World.drewN_drewN _ _ _) (congrArg (World.drewN _) (Nat.add_assoc _ _ _))⟩))); try go_wp2_with (first | (go_at_call 32; (with_reducible refine (skerryref22_power.calls k (l0.length : Int) 7 t410 _ A6.out).mono ?_); rintro e w' ⟨rfl, ⟨nd, rfl⟩⟩; (try first | exact ⟨rfl, _, World.drewN_drewN _ _ _⟩ | exact ⟨rfl, _, Eq.trans (World.drewN_drewN _ _ _) (congrArg (World.drewN _) (Nat.add_assoc _ _ _))⟩))))
   go_meet
   case rel => exact ⟨_, (!t410), (by first | rfl | (simp; done) | (simp [bne, *]; done)), H', ⟨by first | omega | exact Nat.le_refl _⟩, ⟨kwW HB⟩⟩
 case rest =>
  clear HC3
  try clear c1
  try clear p2
  try clear c4
  try clear c4b0
  try clear c4b1
  try clear c4b2
  try clear c5
  try clear c5b0
  try clear c5b1
  obtain ⟨kq, x25_2, rfl, HA, HJ2, HB⟩ := hcut
  cases kq with
  | zero => exact absurd HA.out (by simp [skerryref22_Diff.j0])
  | succ kj2 =>
   have H := HA.out
   clear HA
   simp only [skerryref22_Diff.j0] at H
   by_cases c7 : x25_2 = true
   ·
    subst c7
    have H1 : (some ([] : List Int)) = some r := by rw [if_pos rfl] at H; exact H
    clear H
    have H := H1
    clear H1
    obtain rfl := Option.some.inj H
    go_wp2
    repeat (go_quiet (fail); try go_wp2)
    go_ret
    exact ⟨_, by first | rfl | (simp <;> rfl) | (simp [*] <;> rfl), by first | exact Kd.R_nil _ _ _ _ _ | exact Kd.N_nil _ _ _ _ _ | exact Kd.V_nil _ _ _ _ _ | exact Kd.Q_nil _ _ _ _ _ | exact Kd.S_nil _ _ _ _ _, kwW HB⟩
   ·
    replace c7 := Bool.eq_false_iff.mpr c7
    subst c7
    have H1 : (skerryref22_Diff.l0 kj2 l0 l1 (wrap64 ((l0.length : Int) / 2)) ([] : List Int) 0) = some r := by rw [if_neg (show ¬ (false = true) by decide)] at H; exact H
    clear H
    have H := H1
    clear H1
    have H' := Aside0.mk H
    clear H
    go_wp2
    repeat (go_quiet (fail); try go_wp2)
    go_loopg [6, 7] kj2 (fun kq v6 v7 w' => ∃ (x6_2 : List Int) (x7_2 : Int), v7 = .int .i64 x7_2 ∧ Aside0 (skerryref22_Diff.l0 kq l0 l1 (wrap64 ((l0.length : Int) / 2)) x6_2 x7_2 = some r) ∧ Aside0 (kq ≤ kj2) ∧ Aside0 (Kd.R (Kd.int .i64) 3 w' w.heap.size (fun _ => True) v6 x6_2) ∧ Aside0 (Below w.heap.size w w'))
    case atStart => exact ⟨(([] : List Int)), (0), (by first | rfl | (simp; done) | (simp [bne, *]; done)), H', ⟨Nat.le_refl _⟩, ⟨by first | exact Kd.R_nil _ _ _ _ _ | exact Kd.N_nil _ _ _ _ _ | exact Kd.V_nil _ _ _ _ _ | exact Kd.Q_nil _ _ _ _ _ | exact Kd.S_nil _ _ _ _ _⟩, ⟨kwW HB⟩⟩
    case round =>
     clear H'
     try clear c1
     try clear p2
     try clear c4
     try clear c4b0
     try clear c4b1
     try clear c4b2
     try clear c5
     try clear c5b0
     try clear c5b1
     try clear p6
     try clear c7
     try clear p2
     obtain ⟨x6_2, x7_2, rfl, HA, HK2, HO_6, HB⟩ := hrel
     cases gk with
     | zero => exact absurd HA.out (by simp [skerryref22_Diff.l0])
     | succ k2 =>
      have H := HA.out
      clear HA
      simp only [skerryref22_Diff.l0] at H
      by_cases c8 : x7_2 < (wrap64 ((l0.length : Int) / 2))
      rotate_left
      ·
       rw [if_neg c8] at H
       have c8b0 : decide (x7_2 < (wrap64 ((l0.length : Int) / 2))) = false := decide_eq_false c8
       clear c8
       obtain rfl := Option.some.inj H
       go_wp2
       repeat (go_quiet (fail); try go_wp2)
       go_ret
       exact ⟨_, by first | rfl | (simp <;> rfl) | (simp [*] <;> rfl), krW HO_6, kwW HB⟩
      rw [if_pos c8] at H
      have c8b0 : decide (x7_2 < (wrap64 ((l0.length : Int) / 2))) = true := decide_eq_true c8
      clear c8
      have H' := Aside0.mk H
      clear H
      go_wp2
      repeat (go_quiet (fail); try go_wp2)
      go_loopg [8, 9] k2 (fun kq v8 v9 w' => ∃ (x8_3 : Bool) (x9_3 : Int), v8 = .bool x8_3 ∧ v9 = .int .i64 x9_3 ∧ Aside0 (skerryref22_Diff.l1 kq l0 l1 (wrap64 ((l0.length : Int) / 2)) x6_2 x7_2 x8_3 x9_3 = some r) ∧ Aside0 (kq ≤ k2) ∧ Aside0 (Kd.R (Kd.int .i64) 3 w' w.heap.size (fun _ => True) u6 x6_2) ∧ Aside0 (Below w.heap.size w w'))
      case atStart => exact ⟨(true), (wrap64 ((wrap64 ((l0.length : Int) / 2)) + x7_2)), (by first | rfl | (simp; done) | (simp [bne, *]; done)), (by first | rfl | (simp; done) | (simp [bne, *]; done)), H', ⟨Nat.le_refl _⟩, ⟨krW HO_6⟩, ⟨kwW HB⟩⟩
      case round =>
       clear H'
       try clear c1
       try clear p2
       try clear c4
       try clear c4b0
       try clear c4b1
       try clear c4b2
       try clear c5
       try clear c5b0
       try clear c5b1
       try clear p6
       try clear c7
       try clear c8
       try clear c8b0
       try clear p2
       try clear p6
       obtain ⟨x8_3, x9_3, rfl, rfl, HA, HK3, HO_6, HB⟩ := hrel
       cases gk with
       | zero => exact absurd HA.out (by simp [skerryref22_Diff.l1])
       | succ k3 =>
        have H := HA.out
        clear HA
        simp only [skerryref22_Diff.l1] at H
        by_cases c9 : x9_3 ≥ 1
        rotate_left
        ·
         rw [if_neg c9] at H
         have c9b0 : decide (1 ≤ x9_3) = false := decide_eq_false c9
         clear c9
         by_cases c14 : x8_3 = true
         rotate_left
         ·
          replace c14 := Bool.eq_false_iff.mpr c14
          subst c14
          have H1 : (skerryref22_Diff.l0 k3 l0 l1 (wrap64 ((l0.length : Int) / 2)) x6_2 (wrap64 (x7_2 + 1))) = some r := by rw [if_neg (show ¬ (false = true) by decide)] at H; exact H
          clear H
          have H := H1
          clear H1
          have H' := Aside0.mk H
          clear H
          go_wp2
          repeat (go_quiet (fail); try go_wp2)
          go_roundg k3
          case measure => have := HJ2.out; have := HK2.out; have := HK3.out; omega
          case rel => exact ⟨(x6_2), (wrap64 (x7_2 + 1)), (by first | rfl | (simp; done) | (simp [bne, *]; done)), H', ⟨by have := HJ2.out; have := HK2.out; have := HK3.out; omega⟩, ⟨krW HO_6⟩, ⟨kwW HB⟩⟩
         subst c14
         have H1 : (if x6_2.length < 17592186044416 then (skerryref22_Diff.l0 k3 l0 l1 (wrap64 ((l0.length : Int) / 2)) (x6_2 ++ [x7_2]) (wrap64 (x7_2 + 1))) else (none)) = some r := by rw [if_pos rfl] at H; exact H
         clear H
         have H := H1
         clear H1
         by_cases c15 : x6_2.length < 17592186044416
         rotate_left
         ·
          rw [if_neg c15] at H
          exact absurd H (by simp)
         rw [if_pos c15] at H
         have LMc15 := Aside0.mk c15
         clear c15
         obtain ⟨y413, hy413⟩ : ∃ y_ : List Int, y_ = (x6_2 ++ [x7_2]) := ⟨_, rfl⟩
         replace H : (skerryref22_Diff.l0 k3 l0 l1 (wrap64 ((l0.length : Int) / 2)) y413 (wrap64 (x7_2 + 1))) = some r := by first | (rw [hy413]; with_reducible exact H) | (have H2_ := (Option.bind_some _ _).symm.trans H; rw [hy413]; with_reducible exact H2_) | (have H2_ := (Option.bind_some _ _).symm.trans H; with_reducible exact H2_) | with_reducible exact H | (rw [hy413]; exact H) | exact H
         have Ny413 := Aside0.mk hy413
         clear hy413
         have H' := Aside0.mk H
         clear H
         go_wp2_with (first | ((with_reducible refine gate_builtin (b := .append) (xs := #[.tmp 54, .tmp 56]) rfl ?_); (try (refine gate_guard (by rfl) ?_; dsimp only)); at_builtin; refine Kd.R_append (Kd.int .i64) (w0 := w) w.heap.size rfl (.tmp 54) (.tmp 56) 27 3 (.int .i64 0) 8 rfl Try.underlying27 info3 rfl (by decide) (by omega) u6 x6_2 x7_2 [.int .i64 x7_2] (fun _ => True) (fun _ => False) rfl rfl ?aP (fun _ hk => hk.elim) ?aF ?aO ?aB ?aS ?aL ?_; (case aP => exact rfl); (case aB => exact (kwW HB)); (case aF => exact (fun _ _ => trivial)); (case aO => exact (krW HO_6)); (case aS => exact (bZ_ (kwW HB))); (case aL => have := LMc15.out; omega); intro v414 w16 ho hb hg hat; rw [← Ny413.out] at ho; replace HB := Aside0.mk (hb); have HO415 := Aside0.mk (ho); clear HO_6; clear ho hb hg hat))
         repeat (go_quiet (first | ((with_reducible refine gate_builtin (b := .append) (xs := #[.tmp 54, .tmp 56]) rfl ?_); (try (refine gate_guard (by rfl) ?_; dsimp only)); at_builtin; refine Kd.R_append (Kd.int .i64) (w0 := w) w.heap.size rfl (.tmp 54) (.tmp 56) 27 3 (.int .i64 0) 8 rfl Try.underlying27 info3 rfl (by decide) (by omega) u6 x6_2 x7_2 [.int .i64 x7_2] (fun _ => True) (fun _ => False) rfl rfl ?aP (fun _ hk => hk.elim) ?aF ?aO ?aB ?aS ?aL ?_; (case aP => exact rfl); (case aB => exact (kwW HB)); (case aF => exact (fun _ _ => trivial)); (case aO => exact (krW HO_6)); (case aS => exact (bZ_ (kwW HB))); (case aL => have := LMc15.out; omega); intro v414 w16 ho hb hg hat; rw [← Ny413.out] at ho; replace HB := Aside0.mk (hb); have HO415 := Aside0.mk (ho); clear HO_6; clear ho hb hg hat)); try go_wp2_with (first | ((with_reducible refine gate_builtin (b := .append) (xs := #[.tmp 54, .tmp 56]) rfl ?_); (try (refine gate_guard (by rfl) ?_; dsimp only)); at_builtin; refine Kd.R_append (Kd.int .i64) (w0 := w) w.heap.size rfl (.tmp 54) (.tmp 56) 27 3 (.int .i64 0) 8 rfl Try.underlying27 info3 rfl (by decide) (by omega) u6 x6_2 x7_2 [.int .i64 x7_2] (fun _ => True) (fun _ => False) rfl rfl ?aP (fun _ hk => hk.elim) ?aF ?aO ?aB ?aS ?aL ?_; (case aP => exact rfl); (case aB => exact (kwW HB)); (case aF => exact (fun _ _ => trivial)); (case aO => exact (krW HO_6)); (case aS => exact (bZ_ (kwW HB))); (case aL => have := LMc15.out; omega); intro v414 w16 ho hb hg hat; rw [← Ny413.out] at ho; replace HB := Aside0.mk (hb); have HO415 := Aside0.mk (ho); clear HO_6; clear ho hb hg hat)))
         go_roundg k3
         case measure => have := HJ2.out; have := HK2.out; have := HK3.out; omega
         case rel => exact ⟨(y413), (wrap64 (x7_2 + 1)), (by first | rfl | (simp; done) | (simp [bne, *]; done)), H', ⟨by have := HJ2.out; have := HK2.out; have := HK3.out; omega⟩, ⟨krW HO415⟩, ⟨kwW HB⟩⟩
        rw [if_pos c9] at H
        have c9b0 : decide (1 ≤ x9_3) = true := decide_eq_true c9
        clear c9
        by_cases c10 : x8_3 = true
        rotate_left
        ·
         replace c10 := Bool.eq_false_iff.mpr c10
         subst c10
         have H1 : (skerryref22_Diff.l1 k3 l0 l1 (wrap64 ((l0.length : Int) / 2)) x6_2 x7_2 false (wrap64 (Int.tdiv x9_3 2))) = some r := by rw [if_neg (show ¬ (false = true) by decide)] at H; exact H
         clear H
         have H := H1
         clear H1
         have H' := Aside0.mk H
         clear H
         go_wp2
         repeat (go_quiet (fail); try go_wp2)
         go_roundg k3
         case measure => have := HJ2.out; have := HK2.out; have := HK3.out; omega
         case rel => exact ⟨(false), (wrap64 (Int.tdiv x9_3 2)), (by first | rfl | (simp; done) | (simp [bne, *]; done)), (by first | rfl | (simp; done) | (simp [bne, *]; done)), H', ⟨by have := HJ2.out; have := HK2.out; have := HK3.out; omega⟩, ⟨krW HO_6⟩, ⟨kwW HB⟩⟩
        subst c10
        have H1 : (if 0 ≤ x9_3 then (if x9_3 < (l0.length : Int) then (if x9_3 < (l1.length : Int) then (skerryref22_Diff.l1 k3 l0 l1 (wrap64 ((l0.length : Int) / 2)) x6_2 x7_2 ((rd l0 x9_3) != (rd l1 x9_3)) (wrap64 (Int.tdiv x9_3 2))) else (none)) else (none)) else (none)) = some r := by rw [if_pos rfl] at H; exact H
        clear H
        have H := H1
        clear H1
        by_cases c11 : 0 ≤ x9_3
        rotate_left
        ·
         rw [if_neg c11] at H
         exact absurd H (by simp)
        rw [if_pos c11] at H
        have c11b0 : decide (0 ≤ x9_3) = true := decide_eq_true c11
        clear c11
        by_cases c12 : x9_3 < (l0.length : Int)
        rotate_left
        ·
         rw [if_neg c12] at H
         exact absurd H (by simp)
        rw [if_pos c12] at H
        have c12b0 : decide (x9_3 < (l0.length : Int)) = true := decide_eq_true c12
        clear c12
        by_cases c13 : x9_3 < (l1.length : Int)
        rotate_left
        ·
         rw [if_neg c13] at H
         exact absurd H (by simp)
        rw [if_pos c13] at H
        have c13b0 : decide (x9_3 < (l1.length : Int)) = true := decide_eq_true c13
        clear c13
        have H' := Aside0.mk H
        clear H
        have p411 : 0 ≤ (x9_3 : Int) := of_decide_eq_true (by first | (with_reducible assumption) | assumption)
        have q411 : x9_3 < (l0.length : Int) := of_decide_eq_true (by first | (with_reducible assumption) | assumption)
        obtain ⟨ad411, e411, hx411_0⟩ := Kd.at_int HR0.out x9_3 p411 q411
        cases e411
        replace hx411_0 := cB_ HB hx411_0
        replace p411 := eq_true p411
        replace q411 := eq_true q411
        have p412 : 0 ≤ (x9_3 : Int) := of_decide_eq_true (by first | (with_reducible assumption) | assumption)
        have q412 : x9_3 < (l1.length : Int) := of_decide_eq_true (by first | (with_reducible assumption) | assumption)
        obtain ⟨ad412, e412, hx412_0⟩ := Kd.at_int HR1.out x9_3 p412 q412
        cases e412
        replace hx412_0 := cB_ HB hx412_0
        replace p412 := eq_true p412
        replace q412 := eq_true q412
        go_wp2
        repeat (go_quiet (fail); try go_wp2)
        go_roundg k3
        case measure => have := HJ2.out; have := HK2.out; have := HK3.out; omega
        case rel => exact ⟨(((rd l0 x9_3) != (rd l1 x9_3))), (wrap64 (Int.tdiv x9_3 2)), (by first | rfl | (simp; done) | (simp [bne, *]; done)), (by first | rfl | (simp; done) | (simp [bne, *]; done)), H', ⟨by have := HJ2.out; have := HK2.out; have := HK3.out; omega⟩, ⟨krW HO_6⟩, ⟨kwW HB⟩⟩
end Go.Proofs.Ytafhnjlihhfoaaa.Q
