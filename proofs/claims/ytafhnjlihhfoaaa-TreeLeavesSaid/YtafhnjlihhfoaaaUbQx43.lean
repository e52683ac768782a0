/- Lemmas for this claim's walk: no condition of their own. -/
import Derived.Test.YtafhnjlihhfoaaaUbJ13
import Derived.Test.YtafhnjlihhfoaaaUbQx0
import Derived.Test.YtafhnjlihhfoaaaUbQx30
import Derived.Test.YtafhnjlihhfoaaaUbJ15
namespace Go.Proofs.Ytafhnjlihhfoaaa.Q
open Go.RowKit Go.Proofs.YtafhnjlihhfoaaaW.PrintWords Go.Proofs.YtafhnjlihhfoaaaW.PrintLast Go.Proofs.YtafhnjlihhfoaaaW.PrintMore
attribute [local go_sem] max2_int min2_int max_two min_two max_three min_three max_four min_four
set_option linter.unusedVariables false
set_option linter.unusedSimpArgs false
mutual
def skerryref22_Build.l0 : Nat → List Int → Int → Option (List Int)
 | 0, _, _ => none
 | k + 1, x4, x5 => if x5 ≥ 1 then (if 0 ≤ (wrap64 (2 * x5)) then (if (wrap64 (2 * x5)) < (x4.length : Int) then (if 0 ≤ (wrap64 ((wrap64 (2 * x5)) + 1)) then (if (wrap64 ((wrap64 (2 * x5)) + 1)) < (x4.length : Int) then (if (rd x4 (wrap64 (2 * x5))) = 0 then (skerryref22_Build.j1 k x4 x5 (rd x4 (wrap64 (2 * x5))) (rd x4 (wrap64 ((wrap64 (2 * x5)) + 1))) ((rd x4 (wrap64 ((wrap64 (2 * x5)) + 1))) == 0)) else (skerryref22_Build.j1 k x4 x5 (rd x4 (wrap64 (2 * x5))) (rd x4 (wrap64 ((wrap64 (2 * x5)) + 1))) false)) else (none)) else (none)) else (none)) else (none)) else (some x4)
def skerryref22_Build.j1 : Nat → List Int → Int → Int → Int → Bool → Option (List Int)
 | 0, _, _, _, _, _ => none
 | k + 1, x4, x5, x6, x7, x42 => if x42 = true then (skerryref22_Build.l0 k x4 (wrap64 (x5 - 1))) else (skerryref22_Build.l1 k x4 x5 x6 x7 ([] : List Int) 0)
def skerryref22_Build.l1 : Nat → List Int → Int → Int → Int → List Int → Int → Option (List Int)
 | 0, _, _, _, _, _, _ => none
 | k + 1, x4, x5, x6, x7, x8, x9 => if x9 < 8 then (if 0 ≤ (IntKind.u64.wrap (wrap64 (8 * x9))) then (if x8.length < 140737488355328 then (skerryref22_Build.l1 k x4 x5 x6 x7 (x8 ++ [(shr .u64 x6 (IntKind.u64.wrap (wrap64 (8 * x9)))) % 256]) (wrap64 (x9 + 1))) else (none)) else (none)) else (skerryref22_Build.l2 k x4 x5 x7 x8 0)
def skerryref22_Build.l2 : Nat → List Int → Int → Int → List Int → Int → Option (List Int)
 | 0, _, _, _, _, _ => none
 | k + 1, x4, x5, x7, x8, x10 => if x10 < 8 then (if 0 ≤ (IntKind.u64.wrap (wrap64 (8 * x10))) then (if x8.length < 140737488355328 then (skerryref22_Build.l2 k x4 x5 x7 (x8 ++ [(shr .u64 x7 (IntKind.u64.wrap (wrap64 (8 * x10)))) % 256]) (wrap64 (x10 + 1))) else (none)) else (none)) else ((skerryref02_Sum.f k x8 0).bind fun bt405 => (if 0 ≤ x5 then (if x5 < (x4.length : Int) then (skerryref22_Build.l0 k (x4.set (x5 : Int).toNat bt405.1) (wrap64 (x5 - 1))) else (none)) else (none)))
end
def skerryref22_Build.f (k : Nat) (l0 : List Int) : Option (List Int) := (skerryref22_power.f k (l0.length : Int) 6).bind fun t390 => (if t390 = true then (if 0 ≤ (l0.length : Int) then (if ((l0.length : Int) : Int).toNat ≤ 35184372088832 then ((some (List.replicate ((l0.length : Int) : Int).toNat 0 : List Int)).bind fun y391 => (if y391.length + l0.length < 17592186044416 then (skerryref22_Build.l0 k (y391 ++ l0) (wrap64 ((l0.length : Int) - 1))) else (none))) else (none)) else (none)) else (some ([] : List Int)))
set_option maxHeartbeats 8000000 in
set_option maxRecDepth 100000 in
theorem skerryref22_Build.calls (k : Nat) (A0 : Option Addr) (c0 : Nat) (l0 : List Int) (r : List Int) (w : World) (hr0 : Kd.C (Kd.int .u64) w A0 l0.length l0) (hc0 : l0.length ≤ c0) (h : skerryref22_Build.f k l0 = some r) :
  Calls Try.prog 11 #[.slice A0 l0.length c0] w fun e w' => ∃ v0_ : Value, e = .returned (v0_) ∧ Kd.R (Kd.int .u64) 50 w' w.heap.size (fun _ => True) v0_ r ∧ Below w.heap.size w w' := by
 have HR0 := Aside0.mk hr0
 have HC0 := Aside0.mk hc0
 clear hr0 hc0
 have HB := Aside0.mk (Below.refl w.heap.size w)
 have H : ((skerryref22_power.f k (l0.length : Int) 6).bind fun t390 => (if t390 = true then (if 0 ≤ (l0.length : Int) then (if ((l0.length : Int) : Int).toNat ≤ 35184372088832 then ((some (List.replicate ((l0.length : Int) : Int).toNat 0 : List Int)).bind fun y391 => (if y391.length + l0.length < 17592186044416 then (skerryref22_Build.l0 k (y391 ++ l0) (wrap64 ((l0.length : Int) - 1))) else (none))) else (none)) else (none)) else (some ([] : List Int)))) = some r := h
 clear h
 replace H := Option.bind_eq_some_iff.mp H
 obtain ⟨t390, A20, H⟩ := H
 have A2 := Aside0.mk A20
 clear A20
 by_cases c3 : t390 = true
 rotate_left
 ·
  replace c3 := Bool.eq_false_iff.mpr c3
  subst c3
  have H1 : (some ([] : List Int)) = some r := by rw [if_neg (show ¬ (false = true) by decide)] at H; exact H
  clear H
  have H := H1
  clear H1
  obtain rfl := Option.some.inj H
  go_enter Try.func11, Try.ntmps11
  go_wp2_with (first | (go_at_call 32; (with_reducible refine (skerryref22_power.calls k (l0.length : Int) 6 false _ A2.out).mono ?_); rintro e w' ⟨rfl, ⟨nd, rfl⟩⟩; (try first | exact ⟨rfl, _, World.drewN_drewN _ _ _⟩ | exact ⟨rfl, _, Eq.trans (World.drewN_drewN _ _ _) (congrArg (World.drewN _) (Nat.add_assoc _ _ _))⟩)))
  repeat (go_quiet (first | (go_at_call 32; (with_reducible refine (skerryref22_power.calls k (l0.length : Int) 6 false _ A2.out).mono ?_); rintro e w' ⟨rfl, ⟨nd, rfl⟩⟩; (try first | exact ⟨rfl, _, World.drewN_drewN _ _ _⟩ | exact ⟨rfl, _, Eq.trans (World.drewN_drewN _ _ _) (congrArg (World.drewN _) (Nat.add_assoc _ _ _))⟩))); try go_wp2_with (first | (go_at_call 32; (with_reducible refine (skerryref22_power.calls k (l0.length : Int) 6 false _ A2.out).mono ?_); rintro e w' ⟨rfl, ⟨nd, rfl⟩⟩; (try first | exact ⟨rfl, _, World.drewN_drewN _ _ _⟩ | exact ⟨rfl, _, Eq.trans (World.drewN_drewN _ _ _) (congrArg (World.drewN _) (Nat.add_assoc _ _ _))⟩))))
  go_ret
  exact ⟨_, by first | rfl | (simp <;> rfl) | (simp [*] <;> rfl), by first | exact Kd.R_nil _ _ _ _ _ | exact Kd.N_nil _ _ _ _ _ | exact Kd.V_nil _ _ _ _ _ | exact Kd.Q_nil _ _ _ _ _ | exact Kd.S_nil _ _ _ _ _, kwW HB⟩
 subst c3
 have H1 : (if 0 ≤ (l0.length : Int) then (if ((l0.length : Int) : Int).toNat ≤ 35184372088832 then ((some (List.replicate ((l0.length : Int) : Int).toNat 0 : List Int)).bind fun y391 => (if y391.length + l0.length < 17592186044416 then (skerryref22_Build.l0 k (y391 ++ l0) (wrap64 ((l0.length : Int) - 1))) else (none))) else (none)) else (none)) = some r := by rw [if_pos rfl] at H; exact H
 clear H
 have H := H1
 clear H1
 by_cases c4 : 0 ≤ (l0.length : Int)
 rotate_left
 ·
  rw [if_neg c4] at H
  exact absurd H (by simp)
 rw [if_pos c4] at H
 have c4b0 := eq_true c4
 have c4b1 : decide (0 ≤ (l0.length : Int)) = true := decide_eq_true c4
 clear c4
 by_cases c5 : ((l0.length : Int) : Int).toNat ≤ 35184372088832
 rotate_left
 ·
  rw [if_neg c5] at H
  exact absurd H (by simp)
 rw [if_pos c5] at H
 have c5b0 := eq_true c5
 have c5b1 : decide (((l0.length : Int) : Int).toNat ≤ 35184372088832) = true := decide_eq_true c5
 clear c5
 obtain ⟨y391, hy391⟩ : ∃ y_ : List Int, y_ = (List.replicate ((l0.length : Int) : Int).toNat 0) := ⟨_, rfl⟩
 replace H : (if y391.length + l0.length < 17592186044416 then (skerryref22_Build.l0 k (y391 ++ l0) (wrap64 ((l0.length : Int) - 1))) else (none)) = some r := by first | (rw [hy391]; with_reducible exact H) | (have H2_ := (Option.bind_some _ _).symm.trans H; rw [hy391]; with_reducible exact H2_) | (have H2_ := (Option.bind_some _ _).symm.trans H; with_reducible exact H2_) | with_reducible exact H | (rw [hy391]; exact H) | exact H
 have Ny391 := Aside0.mk hy391
 clear hy391
 by_cases c6 : y391.length + l0.length < 17592186044416
 rotate_left
 ·
  rw [if_neg c6] at H
  exact absurd H (by simp)
 rw [if_pos c6] at H
 have LMc6 := Aside0.mk c6
 clear c6
 obtain ⟨y394, hy394⟩ : ∃ y_ : List Int, y_ = (y391 ++ l0) := ⟨_, rfl⟩
 replace H : (skerryref22_Build.l0 k y394 (wrap64 ((l0.length : Int) - 1))) = some r := by first | (rw [hy394]; with_reducible exact H) | (have H2_ := (Option.bind_some _ _).symm.trans H; rw [hy394]; with_reducible exact H2_) | (have H2_ := (Option.bind_some _ _).symm.trans H; with_reducible exact H2_) | with_reducible exact H | (rw [hy394]; exact H) | exact H
 have Ny394 := Aside0.mk hy394
 clear hy394
 have H' := Aside0.mk H
 clear H
 go_enter Try.func11, Try.ntmps11
 go_wp2_with (first | (go_at_call 32; (with_reducible refine (skerryref22_power.calls k (l0.length : Int) 6 true _ A2.out).mono ?_); rintro e w' ⟨rfl, ⟨nd, rfl⟩⟩; (try first | exact ⟨rfl, _, World.drewN_drewN _ _ _⟩ | exact ⟨rfl, _, Eq.trans (World.drewN_drewN _ _ _) (congrArg (World.drewN _) (Nat.add_assoc _ _ _))⟩)) | ((with_reducible refine gate_dst (N := 17) rfl ?_); refine Kd.R_make (Kd.int .u64) _ 50 rfl (N := 17) rfl 22 _ _ rfl (l0.length : Int) rfl rfl Try.underlying22 (.int .u64 0) 8 info50 rfl (by decide) (by omega) 0 (ok := fun _ => True) (okp := fun _ => True) rfl (fun _ hk => hk) trivial (of_decide_eq_true (by first | (with_reducible assumption) | assumption)) (Nat.le_trans (Nat.mul_le_mul_right _ (of_decide_eq_true (by first | (with_reducible assumption) | assumption) : (l0.length : Int).toNat ≤ 35184372088832)) (by omega)) (Below.refl _ _) (Nat.le_refl _) ?_; intro v392 w7 ho8 hb hg_ hnew_; clear hg_ hnew_; (first | rw [← Ny391.out] at ho8 | (simp only [Int.reduceToNat] at ho8; rw [← Ny391.out] at ho8)); have HO393 := Aside0.mk (Kd.R_lower ho8 (bZ_ (kwW HB))); replace HB := Aside0.mk (below_step (kwW HB) hb); clear hb ho8) | ((with_reducible refine gate_builtin (b := .append) (xs := #[.tmp 17, .tmp 18]) rfl ?_); at_builtin; refine Kd.R_append_rows (Kd.int .u64) (w0 := w) w.heap.size rfl (.tmp 17) (.tmp 18) 22 50 (.int .u64 0) 8 rfl Try.underlying22 info50 rfl (by decide) (by omega) v392 y391 l0 _ _ _ (fun _ => True) (fun _ => False) rfl rfl ?aO ?aR (fun _ _ h => h) (fun _ h => h.elim) ?aF ?aB ?aS ?aL ?_; (case aR => repeat (first | exact (Kd.C_below HR0.out HB.out) | (with_reducible refine Kd.C_alloc ?_ _) | (with_reducible refine Kd.C_drewN ?_ _) | (with_reducible refine Kd.C_drew ?_))); (case aB => exact (kwW HB)); (case aF => exact (fun _ _ => trivial)); (case aO => exact (krW HO393)); (case aS => exact (bZ_ (kwW HB))); (case aL => have := LMc6.out; omega); intro v395 w9 ho hb hg hat; rw [← Ny394.out] at ho; replace HB := Aside0.mk (hb); have HO396 := Aside0.mk (ho); clear HO393; clear ho hb hg hat))
 go_loopg [5] k (fun kq v5 w' => ∃ (x4_1 : List Int) (x5_1 : Int), v5 = .int .i64 x5_1 ∧ Aside0 (skerryref22_Build.l0 kq x4_1 x5_1 = some r) ∧ Aside0 (kq ≤ k) ∧ Aside0 (Kd.R (Kd.int .u64) 50 w' w.heap.size (fun _ => True) v395 x4_1) ∧ Aside0 (Below w.heap.size w w'))
 case atStart => exact ⟨(y394), (wrap64 ((l0.length : Int) - 1)), (by first | rfl | (simp; done) | (simp [bne, *]; done)), H', ⟨Nat.le_refl _⟩, ⟨krW HO396⟩, ⟨kwW HB⟩⟩
 case round =>
  clear H'
  try clear c1
  try clear p2
  try clear c3
  try clear c4
  try clear c4b0
  try clear c4b1
  try clear c5
  try clear c5b0
  try clear c5b1
  try clear c6
  try clear p6
  obtain ⟨x4_1, x5_1, rfl, HA, HK1, HO_4, HB⟩ := hrel
  cases gk with
  | zero => exact absurd HA.out (by simp [skerryref22_Build.l0])
  | succ k1 =>
   have H := HA.out
   clear HA
   simp only [skerryref22_Build.l0] at H
   by_cases c10 : x5_1 ≥ 1
   rotate_left
   ·
    rw [if_neg c10] at H
    have c10b0 : decide (1 ≤ x5_1) = false := decide_eq_false c10
    clear c10
    obtain rfl := Option.some.inj H
    go_wp2
    repeat (go_quiet (fail); try go_wp2)
    go_ret
    exact ⟨_, by first | rfl | (simp <;> rfl) | (simp [*] <;> rfl), krW HO_4, kwW HB⟩
   rw [if_pos c10] at H
   have c10b0 : decide (1 ≤ x5_1) = true := decide_eq_true c10
   clear c10
   obtain ⟨ji11, hji11⟩ : ∃ j_ : Int, (wrap64 (2 * x5_1)) = j_ := ⟨_, rfl⟩
   replace H : (if 0 ≤ (ji11) then (if (ji11) < (x4_1.length : Int) then (if 0 ≤ (wrap64 ((ji11) + 1)) then (if (wrap64 ((ji11) + 1)) < (x4_1.length : Int) then (if (rd x4_1 (ji11)) = 0 then (skerryref22_Build.j1 k1 x4_1 x5_1 (rd x4_1 (ji11)) (rd x4_1 (wrap64 ((ji11) + 1))) ((rd x4_1 (wrap64 ((ji11) + 1))) == 0)) else (skerryref22_Build.j1 k1 x4_1 x5_1 (rd x4_1 (ji11)) (rd x4_1 (wrap64 ((ji11) + 1))) false)) else (none)) else (none)) else (none)) else (none)) = some r := by first | (rw [hji11] at H; exact H) | (simp only [hji11] at H ⊢; exact H)
   have hji11w : (IntKind.i64.wrap (2 * x5_1)) = ji11 := (i64_w _).trans hji11
   by_cases c12 : 0 ≤ (ji11)
   rotate_left
   ·
    rw [if_neg c12] at H
    exact absurd H (by simp)
   rw [if_pos c12] at H
   have c12b0 : decide (0 ≤ (ji11)) = true := decide_eq_true c12
   clear c12
   by_cases c13 : (ji11) < (x4_1.length : Int)
   rotate_left
   ·
    rw [if_neg c13] at H
    exact absurd H (by simp)
   rw [if_pos c13] at H
   have c13b0 : decide ((ji11) < (x4_1.length : Int)) = true := decide_eq_true c13
   clear c13
   obtain ⟨ji14, hji14⟩ : ∃ j_ : Int, (wrap64 ((ji11) + 1)) = j_ := ⟨_, rfl⟩
   replace H : (if 0 ≤ (ji14) then (if (ji14) < (x4_1.length : Int) then (if (rd x4_1 (ji11)) = 0 then (skerryref22_Build.j1 k1 x4_1 x5_1 (rd x4_1 (ji11)) (rd x4_1 (ji14)) ((rd x4_1 (ji14)) == 0)) else (skerryref22_Build.j1 k1 x4_1 x5_1 (rd x4_1 (ji11)) (rd x4_1 (ji14)) false)) else (none)) else (none)) = some r := by first | (rw [hji14] at H; exact H) | (simp only [hji14] at H ⊢; exact H)
   have hji14w : (IntKind.i64.wrap ((ji11) + 1)) = ji14 := (i64_w _).trans hji14
   (try rw [hji14] at hji11)
   (try rw [hji14] at hji11w)
   by_cases c15 : 0 ≤ (ji14)
   rotate_left
   ·
    rw [if_neg c15] at H
    exact absurd H (by simp)
   rw [if_pos c15] at H
   have c15b0 : decide (0 ≤ (ji14)) = true := decide_eq_true c15
   clear c15
   by_cases c16 : (ji14) < (x4_1.length : Int)
   rotate_left
   ·
    rw [if_neg c16] at H
    exact absurd H (by simp)
   rw [if_pos c16] at H
   have c16b0 : decide ((ji14) < (x4_1.length : Int)) = true := decide_eq_true c16
   clear c16
   have HC17 := Aside0.mk H
   clear H
   obtain ⟨Ao18, co18, eo18⟩ := Kd.R_slice HO_4.out
   subst eo18
   have p397 : 0 ≤ ((ji11) : Int) := of_decide_eq_true (by first | (with_reducible assumption) | assumption)
   have q397 : (ji11) < (x4_1.length : Int) := of_decide_eq_true (by first | (with_reducible assumption) | assumption)
   obtain ⟨ad397, e397, hx397_0⟩ := Kd.at_int (Kd.R_reads' HO_4.out).2.2 (ji11) p397 q397
   cases e397
   replace p397 := eq_true p397
   replace q397 := eq_true q397
   have p398 : 0 ≤ ((ji14) : Int) := of_decide_eq_true (by first | (with_reducible assumption) | assumption)
   have q398 : (ji14) < (x4_1.length : Int) := of_decide_eq_true (by first | (with_reducible assumption) | assumption)
   obtain ⟨ad398, e398, hx398_0⟩ := Kd.at_int (Kd.R_reads' HO_4.out).2.2 (ji14) p398 q398
   obtain rfl : ad397 = ad398 := (by injection e398)
   replace p398 := eq_true p398
   replace q398 := eq_true q398
   go_upto_region 9 with (fail)
   repeat (go_quiet (fail); go_upto_region 9 with (fail))
   go_cut [42] (fun v42 wc => ∃ (kq : Nat) (x42_16 : Bool), v42 = .bool x42_16 ∧ Aside0 (skerryref22_Build.j1 kq x4_1 x5_1 (rd x4_1 (ji11)) (rd x4_1 (ji14)) x42_16 = some r) ∧ Aside0 (kq ≤ k1) ∧ Aside0 (Kd.R (Kd.int .u64) 50 wc w.heap.size (fun _ => True) (.slice (some ad397) x4_1.length co18) x4_1) ∧ Aside0 (Below w.heap.size w wc))
   case first =>
    have H := HC17.out
    clear HC17
    by_cases c19 : (rd x4_1 (ji11)) = 0
    rotate_left
    ·
     rw [if_neg c19] at H
     have c19b0 : ((rd x4_1 (ji11)) == 0) = false := beq_eq_false_iff_ne.mpr c19
     have c19b1 : ((rd x4_1 (ji11)) != 0) = true := bne_iff_ne.mpr c19
     (first | rw [c19b0] | (simp only [i64_w, i32_w]; rw [c19b0]) | skip)
     have H' := Aside0.mk H
     clear H
     go_wp2
     repeat (go_quiet (fail); try go_wp2)
     go_meet
     case rel => exact ⟨_, (false), (by first | rfl | (simp; done) | (simp [bne, *]; done)), H', ⟨by have := HK1.out; first | omega | exact Nat.le_refl _⟩, ⟨krW HO_4⟩, ⟨kwW HB⟩⟩
    rw [if_pos c19] at H
    have c19b0 : ((rd x4_1 (ji11)) == 0) = true := beq_iff_eq.mpr c19
    have c19b1 : ((rd x4_1 (ji11)) != 0) = false := bne_eq_false_iff_eq.mpr c19
    clear c19
    (first | rw [c19b0] | (simp only [i64_w, i32_w]; rw [c19b0]) | skip)
    have H' := Aside0.mk H
    clear H
    go_wp2
    repeat (go_quiet (fail); try go_wp2)
    go_meet
    case rel => exact ⟨_, (((rd x4_1 (ji14)) == 0)), (by first | rfl | (simp; done) | (simp only [← hji14] <;> (first | rfl | simp)) | (simp [*]; done)), H', ⟨by have := HK1.out; first | omega | exact Nat.le_refl _⟩, ⟨krW HO_4⟩, ⟨kwW HB⟩⟩
   case rest =>
    clear HC17
    try clear c1
    try clear p2
    try clear c3
    try clear p3
    try clear q3
    try clear hx3
    try clear c4
    try clear c4b0
    try clear c4b1
    try clear c5
    try clear c5b0
    try clear c5b1
    try clear c6
    try clear p6
    try clear c10
    try clear c10b0
    try clear c11
    try clear c12
    try clear c12b0
    try clear c13
    try clear c13b0
    try clear c15
    try clear c15b0
    try clear c16
    try clear c16b0
    try clear c19
    try clear c19b0
    try clear c19b1
    try clear hx397_0
    try clear hx398_0
    try clear p2
    try clear p397
    try clear p398
    try clear p6
    try clear q397
    try clear q398
    obtain ⟨kq, x42_16, rfl, HA, HJ16, HO_4, HB⟩ := hcut
    cases kq with
    | zero => exact absurd HA.out (by simp [skerryref22_Build.j1])
    | succ kj16 =>
     have H := HA.out
     clear HA
     simp only [skerryref22_Build.j1] at H
     by_cases c20 : x42_16 = true
     ·
      subst c20
      have H1 : (skerryref22_Build.l0 kj16 x4_1 (wrap64 (x5_1 - 1))) = some r := by rw [if_pos rfl] at H; exact H
      clear H
      have H := H1
      clear H1
      have H' := Aside0.mk H
      clear H
      go_wp2
      repeat (go_quiet (fail); try go_wp2)
      go_roundg kj16
      case measure => have := HK1.out; have := HJ16.out; omega
      case rel => exact ⟨(x4_1), (wrap64 (x5_1 - 1)), (by first | rfl | (simp; done) | (simp [bne, *]; done)), H', ⟨by have := HK1.out; have := HJ16.out; omega⟩, ⟨krW HO_4⟩, ⟨kwW HB⟩⟩
     ·
      replace c20 := Bool.eq_false_iff.mpr c20
      subst c20
      have H1 : (skerryref22_Build.l1 kj16 x4_1 x5_1 (rd x4_1 (ji11)) (rd x4_1 (ji14)) ([] : List Int) 0) = some r := by rw [if_neg (show ¬ (false = true) by decide)] at H; exact H
      clear H
      have H := H1
      clear H1
      have H' := Aside0.mk H
      clear H
      go_wp2
      repeat (go_quiet (fail); try go_wp2)
      go_loopg [8, 9] kj16 (fun kq v8 v9 w' => ∃ (x8_3 : List Int) (x9_3 : Int), v9 = .int .i64 x9_3 ∧ Aside0 (skerryref22_Build.l1 kq x4_1 x5_1 (rd x4_1 (ji11)) (rd x4_1 (ji14)) x8_3 x9_3 = some r) ∧ Aside0 (kq ≤ kj16) ∧ Aside0 (Kd.R (Kd.int .u64) 50 w' w.heap.size (fun _ => True) (.slice (some ad397) x4_1.length co18) x4_1) ∧ Aside0 (Kd.R (Kd.int .u8) 5 w' w.heap.size (fun _ => True) v8 x8_3) ∧ Aside0 (Below w.heap.size w w'))
      case atStart => exact ⟨(([] : List Int)), (0), (by first | rfl | (simp; done) | (simp [bne, *]; done)), H', ⟨Nat.le_refl _⟩, ⟨krW HO_4⟩, ⟨by first | exact Kd.R_nil _ _ _ _ _ | exact Kd.N_nil _ _ _ _ _ | exact Kd.V_nil _ _ _ _ _ | exact Kd.Q_nil _ _ _ _ _ | exact Kd.S_nil _ _ _ _ _⟩, ⟨kwW HB⟩⟩
      case round =>
       clear H'
       try clear c1
       try clear c2
       try clear p2
       try clear c3
       try clear p3
       try clear q3
       try clear hx3
       try clear c4
       try clear c4b0
       try clear c4b1
       try clear c5
       try clear c5b0
       try clear c5b1
       try clear c6
       try clear p6
       try clear c10
       try clear c10b0
       try clear c11
       try clear c12
       try clear c12b0
       try clear c13
       try clear c13b0
       try clear c15
       try clear c15b0
       try clear c16
       try clear c16b0
       try clear c19
       try clear c19b0
       try clear c19b1
       try clear c20
       try clear hx397_0
       try clear hx398_0
       try clear p2
       try clear p3
       try clear p397
       try clear p398
       try clear p6
       try clear q3
       try clear q397
       try clear q398
       obtain ⟨x8_3, x9_3, rfl, HA, HK3, HO_4, HO_8, HB⟩ := hrel
       cases gk with
       | zero => exact absurd HA.out (by simp [skerryref22_Build.l1])
       | succ k3 =>
        have H := HA.out
        clear HA
        simp only [skerryref22_Build.l1] at H
        by_cases c21 : x9_3 < 8
        ·
         rw [if_pos c21] at H
         have c21b0 : decide (x9_3 < 8) = true := decide_eq_true c21
         clear c21
         obtain ⟨ji22, hji22⟩ : ∃ j_ : Int, (IntKind.u64.wrap (wrap64 (8 * x9_3))) = j_ := ⟨_, rfl⟩
         replace H : (if 0 ≤ (ji22) then (if x8_3.length < 140737488355328 then (skerryref22_Build.l1 k3 x4_1 x5_1 (rd x4_1 (ji11)) (rd x4_1 (ji14)) (x8_3 ++ [(shr .u64 (rd x4_1 (ji11)) (ji22)) % 256]) (wrap64 (x9_3 + 1))) else (none)) else (none)) = some r := by first | (rw [hji22] at H; exact H) | (simp only [hji22] at H ⊢; exact H)
         by_cases c23 : 0 ≤ (ji22)
         rotate_left
         ·
          rw [if_neg c23] at H
          exact absurd H (by simp)
         rw [if_pos c23] at H
         have c23b0 := eq_true c23
         have c23b1 : decide (0 ≤ (ji22)) = true := decide_eq_true c23
         clear c23
         obtain ⟨ji24, hji24⟩ : ∃ j_ : Int, (shr .u64 (rd x4_1 (ji11)) (ji22)) = j_ := ⟨_, rfl⟩
         replace H : (if x8_3.length < 140737488355328 then (skerryref22_Build.l1 k3 x4_1 x5_1 (rd x4_1 (ji11)) (rd x4_1 (ji14)) (x8_3 ++ [(ji24) % 256]) (wrap64 (x9_3 + 1))) else (none)) = some r := by first | (rw [hji24] at H; exact H) | (simp only [hji24] at H ⊢; exact H)
         have hji24_ : ((rd x4_1 (ji11)) / 2 ^ min (ji22).toNat 64) = ji24 := hji24
         have hji24z : (ji22) ≤ 64 → ((rd x4_1 (ji11)) / 2 ^ (ji22).toNat) = ji24 := shr_small hji24
         by_cases c25 : x8_3.length < 140737488355328
         rotate_left
         ·
          rw [if_neg c25] at H
          exact absurd H (by simp)
         rw [if_pos c25] at H
         have LMc25 := Aside0.mk c25
         clear c25
         obtain ⟨y399, hy399⟩ : ∃ y_ : List Int, y_ = (x8_3 ++ [(ji24) % 256]) := ⟨_, rfl⟩
         replace H : (skerryref22_Build.l1 k3 x4_1 x5_1 (rd x4_1 (ji11)) (rd x4_1 (ji14)) y399 (wrap64 (x9_3 + 1))) = some r := by first | (rw [hy399]; with_reducible exact H) | (have H2_ := (Option.bind_some _ _).symm.trans H; rw [hy399]; with_reducible exact H2_) | (have H2_ := (Option.bind_some _ _).symm.trans H; with_reducible exact H2_) | with_reducible exact H | (rw [hy399]; exact H) | exact H
         have Ny399 := Aside0.mk hy399
         clear hy399
         have H' := Aside0.mk H
         clear H
         go_wp2_with (first | ((with_reducible refine gate_builtin (b := .append) (xs := #[.tmp 47, .tmp 54]) rfl ?_); at_builtin; refine Kd.R_append (Kd.int .u8) (w0 := w) w.heap.size rfl (.tmp 47) (.tmp 54) 55 5 (.int .u8 0) 1 rfl Try.underlying55 info5 rfl (by decide) (by omega) u8 x8_3 ((ji24) % 256) [.int .u8 ((ji24) % 256)] (fun _ => True) (fun _ => False) rfl rfl ?aP (fun _ hk => hk.elim) ?aF ?aO ?aB ?aS ?aL ?_; (case aP => exact rfl); (case aB => exact (kwW HB)); (case aF => exact (fun _ _ => trivial)); (case aO => exact (krW HO_8)); (case aS => exact (bZ_ (kwW HB))); (case aL => have := LMc25.out; omega); intro v400 w26 ho hb hg hat; rw [← Ny399.out] at ho; replace HO_4 := Aside0.mk (Kd.R_over' (krW HO_4) (Kd.R_typed (krW HO_8)) (by decide) hg); replace HB := Aside0.mk (hb); have HO401 := Aside0.mk (ho); clear HO_8; clear ho hb hg hat))
         go_roundg k3
         case measure => have := HK1.out; have := HJ16.out; have := HK3.out; omega
         case rel => exact ⟨(y399), (wrap64 (x9_3 + 1)), (by first | rfl | (simp; done) | (simp [bne, *]; done)), H', ⟨by have := HK1.out; have := HJ16.out; have := HK3.out; omega⟩, ⟨krW HO_4⟩, ⟨krW HO401⟩, ⟨kwW HB⟩⟩
        ·
         rw [if_neg c21] at H
         have c21b0 : decide (x9_3 < 8) = false := decide_eq_false c21
         clear c21
         have H' := Aside0.mk H
         clear H
         go_wp2
         repeat (go_quiet (fail); try go_wp2)
         go_loopg [8, 10] k3 (fun kq v8 v10 w' => ∃ (x8_4 : List Int) (x10_4 : Int), v10 = .int .i64 x10_4 ∧ Aside0 (skerryref22_Build.l2 kq x4_1 x5_1 (rd x4_1 (ji14)) x8_4 x10_4 = some r) ∧ Aside0 (kq ≤ k3) ∧ Aside0 (Kd.R (Kd.int .u64) 50 w' w.heap.size (fun _ => True) (.slice (some ad397) x4_1.length co18) x4_1) ∧ Aside0 (Kd.R (Kd.int .u8) 5 w' w.heap.size (fun _ => True) v8 x8_4) ∧ Aside0 (Below w.heap.size w w'))
         case atStart => exact ⟨(x8_3), (0), (by first | rfl | (simp; done) | (simp [bne, *]; done)), H', ⟨Nat.le_refl _⟩, ⟨krW HO_4⟩, ⟨krW HO_8⟩, ⟨kwW HB⟩⟩
         case round =>
          clear H'
          try clear c1
          try clear c2
          try clear p2
          try clear c3
          try clear p3
          try clear q3
          try clear hx3
          try clear c4
          try clear c4b0
          try clear c4b1
          try clear c5
          try clear c5b0
          try clear c5b1
          try clear c6
          try clear p6
          try clear c10
          try clear c10b0
          try clear c11
          try clear c12
          try clear c12b0
          try clear c13
          try clear c13b0
          try clear c15
          try clear c15b0
          try clear c16
          try clear c16b0
          try clear c19
          try clear c19b0
          try clear c19b1
          try clear c20
          try clear c21
          try clear c21b0
          try clear c23
          try clear c23b0
          try clear c23b1
          try clear c25
          try clear hx397_0
          try clear hx398_0
          try clear p2
          try clear p3
          try clear p397
          try clear p398
          try clear p6
          try clear q3
          try clear q397
          try clear q398
          obtain ⟨x8_4, x10_4, rfl, HA, HK4, HO_4, HO_8, HB⟩ := hrel
          cases gk with
          | zero => exact absurd HA.out (by simp [skerryref22_Build.l2])
          | succ k4 =>
           have H := HA.out
           clear HA
           simp only [skerryref22_Build.l2] at H
           by_cases c27 : x10_4 < 8
           rotate_left
           ·
            rw [if_neg c27] at H
            have c27b0 : decide (x10_4 < 8) = false := decide_eq_false c27
            clear c27
            replace H := Option.bind_eq_some_iff.mp H
            obtain ⟨⟨t405, t406⟩, A330, H⟩ := H
            have A33 := Aside0.mk A330
            clear A330
            by_cases c34 : 0 ≤ x5_1
            rotate_left
            ·
             rw [if_neg c34] at H
             exact absurd H (by simp)
            rw [if_pos c34] at H
            have c34b0 : decide (0 ≤ x5_1) = true := decide_eq_true c34
            clear c34
            by_cases c35 : x5_1 < (x4_1.length : Int)
            rotate_left
            ·
             rw [if_neg c35] at H
             exact absurd H (by simp)
            rw [if_pos c35] at H
            have c35b0 : decide (x5_1 < (x4_1.length : Int)) = true := decide_eq_true c35
            clear c35
            obtain ⟨y407, hy407⟩ : ∃ y_ : List Int, y_ = (x4_1.set (x5_1 : Int).toNat t405) := ⟨_, rfl⟩
            replace H : (skerryref22_Build.l0 k4 y407 (wrap64 (x5_1 - 1))) = some r := by first | (rw [hy407]; with_reducible exact H) | (have H2_ := (Option.bind_some _ _).symm.trans H; rw [hy407]; with_reducible exact H2_) | (have H2_ := (Option.bind_some _ _).symm.trans H; with_reducible exact H2_) | with_reducible exact H | (rw [hy407]; exact H) | exact H
            have Ny407 := Aside0.mk hy407
            clear hy407
            have H' := Aside0.mk H
            clear H
            obtain ⟨Ao37, co37, eo37⟩ := Kd.R_slice HO_8.out
            subst eo37
            go_wp2_with (first | (go_at_call 33; (with_reducible refine (skerryref02_Sum.calls k4 _ _ x8_4 0 t405 t406 _ ?side1 ?side2 A33.out).mono ?_); (case side1 => repeat (first | exact (Kd.R_reads' HO_8.out).2.2 | (with_reducible refine Kd.C_alloc ?_ _) | (with_reducible refine Kd.C_drewN ?_ _) | (with_reducible refine Kd.C_drew ?_))); (case side2 => exact (Kd.R_reads' HO_8.out).2.1); rintro e w' ⟨rfl, ⟨nd, rfl⟩⟩; (try first | exact ⟨rfl, _, World.drewN_drewN _ _ _⟩ | exact ⟨rfl, _, Eq.trans (World.drewN_drewN _ _ _) (congrArg (World.drewN _) (Nat.add_assoc _ _ _))⟩); have p36 : 0 ≤ (x5_1 : Int) := of_decide_eq_true (by first | (with_reducible assumption) | assumption); have q36 : (x5_1 : Int) < ((x4_1.length : Int) : Int) := of_decide_eq_true (by first | (with_reducible assumption) | assumption); obtain ⟨go36, co36, eo36, gb36, gl36, cl36, HG36⟩ := Kd.R_form HO_4.out (by omega); (first | cases eo36 | (injection eo36 with ea_ en_ ec_; (first | subst ea_ | (injection ea_ with ea_; subst ea_)); subst ec_; clear en_)); have GB36 := Aside0.mk gb36; have GG36 := Aside0.mk HG36; clear gb36 gl36 HG36; (first | simp only [add_plain] at hx397_0 | skip); (first | simp only [add_plain] at hx398_0 | skip); obtain ⟨hx36_0, hf36_0⟩ := Kd.R_celln 0 HO_4.out (x5_1 : Int) p36 q36; replace p36 := eq_true p36; replace q36 := eq_true q36; obtain ⟨hy38_, hz38_⟩ := Kd.R_celln 0 HO_4.out (x5_1 : Int) (of_decide_eq_true (by first | (with_reducible assumption) | assumption)) (of_decide_eq_true (by first | (with_reducible assumption) | assumption)); have HP38 := Kd.R_putg HO_4.out (x5_1 : Int) t405) | ((with_reducible refine gate_store (t := 50) (p := 76) rfl ?_); (try (rw [drewN_self wr]; generalize hq_ : World.drewN wr _ = wr; have n0_ := Aside0.mk (Kd.R_at hq_ HO_4.out); have n1_ := Aside0.mk (Kd.R_at hq_ HO_8.out); have n2_ := Aside0.mk (below_at hq_ HB.out); clear hq_ HO_4 HO_8 HB; have HO_4 := n0_; have HO_8 := n1_; have HB := n2_; clear n0_ n1_ n2_; (try (obtain ⟨hy38_, hz38_⟩ := Kd.R_celln 0 HO_4.out (x5_1 : Int) (of_decide_eq_true (by first | (with_reducible assumption) | assumption)) (of_decide_eq_true (by first | (with_reducible assumption) | assumption)))); (try (have HP38 := Kd.R_putg HO_4.out (x5_1 : Int) t405)))); refine store_event (t := 50) (p := 76) (v := ?vo_w39) (w1 := (wr.setCell ⟨go36, (x5_1 : Int).toNat, none⟩ (.int .u64 t405))) ?hg ?ho ?hn ?hr ?_; (case ho => rfl); (case hg => rfl); (case hn => rfl); (case hr => first | (go_simp; done) | (go_simp; rfl)); intro w39 hw; have hg : wr.grownBy w39 (some go36) := (by rw [hw]; exact HP38.2); have hp_ : Kd.R (Kd.int .u64) 50 w39 w.heap.size (fun _ => True) (.slice (some ⟨go36, 0, none⟩) x4_1.length co18) y407 := (by rw [hw, Ny407.out]; exact HP38.1); clear HP38; replace HO_8 := Aside0.mk (Kd.R_over' (v := (.slice (some ⟨go36, 0, none⟩) x4_1.length co18)) (krW HO_8) (Kd.R_typed HO_4.out) (by decide) hg); replace HO_4 := Aside0.mk (hp_); replace HB := Aside0.mk ((by rw [hw]; exact below_set (HB.out) GB36.out : Below w.heap.size w w39)); clear hg hw hp_))
            go_roundg k4
            case measure => have := HK1.out; have := HJ16.out; have := HK3.out; have := HK4.out; omega
            case rel => exact ⟨(y407), (wrap64 (x5_1 - 1)), (by first | rfl | (simp; done) | (simp [bne, *]; done)), H', ⟨by have := HK1.out; have := HJ16.out; have := HK3.out; have := HK4.out; omega⟩, ⟨by (with_reducible repeat (first | apply Kd.R_alloc | apply Kd.R_drewN | apply Kd.R_drew)); first | exact HO_4.out | (rw [Ny407.out]; refine Kd.R_putn ?_ _ _; (with_reducible repeat (first | apply Kd.R_alloc | apply Kd.R_drewN | apply Kd.R_drew)); exact HO_4.out) | (rw [← Ny407.out]; refine Kd.R_putn ?_ _ _; (with_reducible repeat (first | apply Kd.R_alloc | apply Kd.R_drewN | apply Kd.R_drew)); exact HO_4.out)⟩, ⟨by repeat (first | (with_reducible first | exact HB.out | apply bA_ | apply bN_ | apply bD_ | refine below_set ?_ GB36.out) | exact HB.out)⟩⟩
           rw [if_pos c27] at H
           have c27b0 : decide (x10_4 < 8) = true := decide_eq_true c27
           clear c27
           obtain ⟨ji28, hji28⟩ : ∃ j_ : Int, (IntKind.u64.wrap (wrap64 (8 * x10_4))) = j_ := ⟨_, rfl⟩
           replace H : (if 0 ≤ (ji28) then (if x8_4.length < 140737488355328 then (skerryref22_Build.l2 k4 x4_1 x5_1 (rd x4_1 (ji14)) (x8_4 ++ [(shr .u64 (rd x4_1 (ji14)) (ji28)) % 256]) (wrap64 (x10_4 + 1))) else (none)) else (none)) = some r := by first | (rw [hji28] at H; exact H) | (simp only [hji28] at H ⊢; exact H)
           by_cases c29 : 0 ≤ (ji28)
           rotate_left
           ·
            rw [if_neg c29] at H
            exact absurd H (by simp)
           rw [if_pos c29] at H
           have c29b0 := eq_true c29
           have c29b1 : decide (0 ≤ (ji28)) = true := decide_eq_true c29
           clear c29
           obtain ⟨ji30, hji30⟩ : ∃ j_ : Int, (shr .u64 (rd x4_1 (ji14)) (ji28)) = j_ := ⟨_, rfl⟩
           replace H : (if x8_4.length < 140737488355328 then (skerryref22_Build.l2 k4 x4_1 x5_1 (rd x4_1 (ji14)) (x8_4 ++ [(ji30) % 256]) (wrap64 (x10_4 + 1))) else (none)) = some r := by first | (rw [hji30] at H; exact H) | (simp only [hji30] at H ⊢; exact H)
           have hji30_ : ((rd x4_1 (ji14)) / 2 ^ min (ji28).toNat 64) = ji30 := hji30
           have hji30z : (ji28) ≤ 64 → ((rd x4_1 (ji14)) / 2 ^ (ji28).toNat) = ji30 := shr_small hji30
           by_cases c31 : x8_4.length < 140737488355328
           rotate_left
           ·
            rw [if_neg c31] at H
            exact absurd H (by simp)
           rw [if_pos c31] at H
           have LMc31 := Aside0.mk c31
           clear c31
           obtain ⟨y402, hy402⟩ : ∃ y_ : List Int, y_ = (x8_4 ++ [(ji30) % 256]) := ⟨_, rfl⟩
           replace H : (skerryref22_Build.l2 k4 x4_1 x5_1 (rd x4_1 (ji14)) y402 (wrap64 (x10_4 + 1))) = some r := by first | (rw [hy402]; with_reducible exact H) | (have H2_ := (Option.bind_some _ _).symm.trans H; rw [hy402]; with_reducible exact H2_) | (have H2_ := (Option.bind_some _ _).symm.trans H; with_reducible exact H2_) | with_reducible exact H | (rw [hy402]; exact H) | exact H
           have Ny402 := Aside0.mk hy402
           clear hy402
           have H' := Aside0.mk H
           clear H
           go_wp2_with (first | ((with_reducible refine gate_builtin (b := .append) (xs := #[.tmp 60, .tmp 67]) rfl ?_); at_builtin; refine Kd.R_append (Kd.int .u8) (w0 := w) w.heap.size rfl (.tmp 60) (.tmp 67) 55 5 (.int .u8 0) 1 rfl Try.underlying55 info5 rfl (by decide) (by omega) u8 x8_4 ((ji30) % 256) [.int .u8 ((ji30) % 256)] (fun _ => True) (fun _ => False) rfl rfl ?aP (fun _ hk => hk.elim) ?aF ?aO ?aB ?aS ?aL ?_; (case aP => exact rfl); (case aB => exact (kwW HB)); (case aF => exact (fun _ _ => trivial)); (case aO => exact (krW HO_8)); (case aS => exact (bZ_ (kwW HB))); (case aL => have := LMc31.out; omega); intro v403 w32 ho hb hg hat; rw [← Ny402.out] at ho; replace HO_4 := Aside0.mk (Kd.R_over' (krW HO_4) (Kd.R_typed (krW HO_8)) (by decide) hg); replace HB := Aside0.mk (hb); have HO404 := Aside0.mk (ho); clear HO_8; clear ho hb hg hat))
           go_roundg k4
           case measure => have := HK1.out; have := HJ16.out; have := HK3.out; have := HK4.out; omega
           case rel => exact ⟨(y402), (wrap64 (x10_4 + 1)), (by first | rfl | (simp; done) | (simp [bne, *]; done)), H', ⟨by have := HK1.out; have := HJ16.out; have := HK3.out; have := HK4.out; omega⟩, ⟨krW HO_4⟩, ⟨krW HO404⟩, ⟨kwW HB⟩⟩
end Go.Proofs.Ytafhnjlihhfoaaa.Q
