/- Lemmas for this claim's walk: no condition of their own. -/
import Derived.Test.YthlffcaaifpdeaaVdJ15
import Derived.Test.YthlffcaaifpdeaaVdJ17
import Derived.Test.YthlffcaaifpdeaaVdQx12
import Derived.Test.YthlffcaaifpdeaaVdQx13
namespace Go.Proofs.Ythlffcaaifpdeaa.Q
open Go.RowKit Go.Proofs.YthlffcaaifpdeaaW.PrintWords Go.Proofs.YthlffcaaifpdeaaW.PrintLast Go.Proofs.YthlffcaaifpdeaaW.PrintMore
attribute [local go_sem] max2_int min2_int max_two min_two max_three min_three max_four min_four
set_option linter.unusedVariables false
set_option linter.unusedSimpArgs false
mutual
def skerrylaw12_TiersParts.l0 : Nat → List Int → List Int → Int → List (List Int) → Int → Int → Option (Bool)
 | 0, _, _, _, _, _, _ => none
 | k + 1, x0, x3, x4, x22, x23, x24 => if x24 < x23 then (if 0 ≤ x24 then (if x24 < (x22.length : Int) then (skerrylaw12_TiersParts.l1 k x0 x3 x4 (rd_L1 x22 x24) 4611686018427387904 (-1) x22 x23 x24 (rd_L1 x22 x24) ((rd_L1 x22 x24).length : Int) 0) else (none)) else (none)) else (skerrylaw12_TiersParts.l2 k x3 (x3.length : Int) 0)
def skerrylaw12_TiersParts.l1 : Nat → List Int → List Int → Int → List Int → Int → Int → List (List Int) → Int → Int → List Int → Int → Int → Option (Bool)
 | 0, _, _, _, _, _, _, _, _, _, _, _, _ => none
 | k + 1, x0, x3, x4, x6, x7, x8, x22, x23, x24, x28, x29, x30 => if x30 < x29 then (if 0 ≤ x30 then (if x30 < (x28.length : Int) then (if (rd x28 x30) < 0 then (skerrylaw12_TiersParts.j2 k x0 x3 x4 x6 x7 x8 (rd x28 x30) x22 x23 x24 x28 x29 x30 true) else (if (rd x28 x30) ≥ (x0.length : Int) then (skerrylaw12_TiersParts.j2 k x0 x3 x4 x6 x7 x8 (rd x28 x30) x22 x23 x24 x28 x29 x30 true) else (if x30 > 0 then (if 0 ≤ (wrap64 (x30 - 1)) then (if (wrap64 (x30 - 1)) < (x6.length : Int) then (skerrylaw12_TiersParts.j2 k x0 x3 x4 x6 x7 x8 (rd x28 x30) x22 x23 x24 x28 x29 x30 (decide ((rd x6 (wrap64 (x30 - 1))) ≥ (rd x28 x30)))) else (none)) else (none)) else (skerrylaw12_TiersParts.j2 k x0 x3 x4 x6 x7 x8 (rd x28 x30) x22 x23 x24 x28 x29 x30 false)))) else (none)) else (none)) else (if (x6.length : Int) = 0 then (none) else (if x7 < x4 then (none) else (skerrylaw12_TiersParts.l0 k x0 x3 x8 x22 x23 (wrap64 (x24 + 1)))))
def skerrylaw12_TiersParts.j2 : Nat → List Int → List Int → Int → List Int → Int → Int → Int → List (List Int) → Int → Int → List Int → Int → Int → Bool → Option (Bool)
 | 0, _, _, _, _, _, _, _, _, _, _, _, _, _, _ => none
 | k + 1, x0, x3, x4, x6, x7, x8, x10, x22, x23, x24, x28, x29, x30, x55 => if x55 = true then (none) else (if 0 ≤ x10 then (if x10 < (x3.length : Int) then ((some (x3.set (x10 : Int).toNat (wrap64 ((rd x3 x10) + 1)) : List Int)).bind fun y273 => (if x10 < (x0.length : Int) then (if (rd x0 x10) < 0 then (skerrylaw12_TiersParts.j3 k x0 y273 x4 x6 x7 x8 0 x22 x23 x24 x28 x29 x30) else (skerrylaw12_TiersParts.j3 k x0 y273 x4 x6 x7 x8 (rd x0 x10) x22 x23 x24 x28 x29 x30)) else (none))) else (none)) else (none))
def skerrylaw12_TiersParts.j3 : Nat → List Int → List Int → Int → List Int → Int → Int → Int → List (List Int) → Int → Int → List Int → Int → Int → Option (Bool)
 | 0, _, _, _, _, _, _, _, _, _, _, _, _, _ => none
 | k + 1, x0, x3, x4, x6, x7, x8, x11, x22, x23, x24, x28, x29, x30 => if x11 > 1099511627776 then (skerrylaw12_TiersParts.j4 k x0 x3 x4 x6 x7 x8 1099511627776 x22 x23 x24 x28 x29 x30) else (skerrylaw12_TiersParts.j4 k x0 x3 x4 x6 x7 x8 x11 x22 x23 x24 x28 x29 x30)
def skerrylaw12_TiersParts.j4 : Nat → List Int → List Int → Int → List Int → Int → Int → Int → List (List Int) → Int → Int → List Int → Int → Int → Option (Bool)
 | 0, _, _, _, _, _, _, _, _, _, _, _, _, _ => none
 | k + 1, x0, x3, x4, x6, x7, x8, x11, x22, x23, x24, x28, x29, x30 => if x11 < x7 then (if x11 > x8 then (skerrylaw12_TiersParts.l1 k x0 x3 x4 x6 x11 x11 x22 x23 x24 x28 x29 (wrap64 (x30 + 1))) else (skerrylaw12_TiersParts.l1 k x0 x3 x4 x6 x11 x8 x22 x23 x24 x28 x29 (wrap64 (x30 + 1)))) else (if x11 > x8 then (skerrylaw12_TiersParts.l1 k x0 x3 x4 x6 x7 x11 x22 x23 x24 x28 x29 (wrap64 (x30 + 1))) else (skerrylaw12_TiersParts.l1 k x0 x3 x4 x6 x7 x8 x22 x23 x24 x28 x29 (wrap64 (x30 + 1))))
def skerrylaw12_TiersParts.l2 : Nat → List Int → Int → Int → Option (Bool)
 | 0, _, _, _ => none
 | k + 1, x89, x90, x91 => if x91 < x90 then (if 0 ≤ x91 then (if x91 < (x89.length : Int) then (if (rd x89 x91) = 1 then (skerrylaw12_TiersParts.l2 k x89 x90 (wrap64 (x91 + 1))) else (none)) else (none)) else (none)) else ((skerrylaw12_lives.f k).bind fun t276 => (some t276))
end
def skerrylaw12_TiersParts.f (k : Nat) (l0 : List Int) : Option (Bool) := if (l0.length : Int) > 300 then ((skerrylaw12_lives.f k).bind fun t262 => (some t262)) else (if 0 ≤ (l0.length : Int) then (if ((l0.length : Int) : Int).toNat ≤ 35184372088832 then ((tiers_Buckets.f l0).bind fun t266 => (skerrylaw12_TiersParts.l0 k l0 (List.replicate ((l0.length : Int) : Int).toNat 0) (-1) t266 (t266.length : Int) 0)) else (none)) else (none))
set_option maxHeartbeats 8000000 in
set_option maxRecDepth 100000 in
theorem skerrylaw12_TiersParts.calls (k : Nat) (A0 : Option Addr) (c0 : Nat) (l0 : List Int) (r : Bool) (w : World) (hr0 : Kd.C (Kd.int .i64) w A0 l0.length l0) (hc0 : l0.length ≤ c0) (h : skerrylaw12_TiersParts.f k l0 = some r) :
  Calls Try.prog 4 #[.slice A0 l0.length c0] w fun e w' => e = .returned (.bool r) ∧ Below w.heap.size w w' := by
 have HR0 := Aside0.mk hr0
 have HC0 := Aside0.mk hc0
 clear hr0 hc0
 have HB := Aside0.mk (Below.refl w.heap.size w)
 have H : (if (l0.length : Int) > 300 then ((skerrylaw12_lives.f k).bind fun t262 => (some t262)) else (if 0 ≤ (l0.length : Int) then (if ((l0.length : Int) : Int).toNat ≤ 35184372088832 then ((tiers_Buckets.f l0).bind fun t266 => (skerrylaw12_TiersParts.l0 k l0 (List.replicate ((l0.length : Int) : Int).toNat 0) (-1) t266 (t266.length : Int) 0)) else (none)) else (none))) = some r := h
 clear h
 by_cases c2 : (l0.length : Int) > 300
 ·
  rw [if_pos c2] at H
  have c2b0 : decide (300 < (l0.length : Int)) = true := decide_eq_true c2
  have c2b1 : decide (300 < l0.length) = true := decide_eq_true (by omega)
  clear c2
  replace H := Option.bind_eq_some_iff.mp H
  obtain ⟨t262, A30, H⟩ := H
  have A3 := Aside0.mk A30
  clear A30
  obtain rfl := Option.some.inj H
  go_enter Try.func4, Try.ntmps4
  go_wp2_with (first | ((with_reducible refine gate_callee (f := 7) rfl ?_); refine goesL_ (some 17) rfl rfl Try.func7 (by kernel_rfl) rfl #[] rfl (by (try simp only [mT_, mC_, mN_]); first | done | rfl) ?_; (with_reducible refine (skerrylaw12_lives.calls k  t262 _ A3.out).mono ?_); rintro e w4 ⟨rfl, hb⟩; refine ⟨_, rfl, ?_⟩; replace HB := Aside0.mk (below_step (kwW HB) hb); (try clear hb); (try clear hb2); (try clear hk); (try clear hi)))
  go_ret
  exact ⟨by first | rfl | (simp <;> rfl) | (simp [*] <;> rfl), kwW HB⟩
 ·
  rw [if_neg c2] at H
  have c2b0 : decide (300 < (l0.length : Int)) = false := decide_eq_false c2
  have c2b1 : decide (300 < l0.length) = false := decide_eq_false (by omega)
  clear c2
  by_cases c5 : 0 ≤ (l0.length : Int)
  rotate_left
  ·
   rw [if_neg c5] at H
   exact absurd H (by simp)
  rw [if_pos c5] at H
  have c5b0 := eq_true c5
  have c5b1 : decide (0 ≤ (l0.length : Int)) = true := decide_eq_true c5
  clear c5
  by_cases c6 : ((l0.length : Int) : Int).toNat ≤ 35184372088832
  rotate_left
  ·
   rw [if_neg c6] at H
   exact absurd H (by simp)
  rw [if_pos c6] at H
  have c6b0 := eq_true c6
  have c6b1 : decide (((l0.length : Int) : Int).toNat ≤ 35184372088832) = true := decide_eq_true c6
  clear c6
  obtain ⟨y263, hy263⟩ : ∃ y_ : List Int, y_ = (List.replicate ((l0.length : Int) : Int).toNat 0) := ⟨_, rfl⟩
  replace H : ((tiers_Buckets.f l0).bind fun t266 => (skerrylaw12_TiersParts.l0 k l0 y263 (-1) t266 (t266.length : Int) 0)) = some r := by first | (rw [hy263]; with_reducible exact H) | (have H2_ := (Option.bind_some _ _).symm.trans H; rw [hy263]; with_reducible exact H2_) | (have H2_ := (Option.bind_some _ _).symm.trans H; with_reducible exact H2_) | with_reducible exact H | (rw [hy263]; exact H) | exact H
  have Ny263 := Aside0.mk hy263
  clear hy263
  replace H := Option.bind_eq_some_iff.mp H
  obtain ⟨t266, A70, H⟩ := H
  have A7 := Aside0.mk A70
  clear A70
  have H' := Aside0.mk H
  clear H
  go_enter Try.func4, Try.ntmps4
  go_wp2_with (first | ((with_reducible refine gate_dst (N := 20) rfl ?_); (try (refine gate_guard (by rfl) ?_; dsimp only)); refine Kd.R_make (Kd.int .i64) _ 3 rfl (N := 20) rfl 22 _ _ rfl (l0.length : Int) rfl rfl Try.underlying22 (.int .i64 0) 8 info3 rfl (by decide) (by omega) 0 (ok := fun _ => True) (okp := fun _ => True) rfl (fun _ hk => hk) trivial (of_decide_eq_true (by first | (with_reducible assumption) | assumption)) (Nat.le_trans (Nat.mul_le_mul_right _ (of_decide_eq_true (by first | (with_reducible assumption) | assumption) : (l0.length : Int).toNat ≤ 35184372088832)) (by omega)) (Below.refl _ _) (Nat.le_refl _) ?_; intro v264 w8 ho9 hb hg_ hnew_; clear hg_ hnew_; (first | rw [← Ny263.out] at ho9 | (simp only [Int.reduceToNat] at ho9; rw [← Ny263.out] at ho9)); have HO265 := Aside0.mk (Kd.R_lower ho9 (bZ_ (kwW HB))); replace HB := Aside0.mk (below_step (kwW HB) hb); clear hb ho9) | ((with_reducible refine gate_callee (f := 8) rfl ?_); refine goesL_ (some 22) rfl rfl Try.func8 (by kernel_rfl) rfl #[.slice A0 l0.length c0] rfl (by (try simp only [mT_, mC_, mN_]); first | done | rfl) ?_; (with_reducible refine (tiers_Buckets.calls _ _ l0 t266 _ ?side1 ?side2 A7.out).mono ?_); (case side1 => repeat (first | exact (Kd.C_below HR0.out HB.out) | (with_reducible refine Kd.C_alloc ?_ _) | (with_reducible refine Kd.C_drewN ?_ _) | (with_reducible refine Kd.C_drew ?_))); (case side2 => exact HC0.out); rintro e w10 ⟨v267, rfl, ho0, hb⟩; refine ⟨_, rfl, ?_⟩; have HO268 := Aside0.mk (Kd.S_lower (Kd.S_new' ho0 (Kd.R_lt (krW HO265))) (bZ_ (kwW HB))); replace HO265 := kR HO265 hb; replace HB := Aside0.mk (below_step (kwW HB) hb); (try clear hb); (try clear hb2); (try clear hk); (try clear hi); (try clear ho0); obtain ⟨Ao11, co11, eo11⟩ := Kd.S_slice HO268.out; subst eo11))
  go_loopg [4, 24] k (fun kq v4 v24 w' => ∃ (x3_1 : List Int) (x4_1 : Int) (x24_1 : Int), v4 = .int .i64 x4_1 ∧ v24 = .int .i64 x24_1 ∧ Aside0 (skerrylaw12_TiersParts.l0 kq l0 x3_1 x4_1 t266 (t266.length : Int) x24_1 = some r) ∧ Aside0 (kq ≤ k) ∧ Aside0 (Kd.R (Kd.int .i64) 3 w' w.heap.size (fun _ => True) v264 x3_1) ∧ Aside0 (Kd.S (Kd.slice 3 (Kd.int .i64)) 22 w' w.heap.size (fun k_ => some k_ ≠ (v264 : Value).ownBlock) (.slice Ao11 t266.length co11) t266) ∧ Aside0 (Below w.heap.size w w'))
  case atStart => exact ⟨(y263), ((-1)), (0), (by first | rfl | (simp; done) | (simp [bne, *]; done)), (by first | rfl | (simp; done) | (simp [bne, *]; done)), H', ⟨Nat.le_refl _⟩, ⟨krW HO265⟩, ⟨by (with_reducible repeat (first | apply Kd.S_alloc | apply Kd.S_drewN | apply Kd.S_drew)); exact Kd.S_mono HO268.out (fun _ hk => hk.2)⟩, ⟨kwW HB⟩⟩
  case round =>
   clear H'
   try clear c2
   try clear c2b0
   try clear c2b1
   try clear p2
   try clear c4
   try clear c5
   try clear c5b0
   try clear c5b1
   try clear c6
   try clear c6b0
   try clear c6b1
   try clear c7
   try clear c8
   obtain ⟨x3_1, x4_1, x24_1, rfl, rfl, HA, HK1, HO_3, HO_22, HB⟩ := hrel
   cases gk with
   | zero => exact absurd HA.out (by simp [skerrylaw12_TiersParts.l0])
   | succ k1 =>
    have H := HA.out
    clear HA
    simp only [skerrylaw12_TiersParts.l0] at H
    by_cases c12 : x24_1 < (t266.length : Int)
    rotate_left
    ·
     rw [if_neg c12] at H
     have c12b0 : decide (x24_1 < (t266.length : Int)) = false := decide_eq_false c12
     clear c12
     have H' := Aside0.mk H
     clear H
     obtain ⟨Ao42, co42, eo42⟩ := Kd.R_slice HO_3.out
     subst eo42
     go_wp2
     go_loopg [91] k1 (fun kq v91 w' => ∃ (x91_2 : Int), v91 = .int .i64 x91_2 ∧ Aside0 (skerrylaw12_TiersParts.l2 kq x3_1 (x3_1.length : Int) x91_2 = some r) ∧ Aside0 (kq ≤ k1) ∧ Aside0 (Kd.R (Kd.int .i64) 3 w' w.heap.size (fun _ => True) (.slice Ao42 x3_1.length co42) x3_1) ∧ Aside0 (Below w.heap.size w w'))
     case atStart => exact ⟨(0), (by first | rfl | (simp; done) | (simp [bne, *]; done)), H', ⟨Nat.le_refl _⟩, ⟨krW HO_3⟩, ⟨kwW HB⟩⟩
     case round =>
      clear H'
      try clear c1
      try clear c2
      try clear c2b0
      try clear c2b1
      try clear p2
      try clear q2
      try clear hx2
      try clear hf2
      try clear c3
      try clear c4
      try clear c5
      try clear c5b0
      try clear c5b1
      try clear c6
      try clear c6b0
      try clear c6b1
      try clear p6
      try clear c7
      try clear c8
      try clear c12
      try clear c12b0
      try clear c13
      try clear c13b0
      try clear c14
      try clear c14b0
      try clear c15
      try clear c15b0
      try clear c16
      try clear c16b0
      try clear c17
      try clear c17b0
      try clear c19
      try clear c19b0
      try clear c20
      try clear c20b0
      try clear c21
      try clear c21b0
      try clear c23
      try clear c23b0
      try clear c24
      try clear c24b0
      try clear c25
      try clear c26
      try clear c26b0
      try clear p26
      try clear q26
      try clear hx26
      try clear c27
      try clear c27b0
      try clear p27
      try clear q27
      try clear hx27
      try clear p28
      try clear q28
      try clear hx28
      try clear hf28
      try clear c29
      try clear c29b0
      try clear c34
      try clear c34b0
      try clear c36
      try clear c36b0
      try clear c37
      try clear c37b0
      try clear c38
      try clear c38b0
      try clear c39
      try clear c39b0
      try clear c40
      try clear c40b0
      try clear c40b1
      try clear c40b2
      try clear c41
      try clear c41b0
      try clear hx269_0
      try clear hx270_0
      try clear hx271_0
      try clear hx272_0
      try clear hx274_0
      try clear hx28_0
      try clear p2
      try clear p26
      try clear p269
      try clear p27
      try clear p270
      try clear p271
      try clear p272
      try clear p274
      try clear p28
      try clear p6
      try clear q2
      try clear q26
      try clear q269
      try clear q27
      try clear q270
      try clear q271
      try clear q272
      try clear q274
      try clear q28
      obtain ⟨x91_2, rfl, HA, HK2, HO_89, HB⟩ := hrel
      cases gk with
      | zero => exact absurd HA.out (by simp [skerrylaw12_TiersParts.l2])
      | succ k2 =>
       have H := HA.out
       clear HA
       simp only [skerrylaw12_TiersParts.l2] at H
       by_cases c43 : x91_2 < (x3_1.length : Int)
       rotate_left
       ·
        rw [if_neg c43] at H
        have c43b0 : decide (x91_2 < (x3_1.length : Int)) = false := decide_eq_false c43
        clear c43
        replace H := Option.bind_eq_some_iff.mp H
        obtain ⟨t276, A470, H⟩ := H
        have A47 := Aside0.mk A470
        clear A470
        obtain rfl := Option.some.inj H
        go_wp2_with (first | ((with_reducible refine gate_callee (f := 7) rfl ?_); refine goesL_ (some 98) rfl rfl Try.func7 (by kernel_rfl) rfl #[] rfl (by (try simp only [mT_, mC_, mN_]); first | done | rfl) ?_; (with_reducible refine (skerrylaw12_lives.calls k2  t276 _ A47.out).mono ?_); rintro e w48 ⟨rfl, hb⟩; refine ⟨_, rfl, ?_⟩; replace HO_89 := kR HO_89 hb; replace HB := Aside0.mk (below_step (kwW HB) hb); (try clear hb); (try clear hb2); (try clear hk); (try clear hi)))
        go_ret
        exact ⟨by first | rfl | (simp <;> rfl) | (simp [*] <;> rfl), kwW HB⟩
       rw [if_pos c43] at H
       have c43b0 : decide (x91_2 < (x3_1.length : Int)) = true := decide_eq_true c43
       clear c43
       by_cases c44 : 0 ≤ x91_2
       rotate_left
       ·
        rw [if_neg c44] at H
        exact absurd H (by simp)
       rw [if_pos c44] at H
       have c44b0 : decide (0 ≤ x91_2) = true := decide_eq_true c44
       clear c44
       by_cases c45 : x91_2 < (x3_1.length : Int)
       rotate_left
       ·
        rw [if_neg c45] at H
        exact absurd H (by simp)
       rw [if_pos c45] at H
       have c45b0 : decide (x91_2 < (x3_1.length : Int)) = true := decide_eq_true c45
       clear c45
       by_cases c46 : (rd x3_1 x91_2) = 1
       rotate_left
       ·
        rw [if_neg c46] at H
        exact absurd H (by simp)
       rw [if_pos c46] at H
       have c46b0 : ((rd x3_1 x91_2) == 1) = true := beq_iff_eq.mpr c46
       have c46b1 : ((rd x3_1 x91_2) != 1) = false := bne_eq_false_iff_eq.mpr c46
       clear c46
       have H' := Aside0.mk H
       clear H
       have p275 : 0 ≤ (x91_2 : Int) := of_decide_eq_true (by first | (with_reducible assumption) | assumption)
       have q275 : x91_2 < (x3_1.length : Int) := of_decide_eq_true (by first | (with_reducible assumption) | assumption)
       obtain ⟨ad275, e275, hx275_0⟩ := Kd.at_int (Kd.R_reads' HO_89.out).2.2 x91_2 p275 q275
       cases e275
       replace p275 := eq_true p275
       replace q275 := eq_true q275
       go_wp2
       go_roundg k2
       case measure => have := HK1.out; have := HK2.out; omega
       case rel => exact ⟨(wrap64 (x91_2 + 1)), (by first | rfl | (simp; done) | (simp [bne, *]; done)), H', ⟨by have := HK1.out; have := HK2.out; omega⟩, ⟨krW HO_89⟩, ⟨kwW HB⟩⟩
    rw [if_pos c12] at H
    have c12b0 : decide (x24_1 < (t266.length : Int)) = true := decide_eq_true c12
    clear c12
    by_cases c13 : 0 ≤ x24_1
    rotate_left
    ·
     rw [if_neg c13] at H
     exact absurd H (by simp)
    rw [if_pos c13] at H
    have c13b0 : decide (0 ≤ x24_1) = true := decide_eq_true c13
    clear c13
    by_cases c14 : x24_1 < (t266.length : Int)
    rotate_left
    ·
     rw [if_neg c14] at H
     exact absurd H (by simp)
    rw [if_pos c14] at H
    have c14b0 : decide (x24_1 < (t266.length : Int)) = true := decide_eq_true c14
    clear c14
    have H' := Aside0.mk H
    clear H
    have p269 : 0 ≤ (x24_1 : Int) := of_decide_eq_true (by first | (with_reducible assumption) | assumption)
    have q269 : x24_1 < (t266.length : Int) := of_decide_eq_true (by first | (with_reducible assumption) | assumption)
    obtain ⟨ad269, A269_0, c269_0, e269, hx269_0, hl269_0, hi269_0⟩ := at_L1 (Kd.S_reads' HO_22.out).2.2 x24_1 p269 q269
    cases e269
    obtain ⟨ce269, hce269, hMe269, hcc269⟩ := Kd.S_get HO_22.out [] x24_1 p269 (by first | exact q269 | exact of_decide_eq_true (by first | (with_reducible assumption) | assumption) | (have e_ := (Kd.S_reads' HO_22.out).1; omega))
    obtain ⟨ve269_0, rfl, ge269_0⟩ := hMe269
    have hv269_0 := hcc269 0 _ rfl
    rw [Nat.add_zero, show ((Kd.slice 3 (Kd.int .i64))).sz = 1 from rfl, Nat.mul_one] at hv269_0
    replace hv269_0 := Option.some.inj (hv269_0.symm.trans hx269_0)
    rw [hv269_0] at ge269_0
    have HL269_0 := Aside0.mk (show Kd.R (Kd.int .i64) 3 _ _ _ _ (rd_L1 t266 x24_1) from ge269_0)
    clear hv269_0 ge269_0
    clear hcc269 hce269
    have HR269_0 := Aside0.mk hi269_0
    have HC269_0 := Aside0.mk hl269_0
    clear hi269_0 hl269_0
    replace p269 := eq_true p269
    replace q269 := eq_true q269
    go_wp2
    go_loopg [7, 8, 30] k1 (fun kq v7 v8 v30 w' => ∃ (x3_2 : List Int) (x7_2 : Int) (x8_2 : Int) (x30_2 : Int), v7 = .int .i64 x7_2 ∧ v8 = .int .i64 x8_2 ∧ v30 = .int .i64 x30_2 ∧ Aside0 (skerrylaw12_TiersParts.l1 kq l0 x3_2 x4_1 (rd_L1 t266 x24_1) x7_2 x8_2 t266 (t266.length : Int) x24_1 (rd_L1 t266 x24_1) ((rd_L1 t266 x24_1).length : Int) x30_2 = some r) ∧ Aside0 (kq ≤ k1) ∧ Aside0 (Kd.R (Kd.int .i64) 3 w' w.heap.size (fun _ => True) v264 x3_2) ∧ Aside0 (Kd.S (Kd.slice 3 (Kd.int .i64)) 22 w' w.heap.size (fun k_ => some k_ ≠ (v264 : Value).ownBlock) (.slice (some ad269) t266.length co11) t266) ∧ Aside0 (Kd.R (Kd.int .i64) 3 w' w.heap.size (fun k_ => some k_ ≠ (v264 : Value).ownBlock) (.slice A269_0 (rd_L1 t266 x24_1).length c269_0) (rd_L1 t266 x24_1)) ∧ Aside0 (Below w.heap.size w w'))
    case atStart => exact ⟨(x3_1), (4611686018427387904), ((-1)), (0), (by first | rfl | (simp; done) | (simp [bne, *]; done)), (by first | rfl | (simp; done) | (simp [bne, *]; done)), (by first | rfl | (simp; done) | (simp [bne, *]; done)), H', ⟨Nat.le_refl _⟩, ⟨krW HO_3⟩, ⟨by (with_reducible repeat (first | apply Kd.S_alloc | apply Kd.S_drewN | apply Kd.S_drew)); exact HO_22.out⟩, ⟨Kd.R_mono HL269_0.out (fun _ hk => by first | exact hk | exact hk.1)⟩, ⟨kwW HB⟩⟩
    case round =>
     clear H'
     try clear c1
     try clear c2
     try clear c2b0
     try clear c2b1
     try clear p2
     try clear q2
     try clear hx2
     try clear c4
     try clear c5
     try clear c5b0
     try clear c5b1
     try clear c6
     try clear c6b0
     try clear c6b1
     try clear c7
     try clear c8
     try clear c12
     try clear c12b0
     try clear c13
     try clear c13b0
     try clear c14
     try clear c14b0
     try clear hx269_0
     try clear p2
     try clear p269
     try clear q269
     obtain ⟨x3_2, x7_2, x8_2, x30_2, rfl, rfl, rfl, HA, HK2, HO_3, HO_22, HL_22, HB⟩ := hrel
     cases gk with
     | zero => exact absurd HA.out (by simp [skerrylaw12_TiersParts.l1])
     | succ k2 =>
      have H := HA.out
      clear HA
      simp only [skerrylaw12_TiersParts.l1] at H
      by_cases c15 : x30_2 < ((rd_L1 t266 x24_1).length : Int)
      rotate_left
      ·
       rw [if_neg c15] at H
       have c15b0 : decide (x30_2 < ((rd_L1 t266 x24_1).length : Int)) = false := decide_eq_false c15
       clear c15
       by_cases c40 : ((rd_L1 t266 x24_1).length : Int) = 0
       ·
        rw [if_pos c40] at H
        exact absurd H (by simp)
       ·
        rw [if_neg c40] at H
        have c40b0 : (((rd_L1 t266 x24_1).length : Int) == 0) = false := beq_eq_false_iff_ne.mpr c40
        have c40b1 : (((rd_L1 t266 x24_1).length : Int) != 0) = true := bne_iff_ne.mpr c40
        have c40b2 : ¬ ((rd_L1 t266 x24_1) = []) := fun h_ => c40 (by rw [h_]; rfl)
        by_cases c41 : x7_2 < x4_1
        ·
         rw [if_pos c41] at H
         exact absurd H (by simp)
        ·
         rw [if_neg c41] at H
         have c41b0 : decide (x7_2 < x4_1) = false := decide_eq_false c41
         clear c41
         have H' := Aside0.mk H
         clear H
         go_wp2
         go_roundg k2
         case measure => have := HK1.out; have := HK2.out; omega
         case rel => exact ⟨(x3_2), (x8_2), (wrap64 (x24_1 + 1)), (by first | rfl | (simp; done) | (simp [bne, *]; done)), (by first | rfl | (simp; done) | (simp [bne, *]; done)), H', ⟨by have := HK1.out; have := HK2.out; omega⟩, ⟨krW HO_3⟩, ⟨by (with_reducible repeat (first | apply Kd.S_alloc | apply Kd.S_drewN | apply Kd.S_drew)); exact HO_22.out⟩, ⟨kwW HB⟩⟩
      rw [if_pos c15] at H
      have c15b0 : decide (x30_2 < ((rd_L1 t266 x24_1).length : Int)) = true := decide_eq_true c15
      clear c15
      by_cases c16 : 0 ≤ x30_2
      rotate_left
      ·
       rw [if_neg c16] at H
       exact absurd H (by simp)
      rw [if_pos c16] at H
      have c16b0 : decide (0 ≤ x30_2) = true := decide_eq_true c16
      clear c16
      by_cases c17 : x30_2 < ((rd_L1 t266 x24_1).length : Int)
      rotate_left
      ·
       rw [if_neg c17] at H
       exact absurd H (by simp)
      rw [if_pos c17] at H
      have c17b0 : decide (x30_2 < ((rd_L1 t266 x24_1).length : Int)) = true := decide_eq_true c17
      clear c17
      have HC18 := Aside0.mk H
      clear H
      have p270 : 0 ≤ (x30_2 : Int) := of_decide_eq_true (by first | (with_reducible assumption) | assumption)
      have q270 : x30_2 < ((rd_L1 t266 x24_1).length : Int) := of_decide_eq_true (by first | (with_reducible assumption) | assumption)
      obtain ⟨ad270, e270, hx270_0⟩ := Kd.at_int (Kd.R_reads' HL_22.out).2.2 x30_2 p270 q270
      cases e270
      try replace hx270_0 := cB_ HB hx270_0
      replace p270 := eq_true p270
      replace q270 := eq_true q270
      go_upto_region 12 with (fail)
      go_cut [55] (fun v55 wc => ∃ (kq : Nat) (x55_17 : Bool), v55 = .bool x55_17 ∧ Aside0 (skerrylaw12_TiersParts.j2 kq l0 x3_2 x4_1 (rd_L1 t266 x24_1) x7_2 x8_2 (rd (rd_L1 t266 x24_1) x30_2) t266 (t266.length : Int) x24_1 (rd_L1 t266 x24_1) ((rd_L1 t266 x24_1).length : Int) x30_2 x55_17 = some r) ∧ Aside0 (kq ≤ k2) ∧ Aside0 (Kd.R (Kd.int .i64) 3 wc w.heap.size (fun _ => True) v264 x3_2) ∧ Aside0 (Kd.S (Kd.slice 3 (Kd.int .i64)) 22 wc w.heap.size (fun k_ => some k_ ≠ (v264 : Value).ownBlock) (.slice (some ad269) t266.length co11) t266) ∧ Aside0 (Kd.R (Kd.int .i64) 3 wc w.heap.size (fun k_ => some k_ ≠ (v264 : Value).ownBlock) (.slice (some ad270) (rd_L1 t266 x24_1).length c269_0) (rd_L1 t266 x24_1)) ∧ Aside0 (Below w.heap.size w wc))
      case first =>
       have H := HC18.out
       clear HC18
       by_cases c19 : (rd (rd_L1 t266 x24_1) x30_2) < 0
       ·
        rw [if_pos c19] at H
        have c19b0 : decide ((rd (rd_L1 t266 x24_1) x30_2) < 0) = true := decide_eq_true c19
        clear c19
        (first | rw [c19b0] | (simp only [i64_w, i32_w]; rw [c19b0]) | skip)
        have H' := Aside0.mk H
        clear H
        go_wp2
        go_meet
        case rel => exact ⟨_, (true), (by first | rfl | (simp; done) | (simp [bne, *]; done)), H', ⟨by have := HK1.out; have := HK2.out; first | omega | exact Nat.le_refl _⟩, ⟨krW HO_3⟩, ⟨by (with_reducible repeat (first | apply Kd.S_alloc | apply Kd.S_drewN | apply Kd.S_drew)); exact HO_22.out⟩, ⟨krW HL_22⟩, ⟨kwW HB⟩⟩
       ·
        rw [if_neg c19] at H
        have c19b0 : decide ((rd (rd_L1 t266 x24_1) x30_2) < 0) = false := decide_eq_false c19
        clear c19
        (first | rw [c19b0] | (simp only [i64_w, i32_w]; rw [c19b0]) | skip)
        by_cases c20 : (rd (rd_L1 t266 x24_1) x30_2) ≥ (l0.length : Int)
        ·
         rw [if_pos c20] at H
         have c20b0 : decide ((l0.length : Int) ≤ (rd (rd_L1 t266 x24_1) x30_2)) = true := decide_eq_true c20
         clear c20
         have H' := Aside0.mk H
         clear H
         go_wp2
         go_meet
         case rel => exact ⟨_, (true), (by first | rfl | (simp; done) | (simp [bne, *]; done)), H', ⟨by have := HK1.out; have := HK2.out; first | omega | exact Nat.le_refl _⟩, ⟨krW HO_3⟩, ⟨by (with_reducible repeat (first | apply Kd.S_alloc | apply Kd.S_drewN | apply Kd.S_drew)); exact HO_22.out⟩, ⟨krW HL_22⟩, ⟨kwW HB⟩⟩
        ·
         rw [if_neg c20] at H
         have c20b0 : decide ((l0.length : Int) ≤ (rd (rd_L1 t266 x24_1) x30_2)) = false := decide_eq_false c20
         clear c20
         by_cases c21 : x30_2 > 0
         rotate_left
         ·
          rw [if_neg c21] at H
          have c21b0 : decide (0 < x30_2) = false := decide_eq_false c21
          clear c21
          have H' := Aside0.mk H
          clear H
          go_wp2
          go_meet
          case rel => exact ⟨_, (false), (by first | rfl | (simp; done) | (simp [bne, *]; done)), H', ⟨by have := HK1.out; have := HK2.out; first | omega | exact Nat.le_refl _⟩, ⟨krW HO_3⟩, ⟨by (with_reducible repeat (first | apply Kd.S_alloc | apply Kd.S_drewN | apply Kd.S_drew)); exact HO_22.out⟩, ⟨krW HL_22⟩, ⟨kwW HB⟩⟩
         rw [if_pos c21] at H
         have c21b0 : decide (0 < x30_2) = true := decide_eq_true c21
         clear c21
         obtain ⟨ji22, hji22⟩ : ∃ j_ : Int, (wrap64 (x30_2 - 1)) = j_ := ⟨_, rfl⟩
         replace H : (if 0 ≤ (ji22) then (if (ji22) < ((rd_L1 t266 x24_1).length : Int) then (skerrylaw12_TiersParts.j2 k2 l0 x3_2 x4_1 (rd_L1 t266 x24_1) x7_2 x8_2 (rd (rd_L1 t266 x24_1) x30_2) t266 (t266.length : Int) x24_1 (rd_L1 t266 x24_1) ((rd_L1 t266 x24_1).length : Int) x30_2 (decide ((rd (rd_L1 t266 x24_1) (ji22)) ≥ (rd (rd_L1 t266 x24_1) x30_2)))) else (none)) else (none)) = some r := by first | (rw [hji22] at H; exact H) | (simp only [hji22] at H ⊢; exact H)
         have hji22w : (IntKind.i64.wrap (x30_2 - 1)) = ji22 := (i64_w _).trans hji22
         by_cases c23 : 0 ≤ (ji22)
         rotate_left
         ·
          rw [if_neg c23] at H
          exact absurd H (by simp)
         rw [if_pos c23] at H
         have c23b0 : decide (0 ≤ (ji22)) = true := decide_eq_true c23
         clear c23
         by_cases c24 : (ji22) < ((rd_L1 t266 x24_1).length : Int)
         rotate_left
         ·
          rw [if_neg c24] at H
          exact absurd H (by simp)
         rw [if_pos c24] at H
         have c24b0 : decide ((ji22) < ((rd_L1 t266 x24_1).length : Int)) = true := decide_eq_true c24
         clear c24
         have H' := Aside0.mk H
         clear H
         have p271 : 0 ≤ ((ji22) : Int) := of_decide_eq_true (by first | (with_reducible assumption) | assumption)
         have q271 : (ji22) < ((rd_L1 t266 x24_1).length : Int) := of_decide_eq_true (by first | (with_reducible assumption) | assumption)
         obtain ⟨ad271, e271, hx271_0⟩ := Kd.at_int (Kd.R_reads' HL_22.out).2.2 (ji22) p271 q271
         obtain rfl : ad270 = ad271 := (by injection e271)
         try replace hx271_0 := cB_ HB hx271_0
         replace p271 := eq_true p271
         replace q271 := eq_true q271
         go_wp2
         go_meet
         case rel => exact ⟨_, (decide ((rd (rd_L1 t266 x24_1) (ji22)) ≥ (rd (rd_L1 t266 x24_1) x30_2))), (by first | rfl | (simp; done) | (simp only [← hji22] <;> (first | rfl | simp)) | (simp [*]; done)), H', ⟨by have := HK1.out; have := HK2.out; first | omega | exact Nat.le_refl _⟩, ⟨krW HO_3⟩, ⟨by (with_reducible repeat (first | apply Kd.S_alloc | apply Kd.S_drewN | apply Kd.S_drew)); exact HO_22.out⟩, ⟨krW HL_22⟩, ⟨kwW HB⟩⟩
      case rest =>
       clear HC18
       try clear c1
       try clear c2
       try clear c2b0
       try clear c2b1
       try clear p2
       try clear q2
       try clear hx2
       try clear c4
       try clear c5
       try clear c5b0
       try clear c5b1
       try clear c6
       try clear c6b0
       try clear c6b1
       try clear p6
       try clear c7
       try clear c8
       try clear c12
       try clear c12b0
       try clear c13
       try clear c13b0
       try clear c14
       try clear c14b0
       try clear c15
       try clear c15b0
       try clear c16
       try clear c16b0
       try clear c17
       try clear c17b0
       try clear c19
       try clear c19b0
       try clear c20
       try clear c20b0
       try clear c21
       try clear c21b0
       try clear c23
       try clear c23b0
       try clear c24
       try clear c24b0
       try clear hx269_0
       try clear hx270_0
       try clear hx271_0
       try clear p2
       try clear p269
       try clear p270
       try clear p271
       try clear q2
       try clear q269
       try clear q270
       try clear q271
       obtain ⟨kq, x55_17, rfl, HA, HJ17, HO_3, HO_22, HL_22, HB⟩ := hcut
       cases kq with
       | zero => exact absurd HA.out (by simp [skerrylaw12_TiersParts.j2])
       | succ kj17 =>
        have H := HA.out
        clear HA
        simp only [skerrylaw12_TiersParts.j2] at H
        by_cases c25 : x55_17 = true
        ·
         subst c25
         have H1 : (none) = some r := by rw [if_pos rfl] at H; exact H
         clear H
         have H := H1
         clear H1
         exact absurd H (by simp)
        ·
         replace c25 := Bool.eq_false_iff.mpr c25
         subst c25
         have H1 : (if 0 ≤ (rd (rd_L1 t266 x24_1) x30_2) then (if (rd (rd_L1 t266 x24_1) x30_2) < (x3_2.length : Int) then ((some (x3_2.set ((rd (rd_L1 t266 x24_1) x30_2) : Int).toNat (wrap64 ((rd x3_2 (rd (rd_L1 t266 x24_1) x30_2)) + 1)) : List Int)).bind fun y273 => (if (rd (rd_L1 t266 x24_1) x30_2) < (l0.length : Int) then (if (rd l0 (rd (rd_L1 t266 x24_1) x30_2)) < 0 then (skerrylaw12_TiersParts.j3 kj17 l0 y273 x4_1 (rd_L1 t266 x24_1) x7_2 x8_2 0 t266 (t266.length : Int) x24_1 (rd_L1 t266 x24_1) ((rd_L1 t266 x24_1).length : Int) x30_2) else (skerrylaw12_TiersParts.j3 kj17 l0 y273 x4_1 (rd_L1 t266 x24_1) x7_2 x8_2 (rd l0 (rd (rd_L1 t266 x24_1) x30_2)) t266 (t266.length : Int) x24_1 (rd_L1 t266 x24_1) ((rd_L1 t266 x24_1).length : Int) x30_2)) else (none))) else (none)) else (none)) = some r := by rw [if_neg (show ¬ (false = true) by decide)] at H; exact H
         clear H
         have H := H1
         clear H1
         by_cases c26 : 0 ≤ (rd (rd_L1 t266 x24_1) x30_2)
         rotate_left
         ·
          rw [if_neg c26] at H
          exact absurd H (by simp)
         rw [if_pos c26] at H
         have c26b0 : decide (0 ≤ (rd (rd_L1 t266 x24_1) x30_2)) = true := decide_eq_true c26
         clear c26
         by_cases c27 : (rd (rd_L1 t266 x24_1) x30_2) < (x3_2.length : Int)
         rotate_left
         ·
          rw [if_neg c27] at H
          exact absurd H (by simp)
         rw [if_pos c27] at H
         have c27b0 : decide ((rd (rd_L1 t266 x24_1) x30_2) < (x3_2.length : Int)) = true := decide_eq_true c27
         clear c27
         obtain ⟨y273, hy273⟩ : ∃ y_ : List Int, y_ = (x3_2.set ((rd (rd_L1 t266 x24_1) x30_2) : Int).toNat (wrap64 ((rd x3_2 (rd (rd_L1 t266 x24_1) x30_2)) + 1))) := ⟨_, rfl⟩
         replace H : (if (rd (rd_L1 t266 x24_1) x30_2) < (l0.length : Int) then (if (rd l0 (rd (rd_L1 t266 x24_1) x30_2)) < 0 then (skerrylaw12_TiersParts.j3 kj17 l0 y273 x4_1 (rd_L1 t266 x24_1) x7_2 x8_2 0 t266 (t266.length : Int) x24_1 (rd_L1 t266 x24_1) ((rd_L1 t266 x24_1).length : Int) x30_2) else (skerrylaw12_TiersParts.j3 kj17 l0 y273 x4_1 (rd_L1 t266 x24_1) x7_2 x8_2 (rd l0 (rd (rd_L1 t266 x24_1) x30_2)) t266 (t266.length : Int) x24_1 (rd_L1 t266 x24_1) ((rd_L1 t266 x24_1).length : Int) x30_2)) else (none)) = some r := by first | (rw [hy273]; with_reducible exact H) | (have H2_ := (Option.bind_some _ _).symm.trans H; rw [hy273]; with_reducible exact H2_) | (have H2_ := (Option.bind_some _ _).symm.trans H; with_reducible exact H2_) | with_reducible exact H | (rw [hy273]; exact H) | exact H
         have Ny273 := Aside0.mk hy273
         clear hy273
         by_cases c29 : (rd (rd_L1 t266 x24_1) x30_2) < (l0.length : Int)
         rotate_left
         ·
          rw [if_neg c29] at H
          exact absurd H (by simp)
         rw [if_pos c29] at H
         have c29b0 : decide ((rd (rd_L1 t266 x24_1) x30_2) < (l0.length : Int)) = true := decide_eq_true c29
         clear c29
         have HC30 := Aside0.mk H
         clear H
         obtain ⟨Ao31, co31, eo31⟩ := Kd.R_slice HO_3.out
         subst eo31
         have p272 : 0 ≤ ((rd (rd_L1 t266 x24_1) x30_2) : Int) := of_decide_eq_true (by first | (with_reducible assumption) | assumption)
         have q272 : (rd (rd_L1 t266 x24_1) x30_2) < (x3_2.length : Int) := of_decide_eq_true (by first | (with_reducible assumption) | assumption)
         obtain ⟨ad272, e272, hx272_0⟩ := Kd.at_int (Kd.R_reads' HO_3.out).2.2 (rd (rd_L1 t266 x24_1) x30_2) p272 q272
         cases e272
         replace p272 := eq_true p272
         replace q272 := eq_true q272
         have p28 : 0 ≤ ((rd (rd_L1 t266 x24_1) x30_2) : Int) := of_decide_eq_true (by first | (with_reducible assumption) | assumption)
         have q28 : ((rd (rd_L1 t266 x24_1) x30_2) : Int) < ((x3_2.length : Int) : Int) := of_decide_eq_true (by first | (with_reducible assumption) | assumption)
         obtain ⟨go28, co28, eo28, gb28, gl28, cl28, HG28⟩ := Kd.R_form HO_3.out (by omega)
         (first | cases eo28 | (injection eo28 with ea_ en_ ec_; (first | subst ea_ | (injection ea_ with ea_; subst ea_)); subst ec_; clear en_))
         have GB28 := Aside0.mk gb28
         have GG28 := Aside0.mk HG28
         clear gb28 gl28 HG28
         (first | simp only [add_plain] at hx272_0 | skip)
         obtain ⟨hx28_0, hf28_0⟩ := Kd.R_celln 0 HO_3.out ((rd (rd_L1 t266 x24_1) x30_2) : Int) p28 q28
         replace p28 := eq_true p28
         replace q28 := eq_true q28
         have HP32 := Kd.R_putg HO_3.out ((rd (rd_L1 t266 x24_1) x30_2) : Int) (wrap64 ((rd x3_2 (rd (rd_L1 t266 x24_1) x30_2)) + 1))
         go_upto_if 67 with (first | ((with_reducible refine gate_store (t := 3) (p := 61) rfl ?_); refine store_event (t := 3) (p := 61) (v := ?vo_w33) (w1 := (wc.setCell ⟨go28, ((rd (rd_L1 t266 x24_1) x30_2) : Int).toNat, none⟩ (.int .i64 (wrap64 ((rd x3_2 (rd (rd_L1 t266 x24_1) x30_2)) + 1))))) ?hg ?ho ?hn ?hr ?_; (case ho => rfl); (case hg => rfl); (case hn => rfl); (case hr => first | (go_simp; done) | (go_simp; rfl)); intro w33 hw; have hg : wc.grownBy w33 (some go28) := (by rw [hw]; exact HP32.2); have hp_ : Kd.R (Kd.int .i64) 3 w33 w.heap.size (fun _ => True) (.slice (some ⟨go28, 0, none⟩) x3_2.length co31) y273 := (by rw [hw, Ny273.out]; exact HP32.1); clear HP32; have n0_ := Aside0.mk (hp_); have n1_ := Aside0.mk (Kd.S_after (v := (.slice (some ⟨go28, 0, none⟩) x3_2.length co31)) (v1 := (.slice (some ⟨go28, 0, none⟩) x3_2.length co31)) (ok := (fun _ => True)) (by (with_reducible repeat (first | apply Kd.S_alloc | apply Kd.S_drewN | apply Kd.S_drew)); exact Kd.S_mono HO_22.out (fun _ hk => ⟨trivial, hk⟩)) hg (.inl rfl)); have n2_ := Aside0.mk ((by rw [hw]; exact below_set (HB.out) GB28.out : Below w.heap.size w w33)); have n3_ := Aside0.mk (Kd.R_grown HL_22.out hg (fun k hk e => hk (e.trans rfl))); clear HL_22; have HL_22 := n3_; clear n3_; clear HO_3; clear HO_22; clear HB; have HO_3 := n0_; have HO_22 := n1_; have HB := n2_; clear n0_ n1_ n2_; clear hg hw hp_; have p274 : 0 ≤ ((rd (rd_L1 t266 x24_1) x30_2) : Int) := of_decide_eq_true (by first | (with_reducible assumption) | assumption); have q274 : (rd (rd_L1 t266 x24_1) x30_2) < (l0.length : Int) := of_decide_eq_true (by first | (with_reducible assumption) | assumption); obtain ⟨ad274, e274, hx274_0⟩ := Kd.at_int HR0.out (rd (rd_L1 t266 x24_1) x30_2) p274 q274; cases e274; replace hx274_0 := cB_ HB hx274_0; replace p274 := eq_true p274; replace q274 := eq_true q274))
         (try simp only [Act.put, List.setIfInBounds_toArray, List.set_cons_zero, List.set_cons_succ])
         go_cut [11] (fun v11 wc => ∃ (kq : Nat) (x11_29 : Int), v11 = .int .i64 x11_29 ∧ Aside0 (skerrylaw12_TiersParts.j3 kq l0 y273 x4_1 (rd_L1 t266 x24_1) x7_2 x8_2 x11_29 t266 (t266.length : Int) x24_1 (rd_L1 t266 x24_1) ((rd_L1 t266 x24_1).length : Int) x30_2 = some r) ∧ Aside0 (kq ≤ kj17) ∧ Aside0 (Kd.R (Kd.int .i64) 3 wc w.heap.size (fun _ => True) (.slice (some ⟨go28, 0, none⟩) x3_2.length co31) y273) ∧ Aside0 (Kd.S (Kd.slice 3 (Kd.int .i64)) 22 wc w.heap.size (fun k_ => some k_ ≠ ((.slice (some ⟨go28, 0, none⟩) x3_2.length co31) : Value).ownBlock) (.slice (some ad269) t266.length co11) t266) ∧ Aside0 (Kd.R (Kd.int .i64) 3 wc w.heap.size (fun k_ => some k_ ≠ ((.slice (some ⟨go28, 0, none⟩) x3_2.length co31) : Value).ownBlock) (.slice (some ad270) (rd_L1 t266 x24_1).length c269_0) (rd_L1 t266 x24_1)) ∧ Aside0 (Below w.heap.size w wc))
         case first =>
          have H := HC30.out
          clear HC30
          by_cases c34 : (rd l0 (rd (rd_L1 t266 x24_1) x30_2)) < 0
          ·
           rw [if_pos c34] at H
           have c34b0 : decide ((rd l0 (rd (rd_L1 t266 x24_1) x30_2)) < 0) = true := decide_eq_true c34
           clear c34
           (first | rw [c34b0] | (simp only [i64_w, i32_w]; rw [c34b0]) | skip)
           have H' := Aside0.mk H
           clear H
           go_wp2
           go_meet
           case rel => exact ⟨_, (0), (by first | rfl | (simp; done) | (simp [bne, *]; done)), H', ⟨by have := HK1.out; have := HK2.out; have := HJ17.out; first | omega | exact Nat.le_refl _⟩, ⟨krW HO_3⟩, ⟨by (with_reducible repeat (first | apply Kd.S_alloc | apply Kd.S_drewN | apply Kd.S_drew)); exact Kd.S_mono HO_22.out (fun _ hk => hk.2)⟩, ⟨krW HL_22⟩, ⟨kwW HB⟩⟩
          ·
           rw [if_neg c34] at H
           have c34b0 : decide ((rd l0 (rd (rd_L1 t266 x24_1) x30_2)) < 0) = false := decide_eq_false c34
           clear c34
           (first | rw [c34b0] | (simp only [i64_w, i32_w]; rw [c34b0]) | skip)
           have H' := Aside0.mk H
           clear H
           go_wp2
           go_meet
           case rel => exact ⟨_, (rd l0 (rd (rd_L1 t266 x24_1) x30_2)), (by first | rfl | (simp; done) | (simp [bne, *]; done)), H', ⟨by have := HK1.out; have := HK2.out; have := HJ17.out; first | omega | exact Nat.le_refl _⟩, ⟨krW HO_3⟩, ⟨by (with_reducible repeat (first | apply Kd.S_alloc | apply Kd.S_drewN | apply Kd.S_drew)); exact Kd.S_mono HO_22.out (fun _ hk => hk.2)⟩, ⟨krW HL_22⟩, ⟨kwW HB⟩⟩
         case rest =>
          clear HC30
          try clear c1
          try clear c2
          try clear c2b0
          try clear c2b1
          try clear p2
          try clear q2
          try clear hx2
          try clear hf2
          try clear c3
          try clear c4
          try clear c5
          try clear c5b0
          try clear c5b1
          try clear c6
          try clear c6b0
          try clear c6b1
          try clear p6
          try clear c7
          try clear c8
          try clear c12
          try clear c12b0
          try clear c13
          try clear c13b0
          try clear c14
          try clear c14b0
          try clear c15
          try clear c15b0
          try clear c16
          try clear c16b0
          try clear c17
          try clear c17b0
          try clear c19
          try clear c19b0
          try clear c20
          try clear c20b0
          try clear c21
          try clear c21b0
          try clear c23
          try clear c23b0
          try clear c24
          try clear c24b0
          try clear c25
          try clear c26
          try clear c26b0
          try clear p26
          try clear q26
          try clear hx26
          try clear c27
          try clear c27b0
          try clear p27
          try clear q27
          try clear hx27
          try clear p28
          try clear q28
          try clear hx28
          try clear hf28
          try clear c29
          try clear c29b0
          try clear c34
          try clear c34b0
          try clear hx269_0
          try clear hx270_0
          try clear hx271_0
          try clear hx272_0
          try clear hx274_0
          try clear hx28_0
          try clear p2
          try clear p269
          try clear p270
          try clear p271
          try clear p272
          try clear p274
          try clear p28
          try clear p6
          try clear q2
          try clear q269
          try clear q270
          try clear q271
          try clear q272
          try clear q274
          try clear q28
          obtain ⟨kq, x11_29, rfl, HA, HJ29, HO_3, HO_22, HL_22, HB⟩ := hcut
          have hl3_29 := (Kd.R_reads' HO_3.out).1
          rw [hl3_29] at HO_3
          (try simp only [hl3_29])
          (try simp only [hl3_29] at HO_22)
          cases kq with
          | zero => exact absurd HA.out (by simp [skerrylaw12_TiersParts.j3])
          | succ kj29 =>
           have H := HA.out
           clear HA
           simp only [skerrylaw12_TiersParts.j3] at H
           have HC35 := Aside0.mk H
           clear H
           go_upto_if 69 with (fail)
           go_cut [11] (fun v11 wc => ∃ (kq : Nat) (x11_34 : Int), v11 = .int .i64 x11_34 ∧ Aside0 (skerrylaw12_TiersParts.j4 kq l0 y273 x4_1 (rd_L1 t266 x24_1) x7_2 x8_2 x11_34 t266 (t266.length : Int) x24_1 (rd_L1 t266 x24_1) ((rd_L1 t266 x24_1).length : Int) x30_2 = some r) ∧ Aside0 (kq ≤ kj29) ∧ Aside0 (Kd.R (Kd.int .i64) 3 wc w.heap.size (fun _ => True) (.slice (some ⟨go28, 0, none⟩) y273.length co31) y273) ∧ Aside0 (Kd.S (Kd.slice 3 (Kd.int .i64)) 22 wc w.heap.size (fun k_ => some k_ ≠ ((.slice (some ⟨go28, 0, none⟩) y273.length co31) : Value).ownBlock) (.slice (some ad269) t266.length co11) t266) ∧ Aside0 (Kd.R (Kd.int .i64) 3 wc w.heap.size (fun k_ => some k_ ≠ ((.slice (some ⟨go28, 0, none⟩) y273.length co31) : Value).ownBlock) (.slice (some ad270) (rd_L1 t266 x24_1).length c269_0) (rd_L1 t266 x24_1)) ∧ Aside0 (Below w.heap.size w wc))
           case first =>
            have H := HC35.out
            clear HC35
            by_cases c36 : x11_29 > 1099511627776
            ·
             rw [if_pos c36] at H
             have c36b0 : decide (1099511627776 < x11_29) = true := decide_eq_true c36
             clear c36
             (first | rw [c36b0] | (simp only [i64_w, i32_w]; rw [c36b0]) | skip)
             have H' := Aside0.mk H
             clear H
             go_wp2
             go_meet
             case rel => exact ⟨_, (1099511627776), (by first | rfl | (simp; done) | (simp [bne, *]; done)), H', ⟨by have := HK1.out; have := HK2.out; have := HJ17.out; have := HJ29.out; first | omega | exact Nat.le_refl _⟩, ⟨by (try simp only [hl3_29]); (with_reducible repeat (first | apply Kd.R_alloc | apply Kd.R_drewN | apply Kd.R_drew)); exact HO_3.out⟩, ⟨by (try simp only [hl3_29]); (with_reducible repeat (first | apply Kd.S_alloc | apply Kd.S_drewN | apply Kd.S_drew)); exact HO_22.out⟩, ⟨by (try simp only [hl3_29]); (with_reducible repeat (first | apply Kd.R_alloc | apply Kd.R_drewN | apply Kd.R_drew)); exact HL_22.out⟩, ⟨kwW HB⟩⟩
            ·
             rw [if_neg c36] at H
             have c36b0 : decide (1099511627776 < x11_29) = false := decide_eq_false c36
             clear c36
             (first | rw [c36b0] | (simp only [i64_w, i32_w]; rw [c36b0]) | skip)
             have H' := Aside0.mk H
             clear H
             go_wp2
             go_meet
             case rel => exact ⟨_, (x11_29), (by first | rfl | (simp; done) | (simp [bne, *]; done)), H', ⟨by have := HK1.out; have := HK2.out; have := HJ17.out; have := HJ29.out; first | omega | exact Nat.le_refl _⟩, ⟨by (try simp only [hl3_29]); (with_reducible repeat (first | apply Kd.R_alloc | apply Kd.R_drewN | apply Kd.R_drew)); exact HO_3.out⟩, ⟨by (try simp only [hl3_29]); (with_reducible repeat (first | apply Kd.S_alloc | apply Kd.S_drewN | apply Kd.S_drew)); exact HO_22.out⟩, ⟨by (try simp only [hl3_29]); (with_reducible repeat (first | apply Kd.R_alloc | apply Kd.R_drewN | apply Kd.R_drew)); exact HL_22.out⟩, ⟨kwW HB⟩⟩
           case rest =>
            clear HC35
            try clear c1
            try clear c2
            try clear c2b0
            try clear c2b1
            try clear p2
            try clear q2
            try clear hx2
            try clear hf2
            try clear c3
            try clear c4
            try clear c5
            try clear c5b0
            try clear c5b1
            try clear c6
            try clear c6b0
            try clear c6b1
            try clear p6
            try clear c7
            try clear c8
            try clear c12
            try clear c12b0
            try clear c13
            try clear c13b0
            try clear c14
            try clear c14b0
            try clear c15
            try clear c15b0
            try clear c16
            try clear c16b0
            try clear c17
            try clear c17b0
            try clear c19
            try clear c19b0
            try clear c20
            try clear c20b0
            try clear c21
            try clear c21b0
            try clear c23
            try clear c23b0
            try clear c24
            try clear c24b0
            try clear c25
            try clear c26
            try clear c26b0
            try clear p26
            try clear q26
            try clear hx26
            try clear c27
            try clear c27b0
            try clear p27
            try clear q27
            try clear hx27
            try clear p28
            try clear q28
            try clear hx28
            try clear hf28
            try clear c29
            try clear c29b0
            try clear c34
            try clear c34b0
            try clear c36
            try clear c36b0
            try clear hx269_0
            try clear hx270_0
            try clear hx271_0
            try clear hx272_0
            try clear hx274_0
            try clear hx28_0
            try clear p2
            try clear p26
            try clear p269
            try clear p27
            try clear p270
            try clear p271
            try clear p272
            try clear p274
            try clear p28
            try clear p6
            try clear q2
            try clear q26
            try clear q269
            try clear q27
            try clear q270
            try clear q271
            try clear q272
            try clear q274
            try clear q28
            obtain ⟨kq, x11_34, rfl, HA, HJ34, HO_3, HO_22, HL_22, HB⟩ := hcut
            cases kq with
            | zero => exact absurd HA.out (by simp [skerrylaw12_TiersParts.j4])
            | succ kj34 =>
             have H := HA.out
             clear HA
             simp only [skerrylaw12_TiersParts.j4] at H
             by_cases c37 : x11_34 < x7_2
             ·
              rw [if_pos c37] at H
              have c37b0 : decide (x11_34 < x7_2) = true := decide_eq_true c37
              clear c37
              by_cases c38 : x11_34 > x8_2
              ·
               rw [if_pos c38] at H
               have c38b0 : decide (x8_2 < x11_34) = true := decide_eq_true c38
               clear c38
               have H' := Aside0.mk H
               clear H
               go_wp2
               (try simp only [← hl3_29])
               go_roundg kj34
               case measure => have := HK1.out; have := HK2.out; have := HJ17.out; have := HJ29.out; have := HJ34.out; omega
               case rel => exact ⟨(y273), (x11_34), (x11_34), (wrap64 (x30_2 + 1)), (by first | rfl | (simp; done) | (simp [bne, *]; done)), (by first | rfl | (simp; done) | (simp [bne, *]; done)), (by first | rfl | (simp; done) | (simp [bne, *]; done)), H', ⟨by have := HK1.out; have := HK2.out; have := HJ17.out; have := HJ29.out; have := HJ34.out; omega⟩, ⟨by (try simp only [hl3_29]); (with_reducible repeat (first | apply Kd.R_alloc | apply Kd.R_drewN | apply Kd.R_drew)); exact HO_3.out⟩, ⟨by (try simp only [hl3_29]); (with_reducible repeat (first | apply Kd.S_alloc | apply Kd.S_drewN | apply Kd.S_drew)); exact HO_22.out⟩, ⟨by (try simp only [hl3_29]); (with_reducible repeat (first | apply Kd.R_alloc | apply Kd.R_drewN | apply Kd.R_drew)); exact HL_22.out⟩, ⟨kwW HB⟩⟩
              ·
               rw [if_neg c38] at H
               have c38b0 : decide (x8_2 < x11_34) = false := decide_eq_false c38
               clear c38
               have H' := Aside0.mk H
               clear H
               go_wp2
               (try simp only [← hl3_29])
               go_roundg kj34
               case measure => have := HK1.out; have := HK2.out; have := HJ17.out; have := HJ29.out; have := HJ34.out; omega
               case rel => exact ⟨(y273), (x11_34), (x8_2), (wrap64 (x30_2 + 1)), (by first | rfl | (simp; done) | (simp [bne, *]; done)), (by first | rfl | (simp; done) | (simp [bne, *]; done)), (by first | rfl | (simp; done) | (simp [bne, *]; done)), H', ⟨by have := HK1.out; have := HK2.out; have := HJ17.out; have := HJ29.out; have := HJ34.out; omega⟩, ⟨by (try simp only [hl3_29]); (with_reducible repeat (first | apply Kd.R_alloc | apply Kd.R_drewN | apply Kd.R_drew)); exact HO_3.out⟩, ⟨by (try simp only [hl3_29]); (with_reducible repeat (first | apply Kd.S_alloc | apply Kd.S_drewN | apply Kd.S_drew)); exact HO_22.out⟩, ⟨by (try simp only [hl3_29]); (with_reducible repeat (first | apply Kd.R_alloc | apply Kd.R_drewN | apply Kd.R_drew)); exact HL_22.out⟩, ⟨kwW HB⟩⟩
             ·
              rw [if_neg c37] at H
              have c37b0 : decide (x11_34 < x7_2) = false := decide_eq_false c37
              clear c37
              by_cases c39 : x11_34 > x8_2
              ·
               rw [if_pos c39] at H
               have c39b0 : decide (x8_2 < x11_34) = true := decide_eq_true c39
               clear c39
               have H' := Aside0.mk H
               clear H
               go_wp2
               (try simp only [← hl3_29])
               go_roundg kj34
               case measure => have := HK1.out; have := HK2.out; have := HJ17.out; have := HJ29.out; have := HJ34.out; omega
               case rel => exact ⟨(y273), (x7_2), (x11_34), (wrap64 (x30_2 + 1)), (by first | rfl | (simp; done) | (simp [bne, *]; done)), (by first | rfl | (simp; done) | (simp [bne, *]; done)), (by first | rfl | (simp; done) | (simp [bne, *]; done)), H', ⟨by have := HK1.out; have := HK2.out; have := HJ17.out; have := HJ29.out; have := HJ34.out; omega⟩, ⟨by (try simp only [hl3_29]); (with_reducible repeat (first | apply Kd.R_alloc | apply Kd.R_drewN | apply Kd.R_drew)); exact HO_3.out⟩, ⟨by (try simp only [hl3_29]); (with_reducible repeat (first | apply Kd.S_alloc | apply Kd.S_drewN | apply Kd.S_drew)); exact HO_22.out⟩, ⟨by (try simp only [hl3_29]); (with_reducible repeat (first | apply Kd.R_alloc | apply Kd.R_drewN | apply Kd.R_drew)); exact HL_22.out⟩, ⟨kwW HB⟩⟩
              ·
               rw [if_neg c39] at H
               have c39b0 : decide (x8_2 < x11_34) = false := decide_eq_false c39
               clear c39
               have H' := Aside0.mk H
               clear H
               go_wp2
               (try simp only [← hl3_29])
               go_roundg kj34
               case measure => have := HK1.out; have := HK2.out; have := HJ17.out; have := HJ29.out; have := HJ34.out; omega
               case rel => exact ⟨(y273), (x7_2), (x8_2), (wrap64 (x30_2 + 1)), (by first | rfl | (simp; done) | (simp [bne, *]; done)), (by first | rfl | (simp; done) | (simp [bne, *]; done)), (by first | rfl | (simp; done) | (simp [bne, *]; done)), H', ⟨by have := HK1.out; have := HK2.out; have := HJ17.out; have := HJ29.out; have := HJ34.out; omega⟩, ⟨by (try simp only [hl3_29]); (with_reducible repeat (first | apply Kd.R_alloc | apply Kd.R_drewN | apply Kd.R_drew)); exact HO_3.out⟩, ⟨by (try simp only [hl3_29]); (with_reducible repeat (first | apply Kd.S_alloc | apply Kd.S_drewN | apply Kd.S_drew)); exact HO_22.out⟩, ⟨by (try simp only [hl3_29]); (with_reducible repeat (first | apply Kd.R_alloc | apply Kd.R_drewN | apply Kd.R_drew)); exact HL_22.out⟩, ⟨kwW HB⟩⟩
def skerrylaw12_TiersParts.Pure : Prop := ∀ (l0 : List Int), l0.length ≤ maxLen → l0.length * 8 ≤ 140737488351232 → (∀ x ∈ l0, (Lit.int .i64 x).wf = true) → ∃ k, skerrylaw12_TiersParts.f k l0 = some true
theorem skerrylaw12_TiersParts.walk (P : skerrylaw12_TiersParts.Pure) (a0 : Option Addr) (len0 cap0 : Nat) (z0 : List Int) (w : World) (w0 : (a0 = none ∧ len0 = 0 ∧ cap0 = 0 ∧ z0 = []) ∨ ∃ x, a0 = some x ∧ len0 ≤ cap0 ∧ cap0 ≤ maxLen ∧ z0.length = cap0 ∧ (∀ i, i < z0.length → w.cell? (x.add i) = some (.int .i64 (z0.getD i 0))) ∧ ∀ n ∈ z0, (Lit.int .i64 n).wf = true) (y0 : len0 * 8 ≤ 140737488351232) :
  Calls Try.prog 4 #[.slice a0 len0 cap0] w fun e w' => e = .returned (.bool true) ∧ Below w.heap.size w w' := by
 obtain ⟨l0, rfl, hr0, hm0, hw0, hc0⟩ := ReadsInt.ofRowC w0
 obtain ⟨k, h⟩ := P l0 hm0 y0 hw0
 refine (skerrylaw12_TiersParts.calls k _ _ l0 true w (Kd.C_of_reads (d := (0 : Int)) (h1 := fun _ => rfl) hr0) hc0 h).mono ?_
 rintro e w' ⟨rfl, hd⟩
 exact ⟨rfl, hd⟩
end Go.Proofs.Ythlffcaaifpdeaa.Q
