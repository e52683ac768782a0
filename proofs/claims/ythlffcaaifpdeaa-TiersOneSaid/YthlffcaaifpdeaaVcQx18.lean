/- Lemmas for this claim's walk: no condition of their own. -/
import Derived.Test.YthlffcaaifpdeaaVcJ15
import Derived.Test.YthlffcaaifpdeaaVcJ17
import Derived.Test.YthlffcaaifpdeaaVcQx12
import Derived.Test.YthlffcaaifpdeaaVcQx13
namespace Go.Proofs.Ythlffcaaifpdeaa.Q
open Go.RowKit Go.Proofs.YthlffcaaifpdeaaW.PrintWords Go.Proofs.YthlffcaaifpdeaaW.PrintLast Go.Proofs.YthlffcaaifpdeaaW.PrintMore
attribute [local go_sem] max2_int min2_int max_two min_two max_three min_three max_four min_four
set_option linter.unusedVariables false
set_option linter.unusedSimpArgs false
mutual
def skerrylaw12_TiersOne.l0 : Nat → Int → Int → Int → List Int → List Int → Int → Option (Bool)
 | 0, _, _, _, _, _, _ => none
 | k + 1, x0, x7, x8, x9, x10, x11 => if x11 < x7 then (if x9.length < 17592186044416 then (if x10.length < 17592186044416 then (skerrylaw12_TiersOne.l0 k x0 x7 x8 (x9 ++ [x0]) (x10 ++ [x11]) (wrap64 (x11 + 1))) else (none)) else (none)) else ((tiers_Buckets.f x9).bind fun t295 => (if x7 = 0 then (if (t295.length : Int) = 0 then ((tiers_Choose.f x9 x8).bind fun t298 => (if (t298.length : Int) = 0 then ((skerrylaw12_lives.f k).bind fun t301 => (some t301)) else (none))) else (none)) else (if (t295.length : Int) = 1 then (if 0 < (t295.length : Int) then ((skerryref01_Ints.f k (rd_L1 t295 0) x10).bind fun t303 => (skerrylaw12_TiersOne.j1 k x7 x8 x9 x10 (!t303))) else (none)) else (skerrylaw12_TiersOne.j1 k x7 x8 x9 x10 true))))
def skerrylaw12_TiersOne.j1 : Nat → Int → Int → List Int → List Int → Bool → Option (Bool)
 | 0, _, _, _, _, _ => none
 | k + 1, x7, x8, x9, x10, x59 => if x59 = true then (none) else (if x7 < x8 then (skerrylaw12_TiersOne.j2 k x8 x9 x10 true) else (skerrylaw12_TiersOne.j2 k x8 x9 x10 (decide (x7 < 2))))
def skerrylaw12_TiersOne.j2 : Nat → Int → List Int → List Int → Bool → Option (Bool)
 | 0, _, _, _, _ => none
 | k + 1, x8, x9, x10, x66 => if x66 = true then ((tiers_Choose.f x9 x8).bind fun t304 => (if (t304.length : Int) = 0 then ((skerrylaw12_lives.f k).bind fun t307 => (some t307)) else (none))) else ((tiers_Choose.f x9 x8).bind fun t308 => ((skerryref01_Ints.f k t308 x10).bind fun t311 => (if t311 = true then ((skerrylaw12_lives.f k).bind fun t312 => (some t312)) else (none))))
end
def skerrylaw12_TiersOne.f (k : Nat) (a0 : Int) (a1 : Int) (a2 : Int) : Option (Bool) := skerrylaw12_TiersOne.l0 k a0 (wrap64 (Int.tmod a1 60)) (wrap64 (Int.tmod a2 70)) ([] : List Int) ([] : List Int) 0
set_option maxHeartbeats 8000000 in
set_option maxRecDepth 100000 in
theorem skerrylaw12_TiersOne.calls (k : Nat) (a0 : Int) (a1 : Int) (a2 : Int) (r : Bool) (w : World) (h : skerrylaw12_TiersOne.f k a0 a1 a2 = some r) :
  Calls Try.prog 6 #[.int .i64 a0, .int .u64 a1, .int .u64 a2] w fun e w' => e = .returned (.bool r) ∧ Below w.heap.size w w' := by
 have HB := Aside0.mk (Below.refl w.heap.size w)
 have H : (skerrylaw12_TiersOne.l0 k a0 (wrap64 (Int.tmod a1 60)) (wrap64 (Int.tmod a2 70)) ([] : List Int) ([] : List Int) 0) = some r := h
 clear h
 have H' := Aside0.mk H
 clear H
 go_enter Try.func6, Try.ntmps6
 go_wp2
 go_loopg [9, 10, 11] k (fun kq v9 v10 v11 w' => ∃ (x9_1 : List Int) (x10_1 : List Int) (x11_1 : Int), v11 = .int .i64 x11_1 ∧ Aside0 (skerrylaw12_TiersOne.l0 kq a0 (wrap64 (Int.tmod a1 60)) (wrap64 (Int.tmod a2 70)) x9_1 x10_1 x11_1 = some r) ∧ Aside0 (kq ≤ k) ∧ Aside0 (Kd.R (Kd.int .i64) 3 w' w.heap.size (fun k_ => some k_ ≠ (v10 : Value).ownBlock) v9 x9_1) ∧ Aside0 (Kd.R (Kd.int .i64) 3 w' w.heap.size (fun k_ => some k_ ≠ (v9 : Value).ownBlock) v10 x10_1) ∧ Aside0 (Below w.heap.size w w'))
 case atStart => exact ⟨(([] : List Int)), (([] : List Int)), (0), (by first | rfl | (simp; done) | (simp [bne, *]; done)), H', ⟨Nat.le_refl _⟩, ⟨by first | exact Kd.R_nil _ _ _ _ _ | exact Kd.N_nil _ _ _ _ _ | exact Kd.V_nil _ _ _ _ _ | exact Kd.Q_nil _ _ _ _ _ | exact Kd.S_nil _ _ _ _ _⟩, ⟨by first | exact Kd.R_nil _ _ _ _ _ | exact Kd.N_nil _ _ _ _ _ | exact Kd.V_nil _ _ _ _ _ | exact Kd.Q_nil _ _ _ _ _ | exact Kd.S_nil _ _ _ _ _⟩, ⟨kwW HB⟩⟩
 case round =>
  clear H'
  try clear p2
  obtain ⟨x9_1, x10_1, x11_1, rfl, HA, HK1, HO_9, HO_10, HB⟩ := hrel
  cases gk with
  | zero => exact absurd HA.out (by simp [skerrylaw12_TiersOne.l0])
  | succ k1 =>
   have H := HA.out
   clear HA
   simp only [skerrylaw12_TiersOne.l0] at H
   by_cases c4 : x11_1 < (wrap64 (Int.tmod a1 60))
   ·
    rw [if_pos c4] at H
    have c4b0 : decide (x11_1 < (wrap64 (Int.tmod a1 60))) = true := decide_eq_true c4
    clear c4
    by_cases c5 : x9_1.length < 17592186044416
    rotate_left
    ·
     rw [if_neg c5] at H
     exact absurd H (by simp)
    rw [if_pos c5] at H
    have LMc5 := Aside0.mk c5
    clear c5
    obtain ⟨y289, hy289⟩ : ∃ y_ : List Int, y_ = (x9_1 ++ [a0]) := ⟨_, rfl⟩
    replace H : (if x10_1.length < 17592186044416 then (skerrylaw12_TiersOne.l0 k1 a0 (wrap64 (Int.tmod a1 60)) (wrap64 (Int.tmod a2 70)) y289 (x10_1 ++ [x11_1]) (wrap64 (x11_1 + 1))) else (none)) = some r := by first | (rw [hy289]; with_reducible exact H) | (have H2_ := (Option.bind_some _ _).symm.trans H; rw [hy289]; with_reducible exact H2_) | (have H2_ := (Option.bind_some _ _).symm.trans H; with_reducible exact H2_) | with_reducible exact H | (rw [hy289]; exact H) | exact H
    have Ny289 := Aside0.mk hy289
    clear hy289
    by_cases c6 : x10_1.length < 17592186044416
    rotate_left
    ·
     rw [if_neg c6] at H
     exact absurd H (by simp)
    rw [if_pos c6] at H
    have LMc6 := Aside0.mk c6
    clear c6
    obtain ⟨y292, hy292⟩ : ∃ y_ : List Int, y_ = (x10_1 ++ [x11_1]) := ⟨_, rfl⟩
    replace H : (skerrylaw12_TiersOne.l0 k1 a0 (wrap64 (Int.tmod a1 60)) (wrap64 (Int.tmod a2 70)) y289 y292 (wrap64 (x11_1 + 1))) = some r := by first | (rw [hy292]; with_reducible exact H) | (have H2_ := (Option.bind_some _ _).symm.trans H; rw [hy292]; with_reducible exact H2_) | (have H2_ := (Option.bind_some _ _).symm.trans H; with_reducible exact H2_) | with_reducible exact H | (rw [hy292]; exact H) | exact H
    have Ny292 := Aside0.mk hy292
    clear hy292
    have H' := Aside0.mk H
    clear H
    go_wp2_with (first | ((with_reducible refine gate_builtin (b := .append) (xs := #[.tmp 24, .tmp 26]) rfl ?_); (try (refine gate_guard (by rfl) ?_; dsimp only)); at_builtin; refine Kd.R_append (Kd.int .i64) (w0 := w) w.heap.size rfl (.tmp 24) (.tmp 26) 22 3 (.int .i64 0) 8 rfl Try.underlying22 info3 rfl (by decide) (by omega) u9 x9_1 a0 [.int .i64 a0] (fun k_ => some k_ ≠ (u10 : Value).ownBlock) (fun _ => False) rfl rfl ?aP (fun _ hk => hk.elim) ?aF ?aO ?aB ?aS ?aL ?_; (case aP => exact rfl); (case aB => exact (kwW HB)); (case aF => exact (fun k_ hk => Kd.fresh' (Kd.R_lt (krW HO_10)) k_ hk)); (case aO => exact (krW HO_9)); (case aS => exact (bZ_ (kwW HB))); (case aL => have := LMc5.out; omega); intro v290 w7 ho hb hg hat; rw [← Ny289.out] at ho; replace HO_10 := Aside0.mk (Kd.R_after (ok := (fun _ => True)) (by (with_reducible repeat (first | apply Kd.R_alloc | apply Kd.R_drewN | apply Kd.R_drew)); exact Kd.R_mono HO_10.out (fun _ hk => ⟨trivial, hk⟩)) hg hat); replace HB := Aside0.mk (hb); have HO291 := Aside0.mk (ho); clear HO_9; clear ho hb hg hat) | ((with_reducible refine gate_builtin (b := .append) (xs := #[.tmp 28, .tmp 30]) rfl ?_); (try (refine gate_guard (by rfl) ?_; dsimp only)); at_builtin; refine Kd.R_append (Kd.int .i64) (w0 := w) w.heap.size rfl (.tmp 28) (.tmp 30) 22 3 (.int .i64 0) 8 rfl Try.underlying22 info3 rfl (by decide) (by omega) u10 x10_1 x11_1 [.int .i64 x11_1] (fun k_ => some k_ ≠ (v290 : Value).ownBlock) (fun _ => False) rfl rfl ?aP (fun _ hk => hk.elim) ?aF ?aO ?aB ?aS ?aL ?_; (case aP => exact rfl); (case aB => exact (kwW HB)); (case aF => exact (fun k_ hk => Kd.fresh' (Kd.R_lt (krW HO291)) k_ hk)); (case aO => exact (by (with_reducible repeat (first | apply Kd.R_alloc | apply Kd.R_drewN | apply Kd.R_drew)); exact Kd.R_mono HO_10.out (fun _ hk => hk.2))); (case aS => exact (bZ_ (kwW HB))); (case aL => have := LMc6.out; omega); intro v293 w8 ho hb hg hat; rw [← Ny292.out] at ho; replace HO291 := Aside0.mk (Kd.R_after (ok := (fun _ => True)) (by (with_reducible repeat (first | apply Kd.R_alloc | apply Kd.R_drewN | apply Kd.R_drew)); exact Kd.R_mono HO291.out (fun _ hk => ⟨trivial, hk⟩)) hg hat); replace HB := Aside0.mk (hb); have HO294 := Aside0.mk (ho); clear HO_10; clear ho hb hg hat))
    go_roundg k1
    case measure => have := HK1.out; omega
    case rel => exact ⟨(y289), (y292), (wrap64 (x11_1 + 1)), (by first | rfl | (simp; done) | (simp [bne, *]; done)), H', ⟨by have := HK1.out; omega⟩, ⟨by (with_reducible repeat (first | apply Kd.R_alloc | apply Kd.R_drewN | apply Kd.R_drew)); exact Kd.R_mono HO291.out (fun _ hk => hk.2)⟩, ⟨krW HO294⟩, ⟨kwW HB⟩⟩
   ·
    rw [if_neg c4] at H
    have c4b0 : decide (x11_1 < (wrap64 (Int.tmod a1 60))) = false := decide_eq_false c4
    clear c4
    replace H := Option.bind_eq_some_iff.mp H
    obtain ⟨t295, A90, H⟩ := H
    have A9 := Aside0.mk A90
    clear A90
    by_cases c10 : (wrap64 (Int.tmod a1 60)) = 0
    ·
     rw [if_pos c10] at H
     have c10b0 : ((wrap64 (Int.tmod a1 60)) == 0) = true := beq_iff_eq.mpr c10
     have c10b1 : ((wrap64 (Int.tmod a1 60)) != 0) = false := bne_eq_false_iff_eq.mpr c10
     clear c10
     by_cases c11 : (t295.length : Int) = 0
     rotate_left
     ·
      rw [if_neg c11] at H
      exact absurd H (by simp)
     rw [if_pos c11] at H
     have c11b0 : ((t295.length : Int) == 0) = true := beq_iff_eq.mpr c11
     have c11b1 : ((t295.length : Int) != 0) = false := bne_eq_false_iff_eq.mpr c11
     clear c11
     replace H := Option.bind_eq_some_iff.mp H
     obtain ⟨t298, A120, H⟩ := H
     have A12 := Aside0.mk A120
     clear A120
     by_cases c13 : (t298.length : Int) = 0
     rotate_left
     ·
      rw [if_neg c13] at H
      exact absurd H (by simp)
     rw [if_pos c13] at H
     have c13b0 : ((t298.length : Int) == 0) = true := beq_iff_eq.mpr c13
     have c13b1 : ((t298.length : Int) != 0) = false := bne_eq_false_iff_eq.mpr c13
     clear c13
     replace H := Option.bind_eq_some_iff.mp H
     obtain ⟨t301, A140, H⟩ := H
     have A14 := Aside0.mk A140
     clear A140
     obtain rfl := Option.some.inj H
     obtain ⟨Ao15, co15, eo15⟩ := Kd.R_slice HO_9.out
     subst eo15
     go_wp2_with (first | ((with_reducible refine gate_callee (f := 8) rfl ?_); refine goesL_ (some 33) rfl rfl Try.func8 (by kernel_rfl) rfl #[.slice Ao15 x9_1.length co15] rfl (by (try simp only [mT_, mC_, mN_]); first | done | rfl) ?_; (with_reducible refine (tiers_Buckets.calls _ _ x9_1 t295 _ ?side1 ?side2 A9.out).mono ?_); (case side1 => repeat (first | exact (Kd.R_reads' HO_9.out).2.2 | (with_reducible refine Kd.C_alloc ?_ _) | (with_reducible refine Kd.C_drewN ?_ _) | (with_reducible refine Kd.C_drew ?_))); (case side2 => exact (Kd.R_reads' HO_9.out).2.1); rintro e w16 ⟨v296, rfl, ho0, hb⟩; refine ⟨_, rfl, ?_⟩; have HO297 := Aside0.mk (Kd.S_lower (Kd.S_new' (Kd.S_new' ho0 (Kd.R_lt (krW HO_9))) (Kd.R_lt (krW HO_10))) (bZ_ (kwW HB))); replace HO_9 := kR HO_9 hb; replace HO_10 := kR HO_10 hb; replace HB := Aside0.mk (below_step (kwW HB) hb); (try clear hb); (try clear hb2); (try clear hk); (try clear hi); (try clear ho0); obtain ⟨Ao17, co17, eo17⟩ := Kd.S_slice HO297.out; subst eo17) | (go_at_call 11; (with_reducible refine (tiers_Choose.calls _ _ x9_1 (wrap64 (Int.tmod a2 70)) t298 _ ?side1 ?side2 A12.out).mono ?_); (case side1 => repeat (first | exact (Kd.R_reads' HO_9.out).2.2 | (with_reducible refine Kd.C_alloc ?_ _) | (with_reducible refine Kd.C_drewN ?_ _) | (with_reducible refine Kd.C_drew ?_))); (case side2 => exact (Kd.R_reads' HO_9.out).2.1); rintro e w18 ⟨v299, rfl, ho0, hb⟩; replace HO297 := Aside0.mk (Kd.S_elder' (by (with_reducible repeat (first | apply Kd.S_alloc | apply Kd.S_drewN | apply Kd.S_drew)); exact HO297.out) (Kd.R_base ho0) hb); have HO300 := Aside0.mk (Kd.R_lower (Kd.R_new' (Kd.R_new' ho0 (Kd.R_lt (krW HO_9))) (Kd.R_lt (krW HO_10))) (bZ_ (kwW HB))); replace HO_9 := Aside0.mk (Kd.R_elder' (krW HO_9) (Kd.R_base ho0) hb); replace HO_10 := Aside0.mk (Kd.R_elder' (krW HO_10) (Kd.R_base ho0) hb); replace HB := Aside0.mk (below_step (kwW HB) hb); (try clear hb); (try clear hb2); (try clear hk); (try clear hi); (try clear ho0); obtain ⟨Ao19, co19, eo19⟩ := Kd.R_slice HO300.out; subst eo19) | (go_at_call 7; (with_reducible refine (skerrylaw12_lives.calls k1  t301 _ A14.out).mono ?_); rintro e w20 ⟨rfl, hb⟩; replace HO_9 := kR HO_9 hb; replace HO_10 := kR HO_10 hb; replace HO297 := Aside0.mk (Kd.S_below (by (with_reducible repeat (first | apply Kd.S_alloc | apply Kd.S_drewN | apply Kd.S_drew)); exact HO297.out) hb); replace HO300 := kR HO300 hb; replace HB := Aside0.mk (below_step (kwW HB) hb); (try clear hb); (try clear hb2); (try clear hk); (try clear hi)))
     go_ret
     exact ⟨by first | rfl | (simp <;> rfl) | (simp [*] <;> rfl), kwW HB⟩
    ·
     rw [if_neg c10] at H
     have c10b0 : ((wrap64 (Int.tmod a1 60)) == 0) = false := beq_eq_false_iff_ne.mpr c10
     have c10b1 : ((wrap64 (Int.tmod a1 60)) != 0) = true := bne_iff_ne.mpr c10
     have HC21 := Aside0.mk H
     clear H
     obtain ⟨Ao22, co22, eo22⟩ := Kd.R_slice HO_9.out
     subst eo22
     go_upto_region 11 with (first | ((with_reducible refine gate_callee (f := 8) rfl ?_); refine goesL_ (some 33) rfl rfl Try.func8 (by kernel_rfl) rfl #[.slice Ao22 x9_1.length co22] rfl (by (try simp only [mT_, mC_, mN_]); first | done | rfl) ?_; (with_reducible refine (tiers_Buckets.calls _ _ x9_1 t295 _ ?side1 ?side2 A9.out).mono ?_); (case side1 => repeat (first | exact (Kd.R_reads' HO_9.out).2.2 | (with_reducible refine Kd.C_alloc ?_ _) | (with_reducible refine Kd.C_drewN ?_ _) | (with_reducible refine Kd.C_drew ?_))); (case side2 => exact (Kd.R_reads' HO_9.out).2.1); rintro e w23 ⟨v296, rfl, ho0, hb⟩; refine ⟨_, rfl, ?_⟩; have HO297 := Aside0.mk (Kd.S_lower (Kd.S_new' (Kd.S_new' ho0 (Kd.R_lt (krW HO_9))) (Kd.R_lt (krW HO_10))) (bZ_ (kwW HB))); replace HO_9 := kR HO_9 hb; replace HO_10 := kR HO_10 hb; replace HB := Aside0.mk (below_step (kwW HB) hb); (try clear hb); (try clear hb2); (try clear hk); (try clear hi); (try clear ho0)))
     (try simp only [Act.put, List.setIfInBounds_toArray, List.set_cons_zero, List.set_cons_succ])
     go_cut [59] (fun v59 wc => ∃ (kq : Nat) (x59_20 : Bool), v59 = .bool x59_20 ∧ Aside0 (skerrylaw12_TiersOne.j1 kq (wrap64 (Int.tmod a1 60)) (wrap64 (Int.tmod a2 70)) x9_1 x10_1 x59_20 = some r) ∧ Aside0 (kq ≤ k1) ∧ Aside0 (Kd.R (Kd.int .i64) 3 wc w.heap.size (fun k_ => some k_ ≠ (u10 : Value).ownBlock) (.slice Ao22 x9_1.length co22) x9_1) ∧ Aside0 (Kd.R (Kd.int .i64) 3 wc w.heap.size (fun k_ => some k_ ≠ ((.slice Ao22 x9_1.length co22) : Value).ownBlock) u10 x10_1) ∧ Aside0 (Below w.heap.size w wc))
     case first =>
      have H := HC21.out
      clear HC21
      by_cases c24 : (t295.length : Int) = 1
      rotate_left
      ·
       rw [if_neg c24] at H
       have c24b0 : ((t295.length : Int) == 1) = false := beq_eq_false_iff_ne.mpr c24
       have c24b1 : ((t295.length : Int) != 1) = true := bne_iff_ne.mpr c24
       (first | rw [c24b0] | (simp only [i64_w, i32_w]; rw [c24b0]) | skip)
       have H' := Aside0.mk H
       clear H
       obtain ⟨Ao29, co29, eo29⟩ := Kd.S_slice HO297.out
       subst eo29
       go_wp2
       go_meet
       case rel => exact ⟨_, (true), (by first | rfl | (simp; done) | (simp [bne, *]; done)), H', ⟨by have := HK1.out; first | omega | exact Nat.le_refl _⟩, ⟨krW HO_9⟩, ⟨krW HO_10⟩, ⟨kwW HB⟩⟩
      rw [if_pos c24] at H
      have c24b0 : ((t295.length : Int) == 1) = true := beq_iff_eq.mpr c24
      have c24b1 : ((t295.length : Int) != 1) = false := bne_eq_false_iff_eq.mpr c24
      clear c24
      (first | rw [c24b0] | (simp only [i64_w, i32_w]; rw [c24b0]) | skip)
      by_cases c25 : 0 < (t295.length : Int)
      rotate_left
      ·
       rw [if_neg c25] at H
       exact absurd H (by simp)
      rw [if_pos c25] at H
      have c25b0 : decide (0 < (t295.length : Int)) = true := decide_eq_true c25
      have c25b1 : decide (0 < t295.length) = true := decide_eq_true (by omega)
      clear c25
      replace H := Option.bind_eq_some_iff.mp H
      obtain ⟨t303, A260, H⟩ := H
      have A26 := Aside0.mk A260
      clear A260
      have H' := Aside0.mk H
      clear H
      obtain ⟨Ao27, co27, eo27⟩ := Kd.S_slice HO297.out
      subst eo27
      have p302 : 0 ≤ (0 : Int) := (by omega)
      have q302 : 0 < (t295.length : Int) := of_decide_eq_true (by first | (with_reducible assumption) | assumption)
      obtain ⟨ad302, A302_0, c302_0, e302, hx302_0, hl302_0, hi302_0⟩ := at_L1 (Kd.S_reads' HO297.out).2.2 0 p302 q302
      cases e302
      obtain ⟨ce302, hce302, hMe302, hcc302⟩ := Kd.S_get HO297.out [] 0 p302 (by first | exact q302 | exact of_decide_eq_true (by first | (with_reducible assumption) | assumption) | (have e_ := (Kd.S_reads' HO297.out).1; omega))
      obtain ⟨ve302_0, rfl, ge302_0⟩ := hMe302
      have hv302_0 := hcc302 0 _ rfl
      rw [Nat.add_zero, show ((Kd.slice 3 (Kd.int .i64))).sz = 1 from rfl, Nat.mul_one] at hv302_0
      replace hv302_0 := Option.some.inj (hv302_0.symm.trans hx302_0)
      rw [hv302_0] at ge302_0
      have HL302_0 := Aside0.mk (show Kd.R (Kd.int .i64) 3 _ _ _ _ (rd_L1 t295 0) from ge302_0)
      clear hv302_0 ge302_0
      clear hcc302 hce302
      have qi302 : (0 < t295.length) = True := eq_true (by omega)
      (try rw [show ((0 : Int)).toNat = 0 from rfl] at hx302_0)
      (try rw [Addr.add_zero'] at hx302_0)
      have HR302_0 := Aside0.mk hi302_0
      have HC302_0 := Aside0.mk hl302_0
      clear hi302_0 hl302_0
      replace p302 := eq_true p302
      replace q302 := eq_true q302
      obtain ⟨Ao28, co28, eo28⟩ := Kd.R_slice HO_10.out
      subst eo28
      go_wp2_with (first | (go_at_call 10; (with_reducible refine (skerryref01_Ints.calls k1 _ _ (rd_L1 t295 0) _ _ x10_1 t303 _ ?side1 ?side2 ?side3 ?side4 A26.out).mono ?_); (case side1 => repeat (first | exact (by repeat (first | (with_reducible exact HR302_0.out) | (with_reducible refine Kd.C_alloc ?_ _) | (with_reducible refine Kd.C_drewN ?_ _) | (with_reducible refine Kd.C_drew ?_) | exact HR302_0.out)) | (with_reducible refine Kd.C_alloc ?_ _) | (with_reducible refine Kd.C_drewN ?_ _) | (with_reducible refine Kd.C_drew ?_))); (case side2 => exact HC302_0.out); (case side3 => repeat (first | exact (Kd.R_reads' HO_10.out).2.2 | (with_reducible refine Kd.C_alloc ?_ _) | (with_reducible refine Kd.C_drewN ?_ _) | (with_reducible refine Kd.C_drew ?_))); (case side4 => exact (Kd.R_reads' HO_10.out).2.1); rintro e w' ⟨rfl, ⟨nd, rfl⟩⟩))
      go_meet
      case rel => exact ⟨_, (!t303), (by first | rfl | (simp; done) | (simp [bne, *]; done)), H', ⟨by have := HK1.out; first | omega | exact Nat.le_refl _⟩, ⟨krW HO_9⟩, ⟨krW HO_10⟩, ⟨kwW HB⟩⟩
     case rest =>
      clear HC21
      try clear c1
      try clear c2
      try clear p2
      try clear c3
      try clear p3
      try clear q3
      try clear hx3
      try clear qi3
      try clear c4
      try clear c4b0
      try clear c5
      try clear c6
      try clear p6
      try clear c8
      try clear c10
      try clear c10b0
      try clear c10b1
      try clear c11
      try clear c11b0
      try clear c11b1
      try clear c13
      try clear c13b0
      try clear c13b1
      try clear c24
      try clear c24b0
      try clear c24b1
      try clear c25
      try clear c25b0
      try clear c25b1
      try clear hx302_0
      try clear p2
      try clear p302
      try clear q302
      obtain ⟨kq, x59_20, rfl, HA, HJ20, HO_9, HO_10, HB⟩ := hcut
      cases kq with
      | zero => exact absurd HA.out (by simp [skerrylaw12_TiersOne.j1])
      | succ kj20 =>
       have H := HA.out
       clear HA
       simp only [skerrylaw12_TiersOne.j1] at H
       by_cases c30 : x59_20 = true
       ·
        subst c30
        have H1 : (none) = some r := by rw [if_pos rfl] at H; exact H
        clear H
        have H := H1
        clear H1
        exact absurd H (by simp)
       ·
        replace c30 := Bool.eq_false_iff.mpr c30
        subst c30
        have H1 : (if (wrap64 (Int.tmod a1 60)) < (wrap64 (Int.tmod a2 70)) then (skerrylaw12_TiersOne.j2 kj20 (wrap64 (Int.tmod a2 70)) x9_1 x10_1 true) else (skerrylaw12_TiersOne.j2 kj20 (wrap64 (Int.tmod a2 70)) x9_1 x10_1 (decide ((wrap64 (Int.tmod a1 60)) < 2)))) = some r := by rw [if_neg (show ¬ (false = true) by decide)] at H; exact H
        clear H
        have H := H1
        clear H1
        have HC31 := Aside0.mk H
        clear H
        go_upto_region 13 with (fail)
        go_cut [66] (fun v66 wc => ∃ (kq : Nat) (x66_30 : Bool), v66 = .bool x66_30 ∧ Aside0 (skerrylaw12_TiersOne.j2 kq (wrap64 (Int.tmod a2 70)) x9_1 x10_1 x66_30 = some r) ∧ Aside0 (kq ≤ kj20) ∧ Aside0 (Kd.R (Kd.int .i64) 3 wc w.heap.size (fun k_ => some k_ ≠ (u10 : Value).ownBlock) (.slice Ao22 x9_1.length co22) x9_1) ∧ Aside0 (Kd.R (Kd.int .i64) 3 wc w.heap.size (fun k_ => some k_ ≠ ((.slice Ao22 x9_1.length co22) : Value).ownBlock) u10 x10_1) ∧ Aside0 (Below w.heap.size w wc))
        case first =>
         have H := HC31.out
         clear HC31
         by_cases c32 : (wrap64 (Int.tmod a1 60)) < (wrap64 (Int.tmod a2 70))
         ·
          rw [if_pos c32] at H
          have c32b0 : decide ((wrap64 (Int.tmod a1 60)) < (wrap64 (Int.tmod a2 70))) = true := decide_eq_true c32
          clear c32
          (first | rw [c32b0] | (simp only [i64_w, i32_w]; rw [c32b0]) | skip)
          have H' := Aside0.mk H
          clear H
          go_wp2
          go_meet
          case rel => exact ⟨_, (true), (by first | rfl | (simp; done) | (simp [bne, *]; done)), H', ⟨by have := HK1.out; have := HJ20.out; first | omega | exact Nat.le_refl _⟩, ⟨krW HO_9⟩, ⟨krW HO_10⟩, ⟨kwW HB⟩⟩
         ·
          rw [if_neg c32] at H
          have c32b0 : decide ((wrap64 (Int.tmod a1 60)) < (wrap64 (Int.tmod a2 70))) = false := decide_eq_false c32
          clear c32
          (first | rw [c32b0] | (simp only [i64_w, i32_w]; rw [c32b0]) | skip)
          have H' := Aside0.mk H
          clear H
          go_wp2
          go_meet
          case rel => exact ⟨_, (decide ((wrap64 (Int.tmod a1 60)) < 2)), (by first | rfl | (simp; done) | (simp [bne, *]; done)), H', ⟨by have := HK1.out; have := HJ20.out; first | omega | exact Nat.le_refl _⟩, ⟨krW HO_9⟩, ⟨krW HO_10⟩, ⟨kwW HB⟩⟩
        case rest =>
         clear HC31
         try clear c1
         try clear c2
         try clear p2
         try clear c3
         try clear p3
         try clear q3
         try clear hx3
         try clear qi3
         try clear c4
         try clear c4b0
         try clear c5
         try clear c6
         try clear p6
         try clear c8
         try clear c10
         try clear c10b0
         try clear c10b1
         try clear c11
         try clear c11b0
         try clear c11b1
         try clear c13
         try clear c13b0
         try clear c13b1
         try clear c24
         try clear c24b0
         try clear c24b1
         try clear c25
         try clear c25b0
         try clear c25b1
         try clear c30
         try clear p30
         try clear q30
         try clear hx30
         try clear qi30
         try clear c32
         try clear c32b0
         try clear hx302_0
         try clear p2
         try clear p3
         try clear p302
         try clear p6
         try clear q3
         try clear q302
         obtain ⟨kq, x66_30, rfl, HA, HJ30, HO_9, HO_10, HB⟩ := hcut
         cases kq with
         | zero => exact absurd HA.out (by simp [skerrylaw12_TiersOne.j2])
         | succ kj30 =>
          have H := HA.out
          clear HA
          simp only [skerrylaw12_TiersOne.j2] at H
          by_cases c33 : x66_30 = true
          ·
           subst c33
           have H1 : ((tiers_Choose.f x9_1 (wrap64 (Int.tmod a2 70))).bind fun t304 => (if (t304.length : Int) = 0 then ((skerrylaw12_lives.f kj30).bind fun t307 => (some t307)) else (none))) = some r := by rw [if_pos rfl] at H; exact H
           clear H
           have H := H1
           clear H1
           replace H := Option.bind_eq_some_iff.mp H
           obtain ⟨t304, A340, H⟩ := H
           have A34 := Aside0.mk A340
           clear A340
           by_cases c35 : (t304.length : Int) = 0
           rotate_left
           ·
            rw [if_neg c35] at H
            exact absurd H (by simp)
           rw [if_pos c35] at H
           have c35b0 : ((t304.length : Int) == 0) = true := beq_iff_eq.mpr c35
           have c35b1 : ((t304.length : Int) != 0) = false := bne_eq_false_iff_eq.mpr c35
           clear c35
           replace H := Option.bind_eq_some_iff.mp H
           obtain ⟨t307, A360, H⟩ := H
           have A36 := Aside0.mk A360
           clear A360
           obtain rfl := Option.some.inj H
           go_wp2_with (first | ((with_reducible refine gate_callee (f := 11) rfl ?_); refine goesL_ (some 69) rfl rfl Try.func11 (by kernel_rfl) rfl #[.slice Ao22 x9_1.length co22, .int .i64 (wrap64 (Int.tmod a2 70))] rfl (by (try simp only [mT_, mC_, mN_]); first | done | rfl) ?_; (with_reducible refine (tiers_Choose.calls _ _ x9_1 (wrap64 (Int.tmod a2 70)) t304 _ ?side1 ?side2 A34.out).mono ?_); (case side1 => repeat (first | exact (Kd.R_reads' HO_9.out).2.2 | (with_reducible refine Kd.C_alloc ?_ _) | (with_reducible refine Kd.C_drewN ?_ _) | (with_reducible refine Kd.C_drew ?_))); (case side2 => exact (Kd.R_reads' HO_9.out).2.1); rintro e w37 ⟨v305, rfl, ho0, hb⟩; refine ⟨_, rfl, ?_⟩; have HO306 := Aside0.mk (Kd.R_lower (Kd.R_new' (Kd.R_new' ho0 (Kd.R_lt (krW HO_9))) (Kd.R_lt (krW HO_10))) (bZ_ (kwW HB))); replace HO_9 := Aside0.mk (Kd.R_elder' (krW HO_9) (Kd.R_base ho0) hb); replace HO_10 := Aside0.mk (Kd.R_elder' (krW HO_10) (Kd.R_base ho0) hb); replace HB := Aside0.mk (below_step (kwW HB) hb); (try clear hb); (try clear hb2); (try clear hk); (try clear hi); (try clear ho0); obtain ⟨Ao38, co38, eo38⟩ := Kd.R_slice HO306.out; subst eo38) | (go_at_call 7; (with_reducible refine (skerrylaw12_lives.calls kj30  t307 _ A36.out).mono ?_); rintro e w39 ⟨rfl, hb⟩; replace HO_9 := kR HO_9 hb; replace HO_10 := kR HO_10 hb; replace HO306 := kR HO306 hb; replace HB := Aside0.mk (below_step (kwW HB) hb); (try clear hb); (try clear hb2); (try clear hk); (try clear hi)))
           go_ret
           exact ⟨by first | rfl | (simp <;> rfl) | (simp [*] <;> rfl), kwW HB⟩
          ·
           replace c33 := Bool.eq_false_iff.mpr c33
           subst c33
           have H1 : ((tiers_Choose.f x9_1 (wrap64 (Int.tmod a2 70))).bind fun t308 => ((skerryref01_Ints.f kj30 t308 x10_1).bind fun t311 => (if t311 = true then ((skerrylaw12_lives.f kj30).bind fun t312 => (some t312)) else (none)))) = some r := by rw [if_neg (show ¬ (false = true) by decide)] at H; exact H
           clear H
           have H := H1
           clear H1
           replace H := Option.bind_eq_some_iff.mp H
           obtain ⟨t308, A400, H⟩ := H
           have A40 := Aside0.mk A400
           clear A400
           replace H := Option.bind_eq_some_iff.mp H
           obtain ⟨t311, A410, H⟩ := H
           have A41 := Aside0.mk A410
           clear A410
           by_cases c42 : t311 = true
           rotate_left
           ·
            replace c42 := Bool.eq_false_iff.mpr c42
            subst c42
            have H1 : (none) = some r := by rw [if_neg (show ¬ (false = true) by decide)] at H; exact H
            clear H
            have H := H1
            clear H1
            exact absurd H (by simp)
           subst c42
           have H1 : ((skerrylaw12_lives.f kj30).bind fun t312 => (some t312)) = some r := by rw [if_pos rfl] at H; exact H
           clear H
           have H := H1
           clear H1
           replace H := Option.bind_eq_some_iff.mp H
           obtain ⟨t312, A430, H⟩ := H
           have A43 := Aside0.mk A430
           clear A430
           obtain rfl := Option.some.inj H
           go_wp2_with (first | ((with_reducible refine gate_callee (f := 11) rfl ?_); refine goesL_ (some 77) rfl rfl Try.func11 (by kernel_rfl) rfl #[.slice Ao22 x9_1.length co22, .int .i64 (wrap64 (Int.tmod a2 70))] rfl (by (try simp only [mT_, mC_, mN_]); first | done | rfl) ?_; (with_reducible refine (tiers_Choose.calls _ _ x9_1 (wrap64 (Int.tmod a2 70)) t308 _ ?side1 ?side2 A40.out).mono ?_); (case side1 => repeat (first | exact (Kd.R_reads' HO_9.out).2.2 | (with_reducible refine Kd.C_alloc ?_ _) | (with_reducible refine Kd.C_drewN ?_ _) | (with_reducible refine Kd.C_drew ?_))); (case side2 => exact (Kd.R_reads' HO_9.out).2.1); rintro e w44 ⟨v309, rfl, ho0, hb⟩; refine ⟨_, rfl, ?_⟩; have HO310 := Aside0.mk (Kd.R_lower (Kd.R_new' (Kd.R_new' ho0 (Kd.R_lt (krW HO_9))) (Kd.R_lt (krW HO_10))) (bZ_ (kwW HB))); replace HO_9 := Aside0.mk (Kd.R_elder' (krW HO_9) (Kd.R_base ho0) hb); replace HO_10 := Aside0.mk (Kd.R_elder' (krW HO_10) (Kd.R_base ho0) hb); replace HB := Aside0.mk (below_step (kwW HB) hb); (try clear hb); (try clear hb2); (try clear hk); (try clear hi); (try clear ho0); obtain ⟨Ao45, co45, eo45⟩ := Kd.R_slice HO310.out; subst eo45; obtain ⟨Ao46, co46, eo46⟩ := Kd.R_slice HO_10.out; subst eo46) | ((with_reducible refine gate_callee (f := 10) rfl ?_); refine goesL_ (some 79) rfl rfl Try.func10 (by kernel_rfl) rfl #[.slice Ao45 t308.length co45, .slice Ao46 x10_1.length co46] rfl (by (try simp only [mT_, mC_, mN_]); first | done | rfl) ?_; (with_reducible refine (skerryref01_Ints.calls kj30 _ _ t308 _ _ x10_1 true _ ?side1 ?side2 ?side3 ?side4 A41.out).mono ?_); (case side1 => repeat (first | exact (Kd.R_reads' HO310.out).2.2 | (with_reducible refine Kd.C_alloc ?_ _) | (with_reducible refine Kd.C_drewN ?_ _) | (with_reducible refine Kd.C_drew ?_))); (case side2 => exact (Kd.R_reads' HO310.out).2.1); (case side3 => repeat (first | exact (Kd.R_reads' HO_10.out).2.2 | (with_reducible refine Kd.C_alloc ?_ _) | (with_reducible refine Kd.C_drewN ?_ _) | (with_reducible refine Kd.C_drew ?_))); (case side4 => exact (Kd.R_reads' HO_10.out).2.1); rintro e w' ⟨rfl, ⟨nd, rfl⟩⟩; refine ⟨_, rfl, ?_⟩) | (go_at_call 7; (with_reducible refine (skerrylaw12_lives.calls kj30  t312 _ A43.out).mono ?_); rintro e w47 ⟨rfl, hb⟩; replace HO_9 := kR HO_9 hb; replace HO_10 := kR HO_10 hb; replace HO310 := kR HO310 hb; replace HB := Aside0.mk (below_step (kwW HB) hb); (try clear hb); (try clear hb2); (try clear hk); (try clear hi)))
           go_ret
           exact ⟨by first | rfl | (simp <;> rfl) | (simp [*] <;> rfl), kwW HB⟩
def skerrylaw12_TiersOne.Pure : Prop := ∀ (a0 : Int) (a1 : Int) (a2 : Int), (Lit.int .i64 a0).wf = true → (Lit.int .u64 a1).wf = true → (Lit.int .u64 a2).wf = true → ∃ k, skerrylaw12_TiersOne.f k a0 a1 a2 = some true
theorem skerrylaw12_TiersOne.walk (P : skerrylaw12_TiersOne.Pure) (a0 : Int) (a1 : Int) (a2 : Int) (w : World) (w0 : (Lit.int .i64 a0).wf = true) (w1 : (Lit.int .u64 a1).wf = true) (w2 : (Lit.int .u64 a2).wf = true) :
  Calls Try.prog 6 #[.int .i64 a0, .int .u64 a1, .int .u64 a2] w fun e w' => e = .returned (.bool true) ∧ Below w.heap.size w w' := by
 obtain ⟨k, h⟩ := P a0 a1 a2 w0 w1 w2
 refine (skerrylaw12_TiersOne.calls k a0 a1 a2 true w h).mono ?_
 rintro e w' ⟨rfl, hd⟩
 exact ⟨rfl, hd⟩
end Go.Proofs.Ythlffcaaifpdeaa.Q
