/- Lemmas for this claim's walk: no condition of their own. -/
import Derived.Test.YtabiekkebdocnaaZeSq
import Derived.Test.YtabiekkebdocnaaZeQx0
import Derived.Test.YtabiekkebdocnaaZeQx6
namespace Go.Proofs.Ytabiekkebdocnaa.Q
open Go.RowKit Go.Proofs.YtabiekkebdocnaaW.PrintWords Go.Proofs.YtabiekkebdocnaaW.PrintLast Go.Proofs.YtabiekkebdocnaaW.PrintMore
attribute [local go_sem] max2_int min2_int max_two min_two max_three min_three max_four min_four
set_option linter.unusedVariables false
set_option linter.unusedSimpArgs false
def cell_Sorted.l0 : Nat → List (S39) → Int → Option (Bool)
 | 0, _, _ => none
 | k + 1, x0, x3 => if x3 < (x0.length : Int) then (if 0 ≤ (wrap64 (x3 - 1)) then (if (wrap64 (x3 - 1)) < (x0.length : Int) then (if 0 ≤ x3 then ((key_Cmp.f k ((rd_T39 x0 (wrap64 (x3 - 1))).f0.f0) ((rd_T39 x0 (wrap64 (x3 - 1))).f0.f1) ((rd_T39 x0 (wrap64 (x3 - 1))).f0.f2) ((rd_T39 x0 (wrap64 (x3 - 1))).f0.f3) ((rd_T39 x0 x3).f0.f0) ((rd_T39 x0 x3).f0.f1) ((rd_T39 x0 x3).f0.f2) ((rd_T39 x0 x3).f0.f3)).bind fun t146 => (if t146 ≥ 0 then (some false) else (cell_Sorted.l0 k x0 (wrap64 (x3 + 1))))) else (none)) else (none)) else (none)) else (some true)
def cell_Sorted.f (k : Nat) (l0 : List (S39)) : Option (Bool) := cell_Sorted.l0 k l0 1
def cell_Sorted.T4 : Bool × List (List Nat × List Nat) := (true, [([], []), ([], []), ([1], [1]), ([0, 2], [0, 2]), ([3], [3]), ([4], [4]), ([], []), ([], []), ([6, 7], [6, 7]), ([8], [8]), ([9], [9]), ([5, 10], [5, 10]), ([11], [11])])
def cell_Sorted.B4 : List Nat := [0, 0, 2, 7, 15, 31, 0, 0, 192, 448, 960, 2047, 4095]
theorem cell_Sorted.tab4 : rtab .any (opsOf Try.f16 4) = cell_Sorted.T4 := by kernel_rfl
theorem cell_Sorted.bits4 : waitsOk cell_Sorted.T4.2 cell_Sorted.B4 = true := by kernel_rfl
set_option maxHeartbeats 8000000 in
set_option maxRecDepth 100000 in
theorem cell_Sorted.calls (k : Nat) (A0 : Option Addr) (c0 : Nat) (l0 : List (S39)) (r : Bool) (w : World) (hr0 : Kd.C k39 w A0 l0.length l0) (hc0 : l0.length ≤ c0) (h : cell_Sorted.f k l0 = some r) :
  Calls Try.prog 16 #[.slice A0 l0.length c0] w fun e w' => e = .returned (.bool r) ∧ Below w.heap.size w w' := by
 have hu33 := Try.underlying33
 have HR0 := Aside0.mk hr0
 have HC0 := Aside0.mk hc0
 clear hr0 hc0
 have HB := Aside0.mk (Below.refl w.heap.size w)
 have H : (cell_Sorted.l0 k l0 1) = some r := h
 clear h
 have H' := Aside0.mk H
 clear H
 go_enter Try.func16, Try.ntmps16
 go_wp2
 go_loopg [3] k (fun kq v3 w' => ∃ (x3_1 : Int), v3 = .int .i64 x3_1 ∧ Aside0 (cell_Sorted.l0 kq l0 x3_1 = some r) ∧ Aside0 (kq ≤ k) ∧ Aside0 (Below w.heap.size w w'))
 case atStart => exact ⟨(1), (by first | rfl | (simp; done) | (simp [bne, *]; done)), H', ⟨Nat.le_refl _⟩, ⟨kwW HB⟩⟩
 case round =>
  clear H'
  try clear c1
  obtain ⟨x3_1, rfl, HA, HK1, HB⟩ := hrel
  cases gk with
  | zero => exact absurd HA.out (by simp [cell_Sorted.l0])
  | succ k1 =>
   have H := HA.out
   clear HA
   simp only [cell_Sorted.l0] at H
   by_cases c2 : x3_1 < (l0.length : Int)
   rotate_left
   ·
    rw [if_neg c2] at H
    have c2b0 : decide (x3_1 < (l0.length : Int)) = false := decide_eq_false c2
    clear c2
    obtain rfl := Option.some.inj H
    go_wp2
    go_ret
    exact ⟨by first | rfl | (simp <;> rfl) | (simp [*] <;> rfl), kwW HB⟩
   rw [if_pos c2] at H
   have c2b0 : decide (x3_1 < (l0.length : Int)) = true := decide_eq_true c2
   clear c2
   obtain ⟨ji3, hji3⟩ : ∃ j_ : Int, (wrap64 (x3_1 - 1)) = j_ := ⟨_, rfl⟩
   replace H : (if 0 ≤ (ji3) then (if (ji3) < (l0.length : Int) then (if 0 ≤ x3_1 then ((key_Cmp.f k1 ((rd_T39 l0 (ji3)).f0.f0) ((rd_T39 l0 (ji3)).f0.f1) ((rd_T39 l0 (ji3)).f0.f2) ((rd_T39 l0 (ji3)).f0.f3) ((rd_T39 l0 x3_1).f0.f0) ((rd_T39 l0 x3_1).f0.f1) ((rd_T39 l0 x3_1).f0.f2) ((rd_T39 l0 x3_1).f0.f3)).bind fun t146 => (if t146 ≥ 0 then (some false) else (cell_Sorted.l0 k1 l0 (wrap64 (x3_1 + 1))))) else (none)) else (none)) else (none)) = some r := by first | (rw [hji3] at H; exact H) | (simp only [hji3] at H ⊢; exact H)
   have hji3w : (IntKind.i64.wrap (x3_1 - 1)) = ji3 := (i64_w _).trans hji3
   by_cases c4 : 0 ≤ (ji3)
   rotate_left
   ·
    rw [if_neg c4] at H
    exact absurd H (by simp)
   rw [if_pos c4] at H
   have c4b0 : decide (0 ≤ (ji3)) = true := decide_eq_true c4
   clear c4
   by_cases c5 : (ji3) < (l0.length : Int)
   rotate_left
   ·
    rw [if_neg c5] at H
    exact absurd H (by simp)
   rw [if_pos c5] at H
   have c5b0 : decide ((ji3) < (l0.length : Int)) = true := decide_eq_true c5
   clear c5
   by_cases c6 : 0 ≤ x3_1
   rotate_left
   ·
    rw [if_neg c6] at H
    exact absurd H (by simp)
   rw [if_pos c6] at H
   have c6b0 : decide (0 ≤ x3_1) = true := decide_eq_true c6
   clear c6
   replace H := Option.bind_eq_some_iff.mp H
   obtain ⟨t146, A70, H⟩ := H
   have A7 := Aside0.mk A70
   clear A70
   by_cases c8 : t146 ≥ 0
   ·
    rw [if_pos c8] at H
    have c8b0 : decide (0 ≤ t146) = true := decide_eq_true c8
    clear c8
    obtain rfl := Option.some.inj H
    try go_wp2
    replace HB := Aside0.mk (below_drew1 HB.out)
    have p144 : 0 ≤ ((ji3) : Int) := of_decide_eq_true (by first | (with_reducible assumption) | assumption)
    have q144 : (ji3) < (l0.length : Int) := of_decide_eq_true (by first | (with_reducible assumption) | assumption)
    obtain ⟨ad144, e144, hx144_0, hx144_1, hx144_2, hx144_3, hx144_4, hx144_5, hx144_6, hx144_7, hx144_8, hx144_9⟩ := at_T39 HR0.out (ji3) p144 q144
    have hw144_9 := hx144_9
    have hw144_8 := hx144_8
    have hw144_7 := hx144_7
    have hw144_6 := hx144_6
    have hw144_5 := hx144_5
    have hw144_4 := hx144_4
    have hw144_3 := hx144_3
    have hw144_2 := hx144_2
    have hw144_1 := hx144_1
    have hw144_0 := hx144_0
    cases e144
    replace hx144_0 := cB_ HB hx144_0
    replace hx144_1 := cB_ HB hx144_1
    replace hx144_2 := cB_ HB hx144_2
    replace hx144_3 := cB_ HB hx144_3
    replace hx144_4 := cB_ HB hx144_4
    replace hx144_5 := cB_ HB hx144_5
    replace hx144_6 := cB_ HB hx144_6
    replace hx144_7 := cB_ HB hx144_7
    replace hx144_8 := cB_ HB hx144_8
    replace hx144_9 := cB_ HB hx144_9
    replace p144 := eq_true p144
    replace q144 := eq_true q144
    have p145 : 0 ≤ (x3_1 : Int) := of_decide_eq_true (by first | (with_reducible assumption) | assumption)
    have q145 : x3_1 < (l0.length : Int) := of_decide_eq_true (by first | (with_reducible assumption) | assumption)
    obtain ⟨ad145, e145, hx145_0, hx145_1, hx145_2, hx145_3, hx145_4, hx145_5, hx145_6, hx145_7, hx145_8, hx145_9⟩ := at_T39 HR0.out x3_1 p145 q145
    have hw145_9 := hx145_9
    have hw145_8 := hx145_8
    have hw145_7 := hx145_7
    have hw145_6 := hx145_6
    have hw145_5 := hx145_5
    have hw145_4 := hx145_4
    have hw145_3 := hx145_3
    have hw145_2 := hx145_2
    have hw145_1 := hx145_1
    have hw145_0 := hx145_0
    obtain rfl : ad144 = ad145 := (by injection e145)
    replace hx145_0 := cB_ HB hx145_0
    replace hx145_1 := cB_ HB hx145_1
    replace hx145_2 := cB_ HB hx145_2
    replace hx145_3 := cB_ HB hx145_3
    replace hx145_4 := cB_ HB hx145_4
    replace hx145_5 := cB_ HB hx145_5
    replace hx145_6 := cB_ HB hx145_6
    replace hx145_7 := cB_ HB hx145_7
    replace hx145_8 := cB_ HB hx145_8
    replace hx145_9 := cB_ HB hx145_9
    replace p145 := eq_true p145
    replace q145 := eq_true q145
    refine start_ (n := 13) (S := fun w' => w'.cell? (ad144.add (((ji3)).toNat * 10)) = some (.string ((rd_T39 l0 (ji3)).f0.f0)) ∧ w'.cell? ⟨(ad144.add (((ji3)).toNat * 10)).block, (ad144.add (((ji3)).toNat * 10)).off + 1, none⟩ = some (.string ((rd_T39 l0 (ji3)).f0.f1)) ∧ w'.cell? ⟨(ad144.add (((ji3)).toNat * 10)).block, (ad144.add (((ji3)).toNat * 10)).off + 2, none⟩ = some (.int .i64 ((rd_T39 l0 (ji3)).f0.f2)) ∧ w'.cell? ⟨(ad144.add (((ji3)).toNat * 10)).block, (ad144.add (((ji3)).toNat * 10)).off + 3, none⟩ = some (.string ((rd_T39 l0 (ji3)).f0.f3)) ∧ w'.cell? ⟨(ad144.add (((ji3)).toNat * 10)).block, (ad144.add (((ji3)).toNat * 10)).off + 4, none⟩ = some (.int .i64 ((rd_T39 l0 (ji3)).f1.f0)) ∧ w'.cell? ⟨(ad144.add (((ji3)).toNat * 10)).block, (ad144.add (((ji3)).toNat * 10)).off + 5, none⟩ = some (.bool ((rd_T39 l0 (ji3)).f1.f1)) ∧ w'.cell? ⟨(ad144.add (((ji3)).toNat * 10)).block, (ad144.add (((ji3)).toNat * 10)).off + 6, none⟩ = some (.int .i64 ((rd_T39 l0 (ji3)).f1.f2)) ∧ w'.cell? ⟨(ad144.add (((ji3)).toNat * 10)).block, (ad144.add (((ji3)).toNat * 10)).off + 7, none⟩ = some (.int .i64 ((rd_T39 l0 (ji3)).f1.f3.f0)) ∧ w'.cell? ⟨(ad144.add (((ji3)).toNat * 10)).block, (ad144.add (((ji3)).toNat * 10)).off + 8, none⟩ = some (.int .i64 ((rd_T39 l0 (ji3)).f1.f3.f1)) ∧ w'.cell? ⟨(ad144.add (((ji3)).toNat * 10)).block, (ad144.add (((ji3)).toNat * 10)).off + 9, none⟩ = some (.string ((rd_T39 l0 (ji3)).f1.f3.f2)) ∧ w'.cell? (ad144.add ((x3_1).toNat * 10)) = some (.string ((rd_T39 l0 x3_1).f0.f0)) ∧ w'.cell? ⟨(ad144.add ((x3_1).toNat * 10)).block, (ad144.add ((x3_1).toNat * 10)).off + 1, none⟩ = some (.string ((rd_T39 l0 x3_1).f0.f1)) ∧ w'.cell? ⟨(ad144.add ((x3_1).toNat * 10)).block, (ad144.add ((x3_1).toNat * 10)).off + 2, none⟩ = some (.int .i64 ((rd_T39 l0 x3_1).f0.f2)) ∧ w'.cell? ⟨(ad144.add ((x3_1).toNat * 10)).block, (ad144.add ((x3_1).toNat * 10)).off + 3, none⟩ = some (.string ((rd_T39 l0 x3_1).f0.f3)) ∧ w'.cell? ⟨(ad144.add ((x3_1).toNat * 10)).block, (ad144.add ((x3_1).toNat * 10)).off + 4, none⟩ = some (.int .i64 ((rd_T39 l0 x3_1).f1.f0)) ∧ w'.cell? ⟨(ad144.add ((x3_1).toNat * 10)).block, (ad144.add ((x3_1).toNat * 10)).off + 5, none⟩ = some (.bool ((rd_T39 l0 x3_1).f1.f1)) ∧ w'.cell? ⟨(ad144.add ((x3_1).toNat * 10)).block, (ad144.add ((x3_1).toNat * 10)).off + 6, none⟩ = some (.int .i64 ((rd_T39 l0 x3_1).f1.f2)) ∧ w'.cell? ⟨(ad144.add ((x3_1).toNat * 10)).block, (ad144.add ((x3_1).toNat * 10)).off + 7, none⟩ = some (.int .i64 ((rd_T39 l0 x3_1).f1.f3.f0)) ∧ w'.cell? ⟨(ad144.add ((x3_1).toNat * 10)).block, (ad144.add ((x3_1).toNat * 10)).off + 8, none⟩ = some (.int .i64 ((rd_T39 l0 x3_1).f1.f3.f1)) ∧ w'.cell? ⟨(ad144.add ((x3_1).toNat * 10)).block, (ad144.add ((x3_1).toNat * 10)).off + 9, none⟩ = some (.string ((rd_T39 l0 x3_1).f1.f3.f2))) (ds := []) (tf_ 0 13) (by kernel_rfl) rfl rfl ⟨((HB.out.cell (World.block_lt_of_cell? w _ hw144_0)).trans hw144_0), ((HB.out.cell (World.block_lt_of_cell? w _ hw144_1)).trans hw144_1), ((HB.out.cell (World.block_lt_of_cell? w _ hw144_2)).trans hw144_2), ((HB.out.cell (World.block_lt_of_cell? w _ hw144_3)).trans hw144_3), ((HB.out.cell (World.block_lt_of_cell? w _ hw144_4)).trans hw144_4), ((HB.out.cell (World.block_lt_of_cell? w _ hw144_5)).trans hw144_5), ((HB.out.cell (World.block_lt_of_cell? w _ hw144_6)).trans hw144_6), ((HB.out.cell (World.block_lt_of_cell? w _ hw144_7)).trans hw144_7), ((HB.out.cell (World.block_lt_of_cell? w _ hw144_8)).trans hw144_8), ((HB.out.cell (World.block_lt_of_cell? w _ hw144_9)).trans hw144_9), ((HB.out.cell (World.block_lt_of_cell? w _ hw145_0)).trans hw145_0), ((HB.out.cell (World.block_lt_of_cell? w _ hw145_1)).trans hw145_1), ((HB.out.cell (World.block_lt_of_cell? w _ hw145_2)).trans hw145_2), ((HB.out.cell (World.block_lt_of_cell? w _ hw145_3)).trans hw145_3), ((HB.out.cell (World.block_lt_of_cell? w _ hw145_4)).trans hw145_4), ((HB.out.cell (World.block_lt_of_cell? w _ hw145_5)).trans hw145_5), ((HB.out.cell (World.block_lt_of_cell? w _ hw145_6)).trans hw145_6), ((HB.out.cell (World.block_lt_of_cell? w _ hw145_7)).trans hw145_7), ((HB.out.cell (World.block_lt_of_cell? w _ hw145_8)).trans hw145_8), ((HB.out.cell (World.block_lt_of_cell? w _ hw145_9)).trans hw145_9)⟩ (fun hHeld => ?_); refine with_tabW cell_Sorted.tab4 cell_Sorted.bits4 (fun HT_ HW_ => ?_)
    generalize wr.drew = w9 at HB hx144_0 hx144_1 hx144_2 hx144_3 hx144_4 hx144_5 hx144_6 hx144_7 hx144_8 hx144_9 hx145_0 hx145_1 hx145_2 hx145_3 hx145_4 hx145_5 hx145_6 hx145_7 hx145_8 hx145_9 hHeld ⊢
    refine pure_ (i := 0) (N := some 10) (v := ?_) (a' := ?_) (tf_ 1 12) rfl rfl (any_of HT_.out (by kernel_rfl)) (fun _ _ _ h => h) (Or.inl ⟨by rfl, ?_⟩) ?_ ?_
    rotate_left; · (intro w'; go_simp; with_reducible rfl)
    rotate_left; · (simp only [Act.put, sT_, sO_, sN_, i64_w, i32_w]; rfl)
    refine pure_ (i := 1) (N := some 11) (v := ?_) (a' := ?_) (tf_ 2 11) rfl rfl (any_of HT_.out (by kernel_rfl)) (fun _ _ _ h => h) (Or.inl ⟨by rfl, ?_⟩) ?_ ?_
    rotate_left; · (intro w'; go_simp; with_reducible rfl)
    rotate_left; · (simp only [Act.put, sT_, sO_, sN_, i64_w, i32_w]; rfl)
    refine pure_ (i := 2) (N := some 12) (v := ?_) (a' := ?_) (tf_ 3 10) rfl rfl (any_of HT_.out (by kernel_rfl)) (fun _ _ _ h => h) (Or.inl ⟨by rfl, ?_⟩) ?_ ?_
    rotate_left; · (intro w'; go_simp; with_reducible rfl)
    rotate_left; · (simp only [Act.put, sT_, sO_, sN_, i64_w, i32_w]; rfl)
    refine pure_ (i := 3) (N := some 13) (v := ?_) (a' := ?_) (tf_ 4 9) rfl rfl (any_of HT_.out (by kernel_rfl)) (fun _ _ _ h => h) (Or.inl ⟨by rfl, ?_⟩) ?_ ?_
    rotate_left; · (intro w'; go_simp; with_reducible rfl)
    rotate_left; · (simp only [Act.put, sT_, sO_, sN_, i64_w, i32_w]; rfl)
    refine pure_ (i := 4) (N := some 14) (v := ?_) (a' := ?_) (tf_ 5 8) rfl rfl (any_of HT_.out (by kernel_rfl)) (fun _ _ _ h => h) (Or.inl ⟨by rfl, ?_⟩) ?_ ?_
    rotate_left; · (intro w'; go_simp; with_reducible rfl)
    rotate_left; · (simp only [Act.put, sT_, sO_, sN_, i64_w, i32_w]; rfl)
    refine pure_ (i := 6) (N := some 16) (v := ?_) (a' := ?_) (tb_ 95 13) rfl rfl (any_of HT_.out (by kernel_rfl)) (fun _ _ _ h => h) (Or.inl ⟨by rfl, ?_⟩) ?_ ?_
    rotate_left; · (intro w'; go_simp; with_reducible rfl)
    rotate_left; · (simp only [Act.put, sT_, sO_, sN_, i64_w, i32_w]; rfl)
    refine pure_ (i := 7) (N := some 17) (v := ?_) (a' := ?_) (tb_ 223 13) rfl rfl (any_of HT_.out (by kernel_rfl)) (fun _ _ _ h => h) (Or.inl ⟨by rfl, ?_⟩) ?_ ?_
    rotate_left; · (intro w'; go_simp; with_reducible rfl)
    rotate_left; · (simp only [Act.put, sT_, sO_, sN_, i64_w, i32_w]; rfl)
    refine pure_ (i := 8) (N := some 18) (v := ?_) (a' := ?_) (tb_ 479 13) rfl rfl (any_of HT_.out (by kernel_rfl)) (fun _ _ _ h => h) (Or.inl ⟨by rfl, ?_⟩) ?_ ?_
    rotate_left; · (intro w'; go_simp; with_reducible rfl)
    rotate_left; · (simp only [Act.put, sT_, sO_, sN_, i64_w, i32_w]; rfl)
    refine pure_ (i := 9) (N := some 19) (v := ?_) (a' := ?_) (tb_ 991 13) rfl rfl (any_of HT_.out (by kernel_rfl)) (fun _ _ _ h => h) (Or.inl ⟨by rfl, ?_⟩) ?_ ?_
    rotate_left; · (intro w'; go_simp; with_reducible rfl)
    rotate_left; · (simp only [Act.put, sT_, sO_, sN_, i64_w, i32_w]; rfl)
    refine take_ (i := 5) (N := some 15) (v := ?_) (a' := ?_) (tf_ 10 3) rfl rfl (take_ofW HT_.out HW_.out (by kernel_rfl)) (fun _ _ _ h => h) (Or.inl ⟨by rfl, ?_⟩) hHeld ?_ ?_
    rotate_left; · (rintro w' ⟨s0, s1, s2, s3, s4, s5, s6, s7, s8, s9, s10, s11, s12, s13, s14, s15, s16, s17, s18, s19⟩; go_simp; with_reducible rfl)
    rotate_left; · (simp only [Act.put, sT_, sO_, sN_, i64_w, i32_w]; rfl)
    refine take_ (i := 10) (N := some 20) (v := ?_) (a' := ?_) (tf_ 11 2) rfl rfl (take_ofW HT_.out HW_.out (by kernel_rfl)) (fun _ _ _ h => h) (Or.inl ⟨by rfl, ?_⟩) hHeld ?_ ?_
    rotate_left; · (rintro w' ⟨s0, s1, s2, s3, s4, s5, s6, s7, s8, s9, s10, s11, s12, s13, s14, s15, s16, s17, s18, s19⟩; go_simp; with_reducible rfl)
    rotate_left; · (simp only [Act.put, sT_, sO_, sN_, i64_w, i32_w]; rfl)
    refine one_ (i := 11) (N := some 21) (tf_ 12 1) rfl rfl (one_of HT_.out (by kernel_rfl)) (by decide) (fun K hK => ?_)
    refine goes_ Try.func33 (by kernel_rfl) rfl #[.agg #[.string ((rd_T39 l0 (ji3)).f0.f0), .string ((rd_T39 l0 (ji3)).f0.f1), .int .i64 ((rd_T39 l0 (ji3)).f0.f2), .string ((rd_T39 l0 (ji3)).f0.f3)], .agg #[.string ((rd_T39 l0 x3_1).f0.f0), .string ((rd_T39 l0 x3_1).f0.f1), .int .i64 ((rd_T39 l0 x3_1).f0.f2), .string ((rd_T39 l0 x3_1).f0.f3)]] (by rfl) rfl rfl (by (try simp only [mT_, mC_, mN_]); first | done | (simp only [hji3]; rfl) | rfl | (simp only [List.length_drop, List.length_take]; rfl)) ?_
    with_reducible refine (key_Cmp.calls k1 ((rd_T39 l0 (ji3)).f0.f0) ((rd_T39 l0 (ji3)).f0.f1) ((rd_T39 l0 (ji3)).f0.f2) ((rd_T39 l0 (ji3)).f0.f3) ((rd_T39 l0 x3_1).f0.f0) ((rd_T39 l0 x3_1).f0.f1) ((rd_T39 l0 x3_1).f0.f2) ((rd_T39 l0 x3_1).f0.f3) t146 _ A7.out).mono ?_
    rintro e w10 ⟨rfl, hb⟩
    refine ⟨_, rfl, ?_⟩
    replace HB := Aside0.mk (below_step (kwW HB) hb)
    (try clear hb)
    (try clear hb2)
    (try clear hk)
    (try clear hi)
    refine hK.out _ _ ⟨((HB.out.cell (World.block_lt_of_cell? w _ hw144_0)).trans hw144_0), ((HB.out.cell (World.block_lt_of_cell? w _ hw144_1)).trans hw144_1), ((HB.out.cell (World.block_lt_of_cell? w _ hw144_2)).trans hw144_2), ((HB.out.cell (World.block_lt_of_cell? w _ hw144_3)).trans hw144_3), ((HB.out.cell (World.block_lt_of_cell? w _ hw144_4)).trans hw144_4), ((HB.out.cell (World.block_lt_of_cell? w _ hw144_5)).trans hw144_5), ((HB.out.cell (World.block_lt_of_cell? w _ hw144_6)).trans hw144_6), ((HB.out.cell (World.block_lt_of_cell? w _ hw144_7)).trans hw144_7), ((HB.out.cell (World.block_lt_of_cell? w _ hw144_8)).trans hw144_8), ((HB.out.cell (World.block_lt_of_cell? w _ hw144_9)).trans hw144_9), ((HB.out.cell (World.block_lt_of_cell? w _ hw145_0)).trans hw145_0), ((HB.out.cell (World.block_lt_of_cell? w _ hw145_1)).trans hw145_1), ((HB.out.cell (World.block_lt_of_cell? w _ hw145_2)).trans hw145_2), ((HB.out.cell (World.block_lt_of_cell? w _ hw145_3)).trans hw145_3), ((HB.out.cell (World.block_lt_of_cell? w _ hw145_4)).trans hw145_4), ((HB.out.cell (World.block_lt_of_cell? w _ hw145_5)).trans hw145_5), ((HB.out.cell (World.block_lt_of_cell? w _ hw145_6)).trans hw145_6), ((HB.out.cell (World.block_lt_of_cell? w _ hw145_7)).trans hw145_7), ((HB.out.cell (World.block_lt_of_cell? w _ hw145_8)).trans hw145_8), ((HB.out.cell (World.block_lt_of_cell? w _ hw145_9)).trans hw145_9)⟩ (fun hHeld => ?_)
    clear hK K
    refine norm_ (a' := ?_) ?_ ?_
    rotate_left
    ·
     show Act.put _ (some 21) _ = _
     simp only [Act.put, sT_, sO_, sN_, i64_w, i32_w]
     rfl
    refine pure_ (i := 12) (N := some 22) (v := ?_) (a' := ?_) (tf_ 13 0) rfl rfl (any_of HT_.out (by kernel_rfl)) (fun _ _ _ h => h) (Or.inl ⟨by rfl, ?_⟩) ?_ ?_
    rotate_left; · (intro w'; go_simp; with_reducible rfl)
    rotate_left; · (simp only [Act.put, sT_, sO_, sN_, i64_w, i32_w]; rfl)
    refine done_ (done_of HT_.out (by kernel_rfl)) ?_
    try go_wp2
    go_ret
    exact ⟨by first | rfl | (simp [errW_none, errW_some] <;> rfl) | (simp only [← hji3]; first | rfl | (simp [errW_none, errW_some] <;> rfl)) | (simp [*, errW_none, errW_some] <;> rfl), kwW HB⟩
   ·
    rw [if_neg c8] at H
    have c8b0 : decide (0 ≤ t146) = false := decide_eq_false c8
    clear c8
    have H' := Aside0.mk H
    clear H
    try go_wp2
    replace HB := Aside0.mk (below_drew1 HB.out)
    have p144 : 0 ≤ ((ji3) : Int) := of_decide_eq_true (by first | (with_reducible assumption) | assumption)
    have q144 : (ji3) < (l0.length : Int) := of_decide_eq_true (by first | (with_reducible assumption) | assumption)
    obtain ⟨ad144, e144, hx144_0, hx144_1, hx144_2, hx144_3, hx144_4, hx144_5, hx144_6, hx144_7, hx144_8, hx144_9⟩ := at_T39 HR0.out (ji3) p144 q144
    have hw144_9 := hx144_9
    have hw144_8 := hx144_8
    have hw144_7 := hx144_7
    have hw144_6 := hx144_6
    have hw144_5 := hx144_5
    have hw144_4 := hx144_4
    have hw144_3 := hx144_3
    have hw144_2 := hx144_2
    have hw144_1 := hx144_1
    have hw144_0 := hx144_0
    cases e144
    replace hx144_0 := cB_ HB hx144_0
    replace hx144_1 := cB_ HB hx144_1
    replace hx144_2 := cB_ HB hx144_2
    replace hx144_3 := cB_ HB hx144_3
    replace hx144_4 := cB_ HB hx144_4
    replace hx144_5 := cB_ HB hx144_5
    replace hx144_6 := cB_ HB hx144_6
    replace hx144_7 := cB_ HB hx144_7
    replace hx144_8 := cB_ HB hx144_8
    replace hx144_9 := cB_ HB hx144_9
    replace p144 := eq_true p144
    replace q144 := eq_true q144
    have p145 : 0 ≤ (x3_1 : Int) := of_decide_eq_true (by first | (with_reducible assumption) | assumption)
    have q145 : x3_1 < (l0.length : Int) := of_decide_eq_true (by first | (with_reducible assumption) | assumption)
    obtain ⟨ad145, e145, hx145_0, hx145_1, hx145_2, hx145_3, hx145_4, hx145_5, hx145_6, hx145_7, hx145_8, hx145_9⟩ := at_T39 HR0.out x3_1 p145 q145
    have hw145_9 := hx145_9
    have hw145_8 := hx145_8
    have hw145_7 := hx145_7
    have hw145_6 := hx145_6
    have hw145_5 := hx145_5
    have hw145_4 := hx145_4
    have hw145_3 := hx145_3
    have hw145_2 := hx145_2
    have hw145_1 := hx145_1
    have hw145_0 := hx145_0
    obtain rfl : ad144 = ad145 := (by injection e145)
    replace hx145_0 := cB_ HB hx145_0
    replace hx145_1 := cB_ HB hx145_1
    replace hx145_2 := cB_ HB hx145_2
    replace hx145_3 := cB_ HB hx145_3
    replace hx145_4 := cB_ HB hx145_4
    replace hx145_5 := cB_ HB hx145_5
    replace hx145_6 := cB_ HB hx145_6
    replace hx145_7 := cB_ HB hx145_7
    replace hx145_8 := cB_ HB hx145_8
    replace hx145_9 := cB_ HB hx145_9
    replace p145 := eq_true p145
    replace q145 := eq_true q145
    refine start_ (n := 13) (S := fun w' => w'.cell? (ad144.add (((ji3)).toNat * 10)) = some (.string ((rd_T39 l0 (ji3)).f0.f0)) ∧ w'.cell? ⟨(ad144.add (((ji3)).toNat * 10)).block, (ad144.add (((ji3)).toNat * 10)).off + 1, none⟩ = some (.string ((rd_T39 l0 (ji3)).f0.f1)) ∧ w'.cell? ⟨(ad144.add (((ji3)).toNat * 10)).block, (ad144.add (((ji3)).toNat * 10)).off + 2, none⟩ = some (.int .i64 ((rd_T39 l0 (ji3)).f0.f2)) ∧ w'.cell? ⟨(ad144.add (((ji3)).toNat * 10)).block, (ad144.add (((ji3)).toNat * 10)).off + 3, none⟩ = some (.string ((rd_T39 l0 (ji3)).f0.f3)) ∧ w'.cell? ⟨(ad144.add (((ji3)).toNat * 10)).block, (ad144.add (((ji3)).toNat * 10)).off + 4, none⟩ = some (.int .i64 ((rd_T39 l0 (ji3)).f1.f0)) ∧ w'.cell? ⟨(ad144.add (((ji3)).toNat * 10)).block, (ad144.add (((ji3)).toNat * 10)).off + 5, none⟩ = some (.bool ((rd_T39 l0 (ji3)).f1.f1)) ∧ w'.cell? ⟨(ad144.add (((ji3)).toNat * 10)).block, (ad144.add (((ji3)).toNat * 10)).off + 6, none⟩ = some (.int .i64 ((rd_T39 l0 (ji3)).f1.f2)) ∧ w'.cell? ⟨(ad144.add (((ji3)).toNat * 10)).block, (ad144.add (((ji3)).toNat * 10)).off + 7, none⟩ = some (.int .i64 ((rd_T39 l0 (ji3)).f1.f3.f0)) ∧ w'.cell? ⟨(ad144.add (((ji3)).toNat * 10)).block, (ad144.add (((ji3)).toNat * 10)).off + 8, none⟩ = some (.int .i64 ((rd_T39 l0 (ji3)).f1.f3.f1)) ∧ w'.cell? ⟨(ad144.add (((ji3)).toNat * 10)).block, (ad144.add (((ji3)).toNat * 10)).off + 9, none⟩ = some (.string ((rd_T39 l0 (ji3)).f1.f3.f2)) ∧ w'.cell? (ad144.add ((x3_1).toNat * 10)) = some (.string ((rd_T39 l0 x3_1).f0.f0)) ∧ w'.cell? ⟨(ad144.add ((x3_1).toNat * 10)).block, (ad144.add ((x3_1).toNat * 10)).off + 1, none⟩ = some (.string ((rd_T39 l0 x3_1).f0.f1)) ∧ w'.cell? ⟨(ad144.add ((x3_1).toNat * 10)).block, (ad144.add ((x3_1).toNat * 10)).off + 2, none⟩ = some (.int .i64 ((rd_T39 l0 x3_1).f0.f2)) ∧ w'.cell? ⟨(ad144.add ((x3_1).toNat * 10)).block, (ad144.add ((x3_1).toNat * 10)).off + 3, none⟩ = some (.string ((rd_T39 l0 x3_1).f0.f3)) ∧ w'.cell? ⟨(ad144.add ((x3_1).toNat * 10)).block, (ad144.add ((x3_1).toNat * 10)).off + 4, none⟩ = some (.int .i64 ((rd_T39 l0 x3_1).f1.f0)) ∧ w'.cell? ⟨(ad144.add ((x3_1).toNat * 10)).block, (ad144.add ((x3_1).toNat * 10)).off + 5, none⟩ = some (.bool ((rd_T39 l0 x3_1).f1.f1)) ∧ w'.cell? ⟨(ad144.add ((x3_1).toNat * 10)).block, (ad144.add ((x3_1).toNat * 10)).off + 6, none⟩ = some (.int .i64 ((rd_T39 l0 x3_1).f1.f2)) ∧ w'.cell? ⟨(ad144.add ((x3_1).toNat * 10)).block, (ad144.add ((x3_1).toNat * 10)).off + 7, none⟩ = some (.int .i64 ((rd_T39 l0 x3_1).f1.f3.f0)) ∧ w'.cell? ⟨(ad144.add ((x3_1).toNat * 10)).block, (ad144.add ((x3_1).toNat * 10)).off + 8, none⟩ = some (.int .i64 ((rd_T39 l0 x3_1).f1.f3.f1)) ∧ w'.cell? ⟨(ad144.add ((x3_1).toNat * 10)).block, (ad144.add ((x3_1).toNat * 10)).off + 9, none⟩ = some (.string ((rd_T39 l0 x3_1).f1.f3.f2))) (ds := []) (tf_ 0 13) (by kernel_rfl) rfl rfl ⟨((HB.out.cell (World.block_lt_of_cell? w _ hw144_0)).trans hw144_0), ((HB.out.cell (World.block_lt_of_cell? w _ hw144_1)).trans hw144_1), ((HB.out.cell (World.block_lt_of_cell? w _ hw144_2)).trans hw144_2), ((HB.out.cell (World.block_lt_of_cell? w _ hw144_3)).trans hw144_3), ((HB.out.cell (World.block_lt_of_cell? w _ hw144_4)).trans hw144_4), ((HB.out.cell (World.block_lt_of_cell? w _ hw144_5)).trans hw144_5), ((HB.out.cell (World.block_lt_of_cell? w _ hw144_6)).trans hw144_6), ((HB.out.cell (World.block_lt_of_cell? w _ hw144_7)).trans hw144_7), ((HB.out.cell (World.block_lt_of_cell? w _ hw144_8)).trans hw144_8), ((HB.out.cell (World.block_lt_of_cell? w _ hw144_9)).trans hw144_9), ((HB.out.cell (World.block_lt_of_cell? w _ hw145_0)).trans hw145_0), ((HB.out.cell (World.block_lt_of_cell? w _ hw145_1)).trans hw145_1), ((HB.out.cell (World.block_lt_of_cell? w _ hw145_2)).trans hw145_2), ((HB.out.cell (World.block_lt_of_cell? w _ hw145_3)).trans hw145_3), ((HB.out.cell (World.block_lt_of_cell? w _ hw145_4)).trans hw145_4), ((HB.out.cell (World.block_lt_of_cell? w _ hw145_5)).trans hw145_5), ((HB.out.cell (World.block_lt_of_cell? w _ hw145_6)).trans hw145_6), ((HB.out.cell (World.block_lt_of_cell? w _ hw145_7)).trans hw145_7), ((HB.out.cell (World.block_lt_of_cell? w _ hw145_8)).trans hw145_8), ((HB.out.cell (World.block_lt_of_cell? w _ hw145_9)).trans hw145_9)⟩ (fun hHeld => ?_); refine with_tabW cell_Sorted.tab4 cell_Sorted.bits4 (fun HT_ HW_ => ?_)
    generalize wr.drew = w11 at HB hx144_0 hx144_1 hx144_2 hx144_3 hx144_4 hx144_5 hx144_6 hx144_7 hx144_8 hx144_9 hx145_0 hx145_1 hx145_2 hx145_3 hx145_4 hx145_5 hx145_6 hx145_7 hx145_8 hx145_9 hHeld ⊢
    refine pure_ (i := 0) (N := some 10) (v := ?_) (a' := ?_) (tf_ 1 12) rfl rfl (any_of HT_.out (by kernel_rfl)) (fun _ _ _ h => h) (Or.inl ⟨by rfl, ?_⟩) ?_ ?_
    rotate_left; · (intro w'; go_simp; with_reducible rfl)
    rotate_left; · (simp only [Act.put, sT_, sO_, sN_, i64_w, i32_w]; rfl)
    refine pure_ (i := 1) (N := some 11) (v := ?_) (a' := ?_) (tf_ 2 11) rfl rfl (any_of HT_.out (by kernel_rfl)) (fun _ _ _ h => h) (Or.inl ⟨by rfl, ?_⟩) ?_ ?_
    rotate_left; · (intro w'; go_simp; with_reducible rfl)
    rotate_left; · (simp only [Act.put, sT_, sO_, sN_, i64_w, i32_w]; rfl)
    refine pure_ (i := 2) (N := some 12) (v := ?_) (a' := ?_) (tf_ 3 10) rfl rfl (any_of HT_.out (by kernel_rfl)) (fun _ _ _ h => h) (Or.inl ⟨by rfl, ?_⟩) ?_ ?_
    rotate_left; · (intro w'; go_simp; with_reducible rfl)
    rotate_left; · (simp only [Act.put, sT_, sO_, sN_, i64_w, i32_w]; rfl)
    refine pure_ (i := 3) (N := some 13) (v := ?_) (a' := ?_) (tf_ 4 9) rfl rfl (any_of HT_.out (by kernel_rfl)) (fun _ _ _ h => h) (Or.inl ⟨by rfl, ?_⟩) ?_ ?_
    rotate_left; · (intro w'; go_simp; with_reducible rfl)
    rotate_left; · (simp only [Act.put, sT_, sO_, sN_, i64_w, i32_w]; rfl)
    refine pure_ (i := 4) (N := some 14) (v := ?_) (a' := ?_) (tf_ 5 8) rfl rfl (any_of HT_.out (by kernel_rfl)) (fun _ _ _ h => h) (Or.inl ⟨by rfl, ?_⟩) ?_ ?_
    rotate_left; · (intro w'; go_simp; with_reducible rfl)
    rotate_left; · (simp only [Act.put, sT_, sO_, sN_, i64_w, i32_w]; rfl)
    refine pure_ (i := 6) (N := some 16) (v := ?_) (a' := ?_) (tb_ 95 13) rfl rfl (any_of HT_.out (by kernel_rfl)) (fun _ _ _ h => h) (Or.inl ⟨by rfl, ?_⟩) ?_ ?_
    rotate_left; · (intro w'; go_simp; with_reducible rfl)
    rotate_left; · (simp only [Act.put, sT_, sO_, sN_, i64_w, i32_w]; rfl)
    refine pure_ (i := 7) (N := some 17) (v := ?_) (a' := ?_) (tb_ 223 13) rfl rfl (any_of HT_.out (by kernel_rfl)) (fun _ _ _ h => h) (Or.inl ⟨by rfl, ?_⟩) ?_ ?_
    rotate_left; · (intro w'; go_simp; with_reducible rfl)
    rotate_left; · (simp only [Act.put, sT_, sO_, sN_, i64_w, i32_w]; rfl)
    refine pure_ (i := 8) (N := some 18) (v := ?_) (a' := ?_) (tb_ 479 13) rfl rfl (any_of HT_.out (by kernel_rfl)) (fun _ _ _ h => h) (Or.inl ⟨by rfl, ?_⟩) ?_ ?_
    rotate_left; · (intro w'; go_simp; with_reducible rfl)
    rotate_left; · (simp only [Act.put, sT_, sO_, sN_, i64_w, i32_w]; rfl)
    refine pure_ (i := 9) (N := some 19) (v := ?_) (a' := ?_) (tb_ 991 13) rfl rfl (any_of HT_.out (by kernel_rfl)) (fun _ _ _ h => h) (Or.inl ⟨by rfl, ?_⟩) ?_ ?_
    rotate_left; · (intro w'; go_simp; with_reducible rfl)
    rotate_left; · (simp only [Act.put, sT_, sO_, sN_, i64_w, i32_w]; rfl)
    refine take_ (i := 5) (N := some 15) (v := ?_) (a' := ?_) (tf_ 10 3) rfl rfl (take_ofW HT_.out HW_.out (by kernel_rfl)) (fun _ _ _ h => h) (Or.inl ⟨by rfl, ?_⟩) hHeld ?_ ?_
    rotate_left; · (rintro w' ⟨s0, s1, s2, s3, s4, s5, s6, s7, s8, s9, s10, s11, s12, s13, s14, s15, s16, s17, s18, s19⟩; go_simp; with_reducible rfl)
    rotate_left; · (simp only [Act.put, sT_, sO_, sN_, i64_w, i32_w]; rfl)
    refine take_ (i := 10) (N := some 20) (v := ?_) (a' := ?_) (tf_ 11 2) rfl rfl (take_ofW HT_.out HW_.out (by kernel_rfl)) (fun _ _ _ h => h) (Or.inl ⟨by rfl, ?_⟩) hHeld ?_ ?_
    rotate_left; · (rintro w' ⟨s0, s1, s2, s3, s4, s5, s6, s7, s8, s9, s10, s11, s12, s13, s14, s15, s16, s17, s18, s19⟩; go_simp; with_reducible rfl)
    rotate_left; · (simp only [Act.put, sT_, sO_, sN_, i64_w, i32_w]; rfl)
    refine one_ (i := 11) (N := some 21) (tf_ 12 1) rfl rfl (one_of HT_.out (by kernel_rfl)) (by decide) (fun K hK => ?_)
    refine goes_ Try.func33 (by kernel_rfl) rfl #[.agg #[.string ((rd_T39 l0 (ji3)).f0.f0), .string ((rd_T39 l0 (ji3)).f0.f1), .int .i64 ((rd_T39 l0 (ji3)).f0.f2), .string ((rd_T39 l0 (ji3)).f0.f3)], .agg #[.string ((rd_T39 l0 x3_1).f0.f0), .string ((rd_T39 l0 x3_1).f0.f1), .int .i64 ((rd_T39 l0 x3_1).f0.f2), .string ((rd_T39 l0 x3_1).f0.f3)]] (by rfl) rfl rfl (by (try simp only [mT_, mC_, mN_]); first | done | (simp only [hji3]; rfl) | rfl | (simp only [List.length_drop, List.length_take]; rfl)) ?_
    with_reducible refine (key_Cmp.calls k1 ((rd_T39 l0 (ji3)).f0.f0) ((rd_T39 l0 (ji3)).f0.f1) ((rd_T39 l0 (ji3)).f0.f2) ((rd_T39 l0 (ji3)).f0.f3) ((rd_T39 l0 x3_1).f0.f0) ((rd_T39 l0 x3_1).f0.f1) ((rd_T39 l0 x3_1).f0.f2) ((rd_T39 l0 x3_1).f0.f3) t146 _ A7.out).mono ?_
    rintro e w12 ⟨rfl, hb⟩
    refine ⟨_, rfl, ?_⟩
    replace HB := Aside0.mk (below_step (kwW HB) hb)
    (try clear hb)
    (try clear hb2)
    (try clear hk)
    (try clear hi)
    refine hK.out _ _ ⟨((HB.out.cell (World.block_lt_of_cell? w _ hw144_0)).trans hw144_0), ((HB.out.cell (World.block_lt_of_cell? w _ hw144_1)).trans hw144_1), ((HB.out.cell (World.block_lt_of_cell? w _ hw144_2)).trans hw144_2), ((HB.out.cell (World.block_lt_of_cell? w _ hw144_3)).trans hw144_3), ((HB.out.cell (World.block_lt_of_cell? w _ hw144_4)).trans hw144_4), ((HB.out.cell (World.block_lt_of_cell? w _ hw144_5)).trans hw144_5), ((HB.out.cell (World.block_lt_of_cell? w _ hw144_6)).trans hw144_6), ((HB.out.cell (World.block_lt_of_cell? w _ hw144_7)).trans hw144_7), ((HB.out.cell (World.block_lt_of_cell? w _ hw144_8)).trans hw144_8), ((HB.out.cell (World.block_lt_of_cell? w _ hw144_9)).trans hw144_9), ((HB.out.cell (World.block_lt_of_cell? w _ hw145_0)).trans hw145_0), ((HB.out.cell (World.block_lt_of_cell? w _ hw145_1)).trans hw145_1), ((HB.out.cell (World.block_lt_of_cell? w _ hw145_2)).trans hw145_2), ((HB.out.cell (World.block_lt_of_cell? w _ hw145_3)).trans hw145_3), ((HB.out.cell (World.block_lt_of_cell? w _ hw145_4)).trans hw145_4), ((HB.out.cell (World.block_lt_of_cell? w _ hw145_5)).trans hw145_5), ((HB.out.cell (World.block_lt_of_cell? w _ hw145_6)).trans hw145_6), ((HB.out.cell (World.block_lt_of_cell? w _ hw145_7)).trans hw145_7), ((HB.out.cell (World.block_lt_of_cell? w _ hw145_8)).trans hw145_8), ((HB.out.cell (World.block_lt_of_cell? w _ hw145_9)).trans hw145_9)⟩ (fun hHeld => ?_)
    clear hK K
    refine norm_ (a' := ?_) ?_ ?_
    rotate_left
    ·
     show Act.put _ (some 21) _ = _
     simp only [Act.put, sT_, sO_, sN_, i64_w, i32_w]
     rfl
    refine pure_ (i := 12) (N := some 22) (v := ?_) (a' := ?_) (tf_ 13 0) rfl rfl (any_of HT_.out (by kernel_rfl)) (fun _ _ _ h => h) (Or.inl ⟨by rfl, ?_⟩) ?_ ?_
    rotate_left; · (intro w'; go_simp; with_reducible rfl)
    rotate_left; · (simp only [Act.put, sT_, sO_, sN_, i64_w, i32_w]; rfl)
    refine done_ (done_of HT_.out (by kernel_rfl)) ?_
    try go_wp2
    go_roundg k1
    case measure => have := HK1.out; omega
    case rel => exact ⟨(wrap64 (x3_1 + 1)), (by first | rfl | (simp; done) | (simp [bne, *]; done)), H', ⟨by have := HK1.out; omega⟩, ⟨kwW HB⟩⟩
end Go.Proofs.Ytabiekkebdocnaa.Q
