/- Lemmas for this claim's walk: no condition of their own. -/
import Derived.Test.YtaedmofnhjaljaaKnSq
import Derived.Test.YtaedmofnhjaljaaKnQx0
import Derived.Test.YtaedmofnhjaljaaKnQx38
namespace Go.Proofs.Ytaedmofnhjaljaa.Q
open Go.RowKit Go.Proofs.YtaedmofnhjaljaaW.PrintWords Go.Proofs.YtaedmofnhjaljaaW.PrintLast Go.Proofs.YtaedmofnhjaljaaW.PrintMore
attribute [local go_sem] max2_int min2_int max_two min_two max_three min_three max_four min_four
set_option linter.unusedVariables false
set_option linter.unusedSimpArgs false
def skerryref05_Sorted.l0 : Nat → List (S29) → Int → Int → Option (Bool)
 | 0, _, _, _ => none
 | k + 1, x0, x5, x6 => if x6 < x5 then (if x6 > 0 then (if 0 ≤ (wrap64 (x6 - 1)) then (if (wrap64 (x6 - 1)) < (x0.length : Int) then (if 0 ≤ x6 then (if x6 < (x0.length : Int) then ((skerryref04_Cmp.f ((rd_T29 x0 (wrap64 (x6 - 1))).f0.f0) ((rd_T29 x0 (wrap64 (x6 - 1))).f0.f1) ((rd_T29 x0 (wrap64 (x6 - 1))).f0.f2) ((rd_T29 x0 (wrap64 (x6 - 1))).f0.f3) ((rd_T29 x0 x6).f0.f0) ((rd_T29 x0 x6).f0.f1) ((rd_T29 x0 x6).f0.f2) ((rd_T29 x0 x6).f0.f3)).bind fun t602 => (if t602 ≥ 0 then (some false) else (skerryref05_Sorted.l0 k x0 x5 (wrap64 (x6 + 1))))) else (none)) else (none)) else (none)) else (none)) else (skerryref05_Sorted.l0 k x0 x5 (wrap64 (x6 + 1)))) else (some true)
def skerryref05_Sorted.f (k : Nat) (l0 : List (S29)) : Option (Bool) := skerryref05_Sorted.l0 k l0 (l0.length : Int) 0
def skerryref05_Sorted.T4 : Bool × List (List Nat × List Nat) := (true, [([], []), ([0], [0]), ([1], [1]), ([2], [2]), ([2], [2]), ([4, 2], [2, 4]), ([3, 5, 2], [2, 3, 5]), ([6, 2], [2, 6]), ([7, 2], [2, 7]), ([2], [2]), ([2], [2]), ([9, 10, 2], [2, 9, 10]), ([11, 2], [2, 11]), ([12, 2], [2, 12]), ([8, 13, 2, 2], [2, 8, 13]), ([14, 2], [2, 14]), ([2, 15], [2, 15])])
def skerryref05_Sorted.B4 : List Nat := [0, 1, 3, 7, 7, 23, 63, 127, 255, 7, 7, 1543, 3591, 7687, 16383, 32767, 65535]
theorem skerryref05_Sorted.tab4 : rtab .any (opsOf Try.f28 4) = skerryref05_Sorted.T4 := by kernel_rfl
theorem skerryref05_Sorted.bits4 : waitsOk skerryref05_Sorted.T4.2 skerryref05_Sorted.B4 = true := by kernel_rfl
set_option maxHeartbeats 8000000 in
set_option maxRecDepth 100000 in
theorem skerryref05_Sorted.calls (k : Nat) (A0 : Option Addr) (c0 : Nat) (l0 : List (S29)) (r : Bool) (w : World) (hr0 : Kd.C k29 w A0 l0.length l0) (hc0 : l0.length ≤ c0) (h : skerryref05_Sorted.f k l0 = some r) :
  Calls Try.prog 28 #[.slice A0 l0.length c0] w fun e w' => e = .returned (.bool r) ∧ Below w.heap.size w w' := by
 have hu23 := Try.underlying23
 have HR0 := Aside0.mk hr0
 have HC0 := Aside0.mk hc0
 clear hr0 hc0
 have HB := Aside0.mk (Below.refl w.heap.size w)
 have H : (skerryref05_Sorted.l0 k l0 (l0.length : Int) 0) = some r := h
 clear h
 have H' := Aside0.mk H
 clear H
 go_enter Try.func28, Try.ntmps28
 go_wp2
 go_loopg [6] k (fun kq v6 w' => ∃ (x6_1 : Int), v6 = .int .i64 x6_1 ∧ Aside0 (skerryref05_Sorted.l0 kq l0 (l0.length : Int) x6_1 = some r) ∧ Aside0 (kq ≤ k) ∧ Aside0 (Below w.heap.size w w'))
 case atStart => exact ⟨(0), (by first | rfl | (simp; done) | (simp [bne, *]; done)), H', ⟨Nat.le_refl _⟩, ⟨kwW HB⟩⟩
 case round =>
  clear H'
  obtain ⟨x6_1, rfl, HA, HK1, HB⟩ := hrel
  cases gk with
  | zero => exact absurd HA.out (by simp [skerryref05_Sorted.l0])
  | succ k1 =>
   have H := HA.out
   clear HA
   simp only [skerryref05_Sorted.l0] at H
   by_cases c2 : x6_1 < (l0.length : Int)
   rotate_left
   ·
    rw [if_neg c2] at H
    have c2b0 : decide (x6_1 < (l0.length : Int)) = false := decide_eq_false c2
    clear c2
    obtain rfl := Option.some.inj H
    go_wp2
    go_ret
    exact ⟨by first | rfl | (simp <;> rfl) | (simp [*] <;> rfl), kwW HB⟩
   rw [if_pos c2] at H
   have c2b0 : decide (x6_1 < (l0.length : Int)) = true := decide_eq_true c2
   clear c2
   by_cases c3 : x6_1 > 0
   rotate_left
   ·
    rw [if_neg c3] at H
    have c3b0 : decide (0 < x6_1) = false := decide_eq_false c3
    clear c3
    have H' := Aside0.mk H
    clear H
    try go_wp2
    replace HB := Aside0.mk (below_drew1 HB.out)
    refine start_ (n := 17) (S := fun w' => True) (ds := []) (tf_ 0 17) (by kernel_rfl) rfl rfl trivial (fun hHeld => ?_); refine with_tabW skerryref05_Sorted.tab4 skerryref05_Sorted.bits4 (fun HT_ HW_ => ?_)
    generalize wr.drew = w15 at HB hHeld ⊢
    refine pure_ (i := 0) (N := some 9) (v := ?_) (a' := ?_) (tf_ 1 16) rfl rfl (any_of HT_.out (by kernel_rfl)) (fun _ _ _ h => h) (Or.inl ⟨by rfl, ?_⟩) ?_ ?_
    rotate_left; · (intro w'; go_simp; with_reducible rfl)
    rotate_left; · (simp only [Act.put, sT_, sO_, sN_, i64_w, i32_w]; rfl)
    refine pure_ (i := 1) (N := some 10) (v := ?_) (a' := ?_) (tf_ 2 15) rfl rfl (any_of HT_.out (by kernel_rfl)) (fun _ _ _ h => h) (Or.inl ⟨by rfl, ?_⟩) ?_ ?_
    rotate_left; · (intro w'; go_simp; with_reducible rfl)
    rotate_left; · (simp only [Act.put, sT_, sO_, sN_, i64_w, i32_w]; rfl)
    refine pure_ (i := 2) (N := some 11) (v := ?_) (a' := ?_) (tf_ 3 14) rfl rfl (any_of HT_.out (by kernel_rfl)) (fun _ _ _ h => h) (Or.inl ⟨by rfl, ?_⟩) ?_ ?_
    rotate_left; · (intro w'; go_simp; with_reducible rfl)
    rotate_left; · (simp only [Act.put, sT_, sO_, sN_, i64_w, i32_w]; rfl)
    refine pure_ (i := 3) (N := some 12) (v := undef) (a' := ?_) (tf_ 4 13) rfl rfl (any_of HT_.out (by kernel_rfl)) (fun _ _ _ h => h) (Or.inr ⟨by rfl, rfl⟩) ?_ ?_
    rotate_left
    ·
     simp only [Act.put, sT_, sO_, sN_, i64_w, i32_w]
     rfl
    refine pure_ (i := 4) (N := some 13) (v := undef) (a' := ?_) (tf_ 5 12) rfl rfl (any_of HT_.out (by kernel_rfl)) (fun _ _ _ h => h) (Or.inr ⟨by rfl, rfl⟩) ?_ ?_
    rotate_left
    ·
     simp only [Act.put, sT_, sO_, sN_, i64_w, i32_w]
     rfl
    refine pure_ (i := 5) (N := some 14) (v := undef) (a' := ?_) (tf_ 6 11) rfl rfl (any_of HT_.out (by kernel_rfl)) (fun _ _ _ h => h) (Or.inr ⟨by rfl, rfl⟩) ?_ ?_
    rotate_left
    ·
     simp only [Act.put, sT_, sO_, sN_, i64_w, i32_w]
     rfl
    refine pure_ (i := 6) (N := some 15) (v := undef) (a' := ?_) (tf_ 7 10) rfl rfl (any_of HT_.out (by kernel_rfl)) (fun _ _ _ h => h) (Or.inr ⟨by rfl, rfl⟩) ?_ ?_
    rotate_left
    ·
     simp only [Act.put, sT_, sO_, sN_, i64_w, i32_w]
     rfl
    refine pure_ (i := 7) (N := some 16) (v := undef) (a' := ?_) (tf_ 8 9) rfl rfl (any_of HT_.out (by kernel_rfl)) (fun _ _ _ h => h) (Or.inr ⟨by rfl, rfl⟩) ?_ ?_
    rotate_left
    ·
     simp only [Act.put, sT_, sO_, sN_, i64_w, i32_w]
     rfl
    refine pure_ (i := 8) (N := some 17) (v := undef) (a' := ?_) (tf_ 9 8) rfl rfl (any_of HT_.out (by kernel_rfl)) (fun _ _ _ h => h) (Or.inr ⟨by rfl, rfl⟩) ?_ ?_
    rotate_left
    ·
     simp only [Act.put, sT_, sO_, sN_, i64_w, i32_w]
     rfl
    refine pure_ (i := 9) (N := some 18) (v := undef) (a' := ?_) (tf_ 10 7) rfl rfl (any_of HT_.out (by kernel_rfl)) (fun _ _ _ h => h) (Or.inr ⟨by rfl, rfl⟩) ?_ ?_
    rotate_left
    ·
     simp only [Act.put, sT_, sO_, sN_, i64_w, i32_w]
     rfl
    refine pure_ (i := 10) (N := some 19) (v := undef) (a' := ?_) (tf_ 11 6) rfl rfl (any_of HT_.out (by kernel_rfl)) (fun _ _ _ h => h) (Or.inr ⟨by rfl, rfl⟩) ?_ ?_
    rotate_left
    ·
     simp only [Act.put, sT_, sO_, sN_, i64_w, i32_w]
     rfl
    refine pure_ (i := 11) (N := some 20) (v := undef) (a' := ?_) (tf_ 12 5) rfl rfl (any_of HT_.out (by kernel_rfl)) (fun _ _ _ h => h) (Or.inr ⟨by rfl, rfl⟩) ?_ ?_
    rotate_left
    ·
     simp only [Act.put, sT_, sO_, sN_, i64_w, i32_w]
     rfl
    refine pure_ (i := 12) (N := some 21) (v := undef) (a' := ?_) (tf_ 13 4) rfl rfl (any_of HT_.out (by kernel_rfl)) (fun _ _ _ h => h) (Or.inr ⟨by rfl, rfl⟩) ?_ ?_
    rotate_left
    ·
     simp only [Act.put, sT_, sO_, sN_, i64_w, i32_w]
     rfl
    refine pure_ (i := 13) (N := some 22) (v := undef) (a' := ?_) (tf_ 14 3) rfl rfl (any_of HT_.out (by kernel_rfl)) (fun _ _ _ h => h) (Or.inr ⟨by rfl, rfl⟩) ?_ ?_
    rotate_left
    ·
     simp only [Act.put, sT_, sO_, sN_, i64_w, i32_w]
     rfl
    refine pure_ (i := 14) (N := some 23) (v := undef) (a' := ?_) (tf_ 15 2) rfl rfl (any_of HT_.out (by kernel_rfl)) (fun _ _ _ h => h) (Or.inr ⟨by rfl, rfl⟩) ?_ ?_
    rotate_left
    ·
     simp only [Act.put, sT_, sO_, sN_, i64_w, i32_w]
     rfl
    refine pure_ (i := 15) (N := some 24) (v := undef) (a' := ?_) (tf_ 16 1) rfl rfl (any_of HT_.out (by kernel_rfl)) (fun _ _ _ h => h) (Or.inr ⟨by rfl, rfl⟩) ?_ ?_
    rotate_left
    ·
     simp only [Act.put, sT_, sO_, sN_, i64_w, i32_w]
     rfl
    refine pure_ (i := 16) (N := some 25) (v := ?_) (a' := ?_) (tf_ 17 0) rfl rfl (any_of HT_.out (by kernel_rfl)) (fun _ _ _ h => h) (Or.inl ⟨by rfl, ?_⟩) ?_ ?_
    rotate_left; · (intro w'; go_simp; with_reducible rfl)
    rotate_left; · (simp only [Act.put, sT_, sO_, sN_, i64_w, i32_w]; rfl)
    refine done_ (done_of HT_.out (by kernel_rfl)) ?_
    try go_wp2
    go_roundg k1
    case measure => have := HK1.out; omega
    case rel => exact ⟨(wrap64 (x6_1 + 1)), (by first | rfl | (simp; done) | (simp [bne, *]; done)), H', ⟨by have := HK1.out; omega⟩, ⟨kwW HB⟩⟩
   rw [if_pos c3] at H
   have c3b0 : decide (0 < x6_1) = true := decide_eq_true c3
   clear c3
   obtain ⟨ji4, hji4⟩ : ∃ j_ : Int, (wrap64 (x6_1 - 1)) = j_ := ⟨_, rfl⟩
   replace H : (if 0 ≤ (ji4) then (if (ji4) < (l0.length : Int) then (if 0 ≤ x6_1 then (if x6_1 < (l0.length : Int) then ((skerryref04_Cmp.f ((rd_T29 l0 (ji4)).f0.f0) ((rd_T29 l0 (ji4)).f0.f1) ((rd_T29 l0 (ji4)).f0.f2) ((rd_T29 l0 (ji4)).f0.f3) ((rd_T29 l0 x6_1).f0.f0) ((rd_T29 l0 x6_1).f0.f1) ((rd_T29 l0 x6_1).f0.f2) ((rd_T29 l0 x6_1).f0.f3)).bind fun t602 => (if t602 ≥ 0 then (some false) else (skerryref05_Sorted.l0 k1 l0 (l0.length : Int) (wrap64 (x6_1 + 1))))) else (none)) else (none)) else (none)) else (none)) = some r := by first | (rw [hji4] at H; exact H) | (simp only [hji4] at H ⊢; exact H)
   have hji4w : (IntKind.i64.wrap (x6_1 - 1)) = ji4 := (i64_w _).trans hji4
   by_cases c5 : 0 ≤ (ji4)
   rotate_left
   ·
    rw [if_neg c5] at H
    exact absurd H (by simp)
   rw [if_pos c5] at H
   have c5b0 : decide (0 ≤ (ji4)) = true := decide_eq_true c5
   clear c5
   by_cases c6 : (ji4) < (l0.length : Int)
   rotate_left
   ·
    rw [if_neg c6] at H
    exact absurd H (by simp)
   rw [if_pos c6] at H
   have c6b0 : decide ((ji4) < (l0.length : Int)) = true := decide_eq_true c6
   clear c6
   by_cases c7 : 0 ≤ x6_1
   rotate_left
   ·
    rw [if_neg c7] at H
    exact absurd H (by simp)
   rw [if_pos c7] at H
   have c7b0 : decide (0 ≤ x6_1) = true := decide_eq_true c7
   clear c7
   by_cases c8 : x6_1 < (l0.length : Int)
   rotate_left
   ·
    rw [if_neg c8] at H
    exact absurd H (by simp)
   rw [if_pos c8] at H
   have c8b0 : decide (x6_1 < (l0.length : Int)) = true := decide_eq_true c8
   clear c8
   replace H := Option.bind_eq_some_iff.mp H
   obtain ⟨t602, A90, H⟩ := H
   have A9 := Aside0.mk A90
   clear A90
   by_cases c10 : t602 ≥ 0
   ·
    rw [if_pos c10] at H
    have c10b0 : decide (0 ≤ t602) = true := decide_eq_true c10
    clear c10
    obtain rfl := Option.some.inj H
    try go_wp2
    replace HB := Aside0.mk (below_drew1 HB.out)
    have p600 : 0 ≤ ((ji4) : Int) := of_decide_eq_true (by first | (with_reducible assumption) | assumption)
    have q600 : (ji4) < (l0.length : Int) := of_decide_eq_true (by first | (with_reducible assumption) | assumption)
    obtain ⟨ad600, e600, hx600_0, hx600_1, hx600_2, hx600_3, hx600_4, hx600_5, hx600_6, hx600_7, hx600_8, hx600_9⟩ := at_T29 HR0.out (ji4) p600 q600
    have hw600_9 := hx600_9
    have hw600_8 := hx600_8
    have hw600_7 := hx600_7
    have hw600_6 := hx600_6
    have hw600_5 := hx600_5
    have hw600_4 := hx600_4
    have hw600_3 := hx600_3
    have hw600_2 := hx600_2
    have hw600_1 := hx600_1
    have hw600_0 := hx600_0
    cases e600
    replace hx600_0 := cB_ HB hx600_0
    replace hx600_1 := cB_ HB hx600_1
    replace hx600_2 := cB_ HB hx600_2
    replace hx600_3 := cB_ HB hx600_3
    replace hx600_4 := cB_ HB hx600_4
    replace hx600_5 := cB_ HB hx600_5
    replace hx600_6 := cB_ HB hx600_6
    replace hx600_7 := cB_ HB hx600_7
    replace hx600_8 := cB_ HB hx600_8
    replace hx600_9 := cB_ HB hx600_9
    replace p600 := eq_true p600
    replace q600 := eq_true q600
    have p601 : 0 ≤ (x6_1 : Int) := of_decide_eq_true (by first | (with_reducible assumption) | assumption)
    have q601 : x6_1 < (l0.length : Int) := of_decide_eq_true (by first | (with_reducible assumption) | assumption)
    obtain ⟨ad601, e601, hx601_0, hx601_1, hx601_2, hx601_3, hx601_4, hx601_5, hx601_6, hx601_7, hx601_8, hx601_9⟩ := at_T29 HR0.out x6_1 p601 q601
    have hw601_9 := hx601_9
    have hw601_8 := hx601_8
    have hw601_7 := hx601_7
    have hw601_6 := hx601_6
    have hw601_5 := hx601_5
    have hw601_4 := hx601_4
    have hw601_3 := hx601_3
    have hw601_2 := hx601_2
    have hw601_1 := hx601_1
    have hw601_0 := hx601_0
    obtain rfl : ad600 = ad601 := (by injection e601)
    replace hx601_0 := cB_ HB hx601_0
    replace hx601_1 := cB_ HB hx601_1
    replace hx601_2 := cB_ HB hx601_2
    replace hx601_3 := cB_ HB hx601_3
    replace hx601_4 := cB_ HB hx601_4
    replace hx601_5 := cB_ HB hx601_5
    replace hx601_6 := cB_ HB hx601_6
    replace hx601_7 := cB_ HB hx601_7
    replace hx601_8 := cB_ HB hx601_8
    replace hx601_9 := cB_ HB hx601_9
    replace p601 := eq_true p601
    replace q601 := eq_true q601
    refine start_ (n := 17) (S := fun w' => w'.cell? (ad600.add (((ji4)).toNat * 10)) = some (.string ((rd_T29 l0 (ji4)).f0.f0)) ∧ w'.cell? ⟨(ad600.add (((ji4)).toNat * 10)).block, (ad600.add (((ji4)).toNat * 10)).off + 1, none⟩ = some (.string ((rd_T29 l0 (ji4)).f0.f1)) ∧ w'.cell? ⟨(ad600.add (((ji4)).toNat * 10)).block, (ad600.add (((ji4)).toNat * 10)).off + 2, none⟩ = some (.int .i64 ((rd_T29 l0 (ji4)).f0.f2)) ∧ w'.cell? ⟨(ad600.add (((ji4)).toNat * 10)).block, (ad600.add (((ji4)).toNat * 10)).off + 3, none⟩ = some (.string ((rd_T29 l0 (ji4)).f0.f3)) ∧ w'.cell? ⟨(ad600.add (((ji4)).toNat * 10)).block, (ad600.add (((ji4)).toNat * 10)).off + 4, none⟩ = some (.int .i64 ((rd_T29 l0 (ji4)).f1.f0)) ∧ w'.cell? ⟨(ad600.add (((ji4)).toNat * 10)).block, (ad600.add (((ji4)).toNat * 10)).off + 5, none⟩ = some (.bool ((rd_T29 l0 (ji4)).f1.f1)) ∧ w'.cell? ⟨(ad600.add (((ji4)).toNat * 10)).block, (ad600.add (((ji4)).toNat * 10)).off + 6, none⟩ = some (.int .i64 ((rd_T29 l0 (ji4)).f1.f2)) ∧ w'.cell? ⟨(ad600.add (((ji4)).toNat * 10)).block, (ad600.add (((ji4)).toNat * 10)).off + 7, none⟩ = some (.int .i64 ((rd_T29 l0 (ji4)).f1.f3.f0)) ∧ w'.cell? ⟨(ad600.add (((ji4)).toNat * 10)).block, (ad600.add (((ji4)).toNat * 10)).off + 8, none⟩ = some (.int .i64 ((rd_T29 l0 (ji4)).f1.f3.f1)) ∧ w'.cell? ⟨(ad600.add (((ji4)).toNat * 10)).block, (ad600.add (((ji4)).toNat * 10)).off + 9, none⟩ = some (.string ((rd_T29 l0 (ji4)).f1.f3.f2)) ∧ w'.cell? (ad600.add ((x6_1).toNat * 10)) = some (.string ((rd_T29 l0 x6_1).f0.f0)) ∧ w'.cell? ⟨(ad600.add ((x6_1).toNat * 10)).block, (ad600.add ((x6_1).toNat * 10)).off + 1, none⟩ = some (.string ((rd_T29 l0 x6_1).f0.f1)) ∧ w'.cell? ⟨(ad600.add ((x6_1).toNat * 10)).block, (ad600.add ((x6_1).toNat * 10)).off + 2, none⟩ = some (.int .i64 ((rd_T29 l0 x6_1).f0.f2)) ∧ w'.cell? ⟨(ad600.add ((x6_1).toNat * 10)).block, (ad600.add ((x6_1).toNat * 10)).off + 3, none⟩ = some (.string ((rd_T29 l0 x6_1).f0.f3)) ∧ w'.cell? ⟨(ad600.add ((x6_1).toNat * 10)).block, (ad600.add ((x6_1).toNat * 10)).off + 4, none⟩ = some (.int .i64 ((rd_T29 l0 x6_1).f1.f0)) ∧ w'.cell? ⟨(ad600.add ((x6_1).toNat * 10)).block, (ad600.add ((x6_1).toNat * 10)).off + 5, none⟩ = some (.bool ((rd_T29 l0 x6_1).f1.f1)) ∧ w'.cell? ⟨(ad600.add ((x6_1).toNat * 10)).block, (ad600.add ((x6_1).toNat * 10)).off + 6, none⟩ = some (.int .i64 ((rd_T29 l0 x6_1).f1.f2)) ∧ w'.cell? ⟨(ad600.add ((x6_1).toNat * 10)).block, (ad600.add ((x6_1).toNat * 10)).off + 7, none⟩ = some (.int .i64 ((rd_T29 l0 x6_1).f1.f3.f0)) ∧ w'.cell? ⟨(ad600.add ((x6_1).toNat * 10)).block, (ad600.add ((x6_1).toNat * 10)).off + 8, none⟩ = some (.int .i64 ((rd_T29 l0 x6_1).f1.f3.f1)) ∧ w'.cell? ⟨(ad600.add ((x6_1).toNat * 10)).block, (ad600.add ((x6_1).toNat * 10)).off + 9, none⟩ = some (.string ((rd_T29 l0 x6_1).f1.f3.f2))) (ds := []) (tf_ 0 17) (by kernel_rfl) rfl rfl ⟨((HB.out.cell (World.block_lt_of_cell? w _ hw600_0)).trans hw600_0), ((HB.out.cell (World.block_lt_of_cell? w _ hw600_1)).trans hw600_1), ((HB.out.cell (World.block_lt_of_cell? w _ hw600_2)).trans hw600_2), ((HB.out.cell (World.block_lt_of_cell? w _ hw600_3)).trans hw600_3), ((HB.out.cell (World.block_lt_of_cell? w _ hw600_4)).trans hw600_4), ((HB.out.cell (World.block_lt_of_cell? w _ hw600_5)).trans hw600_5), ((HB.out.cell (World.block_lt_of_cell? w _ hw600_6)).trans hw600_6), ((HB.out.cell (World.block_lt_of_cell? w _ hw600_7)).trans hw600_7), ((HB.out.cell (World.block_lt_of_cell? w _ hw600_8)).trans hw600_8), ((HB.out.cell (World.block_lt_of_cell? w _ hw600_9)).trans hw600_9), ((HB.out.cell (World.block_lt_of_cell? w _ hw601_0)).trans hw601_0), ((HB.out.cell (World.block_lt_of_cell? w _ hw601_1)).trans hw601_1), ((HB.out.cell (World.block_lt_of_cell? w _ hw601_2)).trans hw601_2), ((HB.out.cell (World.block_lt_of_cell? w _ hw601_3)).trans hw601_3), ((HB.out.cell (World.block_lt_of_cell? w _ hw601_4)).trans hw601_4), ((HB.out.cell (World.block_lt_of_cell? w _ hw601_5)).trans hw601_5), ((HB.out.cell (World.block_lt_of_cell? w _ hw601_6)).trans hw601_6), ((HB.out.cell (World.block_lt_of_cell? w _ hw601_7)).trans hw601_7), ((HB.out.cell (World.block_lt_of_cell? w _ hw601_8)).trans hw601_8), ((HB.out.cell (World.block_lt_of_cell? w _ hw601_9)).trans hw601_9)⟩ (fun hHeld => ?_); refine with_tabW skerryref05_Sorted.tab4 skerryref05_Sorted.bits4 (fun HT_ HW_ => ?_)
    generalize wr.drew = w11 at HB hx600_0 hx600_1 hx600_2 hx600_3 hx600_4 hx600_5 hx600_6 hx600_7 hx600_8 hx600_9 hx601_0 hx601_1 hx601_2 hx601_3 hx601_4 hx601_5 hx601_6 hx601_7 hx601_8 hx601_9 hHeld ⊢
    refine pure_ (i := 0) (N := some 9) (v := ?_) (a' := ?_) (tf_ 1 16) rfl rfl (any_of HT_.out (by kernel_rfl)) (fun _ _ _ h => h) (Or.inl ⟨by rfl, ?_⟩) ?_ ?_
    rotate_left; · (intro w'; go_simp; with_reducible rfl)
    rotate_left; · (simp only [Act.put, sT_, sO_, sN_, i64_w, i32_w]; rfl)
    refine pure_ (i := 1) (N := some 10) (v := ?_) (a' := ?_) (tf_ 2 15) rfl rfl (any_of HT_.out (by kernel_rfl)) (fun _ _ _ h => h) (Or.inl ⟨by rfl, ?_⟩) ?_ ?_
    rotate_left; · (intro w'; go_simp; with_reducible rfl)
    rotate_left; · (simp only [Act.put, sT_, sO_, sN_, i64_w, i32_w]; rfl)
    refine pure_ (i := 2) (N := some 11) (v := ?_) (a' := ?_) (tf_ 3 14) rfl rfl (any_of HT_.out (by kernel_rfl)) (fun _ _ _ h => h) (Or.inl ⟨by rfl, ?_⟩) ?_ ?_
    rotate_left; · (intro w'; go_simp; with_reducible rfl)
    rotate_left; · (simp only [Act.put, sT_, sO_, sN_, i64_w, i32_w]; rfl)
    refine pure_ (i := 3) (N := some 12) (v := ?_) (a' := ?_) (tf_ 4 13) rfl rfl (any_of HT_.out (by kernel_rfl)) (fun _ _ _ h => h) (Or.inl ⟨by rfl, ?_⟩) ?_ ?_
    rotate_left; · (intro w'; go_simp; with_reducible rfl)
    rotate_left; · (simp only [Act.put, sT_, sO_, sN_, i64_w, i32_w]; rfl)
    refine pure_ (i := 4) (N := some 13) (v := ?_) (a' := ?_) (tf_ 5 12) rfl rfl (any_of HT_.out (by kernel_rfl)) (fun _ _ _ h => h) (Or.inl ⟨by rfl, ?_⟩) ?_ ?_
    rotate_left; · (intro w'; go_simp; with_reducible rfl)
    rotate_left; · (simp only [Act.put, sT_, sO_, sN_, i64_w, i32_w]; rfl)
    refine pure_ (i := 5) (N := some 14) (v := ?_) (a' := ?_) (tf_ 6 11) rfl rfl (any_of HT_.out (by kernel_rfl)) (fun _ _ _ h => h) (Or.inl ⟨by rfl, ?_⟩) ?_ ?_
    rotate_left; · (intro w'; go_simp; with_reducible rfl)
    rotate_left; · (simp only [Act.put, sT_, sO_, sN_, i64_w, i32_w]; rfl)
    refine pure_ (i := 6) (N := some 15) (v := ?_) (a' := ?_) (tf_ 7 10) rfl rfl (any_of HT_.out (by kernel_rfl)) (fun _ _ _ h => h) (Or.inl ⟨by rfl, ?_⟩) ?_ ?_
    rotate_left; · (intro w'; go_simp; with_reducible rfl)
    rotate_left; · (simp only [Act.put, sT_, sO_, sN_, i64_w, i32_w]; rfl)
    refine pure_ (i := 7) (N := some 16) (v := ?_) (a' := ?_) (tf_ 8 9) rfl rfl (any_of HT_.out (by kernel_rfl)) (fun _ _ _ h => h) (Or.inl ⟨by rfl, ?_⟩) ?_ ?_
    rotate_left; · (intro w'; go_simp; with_reducible rfl)
    rotate_left; · (simp only [Act.put, sT_, sO_, sN_, i64_w, i32_w]; rfl)
    refine pure_ (i := 9) (N := some 18) (v := ?_) (a' := ?_) (tb_ 767 17) rfl rfl (any_of HT_.out (by kernel_rfl)) (fun _ _ _ h => h) (Or.inl ⟨by rfl, ?_⟩) ?_ ?_
    rotate_left; · (intro w'; go_simp; with_reducible rfl)
    rotate_left; · (simp only [Act.put, sT_, sO_, sN_, i64_w, i32_w]; rfl)
    refine pure_ (i := 10) (N := some 19) (v := ?_) (a' := ?_) (tb_ 1791 17) rfl rfl (any_of HT_.out (by kernel_rfl)) (fun _ _ _ h => h) (Or.inl ⟨by rfl, ?_⟩) ?_ ?_
    rotate_left; · (intro w'; go_simp; with_reducible rfl)
    rotate_left; · (simp only [Act.put, sT_, sO_, sN_, i64_w, i32_w]; rfl)
    refine pure_ (i := 11) (N := some 20) (v := ?_) (a' := ?_) (tb_ 3839 17) rfl rfl (any_of HT_.out (by kernel_rfl)) (fun _ _ _ h => h) (Or.inl ⟨by rfl, ?_⟩) ?_ ?_
    rotate_left; · (intro w'; go_simp; with_reducible rfl)
    rotate_left; · (simp only [Act.put, sT_, sO_, sN_, i64_w, i32_w]; rfl)
    refine pure_ (i := 12) (N := some 21) (v := ?_) (a' := ?_) (tb_ 7935 17) rfl rfl (any_of HT_.out (by kernel_rfl)) (fun _ _ _ h => h) (Or.inl ⟨by rfl, ?_⟩) ?_ ?_
    rotate_left; · (intro w'; go_simp; with_reducible rfl)
    rotate_left; · (simp only [Act.put, sT_, sO_, sN_, i64_w, i32_w]; rfl)
    refine take_ (i := 8) (N := some 17) (v := ?_) (a' := ?_) (tf_ 13 4) rfl rfl (take_ofW HT_.out HW_.out (by kernel_rfl)) (fun _ _ _ h => h) (Or.inl ⟨by rfl, ?_⟩) hHeld ?_ ?_
    rotate_left; · (rintro w' ⟨s0, s1, s2, s3, s4, s5, s6, s7, s8, s9, s10, s11, s12, s13, s14, s15, s16, s17, s18, s19⟩; go_simp; with_reducible rfl)
    rotate_left; · (simp only [Act.put, sT_, sO_, sN_, i64_w, i32_w]; rfl)
    refine take_ (i := 13) (N := some 22) (v := ?_) (a' := ?_) (tf_ 14 3) rfl rfl (take_ofW HT_.out HW_.out (by kernel_rfl)) (fun _ _ _ h => h) (Or.inl ⟨by rfl, ?_⟩) hHeld ?_ ?_
    rotate_left; · (rintro w' ⟨s0, s1, s2, s3, s4, s5, s6, s7, s8, s9, s10, s11, s12, s13, s14, s15, s16, s17, s18, s19⟩; go_simp; with_reducible rfl)
    rotate_left; · (simp only [Act.put, sT_, sO_, sN_, i64_w, i32_w]; rfl)
    refine one_ (i := 14) (N := some 23) (tf_ 15 2) rfl rfl (one_of HT_.out (by kernel_rfl)) (by decide) (fun K hK => ?_)
    refine goes_ Try.func25 (by kernel_rfl) rfl #[.agg #[.string ((rd_T29 l0 (ji4)).f0.f0), .string ((rd_T29 l0 (ji4)).f0.f1), .int .i64 ((rd_T29 l0 (ji4)).f0.f2), .string ((rd_T29 l0 (ji4)).f0.f3)], .agg #[.string ((rd_T29 l0 x6_1).f0.f0), .string ((rd_T29 l0 x6_1).f0.f1), .int .i64 ((rd_T29 l0 x6_1).f0.f2), .string ((rd_T29 l0 x6_1).f0.f3)]] (by rfl) rfl rfl (by (try simp only [mT_, mC_, mN_]); first | done | (simp only [hji4]; rfl) | rfl | (simp only [List.length_drop, List.length_take]; rfl)) ?_
    with_reducible refine (skerryref04_Cmp.calls ((rd_T29 l0 (ji4)).f0.f0) ((rd_T29 l0 (ji4)).f0.f1) ((rd_T29 l0 (ji4)).f0.f2) ((rd_T29 l0 (ji4)).f0.f3) ((rd_T29 l0 x6_1).f0.f0) ((rd_T29 l0 x6_1).f0.f1) ((rd_T29 l0 x6_1).f0.f2) ((rd_T29 l0 x6_1).f0.f3) t602 _ A9.out).mono ?_
    rintro e w12 ⟨rfl, hb⟩
    refine ⟨_, rfl, ?_⟩
    replace HB := Aside0.mk (below_step (kwW HB) hb)
    (try clear hb)
    (try clear hb2)
    (try clear hk)
    (try clear hi)
    refine hK.out _ _ ⟨((HB.out.cell (World.block_lt_of_cell? w _ hw600_0)).trans hw600_0), ((HB.out.cell (World.block_lt_of_cell? w _ hw600_1)).trans hw600_1), ((HB.out.cell (World.block_lt_of_cell? w _ hw600_2)).trans hw600_2), ((HB.out.cell (World.block_lt_of_cell? w _ hw600_3)).trans hw600_3), ((HB.out.cell (World.block_lt_of_cell? w _ hw600_4)).trans hw600_4), ((HB.out.cell (World.block_lt_of_cell? w _ hw600_5)).trans hw600_5), ((HB.out.cell (World.block_lt_of_cell? w _ hw600_6)).trans hw600_6), ((HB.out.cell (World.block_lt_of_cell? w _ hw600_7)).trans hw600_7), ((HB.out.cell (World.block_lt_of_cell? w _ hw600_8)).trans hw600_8), ((HB.out.cell (World.block_lt_of_cell? w _ hw600_9)).trans hw600_9), ((HB.out.cell (World.block_lt_of_cell? w _ hw601_0)).trans hw601_0), ((HB.out.cell (World.block_lt_of_cell? w _ hw601_1)).trans hw601_1), ((HB.out.cell (World.block_lt_of_cell? w _ hw601_2)).trans hw601_2), ((HB.out.cell (World.block_lt_of_cell? w _ hw601_3)).trans hw601_3), ((HB.out.cell (World.block_lt_of_cell? w _ hw601_4)).trans hw601_4), ((HB.out.cell (World.block_lt_of_cell? w _ hw601_5)).trans hw601_5), ((HB.out.cell (World.block_lt_of_cell? w _ hw601_6)).trans hw601_6), ((HB.out.cell (World.block_lt_of_cell? w _ hw601_7)).trans hw601_7), ((HB.out.cell (World.block_lt_of_cell? w _ hw601_8)).trans hw601_8), ((HB.out.cell (World.block_lt_of_cell? w _ hw601_9)).trans hw601_9)⟩ (fun hHeld => ?_)
    clear hK K
    refine norm_ (a' := ?_) ?_ ?_
    rotate_left
    ·
     show Act.put _ (some 23) _ = _
     simp only [Act.put, sT_, sO_, sN_, i64_w, i32_w]
     rfl
    refine pure_ (i := 15) (N := some 24) (v := ?_) (a' := ?_) (tf_ 16 1) rfl rfl (any_of HT_.out (by kernel_rfl)) (fun _ _ _ h => h) (Or.inl ⟨by rfl, ?_⟩) ?_ ?_
    rotate_left; · (intro w'; go_simp; with_reducible rfl)
    rotate_left; · (simp only [Act.put, sT_, sO_, sN_, i64_w, i32_w]; rfl)
    refine pure_ (i := 16) (N := some 25) (v := ?_) (a' := ?_) (tf_ 17 0) rfl rfl (any_of HT_.out (by kernel_rfl)) (fun _ _ _ h => h) (Or.inl ⟨by rfl, ?_⟩) ?_ ?_
    rotate_left; · (intro w'; go_simp; with_reducible rfl)
    rotate_left; · (simp only [Act.put, sT_, sO_, sN_, i64_w, i32_w]; rfl)
    refine done_ (done_of HT_.out (by kernel_rfl)) ?_
    try go_wp2
    go_ret
    exact ⟨by first | rfl | (simp [errW_none, errW_some] <;> rfl) | (simp only [← hji4]; first | rfl | (simp [errW_none, errW_some] <;> rfl)) | (simp [*, errW_none, errW_some] <;> rfl), kwW HB⟩
   ·
    rw [if_neg c10] at H
    have c10b0 : decide (0 ≤ t602) = false := decide_eq_false c10
    clear c10
    have H' := Aside0.mk H
    clear H
    try go_wp2
    replace HB := Aside0.mk (below_drew1 HB.out)
    have p600 : 0 ≤ ((ji4) : Int) := of_decide_eq_true (by first | (with_reducible assumption) | assumption)
    have q600 : (ji4) < (l0.length : Int) := of_decide_eq_true (by first | (with_reducible assumption) | assumption)
    obtain ⟨ad600, e600, hx600_0, hx600_1, hx600_2, hx600_3, hx600_4, hx600_5, hx600_6, hx600_7, hx600_8, hx600_9⟩ := at_T29 HR0.out (ji4) p600 q600
    have hw600_9 := hx600_9
    have hw600_8 := hx600_8
    have hw600_7 := hx600_7
    have hw600_6 := hx600_6
    have hw600_5 := hx600_5
    have hw600_4 := hx600_4
    have hw600_3 := hx600_3
    have hw600_2 := hx600_2
    have hw600_1 := hx600_1
    have hw600_0 := hx600_0
    cases e600
    replace hx600_0 := cB_ HB hx600_0
    replace hx600_1 := cB_ HB hx600_1
    replace hx600_2 := cB_ HB hx600_2
    replace hx600_3 := cB_ HB hx600_3
    replace hx600_4 := cB_ HB hx600_4
    replace hx600_5 := cB_ HB hx600_5
    replace hx600_6 := cB_ HB hx600_6
    replace hx600_7 := cB_ HB hx600_7
    replace hx600_8 := cB_ HB hx600_8
    replace hx600_9 := cB_ HB hx600_9
    replace p600 := eq_true p600
    replace q600 := eq_true q600
    have p601 : 0 ≤ (x6_1 : Int) := of_decide_eq_true (by first | (with_reducible assumption) | assumption)
    have q601 : x6_1 < (l0.length : Int) := of_decide_eq_true (by first | (with_reducible assumption) | assumption)
    obtain ⟨ad601, e601, hx601_0, hx601_1, hx601_2, hx601_3, hx601_4, hx601_5, hx601_6, hx601_7, hx601_8, hx601_9⟩ := at_T29 HR0.out x6_1 p601 q601
    have hw601_9 := hx601_9
    have hw601_8 := hx601_8
    have hw601_7 := hx601_7
    have hw601_6 := hx601_6
    have hw601_5 := hx601_5
    have hw601_4 := hx601_4
    have hw601_3 := hx601_3
    have hw601_2 := hx601_2
    have hw601_1 := hx601_1
    have hw601_0 := hx601_0
    obtain rfl : ad600 = ad601 := (by injection e601)
    replace hx601_0 := cB_ HB hx601_0
    replace hx601_1 := cB_ HB hx601_1
    replace hx601_2 := cB_ HB hx601_2
    replace hx601_3 := cB_ HB hx601_3
    replace hx601_4 := cB_ HB hx601_4
    replace hx601_5 := cB_ HB hx601_5
    replace hx601_6 := cB_ HB hx601_6
    replace hx601_7 := cB_ HB hx601_7
    replace hx601_8 := cB_ HB hx601_8
    replace hx601_9 := cB_ HB hx601_9
    replace p601 := eq_true p601
    replace q601 := eq_true q601
    refine start_ (n := 17) (S := fun w' => w'.cell? (ad600.add (((ji4)).toNat * 10)) = some (.string ((rd_T29 l0 (ji4)).f0.f0)) ∧ w'.cell? ⟨(ad600.add (((ji4)).toNat * 10)).block, (ad600.add (((ji4)).toNat * 10)).off + 1, none⟩ = some (.string ((rd_T29 l0 (ji4)).f0.f1)) ∧ w'.cell? ⟨(ad600.add (((ji4)).toNat * 10)).block, (ad600.add (((ji4)).toNat * 10)).off + 2, none⟩ = some (.int .i64 ((rd_T29 l0 (ji4)).f0.f2)) ∧ w'.cell? ⟨(ad600.add (((ji4)).toNat * 10)).block, (ad600.add (((ji4)).toNat * 10)).off + 3, none⟩ = some (.string ((rd_T29 l0 (ji4)).f0.f3)) ∧ w'.cell? ⟨(ad600.add (((ji4)).toNat * 10)).block, (ad600.add (((ji4)).toNat * 10)).off + 4, none⟩ = some (.int .i64 ((rd_T29 l0 (ji4)).f1.f0)) ∧ w'.cell? ⟨(ad600.add (((ji4)).toNat * 10)).block, (ad600.add (((ji4)).toNat * 10)).off + 5, none⟩ = some (.bool ((rd_T29 l0 (ji4)).f1.f1)) ∧ w'.cell? ⟨(ad600.add (((ji4)).toNat * 10)).block, (ad600.add (((ji4)).toNat * 10)).off + 6, none⟩ = some (.int .i64 ((rd_T29 l0 (ji4)).f1.f2)) ∧ w'.cell? ⟨(ad600.add (((ji4)).toNat * 10)).block, (ad600.add (((ji4)).toNat * 10)).off + 7, none⟩ = some (.int .i64 ((rd_T29 l0 (ji4)).f1.f3.f0)) ∧ w'.cell? ⟨(ad600.add (((ji4)).toNat * 10)).block, (ad600.add (((ji4)).toNat * 10)).off + 8, none⟩ = some (.int .i64 ((rd_T29 l0 (ji4)).f1.f3.f1)) ∧ w'.cell? ⟨(ad600.add (((ji4)).toNat * 10)).block, (ad600.add (((ji4)).toNat * 10)).off + 9, none⟩ = some (.string ((rd_T29 l0 (ji4)).f1.f3.f2)) ∧ w'.cell? (ad600.add ((x6_1).toNat * 10)) = some (.string ((rd_T29 l0 x6_1).f0.f0)) ∧ w'.cell? ⟨(ad600.add ((x6_1).toNat * 10)).block, (ad600.add ((x6_1).toNat * 10)).off + 1, none⟩ = some (.string ((rd_T29 l0 x6_1).f0.f1)) ∧ w'.cell? ⟨(ad600.add ((x6_1).toNat * 10)).block, (ad600.add ((x6_1).toNat * 10)).off + 2, none⟩ = some (.int .i64 ((rd_T29 l0 x6_1).f0.f2)) ∧ w'.cell? ⟨(ad600.add ((x6_1).toNat * 10)).block, (ad600.add ((x6_1).toNat * 10)).off + 3, none⟩ = some (.string ((rd_T29 l0 x6_1).f0.f3)) ∧ w'.cell? ⟨(ad600.add ((x6_1).toNat * 10)).block, (ad600.add ((x6_1).toNat * 10)).off + 4, none⟩ = some (.int .i64 ((rd_T29 l0 x6_1).f1.f0)) ∧ w'.cell? ⟨(ad600.add ((x6_1).toNat * 10)).block, (ad600.add ((x6_1).toNat * 10)).off + 5, none⟩ = some (.bool ((rd_T29 l0 x6_1).f1.f1)) ∧ w'.cell? ⟨(ad600.add ((x6_1).toNat * 10)).block, (ad600.add ((x6_1).toNat * 10)).off + 6, none⟩ = some (.int .i64 ((rd_T29 l0 x6_1).f1.f2)) ∧ w'.cell? ⟨(ad600.add ((x6_1).toNat * 10)).block, (ad600.add ((x6_1).toNat * 10)).off + 7, none⟩ = some (.int .i64 ((rd_T29 l0 x6_1).f1.f3.f0)) ∧ w'.cell? ⟨(ad600.add ((x6_1).toNat * 10)).block, (ad600.add ((x6_1).toNat * 10)).off + 8, none⟩ = some (.int .i64 ((rd_T29 l0 x6_1).f1.f3.f1)) ∧ w'.cell? ⟨(ad600.add ((x6_1).toNat * 10)).block, (ad600.add ((x6_1).toNat * 10)).off + 9, none⟩ = some (.string ((rd_T29 l0 x6_1).f1.f3.f2))) (ds := []) (tf_ 0 17) (by kernel_rfl) rfl rfl ⟨((HB.out.cell (World.block_lt_of_cell? w _ hw600_0)).trans hw600_0), ((HB.out.cell (World.block_lt_of_cell? w _ hw600_1)).trans hw600_1), ((HB.out.cell (World.block_lt_of_cell? w _ hw600_2)).trans hw600_2), ((HB.out.cell (World.block_lt_of_cell? w _ hw600_3)).trans hw600_3), ((HB.out.cell (World.block_lt_of_cell? w _ hw600_4)).trans hw600_4), ((HB.out.cell (World.block_lt_of_cell? w _ hw600_5)).trans hw600_5), ((HB.out.cell (World.block_lt_of_cell? w _ hw600_6)).trans hw600_6), ((HB.out.cell (World.block_lt_of_cell? w _ hw600_7)).trans hw600_7), ((HB.out.cell (World.block_lt_of_cell? w _ hw600_8)).trans hw600_8), ((HB.out.cell (World.block_lt_of_cell? w _ hw600_9)).trans hw600_9), ((HB.out.cell (World.block_lt_of_cell? w _ hw601_0)).trans hw601_0), ((HB.out.cell (World.block_lt_of_cell? w _ hw601_1)).trans hw601_1), ((HB.out.cell (World.block_lt_of_cell? w _ hw601_2)).trans hw601_2), ((HB.out.cell (World.block_lt_of_cell? w _ hw601_3)).trans hw601_3), ((HB.out.cell (World.block_lt_of_cell? w _ hw601_4)).trans hw601_4), ((HB.out.cell (World.block_lt_of_cell? w _ hw601_5)).trans hw601_5), ((HB.out.cell (World.block_lt_of_cell? w _ hw601_6)).trans hw601_6), ((HB.out.cell (World.block_lt_of_cell? w _ hw601_7)).trans hw601_7), ((HB.out.cell (World.block_lt_of_cell? w _ hw601_8)).trans hw601_8), ((HB.out.cell (World.block_lt_of_cell? w _ hw601_9)).trans hw601_9)⟩ (fun hHeld => ?_); refine with_tabW skerryref05_Sorted.tab4 skerryref05_Sorted.bits4 (fun HT_ HW_ => ?_)
    generalize wr.drew = w13 at HB hx600_0 hx600_1 hx600_2 hx600_3 hx600_4 hx600_5 hx600_6 hx600_7 hx600_8 hx600_9 hx601_0 hx601_1 hx601_2 hx601_3 hx601_4 hx601_5 hx601_6 hx601_7 hx601_8 hx601_9 hHeld ⊢
    refine pure_ (i := 0) (N := some 9) (v := ?_) (a' := ?_) (tf_ 1 16) rfl rfl (any_of HT_.out (by kernel_rfl)) (fun _ _ _ h => h) (Or.inl ⟨by rfl, ?_⟩) ?_ ?_
    rotate_left; · (intro w'; go_simp; with_reducible rfl)
    rotate_left; · (simp only [Act.put, sT_, sO_, sN_, i64_w, i32_w]; rfl)
    refine pure_ (i := 1) (N := some 10) (v := ?_) (a' := ?_) (tf_ 2 15) rfl rfl (any_of HT_.out (by kernel_rfl)) (fun _ _ _ h => h) (Or.inl ⟨by rfl, ?_⟩) ?_ ?_
    rotate_left; · (intro w'; go_simp; with_reducible rfl)
    rotate_left; · (simp only [Act.put, sT_, sO_, sN_, i64_w, i32_w]; rfl)
    refine pure_ (i := 2) (N := some 11) (v := ?_) (a' := ?_) (tf_ 3 14) rfl rfl (any_of HT_.out (by kernel_rfl)) (fun _ _ _ h => h) (Or.inl ⟨by rfl, ?_⟩) ?_ ?_
    rotate_left; · (intro w'; go_simp; with_reducible rfl)
    rotate_left; · (simp only [Act.put, sT_, sO_, sN_, i64_w, i32_w]; rfl)
    refine pure_ (i := 3) (N := some 12) (v := ?_) (a' := ?_) (tf_ 4 13) rfl rfl (any_of HT_.out (by kernel_rfl)) (fun _ _ _ h => h) (Or.inl ⟨by rfl, ?_⟩) ?_ ?_
    rotate_left; · (intro w'; go_simp; with_reducible rfl)
    rotate_left; · (simp only [Act.put, sT_, sO_, sN_, i64_w, i32_w]; rfl)
    refine pure_ (i := 4) (N := some 13) (v := ?_) (a' := ?_) (tf_ 5 12) rfl rfl (any_of HT_.out (by kernel_rfl)) (fun _ _ _ h => h) (Or.inl ⟨by rfl, ?_⟩) ?_ ?_
    rotate_left; · (intro w'; go_simp; with_reducible rfl)
    rotate_left; · (simp only [Act.put, sT_, sO_, sN_, i64_w, i32_w]; rfl)
    refine pure_ (i := 5) (N := some 14) (v := ?_) (a' := ?_) (tf_ 6 11) rfl rfl (any_of HT_.out (by kernel_rfl)) (fun _ _ _ h => h) (Or.inl ⟨by rfl, ?_⟩) ?_ ?_
    rotate_left; · (intro w'; go_simp; with_reducible rfl)
    rotate_left; · (simp only [Act.put, sT_, sO_, sN_, i64_w, i32_w]; rfl)
    refine pure_ (i := 6) (N := some 15) (v := ?_) (a' := ?_) (tf_ 7 10) rfl rfl (any_of HT_.out (by kernel_rfl)) (fun _ _ _ h => h) (Or.inl ⟨by rfl, ?_⟩) ?_ ?_
    rotate_left; · (intro w'; go_simp; with_reducible rfl)
    rotate_left; · (simp only [Act.put, sT_, sO_, sN_, i64_w, i32_w]; rfl)
    refine pure_ (i := 7) (N := some 16) (v := ?_) (a' := ?_) (tf_ 8 9) rfl rfl (any_of HT_.out (by kernel_rfl)) (fun _ _ _ h => h) (Or.inl ⟨by rfl, ?_⟩) ?_ ?_
    rotate_left; · (intro w'; go_simp; with_reducible rfl)
    rotate_left; · (simp only [Act.put, sT_, sO_, sN_, i64_w, i32_w]; rfl)
    refine pure_ (i := 9) (N := some 18) (v := ?_) (a' := ?_) (tb_ 767 17) rfl rfl (any_of HT_.out (by kernel_rfl)) (fun _ _ _ h => h) (Or.inl ⟨by rfl, ?_⟩) ?_ ?_
    rotate_left; · (intro w'; go_simp; with_reducible rfl)
    rotate_left; · (simp only [Act.put, sT_, sO_, sN_, i64_w, i32_w]; rfl)
    refine pure_ (i := 10) (N := some 19) (v := ?_) (a' := ?_) (tb_ 1791 17) rfl rfl (any_of HT_.out (by kernel_rfl)) (fun _ _ _ h => h) (Or.inl ⟨by rfl, ?_⟩) ?_ ?_
    rotate_left; · (intro w'; go_simp; with_reducible rfl)
    rotate_left; · (simp only [Act.put, sT_, sO_, sN_, i64_w, i32_w]; rfl)
    refine pure_ (i := 11) (N := some 20) (v := ?_) (a' := ?_) (tb_ 3839 17) rfl rfl (any_of HT_.out (by kernel_rfl)) (fun _ _ _ h => h) (Or.inl ⟨by rfl, ?_⟩) ?_ ?_
    rotate_left; · (intro w'; go_simp; with_reducible rfl)
    rotate_left; · (simp only [Act.put, sT_, sO_, sN_, i64_w, i32_w]; rfl)
    refine pure_ (i := 12) (N := some 21) (v := ?_) (a' := ?_) (tb_ 7935 17) rfl rfl (any_of HT_.out (by kernel_rfl)) (fun _ _ _ h => h) (Or.inl ⟨by rfl, ?_⟩) ?_ ?_
    rotate_left; · (intro w'; go_simp; with_reducible rfl)
    rotate_left; · (simp only [Act.put, sT_, sO_, sN_, i64_w, i32_w]; rfl)
    refine take_ (i := 8) (N := some 17) (v := ?_) (a' := ?_) (tf_ 13 4) rfl rfl (take_ofW HT_.out HW_.out (by kernel_rfl)) (fun _ _ _ h => h) (Or.inl ⟨by rfl, ?_⟩) hHeld ?_ ?_
    rotate_left; · (rintro w' ⟨s0, s1, s2, s3, s4, s5, s6, s7, s8, s9, s10, s11, s12, s13, s14, s15, s16, s17, s18, s19⟩; go_simp; with_reducible rfl)
    rotate_left; · (simp only [Act.put, sT_, sO_, sN_, i64_w, i32_w]; rfl)
    refine take_ (i := 13) (N := some 22) (v := ?_) (a' := ?_) (tf_ 14 3) rfl rfl (take_ofW HT_.out HW_.out (by kernel_rfl)) (fun _ _ _ h => h) (Or.inl ⟨by rfl, ?_⟩) hHeld ?_ ?_
    rotate_left; · (rintro w' ⟨s0, s1, s2, s3, s4, s5, s6, s7, s8, s9, s10, s11, s12, s13, s14, s15, s16, s17, s18, s19⟩; go_simp; with_reducible rfl)
    rotate_left; · (simp only [Act.put, sT_, sO_, sN_, i64_w, i32_w]; rfl)
    refine one_ (i := 14) (N := some 23) (tf_ 15 2) rfl rfl (one_of HT_.out (by kernel_rfl)) (by decide) (fun K hK => ?_)
    refine goes_ Try.func25 (by kernel_rfl) rfl #[.agg #[.string ((rd_T29 l0 (ji4)).f0.f0), .string ((rd_T29 l0 (ji4)).f0.f1), .int .i64 ((rd_T29 l0 (ji4)).f0.f2), .string ((rd_T29 l0 (ji4)).f0.f3)], .agg #[.string ((rd_T29 l0 x6_1).f0.f0), .string ((rd_T29 l0 x6_1).f0.f1), .int .i64 ((rd_T29 l0 x6_1).f0.f2), .string ((rd_T29 l0 x6_1).f0.f3)]] (by rfl) rfl rfl (by (try simp only [mT_, mC_, mN_]); first | done | (simp only [hji4]; rfl) | rfl | (simp only [List.length_drop, List.length_take]; rfl)) ?_
    with_reducible refine (skerryref04_Cmp.calls ((rd_T29 l0 (ji4)).f0.f0) ((rd_T29 l0 (ji4)).f0.f1) ((rd_T29 l0 (ji4)).f0.f2) ((rd_T29 l0 (ji4)).f0.f3) ((rd_T29 l0 x6_1).f0.f0) ((rd_T29 l0 x6_1).f0.f1) ((rd_T29 l0 x6_1).f0.f2) ((rd_T29 l0 x6_1).f0.f3) t602 _ A9.out).mono ?_
    rintro e w14 ⟨rfl, hb⟩
    refine ⟨_, rfl, ?_⟩
    replace HB := Aside0.mk (below_step (kwW HB) hb)
    (try clear hb)
    (try clear hb2)
    (try clear hk)
    (try clear hi)
    refine hK.out _ _ ⟨((HB.out.cell (World.block_lt_of_cell? w _ hw600_0)).trans hw600_0), ((HB.out.cell (World.block_lt_of_cell? w _ hw600_1)).trans hw600_1), ((HB.out.cell (World.block_lt_of_cell? w _ hw600_2)).trans hw600_2), ((HB.out.cell (World.block_lt_of_cell? w _ hw600_3)).trans hw600_3), ((HB.out.cell (World.block_lt_of_cell? w _ hw600_4)).trans hw600_4), ((HB.out.cell (World.block_lt_of_cell? w _ hw600_5)).trans hw600_5), ((HB.out.cell (World.block_lt_of_cell? w _ hw600_6)).trans hw600_6), ((HB.out.cell (World.block_lt_of_cell? w _ hw600_7)).trans hw600_7), ((HB.out.cell (World.block_lt_of_cell? w _ hw600_8)).trans hw600_8), ((HB.out.cell (World.block_lt_of_cell? w _ hw600_9)).trans hw600_9), ((HB.out.cell (World.block_lt_of_cell? w _ hw601_0)).trans hw601_0), ((HB.out.cell (World.block_lt_of_cell? w _ hw601_1)).trans hw601_1), ((HB.out.cell (World.block_lt_of_cell? w _ hw601_2)).trans hw601_2), ((HB.out.cell (World.block_lt_of_cell? w _ hw601_3)).trans hw601_3), ((HB.out.cell (World.block_lt_of_cell? w _ hw601_4)).trans hw601_4), ((HB.out.cell (World.block_lt_of_cell? w _ hw601_5)).trans hw601_5), ((HB.out.cell (World.block_lt_of_cell? w _ hw601_6)).trans hw601_6), ((HB.out.cell (World.block_lt_of_cell? w _ hw601_7)).trans hw601_7), ((HB.out.cell (World.block_lt_of_cell? w _ hw601_8)).trans hw601_8), ((HB.out.cell (World.block_lt_of_cell? w _ hw601_9)).trans hw601_9)⟩ (fun hHeld => ?_)
    clear hK K
    refine norm_ (a' := ?_) ?_ ?_
    rotate_left
    ·
     show Act.put _ (some 23) _ = _
     simp only [Act.put, sT_, sO_, sN_, i64_w, i32_w]
     rfl
    refine pure_ (i := 15) (N := some 24) (v := ?_) (a' := ?_) (tf_ 16 1) rfl rfl (any_of HT_.out (by kernel_rfl)) (fun _ _ _ h => h) (Or.inl ⟨by rfl, ?_⟩) ?_ ?_
    rotate_left; · (intro w'; go_simp; with_reducible rfl)
    rotate_left; · (simp only [Act.put, sT_, sO_, sN_, i64_w, i32_w]; rfl)
    refine pure_ (i := 16) (N := some 25) (v := ?_) (a' := ?_) (tf_ 17 0) rfl rfl (any_of HT_.out (by kernel_rfl)) (fun _ _ _ h => h) (Or.inl ⟨by rfl, ?_⟩) ?_ ?_
    rotate_left; · (intro w'; go_simp; with_reducible rfl)
    rotate_left; · (simp only [Act.put, sT_, sO_, sN_, i64_w, i32_w]; rfl)
    refine done_ (done_of HT_.out (by kernel_rfl)) ?_
    try go_wp2
    go_roundg k1
    case measure => have := HK1.out; omega
    case rel => exact ⟨(wrap64 (x6_1 + 1)), (by first | rfl | (simp; done) | (simp [bne, *]; done)), H', ⟨by have := HK1.out; omega⟩, ⟨kwW HB⟩⟩
end Go.Proofs.Ytaedmofnhjaljaa.Q
