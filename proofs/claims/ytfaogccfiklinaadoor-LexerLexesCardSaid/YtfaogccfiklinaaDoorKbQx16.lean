/- Lemmas for this claim's walk: no condition of their own. -/
import Derived.Test.YtfaogccfiklinaaDoorKbSq
import Derived.Test.YtfaogccfiklinaaDoorKbQx0
import Derived.Test.YtfaogccfiklinaaDoorKbJ12
namespace Go.Proofs.YtfaogccfiklinaaDoor.Q
open Go.RowKit Go.Proofs.YtfaogccfiklinaaDoorW.PrintWords Go.Proofs.YtfaogccfiklinaaDoorW.PrintLast Go.Proofs.YtfaogccfiklinaaDoorW.PrintMore
attribute [local go_sem] max2_int min2_int max_two min_two max_three min_three max_four min_four
set_option linter.unusedVariables false
set_option linter.unusedSimpArgs false
mutual
def skerryref18_number.j0 : Nat → ByteArray → Int → Int → Bool → Option (Int × ByteArray × Int × Int × ByteArray × Int × Int × Int)
 | 0, _, _, _, _ => none
 | k + 1, x0, x1, x6, x7 => skerryref18_number.l0 k x0 x1 x6 x7 0
def skerryref18_number.j4 : Nat → Int → Int → Bool → Int → Option (Int × ByteArray × Int × Int × ByteArray × Int × Int × Int)
 | 0, _, _, _, _ => none
 | k + 1, x1, x6, x7, x8 => if x7 = true then (some (4, (⟨#[]⟩ : ByteArray), 1, x8, (⟨#[]⟩ : ByteArray), x1, x6, (-1))) else (if x8 = (-9223372036854775808) then (some (0, (⟨#[]⟩ : ByteArray), 0, 0, (⟨#[]⟩ : ByteArray), 0, 0, x1)) else (some (4, (⟨#[]⟩ : ByteArray), 1, wrap64 (-x8), (⟨#[]⟩ : ByteArray), x1, x6, (-1))))
def skerryref18_number.l0 : Nat → ByteArray → Int → Int → Bool → Int → Option (Int × ByteArray × Int × Int × ByteArray × Int × Int × Int)
 | 0, _, _, _, _, _ => none
 | k + 1, x0, x1, x6, x7, x8 => if x6 < (x0.size : Int) then (if 0 ≤ x6 then (if (bt x0 x6) = 95 then (if (wrap64 (x6 + 1)) < (x0.size : Int) then (if 0 ≤ (wrap64 (x6 + 1)) then ((skerryref18_digit.f (bt x0 (wrap64 (x6 + 1)))).bind fun t250 => (skerryref18_number.j2 k x0 x1 x6 x7 x8 t250)) else (none)) else (skerryref18_number.j2 k x0 x1 x6 x7 x8 false)) else (skerryref18_number.j2 k x0 x1 x6 x7 x8 false)) else (none)) else (skerryref18_number.j4 k x1 x6 x7 x8)
def skerryref18_number.j2 : Nat → ByteArray → Int → Int → Bool → Int → Bool → Option (Int × ByteArray × Int × Int × ByteArray × Int × Int × Int)
 | 0, _, _, _, _, _, _ => none
 | k + 1, x0, x1, x6, x7, x8, x39 => if x39 = true then (skerryref18_number.j3 k x0 x1 (wrap64 (x6 + 1)) x7 x8) else (skerryref18_number.j3 k x0 x1 x6 x7 x8)
def skerryref18_number.j3 : Nat → ByteArray → Int → Int → Bool → Int → Option (Int × ByteArray × Int × Int × ByteArray × Int × Int × Int)
 | 0, _, _, _, _, _ => none
 | k + 1, x0, x1, x6, x7, x8 => if 0 ≤ x6 then (if x6 < (x0.size : Int) then ((skerryref18_digit.f (bt x0 x6)).bind fun t251 => (if t251 = true then (if x8 < (Int.tdiv ((-9223372036854775808) + (((bt x0 x6) - 48) % 256)) 10) then (some (0, (⟨#[]⟩ : ByteArray), 0, 0, (⟨#[]⟩ : ByteArray), 0, 0, x1)) else (skerryref18_number.l0 k x0 x1 (wrap64 (x6 + 1)) x7 (wrap64 ((wrap64 (10 * x8)) - (((bt x0 x6) - 48) % 256))))) else (skerryref18_number.j4 k x1 x6 x7 x8))) else (none)) else (none)
end
def skerryref18_number.f (k : Nat) (a0 : ByteArray) (a1 : Int) : Option (Int × ByteArray × Int × Int × ByteArray × Int × Int × Int) := if 0 ≤ a1 then (if a1 < (a0.size : Int) then (if (bt a0 a1) = 45 then (skerryref18_number.j0 k a0 a1 (wrap64 (a1 + 1)) ((bt a0 a1) == 45)) else (skerryref18_number.j0 k a0 a1 a1 ((bt a0 a1) == 45))) else (none)) else (none)
set_option maxHeartbeats 8000000 in
set_option maxRecDepth 100000 in
theorem skerryref18_number.calls (k : Nat) (a0 : ByteArray) (a1 : Int) (r1 : Int) (r2 : ByteArray) (r3 : Int) (r4 : Int) (r5 : ByteArray) (r6 : Int) (r7 : Int) (r8 : Int) (w : World) (h : skerryref18_number.f k a0 a1 = some (r1, r2, r3, r4, r5, r6, r7, r8)) :
  Calls Tryd.prog 37 #[.string a0, .int .i64 a1] w fun e w' => e = .returned (.tuple #[.agg #[.int .i64 r1, .string r2, .int .i64 r3, .int .i64 r4, .string r5, .int .i64 r6, .int .i64 r7], .int .i64 r8]) ∧ Below w.heap.size w w' := by
 have hu29 := Tryd.underlying29
 have hu23 := Tryd.underlying23
 have HB := Aside0.mk (Below.refl w.heap.size w)
 have H : (if 0 ≤ a1 then (if a1 < (a0.size : Int) then (if (bt a0 a1) = 45 then (skerryref18_number.j0 k a0 a1 (wrap64 (a1 + 1)) ((bt a0 a1) == 45)) else (skerryref18_number.j0 k a0 a1 a1 ((bt a0 a1) == 45))) else (none)) else (none)) = some (r1, r2, r3, r4, r5, r6, r7, r8) := h
 clear h
 by_cases c3 : 0 ≤ a1
 rotate_left
 ·
  rw [if_neg c3] at H
  exact absurd H (by simp)
 rw [if_pos c3] at H
 have c3b0 : decide (0 ≤ a1) = true := decide_eq_true c3
 clear c3
 by_cases c4 : a1 < (a0.size : Int)
 rotate_left
 ·
  rw [if_neg c4] at H
  exact absurd H (by simp)
 rw [if_pos c4] at H
 have c4b0 : decide (a1 < (a0.size : Int)) = true := decide_eq_true c4
 clear c4
 have HC6 := Aside0.mk H
 clear H
 go_enter Tryd.func37, Tryd.ntmps37
 go_upto_if 15 with (first | ((with_reducible refine gate_dst (N := 4) rfl ?_); (try (refine gate_guard (by rfl) ?_; dsimp only)); refine box_event ?hg (N := 4) ?hd (cs := #[.int .i64 0, .string (⟨#[]⟩ : ByteArray), .int .i64 0, .int .i64 0, .string (⟨#[]⟩ : ByteArray), .int .i64 0, .int .i64 0]) (t := 29) ?hr ?_; (case hd => rfl); (case hg => rfl); (case hr => first | (go_simp; done) | (go_simp; rfl)); intro gb249 hg w7 hbox hb; have BK249 := Aside0.mk (hbox); have GW249 := Aside0.mk ((by rw [hg]; exact (bZ_ (kwW HB)) : w.heap.size ≤ gb249)); replace HB := Aside0.mk (below_step (kwW HB) hb); have GE249 := GW249; clear hb hbox hg; have p5 : 0 ≤ (a1 : Int) := of_decide_eq_true (by first | (with_reducible assumption) | assumption); have q5 : a1 < (a0.size : Int) := of_decide_eq_true (by first | (with_reducible assumption) | assumption); have hx5 := bt_at a0 a1; replace p5 := eq_true p5; replace q5 := eq_true q5))
 (try simp only [Act.put, List.setIfInBounds_toArray, List.set_cons_zero, List.set_cons_succ])
 go_cut [6, 7] (fun v6 v7 wc => ∃ (kq : Nat) (x6_5 : Int) (x7_5 : Bool), v6 = .int .i64 x6_5 ∧ v7 = .bool x7_5 ∧ Aside0 (skerryref18_number.j0 kq a0 a1 x6_5 x7_5 = some (r1, r2, r3, r4, r5, r6, r7, r8)) ∧ Aside0 (kq ≤ k) ∧ Aside0 (wc.heap[gb249]? = some (.cells #[.int .i64 0, .string (⟨#[]⟩ : ByteArray), .int .i64 0, .int .i64 0, .string (⟨#[]⟩ : ByteArray), .int .i64 0, .int .i64 0] 29 (0, 0))) ∧ Aside0 (Below w.heap.size w wc))
 case first =>
  have H := HC6.out
  clear HC6
  by_cases c8 : (bt a0 a1) = 45
  rotate_left
  ·
   rw [if_neg c8] at H
   have c8b0 : ((bt a0 a1) == 45) = false := beq_eq_false_iff_ne.mpr c8
   have c8b1 : ((bt a0 a1) != 45) = true := bne_iff_ne.mpr c8
   (first | rw [c8b0] | (simp only [i64_w, i32_w]; rw [c8b0]) | skip)
   have H' := Aside0.mk H
   clear H
   go_wp2
   go_meet
   case rel => exact ⟨_, (a1), (((bt a0 a1) == 45)), (by first | rfl | (simp; done) | (simp [bne, *]; done)), (by first | rfl | (simp; done) | (simp [bne, *]; done)), H', ⟨by first | omega | exact Nat.le_refl _⟩, ⟨by (with_reducible repeat (first | refine blk_drewN ?_ _ | refine blk_drew ?_ | refine blk_alloc ?_ _)); exact BK249.out⟩, ⟨by repeat (first | (with_reducible first | exact HB.out | apply bA_ | apply bN_ | apply bD_ | refine bS_ ?_ GE249) | exact HB.out)⟩⟩
  rw [if_pos c8] at H
  have c8b0 : ((bt a0 a1) == 45) = true := beq_iff_eq.mpr c8
  have c8b1 : ((bt a0 a1) != 45) = false := bne_eq_false_iff_eq.mpr c8
  clear c8
  (first | rw [c8b0] | (simp only [i64_w, i32_w]; rw [c8b0]) | skip)
  have H' := Aside0.mk H
  clear H
  go_wp2
  go_meet
  case rel => exact ⟨_, (wrap64 (a1 + 1)), (((bt a0 a1) == 45)), (by first | rfl | (simp; done) | (simp [bne, *]; done)), (by first | rfl | (simp; done) | (simp [bne, *]; done)), H', ⟨by first | omega | exact Nat.le_refl _⟩, ⟨by (with_reducible repeat (first | refine blk_drewN ?_ _ | refine blk_drew ?_ | refine blk_alloc ?_ _)); exact BK249.out⟩, ⟨by repeat (first | (with_reducible first | exact HB.out | apply bA_ | apply bN_ | apply bD_ | refine bS_ ?_ GE249) | exact HB.out)⟩⟩
 case rest =>
  clear HC6
  try clear p2
  try clear c3
  try clear c3b0
  try clear c4
  try clear c4b0
  try clear p5
  try clear q5
  try clear hx5
  try clear p6
  try clear c8
  try clear c8b0
  try clear c8b1
  try clear p5
  try clear q5
  obtain ⟨kq, x6_5, x7_5, rfl, rfl, HA, HJ5, BK249, HB⟩ := hcut
  cases kq with
  | zero => exact absurd HA.out (by simp [skerryref18_number.j0])
  | succ kj5 =>
   have H := HA.out
   clear HA
   simp only [skerryref18_number.j0] at H
   have HC9 := Aside0.mk H
   clear H
   go_upto_block 0 with (fail)
   go_cut [6, 8] (fun v6 v8 wc => ∃ (kq : Nat) (x6_8 : Int) (x8_8 : Int) (x250000_8 : Int) (x250001_8 : ByteArray) (x250002_8 : Int) (x250003_8 : Int) (x250004_8 : ByteArray) (x250005_8 : Int) (x250006_8 : Int), v6 = .int .i64 x6_8 ∧ v8 = .int .i64 x8_8 ∧ Aside0 (skerryref18_number.j4 kq a1 x6_8 x7_5 x8_8 = some (r1, r2, r3, r4, r5, r6, r7, r8)) ∧ Aside0 (kq ≤ kj5) ∧ Aside0 (wc.heap[gb249]? = some (.cells #[.int .i64 x250000_8, .string x250001_8, .int .i64 x250002_8, .int .i64 x250003_8, .string x250004_8, .int .i64 x250005_8, .int .i64 x250006_8] 29 (0, 0))) ∧ Aside0 (Below w.heap.size w wc))
   case first =>
    have H := HC9.out
    clear HC9
    have H' := Aside0.mk H
    clear H
    go_wp2
    go_loopg [6, 8] kj5 (fun kq v6 v8 w' => ∃ (x6_2 : Int) (x8_2 : Int) (x250000_2 : Int) (x250001_2 : ByteArray) (x250002_2 : Int) (x250003_2 : Int) (x250004_2 : ByteArray) (x250005_2 : Int) (x250006_2 : Int), v6 = .int .i64 x6_2 ∧ v8 = .int .i64 x8_2 ∧ Aside0 (skerryref18_number.l0 kq a0 a1 x6_2 x7_5 x8_2 = some (r1, r2, r3, r4, r5, r6, r7, r8)) ∧ Aside0 (kq ≤ kj5) ∧ Aside0 (w'.heap[gb249]? = some (.cells #[.int .i64 x250000_2, .string x250001_2, .int .i64 x250002_2, .int .i64 x250003_2, .string x250004_2, .int .i64 x250005_2, .int .i64 x250006_2] 29 (0, 0))) ∧ Aside0 (Below w.heap.size w w'))
    case atStart => exact ⟨(x6_5), (0), (0), ((⟨#[]⟩ : ByteArray)), (0), (0), ((⟨#[]⟩ : ByteArray)), (0), (0), (by first | rfl | (simp; done) | (simp [bne, *]; done)), (by first | rfl | (simp; done) | (simp [bne, *]; done)), H', ⟨Nat.le_refl _⟩, ⟨by (with_reducible repeat (first | refine blk_drewN ?_ _ | refine blk_drew ?_ | refine blk_alloc ?_ _)); exact BK249.out⟩, ⟨by repeat (first | (with_reducible first | exact HB.out | apply bA_ | apply bN_ | apply bD_ | refine bS_ ?_ GE249) | exact HB.out)⟩⟩
    case round =>
     clear H'
     try clear p2
     try clear c3
     try clear c3b0
     try clear c4
     try clear c4b0
     try clear p5
     try clear q5
     try clear hx5
     try clear p6
     try clear c8
     try clear c8b0
     try clear c8b1
     try clear p2
     try clear p5
     try clear p6
     try clear q5
     obtain ⟨x6_2, x8_2, x250000_2, x250001_2, x250002_2, x250003_2, x250004_2, x250005_2, x250006_2, rfl, rfl, HA, HK2, BK249, HB⟩ := hrel
     cases gk with
     | zero => exact absurd HA.out (by simp [skerryref18_number.l0])
     | succ k2 =>
      have H := HA.out
      clear HA
      simp only [skerryref18_number.l0] at H
      by_cases c10 : x6_2 < (a0.size : Int)
      rotate_left
      ·
       rw [if_neg c10] at H
       have c10b0 : decide (x6_2 < (a0.size : Int)) = false := decide_eq_false c10
       clear c10
       (first | rw [c10b0] | (simp only [i64_w, i32_w]; rw [c10b0]) | skip)
       have H' := Aside0.mk H
       clear H
       go_wp2
       go_meet
       case rel => exact ⟨_, (x6_2), (x8_2), (x250000_2), (x250001_2), (x250002_2), (x250003_2), (x250004_2), (x250005_2), (x250006_2), (by first | rfl | (simp; done) | (simp [bne, *]; done)), (by first | rfl | (simp; done) | (simp [bne, *]; done)), H', ⟨by have := HJ5.out; have := HK2.out; first | omega | exact Nat.le_refl _⟩, ⟨by (with_reducible repeat (first | refine blk_drewN ?_ _ | refine blk_drew ?_ | refine blk_alloc ?_ _)); exact BK249.out⟩, ⟨by repeat (first | (with_reducible first | exact HB.out | apply bA_ | apply bN_ | apply bD_ | refine bS_ ?_ GE249) | exact HB.out)⟩⟩
      rw [if_pos c10] at H
      have c10b0 : decide (x6_2 < (a0.size : Int)) = true := decide_eq_true c10
      clear c10
      (first | rw [c10b0] | (simp only [i64_w, i32_w]; rw [c10b0]) | skip)
      have HC11 := Aside0.mk H
      clear H
      go_upto_region 7 with (fail)
      go_cut [39] (fun v39 wc => ∃ (kq : Nat) (x39_10 : Bool), v39 = .bool x39_10 ∧ Aside0 (skerryref18_number.j2 kq a0 a1 x6_2 x7_5 x8_2 x39_10 = some (r1, r2, r3, r4, r5, r6, r7, r8)) ∧ Aside0 (kq ≤ k2) ∧ Aside0 (wc.heap[gb249]? = some (.cells #[.int .i64 x250000_2, .string x250001_2, .int .i64 x250002_2, .int .i64 x250003_2, .string x250004_2, .int .i64 x250005_2, .int .i64 x250006_2] 29 (0, 0))) ∧ Aside0 (Below w.heap.size w wc))
      case first =>
       have H := HC11.out
       clear HC11
       by_cases c12 : 0 ≤ x6_2
       rotate_left
       ·
        rw [if_neg c12] at H
        exact absurd H (by simp)
       rw [if_pos c12] at H
       have c12b0 : decide (0 ≤ x6_2) = true := decide_eq_true c12
       clear c12
       (first | rw [c12b0] | (simp only [i64_w, i32_w]; rw [c12b0]) | skip)
       by_cases c14 : (bt a0 x6_2) = 95
       rotate_left
       ·
        rw [if_neg c14] at H
        have c14b0 : ((bt a0 x6_2) == 95) = false := beq_eq_false_iff_ne.mpr c14
        have c14b1 : ((bt a0 x6_2) != 95) = true := bne_iff_ne.mpr c14
        have H' := Aside0.mk H
        clear H
        have p13 : 0 ≤ (x6_2 : Int) := of_decide_eq_true (by first | (with_reducible assumption) | assumption)
        have q13 : x6_2 < (a0.size : Int) := of_decide_eq_true (by first | (with_reducible assumption) | assumption)
        have hx13 := bt_at a0 x6_2
        replace p13 := eq_true p13
        replace q13 := eq_true q13
        go_wp2
        go_meet
        case rel => exact ⟨_, (false), (by first | rfl | (simp; done) | (simp [bne, *]; done)), H', ⟨by have := HJ5.out; have := HK2.out; first | omega | exact Nat.le_refl _⟩, ⟨by (with_reducible repeat (first | refine blk_drewN ?_ _ | refine blk_drew ?_ | refine blk_alloc ?_ _)); exact BK249.out⟩, ⟨by repeat (first | (with_reducible first | exact HB.out | apply bA_ | apply bN_ | apply bD_ | refine bS_ ?_ GE249) | exact HB.out)⟩⟩
       rw [if_pos c14] at H
       have c14b0 : ((bt a0 x6_2) == 95) = true := beq_iff_eq.mpr c14
       have c14b1 : ((bt a0 x6_2) != 95) = false := bne_eq_false_iff_eq.mpr c14
       clear c14
       by_cases c15 : (wrap64 (x6_2 + 1)) < (a0.size : Int)
       rotate_left
       ·
        rw [if_neg c15] at H
        have c15b0 : decide ((wrap64 (x6_2 + 1)) < (a0.size : Int)) = false := decide_eq_false c15
        clear c15
        have H' := Aside0.mk H
        clear H
        have p13 : 0 ≤ (x6_2 : Int) := of_decide_eq_true (by first | (with_reducible assumption) | assumption)
        have q13 : x6_2 < (a0.size : Int) := of_decide_eq_true (by first | (with_reducible assumption) | assumption)
        have hx13 := bt_at a0 x6_2
        replace p13 := eq_true p13
        replace q13 := eq_true q13
        go_wp2
        go_meet
        case rel => exact ⟨_, (false), (by first | rfl | (simp; done) | (simp [bne, *]; done)), H', ⟨by have := HJ5.out; have := HK2.out; first | omega | exact Nat.le_refl _⟩, ⟨by (with_reducible repeat (first | refine blk_drewN ?_ _ | refine blk_drew ?_ | refine blk_alloc ?_ _)); exact BK249.out⟩, ⟨by repeat (first | (with_reducible first | exact HB.out | apply bA_ | apply bN_ | apply bD_ | refine bS_ ?_ GE249) | exact HB.out)⟩⟩
       rw [if_pos c15] at H
       have c15b0 : decide ((wrap64 (x6_2 + 1)) < (a0.size : Int)) = true := decide_eq_true c15
       clear c15
       obtain ⟨ji16, hji16⟩ : ∃ j_ : Int, (wrap64 (x6_2 + 1)) = j_ := ⟨_, rfl⟩
       replace H : (if 0 ≤ (ji16) then ((skerryref18_digit.f (bt a0 (ji16))).bind fun t250 => (skerryref18_number.j2 k2 a0 a1 x6_2 x7_5 x8_2 t250)) else (none)) = some (r1, r2, r3, r4, r5, r6, r7, r8) := by first | (rw [hji16] at H; exact H) | (simp only [hji16] at H ⊢; exact H)
       (try rw [hji16] at c15b0)
       have hji16w : (IntKind.i64.wrap (x6_2 + 1)) = ji16 := (i64_w _).trans hji16
       by_cases c17 : 0 ≤ (ji16)
       rotate_left
       ·
        rw [if_neg c17] at H
        exact absurd H (by simp)
       rw [if_pos c17] at H
       have c17b0 : decide (0 ≤ (ji16)) = true := decide_eq_true c17
       clear c17
       replace H := Option.bind_eq_some_iff.mp H
       obtain ⟨t250, A190, H⟩ := H
       have A19 := Aside0.mk A190
       clear A190
       have H' := Aside0.mk H
       clear H
       have p13 : 0 ≤ (x6_2 : Int) := of_decide_eq_true (by first | (with_reducible assumption) | assumption)
       have q13 : x6_2 < (a0.size : Int) := of_decide_eq_true (by first | (with_reducible assumption) | assumption)
       have hx13 := bt_at a0 x6_2
       replace p13 := eq_true p13
       replace q13 := eq_true q13
       have p18 : 0 ≤ ((ji16) : Int) := of_decide_eq_true (by first | (with_reducible assumption) | assumption)
       have q18 : (ji16) < (a0.size : Int) := of_decide_eq_true (by first | (with_reducible assumption) | assumption)
       have hx18 := bt_at a0 (ji16)
       replace p18 := eq_true p18
       replace q18 := eq_true q18
       go_wp2_with (first | (go_at_call 36; (with_reducible refine (skerryref18_digit.calls (bt a0 (ji16)) t250 _ A19.out).mono ?_); rintro e w' ⟨rfl, ⟨nd, rfl⟩⟩))
       go_meet
       case rel => exact ⟨_, (t250), (by first | rfl | (simp; done) | (simp [bne, *]; done)), H', ⟨by have := HJ5.out; have := HK2.out; first | omega | exact Nat.le_refl _⟩, ⟨by (with_reducible repeat (first | refine blk_drewN ?_ _ | refine blk_drew ?_ | refine blk_alloc ?_ _)); exact BK249.out⟩, ⟨by repeat (first | (with_reducible first | exact HB.out | apply bA_ | apply bN_ | apply bD_ | refine bS_ ?_ GE249) | exact HB.out)⟩⟩
      case rest =>
       clear HC11
       try clear c1
       try clear p1
       try clear q1
       try clear hx1
       try clear p2
       try clear c3
       try clear c3b0
       try clear c4
       try clear c4b0
       try clear p5
       try clear q5
       try clear hx5
       try clear p6
       try clear c8
       try clear c8b0
       try clear c8b1
       try clear c10
       try clear c10b0
       try clear c12
       try clear c12b0
       try clear p13
       try clear q13
       try clear hx13
       try clear c14
       try clear c14b0
       try clear c14b1
       try clear c15
       try clear c15b0
       try clear c17
       try clear c17b0
       try clear p18
       try clear q18
       try clear hx18
       try clear p13
       try clear p18
       try clear p2
       try clear p5
       try clear p6
       try clear q13
       try clear q18
       try clear q5
       obtain ⟨kq, x39_10, rfl, HA, HJ10, BK249, HB⟩ := hcut
       cases kq with
       | zero => exact absurd HA.out (by simp [skerryref18_number.j2])
       | succ kj10 =>
        have H := HA.out
        clear HA
        simp only [skerryref18_number.j2] at H
        have HC20 := Aside0.mk H
        clear H
        go_upto_if 39 with (fail)
        go_cut [6] (fun v6 wc => ∃ (kq : Nat) (x6_19 : Int), v6 = .int .i64 x6_19 ∧ Aside0 (skerryref18_number.j3 kq a0 a1 x6_19 x7_5 x8_2 = some (r1, r2, r3, r4, r5, r6, r7, r8)) ∧ Aside0 (kq ≤ kj10) ∧ Aside0 (wc.heap[gb249]? = some (.cells #[.int .i64 x250000_2, .string x250001_2, .int .i64 x250002_2, .int .i64 x250003_2, .string x250004_2, .int .i64 x250005_2, .int .i64 x250006_2] 29 (0, 0))) ∧ Aside0 (Below w.heap.size w wc))
        case first =>
         have H := HC20.out
         clear HC20
         by_cases c21 : x39_10 = true
         ·
          subst c21
          have H1 : (skerryref18_number.j3 kj10 a0 a1 (wrap64 (x6_2 + 1)) x7_5 x8_2) = some (r1, r2, r3, r4, r5, r6, r7, r8) := by rw [if_pos rfl] at H; exact H
          clear H
          have H := H1
          clear H1
          have H' := Aside0.mk H
          clear H
          go_wp2
          go_meet
          case rel => exact ⟨_, (wrap64 (x6_2 + 1)), (by first | rfl | (simp; done) | (simp [bne, *]; done)), H', ⟨by have := HJ5.out; have := HK2.out; have := HJ10.out; first | omega | exact Nat.le_refl _⟩, ⟨by (with_reducible repeat (first | refine blk_drewN ?_ _ | refine blk_drew ?_ | refine blk_alloc ?_ _)); exact BK249.out⟩, ⟨by repeat (first | (with_reducible first | exact HB.out | apply bA_ | apply bN_ | apply bD_ | refine bS_ ?_ GE249) | exact HB.out)⟩⟩
         ·
          replace c21 := Bool.eq_false_iff.mpr c21
          subst c21
          have H1 : (skerryref18_number.j3 kj10 a0 a1 x6_2 x7_5 x8_2) = some (r1, r2, r3, r4, r5, r6, r7, r8) := by rw [if_neg (show ¬ (false = true) by decide)] at H; exact H
          clear H
          have H := H1
          clear H1
          have H' := Aside0.mk H
          clear H
          go_wp2
          go_meet
          case rel => exact ⟨_, (x6_2), (by first | rfl | (simp; done) | (simp [bne, *]; done)), H', ⟨by have := HJ5.out; have := HK2.out; have := HJ10.out; first | omega | exact Nat.le_refl _⟩, ⟨by (with_reducible repeat (first | refine blk_drewN ?_ _ | refine blk_drew ?_ | refine blk_alloc ?_ _)); exact BK249.out⟩, ⟨by repeat (first | (with_reducible first | exact HB.out | apply bA_ | apply bN_ | apply bD_ | refine bS_ ?_ GE249) | exact HB.out)⟩⟩
        case rest =>
         clear HC20
         try clear c1
         try clear p1
         try clear q1
         try clear hx1
         try clear c2
         try clear p2
         try clear c3
         try clear c3b0
         try clear c4
         try clear c4b0
         try clear p5
         try clear q5
         try clear hx5
         try clear p6
         try clear c8
         try clear c8b0
         try clear c8b1
         try clear c10
         try clear c10b0
         try clear c12
         try clear c12b0
         try clear p13
         try clear q13
         try clear hx13
         try clear c14
         try clear c14b0
         try clear c14b1
         try clear c15
         try clear c15b0
         try clear c17
         try clear c17b0
         try clear p18
         try clear q18
         try clear hx18
         try clear c21
         try clear p1
         try clear p13
         try clear p18
         try clear p2
         try clear p5
         try clear p6
         try clear q1
         try clear q13
         try clear q18
         try clear q5
         obtain ⟨kq, x6_19, rfl, HA, HJ19, BK249, HB⟩ := hcut
         cases kq with
         | zero => exact absurd HA.out (by simp [skerryref18_number.j3])
         | succ kj19 =>
          have H := HA.out
          clear HA
          simp only [skerryref18_number.j3] at H
          by_cases c22 : 0 ≤ x6_19
          rotate_left
          ·
           rw [if_neg c22] at H
           exact absurd H (by simp)
          rw [if_pos c22] at H
          have c22b0 : decide (0 ≤ x6_19) = true := decide_eq_true c22
          clear c22
          by_cases c23 : x6_19 < (a0.size : Int)
          rotate_left
          ·
           rw [if_neg c23] at H
           exact absurd H (by simp)
          rw [if_pos c23] at H
          have c23b0 : decide (x6_19 < (a0.size : Int)) = true := decide_eq_true c23
          clear c23
          replace H := Option.bind_eq_some_iff.mp H
          obtain ⟨t251, A250, H⟩ := H
          have A25 := Aside0.mk A250
          clear A250
          by_cases c26 : t251 = true
          rotate_left
          ·
           replace c26 := Bool.eq_false_iff.mpr c26
           subst c26
           have H1 : (skerryref18_number.j4 kj19 a1 x6_19 x7_5 x8_2) = some (r1, r2, r3, r4, r5, r6, r7, r8) := by rw [if_neg (show ¬ (false = true) by decide)] at H; exact H
           clear H
           have H := H1
           clear H1
           have H' := Aside0.mk H
           clear H
           have p24 : 0 ≤ (x6_19 : Int) := of_decide_eq_true (by first | (with_reducible assumption) | assumption)
           have q24 : x6_19 < (a0.size : Int) := of_decide_eq_true (by first | (with_reducible assumption) | assumption)
           have hx24 := bt_at a0 x6_19
           replace p24 := eq_true p24
           replace q24 := eq_true q24
           go_wp2_with (first | ((with_reducible refine gate_callee (f := 36) rfl ?_); refine goesL_ (some 45) rfl rfl Tryd.func36 (by kernel_rfl) rfl #[.int .u8 (bt a0 x6_19)] rfl (by (try simp only [mT_, mC_, mN_]); first | done | rfl) ?_; (with_reducible refine (skerryref18_digit.calls (bt a0 x6_19) false _ A25.out).mono ?_); rintro e w' ⟨rfl, ⟨nd, rfl⟩⟩; refine ⟨_, rfl, ?_⟩))
           go_meet
           case rel => exact ⟨_, (x6_19), (x8_2), (x250000_2), (x250001_2), (x250002_2), (x250003_2), (x250004_2), (x250005_2), (x250006_2), (by first | rfl | (simp; done) | (simp [bne, *]; done)), (by first | rfl | (simp; done) | (simp [bne, *]; done)), H', ⟨by have := HJ5.out; have := HK2.out; have := HJ10.out; have := HJ19.out; first | omega | exact Nat.le_refl _⟩, ⟨by (with_reducible repeat (first | refine blk_drewN ?_ _ | refine blk_drew ?_ | refine blk_alloc ?_ _)); exact BK249.out⟩, ⟨by repeat (first | (with_reducible first | exact HB.out | apply bA_ | apply bN_ | apply bD_ | refine bS_ ?_ GE249) | exact HB.out)⟩⟩
          subst c26
          have H1 : (if x8_2 < (Int.tdiv ((-9223372036854775808) + (((bt a0 x6_19) - 48) % 256)) 10) then (some (0, (⟨#[]⟩ : ByteArray), 0, 0, (⟨#[]⟩ : ByteArray), 0, 0, a1)) else (skerryref18_number.l0 kj19 a0 a1 (wrap64 (x6_19 + 1)) x7_5 (wrap64 ((wrap64 (10 * x8_2)) - (((bt a0 x6_19) - 48) % 256))))) = some (r1, r2, r3, r4, r5, r6, r7, r8) := by rw [if_pos rfl] at H; exact H
          clear H
          have H := H1
          clear H1
          by_cases c28 : x8_2 < (Int.tdiv ((-9223372036854775808) + (((bt a0 x6_19) - 48) % 256)) 10)
          ·
           rw [if_pos c28] at H
           have c28b0 : decide (x8_2 < (Int.tdiv ((-9223372036854775808) + (((bt a0 x6_19) - 48) % 256)) 10)) = true := decide_eq_true c28
           clear c28
           simp only [Option.some.injEq, Prod.mk.injEq] at H
           obtain ⟨rfl, rfl, rfl, rfl, rfl, rfl, rfl, rfl⟩ := H
           have p24 : 0 ≤ (x6_19 : Int) := of_decide_eq_true (by first | (with_reducible assumption) | assumption)
           have q24 : x6_19 < (a0.size : Int) := of_decide_eq_true (by first | (with_reducible assumption) | assumption)
           have hx24 := bt_at a0 x6_19
           replace p24 := eq_true p24
           replace q24 := eq_true q24
           go_wp2_with (first | ((with_reducible refine gate_callee (f := 36) rfl ?_); refine goesL_ (some 45) rfl rfl Tryd.func36 (by kernel_rfl) rfl #[.int .u8 (bt a0 x6_19)] rfl (by (try simp only [mT_, mC_, mN_]); first | done | rfl) ?_; (with_reducible refine (skerryref18_digit.calls (bt a0 x6_19) true _ A25.out).mono ?_); rintro e w' ⟨rfl, ⟨nd, rfl⟩⟩; refine ⟨_, rfl, ?_⟩; (try (rw [drewN_self wc]; generalize hq_ : World.drewN wc _ = wc; have n0_ : Aside0 (wc.heap[gb249]? = some (.cells #[.int .i64 x250000_2, .string x250001_2, .int .i64 x250002_2, .int .i64 x250003_2, .string x250004_2, .int .i64 x250005_2, .int .i64 x250006_2] 29 (0, 0))) := ⟨by rw [← hq_]; exact (kbW BK249)⟩; have n1_ : Aside0 (Below w.heap.size w wc) := ⟨by rw [← hq_]; exact (by repeat (first | (with_reducible first | exact HB.out | apply bA_ | apply bN_ | apply bD_ | refine bS_ ?_ GE249) | exact HB.out))⟩; clear BK249 HB hq_; have BK249 := n0_; have HB := n1_; clear n0_ n1_)); have p27 : 0 ≤ (x6_19 : Int) := of_decide_eq_true (by first | (with_reducible assumption) | assumption); have q27 : x6_19 < (a0.size : Int) := of_decide_eq_true (by first | (with_reducible assumption) | assumption); have hx27 := bt_at a0 x6_19; replace p27 := eq_true p27; replace q27 := eq_true q27; obtain ⟨hcz29_0, hcz29_1, hcz29_2, hcz29_3, hcz29_4, hcz29_5, hcz29_6, hfz29_0, hfz29_1, hfz29_2, hfz29_3, hfz29_4, hfz29_5, hfz29_6⟩ := czf7 BK249))
           refine bodyPost_ret (results_ct rfl _ _ gb249 29 #[.int .i64 0, .string (⟨#[]⟩ : ByteArray), .int .i64 0, .int .i64 0, .string (⟨#[]⟩ : ByteArray), .int .i64 0, .int .i64 0] (0, 0) _ rfl (by (with_reducible repeat (first | refine blk_drewN ?_ _ | refine blk_drew ?_ | refine blk_alloc ?_ _)); exact bp7 (kbW BK249)) Tryd.underlying29 rfl (by kernel_rfl)) rfl ?_
           exact ⟨by first | rfl | (simp <;> rfl) | (simp [*] <;> rfl), by repeat (first | (with_reducible first | exact HB.out | apply bA_ | apply bN_ | apply bD_ | refine bS_ ?_ GE249) | exact HB.out)⟩
          ·
           rw [if_neg c28] at H
           have c28b0 : decide (x8_2 < (Int.tdiv ((-9223372036854775808) + (((bt a0 x6_19) - 48) % 256)) 10)) = false := decide_eq_false c28
           clear c28
           have H' := Aside0.mk H
           clear H
           have p24 : 0 ≤ (x6_19 : Int) := of_decide_eq_true (by first | (with_reducible assumption) | assumption)
           have q24 : x6_19 < (a0.size : Int) := of_decide_eq_true (by first | (with_reducible assumption) | assumption)
           have hx24 := bt_at a0 x6_19
           replace p24 := eq_true p24
           replace q24 := eq_true q24
           go_wp2_with (first | ((with_reducible refine gate_callee (f := 36) rfl ?_); refine goesL_ (some 45) rfl rfl Tryd.func36 (by kernel_rfl) rfl #[.int .u8 (bt a0 x6_19)] rfl (by (try simp only [mT_, mC_, mN_]); first | done | rfl) ?_; (with_reducible refine (skerryref18_digit.calls (bt a0 x6_19) true _ A25.out).mono ?_); rintro e w' ⟨rfl, ⟨nd, rfl⟩⟩; refine ⟨_, rfl, ?_⟩; have p27 : 0 ≤ (x6_19 : Int) := of_decide_eq_true (by first | (with_reducible assumption) | assumption); have q27 : x6_19 < (a0.size : Int) := of_decide_eq_true (by first | (with_reducible assumption) | assumption); have hx27 := bt_at a0 x6_19; replace p27 := eq_true p27; replace q27 := eq_true q27))
           go_roundg kj19
           case measure => have := HJ5.out; have := HK2.out; have := HJ10.out; have := HJ19.out; omega
           case rel => exact ⟨(wrap64 (x6_19 + 1)), (wrap64 ((wrap64 (10 * x8_2)) - (((bt a0 x6_19) - 48) % 256))), (x250000_2), (x250001_2), (x250002_2), (x250003_2), (x250004_2), (x250005_2), (x250006_2), (by first | rfl | (simp; done) | (simp [bne, *]; done)), (by first | rfl | (simp; done) | (simp [bne, *]; done)), H', ⟨by have := HJ5.out; have := HK2.out; have := HJ10.out; have := HJ19.out; omega⟩, ⟨by (with_reducible repeat (first | refine blk_drewN ?_ _ | refine blk_drew ?_ | refine blk_alloc ?_ _)); exact BK249.out⟩, ⟨by repeat (first | (with_reducible first | exact HB.out | apply bA_ | apply bN_ | apply bD_ | refine bS_ ?_ GE249) | exact HB.out)⟩⟩
   case rest =>
    clear HC9
    try clear c1
    try clear p1
    try clear q1
    try clear hx1
    try clear c2
    try clear p2
    try clear q2
    try clear hx2
    try clear c3
    try clear c3b0
    try clear c4
    try clear c4b0
    try clear p5
    try clear q5
    try clear hx5
    try clear p6
    try clear c8
    try clear c8b0
    try clear c8b1
    try clear c10
    try clear c10b0
    try clear c12
    try clear c12b0
    try clear p13
    try clear q13
    try clear hx13
    try clear c14
    try clear c14b0
    try clear c14b1
    try clear c15
    try clear c15b0
    try clear c17
    try clear c17b0
    try clear p18
    try clear q18
    try clear hx18
    try clear c21
    try clear c22
    try clear c22b0
    try clear c23
    try clear c23b0
    try clear p24
    try clear q24
    try clear hx24
    try clear c26
    try clear p27
    try clear q27
    try clear hx27
    try clear c28
    try clear c28b0
    try clear hcz29_0
    try clear hcz29_1
    try clear hcz29_2
    try clear hcz29_3
    try clear hcz29_4
    try clear hcz29_5
    try clear hcz29_6
    try clear hfz29_0
    try clear hfz29_1
    try clear hfz29_2
    try clear hfz29_3
    try clear hfz29_4
    try clear hfz29_5
    try clear hfz29_6
    try clear p1
    try clear p13
    try clear p18
    try clear p2
    try clear p24
    try clear p27
    try clear p5
    try clear p6
    try clear q1
    try clear q13
    try clear q18
    try clear q24
    try clear q27
    try clear q5
    obtain ⟨kq, x6_8, x8_8, x250000_8, x250001_8, x250002_8, x250003_8, x250004_8, x250005_8, x250006_8, rfl, rfl, HA, HJ8, BK249, HB⟩ := hcut
    cases kq with
    | zero => exact absurd HA.out (by simp [skerryref18_number.j4])
    | succ kj8 =>
     have H := HA.out
     clear HA
     simp only [skerryref18_number.j4] at H
     by_cases c30 : x7_5 = true
     ·
      subst c30
      have H1 : (some (4, (⟨#[]⟩ : ByteArray), 1, x8_8, (⟨#[]⟩ : ByteArray), a1, x6_8, (-1))) = some (r1, r2, r3, r4, r5, r6, r7, r8) := by rw [if_pos rfl] at H; exact H
      clear H
      have H := H1
      clear H1
      simp only [Option.some.injEq, Prod.mk.injEq] at H
      obtain ⟨rfl, rfl, rfl, rfl, rfl, rfl, rfl, rfl⟩ := H
      obtain ⟨_, _, _, _, _, _, _, _, _, _, _, _, _, _⟩ := czf7 BK249
      go_wp2
      refine bodyPost_ret (results_ct rfl _ _ gb249 29 #[.int .i64 4, .string (⟨#[]⟩ : ByteArray), .int .i64 1, .int .i64 x8_8, .string (⟨#[]⟩ : ByteArray), .int .i64 a1, .int .i64 x6_8] (0, 0) _ rfl (by (with_reducible repeat (first | refine blk_drewN ?_ _ | refine blk_drew ?_ | refine blk_alloc ?_ _)); exact bp7 (kbW BK249)) Tryd.underlying29 rfl (by kernel_rfl)) rfl ?_
      exact ⟨by first | rfl | (simp <;> rfl) | (simp [*] <;> rfl), by repeat (first | (with_reducible first | exact HB.out | apply bA_ | apply bN_ | apply bD_ | refine bS_ ?_ GE249) | exact HB.out)⟩
     ·
      replace c30 := Bool.eq_false_iff.mpr c30
      subst c30
      have H1 : (if x8_8 = (-9223372036854775808) then (some (0, (⟨#[]⟩ : ByteArray), 0, 0, (⟨#[]⟩ : ByteArray), 0, 0, a1)) else (some (4, (⟨#[]⟩ : ByteArray), 1, wrap64 (-x8_8), (⟨#[]⟩ : ByteArray), a1, x6_8, (-1)))) = some (r1, r2, r3, r4, r5, r6, r7, r8) := by rw [if_neg (show ¬ (false = true) by decide)] at H; exact H
      clear H
      have H := H1
      clear H1
      by_cases c32 : x8_8 = (-9223372036854775808)
      rotate_left
      ·
       rw [if_neg c32] at H
       have c32b0 : (x8_8 == (-9223372036854775808)) = false := beq_eq_false_iff_ne.mpr c32
       have c32b1 : (x8_8 != (-9223372036854775808)) = true := bne_iff_ne.mpr c32
       simp only [Option.some.injEq, Prod.mk.injEq] at H
       obtain ⟨rfl, rfl, rfl, rfl, rfl, rfl, rfl, rfl⟩ := H
       obtain ⟨_, _, _, _, _, _, _, _, _, _, _, _, _, _⟩ := czf7 BK249
       go_wp2
       refine bodyPost_ret (results_ct rfl _ _ gb249 29 #[.int .i64 4, .string (⟨#[]⟩ : ByteArray), .int .i64 1, .int .i64 (wrap64 (-x8_8)), .string (⟨#[]⟩ : ByteArray), .int .i64 a1, .int .i64 x6_8] (0, 0) _ rfl (by (with_reducible repeat (first | refine blk_drewN ?_ _ | refine blk_drew ?_ | refine blk_alloc ?_ _)); exact bp7 (kbW BK249)) Tryd.underlying29 rfl (by kernel_rfl)) rfl ?_
       exact ⟨by first | rfl | (simp <;> rfl) | (simp [*] <;> rfl), by repeat (first | (with_reducible first | exact HB.out | apply bA_ | apply bN_ | apply bD_ | refine bS_ ?_ GE249) | exact HB.out)⟩
      rw [if_pos c32] at H
      have c32b0 : (x8_8 == (-9223372036854775808)) = true := beq_iff_eq.mpr c32
      have c32b1 : (x8_8 != (-9223372036854775808)) = false := bne_eq_false_iff_eq.mpr c32
      clear c32
      simp only [Option.some.injEq, Prod.mk.injEq] at H
      obtain ⟨rfl, rfl, rfl, rfl, rfl, rfl, rfl, rfl⟩ := H
      obtain ⟨_, _, _, _, _, _, _, _, _, _, _, _, _, _⟩ := czf7 BK249
      go_wp2
      refine bodyPost_ret (results_ct rfl _ _ gb249 29 #[.int .i64 0, .string (⟨#[]⟩ : ByteArray), .int .i64 0, .int .i64 0, .string (⟨#[]⟩ : ByteArray), .int .i64 0, .int .i64 0] (0, 0) _ rfl (by (with_reducible repeat (first | refine blk_drewN ?_ _ | refine blk_drew ?_ | refine blk_alloc ?_ _)); exact bp7 (kbW BK249)) Tryd.underlying29 rfl (by kernel_rfl)) rfl ?_
      exact ⟨by first | rfl | (simp <;> rfl) | (simp [*] <;> rfl), by repeat (first | (with_reducible first | exact HB.out | apply bA_ | apply bN_ | apply bD_ | refine bS_ ?_ GE249) | exact HB.out)⟩
end Go.Proofs.YtfaogccfiklinaaDoor.Q
