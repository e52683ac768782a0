/- Lemmas for this claim's walk: no condition of their own. -/
import Derived.Test.YtlffkbcaphhldaaFdSq
import Derived.Test.YtlffkbcaphhldaaFdQx0
namespace Go.Proofs.Ytlffkbcaphhldaa.Q
open Go.RowKit Go.Proofs.YtlffkbcaphhldaaW.PrintWords Go.Proofs.YtlffkbcaphhldaaW.PrintLast Go.Proofs.YtlffkbcaphhldaaW.PrintMore
attribute [local go_sem] max2_int min2_int max_two min_two max_three min_three max_four min_four
set_option linter.unusedVariables false
set_option linter.unusedSimpArgs false
def key_first_1.f (a0 : Int) : Option (Bool) := some (a0 != 0)
set_option maxHeartbeats 8000000 in
set_option maxRecDepth 100000 in
theorem key_first_1.calls (a0 : Int) (r : Bool) (w : World) (h : key_first_1.f a0 = some r) :
  Calls Try.prog 54 #[.int .i64 a0] w fun e w' => e = .returned (.bool r) ∧ Drawn0 w w' := by
 have H : (some (a0 != 0)) = some r := h
 clear h
 obtain rfl := Option.some.inj H
 go_enter Try.func54, Try.ntmps54
 go_wp2
 go_ret
 exact ⟨by first | rfl | (simp; done) | (simp [*]; done), by repeat (first | exact Drawn0.refl _ | apply Drawn0.step)⟩
def skerrylaw06_weigh.l0 : Nat → Int → Int → List (S37) → Int → Int → Option (Int)
 | 0, _, _, _, _, _ => none
 | k + 1, x1, x5, x8, x9, x10 => if x10 < x9 then (if 0 ≤ x10 then (if x10 < (x8.length : Int) then (if (wrap64 (x5 + (wrap64 (1 + (wrap64 (Int.tdiv (wrap64 ((wrap64 ((wrap64 ((((rd_T37 x8 x10).f0.f0).size : Int) + (((rd_T37 x8 x10).f0.f1).size : Int))) + (((rd_T37 x8 x10).f0.f3).size : Int))) + (((rd_T37 x8 x10).f1.f3.f2).size : Int))) 20)))))) > x1 then (some (wrap64 (x5 + (wrap64 (1 + (wrap64 (Int.tdiv (wrap64 ((wrap64 ((wrap64 ((((rd_T37 x8 x10).f0.f0).size : Int) + (((rd_T37 x8 x10).f0.f1).size : Int))) + (((rd_T37 x8 x10).f0.f3).size : Int))) + (((rd_T37 x8 x10).f1.f3.f2).size : Int))) 20))))))) else (skerrylaw06_weigh.l0 k x1 (wrap64 (x5 + (wrap64 (1 + (wrap64 (Int.tdiv (wrap64 ((wrap64 ((wrap64 ((((rd_T37 x8 x10).f0.f0).size : Int) + (((rd_T37 x8 x10).f0.f1).size : Int))) + (((rd_T37 x8 x10).f0.f3).size : Int))) + (((rd_T37 x8 x10).f1.f3.f2).size : Int))) 20)))))) x8 x9 (wrap64 (x10 + 1)))) else (none)) else (none)) else (some x5)
def skerrylaw06_weigh.f (k : Nat) (l0 : List (S37)) (a1 : Int) : Option (Int) := skerrylaw06_weigh.l0 k a1 0 l0 (l0.length : Int) 0
set_option maxHeartbeats 8000000 in
set_option maxRecDepth 100000 in
theorem skerrylaw06_weigh.calls (k : Nat) (A0 : Option Addr) (c0 : Nat) (l0 : List (S37)) (a1 : Int) (r : Int) (w : World) (hr0 : Kd.C k37 w A0 l0.length l0) (hc0 : l0.length ≤ c0) (h : skerrylaw06_weigh.f k l0 a1 = some r) :
  Calls Try.prog 8 #[.slice A0 l0.length c0, .int .i64 a1] w fun e w' => e = .returned (.int .i64 r) ∧ Below w.heap.size w w' := by
 have hu37 := Try.underlying37
 have HR0 := Aside0.mk hr0
 have HC0 := Aside0.mk hc0
 clear hr0 hc0
 have HB := Aside0.mk (Below.refl w.heap.size w)
 have H : (skerrylaw06_weigh.l0 k a1 0 l0 (l0.length : Int) 0) = some r := h
 clear h
 have H' := Aside0.mk H
 clear H
 go_enter Try.func8, Try.ntmps8
 go_wp2
 go_loopg [5, 10] k (fun kq v5 v10 w' => ∃ (x5_1 : Int) (x10_1 : Int), v5 = .int .i64 x5_1 ∧ v10 = .int .i64 x10_1 ∧ Aside0 (skerrylaw06_weigh.l0 kq a1 x5_1 l0 (l0.length : Int) x10_1 = some r) ∧ Aside0 (kq ≤ k) ∧ Aside0 (Below w.heap.size w w'))
 case atStart => exact ⟨(0), (0), (by first | rfl | (simp; done) | (simp [bne, *]; done)), (by first | rfl | (simp; done) | (simp [bne, *]; done)), H', ⟨Nat.le_refl _⟩, ⟨kwW HB⟩⟩
 case round =>
  clear H'
  try clear p2
  obtain ⟨x5_1, x10_1, rfl, rfl, HA, HK1, HB⟩ := hrel
  cases gk with
  | zero => exact absurd HA.out (by simp [skerrylaw06_weigh.l0])
  | succ k1 =>
   have H := HA.out
   clear HA
   simp only [skerrylaw06_weigh.l0] at H
   by_cases c3 : x10_1 < (l0.length : Int)
   rotate_left
   ·
    rw [if_neg c3] at H
    have c3b0 : decide (x10_1 < (l0.length : Int)) = false := decide_eq_false c3
    clear c3
    obtain rfl := Option.some.inj H
    go_wp2
    go_ret
    exact ⟨by first | rfl | (simp <;> rfl) | (simp [*] <;> rfl), kwW HB⟩
   rw [if_pos c3] at H
   have c3b0 : decide (x10_1 < (l0.length : Int)) = true := decide_eq_true c3
   clear c3
   by_cases c4 : 0 ≤ x10_1
   rotate_left
   ·
    rw [if_neg c4] at H
    exact absurd H (by simp)
   rw [if_pos c4] at H
   have c4b0 : decide (0 ≤ x10_1) = true := decide_eq_true c4
   clear c4
   by_cases c5 : x10_1 < (l0.length : Int)
   rotate_left
   ·
    rw [if_neg c5] at H
    exact absurd H (by simp)
   rw [if_pos c5] at H
   have c5b0 : decide (x10_1 < (l0.length : Int)) = true := decide_eq_true c5
   clear c5
   by_cases c6 : (wrap64 (x5_1 + (wrap64 (1 + (wrap64 (Int.tdiv (wrap64 ((wrap64 ((wrap64 ((((rd_T37 l0 x10_1).f0.f0).size : Int) + (((rd_T37 l0 x10_1).f0.f1).size : Int))) + (((rd_T37 l0 x10_1).f0.f3).size : Int))) + (((rd_T37 l0 x10_1).f1.f3.f2).size : Int))) 20)))))) > a1
   ·
    rw [if_pos c6] at H
    have c6b0 : decide (a1 < (wrap64 (x5_1 + (wrap64 (1 + (wrap64 (Int.tdiv (wrap64 ((wrap64 ((wrap64 ((((rd_T37 l0 x10_1).f0.f0).size : Int) + (((rd_T37 l0 x10_1).f0.f1).size : Int))) + (((rd_T37 l0 x10_1).f0.f3).size : Int))) + (((rd_T37 l0 x10_1).f1.f3.f2).size : Int))) 20))))))) = true := decide_eq_true c6
    clear c6
    obtain rfl := Option.some.inj H
    have p101 : 0 ≤ (x10_1 : Int) := of_decide_eq_true (by first | (with_reducible assumption) | assumption)
    have q101 : x10_1 < (l0.length : Int) := of_decide_eq_true (by first | (with_reducible assumption) | assumption)
    obtain ⟨ad101, e101, hx101_0, hx101_1, hx101_2, hx101_3, hx101_4, hx101_5, hx101_6, hx101_7, hx101_8, hx101_9⟩ := at_T37 HR0.out x10_1 p101 q101
    cases e101
    replace hx101_0 := cB_ HB hx101_0
    replace hx101_1 := cB_ HB hx101_1
    replace hx101_2 := cB_ HB hx101_2
    replace hx101_3 := cB_ HB hx101_3
    replace hx101_4 := cB_ HB hx101_4
    replace hx101_5 := cB_ HB hx101_5
    replace hx101_6 := cB_ HB hx101_6
    replace hx101_7 := cB_ HB hx101_7
    replace hx101_8 := cB_ HB hx101_8
    replace hx101_9 := cB_ HB hx101_9
    replace p101 := eq_true p101
    replace q101 := eq_true q101
    go_wp2_with (first | ((with_reducible refine gate_dst (N := 7) rfl ?_); refine box_event ?hg (N := 7) ?hd (cs := #[.string (⟨#[]⟩ : ByteArray), .string (⟨#[]⟩ : ByteArray), .int .i64 0, .string (⟨#[]⟩ : ByteArray), .int .i64 0, .bool false, .int .i64 0, .int .i64 0, .int .i64 0, .string (⟨#[]⟩ : ByteArray)]) (t := 37) ?hr ?_; (case hd => rfl); (case hg => rfl); (case hr => first | (go_simp; done) | (go_simp; rfl)); intro gb102 hg w7 hbox hb; have BK102 := Aside0.mk (hbox); have GW102 := Aside0.mk ((by rw [hg]; exact (bZ_ (kwW HB)) : w.heap.size ≤ gb102)); replace HB := Aside0.mk (below_step (kwW HB) hb); have GE102 := GW102; clear hb hbox hg; obtain ⟨_, _, _, _, _, _, _, _, _, _, _, _, _, _, _, _, _, _, _, _⟩ := czf10 BK102))
    go_ret
    exact ⟨by first | rfl | (simp <;> rfl) | (simp [*] <;> rfl), by repeat (first | (with_reducible first | exact HB.out | apply bA_ | apply bN_ | apply bD_ | refine bS_ ?_ GE102) | exact HB.out)⟩
   ·
    rw [if_neg c6] at H
    have c6b0 : decide (a1 < (wrap64 (x5_1 + (wrap64 (1 + (wrap64 (Int.tdiv (wrap64 ((wrap64 ((wrap64 ((((rd_T37 l0 x10_1).f0.f0).size : Int) + (((rd_T37 l0 x10_1).f0.f1).size : Int))) + (((rd_T37 l0 x10_1).f0.f3).size : Int))) + (((rd_T37 l0 x10_1).f1.f3.f2).size : Int))) 20))))))) = false := decide_eq_false c6
    clear c6
    have H' := Aside0.mk H
    clear H
    have p101 : 0 ≤ (x10_1 : Int) := of_decide_eq_true (by first | (with_reducible assumption) | assumption)
    have q101 : x10_1 < (l0.length : Int) := of_decide_eq_true (by first | (with_reducible assumption) | assumption)
    obtain ⟨ad101, e101, hx101_0, hx101_1, hx101_2, hx101_3, hx101_4, hx101_5, hx101_6, hx101_7, hx101_8, hx101_9⟩ := at_T37 HR0.out x10_1 p101 q101
    cases e101
    replace hx101_0 := cB_ HB hx101_0
    replace hx101_1 := cB_ HB hx101_1
    replace hx101_2 := cB_ HB hx101_2
    replace hx101_3 := cB_ HB hx101_3
    replace hx101_4 := cB_ HB hx101_4
    replace hx101_5 := cB_ HB hx101_5
    replace hx101_6 := cB_ HB hx101_6
    replace hx101_7 := cB_ HB hx101_7
    replace hx101_8 := cB_ HB hx101_8
    replace hx101_9 := cB_ HB hx101_9
    replace p101 := eq_true p101
    replace q101 := eq_true q101
    go_wp2_with (first | ((with_reducible refine gate_dst (N := 7) rfl ?_); refine box_event ?hg (N := 7) ?hd (cs := #[.string (⟨#[]⟩ : ByteArray), .string (⟨#[]⟩ : ByteArray), .int .i64 0, .string (⟨#[]⟩ : ByteArray), .int .i64 0, .bool false, .int .i64 0, .int .i64 0, .int .i64 0, .string (⟨#[]⟩ : ByteArray)]) (t := 37) ?hr ?_; (case hd => rfl); (case hg => rfl); (case hr => first | (go_simp; done) | (go_simp; rfl)); intro gb102 hg w9 hbox hb; have BK102 := Aside0.mk (hbox); have GW102 := Aside0.mk ((by rw [hg]; exact (bZ_ (kwW HB)) : w.heap.size ≤ gb102)); replace HB := Aside0.mk (below_step (kwW HB) hb); have GE102 := GW102; clear hb hbox hg; obtain ⟨_, _, _, _, _, _, _, _, _, _, _, _, _, _, _, _, _, _, _, _⟩ := czf10 BK102))
    go_roundg k1
    case measure => have := HK1.out; omega
    case rel => exact ⟨(wrap64 (x5_1 + (wrap64 (1 + (wrap64 (Int.tdiv (wrap64 ((wrap64 ((wrap64 ((((rd_T37 l0 x10_1).f0.f0).size : Int) + (((rd_T37 l0 x10_1).f0.f1).size : Int))) + (((rd_T37 l0 x10_1).f0.f3).size : Int))) + (((rd_T37 l0 x10_1).f1.f3.f2).size : Int))) 20)))))), (wrap64 (x10_1 + 1)), (by first | rfl | (simp; done) | (simp [bne, *]; done)), (by first | rfl | (simp; done) | (simp [bne, *]; done)), H', ⟨by have := HK1.out; omega⟩, ⟨by repeat (first | (with_reducible first | exact HB.out | apply bA_ | apply bN_ | apply bD_ | refine bS_ ?_ GE102) | exact HB.out)⟩⟩
end Go.Proofs.Ytlffkbcaphhldaa.Q
