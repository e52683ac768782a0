/- Lemmas for this claim's walk: no condition of their own. -/
import Derived.Test.YtlffkbcaphhldaaFdSq
import Derived.Test.YtlffkbcaphhldaaFdQx0
import Derived.Test.YtlffkbcaphhldaaFdJ10
namespace Go.Proofs.Ytlffkbcaphhldaa.Q
open Go.RowKit Go.Proofs.YtlffkbcaphhldaaW.PrintWords Go.Proofs.YtlffkbcaphhldaaW.PrintLast Go.Proofs.YtlffkbcaphhldaaW.PrintMore
attribute [local go_sem] max2_int min2_int max_two min_two max_three min_three max_four min_four
set_option linter.unusedVariables false
set_option linter.unusedSimpArgs false
attribute [local go_sem high] eqA37
def skerryref01_Like.l0 : Nat → List (S37) → List (S37) → Int → Int → Option (Bool)
 | 0, _, _, _, _ => none
 | k + 1, x0, x1, x12, x13 => if x13 < x12 then (if 0 ≤ x13 then (if x13 < (x0.length : Int) then (if x13 < (x1.length : Int) then (if ((!((((rd_T37 x0 x13).f0.f0).toList) == (((rd_T37 x1 x13).f0.f0).toList)) || (!((((rd_T37 x0 x13).f0.f1).toList) == (((rd_T37 x1 x13).f0.f1).toList)) || (!(((rd_T37 x0 x13).f0.f2) == ((rd_T37 x1 x13).f0.f2)) || (!((((rd_T37 x0 x13).f0.f3).toList) == (((rd_T37 x1 x13).f0.f3).toList)))))) || ((!(((rd_T37 x0 x13).f1.f0) == ((rd_T37 x1 x13).f1.f0)) || (!(((rd_T37 x0 x13).f1.f1) == ((rd_T37 x1 x13).f1.f1)) || (!(((rd_T37 x0 x13).f1.f2) == ((rd_T37 x1 x13).f1.f2)) || ((!(((rd_T37 x0 x13).f1.f3.f0) == ((rd_T37 x1 x13).f1.f3.f0)) || (!(((rd_T37 x0 x13).f1.f3.f1) == ((rd_T37 x1 x13).f1.f3.f1)) || (!((((rd_T37 x0 x13).f1.f3.f2).toList) == (((rd_T37 x1 x13).f1.f3.f2).toList))))))))))) = true then (some false) else (skerryref01_Like.l0 k x0 x1 x12 (wrap64 (x13 + 1)))) else (none)) else (none)) else (none)) else (some true)
def skerryref01_Like.f (k : Nat) (l0 : List (S37)) (l1 : List (S37)) : Option (Bool) := if (l0.length : Int) = (l1.length : Int) then (skerryref01_Like.l0 k l0 l1 (l0.length : Int) 0) else (some false)
set_option maxHeartbeats 8000000 in
set_option maxRecDepth 100000 in
theorem skerryref01_Like.calls (k : Nat) (A0 : Option Addr) (c0 : Nat) (l0 : List (S37)) (A1 : Option Addr) (c1 : Nat) (l1 : List (S37)) (r : Bool) (w : World) (hr0 : Kd.C k37 w A0 l0.length l0) (hc0 : l0.length ≤ c0) (hr1 : Kd.C k37 w A1 l1.length l1) (hc1 : l1.length ≤ c1) (h : skerryref01_Like.f k l0 l1 = some r) :
  Calls Try.prog 14 #[.slice A0 l0.length c0, .slice A1 l1.length c1] w fun e w' => e = .returned (.bool r) ∧ Drawn0 w w' := by
 have hu37 := Try.underlying37
 have HR0 := Aside0.mk hr0
 have HC0 := Aside0.mk hc0
 clear hr0 hc0
 have HR1 := Aside0.mk hr1
 have HC1 := Aside0.mk hc1
 clear hr1 hc1
 have H : (if (l0.length : Int) = (l1.length : Int) then (skerryref01_Like.l0 k l0 l1 (l0.length : Int) 0) else (some false)) = some r := h
 clear h
 by_cases c3 : (l0.length : Int) = (l1.length : Int)
 rotate_left
 ·
  rw [if_neg c3] at H
  have c3b0 : ((l0.length : Int) == (l1.length : Int)) = false := beq_eq_false_iff_ne.mpr c3
  have c3b1 : ((l0.length : Int) != (l1.length : Int)) = true := bne_iff_ne.mpr c3
  have c3b2 : (l0.length == l1.length) = false := by first | simpa using c3 | (simp at c3 ⊢; omega)
  obtain rfl := Option.some.inj H
  go_enter Try.func14, Try.ntmps14
  go_wp2
  repeat (go_quiet (fail); try go_wp2)
  go_ret
  exact ⟨by first | rfl | (simp; done) | (simp [*]; done), by repeat (first | exact Drawn0.refl _ | apply Drawn0.step)⟩
 rw [if_pos c3] at H
 have c3b0 : ((l0.length : Int) == (l1.length : Int)) = true := beq_iff_eq.mpr c3
 have c3b1 : ((l0.length : Int) != (l1.length : Int)) = false := bne_eq_false_iff_eq.mpr c3
 have c3b2 : (l0.length == l1.length) = true := by first | simpa using c3 | (simp at c3 ⊢; omega)
 clear c3
 have H' := Aside0.mk H
 clear H
 go_enter Try.func14, Try.ntmps14
 go_wp2
 repeat (go_quiet (fail); try go_wp2)
 go_loopg [13] k (fun kq v13 w' => ∃ (x13_1 : Int), v13 = .int .i64 x13_1 ∧ Aside0 (skerryref01_Like.l0 kq l0 l1 (l0.length : Int) x13_1 = some r) ∧ Aside0 (kq ≤ k) ∧ Drawn0 w w')
 case atStart => exact ⟨(0), (by first | rfl | (simp; done) | (simp [bne, *]; done)), H', ⟨Nat.le_refl _⟩, by repeat (first | exact Drawn0.refl _ | apply Drawn0.step)⟩
 case round =>
  clear H'
  try clear c1
  try clear p2
  try clear c3
  try clear c3b0
  try clear c3b1
  try clear c3b2
  obtain ⟨x13_1, rfl, HA, HK1, ⟨m1, rfl⟩⟩ := hrel
  cases gk with
  | zero => exact absurd HA.out (by simp [skerryref01_Like.l0])
  | succ k1 =>
   have H := HA.out
   clear HA
   simp only [skerryref01_Like.l0] at H
   by_cases c4 : x13_1 < (l0.length : Int)
   rotate_left
   ·
    rw [if_neg c4] at H
    have c4b0 : decide (x13_1 < (l0.length : Int)) = false := decide_eq_false c4
    clear c4
    obtain rfl := Option.some.inj H
    go_wp2
    repeat (go_quiet (fail); try go_wp2)
    go_ret
    exact ⟨by first | rfl | (simp; done) | (simp [*]; done), by repeat (first | exact Drawn0.refl _ | apply Drawn0.step)⟩
   rw [if_pos c4] at H
   have c4b0 : decide (x13_1 < (l0.length : Int)) = true := decide_eq_true c4
   clear c4
   by_cases c5 : 0 ≤ x13_1
   rotate_left
   ·
    rw [if_neg c5] at H
    exact absurd H (by simp)
   rw [if_pos c5] at H
   have c5b0 : decide (0 ≤ x13_1) = true := decide_eq_true c5
   clear c5
   by_cases c6 : x13_1 < (l0.length : Int)
   rotate_left
   ·
    rw [if_neg c6] at H
    exact absurd H (by simp)
   rw [if_pos c6] at H
   have c6b0 : decide (x13_1 < (l0.length : Int)) = true := decide_eq_true c6
   clear c6
   by_cases c7 : x13_1 < (l1.length : Int)
   rotate_left
   ·
    rw [if_neg c7] at H
    exact absurd H (by simp)
   rw [if_pos c7] at H
   have c7b0 : decide (x13_1 < (l1.length : Int)) = true := decide_eq_true c7
   clear c7
   by_cases c8 : ((!((((rd_T37 l0 x13_1).f0.f0).toList) == (((rd_T37 l1 x13_1).f0.f0).toList)) || (!((((rd_T37 l0 x13_1).f0.f1).toList) == (((rd_T37 l1 x13_1).f0.f1).toList)) || (!(((rd_T37 l0 x13_1).f0.f2) == ((rd_T37 l1 x13_1).f0.f2)) || (!((((rd_T37 l0 x13_1).f0.f3).toList) == (((rd_T37 l1 x13_1).f0.f3).toList)))))) || ((!(((rd_T37 l0 x13_1).f1.f0) == ((rd_T37 l1 x13_1).f1.f0)) || (!(((rd_T37 l0 x13_1).f1.f1) == ((rd_T37 l1 x13_1).f1.f1)) || (!(((rd_T37 l0 x13_1).f1.f2) == ((rd_T37 l1 x13_1).f1.f2)) || ((!(((rd_T37 l0 x13_1).f1.f3.f0) == ((rd_T37 l1 x13_1).f1.f3.f0)) || (!(((rd_T37 l0 x13_1).f1.f3.f1) == ((rd_T37 l1 x13_1).f1.f3.f1)) || (!((((rd_T37 l0 x13_1).f1.f3.f2).toList) == (((rd_T37 l1 x13_1).f1.f3.f2).toList))))))))))) = true
   ·
    rw [if_pos c8] at H
    have c8b0 : ((!((((rd_T37 l0 x13_1).f0.f0).toList) == (((rd_T37 l1 x13_1).f0.f0).toList)) || (!((((rd_T37 l0 x13_1).f0.f1).toList) == (((rd_T37 l1 x13_1).f0.f1).toList)) || (!(((rd_T37 l0 x13_1).f0.f2) == ((rd_T37 l1 x13_1).f0.f2)) || (!((((rd_T37 l0 x13_1).f0.f3).toList) == (((rd_T37 l1 x13_1).f0.f3).toList)))))) || ((!(((rd_T37 l0 x13_1).f1.f0) == ((rd_T37 l1 x13_1).f1.f0)) || (!(((rd_T37 l0 x13_1).f1.f1) == ((rd_T37 l1 x13_1).f1.f1)) || (!(((rd_T37 l0 x13_1).f1.f2) == ((rd_T37 l1 x13_1).f1.f2)) || ((!(((rd_T37 l0 x13_1).f1.f3.f0) == ((rd_T37 l1 x13_1).f1.f3.f0)) || (!(((rd_T37 l0 x13_1).f1.f3.f1) == ((rd_T37 l1 x13_1).f1.f3.f1)) || (!((((rd_T37 l0 x13_1).f1.f3.f2).toList) == (((rd_T37 l1 x13_1).f1.f3.f2).toList))))))))))) = true := c8
    clear c8
    obtain rfl := Option.some.inj H
    have p158 : 0 ≤ (x13_1 : Int) := of_decide_eq_true (by first | (with_reducible assumption) | assumption)
    have q158 : x13_1 < (l0.length : Int) := of_decide_eq_true (by first | (with_reducible assumption) | assumption)
    obtain ⟨ad158, e158, hx158_0, hx158_1, hx158_2, hx158_3, hx158_4, hx158_5, hx158_6, hx158_7, hx158_8, hx158_9⟩ := at_T37 HR0.out x13_1 p158 q158
    cases e158
    replace p158 := eq_true p158
    replace q158 := eq_true q158
    have p159 : 0 ≤ (x13_1 : Int) := of_decide_eq_true (by first | (with_reducible assumption) | assumption)
    have q159 : x13_1 < (l1.length : Int) := of_decide_eq_true (by first | (with_reducible assumption) | assumption)
    obtain ⟨ad159, e159, hx159_0, hx159_1, hx159_2, hx159_3, hx159_4, hx159_5, hx159_6, hx159_7, hx159_8, hx159_9⟩ := at_T37 HR1.out x13_1 p159 q159
    cases e159
    replace p159 := eq_true p159
    replace q159 := eq_true q159
    go_wp2
    repeat (go_quiet (fail); try go_wp2)
    go_ret
    exact ⟨by first | rfl | (simp; done) | (simp [*]; done), by repeat (first | exact Drawn0.refl _ | apply Drawn0.step)⟩
   ·
    rw [if_neg c8] at H
    have c8b0 : ((!((((rd_T37 l0 x13_1).f0.f0).toList) == (((rd_T37 l1 x13_1).f0.f0).toList)) || (!((((rd_T37 l0 x13_1).f0.f1).toList) == (((rd_T37 l1 x13_1).f0.f1).toList)) || (!(((rd_T37 l0 x13_1).f0.f2) == ((rd_T37 l1 x13_1).f0.f2)) || (!((((rd_T37 l0 x13_1).f0.f3).toList) == (((rd_T37 l1 x13_1).f0.f3).toList)))))) || ((!(((rd_T37 l0 x13_1).f1.f0) == ((rd_T37 l1 x13_1).f1.f0)) || (!(((rd_T37 l0 x13_1).f1.f1) == ((rd_T37 l1 x13_1).f1.f1)) || (!(((rd_T37 l0 x13_1).f1.f2) == ((rd_T37 l1 x13_1).f1.f2)) || ((!(((rd_T37 l0 x13_1).f1.f3.f0) == ((rd_T37 l1 x13_1).f1.f3.f0)) || (!(((rd_T37 l0 x13_1).f1.f3.f1) == ((rd_T37 l1 x13_1).f1.f3.f1)) || (!((((rd_T37 l0 x13_1).f1.f3.f2).toList) == (((rd_T37 l1 x13_1).f1.f3.f2).toList))))))))))) = false := by simpa using c8
    clear c8
    have H' := Aside0.mk H
    clear H
    have p158 : 0 ≤ (x13_1 : Int) := of_decide_eq_true (by first | (with_reducible assumption) | assumption)
    have q158 : x13_1 < (l0.length : Int) := of_decide_eq_true (by first | (with_reducible assumption) | assumption)
    obtain ⟨ad158, e158, hx158_0, hx158_1, hx158_2, hx158_3, hx158_4, hx158_5, hx158_6, hx158_7, hx158_8, hx158_9⟩ := at_T37 HR0.out x13_1 p158 q158
    cases e158
    replace p158 := eq_true p158
    replace q158 := eq_true q158
    have p159 : 0 ≤ (x13_1 : Int) := of_decide_eq_true (by first | (with_reducible assumption) | assumption)
    have q159 : x13_1 < (l1.length : Int) := of_decide_eq_true (by first | (with_reducible assumption) | assumption)
    obtain ⟨ad159, e159, hx159_0, hx159_1, hx159_2, hx159_3, hx159_4, hx159_5, hx159_6, hx159_7, hx159_8, hx159_9⟩ := at_T37 HR1.out x13_1 p159 q159
    cases e159
    replace p159 := eq_true p159
    replace q159 := eq_true q159
    go_wp2
    repeat (go_quiet (fail); try go_wp2)
    go_roundg k1
    case measure => have := HK1.out; omega
    case rel => exact ⟨(wrap64 (x13_1 + 1)), (by first | rfl | (simp; done) | (simp [bne, *]; done)), H', ⟨by have := HK1.out; omega⟩, by repeat (first | exact Drawn0.refl _ | apply Drawn0.step)⟩
end Go.Proofs.Ytlffkbcaphhldaa.Q
