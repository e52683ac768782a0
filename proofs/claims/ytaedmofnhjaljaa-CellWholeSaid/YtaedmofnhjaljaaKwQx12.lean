/- Lemmas for this claim's walk: no condition of their own. -/
import Derived.Test.YtaedmofnhjaljaaKwSq
import Derived.Test.YtaedmofnhjaljaaKwQx0
namespace Go.Proofs.Ytaedmofnhjaljaa.Q
open Go.RowKit Go.Proofs.YtaedmofnhjaljaaW.PrintWords Go.Proofs.YtaedmofnhjaljaaW.PrintLast Go.Proofs.YtaedmofnhjaljaaW.PrintMore
attribute [local go_sem] max2_int min2_int max_two min_two max_three min_three max_four min_four
set_option linter.unusedVariables false
set_option linter.unusedSimpArgs false
def skerrylaw05_weigh.l0 : Nat → Int → Int → List (S29) → Int → Int → Option (Int)
 | 0, _, _, _, _, _ => none
 | k + 1, x1, x5, x8, x9, x10 => if x10 < x9 then (if 0 ≤ x10 then (if x10 < (x8.length : Int) then (if (wrap64 (x5 + (wrap64 (1 + (wrap64 (Int.tdiv (wrap64 ((wrap64 ((wrap64 ((((rd_T29 x8 x10).f0.f0).size : Int) + (((rd_T29 x8 x10).f0.f1).size : Int))) + (((rd_T29 x8 x10).f0.f3).size : Int))) + (((rd_T29 x8 x10).f1.f3.f2).size : Int))) 20)))))) > x1 then (some (wrap64 (x5 + (wrap64 (1 + (wrap64 (Int.tdiv (wrap64 ((wrap64 ((wrap64 ((((rd_T29 x8 x10).f0.f0).size : Int) + (((rd_T29 x8 x10).f0.f1).size : Int))) + (((rd_T29 x8 x10).f0.f3).size : Int))) + (((rd_T29 x8 x10).f1.f3.f2).size : Int))) 20))))))) else (skerrylaw05_weigh.l0 k x1 (wrap64 (x5 + (wrap64 (1 + (wrap64 (Int.tdiv (wrap64 ((wrap64 ((wrap64 ((((rd_T29 x8 x10).f0.f0).size : Int) + (((rd_T29 x8 x10).f0.f1).size : Int))) + (((rd_T29 x8 x10).f0.f3).size : Int))) + (((rd_T29 x8 x10).f1.f3.f2).size : Int))) 20)))))) x8 x9 (wrap64 (x10 + 1)))) else (none)) else (none)) else (some x5)
def skerrylaw05_weigh.f (k : Nat) (l0 : List (S29)) (a1 : Int) : Option (Int) := skerrylaw05_weigh.l0 k a1 0 l0 (l0.length : Int) 0
set_option maxHeartbeats 8000000 in
set_option maxRecDepth 100000 in
theorem skerrylaw05_weigh.calls (k : Nat) (A0 : Option Addr) (c0 : Nat) (l0 : List (S29)) (a1 : Int) (r : Int) (w : World) (hr0 : Kd.C k29 w A0 l0.length l0) (hc0 : l0.length ≤ c0) (h : skerrylaw05_weigh.f k l0 a1 = some r) :
  Calls Try.prog 10 #[.slice A0 l0.length c0, .int .i64 a1] w fun e w' => e = .returned (.int .i64 r) ∧ Below w.heap.size w w' := by
 have hu29 := Try.underlying29
 have HR0 := Aside0.mk hr0
 have HC0 := Aside0.mk hc0
 clear hr0 hc0
 have HB := Aside0.mk (Below.refl w.heap.size w)
 have H : (skerrylaw05_weigh.l0 k a1 0 l0 (l0.length : Int) 0) = some r := h
 clear h
 have H' := Aside0.mk H
 clear H
 go_enter Try.func10, Try.ntmps10
 go_wp2
 go_loopg [5, 10] k (fun kq v5 v10 w' => ∃ (x5_1 : Int) (x10_1 : Int), v5 = .int .i64 x5_1 ∧ v10 = .int .i64 x10_1 ∧ Aside0 (skerrylaw05_weigh.l0 kq a1 x5_1 l0 (l0.length : Int) x10_1 = some r) ∧ Aside0 (kq ≤ k) ∧ Aside0 (Below w.heap.size w w'))
 case atStart => exact ⟨(0), (0), (by first | rfl | (simp; done) | (simp [bne, *]; done)), (by first | rfl | (simp; done) | (simp [bne, *]; done)), H', ⟨Nat.le_refl _⟩, ⟨kwW HB⟩⟩
 case round =>
  clear H'
  try clear c1
  try clear p2
  obtain ⟨x5_1, x10_1, rfl, rfl, HA, HK1, HB⟩ := hrel
  cases gk with
  | zero => exact absurd HA.out (by simp [skerrylaw05_weigh.l0])
  | succ k1 =>
   have H := HA.out
   clear HA
   simp only [skerrylaw05_weigh.l0] at H
   by_cases c3 : x10_1 < (l0.length : Int)
   rotate_left
   ·
    rw [if_neg c3] at H
    have c3b0 : decide (x10_1 < (l0.length : Int)) = false := decide_eq_false c3
    clear c3
    obtain rfl := Option.some.inj H
    go_wp2
    go_ret
    exact ⟨by first | rfl | (simp <;> rfl) | (simp [*] <;> rfl), kwW HB⟩
   rw [if_pos c3] at H
   have c3b0 : decide (x10_1 < (l0.length : Int)) = true := decide_eq_true c3
   clear c3
   by_cases c4 : 0 ≤ x10_1
   rotate_left
   ·
    rw [if_neg c4] at H
    exact absurd H (by simp)
   rw [if_pos c4] at H
   have c4b0 : decide (0 ≤ x10_1) = true := decide_eq_true c4
   clear c4
   by_cases c5 : x10_1 < (l0.length : Int)
   rotate_left
   ·
    rw [if_neg c5] at H
    exact absurd H (by simp)
   rw [if_pos c5] at H
   have c5b0 : decide (x10_1 < (l0.length : Int)) = true := decide_eq_true c5
   clear c5
   by_cases c6 : (wrap64 (x5_1 + (wrap64 (1 + (wrap64 (Int.tdiv (wrap64 ((wrap64 ((wrap64 ((((rd_T29 l0 x10_1).f0.f0).size : Int) + (((rd_T29 l0 x10_1).f0.f1).size : Int))) + (((rd_T29 l0 x10_1).f0.f3).size : Int))) + (((rd_T29 l0 x10_1).f1.f3.f2).size : Int))) 20)))))) > a1
   ·
    rw [if_pos c6] at H
    have c6b0 : decide (a1 < (wrap64 (x5_1 + (wrap64 (1 + (wrap64 (Int.tdiv (wrap64 ((wrap64 ((wrap64 ((((rd_T29 l0 x10_1).f0.f0).size : Int) + (((rd_T29 l0 x10_1).f0.f1).size : Int))) + (((rd_T29 l0 x10_1).f0.f3).size : Int))) + (((rd_T29 l0 x10_1).f1.f3.f2).size : Int))) 20))))))) = true := decide_eq_true c6
    clear c6
    obtain rfl := Option.some.inj H
    have p158 : 0 ≤ (x10_1 : Int) := of_decide_eq_true (by first | (with_reducible assumption) | assumption)
    have q158 : x10_1 < (l0.length : Int) := of_decide_eq_true (by first | (with_reducible assumption) | assumption)
    obtain ⟨ad158, e158, hx158_0, hx158_1, hx158_2, hx158_3, hx158_4, hx158_5, hx158_6, hx158_7, hx158_8, hx158_9⟩ := at_T29 HR0.out x10_1 p158 q158
    cases e158
    replace hx158_0 := cB_ HB hx158_0
    replace hx158_1 := cB_ HB hx158_1
    replace hx158_2 := cB_ HB hx158_2
    replace hx158_3 := cB_ HB hx158_3
    replace hx158_4 := cB_ HB hx158_4
    replace hx158_5 := cB_ HB hx158_5
    replace hx158_6 := cB_ HB hx158_6
    replace hx158_7 := cB_ HB hx158_7
    replace hx158_8 := cB_ HB hx158_8
    replace hx158_9 := cB_ HB hx158_9
    replace p158 := eq_true p158
    replace q158 := eq_true q158
    go_wp2_with (first | ((with_reducible refine gate_dst (N := 7) rfl ?_); refine box_event ?hg (N := 7) ?hd (cs := #[.string (⟨#[]⟩ : ByteArray), .string (⟨#[]⟩ : ByteArray), .int .i64 0, .string (⟨#[]⟩ : ByteArray), .int .i64 0, .bool false, .int .i64 0, .int .i64 0, .int .i64 0, .string (⟨#[]⟩ : ByteArray)]) (t := 29) ?hr ?_; (case hd => rfl); (case hg => rfl); (case hr => first | (go_simp; done) | (go_simp; rfl)); intro gb159 hg w7 hbox hb; have BK159 := Aside0.mk (hbox); have GW159 := Aside0.mk ((by rw [hg]; exact (bZ_ (kwW HB)) : w.heap.size ≤ gb159)); replace HB := Aside0.mk (below_step (kwW HB) hb); have GE159 := GW159; clear hb hbox hg; obtain ⟨_, _, _, _, _, _, _, _, _, _, _, _, _, _, _, _, _, _, _, _⟩ := czf10 BK159))
    go_ret
    exact ⟨by first | rfl | (simp <;> rfl) | (simp [*] <;> rfl), by repeat (first | (with_reducible first | exact HB.out | apply bA_ | apply bN_ | apply bD_ | refine bS_ ?_ GE159) | exact HB.out)⟩
   ·
    rw [if_neg c6] at H
    have c6b0 : decide (a1 < (wrap64 (x5_1 + (wrap64 (1 + (wrap64 (Int.tdiv (wrap64 ((wrap64 ((wrap64 ((((rd_T29 l0 x10_1).f0.f0).size : Int) + (((rd_T29 l0 x10_1).f0.f1).size : Int))) + (((rd_T29 l0 x10_1).f0.f3).size : Int))) + (((rd_T29 l0 x10_1).f1.f3.f2).size : Int))) 20))))))) = false := decide_eq_false c6
    clear c6
    have H' := Aside0.mk H
    clear H
    have p158 : 0 ≤ (x10_1 : Int) := of_decide_eq_true (by first | (with_reducible assumption) | assumption)
    have q158 : x10_1 < (l0.length : Int) := of_decide_eq_true (by first | (with_reducible assumption) | assumption)
    obtain ⟨ad158, e158, hx158_0, hx158_1, hx158_2, hx158_3, hx158_4, hx158_5, hx158_6, hx158_7, hx158_8, hx158_9⟩ := at_T29 HR0.out x10_1 p158 q158
    cases e158
    replace hx158_0 := cB_ HB hx158_0
    replace hx158_1 := cB_ HB hx158_1
    replace hx158_2 := cB_ HB hx158_2
    replace hx158_3 := cB_ HB hx158_3
    replace hx158_4 := cB_ HB hx158_4
    replace hx158_5 := cB_ HB hx158_5
    replace hx158_6 := cB_ HB hx158_6
    replace hx158_7 := cB_ HB hx158_7
    replace hx158_8 := cB_ HB hx158_8
    replace hx158_9 := cB_ HB hx158_9
    replace p158 := eq_true p158
    replace q158 := eq_true q158
    go_wp2_with (first | ((with_reducible refine gate_dst (N := 7) rfl ?_); refine box_event ?hg (N := 7) ?hd (cs := #[.string (⟨#[]⟩ : ByteArray), .string (⟨#[]⟩ : ByteArray), .int .i64 0, .string (⟨#[]⟩ : ByteArray), .int .i64 0, .bool false, .int .i64 0, .int .i64 0, .int .i64 0, .string (⟨#[]⟩ : ByteArray)]) (t := 29) ?hr ?_; (case hd => rfl); (case hg => rfl); (case hr => first | (go_simp; done) | (go_simp; rfl)); intro gb159 hg w9 hbox hb; have BK159 := Aside0.mk (hbox); have GW159 := Aside0.mk ((by rw [hg]; exact (bZ_ (kwW HB)) : w.heap.size ≤ gb159)); replace HB := Aside0.mk (below_step (kwW HB) hb); have GE159 := GW159; clear hb hbox hg; obtain ⟨_, _, _, _, _, _, _, _, _, _, _, _, _, _, _, _, _, _, _, _⟩ := czf10 BK159))
    go_roundg k1
    case measure => have := HK1.out; omega
    case rel => exact ⟨(wrap64 (x5_1 + (wrap64 (1 + (wrap64 (Int.tdiv (wrap64 ((wrap64 ((wrap64 ((((rd_T29 l0 x10_1).f0.f0).size : Int) + (((rd_T29 l0 x10_1).f0.f1).size : Int))) + (((rd_T29 l0 x10_1).f0.f3).size : Int))) + (((rd_T29 l0 x10_1).f1.f3.f2).size : Int))) 20)))))), (wrap64 (x10_1 + 1)), (by first | rfl | (simp; done) | (simp [bne, *]; done)), (by first | rfl | (simp; done) | (simp [bne, *]; done)), H', ⟨by have := HK1.out; omega⟩, ⟨by repeat (first | (with_reducible first | exact HB.out | apply bA_ | apply bN_ | apply bD_ | refine bS_ ?_ GE159) | exact HB.out)⟩⟩
end Go.Proofs.Ytaedmofnhjaljaa.Q
