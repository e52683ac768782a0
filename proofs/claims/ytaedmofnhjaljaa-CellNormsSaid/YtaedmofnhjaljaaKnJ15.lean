/- Lemmas for this claim's walk: no condition of their own. -/
import Derived.Test.YtaedmofnhjaljaaKnSq
import Derived.Test.YtaedmofnhjaljaaKnQx0
import Derived.Test.YtaedmofnhjaljaaKnMurB
namespace Go.Proofs.Ytaedmofnhjaljaa.Q
open Go.RowKit Go.Proofs.YtaedmofnhjaljaaW.PrintWords Go.Proofs.YtaedmofnhjaljaaW.PrintLast Go.Proofs.YtaedmofnhjaljaaW.PrintMore
attribute [local go_sem] max2_int min2_int max_two min_two max_three min_three max_four min_four
set_option linter.unusedVariables false
set_option linter.unusedSimpArgs false
theorem eqA25 (d : Nat) (w : World) (x0 y0 : Int) (x1 y1 : Int) (x2 y2 : ByteArray) :
  (Op.equalIn (d + 2) 25 (.agg #[.int .i64 x0, .int .i64 x1, .string x2]) (.agg #[.int .i64 y0, .int .i64 y1, .string y2])).run Try.prog w = .ok (x0 == y0 && (x1 == y1 && (x2.toList == y2.toList))) w := by
 refine eqA_of Try.underlying25 (by kernel_rfl) ?_
 refine eqf_cons (by rfl) (by go_simp; rfl) (by go_simp; rfl) (by go_simp) ?_
 refine eqf_cons (by rfl) (by go_simp; rfl) (by go_simp; rfl) (by go_simp) ?_
 exact eqf_last (by rfl) (by go_simp; rfl) (by go_simp; rfl) (by go_simp)
end Go.Proofs.Ytaedmofnhjaljaa.Q
namespace Go.Proofs.Ytaedmofnhjaljaa.Q
open Go.RowKit Go.Proofs.YtaedmofnhjaljaaW.PrintWords Go.Proofs.YtaedmofnhjaljaaW.PrintLast Go.Proofs.YtaedmofnhjaljaaW.PrintMore
attribute [local go_sem] max2_int min2_int max_two min_two max_three min_three max_four min_four
set_option linter.unusedVariables false
set_option linter.unusedSimpArgs false
def murmur_Sum.f (l0 : List Int) (a1 : Int) : Option (Int × Int) := some (Mur.sumN l0 a1)
theorem murmur_Sum.calls (A0 : Option Addr) (c0 : Nat) (l0 : List Int) (a1 : Int) (r1 : Int) (r2 : Int) (w : World) (hr0 : Kd.C (Kd.int .u8) w A0 l0.length l0) (hc0 : l0.length ≤ c0) (h : murmur_Sum.f l0 a1 = some (r1, r2)) :
  Calls Try.prog 37 #[.slice A0 l0.length c0, .int .u64 a1] w fun e w' => e = .returned (.tuple #[.int .u64 r1, .int .u64 r2]) ∧ Below w.heap.size w w' := Mur.mur_sum A0 c0 l0 a1 r1 r2 w hr0 hc0 (Option.some.inj h)
end Go.Proofs.Ytaedmofnhjaljaa.Q
namespace Go.Proofs.Ytaedmofnhjaljaa.Q
open Go.RowKit Go.Proofs.YtaedmofnhjaljaaW.PrintWords Go.Proofs.YtaedmofnhjaljaaW.PrintLast Go.Proofs.YtaedmofnhjaljaaW.PrintMore
attribute [local go_sem] max2_int min2_int max_two min_two max_three min_three max_four min_four
set_option linter.unusedVariables false
set_option linter.unusedSimpArgs false
theorem eqA23 (d : Nat) (w : World) (x0 y0 : ByteArray) (x1 y1 : ByteArray) (x2 y2 : Int) (x3 y3 : ByteArray) :
  (Op.equalIn (d + 2) 23 (.agg #[.string x0, .string x1, .int .i64 x2, .string x3]) (.agg #[.string y0, .string y1, .int .i64 y2, .string y3])).run Try.prog w = .ok (x0.toList == y0.toList && (x1.toList == y1.toList && (x2 == y2 && (x3.toList == y3.toList)))) w := by
 refine eqA_of Try.underlying23 (by kernel_rfl) ?_
 refine eqf_cons (by rfl) (by go_simp; rfl) (by go_simp; rfl) (by go_simp) ?_
 refine eqf_cons (by rfl) (by go_simp; rfl) (by go_simp; rfl) (by go_simp) ?_
 refine eqf_cons (by rfl) (by go_simp; rfl) (by go_simp; rfl) (by go_simp) ?_
 exact eqf_last (by rfl) (by go_simp; rfl) (by go_simp; rfl) (by go_simp)
end Go.Proofs.Ytaedmofnhjaljaa.Q
namespace Go.Proofs.Ytaedmofnhjaljaa.Q
open Go.RowKit Go.Proofs.YtaedmofnhjaljaaW.PrintWords Go.Proofs.YtaedmofnhjaljaaW.PrintLast Go.Proofs.YtaedmofnhjaljaaW.PrintMore
attribute [local go_sem] max2_int min2_int max_two min_two max_three min_three max_four min_four
set_option linter.unusedVariables false
set_option linter.unusedSimpArgs false
theorem eqA27 (d : Nat) (w : World) (x0 y0 : Int) (x1 y1 : Bool) (x2 y2 : Int) (x3 y3 : Int) (x4 y4 : Int) (x5 y5 : ByteArray) :
  (Op.equalIn (d + 3) 27 (.agg #[.int .i64 x0, .bool x1, .int .i64 x2, .int .i64 x3, .int .i64 x4, .string x5]) (.agg #[.int .i64 y0, .bool y1, .int .i64 y2, .int .i64 y3, .int .i64 y4, .string y5])).run Try.prog w = .ok (x0 == y0 && (x1 == y1 && (x2 == y2 && ((x3 == y3 && (x4 == y4 && (x5.toList == y5.toList))))))) w := by
 refine eqA_of Try.underlying27 (by kernel_rfl) ?_
 refine eqf_cons (by rfl) (by go_simp; rfl) (by go_simp; rfl) (by go_simp) ?_
 refine eqf_cons (by rfl) (by go_simp; rfl) (by go_simp; rfl) (by go_simp) ?_
 refine eqf_cons (by rfl) (by go_simp; rfl) (by go_simp; rfl) (by go_simp) ?_
 exact eqf_last (by rfl) (by go_simp) (by go_simp) (eqA25 (d + 0) w _ _ _ _ _ _)
end Go.Proofs.Ytaedmofnhjaljaa.Q
namespace Go.Proofs.Ytaedmofnhjaljaa.Q
open Go.RowKit Go.Proofs.YtaedmofnhjaljaaW.PrintWords Go.Proofs.YtaedmofnhjaljaaW.PrintLast Go.Proofs.YtaedmofnhjaljaaW.PrintMore
attribute [local go_sem] max2_int min2_int max_two min_two max_three min_three max_four min_four
set_option linter.unusedVariables false
set_option linter.unusedSimpArgs false
theorem eqA29 (d : Nat) (w : World) (x0 y0 : ByteArray) (x1 y1 : ByteArray) (x2 y2 : Int) (x3 y3 : ByteArray) (x4 y4 : Int) (x5 y5 : Bool) (x6 y6 : Int) (x7 y7 : Int) (x8 y8 : Int) (x9 y9 : ByteArray) :
  (Op.equalIn (d + 4) 29 (.agg #[.string x0, .string x1, .int .i64 x2, .string x3, .int .i64 x4, .bool x5, .int .i64 x6, .int .i64 x7, .int .i64 x8, .string x9]) (.agg #[.string y0, .string y1, .int .i64 y2, .string y3, .int .i64 y4, .bool y5, .int .i64 y6, .int .i64 y7, .int .i64 y8, .string y9])).run Try.prog w = .ok ((x0.toList == y0.toList && (x1.toList == y1.toList && (x2 == y2 && (x3.toList == y3.toList)))) && ((x4 == y4 && (x5 == y5 && (x6 == y6 && ((x7 == y7 && (x8 == y8 && (x9.toList == y9.toList))))))))) w := by
 refine eqA_of Try.underlying29 (by kernel_rfl) ?_
 refine eqf_cons (by rfl) (by go_simp) (by go_simp) (eqA23 (d + 1) w _ _ _ _ _ _ _ _) ?_
 exact eqf_last (by rfl) (by go_simp) (by go_simp) (eqA27 (d + 0) w _ _ _ _ _ _ _ _ _ _ _ _)
end Go.Proofs.Ytaedmofnhjaljaa.Q
namespace Go.Proofs.Ytaedmofnhjaljaa.Q
open Go.RowKit Go.Proofs.YtaedmofnhjaljaaW.PrintWords Go.Proofs.YtaedmofnhjaljaaW.PrintLast Go.Proofs.YtaedmofnhjaljaaW.PrintMore
attribute [local go_sem] max2_int min2_int max_two min_two max_three min_three max_four min_four
set_option linter.unusedVariables false
set_option linter.unusedSimpArgs false
def skerrylaw05_weigh.l0 : Nat → Int → Int → List (S29) → Int → Int → Option (Int)
 | 0, _, _, _, _, _ => none
 | k + 1, x1, x5, x8, x9, x10 => if x10 < x9 then (if 0 ≤ x10 then (if x10 < (x8.length : Int) then (if (wrap64 (x5 + (wrap64 (1 + (wrap64 (Int.tdiv (wrap64 ((wrap64 ((wrap64 ((((rd_T29 x8 x10).f0.f0).size : Int) + (((rd_T29 x8 x10).f0.f1).size : Int))) + (((rd_T29 x8 x10).f0.f3).size : Int))) + (((rd_T29 x8 x10).f1.f3.f2).size : Int))) 20)))))) > x1 then (some (wrap64 (x5 + (wrap64 (1 + (wrap64 (Int.tdiv (wrap64 ((wrap64 ((wrap64 ((((rd_T29 x8 x10).f0.f0).size : Int) + (((rd_T29 x8 x10).f0.f1).size : Int))) + (((rd_T29 x8 x10).f0.f3).size : Int))) + (((rd_T29 x8 x10).f1.f3.f2).size : Int))) 20))))))) else (skerrylaw05_weigh.l0 k x1 (wrap64 (x5 + (wrap64 (1 + (wrap64 (Int.tdiv (wrap64 ((wrap64 ((wrap64 ((((rd_T29 x8 x10).f0.f0).size : Int) + (((rd_T29 x8 x10).f0.f1).size : Int))) + (((rd_T29 x8 x10).f0.f3).size : Int))) + (((rd_T29 x8 x10).f1.f3.f2).size : Int))) 20)))))) x8 x9 (wrap64 (x10 + 1)))) else (none)) else (none)) else (some x5)
def skerrylaw05_weigh.f (k : Nat) (l0 : List (S29)) (a1 : Int) : Option (Int) := skerrylaw05_weigh.l0 k a1 0 l0 (l0.length : Int) 0
set_option maxHeartbeats 8000000 in
set_option maxRecDepth 100000 in
theorem skerrylaw05_weigh.calls (k : Nat) (A0 : Option Addr) (c0 : Nat) (l0 : List (S29)) (a1 : Int) (r : Int) (w : World) (hr0 : Kd.C k29 w A0 l0.length l0) (hc0 : l0.length ≤ c0) (h : skerrylaw05_weigh.f k l0 a1 = some r) :
  Calls Try.prog 10 #[.slice A0 l0.length c0, .int .i64 a1] w fun e w' => e = .returned (.int .i64 r) ∧ Below w.heap.size w w' := by
 have hu29 := Try.underlying29
 have HR0 := Aside0.mk hr0
 have HC0 := Aside0.mk hc0
 clear hr0 hc0
 have HB := Aside0.mk (Below.refl w.heap.size w)
 have H : (skerrylaw05_weigh.l0 k a1 0 l0 (l0.length : Int) 0) = some r := h
 clear h
 have H' := Aside0.mk H
 clear H
 go_enter Try.func10, Try.ntmps10
 go_wp2
 go_loopg [5, 10] k (fun kq v5 v10 w' => ∃ (x5_1 : Int) (x10_1 : Int), v5 = .int .i64 x5_1 ∧ v10 = .int .i64 x10_1 ∧ Aside0 (skerrylaw05_weigh.l0 kq a1 x5_1 l0 (l0.length : Int) x10_1 = some r) ∧ Aside0 (kq ≤ k) ∧ Aside0 (Below w.heap.size w w'))
 case atStart => exact ⟨(0), (0), (by first | rfl | (simp; done) | (simp [bne, *]; done)), (by first | rfl | (simp; done) | (simp [bne, *]; done)), H', ⟨Nat.le_refl _⟩, ⟨kwW HB⟩⟩
 case round =>
  clear H'
  try clear c1
  try clear p2
  obtain ⟨x5_1, x10_1, rfl, rfl, HA, HK1, HB⟩ := hrel
  cases gk with
  | zero => exact absurd HA.out (by simp [skerrylaw05_weigh.l0])
  | succ k1 =>
   have H := HA.out
   clear HA
   simp only [skerrylaw05_weigh.l0] at H
   by_cases c3 : x10_1 < (l0.length : Int)
   rotate_left
   ·
    rw [if_neg c3] at H
    have c3b0 : decide (x10_1 < (l0.length : Int)) = false := decide_eq_false c3
    clear c3
    obtain rfl := Option.some.inj H
    go_wp2
    go_ret
    exact ⟨by first | rfl | (simp <;> rfl) | (simp [*] <;> rfl), kwW HB⟩
   rw [if_pos c3] at H
   have c3b0 : decide (x10_1 < (l0.length : Int)) = true := decide_eq_true c3
   clear c3
   by_cases c4 : 0 ≤ x10_1
   rotate_left
   ·
    rw [if_neg c4] at H
    exact absurd H (by simp)
   rw [if_pos c4] at H
   have c4b0 : decide (0 ≤ x10_1) = true := decide_eq_true c4
   clear c4
   by_cases c5 : x10_1 < (l0.length : Int)
   rotate_left
   ·
    rw [if_neg c5] at H
    exact absurd H (by simp)
   rw [if_pos c5] at H
   have c5b0 : decide (x10_1 < (l0.length : Int)) = true := decide_eq_true c5
   clear c5
   by_cases c6 : (wrap64 (x5_1 + (wrap64 (1 + (wrap64 (Int.tdiv (wrap64 ((wrap64 ((wrap64 ((((rd_T29 l0 x10_1).f0.f0).size : Int) + (((rd_T29 l0 x10_1).f0.f1).size : Int))) + (((rd_T29 l0 x10_1).f0.f3).size : Int))) + (((rd_T29 l0 x10_1).f1.f3.f2).size : Int))) 20)))))) > a1
   ·
    rw [if_pos c6] at H
    have c6b0 : decide (a1 < (wrap64 (x5_1 + (wrap64 (1 + (wrap64 (Int.tdiv (wrap64 ((wrap64 ((wrap64 ((((rd_T29 l0 x10_1).f0.f0).size : Int) + (((rd_T29 l0 x10_1).f0.f1).size : Int))) + (((rd_T29 l0 x10_1).f0.f3).size : Int))) + (((rd_T29 l0 x10_1).f1.f3.f2).size : Int))) 20))))))) = true := decide_eq_true c6
    clear c6
    obtain rfl := Option.some.inj H
    have p158 : 0 ≤ (x10_1 : Int) := of_decide_eq_true (by first | (with_reducible assumption) | assumption)
    have q158 : x10_1 < (l0.length : Int) := of_decide_eq_true (by first | (with_reducible assumption) | assumption)
    obtain ⟨ad158, e158, hx158_0, hx158_1, hx158_2, hx158_3, hx158_4, hx158_5, hx158_6, hx158_7, hx158_8, hx158_9⟩ := at_T29 HR0.out x10_1 p158 q158
    cases e158
    replace hx158_0 := cB_ HB hx158_0
    replace hx158_1 := cB_ HB hx158_1
    replace hx158_2 := cB_ HB hx158_2
    replace hx158_3 := cB_ HB hx158_3
    replace hx158_4 := cB_ HB hx158_4
    replace hx158_5 := cB_ HB hx158_5
    replace hx158_6 := cB_ HB hx158_6
    replace hx158_7 := cB_ HB hx158_7
    replace hx158_8 := cB_ HB hx158_8
    replace hx158_9 := cB_ HB hx158_9
    replace p158 := eq_true p158
    replace q158 := eq_true q158
    go_wp2_with (first | ((with_reducible refine gate_dst (N := 7) rfl ?_); refine box_event ?hg (N := 7) ?hd (cs := #[.string (⟨#[]⟩ : ByteArray), .string (⟨#[]⟩ : ByteArray), .int .i64 0, .string (⟨#[]⟩ : ByteArray), .int .i64 0, .bool false, .int .i64 0, .int .i64 0, .int .i64 0, .string (⟨#[]⟩ : ByteArray)]) (t := 29) ?hr ?_; (case hd => rfl); (case hg => rfl); (case hr => first | (go_simp; done) | (go_simp; rfl)); intro gb159 hg w7 hbox hb; have BK159 := Aside0.mk (hbox); have GW159 := Aside0.mk ((by rw [hg]; exact (bZ_ (kwW HB)) : w.heap.size ≤ gb159)); replace HB := Aside0.mk (below_step (kwW HB) hb); have GE159 := GW159; clear hb hbox hg; obtain ⟨_, _, _, _, _, _, _, _, _, _, _, _, _, _, _, _, _, _, _, _⟩ := czf10 BK159))
    go_ret
    exact ⟨by first | rfl | (simp <;> rfl) | (simp [*] <;> rfl), by repeat (first | (with_reducible first | exact HB.out | apply bA_ | apply bN_ | apply bD_ | refine bS_ ?_ GE159) | exact HB.out)⟩
   ·
    rw [if_neg c6] at H
    have c6b0 : decide (a1 < (wrap64 (x5_1 + (wrap64 (1 + (wrap64 (Int.tdiv (wrap64 ((wrap64 ((wrap64 ((((rd_T29 l0 x10_1).f0.f0).size : Int) + (((rd_T29 l0 x10_1).f0.f1).size : Int))) + (((rd_T29 l0 x10_1).f0.f3).size : Int))) + (((rd_T29 l0 x10_1).f1.f3.f2).size : Int))) 20))))))) = false := decide_eq_false c6
    clear c6
    have H' := Aside0.mk H
    clear H
    have p158 : 0 ≤ (x10_1 : Int) := of_decide_eq_true (by first | (with_reducible assumption) | assumption)
    have q158 : x10_1 < (l0.length : Int) := of_decide_eq_true (by first | (with_reducible assumption) | assumption)
    obtain ⟨ad158, e158, hx158_0, hx158_1, hx158_2, hx158_3, hx158_4, hx158_5, hx158_6, hx158_7, hx158_8, hx158_9⟩ := at_T29 HR0.out x10_1 p158 q158
    cases e158
    replace hx158_0 := cB_ HB hx158_0
    replace hx158_1 := cB_ HB hx158_1
    replace hx158_2 := cB_ HB hx158_2
    replace hx158_3 := cB_ HB hx158_3
    replace hx158_4 := cB_ HB hx158_4
    replace hx158_5 := cB_ HB hx158_5
    replace hx158_6 := cB_ HB hx158_6
    replace hx158_7 := cB_ HB hx158_7
    replace hx158_8 := cB_ HB hx158_8
    replace hx158_9 := cB_ HB hx158_9
    replace p158 := eq_true p158
    replace q158 := eq_true q158
    go_wp2_with (first | ((with_reducible refine gate_dst (N := 7) rfl ?_); refine box_event ?hg (N := 7) ?hd (cs := #[.string (⟨#[]⟩ : ByteArray), .string (⟨#[]⟩ : ByteArray), .int .i64 0, .string (⟨#[]⟩ : ByteArray), .int .i64 0, .bool false, .int .i64 0, .int .i64 0, .int .i64 0, .string (⟨#[]⟩ : ByteArray)]) (t := 29) ?hr ?_; (case hd => rfl); (case hg => rfl); (case hr => first | (go_simp; done) | (go_simp; rfl)); intro gb159 hg w9 hbox hb; have BK159 := Aside0.mk (hbox); have GW159 := Aside0.mk ((by rw [hg]; exact (bZ_ (kwW HB)) : w.heap.size ≤ gb159)); replace HB := Aside0.mk (below_step (kwW HB) hb); have GE159 := GW159; clear hb hbox hg; obtain ⟨_, _, _, _, _, _, _, _, _, _, _, _, _, _, _, _, _, _, _, _⟩ := czf10 BK159))
    go_roundg k1
    case measure => have := HK1.out; omega
    case rel => exact ⟨(wrap64 (x5_1 + (wrap64 (1 + (wrap64 (Int.tdiv (wrap64 ((wrap64 ((wrap64 ((((rd_T29 l0 x10_1).f0.f0).size : Int) + (((rd_T29 l0 x10_1).f0.f1).size : Int))) + (((rd_T29 l0 x10_1).f0.f3).size : Int))) + (((rd_T29 l0 x10_1).f1.f3.f2).size : Int))) 20)))))), (wrap64 (x10_1 + 1)), (by first | rfl | (simp; done) | (simp [bne, *]; done)), (by first | rfl | (simp; done) | (simp [bne, *]; done)), H', ⟨by have := HK1.out; omega⟩, ⟨by repeat (first | (with_reducible first | exact HB.out | apply bA_ | apply bN_ | apply bD_ | refine bS_ ?_ GE159) | exact HB.out)⟩⟩
end Go.Proofs.Ytaedmofnhjaljaa.Q
namespace Go.Proofs.Ytaedmofnhjaljaa.Pl
open Go Go.RowKit Go.Proofs.YtaedmofnhjaljaaW.PrintWords Go.Proofs.Ytaedmofnhjaljaa.Q
def szC (c : S29) : Nat := c.f0.f0.size + c.f0.f1.size + c.f0.f3.size + c.f1.f3.f2.size
structure FineC (c : S29) : Prop where
 a : c.f0.f0.size ≤ 140737488351232
 b : c.f0.f1.size ≤ 140737488351232
 e : c.f0.f3.size ≤ 140737488351232
 d : c.f1.f3.f2.size ≤ 140737488351232
theorem w64 (n : Nat) (h : n < 4611686018427387904) : wrap64 (n : Int) = (n : Int) := by unfold wrap64; omega
theorem w64a (a b : Nat) (h : a + b < 4611686018427387904) : wrap64 ((a : Int) + (b : Int)) = ((a + b : Nat) : Int) := by rw [← Int.natCast_add]; exact w64 _ h
theorem w64d (a : Nat) (h : a < 4611686018427387904) : wrap64 (Int.tdiv (a : Int) 20) = ((a / 20 : Nat) : Int) := by
 rw [show (20 : Int) = ((20 : Nat) : Int) from rfl, ← Int.ofNat_tdiv]; exact w64 _ (by omega)
theorem weigh_sum {n a b c d : Nat} (hn : n ≤ 1000) (ha : a ≤ 140737488351232) (hb : b ≤ 140737488351232) (hc : c ≤ 140737488351232) (hd : d ≤ 140737488351232) :
  wrap64 ((n : Int) + wrap64 (1 + wrap64 (Int.tdiv (wrap64 (wrap64 (wrap64 ((a : Int) + (b : Int)) + (c : Int)) + (d : Int))) 20))) = ((n + (1 + (a + b + c + d) / 20) : Nat) : Int) := by
 rw [w64a a b (by omega), w64a (a + b) c (by omega), w64a (a + b + c) d (by omega), w64d _ (by omega), show (1 : Int) = ((1 : Nat) : Int) from rfl, w64a 1 _ (by omega), w64a n _ (by omega)]
theorem weigh_next {i n : Nat} (hi : i < n) (hn : n ≤ 1256584717458) : wrap64 ((i : Int) + 1) = ((i + 1 : Nat) : Int) := w64a i 1 (by omega)
theorem rd_at (l : List (S29)) (i : Nat) (hi : i < l.length) : rd_T29 l (i : Int) = l[i] := by
 unfold rd_T29; simp [List.getD_eq_getElem?_getD, List.getElem?_eq_getElem hi]
theorem weigh_l0 (m : Nat) (hm : m ≤ 1000) (l : List (S29)) (hF : ∀ c ∈ l, FineC c) (hl : l.length ≤ 1256584717458) : ∀ (d i k n : Nat), i + d = l.length → d < k → n ≤ m →
  ∃ r : Nat, skerrylaw05_weigh.l0 k (m : Int) (n : Int) l (l.length : Int) (i : Int) = some (r : Int) ∧ (r > m ∨ (n + d ≤ r ∧ ∀ c ∈ l.drop i, szC c ≤ 20 * r))
 | _, _, 0, _, _, hk, _ => by omega
 | 0, i, k + 1, n, hd, hk, hn => by
  refine ⟨n, ?_, .inr ⟨by omega, fun c hc => ?_⟩⟩
  ·
   rw [skerrylaw05_weigh.l0, if_neg (by omega)]
  ·
   rw [List.drop_eq_nil_of_le (by omega)] at hc; cases hc
 | d + 1, i, k + 1, n, hd, hk, hn => by
  have hi : i < l.length := by omega
  obtain ⟨c, hc⟩ : ∃ c, l[i] = c := ⟨_, rfl⟩
  have hrd : rd_T29 l (i : Int) = c := (rd_at l i hi).trans hc
  have hcF := hF c (by rw [← hc]; exact List.getElem_mem hi)
  have hs := weigh_sum (n := n) (by omega) hcF.a hcF.b hcF.e hcF.d
  have hdr : l.drop i = c :: l.drop (i + 1) := by rw [List.drop_eq_getElem_cons hi, hc]
  rw [skerrylaw05_weigh.l0, if_pos (by omega), if_pos (by omega), if_pos (by omega)]
  simp only [hrd, hs, weigh_next hi hl]
  have hz : szC c = c.f0.f0.size + c.f0.f1.size + c.f0.f3.size + c.f1.f3.f2.size := rfl
  rw [← hz]
  by_cases hgt : ((n + (1 + szC c / 20) : Nat) : Int) > (m : Int)
  ·
   rw [if_pos hgt]
   exact ⟨_, rfl, .inl (by omega)⟩
  ·
   rw [if_neg hgt]
   obtain ⟨r, e, h⟩ := weigh_l0 m hm l hF hl d (i + 1) k (n + (1 + szC c / 20)) (by omega) (by omega) (by omega)
   refine ⟨r, e, h.imp id fun ⟨h1, h2⟩ => ⟨by omega, fun x hx => ?_⟩⟩
   rw [hdr] at hx
   rcases List.mem_cons.1 hx with rfl | hx
   ·
    omega
   ·
    exact h2 x hx
theorem weigh_f (m : Nat) (hm : m ≤ 1000) (l : List (S29)) (hF : ∀ c ∈ l, FineC c) (hl : l.length ≤ 1256584717458) (k : Nat) (hk : l.length < k) :
  ∃ r : Nat, skerrylaw05_weigh.f k l (m : Int) = some (r : Int) ∧ (r > m ∨ (l.length ≤ r ∧ ∀ c ∈ l, szC c ≤ 20 * r)) := by
 obtain ⟨r, e, h⟩ := weigh_l0 m hm l hF hl l.length 0 k 0 (by omega) hk (Nat.zero_le _)
 exact ⟨r, e, h.imp id fun ⟨h1, h2⟩ => ⟨by omega, by simpa using h2⟩⟩
end Go.Proofs.Ytaedmofnhjaljaa.Pl
namespace Go.Proofs.Ytaedmofnhjaljaa.Q
open Go.RowKit Go.Proofs.YtaedmofnhjaljaaW.PrintWords Go.Proofs.YtaedmofnhjaljaaW.PrintLast Go.Proofs.YtaedmofnhjaljaaW.PrintMore
attribute [local go_sem] max2_int min2_int max_two min_two max_three min_three max_four min_four
set_option linter.unusedVariables false
set_option linter.unusedSimpArgs false
def skerryref02_eight.l0 : Nat → List Int → Int → Int → Int → Option (Int)
 | 0, _, _, _, _ => none
 | k + 1, x0, x1, x5, x6 => if x6 < 8 then (if (wrap64 (x1 + x6)) < (x0.length : Int) then (if 0 ≤ (wrap64 (x1 + x6)) then (if 0 ≤ (IntKind.u64.wrap (wrap64 (8 * x6))) then (skerryref02_eight.l0 k x0 x1 (Go.bits .or .u64 x5 (shl .u64 (IntKind.u64.wrap (rd x0 (wrap64 (x1 + x6)))) (IntKind.u64.wrap (wrap64 (8 * x6))))) (wrap64 (x6 + 1))) else (none)) else (none)) else (some x5)) else (some x5)
def skerryref02_eight.f (k : Nat) (l0 : List Int) (a1 : Int) : Option (Int) := skerryref02_eight.l0 k l0 a1 0 0
set_option maxHeartbeats 8000000 in
set_option maxRecDepth 100000 in
theorem skerryref02_eight.calls (k : Nat) (A0 : Option Addr) (c0 : Nat) (l0 : List Int) (a1 : Int) (r : Int) (w : World) (hr0 : Kd.C (Kd.int .u8) w A0 l0.length l0) (hc0 : l0.length ≤ c0) (h : skerryref02_eight.f k l0 a1 = some r) :
  Calls Try.prog 66 #[.slice A0 l0.length c0, .int .i64 a1] w fun e w' => e = .returned (.int .u64 r) ∧ Drawn0 w w' := by
 have HR0 := Aside0.mk hr0
 have HC0 := Aside0.mk hc0
 clear hr0 hc0
 have H : (skerryref02_eight.l0 k l0 a1 0 0) = some r := h
 clear h
 have H' := Aside0.mk H
 clear H
 go_enter Try.func66, Try.ntmps66
 go_wp2
 go_loopg [5, 6] k (fun kq v5 v6 w' => ∃ (x5_1 : Int) (x6_1 : Int), v5 = .int .u64 x5_1 ∧ v6 = .int .i64 x6_1 ∧ Aside0 (skerryref02_eight.l0 kq l0 a1 x5_1 x6_1 = some r) ∧ Aside0 (kq ≤ k) ∧ Drawn0 w w')
 case atStart => exact ⟨(0), (0), (by first | rfl | (simp; done) | (simp [bne, *]; done)), (by first | rfl | (simp; done) | (simp [bne, *]; done)), H', ⟨Nat.le_refl _⟩, by repeat (first | exact Drawn0.refl _ | apply Drawn0.step)⟩
 case round =>
  clear H'
  try clear p2
  obtain ⟨x5_1, x6_1, rfl, rfl, HA, HK1, ⟨m1, rfl⟩⟩ := hrel
  cases gk with
  | zero => exact absurd HA.out (by simp [skerryref02_eight.l0])
  | succ k1 =>
   have H := HA.out
   clear HA
   simp only [skerryref02_eight.l0] at H
   by_cases c3 : x6_1 < 8
   rotate_left
   ·
    rw [if_neg c3] at H
    have c3b0 : decide (x6_1 < 8) = false := decide_eq_false c3
    clear c3
    obtain rfl := Option.some.inj H
    go_wp2
    go_ret
    exact ⟨by first | rfl | (simp; done) | (simp [*]; done), by repeat (first | exact Drawn0.refl _ | apply Drawn0.step)⟩
   rw [if_pos c3] at H
   have c3b0 : decide (x6_1 < 8) = true := decide_eq_true c3
   clear c3
   by_cases c4 : (wrap64 (a1 + x6_1)) < (l0.length : Int)
   rotate_left
   ·
    rw [if_neg c4] at H
    have c4b0 : decide ((wrap64 (a1 + x6_1)) < (l0.length : Int)) = false := decide_eq_false c4
    clear c4
    obtain rfl := Option.some.inj H
    go_wp2
    go_ret
    exact ⟨by first | rfl | (simp; done) | (simp [*]; done), by repeat (first | exact Drawn0.refl _ | apply Drawn0.step)⟩
   rw [if_pos c4] at H
   have c4b0 : decide ((wrap64 (a1 + x6_1)) < (l0.length : Int)) = true := decide_eq_true c4
   clear c4
   obtain ⟨ji5, hji5⟩ : ∃ j_ : Int, (wrap64 (a1 + x6_1)) = j_ := ⟨_, rfl⟩
   replace H : (if 0 ≤ (ji5) then (if 0 ≤ (IntKind.u64.wrap (wrap64 (8 * x6_1))) then (skerryref02_eight.l0 k1 l0 a1 (Go.bits .or .u64 x5_1 (shl .u64 (IntKind.u64.wrap (rd l0 (ji5))) (IntKind.u64.wrap (wrap64 (8 * x6_1))))) (wrap64 (x6_1 + 1))) else (none)) else (none)) = some r := by first | (rw [hji5] at H; exact H) | (simp only [hji5] at H ⊢; exact H)
   (try rw [hji5] at c4b0)
   have hji5w : (IntKind.i64.wrap (a1 + x6_1)) = ji5 := (i64_w _).trans hji5
   by_cases c6 : 0 ≤ (ji5)
   rotate_left
   ·
    rw [if_neg c6] at H
    exact absurd H (by simp)
   rw [if_pos c6] at H
   have c6b0 : decide (0 ≤ (ji5)) = true := decide_eq_true c6
   clear c6
   obtain ⟨ji7, hji7⟩ : ∃ j_ : Int, (IntKind.u64.wrap (wrap64 (8 * x6_1))) = j_ := ⟨_, rfl⟩
   replace H : (if 0 ≤ (ji7) then (skerryref02_eight.l0 k1 l0 a1 (Go.bits .or .u64 x5_1 (shl .u64 (IntKind.u64.wrap (rd l0 (ji5))) (ji7))) (wrap64 (x6_1 + 1))) else (none)) = some r := by first | (rw [hji7] at H; exact H) | (simp only [hji7] at H ⊢; exact H)
   by_cases c8 : 0 ≤ (ji7)
   rotate_left
   ·
    rw [if_neg c8] at H
    exact absurd H (by simp)
   rw [if_pos c8] at H
   have c8b0 := eq_true c8
   have c8b1 : decide (0 ≤ (ji7)) = true := decide_eq_true c8
   clear c8
   obtain ⟨ji9, hji9⟩ : ∃ j_ : Int, (shl .u64 (IntKind.u64.wrap (rd l0 (ji5))) (ji7)) = j_ := ⟨_, rfl⟩
   replace H : (skerryref02_eight.l0 k1 l0 a1 (Go.bits .or .u64 x5_1 (ji9)) (wrap64 (x6_1 + 1))) = some r := by first | (rw [hji9] at H; exact H) | (simp only [hji9] at H ⊢; exact H)
   have hji9_ : (IntKind.u64.wrap ((IntKind.u64.wrap (rd l0 (ji5))) * 2 ^ min (ji7).toNat 64)) = ji9 := hji9
   have hji9z : (ji7) ≤ 64 → (IntKind.u64.wrap ((IntKind.u64.wrap (rd l0 (ji5))) * 2 ^ (ji7).toNat)) = ji9 := shl_small hji9
   have H' := Aside0.mk H
   clear H
   have p603 : 0 ≤ ((ji5) : Int) := of_decide_eq_true (by first | (with_reducible assumption) | assumption)
   have q603 : (ji5) < (l0.length : Int) := of_decide_eq_true (by first | (with_reducible assumption) | assumption)
   obtain ⟨ad603, e603, hx603_0⟩ := Kd.at_int HR0.out (ji5) p603 q603
   cases e603
   replace p603 := eq_true p603
   replace q603 := eq_true q603
   go_wp2
   go_roundg k1
   case measure => have := HK1.out; omega
   case rel => exact ⟨(Go.bits .or .u64 x5_1 (ji9)), (wrap64 (x6_1 + 1)), (by first | rfl | (simp; done) | (simp only [← hji9] <;> (first | rfl | simp)) | (simp [*]; done)), (by first | rfl | (simp; done) | (simp [bne, *]; done)), H', ⟨by have := HK1.out; omega⟩, by repeat (first | exact Drawn0.refl _ | apply Drawn0.step)⟩
def skerryref02_rotl.f (a0 : Int) (a1 : Int) : Option (Int) := if 0 ≤ a1 then (if 0 ≤ (IntKind.u64.wrap (64 - a1)) then (some (Go.bits .or .u64 (shl .u64 a0 a1) (shr .u64 a0 (IntKind.u64.wrap (64 - a1))))) else (none)) else (none)
set_option maxHeartbeats 8000000 in
set_option maxRecDepth 100000 in
theorem skerryref02_rotl.calls (a0 : Int) (a1 : Int) (r : Int) (w : World) (h : skerryref02_rotl.f a0 a1 = some r) :
  Calls Try.prog 67 #[.int .u64 a0, .int .u64 a1] w fun e w' => e = .returned (.int .u64 r) ∧ Drawn0 w w' := by
 have H : (if 0 ≤ a1 then (if 0 ≤ (IntKind.u64.wrap (64 - a1)) then (some (Go.bits .or .u64 (shl .u64 a0 a1) (shr .u64 a0 (IntKind.u64.wrap (64 - a1))))) else (none)) else (none)) = some r := h
 clear h
 by_cases c3 : 0 ≤ a1
 ·
  rw [if_pos c3] at H
  have c3b0 := eq_true c3
  have c3b1 : decide (0 ≤ a1) = true := decide_eq_true c3
  clear c3
  obtain ⟨ji4, hji4⟩ : ∃ j_ : Int, (shl .u64 a0 a1) = j_ := ⟨_, rfl⟩
  replace H : (if 0 ≤ (IntKind.u64.wrap (64 - a1)) then (some (Go.bits .or .u64 (ji4) (shr .u64 a0 (IntKind.u64.wrap (64 - a1))))) else (none)) = some r := by first | (rw [hji4] at H; exact H) | (simp only [hji4] at H ⊢; exact H)
  have hji4_ : (IntKind.u64.wrap (a0 * 2 ^ min a1.toNat 64)) = ji4 := hji4
  have hji4z : a1 ≤ 64 → (IntKind.u64.wrap (a0 * 2 ^ a1.toNat)) = ji4 := shl_small hji4
  obtain ⟨ji5, hji5⟩ : ∃ j_ : Int, (IntKind.u64.wrap (64 - a1)) = j_ := ⟨_, rfl⟩
  replace H : (if 0 ≤ (ji5) then (some (Go.bits .or .u64 (ji4) (shr .u64 a0 (ji5)))) else (none)) = some r := by first | (rw [hji5] at H; exact H) | (simp only [hji5] at H ⊢; exact H)
  by_cases c6 : 0 ≤ (ji5)
  ·
   rw [if_pos c6] at H
   have c6b0 := eq_true c6
   have c6b1 : decide (0 ≤ (ji5)) = true := decide_eq_true c6
   clear c6
   obtain ⟨ji7, hji7⟩ : ∃ j_ : Int, (shr .u64 a0 (ji5)) = j_ := ⟨_, rfl⟩
   replace H : (some (Go.bits .or .u64 (ji4) (ji7))) = some r := by first | (rw [hji7] at H; exact H) | (simp only [hji7] at H ⊢; exact H)
   have hji7_ : (a0 / 2 ^ min (ji5).toNat 64) = ji7 := hji7
   have hji7z : (ji5) ≤ 64 → (a0 / 2 ^ (ji5).toNat) = ji7 := shr_small hji7
   obtain rfl := Option.some.inj H
   go_enter Try.func67, Try.ntmps67
   go_wp2
   go_ret
   exact ⟨by first | rfl | (simp; done) | (simp only [← hji4, ← hji5, ← hji7] <;> (first | rfl | simp)) | (simp [*]; done), by repeat (first | exact Drawn0.refl _ | apply Drawn0.step)⟩
  ·
   rw [if_neg c6] at H
   exact absurd H (by simp)
 ·
  rw [if_neg c3] at H
  exact absurd H (by simp)
def skerryref02_Mix.f (a0 : Int) : Option (Int) := some (Go.bits .xor .u64 (IntKind.u64.wrap ((Go.bits .xor .u64 (IntKind.u64.wrap ((Go.bits .xor .u64 a0 (a0 / 8589934592)) * 18397679294719823053)) ((IntKind.u64.wrap ((Go.bits .xor .u64 a0 (a0 / 8589934592)) * 18397679294719823053)) / 8589934592)) * 14181476777654086739)) ((IntKind.u64.wrap ((Go.bits .xor .u64 (IntKind.u64.wrap ((Go.bits .xor .u64 a0 (a0 / 8589934592)) * 18397679294719823053)) ((IntKind.u64.wrap ((Go.bits .xor .u64 a0 (a0 / 8589934592)) * 18397679294719823053)) / 8589934592)) * 14181476777654086739)) / 8589934592))
set_option maxHeartbeats 8000000 in
set_option maxRecDepth 100000 in
theorem skerryref02_Mix.calls (a0 : Int) (r : Int) (w : World) (h : skerryref02_Mix.f a0 = some r) :
  Calls Try.prog 68 #[.int .u64 a0] w fun e w' => e = .returned (.int .u64 r) ∧ Drawn0 w w' := by
 have H : (some (Go.bits .xor .u64 (IntKind.u64.wrap ((Go.bits .xor .u64 (IntKind.u64.wrap ((Go.bits .xor .u64 a0 (a0 / 8589934592)) * 18397679294719823053)) ((IntKind.u64.wrap ((Go.bits .xor .u64 a0 (a0 / 8589934592)) * 18397679294719823053)) / 8589934592)) * 14181476777654086739)) ((IntKind.u64.wrap ((Go.bits .xor .u64 (IntKind.u64.wrap ((Go.bits .xor .u64 a0 (a0 / 8589934592)) * 18397679294719823053)) ((IntKind.u64.wrap ((Go.bits .xor .u64 a0 (a0 / 8589934592)) * 18397679294719823053)) / 8589934592)) * 14181476777654086739)) / 8589934592))) = some r := h
 clear h
 obtain rfl := Option.some.inj H
 go_enter Try.func68, Try.ntmps68
 go_wp2
 go_ret
 exact ⟨by first | rfl | (simp; done) | (simp [*]; done), by repeat (first | exact Drawn0.refl _ | apply Drawn0.step)⟩
end Go.Proofs.Ytaedmofnhjaljaa.Q
