/- Lemmas for this claim's walk: no condition of their own. -/
import Derived.Test.YtabiekkebdocnaaZeSq
import Derived.Test.YtabiekkebdocnaaZeQx0
import Derived.Test.YtabiekkebdocnaaZeQx24
namespace Go.Proofs.Ytabiekkebdocnaa.Q
open Go.RowKit Go.Proofs.YtabiekkebdocnaaW.PrintWords Go.Proofs.YtabiekkebdocnaaW.PrintLast Go.Proofs.YtabiekkebdocnaaW.PrintMore
attribute [local go_sem] max2_int min2_int max_two min_two max_three min_three max_four min_four
set_option linter.unusedVariables false
set_option linter.unusedSimpArgs false
def skerryref05_Cmp.f (a0_0 : Int) (a0_1 : Bool) (a0_2 : Int) (a0_3 : Int) (a0_4 : Int) (a0_5 : ByteArray) (a1_0 : Int) (a1_1 : Bool) (a1_2 : Int) (a1_3 : Int) (a1_4 : Int) (a1_5 : ByteArray) : Option (Int) := if a0_0 = a1_0 then (if (a0_1 != a1_1) = true then (if a0_1 = true then (some 1) else (some (-1))) else (if a0_1 = true then ((skerryref05_ints.f a0_2 a1_2).bind fun t304 => (some t304)) else (if a0_3 = a1_3 then (if a0_4 = a1_4 then (if (Op.bytesLess a0_5.toList a1_5.toList) = true then (some (-1)) else (if a0_5.toList = a1_5.toList then (some 0) else (some 1))) else ((skerryref05_ints.f a0_4 a1_4).bind fun t306 => (some t306))) else ((skerryref05_ints.f a0_3 a1_3).bind fun t305 => (some t305))))) else ((skerryref05_ints.f a0_0 a1_0).bind fun t303 => (some t303))
set_option maxHeartbeats 8000000 in
set_option maxRecDepth 100000 in
theorem skerryref05_Cmp.calls (a0_0 : Int) (a0_1 : Bool) (a0_2 : Int) (a0_3 : Int) (a0_4 : Int) (a0_5 : ByteArray) (a1_0 : Int) (a1_1 : Bool) (a1_2 : Int) (a1_3 : Int) (a1_4 : Int) (a1_5 : ByteArray) (r : Int) (w : World) (h : skerryref05_Cmp.f a0_0 a0_1 a0_2 a0_3 a0_4 a0_5 a1_0 a1_1 a1_2 a1_3 a1_4 a1_5 = some r) :
  Calls Try.prog 35 #[.agg #[.int .i64 a0_0, .bool a0_1, .int .i64 a0_2, .int .i64 a0_3, .int .i64 a0_4, .string a0_5], .agg #[.int .i64 a1_0, .bool a1_1, .int .i64 a1_2, .int .i64 a1_3, .int .i64 a1_4, .string a1_5]] w fun e w' => e = .returned (.int .i64 r) ∧ Below w.heap.size w w' := by
 have hu37 := Try.underlying37
 have HB := Aside0.mk (Below.refl w.heap.size w)
 have H : (if a0_0 = a1_0 then (if (a0_1 != a1_1) = true then (if a0_1 = true then (some 1) else (some (-1))) else (if a0_1 = true then ((skerryref05_ints.f a0_2 a1_2).bind fun t304 => (some t304)) else (if a0_3 = a1_3 then (if a0_4 = a1_4 then (if (Op.bytesLess a0_5.toList a1_5.toList) = true then (some (-1)) else (if a0_5.toList = a1_5.toList then (some 0) else (some 1))) else ((skerryref05_ints.f a0_4 a1_4).bind fun t306 => (some t306))) else ((skerryref05_ints.f a0_3 a1_3).bind fun t305 => (some t305))))) else ((skerryref05_ints.f a0_0 a1_0).bind fun t303 => (some t303))) = some r := h
 clear h
 by_cases c3 : a0_0 = a1_0
 rotate_left
 ·
  rw [if_neg c3] at H
  have c3b0 : (a0_0 == a1_0) = false := beq_eq_false_iff_ne.mpr c3
  have c3b1 : (a0_0 != a1_0) = true := bne_iff_ne.mpr c3
  replace H := Option.bind_eq_some_iff.mp H
  obtain ⟨t303, A540, H⟩ := H
  have A54 := Aside0.mk A540
  clear A540
  obtain rfl := Option.some.inj H
  go_enter Try.func35, Try.ntmps35
  go_wp2_with (first | ((with_reducible refine gate_dst (N := 2) rfl ?_); refine box_event ?hg (N := 2) ?hd (cs := #[.int .i64 a0_0, .bool a0_1, .int .i64 a0_2, .int .i64 a0_3, .int .i64 a0_4, .string a0_5]) (t := 37) ?hr ?_; (case hd => rfl); (case hg => rfl); (case hr => first | (go_simp; done) | (go_simp; rfl)); intro gb301 hg w55 hbox hb; have BK301 := Aside0.mk (hbox); have GW301 := Aside0.mk ((by rw [hg]; exact (bZ_ (kwW HB)) : w.heap.size ≤ gb301)); replace HB := Aside0.mk (below_step (kwW HB) hb); have GE301 := GW301; clear hb hbox hg) | ((with_reducible refine gate_dst (N := 3) rfl ?_); refine box_event ?hg (N := 3) ?hd (cs := #[.int .i64 a1_0, .bool a1_1, .int .i64 a1_2, .int .i64 a1_3, .int .i64 a1_4, .string a1_5]) (t := 37) ?hr ?_; (case hd => rfl); (case hg => rfl); (case hr => first | (go_simp; done) | (go_simp; rfl)); intro gb302 hg w56 hbox hb; have BK302 := Aside0.mk (hbox); have GW302 := Aside0.mk ((by rw [hg]; exact (bZ_ (by repeat (first | (with_reducible first | exact HB.out | apply bA_ | apply bN_ | apply bD_ | refine bS_ ?_ GE301) | exact HB.out))) : w.heap.size ≤ gb302)); replace HB := Aside0.mk (below_step (by repeat (first | (with_reducible first | exact HB.out | apply bA_ | apply bN_ | apply bD_ | refine bS_ ?_ GE301) | exact HB.out)) hb); have GE302 := GW302; have NB301_302 := Aside0.mk ((by rw [hg]; exact Nat.ne_of_lt (blk_lt (kbW BK301)) : gb301 ≠ gb302)); have NB302_301 := Aside0.mk ((by rw [hg]; exact Nat.ne_of_gt (blk_lt (kbW BK301)) : gb302 ≠ gb301)); replace BK301 := kB BK301 hb; clear hb hbox hg; have hnb57 := NB301_302.out; have hnc57 := NB302_301.out; obtain ⟨_, _, _, _, _, _, _, _, _, _, _, _⟩ := czf6 BK301; obtain ⟨_, _, _, _, _, _, _, _, _, _, _, _⟩ := czf6 BK302) | ((with_reducible refine gate_callee (f := 52) rfl ?_); refine goesL_ (some 14) rfl rfl Try.func52 (by kernel_rfl) rfl #[.int .i64 a0_0, .int .i64 a1_0] rfl (by (try simp only [mT_, mC_, mN_]); first | done | rfl) ?_; (with_reducible refine (skerryref05_ints.calls a0_0 a1_0 t303 _ A54.out).mono ?_); rintro e w' ⟨rfl, ⟨nd, rfl⟩⟩; refine ⟨_, rfl, ?_⟩))
  go_ret
  exact ⟨by first | rfl | (simp <;> rfl) | (simp [*] <;> rfl), by repeat (first | (with_reducible first | exact HB.out | apply bA_ | apply bN_ | apply bD_ | refine bS_ ?_ GE301 | refine bS_ ?_ GE302) | exact HB.out)⟩
 rw [if_pos c3] at H
 have c3b0 : (a0_0 == a1_0) = true := beq_iff_eq.mpr c3
 have c3b1 : (a0_0 != a1_0) = false := bne_eq_false_iff_eq.mpr c3
 clear c3
 by_cases c4 : (a0_1 != a1_1) = true
 ·
  rw [if_pos c4] at H
  have c4b0 : (a0_1 != a1_1) = true := c4
  (try (have c4b1 : decide (a0_1 = a1_1) = false := by simpa using c4))
  (try (have c4b2 : (a0_1 == a1_1) = false := by simpa using c4))
  (try (have c4b3 : ¬ (a0_1 = a1_1) := by simpa using c4))
  clear c4
  by_cases c5 : a0_1 = true
  ·
   subst c5
   try simp only [Bool.true_beq, Bool.false_beq, beq_true, beq_false, Bool.true_bne, Bool.false_bne, Bool.bne_true, Bool.bne_false, Bool.not_not] at c4b0
   have H1 : (some 1) = some r := by rw [if_pos rfl] at H; exact H
   clear H
   have H := H1
   clear H1
   obtain rfl := Option.some.inj H
   go_enter Try.func35, Try.ntmps35
   go_wp2_with (first | ((with_reducible refine gate_dst (N := 2) rfl ?_); refine box_event ?hg (N := 2) ?hd (cs := #[.int .i64 a0_0, .bool true, .int .i64 a0_2, .int .i64 a0_3, .int .i64 a0_4, .string a0_5]) (t := 37) ?hr ?_; (case hd => rfl); (case hg => rfl); (case hr => first | (go_simp; done) | (go_simp; rfl)); intro gb301 hg w6 hbox hb; have BK301 := Aside0.mk (hbox); have GW301 := Aside0.mk ((by rw [hg]; exact (bZ_ (kwW HB)) : w.heap.size ≤ gb301)); replace HB := Aside0.mk (below_step (kwW HB) hb); have GE301 := GW301; clear hb hbox hg) | ((with_reducible refine gate_dst (N := 3) rfl ?_); refine box_event ?hg (N := 3) ?hd (cs := #[.int .i64 a1_0, .bool a1_1, .int .i64 a1_2, .int .i64 a1_3, .int .i64 a1_4, .string a1_5]) (t := 37) ?hr ?_; (case hd => rfl); (case hg => rfl); (case hr => first | (go_simp; done) | (go_simp; rfl)); intro gb302 hg w7 hbox hb; have BK302 := Aside0.mk (hbox); have GW302 := Aside0.mk ((by rw [hg]; exact (bZ_ (by repeat (first | (with_reducible first | exact HB.out | apply bA_ | apply bN_ | apply bD_ | refine bS_ ?_ GE301) | exact HB.out))) : w.heap.size ≤ gb302)); replace HB := Aside0.mk (below_step (by repeat (first | (with_reducible first | exact HB.out | apply bA_ | apply bN_ | apply bD_ | refine bS_ ?_ GE301) | exact HB.out)) hb); have GE302 := GW302; have NB301_302 := Aside0.mk ((by rw [hg]; exact Nat.ne_of_lt (blk_lt (kbW BK301)) : gb301 ≠ gb302)); have NB302_301 := Aside0.mk ((by rw [hg]; exact Nat.ne_of_gt (blk_lt (kbW BK301)) : gb302 ≠ gb301)); replace BK301 := kB BK301 hb; clear hb hbox hg; have hnb8 := NB301_302.out; have hnc8 := NB302_301.out; obtain ⟨_, _, _, _, _, _, _, _, _, _, _, _⟩ := czf6 BK301; obtain ⟨hcz10_0, hcz10_1, hcz10_2, hcz10_3, hcz10_4, hcz10_5, hfz10_0, hfz10_1, hfz10_2, hfz10_3, hfz10_4, hfz10_5⟩ := czf6 BK302))
   go_ret
   exact ⟨by first | rfl | (simp <;> rfl) | (simp [*] <;> rfl), by repeat (first | (with_reducible first | exact HB.out | apply bA_ | apply bN_ | apply bD_ | refine bS_ ?_ GE301 | refine bS_ ?_ GE302) | exact HB.out)⟩
  ·
   replace c5 := Bool.eq_false_iff.mpr c5
   subst c5
   try simp only [Bool.true_beq, Bool.false_beq, beq_true, beq_false, Bool.true_bne, Bool.false_bne, Bool.bne_true, Bool.bne_false, Bool.not_not] at c4b0
   have H1 : (some (-1)) = some r := by rw [if_neg (show ¬ (false = true) by decide)] at H; exact H
   clear H
   have H := H1
   clear H1
   obtain rfl := Option.some.inj H
   go_enter Try.func35, Try.ntmps35
   go_wp2_with (first | ((with_reducible refine gate_dst (N := 2) rfl ?_); refine box_event ?hg (N := 2) ?hd (cs := #[.int .i64 a0_0, .bool false, .int .i64 a0_2, .int .i64 a0_3, .int .i64 a0_4, .string a0_5]) (t := 37) ?hr ?_; (case hd => rfl); (case hg => rfl); (case hr => first | (go_simp; done) | (go_simp; rfl)); intro gb301 hg w11 hbox hb; have BK301 := Aside0.mk (hbox); have GW301 := Aside0.mk ((by rw [hg]; exact (bZ_ (kwW HB)) : w.heap.size ≤ gb301)); replace HB := Aside0.mk (below_step (kwW HB) hb); have GE301 := GW301; clear hb hbox hg) | ((with_reducible refine gate_dst (N := 3) rfl ?_); refine box_event ?hg (N := 3) ?hd (cs := #[.int .i64 a1_0, .bool a1_1, .int .i64 a1_2, .int .i64 a1_3, .int .i64 a1_4, .string a1_5]) (t := 37) ?hr ?_; (case hd => rfl); (case hg => rfl); (case hr => first | (go_simp; done) | (go_simp; rfl)); intro gb302 hg w12 hbox hb; have BK302 := Aside0.mk (hbox); have GW302 := Aside0.mk ((by rw [hg]; exact (bZ_ (by repeat (first | (with_reducible first | exact HB.out | apply bA_ | apply bN_ | apply bD_ | refine bS_ ?_ GE301) | exact HB.out))) : w.heap.size ≤ gb302)); replace HB := Aside0.mk (below_step (by repeat (first | (with_reducible first | exact HB.out | apply bA_ | apply bN_ | apply bD_ | refine bS_ ?_ GE301) | exact HB.out)) hb); have GE302 := GW302; have NB301_302 := Aside0.mk ((by rw [hg]; exact Nat.ne_of_lt (blk_lt (kbW BK301)) : gb301 ≠ gb302)); have NB302_301 := Aside0.mk ((by rw [hg]; exact Nat.ne_of_gt (blk_lt (kbW BK301)) : gb302 ≠ gb301)); replace BK301 := kB BK301 hb; clear hb hbox hg; have hnb13 := NB301_302.out; have hnc13 := NB302_301.out; obtain ⟨hcz14_0, hcz14_1, hcz14_2, hcz14_3, hcz14_4, hcz14_5, hfz14_0, hfz14_1, hfz14_2, hfz14_3, hfz14_4, hfz14_5⟩ := czf6 BK301; obtain ⟨hcz15_0, hcz15_1, hcz15_2, hcz15_3, hcz15_4, hcz15_5, hfz15_0, hfz15_1, hfz15_2, hfz15_3, hfz15_4, hfz15_5⟩ := czf6 BK302))
   go_ret
   exact ⟨by first | rfl | (simp <;> rfl) | (simp [*] <;> rfl), by repeat (first | (with_reducible first | exact HB.out | apply bA_ | apply bN_ | apply bD_ | refine bS_ ?_ GE301 | refine bS_ ?_ GE302) | exact HB.out)⟩
 ·
  rw [if_neg c4] at H
  have c4b0 : (a0_1 != a1_1) = false := by simpa using c4
  (try (have c4b1 : decide (a0_1 = a1_1) = true := by simpa using c4))
  (try (have c4b2 : (a0_1 == a1_1) = true := by simpa using c4))
  clear c4
  by_cases c16 : a0_1 = true
  ·
   subst c16
   try simp only [Bool.true_beq, Bool.false_beq, beq_true, beq_false, Bool.true_bne, Bool.false_bne, Bool.bne_true, Bool.bne_false, Bool.not_not] at c4b0
   have H1 : ((skerryref05_ints.f a0_2 a1_2).bind fun t304 => (some t304)) = some r := by rw [if_pos rfl] at H; exact H
   clear H
   have H := H1
   clear H1
   replace H := Option.bind_eq_some_iff.mp H
   obtain ⟨t304, A170, H⟩ := H
   have A17 := Aside0.mk A170
   clear A170
   obtain rfl := Option.some.inj H
   go_enter Try.func35, Try.ntmps35
   go_wp2_with (first | ((with_reducible refine gate_dst (N := 2) rfl ?_); refine box_event ?hg (N := 2) ?hd (cs := #[.int .i64 a0_0, .bool true, .int .i64 a0_2, .int .i64 a0_3, .int .i64 a0_4, .string a0_5]) (t := 37) ?hr ?_; (case hd => rfl); (case hg => rfl); (case hr => first | (go_simp; done) | (go_simp; rfl)); intro gb301 hg w18 hbox hb; have BK301 := Aside0.mk (hbox); have GW301 := Aside0.mk ((by rw [hg]; exact (bZ_ (kwW HB)) : w.heap.size ≤ gb301)); replace HB := Aside0.mk (below_step (kwW HB) hb); have GE301 := GW301; clear hb hbox hg) | ((with_reducible refine gate_dst (N := 3) rfl ?_); refine box_event ?hg (N := 3) ?hd (cs := #[.int .i64 a1_0, .bool a1_1, .int .i64 a1_2, .int .i64 a1_3, .int .i64 a1_4, .string a1_5]) (t := 37) ?hr ?_; (case hd => rfl); (case hg => rfl); (case hr => first | (go_simp; done) | (go_simp; rfl)); intro gb302 hg w19 hbox hb; have BK302 := Aside0.mk (hbox); have GW302 := Aside0.mk ((by rw [hg]; exact (bZ_ (by repeat (first | (with_reducible first | exact HB.out | apply bA_ | apply bN_ | apply bD_ | refine bS_ ?_ GE301) | exact HB.out))) : w.heap.size ≤ gb302)); replace HB := Aside0.mk (below_step (by repeat (first | (with_reducible first | exact HB.out | apply bA_ | apply bN_ | apply bD_ | refine bS_ ?_ GE301) | exact HB.out)) hb); have GE302 := GW302; have NB301_302 := Aside0.mk ((by rw [hg]; exact Nat.ne_of_lt (blk_lt (kbW BK301)) : gb301 ≠ gb302)); have NB302_301 := Aside0.mk ((by rw [hg]; exact Nat.ne_of_gt (blk_lt (kbW BK301)) : gb302 ≠ gb301)); replace BK301 := kB BK301 hb; clear hb hbox hg; have hnb20 := NB301_302.out; have hnc20 := NB302_301.out; obtain ⟨hcz21_0, hcz21_1, hcz21_2, hcz21_3, hcz21_4, hcz21_5, hfz21_0, hfz21_1, hfz21_2, hfz21_3, hfz21_4, hfz21_5⟩ := czf6 BK301; obtain ⟨_, _, _, _, _, _, _, _, _, _, _, _⟩ := czf6 BK302) | ((with_reducible refine gate_callee (f := 52) rfl ?_); refine goesL_ (some 28) rfl rfl Try.func52 (by kernel_rfl) rfl #[.int .i64 a0_2, .int .i64 a1_2] rfl (by (try simp only [mT_, mC_, mN_]); first | done | rfl) ?_; (with_reducible refine (skerryref05_ints.calls a0_2 a1_2 t304 _ A17.out).mono ?_); rintro e w' ⟨rfl, ⟨nd, rfl⟩⟩; refine ⟨_, rfl, ?_⟩))
   go_ret
   exact ⟨by first | rfl | (simp <;> rfl) | (simp [*] <;> rfl), by repeat (first | (with_reducible first | exact HB.out | apply bA_ | apply bN_ | apply bD_ | refine bS_ ?_ GE301 | refine bS_ ?_ GE302) | exact HB.out)⟩
  ·
   replace c16 := Bool.eq_false_iff.mpr c16
   subst c16
   try simp only [Bool.true_beq, Bool.false_beq, beq_true, beq_false, Bool.true_bne, Bool.false_bne, Bool.bne_true, Bool.bne_false, Bool.not_not] at c4b0
   have H1 : (if a0_3 = a1_3 then (if a0_4 = a1_4 then (if (Op.bytesLess a0_5.toList a1_5.toList) = true then (some (-1)) else (if a0_5.toList = a1_5.toList then (some 0) else (some 1))) else ((skerryref05_ints.f a0_4 a1_4).bind fun t306 => (some t306))) else ((skerryref05_ints.f a0_3 a1_3).bind fun t305 => (some t305))) = some r := by rw [if_neg (show ¬ (false = true) by decide)] at H; exact H
   clear H
   have H := H1
   clear H1
   by_cases c23 : a0_3 = a1_3
   rotate_left
   ·
    rw [if_neg c23] at H
    have c23b0 : (a0_3 == a1_3) = false := beq_eq_false_iff_ne.mpr c23
    have c23b1 : (a0_3 != a1_3) = true := bne_iff_ne.mpr c23
    replace H := Option.bind_eq_some_iff.mp H
    obtain ⟨t305, A480, H⟩ := H
    have A48 := Aside0.mk A480
    clear A480
    obtain rfl := Option.some.inj H
    go_enter Try.func35, Try.ntmps35
    go_wp2_with (first | ((with_reducible refine gate_dst (N := 2) rfl ?_); refine box_event ?hg (N := 2) ?hd (cs := #[.int .i64 a0_0, .bool false, .int .i64 a0_2, .int .i64 a0_3, .int .i64 a0_4, .string a0_5]) (t := 37) ?hr ?_; (case hd => rfl); (case hg => rfl); (case hr => first | (go_simp; done) | (go_simp; rfl)); intro gb301 hg w49 hbox hb; have BK301 := Aside0.mk (hbox); have GW301 := Aside0.mk ((by rw [hg]; exact (bZ_ (kwW HB)) : w.heap.size ≤ gb301)); replace HB := Aside0.mk (below_step (kwW HB) hb); have GE301 := GW301; clear hb hbox hg) | ((with_reducible refine gate_dst (N := 3) rfl ?_); refine box_event ?hg (N := 3) ?hd (cs := #[.int .i64 a1_0, .bool a1_1, .int .i64 a1_2, .int .i64 a1_3, .int .i64 a1_4, .string a1_5]) (t := 37) ?hr ?_; (case hd => rfl); (case hg => rfl); (case hr => first | (go_simp; done) | (go_simp; rfl)); intro gb302 hg w50 hbox hb; have BK302 := Aside0.mk (hbox); have GW302 := Aside0.mk ((by rw [hg]; exact (bZ_ (by repeat (first | (with_reducible first | exact HB.out | apply bA_ | apply bN_ | apply bD_ | refine bS_ ?_ GE301) | exact HB.out))) : w.heap.size ≤ gb302)); replace HB := Aside0.mk (below_step (by repeat (first | (with_reducible first | exact HB.out | apply bA_ | apply bN_ | apply bD_ | refine bS_ ?_ GE301) | exact HB.out)) hb); have GE302 := GW302; have NB301_302 := Aside0.mk ((by rw [hg]; exact Nat.ne_of_lt (blk_lt (kbW BK301)) : gb301 ≠ gb302)); have NB302_301 := Aside0.mk ((by rw [hg]; exact Nat.ne_of_gt (blk_lt (kbW BK301)) : gb302 ≠ gb301)); replace BK301 := kB BK301 hb; clear hb hbox hg; have hnb51 := NB301_302.out; have hnc51 := NB302_301.out; obtain ⟨_, _, _, _, _, _, _, _, _, _, _, _⟩ := czf6 BK301; obtain ⟨_, _, _, _, _, _, _, _, _, _, _, _⟩ := czf6 BK302) | ((with_reducible refine gate_callee (f := 52) rfl ?_); refine goesL_ (some 42) rfl rfl Try.func52 (by kernel_rfl) rfl #[.int .i64 a0_3, .int .i64 a1_3] rfl (by (try simp only [mT_, mC_, mN_]); first | done | rfl) ?_; (with_reducible refine (skerryref05_ints.calls a0_3 a1_3 t305 _ A48.out).mono ?_); rintro e w' ⟨rfl, ⟨nd, rfl⟩⟩; refine ⟨_, rfl, ?_⟩))
    go_ret
    exact ⟨by first | rfl | (simp <;> rfl) | (simp [*] <;> rfl), by repeat (first | (with_reducible first | exact HB.out | apply bA_ | apply bN_ | apply bD_ | refine bS_ ?_ GE301 | refine bS_ ?_ GE302) | exact HB.out)⟩
   rw [if_pos c23] at H
   have c23b0 : (a0_3 == a1_3) = true := beq_iff_eq.mpr c23
   have c23b1 : (a0_3 != a1_3) = false := bne_eq_false_iff_eq.mpr c23
   clear c23
   by_cases c24 : a0_4 = a1_4
   rotate_left
   ·
    rw [if_neg c24] at H
    have c24b0 : (a0_4 == a1_4) = false := beq_eq_false_iff_ne.mpr c24
    have c24b1 : (a0_4 != a1_4) = true := bne_iff_ne.mpr c24
    replace H := Option.bind_eq_some_iff.mp H
    obtain ⟨t306, A420, H⟩ := H
    have A42 := Aside0.mk A420
    clear A420
    obtain rfl := Option.some.inj H
    go_enter Try.func35, Try.ntmps35
    go_wp2_with (first | ((with_reducible refine gate_dst (N := 2) rfl ?_); refine box_event ?hg (N := 2) ?hd (cs := #[.int .i64 a0_0, .bool false, .int .i64 a0_2, .int .i64 a0_3, .int .i64 a0_4, .string a0_5]) (t := 37) ?hr ?_; (case hd => rfl); (case hg => rfl); (case hr => first | (go_simp; done) | (go_simp; rfl)); intro gb301 hg w43 hbox hb; have BK301 := Aside0.mk (hbox); have GW301 := Aside0.mk ((by rw [hg]; exact (bZ_ (kwW HB)) : w.heap.size ≤ gb301)); replace HB := Aside0.mk (below_step (kwW HB) hb); have GE301 := GW301; clear hb hbox hg) | ((with_reducible refine gate_dst (N := 3) rfl ?_); refine box_event ?hg (N := 3) ?hd (cs := #[.int .i64 a1_0, .bool a1_1, .int .i64 a1_2, .int .i64 a1_3, .int .i64 a1_4, .string a1_5]) (t := 37) ?hr ?_; (case hd => rfl); (case hg => rfl); (case hr => first | (go_simp; done) | (go_simp; rfl)); intro gb302 hg w44 hbox hb; have BK302 := Aside0.mk (hbox); have GW302 := Aside0.mk ((by rw [hg]; exact (bZ_ (by repeat (first | (with_reducible first | exact HB.out | apply bA_ | apply bN_ | apply bD_ | refine bS_ ?_ GE301) | exact HB.out))) : w.heap.size ≤ gb302)); replace HB := Aside0.mk (below_step (by repeat (first | (with_reducible first | exact HB.out | apply bA_ | apply bN_ | apply bD_ | refine bS_ ?_ GE301) | exact HB.out)) hb); have GE302 := GW302; have NB301_302 := Aside0.mk ((by rw [hg]; exact Nat.ne_of_lt (blk_lt (kbW BK301)) : gb301 ≠ gb302)); have NB302_301 := Aside0.mk ((by rw [hg]; exact Nat.ne_of_gt (blk_lt (kbW BK301)) : gb302 ≠ gb301)); replace BK301 := kB BK301 hb; clear hb hbox hg; have hnb45 := NB301_302.out; have hnc45 := NB302_301.out; obtain ⟨_, _, _, _, _, _, _, _, _, _, _, _⟩ := czf6 BK301; obtain ⟨_, _, _, _, _, _, _, _, _, _, _, _⟩ := czf6 BK302) | ((with_reducible refine gate_callee (f := 52) rfl ?_); refine goesL_ (some 56) rfl rfl Try.func52 (by kernel_rfl) rfl #[.int .i64 a0_4, .int .i64 a1_4] rfl (by (try simp only [mT_, mC_, mN_]); first | done | rfl) ?_; (with_reducible refine (skerryref05_ints.calls a0_4 a1_4 t306 _ A42.out).mono ?_); rintro e w' ⟨rfl, ⟨nd, rfl⟩⟩; refine ⟨_, rfl, ?_⟩))
    go_ret
    exact ⟨by first | rfl | (simp <;> rfl) | (simp [*] <;> rfl), by repeat (first | (with_reducible first | exact HB.out | apply bA_ | apply bN_ | apply bD_ | refine bS_ ?_ GE301 | refine bS_ ?_ GE302) | exact HB.out)⟩
   rw [if_pos c24] at H
   have c24b0 : (a0_4 == a1_4) = true := beq_iff_eq.mpr c24
   have c24b1 : (a0_4 != a1_4) = false := bne_eq_false_iff_eq.mpr c24
   clear c24
   by_cases c25 : (Op.bytesLess a0_5.toList a1_5.toList) = true
   ·
    rw [if_pos c25] at H
    have c25b0 : (Op.bytesLess a0_5.toList a1_5.toList) = true := c25
    clear c25
    obtain rfl := Option.some.inj H
    go_enter Try.func35, Try.ntmps35
    go_wp2_with (first | ((with_reducible refine gate_dst (N := 2) rfl ?_); refine box_event ?hg (N := 2) ?hd (cs := #[.int .i64 a0_0, .bool false, .int .i64 a0_2, .int .i64 a0_3, .int .i64 a0_4, .string a0_5]) (t := 37) ?hr ?_; (case hd => rfl); (case hg => rfl); (case hr => first | (go_simp; done) | (go_simp; rfl)); intro gb301 hg w26 hbox hb; have BK301 := Aside0.mk (hbox); have GW301 := Aside0.mk ((by rw [hg]; exact (bZ_ (kwW HB)) : w.heap.size ≤ gb301)); replace HB := Aside0.mk (below_step (kwW HB) hb); have GE301 := GW301; clear hb hbox hg) | ((with_reducible refine gate_dst (N := 3) rfl ?_); refine box_event ?hg (N := 3) ?hd (cs := #[.int .i64 a1_0, .bool a1_1, .int .i64 a1_2, .int .i64 a1_3, .int .i64 a1_4, .string a1_5]) (t := 37) ?hr ?_; (case hd => rfl); (case hg => rfl); (case hr => first | (go_simp; done) | (go_simp; rfl)); intro gb302 hg w27 hbox hb; have BK302 := Aside0.mk (hbox); have GW302 := Aside0.mk ((by rw [hg]; exact (bZ_ (by repeat (first | (with_reducible first | exact HB.out | apply bA_ | apply bN_ | apply bD_ | refine bS_ ?_ GE301) | exact HB.out))) : w.heap.size ≤ gb302)); replace HB := Aside0.mk (below_step (by repeat (first | (with_reducible first | exact HB.out | apply bA_ | apply bN_ | apply bD_ | refine bS_ ?_ GE301) | exact HB.out)) hb); have GE302 := GW302; have NB301_302 := Aside0.mk ((by rw [hg]; exact Nat.ne_of_lt (blk_lt (kbW BK301)) : gb301 ≠ gb302)); have NB302_301 := Aside0.mk ((by rw [hg]; exact Nat.ne_of_gt (blk_lt (kbW BK301)) : gb302 ≠ gb301)); replace BK301 := kB BK301 hb; clear hb hbox hg; have hnb28 := NB301_302.out; have hnc28 := NB302_301.out; obtain ⟨_, _, _, _, _, _, _, _, _, _, _, _⟩ := czf6 BK301; obtain ⟨_, _, _, _, _, _, _, _, _, _, _, _⟩ := czf6 BK302))
    go_ret
    exact ⟨by first | rfl | (simp <;> rfl) | (simp [*] <;> rfl), by repeat (first | (with_reducible first | exact HB.out | apply bA_ | apply bN_ | apply bD_ | refine bS_ ?_ GE301 | refine bS_ ?_ GE302) | exact HB.out)⟩
   ·
    rw [if_neg c25] at H
    have c25b0 : (Op.bytesLess a0_5.toList a1_5.toList) = false := by simpa using c25
    clear c25
    by_cases c31 : a0_5.toList = a1_5.toList
    rotate_left
    ·
     rw [if_neg c31] at H
     have c31b0 : (a0_5.toList == a1_5.toList) = false := beq_eq_false_iff_ne.mpr c31
     have c31b1 : (a0_5.toList != a1_5.toList) = true := bne_iff_ne.mpr c31
     obtain rfl := Option.some.inj H
     go_enter Try.func35, Try.ntmps35
     go_wp2_with (first | ((with_reducible refine gate_dst (N := 2) rfl ?_); refine box_event ?hg (N := 2) ?hd (cs := #[.int .i64 a0_0, .bool false, .int .i64 a0_2, .int .i64 a0_3, .int .i64 a0_4, .string a0_5]) (t := 37) ?hr ?_; (case hd => rfl); (case hg => rfl); (case hr => first | (go_simp; done) | (go_simp; rfl)); intro gb301 hg w37 hbox hb; have BK301 := Aside0.mk (hbox); have GW301 := Aside0.mk ((by rw [hg]; exact (bZ_ (kwW HB)) : w.heap.size ≤ gb301)); replace HB := Aside0.mk (below_step (kwW HB) hb); have GE301 := GW301; clear hb hbox hg) | ((with_reducible refine gate_dst (N := 3) rfl ?_); refine box_event ?hg (N := 3) ?hd (cs := #[.int .i64 a1_0, .bool a1_1, .int .i64 a1_2, .int .i64 a1_3, .int .i64 a1_4, .string a1_5]) (t := 37) ?hr ?_; (case hd => rfl); (case hg => rfl); (case hr => first | (go_simp; done) | (go_simp; rfl)); intro gb302 hg w38 hbox hb; have BK302 := Aside0.mk (hbox); have GW302 := Aside0.mk ((by rw [hg]; exact (bZ_ (by repeat (first | (with_reducible first | exact HB.out | apply bA_ | apply bN_ | apply bD_ | refine bS_ ?_ GE301) | exact HB.out))) : w.heap.size ≤ gb302)); replace HB := Aside0.mk (below_step (by repeat (first | (with_reducible first | exact HB.out | apply bA_ | apply bN_ | apply bD_ | refine bS_ ?_ GE301) | exact HB.out)) hb); have GE302 := GW302; have NB301_302 := Aside0.mk ((by rw [hg]; exact Nat.ne_of_lt (blk_lt (kbW BK301)) : gb301 ≠ gb302)); have NB302_301 := Aside0.mk ((by rw [hg]; exact Nat.ne_of_gt (blk_lt (kbW BK301)) : gb302 ≠ gb301)); replace BK301 := kB BK301 hb; clear hb hbox hg; have hnb39 := NB301_302.out; have hnc39 := NB302_301.out; obtain ⟨_, _, _, _, _, _, _, _, _, _, _, _⟩ := czf6 BK301; obtain ⟨_, _, _, _, _, _, _, _, _, _, _, _⟩ := czf6 BK302))
     go_ret
     exact ⟨by first | rfl | (simp <;> rfl) | (simp [*] <;> rfl), by repeat (first | (with_reducible first | exact HB.out | apply bA_ | apply bN_ | apply bD_ | refine bS_ ?_ GE301 | refine bS_ ?_ GE302) | exact HB.out)⟩
    rw [if_pos c31] at H
    have c31b0 : (a0_5.toList == a1_5.toList) = true := beq_iff_eq.mpr c31
    have c31b1 : (a0_5.toList != a1_5.toList) = false := bne_eq_false_iff_eq.mpr c31
    clear c31
    obtain rfl := Option.some.inj H
    go_enter Try.func35, Try.ntmps35
    go_wp2_with (first | ((with_reducible refine gate_dst (N := 2) rfl ?_); refine box_event ?hg (N := 2) ?hd (cs := #[.int .i64 a0_0, .bool false, .int .i64 a0_2, .int .i64 a0_3, .int .i64 a0_4, .string a0_5]) (t := 37) ?hr ?_; (case hd => rfl); (case hg => rfl); (case hr => first | (go_simp; done) | (go_simp; rfl)); intro gb301 hg w32 hbox hb; have BK301 := Aside0.mk (hbox); have GW301 := Aside0.mk ((by rw [hg]; exact (bZ_ (kwW HB)) : w.heap.size ≤ gb301)); replace HB := Aside0.mk (below_step (kwW HB) hb); have GE301 := GW301; clear hb hbox hg) | ((with_reducible refine gate_dst (N := 3) rfl ?_); refine box_event ?hg (N := 3) ?hd (cs := #[.int .i64 a1_0, .bool a1_1, .int .i64 a1_2, .int .i64 a1_3, .int .i64 a1_4, .string a1_5]) (t := 37) ?hr ?_; (case hd => rfl); (case hg => rfl); (case hr => first | (go_simp; done) | (go_simp; rfl)); intro gb302 hg w33 hbox hb; have BK302 := Aside0.mk (hbox); have GW302 := Aside0.mk ((by rw [hg]; exact (bZ_ (by repeat (first | (with_reducible first | exact HB.out | apply bA_ | apply bN_ | apply bD_ | refine bS_ ?_ GE301) | exact HB.out))) : w.heap.size ≤ gb302)); replace HB := Aside0.mk (below_step (by repeat (first | (with_reducible first | exact HB.out | apply bA_ | apply bN_ | apply bD_ | refine bS_ ?_ GE301) | exact HB.out)) hb); have GE302 := GW302; have NB301_302 := Aside0.mk ((by rw [hg]; exact Nat.ne_of_lt (blk_lt (kbW BK301)) : gb301 ≠ gb302)); have NB302_301 := Aside0.mk ((by rw [hg]; exact Nat.ne_of_gt (blk_lt (kbW BK301)) : gb302 ≠ gb301)); replace BK301 := kB BK301 hb; clear hb hbox hg; have hnb34 := NB301_302.out; have hnc34 := NB302_301.out; obtain ⟨_, _, _, _, _, _, _, _, _, _, _, _⟩ := czf6 BK301; obtain ⟨_, _, _, _, _, _, _, _, _, _, _, _⟩ := czf6 BK302))
    go_ret
    exact ⟨by first | rfl | (simp <;> rfl) | (simp [*] <;> rfl), by repeat (first | (with_reducible first | exact HB.out | apply bA_ | apply bN_ | apply bD_ | refine bS_ ?_ GE301 | refine bS_ ?_ GE302) | exact HB.out)⟩
def skerryref05_Join.f (a0_0 : Int) (a0_1 : Bool) (a0_2 : Int) (a0_3 : Int) (a0_4 : Int) (a0_5 : ByteArray) (a1_0 : Int) (a1_1 : Bool) (a1_2 : Int) (a1_3 : Int) (a1_4 : Int) (a1_5 : ByteArray) : Option (Int × Bool × Int × Int × Int × ByteArray) := (skerryref05_Cmp.f a1_0 a1_1 a1_2 a1_3 a1_4 a1_5 a0_0 a0_1 a0_2 a0_3 a0_4 a0_5).bind fun t310 => (if t310 > 0 then (some (a1_0, a1_1, a1_2, a1_3, a1_4, a1_5)) else (some (a0_0, a0_1, a0_2, a0_3, a0_4, a0_5)))
set_option maxHeartbeats 8000000 in
set_option maxRecDepth 100000 in
theorem skerryref05_Join.calls (a0_0 : Int) (a0_1 : Bool) (a0_2 : Int) (a0_3 : Int) (a0_4 : Int) (a0_5 : ByteArray) (a1_0 : Int) (a1_1 : Bool) (a1_2 : Int) (a1_3 : Int) (a1_4 : Int) (a1_5 : ByteArray) (r1 : Int) (r2 : Bool) (r3 : Int) (r4 : Int) (r5 : Int) (r6 : ByteArray) (w : World) (h : skerryref05_Join.f a0_0 a0_1 a0_2 a0_3 a0_4 a0_5 a1_0 a1_1 a1_2 a1_3 a1_4 a1_5 = some (r1, r2, r3, r4, r5, r6)) :
  Calls Try.prog 51 #[.agg #[.int .i64 a0_0, .bool a0_1, .int .i64 a0_2, .int .i64 a0_3, .int .i64 a0_4, .string a0_5], .agg #[.int .i64 a1_0, .bool a1_1, .int .i64 a1_2, .int .i64 a1_3, .int .i64 a1_4, .string a1_5]] w fun e w' => e = .returned (.agg #[.int .i64 r1, .bool r2, .int .i64 r3, .int .i64 r4, .int .i64 r5, .string r6]) ∧ Below w.heap.size w w' := by
 have hu37 := Try.underlying37
 have HB := Aside0.mk (Below.refl w.heap.size w)
 have H : ((skerryref05_Cmp.f a1_0 a1_1 a1_2 a1_3 a1_4 a1_5 a0_0 a0_1 a0_2 a0_3 a0_4 a0_5).bind fun t310 => (if t310 > 0 then (some (a1_0, a1_1, a1_2, a1_3, a1_4, a1_5)) else (some (a0_0, a0_1, a0_2, a0_3, a0_4, a0_5)))) = some (r1, r2, r3, r4, r5, r6) := h
 clear h
 replace H := Option.bind_eq_some_iff.mp H
 obtain ⟨t310, A30, H⟩ := H
 have A3 := Aside0.mk A30
 clear A30
 by_cases c4 : t310 > 0
 ·
  rw [if_pos c4] at H
  have c4b0 : decide (0 < t310) = true := decide_eq_true c4
  clear c4
  simp only [Option.some.injEq, Prod.mk.injEq] at H
  obtain ⟨rfl, rfl, rfl, rfl, rfl, rfl⟩ := H
  go_enter Try.func51, Try.ntmps51
  go_wp2_with (first | ((with_reducible refine gate_dst (N := 2) rfl ?_); refine box_event ?hg (N := 2) ?hd (cs := #[.int .i64 a0_0, .bool a0_1, .int .i64 a0_2, .int .i64 a0_3, .int .i64 a0_4, .string a0_5]) (t := 37) ?hr ?_; (case hd => rfl); (case hg => rfl); (case hr => first | (go_simp; done) | (go_simp; rfl)); intro gb307 hg w5 hbox hb; have BK307 := Aside0.mk (hbox); have GW307 := Aside0.mk ((by rw [hg]; exact (bZ_ (kwW HB)) : w.heap.size ≤ gb307)); replace HB := Aside0.mk (below_step (kwW HB) hb); have GE307 := GW307; clear hb hbox hg) | ((with_reducible refine gate_dst (N := 3) rfl ?_); refine box_event ?hg (N := 3) ?hd (cs := #[.int .i64 a1_0, .bool a1_1, .int .i64 a1_2, .int .i64 a1_3, .int .i64 a1_4, .string a1_5]) (t := 37) ?hr ?_; (case hd => rfl); (case hg => rfl); (case hr => first | (go_simp; done) | (go_simp; rfl)); intro gb308 hg w6 hbox hb; have BK308 := Aside0.mk (hbox); have GW308 := Aside0.mk ((by rw [hg]; exact (bZ_ (by repeat (first | (with_reducible first | exact HB.out | apply bA_ | apply bN_ | apply bD_ | refine bS_ ?_ GE307) | exact HB.out))) : w.heap.size ≤ gb308)); replace HB := Aside0.mk (below_step (by repeat (first | (with_reducible first | exact HB.out | apply bA_ | apply bN_ | apply bD_ | refine bS_ ?_ GE307) | exact HB.out)) hb); have GE308 := GW308; have NB307_308 := Aside0.mk ((by rw [hg]; exact Nat.ne_of_lt (blk_lt (kbW BK307)) : gb307 ≠ gb308)); have NB308_307 := Aside0.mk ((by rw [hg]; exact Nat.ne_of_gt (blk_lt (kbW BK307)) : gb308 ≠ gb307)); replace BK307 := kB BK307 hb; clear hb hbox hg) | ((with_reducible refine gate_dst (N := 4) rfl ?_); refine box_event ?hg (N := 4) ?hd (cs := #[.int .i64 0, .bool false, .int .i64 0, .int .i64 0, .int .i64 0, .string (⟨#[]⟩ : ByteArray)]) (t := 37) ?hr ?_; (case hd => rfl); (case hg => rfl); (case hr => first | (go_simp; done) | (go_simp; rfl)); intro gb309 hg w7 hbox hb; have BK309 := Aside0.mk (hbox); have GW309 := Aside0.mk ((by rw [hg]; exact (bZ_ (by repeat (first | (with_reducible first | exact HB.out | apply bA_ | apply bN_ | apply bD_ | refine bS_ ?_ GE307 | refine bS_ ?_ GE308) | exact HB.out))) : w.heap.size ≤ gb309)); replace HB := Aside0.mk (below_step (by repeat (first | (with_reducible first | exact HB.out | apply bA_ | apply bN_ | apply bD_ | refine bS_ ?_ GE307 | refine bS_ ?_ GE308) | exact HB.out)) hb); have GE309 := GW309; have NB307_309 := Aside0.mk ((by rw [hg]; exact Nat.ne_of_lt (blk_lt (kbW BK307)) : gb307 ≠ gb309)); have NB309_307 := Aside0.mk ((by rw [hg]; exact Nat.ne_of_gt (blk_lt (kbW BK307)) : gb309 ≠ gb307)); replace BK307 := kB BK307 hb; have NB308_309 := Aside0.mk ((by rw [hg]; exact Nat.ne_of_lt (blk_lt (kbW BK308)) : gb308 ≠ gb309)); have NB309_308 := Aside0.mk ((by rw [hg]; exact Nat.ne_of_gt (blk_lt (kbW BK308)) : gb309 ≠ gb308)); replace BK308 := kB BK308 hb; clear hb hbox hg; have hnb8 := NB308_307.out; have hnc8 := NB307_308.out; have hnb9 := NB308_309.out; have hnc9 := NB309_308.out; obtain ⟨hcz10_0, hcz10_1, hcz10_2, hcz10_3, hcz10_4, hcz10_5, hfz10_0, hfz10_1, hfz10_2, hfz10_3, hfz10_4, hfz10_5⟩ := czf6 BK308; have hnb11 := NB307_309.out; have hnc11 := NB309_307.out; obtain ⟨_, _, _, _, _, _, _, _, _, _, _, _⟩ := czf6 BK307) | ((with_reducible refine gate_callee (f := 35) rfl ?_); refine goesL_ (some 7) rfl rfl Try.func35 (by kernel_rfl) rfl #[.agg #[.int .i64 a1_0, .bool a1_1, .int .i64 a1_2, .int .i64 a1_3, .int .i64 a1_4, .string a1_5], .agg #[.int .i64 a0_0, .bool a0_1, .int .i64 a0_2, .int .i64 a0_3, .int .i64 a0_4, .string a0_5]] rfl (by (try simp only [mT_, mC_, mN_]); first | done | rfl) ?_; (with_reducible refine (skerryref05_Cmp.calls a1_0 a1_1 a1_2 a1_3 a1_4 a1_5 a0_0 a0_1 a0_2 a0_3 a0_4 a0_5 t310 _ A3.out).mono ?_); rintro e w13 ⟨rfl, hb⟩; refine ⟨_, rfl, ?_⟩; replace BK307 := kB BK307 hb; replace BK308 := kB BK308 hb; replace BK309 := kB BK309 hb; replace HB := Aside0.mk (below_step (by repeat (first | (with_reducible first | exact HB.out | apply bA_ | apply bN_ | apply bD_ | refine bS_ ?_ GE307 | refine bS_ ?_ GE308 | refine bS_ ?_ GE309) | exact HB.out)) hb); (try clear hb); (try clear hb2); (try clear hk); (try clear hi); obtain ⟨hcz14_0, hcz14_1, hcz14_2, hcz14_3, hcz14_4, hcz14_5, hfz14_0, hfz14_1, hfz14_2, hfz14_3, hfz14_4, hfz14_5⟩ := czf6 BK308; obtain ⟨hcz15_0, hcz15_1, hcz15_2, hcz15_3, hcz15_4, hcz15_5, hfz15_0, hfz15_1, hfz15_2, hfz15_3, hfz15_4, hfz15_5⟩ := czf6 BK309))
  refine bodyPost_ret (results_cell_row rfl _ _ gb309 37 #[.int .i64 a1_0, .bool a1_1, .int .i64 a1_2, .int .i64 a1_3, .int .i64 a1_4, .string a1_5] (0, 0) _ rfl (by (with_reducible repeat (first | refine blk_drewN ?_ _ | refine blk_drew ?_ | refine blk_alloc ?_ _)); exact bp6 (kbW BK309)) Try.underlying37 rfl (by kernel_rfl)) rfl ?_
  exact ⟨by first | rfl | (simp <;> rfl) | (simp [*] <;> rfl), by repeat (first | (with_reducible first | exact HB.out | apply bA_ | apply bN_ | apply bD_ | refine bS_ ?_ GE307 | refine bS_ ?_ GE308 | refine bS_ ?_ GE309) | exact HB.out)⟩
 ·
  rw [if_neg c4] at H
  have c4b0 : decide (0 < t310) = false := decide_eq_false c4
  clear c4
  simp only [Option.some.injEq, Prod.mk.injEq] at H
  obtain ⟨rfl, rfl, rfl, rfl, rfl, rfl⟩ := H
  go_enter Try.func51, Try.ntmps51
  go_wp2_with (first | ((with_reducible refine gate_dst (N := 2) rfl ?_); refine box_event ?hg (N := 2) ?hd (cs := #[.int .i64 a0_0, .bool a0_1, .int .i64 a0_2, .int .i64 a0_3, .int .i64 a0_4, .string a0_5]) (t := 37) ?hr ?_; (case hd => rfl); (case hg => rfl); (case hr => first | (go_simp; done) | (go_simp; rfl)); intro gb307 hg w16 hbox hb; have BK307 := Aside0.mk (hbox); have GW307 := Aside0.mk ((by rw [hg]; exact (bZ_ (kwW HB)) : w.heap.size ≤ gb307)); replace HB := Aside0.mk (below_step (kwW HB) hb); have GE307 := GW307; clear hb hbox hg) | ((with_reducible refine gate_dst (N := 3) rfl ?_); refine box_event ?hg (N := 3) ?hd (cs := #[.int .i64 a1_0, .bool a1_1, .int .i64 a1_2, .int .i64 a1_3, .int .i64 a1_4, .string a1_5]) (t := 37) ?hr ?_; (case hd => rfl); (case hg => rfl); (case hr => first | (go_simp; done) | (go_simp; rfl)); intro gb308 hg w17 hbox hb; have BK308 := Aside0.mk (hbox); have GW308 := Aside0.mk ((by rw [hg]; exact (bZ_ (by repeat (first | (with_reducible first | exact HB.out | apply bA_ | apply bN_ | apply bD_ | refine bS_ ?_ GE307) | exact HB.out))) : w.heap.size ≤ gb308)); replace HB := Aside0.mk (below_step (by repeat (first | (with_reducible first | exact HB.out | apply bA_ | apply bN_ | apply bD_ | refine bS_ ?_ GE307) | exact HB.out)) hb); have GE308 := GW308; have NB307_308 := Aside0.mk ((by rw [hg]; exact Nat.ne_of_lt (blk_lt (kbW BK307)) : gb307 ≠ gb308)); have NB308_307 := Aside0.mk ((by rw [hg]; exact Nat.ne_of_gt (blk_lt (kbW BK307)) : gb308 ≠ gb307)); replace BK307 := kB BK307 hb; clear hb hbox hg) | ((with_reducible refine gate_dst (N := 4) rfl ?_); refine box_event ?hg (N := 4) ?hd (cs := #[.int .i64 0, .bool false, .int .i64 0, .int .i64 0, .int .i64 0, .string (⟨#[]⟩ : ByteArray)]) (t := 37) ?hr ?_; (case hd => rfl); (case hg => rfl); (case hr => first | (go_simp; done) | (go_simp; rfl)); intro gb309 hg w18 hbox hb; have BK309 := Aside0.mk (hbox); have GW309 := Aside0.mk ((by rw [hg]; exact (bZ_ (by repeat (first | (with_reducible first | exact HB.out | apply bA_ | apply bN_ | apply bD_ | refine bS_ ?_ GE307 | refine bS_ ?_ GE308) | exact HB.out))) : w.heap.size ≤ gb309)); replace HB := Aside0.mk (below_step (by repeat (first | (with_reducible first | exact HB.out | apply bA_ | apply bN_ | apply bD_ | refine bS_ ?_ GE307 | refine bS_ ?_ GE308) | exact HB.out)) hb); have GE309 := GW309; have NB307_309 := Aside0.mk ((by rw [hg]; exact Nat.ne_of_lt (blk_lt (kbW BK307)) : gb307 ≠ gb309)); have NB309_307 := Aside0.mk ((by rw [hg]; exact Nat.ne_of_gt (blk_lt (kbW BK307)) : gb309 ≠ gb307)); replace BK307 := kB BK307 hb; have NB308_309 := Aside0.mk ((by rw [hg]; exact Nat.ne_of_lt (blk_lt (kbW BK308)) : gb308 ≠ gb309)); have NB309_308 := Aside0.mk ((by rw [hg]; exact Nat.ne_of_gt (blk_lt (kbW BK308)) : gb309 ≠ gb308)); replace BK308 := kB BK308 hb; clear hb hbox hg; have hnb19 := NB308_307.out; have hnc19 := NB307_308.out; have hnb20 := NB308_309.out; have hnc20 := NB309_308.out; obtain ⟨hcz21_0, hcz21_1, hcz21_2, hcz21_3, hcz21_4, hcz21_5, hfz21_0, hfz21_1, hfz21_2, hfz21_3, hfz21_4, hfz21_5⟩ := czf6 BK308; have hnb22 := NB307_309.out; have hnc22 := NB309_307.out; obtain ⟨_, _, _, _, _, _, _, _, _, _, _, _⟩ := czf6 BK307) | ((with_reducible refine gate_callee (f := 35) rfl ?_); refine goesL_ (some 7) rfl rfl Try.func35 (by kernel_rfl) rfl #[.agg #[.int .i64 a1_0, .bool a1_1, .int .i64 a1_2, .int .i64 a1_3, .int .i64 a1_4, .string a1_5], .agg #[.int .i64 a0_0, .bool a0_1, .int .i64 a0_2, .int .i64 a0_3, .int .i64 a0_4, .string a0_5]] rfl (by (try simp only [mT_, mC_, mN_]); first | done | rfl) ?_; (with_reducible refine (skerryref05_Cmp.calls a1_0 a1_1 a1_2 a1_3 a1_4 a1_5 a0_0 a0_1 a0_2 a0_3 a0_4 a0_5 t310 _ A3.out).mono ?_); rintro e w24 ⟨rfl, hb⟩; refine ⟨_, rfl, ?_⟩; replace BK307 := kB BK307 hb; replace BK308 := kB BK308 hb; replace BK309 := kB BK309 hb; replace HB := Aside0.mk (below_step (by repeat (first | (with_reducible first | exact HB.out | apply bA_ | apply bN_ | apply bD_ | refine bS_ ?_ GE307 | refine bS_ ?_ GE308 | refine bS_ ?_ GE309) | exact HB.out)) hb); (try clear hb); (try clear hb2); (try clear hk); (try clear hi); obtain ⟨_, _, _, _, _, _, _, _, _, _, _, _⟩ := czf6 BK307; obtain ⟨_, _, _, _, _, _, _, _, _, _, _, _⟩ := czf6 BK309))
  refine bodyPost_ret (results_cell_row rfl _ _ gb309 37 #[.int .i64 a0_0, .bool a0_1, .int .i64 a0_2, .int .i64 a0_3, .int .i64 a0_4, .string a0_5] (0, 0) _ rfl (by (with_reducible repeat (first | refine blk_drewN ?_ _ | refine blk_drew ?_ | refine blk_alloc ?_ _)); exact bp6 (kbW BK309)) Try.underlying37 rfl (by kernel_rfl)) rfl ?_
  exact ⟨by first | rfl | (simp <;> rfl) | (simp [*] <;> rfl), by repeat (first | (with_reducible first | exact HB.out | apply bA_ | apply bN_ | apply bD_ | refine bS_ ?_ GE307 | refine bS_ ?_ GE308 | refine bS_ ?_ GE309) | exact HB.out)⟩
end Go.Proofs.Ytabiekkebdocnaa.Q
