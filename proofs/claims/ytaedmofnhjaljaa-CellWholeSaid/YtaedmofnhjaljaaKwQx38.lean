/- Lemmas for this claim's walk: no condition of their own. -/
import Derived.Test.YtaedmofnhjaljaaKwSq
import Derived.Test.YtaedmofnhjaljaaKwQx0
import Derived.Test.YtaedmofnhjaljaaKwJ17
import Derived.Test.YtaedmofnhjaljaaKwQx37
namespace Go.Proofs.Ytaedmofnhjaljaa.Q
open Go.RowKit Go.Proofs.YtaedmofnhjaljaaW.PrintWords Go.Proofs.YtaedmofnhjaljaaW.PrintLast Go.Proofs.YtaedmofnhjaljaaW.PrintMore
attribute [local go_sem] max2_int min2_int max_two min_two max_three min_three max_four min_four
set_option linter.unusedVariables false
set_option linter.unusedSimpArgs false
attribute [local go_sem high] eqA23
def skerryref04_Cmp.f (a0_0 : ByteArray) (a0_1 : ByteArray) (a0_2 : Int) (a0_3 : ByteArray) (a1_0 : ByteArray) (a1_1 : ByteArray) (a1_2 : Int) (a1_3 : ByteArray) : Option (Int) := if a0_0.toList = a1_0.toList then (if a0_1.toList = a1_1.toList then (if a0_2 < a1_2 then (some (-1)) else (if a0_2 > a1_2 then (some 1) else ((skerryref04_texts.f a0_3 a1_3).bind fun t495 => (some t495)))) else ((skerryref04_texts.f a0_1 a1_1).bind fun t496 => (some t496))) else ((skerryref04_texts.f a0_0 a1_0).bind fun t497 => (some t497))
set_option maxHeartbeats 8000000 in
set_option maxRecDepth 100000 in
theorem skerryref04_Cmp.calls (a0_0 : ByteArray) (a0_1 : ByteArray) (a0_2 : Int) (a0_3 : ByteArray) (a1_0 : ByteArray) (a1_1 : ByteArray) (a1_2 : Int) (a1_3 : ByteArray) (r : Int) (w : World) (h : skerryref04_Cmp.f a0_0 a0_1 a0_2 a0_3 a1_0 a1_1 a1_2 a1_3 = some r) :
  Calls Try.prog 25 #[.agg #[.string a0_0, .string a0_1, .int .i64 a0_2, .string a0_3], .agg #[.string a1_0, .string a1_1, .int .i64 a1_2, .string a1_3]] w fun e w' => e = .returned (.int .i64 r) ∧ Below w.heap.size w w' := by
 have hu23 := Try.underlying23
 have HB := Aside0.mk (Below.refl w.heap.size w)
 have H : (if a0_0.toList = a1_0.toList then (if a0_1.toList = a1_1.toList then (if a0_2 < a1_2 then (some (-1)) else (if a0_2 > a1_2 then (some 1) else ((skerryref04_texts.f a0_3 a1_3).bind fun t495 => (some t495)))) else ((skerryref04_texts.f a0_1 a1_1).bind fun t496 => (some t496))) else ((skerryref04_texts.f a0_0 a1_0).bind fun t497 => (some t497))) = some r := h
 clear h
 by_cases c3 : a0_0.toList = a1_0.toList
 rotate_left
 ·
  rw [if_neg c3] at H
  have c3b0 : (a0_0.toList == a1_0.toList) = false := beq_eq_false_iff_ne.mpr c3
  have c3b1 : (a0_0.toList != a1_0.toList) = true := bne_iff_ne.mpr c3
  replace H := Option.bind_eq_some_iff.mp H
  obtain ⟨t497, A290, H⟩ := H
  have A29 := Aside0.mk A290
  clear A290
  obtain rfl := Option.some.inj H
  go_enter Try.func25, Try.ntmps25
  go_wp2_with (first | ((with_reducible refine gate_dst (N := 2) rfl ?_); refine box_event ?hg (N := 2) ?hd (cs := #[.string a0_0, .string a0_1, .int .i64 a0_2, .string a0_3]) (t := 23) ?hr ?_; (case hd => rfl); (case hg => rfl); (case hr => first | (go_simp; done) | (go_simp; rfl)); intro gb493 hg w30 hbox hb; have BK493 := Aside0.mk (hbox); have GW493 := Aside0.mk ((by rw [hg]; exact (bZ_ (kwW HB)) : w.heap.size ≤ gb493)); replace HB := Aside0.mk (below_step (kwW HB) hb); have GE493 := GW493; clear hb hbox hg) | ((with_reducible refine gate_dst (N := 3) rfl ?_); refine box_event ?hg (N := 3) ?hd (cs := #[.string a1_0, .string a1_1, .int .i64 a1_2, .string a1_3]) (t := 23) ?hr ?_; (case hd => rfl); (case hg => rfl); (case hr => first | (go_simp; done) | (go_simp; rfl)); intro gb494 hg w31 hbox hb; have BK494 := Aside0.mk (hbox); have GW494 := Aside0.mk ((by rw [hg]; exact (bZ_ (by repeat (first | (with_reducible first | exact HB.out | apply bA_ | apply bN_ | apply bD_ | refine bS_ ?_ GE493) | exact HB.out))) : w.heap.size ≤ gb494)); replace HB := Aside0.mk (below_step (by repeat (first | (with_reducible first | exact HB.out | apply bA_ | apply bN_ | apply bD_ | refine bS_ ?_ GE493) | exact HB.out)) hb); have GE494 := GW494; have NB493_494 := Aside0.mk ((by rw [hg]; exact Nat.ne_of_lt (blk_lt (kbW BK493)) : gb493 ≠ gb494)); have NB494_493 := Aside0.mk ((by rw [hg]; exact Nat.ne_of_gt (blk_lt (kbW BK493)) : gb494 ≠ gb493)); replace BK493 := kB BK493 hb; clear hb hbox hg; have hnb32 := NB493_494.out; have hnc32 := NB494_493.out; obtain ⟨_, _, _, _, _, _, _, _⟩ := czf4 BK493; obtain ⟨_, _, _, _, _, _, _, _⟩ := czf4 BK494) | ((with_reducible refine gate_callee (f := 48) rfl ?_); refine goesL_ (some 15) rfl rfl Try.func48 (by kernel_rfl) rfl #[.string a0_0, .string a1_0] rfl (by (try simp only [mT_, mC_, mN_]); first | done | rfl) ?_; (with_reducible refine (skerryref04_texts.calls a0_0 a1_0 t497 _ A29.out).mono ?_); rintro e w' ⟨rfl, ⟨nd, rfl⟩⟩; refine ⟨_, rfl, ?_⟩))
  go_ret
  exact ⟨by first | rfl | (simp <;> rfl) | (simp [*] <;> rfl), by repeat (first | (with_reducible first | exact HB.out | apply bA_ | apply bN_ | apply bD_ | refine bS_ ?_ GE493 | refine bS_ ?_ GE494) | exact HB.out)⟩
 rw [if_pos c3] at H
 have c3b0 : (a0_0.toList == a1_0.toList) = true := beq_iff_eq.mpr c3
 have c3b1 : (a0_0.toList != a1_0.toList) = false := bne_eq_false_iff_eq.mpr c3
 clear c3
 by_cases c4 : a0_1.toList = a1_1.toList
 rotate_left
 ·
  rw [if_neg c4] at H
  have c4b0 : (a0_1.toList == a1_1.toList) = false := beq_eq_false_iff_ne.mpr c4
  have c4b1 : (a0_1.toList != a1_1.toList) = true := bne_iff_ne.mpr c4
  replace H := Option.bind_eq_some_iff.mp H
  obtain ⟨t496, A230, H⟩ := H
  have A23 := Aside0.mk A230
  clear A230
  obtain rfl := Option.some.inj H
  go_enter Try.func25, Try.ntmps25
  go_wp2_with (first | ((with_reducible refine gate_dst (N := 2) rfl ?_); refine box_event ?hg (N := 2) ?hd (cs := #[.string a0_0, .string a0_1, .int .i64 a0_2, .string a0_3]) (t := 23) ?hr ?_; (case hd => rfl); (case hg => rfl); (case hr => first | (go_simp; done) | (go_simp; rfl)); intro gb493 hg w24 hbox hb; have BK493 := Aside0.mk (hbox); have GW493 := Aside0.mk ((by rw [hg]; exact (bZ_ (kwW HB)) : w.heap.size ≤ gb493)); replace HB := Aside0.mk (below_step (kwW HB) hb); have GE493 := GW493; clear hb hbox hg) | ((with_reducible refine gate_dst (N := 3) rfl ?_); refine box_event ?hg (N := 3) ?hd (cs := #[.string a1_0, .string a1_1, .int .i64 a1_2, .string a1_3]) (t := 23) ?hr ?_; (case hd => rfl); (case hg => rfl); (case hr => first | (go_simp; done) | (go_simp; rfl)); intro gb494 hg w25 hbox hb; have BK494 := Aside0.mk (hbox); have GW494 := Aside0.mk ((by rw [hg]; exact (bZ_ (by repeat (first | (with_reducible first | exact HB.out | apply bA_ | apply bN_ | apply bD_ | refine bS_ ?_ GE493) | exact HB.out))) : w.heap.size ≤ gb494)); replace HB := Aside0.mk (below_step (by repeat (first | (with_reducible first | exact HB.out | apply bA_ | apply bN_ | apply bD_ | refine bS_ ?_ GE493) | exact HB.out)) hb); have GE494 := GW494; have NB493_494 := Aside0.mk ((by rw [hg]; exact Nat.ne_of_lt (blk_lt (kbW BK493)) : gb493 ≠ gb494)); have NB494_493 := Aside0.mk ((by rw [hg]; exact Nat.ne_of_gt (blk_lt (kbW BK493)) : gb494 ≠ gb493)); replace BK493 := kB BK493 hb; clear hb hbox hg; have hnb26 := NB493_494.out; have hnc26 := NB494_493.out; obtain ⟨_, _, _, _, _, _, _, _⟩ := czf4 BK493; obtain ⟨_, _, _, _, _, _, _, _⟩ := czf4 BK494) | ((with_reducible refine gate_callee (f := 48) rfl ?_); refine goesL_ (some 26) rfl rfl Try.func48 (by kernel_rfl) rfl #[.string a0_1, .string a1_1] rfl (by (try simp only [mT_, mC_, mN_]); first | done | rfl) ?_; (with_reducible refine (skerryref04_texts.calls a0_1 a1_1 t496 _ A23.out).mono ?_); rintro e w' ⟨rfl, ⟨nd, rfl⟩⟩; refine ⟨_, rfl, ?_⟩))
  go_ret
  exact ⟨by first | rfl | (simp <;> rfl) | (simp [*] <;> rfl), by repeat (first | (with_reducible first | exact HB.out | apply bA_ | apply bN_ | apply bD_ | refine bS_ ?_ GE493 | refine bS_ ?_ GE494) | exact HB.out)⟩
 rw [if_pos c4] at H
 have c4b0 : (a0_1.toList == a1_1.toList) = true := beq_iff_eq.mpr c4
 have c4b1 : (a0_1.toList != a1_1.toList) = false := bne_eq_false_iff_eq.mpr c4
 clear c4
 by_cases c5 : a0_2 < a1_2
 ·
  rw [if_pos c5] at H
  have c5b0 : decide (a0_2 < a1_2) = true := decide_eq_true c5
  clear c5
  obtain rfl := Option.some.inj H
  go_enter Try.func25, Try.ntmps25
  go_wp2_with (first | ((with_reducible refine gate_dst (N := 2) rfl ?_); refine box_event ?hg (N := 2) ?hd (cs := #[.string a0_0, .string a0_1, .int .i64 a0_2, .string a0_3]) (t := 23) ?hr ?_; (case hd => rfl); (case hg => rfl); (case hr => first | (go_simp; done) | (go_simp; rfl)); intro gb493 hg w6 hbox hb; have BK493 := Aside0.mk (hbox); have GW493 := Aside0.mk ((by rw [hg]; exact (bZ_ (kwW HB)) : w.heap.size ≤ gb493)); replace HB := Aside0.mk (below_step (kwW HB) hb); have GE493 := GW493; clear hb hbox hg) | ((with_reducible refine gate_dst (N := 3) rfl ?_); refine box_event ?hg (N := 3) ?hd (cs := #[.string a1_0, .string a1_1, .int .i64 a1_2, .string a1_3]) (t := 23) ?hr ?_; (case hd => rfl); (case hg => rfl); (case hr => first | (go_simp; done) | (go_simp; rfl)); intro gb494 hg w7 hbox hb; have BK494 := Aside0.mk (hbox); have GW494 := Aside0.mk ((by rw [hg]; exact (bZ_ (by repeat (first | (with_reducible first | exact HB.out | apply bA_ | apply bN_ | apply bD_ | refine bS_ ?_ GE493) | exact HB.out))) : w.heap.size ≤ gb494)); replace HB := Aside0.mk (below_step (by repeat (first | (with_reducible first | exact HB.out | apply bA_ | apply bN_ | apply bD_ | refine bS_ ?_ GE493) | exact HB.out)) hb); have GE494 := GW494; have NB493_494 := Aside0.mk ((by rw [hg]; exact Nat.ne_of_lt (blk_lt (kbW BK493)) : gb493 ≠ gb494)); have NB494_493 := Aside0.mk ((by rw [hg]; exact Nat.ne_of_gt (blk_lt (kbW BK493)) : gb494 ≠ gb493)); replace BK493 := kB BK493 hb; clear hb hbox hg; have hnb8 := NB493_494.out; have hnc8 := NB494_493.out; obtain ⟨_, _, _, _, _, _, _, _⟩ := czf4 BK493; obtain ⟨_, _, _, _, _, _, _, _⟩ := czf4 BK494))
  go_ret
  exact ⟨by first | rfl | (simp <;> rfl) | (simp [*] <;> rfl), by repeat (first | (with_reducible first | exact HB.out | apply bA_ | apply bN_ | apply bD_ | refine bS_ ?_ GE493 | refine bS_ ?_ GE494) | exact HB.out)⟩
 ·
  rw [if_neg c5] at H
  have c5b0 : decide (a0_2 < a1_2) = false := decide_eq_false c5
  clear c5
  by_cases c11 : a0_2 > a1_2
  ·
   rw [if_pos c11] at H
   have c11b0 : decide (a1_2 < a0_2) = true := decide_eq_true c11
   clear c11
   obtain rfl := Option.some.inj H
   go_enter Try.func25, Try.ntmps25
   go_wp2_with (first | ((with_reducible refine gate_dst (N := 2) rfl ?_); refine box_event ?hg (N := 2) ?hd (cs := #[.string a0_0, .string a0_1, .int .i64 a0_2, .string a0_3]) (t := 23) ?hr ?_; (case hd => rfl); (case hg => rfl); (case hr => first | (go_simp; done) | (go_simp; rfl)); intro gb493 hg w12 hbox hb; have BK493 := Aside0.mk (hbox); have GW493 := Aside0.mk ((by rw [hg]; exact (bZ_ (kwW HB)) : w.heap.size ≤ gb493)); replace HB := Aside0.mk (below_step (kwW HB) hb); have GE493 := GW493; clear hb hbox hg) | ((with_reducible refine gate_dst (N := 3) rfl ?_); refine box_event ?hg (N := 3) ?hd (cs := #[.string a1_0, .string a1_1, .int .i64 a1_2, .string a1_3]) (t := 23) ?hr ?_; (case hd => rfl); (case hg => rfl); (case hr => first | (go_simp; done) | (go_simp; rfl)); intro gb494 hg w13 hbox hb; have BK494 := Aside0.mk (hbox); have GW494 := Aside0.mk ((by rw [hg]; exact (bZ_ (by repeat (first | (with_reducible first | exact HB.out | apply bA_ | apply bN_ | apply bD_ | refine bS_ ?_ GE493) | exact HB.out))) : w.heap.size ≤ gb494)); replace HB := Aside0.mk (below_step (by repeat (first | (with_reducible first | exact HB.out | apply bA_ | apply bN_ | apply bD_ | refine bS_ ?_ GE493) | exact HB.out)) hb); have GE494 := GW494; have NB493_494 := Aside0.mk ((by rw [hg]; exact Nat.ne_of_lt (blk_lt (kbW BK493)) : gb493 ≠ gb494)); have NB494_493 := Aside0.mk ((by rw [hg]; exact Nat.ne_of_gt (blk_lt (kbW BK493)) : gb494 ≠ gb493)); replace BK493 := kB BK493 hb; clear hb hbox hg; have hnb14 := NB493_494.out; have hnc14 := NB494_493.out; obtain ⟨_, _, _, _, _, _, _, _⟩ := czf4 BK493; obtain ⟨_, _, _, _, _, _, _, _⟩ := czf4 BK494))
   go_ret
   exact ⟨by first | rfl | (simp <;> rfl) | (simp [*] <;> rfl), by repeat (first | (with_reducible first | exact HB.out | apply bA_ | apply bN_ | apply bD_ | refine bS_ ?_ GE493 | refine bS_ ?_ GE494) | exact HB.out)⟩
  ·
   rw [if_neg c11] at H
   have c11b0 : decide (a1_2 < a0_2) = false := decide_eq_false c11
   clear c11
   replace H := Option.bind_eq_some_iff.mp H
   obtain ⟨t495, A170, H⟩ := H
   have A17 := Aside0.mk A170
   clear A170
   obtain rfl := Option.some.inj H
   go_enter Try.func25, Try.ntmps25
   go_wp2_with (first | ((with_reducible refine gate_dst (N := 2) rfl ?_); refine box_event ?hg (N := 2) ?hd (cs := #[.string a0_0, .string a0_1, .int .i64 a0_2, .string a0_3]) (t := 23) ?hr ?_; (case hd => rfl); (case hg => rfl); (case hr => first | (go_simp; done) | (go_simp; rfl)); intro gb493 hg w18 hbox hb; have BK493 := Aside0.mk (hbox); have GW493 := Aside0.mk ((by rw [hg]; exact (bZ_ (kwW HB)) : w.heap.size ≤ gb493)); replace HB := Aside0.mk (below_step (kwW HB) hb); have GE493 := GW493; clear hb hbox hg) | ((with_reducible refine gate_dst (N := 3) rfl ?_); refine box_event ?hg (N := 3) ?hd (cs := #[.string a1_0, .string a1_1, .int .i64 a1_2, .string a1_3]) (t := 23) ?hr ?_; (case hd => rfl); (case hg => rfl); (case hr => first | (go_simp; done) | (go_simp; rfl)); intro gb494 hg w19 hbox hb; have BK494 := Aside0.mk (hbox); have GW494 := Aside0.mk ((by rw [hg]; exact (bZ_ (by repeat (first | (with_reducible first | exact HB.out | apply bA_ | apply bN_ | apply bD_ | refine bS_ ?_ GE493) | exact HB.out))) : w.heap.size ≤ gb494)); replace HB := Aside0.mk (below_step (by repeat (first | (with_reducible first | exact HB.out | apply bA_ | apply bN_ | apply bD_ | refine bS_ ?_ GE493) | exact HB.out)) hb); have GE494 := GW494; have NB493_494 := Aside0.mk ((by rw [hg]; exact Nat.ne_of_lt (blk_lt (kbW BK493)) : gb493 ≠ gb494)); have NB494_493 := Aside0.mk ((by rw [hg]; exact Nat.ne_of_gt (blk_lt (kbW BK493)) : gb494 ≠ gb493)); replace BK493 := kB BK493 hb; clear hb hbox hg; have hnb20 := NB493_494.out; have hnc20 := NB494_493.out; obtain ⟨_, _, _, _, _, _, _, _⟩ := czf4 BK493; obtain ⟨_, _, _, _, _, _, _, _⟩ := czf4 BK494) | ((with_reducible refine gate_callee (f := 48) rfl ?_); refine goesL_ (some 43) rfl rfl Try.func48 (by kernel_rfl) rfl #[.string a0_3, .string a1_3] rfl (by (try simp only [mT_, mC_, mN_]); first | done | rfl) ?_; (with_reducible refine (skerryref04_texts.calls a0_3 a1_3 t495 _ A17.out).mono ?_); rintro e w' ⟨rfl, ⟨nd, rfl⟩⟩; refine ⟨_, rfl, ?_⟩))
   go_ret
   exact ⟨by first | rfl | (simp <;> rfl) | (simp [*] <;> rfl), by repeat (first | (with_reducible first | exact HB.out | apply bA_ | apply bN_ | apply bD_ | refine bS_ ?_ GE493 | refine bS_ ?_ GE494) | exact HB.out)⟩
end Go.Proofs.Ytaedmofnhjaljaa.Q
