/- Lemmas for this claim's walk: no condition of their own. -/
import Derived.Test.YtaedmofnhjaljaaKnSq
import Derived.Test.YtaedmofnhjaljaaKnQx0
import Derived.Test.YtaedmofnhjaljaaKnJ15
import Derived.Test.YtaedmofnhjaljaaKnQx37
namespace Go.Proofs.Ytaedmofnhjaljaa.Q
open Go.RowKit Go.Proofs.YtaedmofnhjaljaaW.PrintWords Go.Proofs.YtaedmofnhjaljaaW.PrintLast Go.Proofs.YtaedmofnhjaljaaW.PrintMore
attribute [local go_sem] max2_int min2_int max_two min_two max_three min_three max_four min_four
set_option linter.unusedVariables false
set_option linter.unusedSimpArgs false
attribute [local go_sem high] eqA23
def skerryref04_Cmp.f (a0_0 : ByteArray) (a0_1 : ByteArray) (a0_2 : Int) (a0_3 : ByteArray) (a1_0 : ByteArray) (a1_1 : ByteArray) (a1_2 : Int) (a1_3 : ByteArray) : Option (Int) := if a0_0.toList = a1_0.toList then (if a0_1.toList = a1_1.toList then (if a0_2 < a1_2 then (some (-1)) else (if a0_2 > a1_2 then (some 1) else ((skerryref04_texts.f a0_3 a1_3).bind fun t495 => (some t495)))) else ((skerryref04_texts.f a0_1 a1_1).bind fun t496 => (some t496))) else ((skerryref04_texts.f a0_0 a1_0).bind fun t497 => (some t497))
set_option maxHeartbeats 8000000 in
set_option maxRecDepth 100000 in
theorem skerryref04_Cmp.calls (a0_0 : ByteArray) (a0_1 : ByteArray) (a0_2 : Int) (a0_3 : ByteArray) (a1_0 : ByteArray) (a1_1 : ByteArray) (a1_2 : Int) (a1_3 : ByteArray) (r : Int) (w : World) (h : skerryref04_Cmp.f a0_0 a0_1 a0_2 a0_3 a1_0 a1_1 a1_2 a1_3 = some r) :
  Calls Try.prog 25 #[.agg #[.string a0_0, .string a0_1, .int .i64 a0_2, .string a0_3], .agg #[.string a1_0, .string a1_1, .int .i64 a1_2, .string a1_3]] w fun e w' => e = .returned (.int .i64 r) ∧ Below w.heap.size w w' := by
 have hu23 := Try.underlying23
 have HB := Aside0.mk (Below.refl w.heap.size w)
 have H : (if a0_0.toList = a1_0.toList then (if a0_1.toList = a1_1.toList then (if a0_2 < a1_2 then (some (-1)) else (if a0_2 > a1_2 then (some 1) else ((skerryref04_texts.f a0_3 a1_3).bind fun t495 => (some t495)))) else ((skerryref04_texts.f a0_1 a1_1).bind fun t496 => (some t496))) else ((skerryref04_texts.f a0_0 a1_0).bind fun t497 => (some t497))) = some r := h
 clear h
 by_cases c3 : a0_0.toList = a1_0.toList
 rotate_left
 ·
  rw [if_neg c3] at H
  have c3b0 : (a0_0.toList == a1_0.toList) = false := beq_eq_false_iff_ne.mpr c3
  have c3b1 : (a0_0.toList != a1_0.toList) = true := bne_iff_ne.mpr c3
  replace H := Option.bind_eq_some_iff.mp H
  obtain ⟨t497, A290, H⟩ := H
  have A29 := Aside0.mk A290
  clear A290
  obtain rfl := Option.some.inj H
  go_enter Try.func25, Try.ntmps25
  go_wp2_with (first | ((with_reducible refine gate_dst (N := 2) rfl ?_); refine box_event ?hg (N := 2) ?hd (cs := #[.string a0_0, .string a0_1, .int .i64 a0_2, .string a0_3]) (t := 23) ?hr ?_; (case hd => rfl); (case hg => rfl); (case hr => first | (go_simp; done) | (go_simp; rfl)); intro gb493 hg w30 hbox hb; have BK493 := Aside0.mk (hbox); have GW493 := Aside0.mk ((by rw [hg]; exact (bZ_ (kwW HB)) : w.heap.size ≤ gb493)); replace HB := Aside0.mk (below_step (kwW HB) hb); have GE493 := GW493; clear hb hbox hg) | ((with_reducible refine gate_dst (N := 3) rfl ?_); refine box_event ?hg (N := 3) ?hd (cs := #[.string a1_0, .string a1_1, .int .i64 a1_2, .string a1_3]) (t := 23) ?hr ?_; (case hd => rfl); (case hg => rfl); (case hr => first | (go_simp; done) | (go_simp; rfl)); intro gb494 hg w31 hbox hb; have BK494 := Aside0.mk (hbox); have GW494 := Aside0.mk ((by rw [hg]; exact (bZ_ (by repeat (first | (with_reducible first | exact HB.out | apply bA_ | apply bN_ | apply bD_ | refine bS_ ?_ GE493) | exact HB.out))) : w.heap.size ≤ gb494)); replace HB := Aside0.mk (below_step (by repeat (first | (with_reducible first | exact HB.out | apply bA_ | apply bN_ | apply bD_ | refine bS_ ?_ GE493) | exact HB.out)) hb); have GE494 := GW494; have NB493_494 := Aside0.mk ((by rw [hg]; exact Nat.ne_of_lt (blk_lt (kbW BK493)) : gb493 ≠ gb494)); have NB494_493 := Aside0.mk ((by rw [hg]; exact Nat.ne_of_gt (blk_lt (kbW BK493)) : gb494 ≠ gb493)); replace BK493 := kB BK493 hb; clear hb hbox hg; have hnb32 := NB493_494.out; have hnc32 := NB494_493.out; obtain ⟨_, _, _, _, _, _, _, _⟩ := czf4 BK493; obtain ⟨_, _, _, _, _, _, _, _⟩ := czf4 BK494) | ((with_reducible refine gate_callee (f := 48) rfl ?_); refine goesL_ (some 15) rfl rfl Try.func48 (by kernel_rfl) rfl #[.string a0_0, .string a1_0] rfl (by (try simp only [mT_, mC_, mN_]); first | done | rfl) ?_; (with_reducible refine (skerryref04_texts.calls a0_0 a1_0 t497 _ A29.out).mono ?_); rintro e w' ⟨rfl, ⟨nd, rfl⟩⟩; refine ⟨_, rfl, ?_⟩))
  go_ret
  exact ⟨by first | rfl | (simp <;> rfl) | (simp [*] <;> rfl), by repeat (first | (with_reducible first | exact HB.out | apply bA_ | apply bN_ | apply bD_ | refine bS_ ?_ GE493 | refine bS_ ?_ GE494) | exact HB.out)⟩
 rw [if_pos c3] at H
 have c3b0 : (a0_0.toList == a1_0.toList) = true := beq_iff_eq.mpr c3
 have c3b1 : (a0_0.toList != a1_0.toList) = false := bne_eq_false_iff_eq.mpr c3
 clear c3
 by_cases c4 : a0_1.toList = a1_1.toList
 rotate_left
 ·
  rw [if_neg c4] at H
  have c4b0 : (a0_1.toList == a1_1.toList) = false := beq_eq_false_iff_ne.mpr c4
  have c4b1 : (a0_1.toList != a1_1.toList) = true := bne_iff_ne.mpr c4
  replace H := Option.bind_eq_some_iff.mp H
  obtain ⟨t496, A230, H⟩ := H
  have A23 := Aside0.mk A230
  clear A230
  obtain rfl := Option.some.inj H
  go_enter Try.func25, Try.ntmps25
  go_wp2_with (first | ((with_reducible refine gate_dst (N := 2) rfl ?_); refine box_event ?hg (N := 2) ?hd (cs := #[.string a0_0, .string a0_1, .int .i64 a0_2, .string a0_3]) (t := 23) ?hr ?_; (case hd => rfl); (case hg => rfl); (case hr => first | (go_simp; done) | (go_simp; rfl)); intro gb493 hg w24 hbox hb; have BK493 := Aside0.mk (hbox); have GW493 := Aside0.mk ((by rw [hg]; exact (bZ_ (kwW HB)) : w.heap.size ≤ gb493)); replace HB := Aside0.mk (below_step (kwW HB) hb); have GE493 := GW493; clear hb hbox hg) | ((with_reducible refine gate_dst (N := 3) rfl ?_); refine box_event ?hg (N := 3) ?hd (cs := #[.string a1_0, .string a1_1, .int .i64 a1_2, .string a1_3]) (t := 23) ?hr ?_; (case hd => rfl); (case hg => rfl); (case hr => first | (go_simp; done) | (go_simp; rfl)); intro gb494 hg w25 hbox hb; have BK494 := Aside0.mk (hbox); have GW494 := Aside0.mk ((by rw [hg]; exact (bZ_ (by repeat (first | (with_reducible first | exact HB.out | apply bA_ | apply bN_ | apply bD_ | refine bS_ ?_ GE493) | exact HB.out))) : w.heap.size ≤ gb494)); replace HB := Aside0.mk (below_step (by repeat (first | (with_reducible first | exact HB.out | apply bA_ | apply bN_ | apply bD_ | refine bS_ ?_ GE493) | exact HB.out)) hb); have GE494 := GW494; have NB493_494 := Aside0.mk ((by rw [hg]; exact Nat.ne_of_lt (blk_lt (kbW BK493)) : gb493 ≠ gb494)); have NB494_493 := Aside0.mk ((by rw [hg]; exact Nat.ne_of_gt (blk_lt (kbW BK493)) : gb494 ≠ gb493)); replace BK493 := kB BK493 hb; clear hb hbox hg; have hnb26 := NB493_494.out; have hnc26 := NB494_493.out; obtain ⟨_, _, _, _, _, _, _, _⟩ := czf4 BK493; obtain ⟨_, _, _, _, _, _, _, _⟩ := czf4 BK494) | ((with_reducible refine gate_callee (f := 48) rfl ?_); refine goesL_ (some 26) rfl rfl Try.func48 (by kernel_rfl) rfl #[.string a0_1, .string a1_1] rfl (by (try simp only [mT_, mC_, mN_]); first | done | rfl) ?_; (with_reducible refine (skerryref04_texts.calls a0_1 a1_1 t496 _ A23.out).mono ?_); rintro e w' ⟨rfl, ⟨nd, rfl⟩⟩; refine ⟨_, rfl, ?_⟩))
  go_ret
  exact ⟨by first | rfl | (simp <;> rfl) | (simp [*] <;> rfl), by repeat (first | (with_reducible first | exact HB.out | apply bA_ | apply bN_ | apply bD_ | refine bS_ ?_ GE493 | refine bS_ ?_ GE494) | exact HB.out)⟩
 rw [if_pos c4] at H
 have c4b0 : (a0_1.toList == a1_1.toList) = true := beq_iff_eq.mpr c4
 have c4b1 : (a0_1.toList != a1_1.toList) = false := bne_eq_false_iff_eq.mpr c4
 clear c4
 by_cases c5 : a0_2 < a1_2
 ·
  rw [if_pos c5] at H
  have c5b0 : decide (a0_2 < a1_2) = true := decide_eq_true c5
  clear c5
  obtain rfl := Option.some.inj H
  go_enter Try.func25, Try.ntmps25
  go_wp2_with (first | ((with_reducible refine gate_dst (N := 2) rfl ?_); refine box_event ?hg (N := 2) ?hd (cs := #[.string a0_0, .string a0_1, .int .i64 a0_2, .string a0_3]) (t := 23) ?hr ?_; (case hd => rfl); (case hg => rfl); (case hr => first | (go_simp; done) | (go_simp; rfl)); intro gb493 hg w6 hbox hb; have BK493 := Aside0.mk (hbox); have GW493 := Aside0.mk ((by rw [hg]; exact (bZ_ (kwW HB)) : w.heap.size ≤ gb493)); replace HB := Aside0.mk (below_step (kwW HB) hb); have GE493 := GW493; clear hb hbox hg) | ((with_reducible refine gate_dst (N := 3) rfl ?_); refine box_event ?hg (N := 3) ?hd (cs := #[.string a1_0, .string a1_1, .int .i64 a1_2, .string a1_3]) (t := 23) ?hr ?_; (case hd => rfl); (case hg => rfl); (case hr => first | (go_simp; done) | (go_simp; rfl)); intro gb494 hg w7 hbox hb; have BK494 := Aside0.mk (hbox); have GW494 := Aside0.mk ((by rw [hg]; exact (bZ_ (by repeat (first | (with_reducible first | exact HB.out | apply bA_ | apply bN_ | apply bD_ | refine bS_ ?_ GE493) | exact HB.out))) : w.heap.size ≤ gb494)); replace HB := Aside0.mk (below_step (by repeat (first | (with_reducible first | exact HB.out | apply bA_ | apply bN_ | apply bD_ | refine bS_ ?_ GE493) | exact HB.out)) hb); have GE494 := GW494; have NB493_494 := Aside0.mk ((by rw [hg]; exact Nat.ne_of_lt (blk_lt (kbW BK493)) : gb493 ≠ gb494)); have NB494_493 := Aside0.mk ((by rw [hg]; exact Nat.ne_of_gt (blk_lt (kbW BK493)) : gb494 ≠ gb493)); replace BK493 := kB BK493 hb; clear hb hbox hg; have hnb8 := NB493_494.out; have hnc8 := NB494_493.out; obtain ⟨_, _, _, _, _, _, _, _⟩ := czf4 BK493; obtain ⟨_, _, _, _, _, _, _, _⟩ := czf4 BK494))
  go_ret
  exact ⟨by first | rfl | (simp <;> rfl) | (simp [*] <;> rfl), by repeat (first | (with_reducible first | exact HB.out | apply bA_ | apply bN_ | apply bD_ | refine bS_ ?_ GE493 | refine bS_ ?_ GE494) | exact HB.out)⟩
 ·
  rw [if_neg c5] at H
  have c5b0 : decide (a0_2 < a1_2) = false := decide_eq_false c5
  clear c5
  by_cases c11 : a0_2 > a1_2
  ·
   rw [if_pos c11] at H
   have c11b0 : decide (a1_2 < a0_2) = true := decide_eq_true c11
   clear c11
   obtain rfl := Option.some.inj H
   go_enter Try.func25, Try.ntmps25
   go_wp2_with (first | ((with_reducible refine gate_dst (N := 2) rfl ?_); refine box_event ?hg (N := 2) ?hd (cs := #[.string a0_0, .string a0_1, .int .i64 a0_2, .string a0_3]) (t := 23) ?hr ?_; (case hd => rfl); (case hg => rfl); (case hr => first | (go_simp; done) | (go_simp; rfl)); intro gb493 hg w12 hbox hb; have BK493 := Aside0.mk (hbox); have GW493 := Aside0.mk ((by rw [hg]; exact (bZ_ (kwW HB)) : w.heap.size ≤ gb493)); replace HB := Aside0.mk (below_step (kwW HB) hb); have GE493 := GW493; clear hb hbox hg) | ((with_reducible refine gate_dst (N := 3) rfl ?_); refine box_event ?hg (N := 3) ?hd (cs := #[.string a1_0, .string a1_1, .int .i64 a1_2, .string a1_3]) (t := 23) ?hr ?_; (case hd => rfl); (case hg => rfl); (case hr => first | (go_simp; done) | (go_simp; rfl)); intro gb494 hg w13 hbox hb; have BK494 := Aside0.mk (hbox); have GW494 := Aside0.mk ((by rw [hg]; exact (bZ_ (by repeat (first | (with_reducible first | exact HB.out | apply bA_ | apply bN_ | apply bD_ | refine bS_ ?_ GE493) | exact HB.out))) : w.heap.size ≤ gb494)); replace HB := Aside0.mk (below_step (by repeat (first | (with_reducible first | exact HB.out | apply bA_ | apply bN_ | apply bD_ | refine bS_ ?_ GE493) | exact HB.out)) hb); have GE494 := GW494; have NB493_494 := Aside0.mk ((by rw [hg]; exact Nat.ne_of_lt (blk_lt (kbW BK493)) : gb493 ≠ gb494)); have NB494_493 := Aside0.mk ((by rw [hg]; exact Nat.ne_of_gt (blk_lt (kbW BK493)) : gb494 ≠ gb493)); replace BK493 := kB BK493 hb; clear hb hbox hg; have hnb14 := NB493_494.out; have hnc14 := NB494_493.out; obtain ⟨hcz15_0, hcz15_1, hcz15_2, hcz15_3, hfz15_0, hfz15_1, hfz15_2, hfz15_3⟩ := czf4 BK493; obtain ⟨_, _, _, _, _, _, _, _⟩ := czf4 BK494))
   go_ret
   exact ⟨by first | rfl | (simp <;> rfl) | (simp [*] <;> rfl), by repeat (first | (with_reducible first | exact HB.out | apply bA_ | apply bN_ | apply bD_ | refine bS_ ?_ GE493 | refine bS_ ?_ GE494) | exact HB.out)⟩
  ·
   rw [if_neg c11] at H
   have c11b0 : decide (a1_2 < a0_2) = false := decide_eq_false c11
   clear c11
   replace H := Option.bind_eq_some_iff.mp H
   obtain ⟨t495, A170, H⟩ := H
   have A17 := Aside0.mk A170
   clear A170
   obtain rfl := Option.some.inj H
   go_enter Try.func25, Try.ntmps25
   go_wp2_with (first | ((with_reducible refine gate_dst (N := 2) rfl ?_); refine box_event ?hg (N := 2) ?hd (cs := #[.string a0_0, .string a0_1, .int .i64 a0_2, .string a0_3]) (t := 23) ?hr ?_; (case hd => rfl); (case hg => rfl); (case hr => first | (go_simp; done) | (go_simp; rfl)); intro gb493 hg w18 hbox hb; have BK493 := Aside0.mk (hbox); have GW493 := Aside0.mk ((by rw [hg]; exact (bZ_ (kwW HB)) : w.heap.size ≤ gb493)); replace HB := Aside0.mk (below_step (kwW HB) hb); have GE493 := GW493; clear hb hbox hg) | ((with_reducible refine gate_dst (N := 3) rfl ?_); refine box_event ?hg (N := 3) ?hd (cs := #[.string a1_0, .string a1_1, .int .i64 a1_2, .string a1_3]) (t := 23) ?hr ?_; (case hd => rfl); (case hg => rfl); (case hr => first | (go_simp; done) | (go_simp; rfl)); intro gb494 hg w19 hbox hb; have BK494 := Aside0.mk (hbox); have GW494 := Aside0.mk ((by rw [hg]; exact (bZ_ (by repeat (first | (with_reducible first | exact HB.out | apply bA_ | apply bN_ | apply bD_ | refine bS_ ?_ GE493) | exact HB.out))) : w.heap.size ≤ gb494)); replace HB := Aside0.mk (below_step (by repeat (first | (with_reducible first | exact HB.out | apply bA_ | apply bN_ | apply bD_ | refine bS_ ?_ GE493) | exact HB.out)) hb); have GE494 := GW494; have NB493_494 := Aside0.mk ((by rw [hg]; exact Nat.ne_of_lt (blk_lt (kbW BK493)) : gb493 ≠ gb494)); have NB494_493 := Aside0.mk ((by rw [hg]; exact Nat.ne_of_gt (blk_lt (kbW BK493)) : gb494 ≠ gb493)); replace BK493 := kB BK493 hb; clear hb hbox hg; have hnb20 := NB493_494.out; have hnc20 := NB494_493.out; obtain ⟨hcz21_0, hcz21_1, hcz21_2, hcz21_3, hfz21_0, hfz21_1, hfz21_2, hfz21_3⟩ := czf4 BK493; obtain ⟨_, _, _, _, _, _, _, _⟩ := czf4 BK494) | ((with_reducible refine gate_callee (f := 48) rfl ?_); refine goesL_ (some 43) rfl rfl Try.func48 (by kernel_rfl) rfl #[.string a0_3, .string a1_3] rfl (by (try simp only [mT_, mC_, mN_]); first | done | rfl) ?_; (with_reducible refine (skerryref04_texts.calls a0_3 a1_3 t495 _ A17.out).mono ?_); rintro e w' ⟨rfl, ⟨nd, rfl⟩⟩; refine ⟨_, rfl, ?_⟩))
   go_ret
   exact ⟨by first | rfl | (simp <;> rfl) | (simp [*] <;> rfl), by repeat (first | (with_reducible first | exact HB.out | apply bA_ | apply bN_ | apply bD_ | refine bS_ ?_ GE493 | refine bS_ ?_ GE494) | exact HB.out)⟩
def skerryref05_Find.l0 : Nat → List (S29) → Int → Int → ByteArray → ByteArray → Int → ByteArray → Option (Int × Bool × Int × Int × Int × ByteArray × Bool)
 | 0, _, _, _, _, _, _, _ => none
 | k + 1, x8, x9, x10, x561000, x561001, x561002, x561003 => if x10 < x9 then (if 0 ≤ x10 then (if x10 < (x8.length : Int) then (if ((((rd_T29 x8 x10).f0.f0).toList) == x561000.toList && ((((rd_T29 x8 x10).f0.f1).toList) == x561001.toList && (((rd_T29 x8 x10).f0.f2) == x561002 && ((((rd_T29 x8 x10).f0.f3).toList) == x561003.toList)))) = true then (some ((rd_T29 x8 x10).f1.f0, (rd_T29 x8 x10).f1.f1, (rd_T29 x8 x10).f1.f2, (rd_T29 x8 x10).f1.f3.f0, (rd_T29 x8 x10).f1.f3.f1, (rd_T29 x8 x10).f1.f3.f2, true)) else (skerryref05_Find.l0 k x8 x9 (wrap64 (x10 + 1)) x561000 x561001 x561002 x561003)) else (none)) else (none)) else (some (0, false, 0, 0, 0, (⟨#[]⟩ : ByteArray), false))
def skerryref05_Find.f (k : Nat) (l0 : List (S29)) (a1_0 : ByteArray) (a1_1 : ByteArray) (a1_2 : Int) (a1_3 : ByteArray) : Option (Int × Bool × Int × Int × Int × ByteArray × Bool) := skerryref05_Find.l0 k l0 (l0.length : Int) 0 a1_0 a1_1 a1_2 a1_3
set_option maxHeartbeats 8000000 in
set_option maxRecDepth 100000 in
theorem skerryref05_Find.calls (k : Nat) (A0 : Option Addr) (c0 : Nat) (l0 : List (S29)) (a1_0 : ByteArray) (a1_1 : ByteArray) (a1_2 : Int) (a1_3 : ByteArray) (r1 : Int) (r2 : Bool) (r3 : Int) (r4 : Int) (r5 : Int) (r6 : ByteArray) (r7 : Bool) (w : World) (hr0 : Kd.C k29 w A0 l0.length l0) (hc0 : l0.length ≤ c0) (h : skerryref05_Find.f k l0 a1_0 a1_1 a1_2 a1_3 = some (r1, r2, r3, r4, r5, r6, r7)) :
  Calls Try.prog 26 #[.slice A0 l0.length c0, .agg #[.string a1_0, .string a1_1, .int .i64 a1_2, .string a1_3]] w fun e w' => e = .returned (.tuple #[.agg #[.int .i64 r1, .bool r2, .int .i64 r3, .int .i64 r4, .int .i64 r5, .string r6], .bool r7]) ∧ Below w.heap.size w w' := by
 have hu23 := Try.underlying23
 have hu27 := Try.underlying27
 have hu29 := Try.underlying29
 have HR0 := Aside0.mk hr0
 have HC0 := Aside0.mk hc0
 clear hr0 hc0
 have HB := Aside0.mk (Below.refl w.heap.size w)
 have H : (skerryref05_Find.l0 k l0 (l0.length : Int) 0 a1_0 a1_1 a1_2 a1_3) = some (r1, r2, r3, r4, r5, r6, r7) := h
 clear h
 have H' := Aside0.mk H
 clear H
 go_enter Try.func26, Try.ntmps26
 go_wp2_with (first | ((with_reducible refine gate_dst (N := 3) rfl ?_); refine box_event ?hg (N := 3) ?hd (cs := #[.string a1_0, .string a1_1, .int .i64 a1_2, .string a1_3]) (t := 23) ?hr ?_; (case hd => rfl); (case hg => rfl); (case hr => first | (go_simp; done) | (go_simp; rfl)); intro gb560 hg w3 hbox hb; have BK560 := Aside0.mk (hbox); have GW560 := Aside0.mk ((by rw [hg]; exact (bZ_ (kwW HB)) : w.heap.size ≤ gb560)); replace HB := Aside0.mk (below_step (kwW HB) hb); have GE560 := GW560; clear hb hbox hg) | ((with_reducible refine gate_dst (N := 4) rfl ?_); refine box_event ?hg (N := 4) ?hd (cs := #[.int .i64 0, .bool false, .int .i64 0, .int .i64 0, .int .i64 0, .string (⟨#[]⟩ : ByteArray)]) (t := 27) ?hr ?_; (case hd => rfl); (case hg => rfl); (case hr => first | (go_simp; done) | (go_simp; rfl)); intro gb561 hg w4 hbox hb; have BK561 := Aside0.mk (hbox); have GW561 := Aside0.mk ((by rw [hg]; exact (bZ_ (by repeat (first | (with_reducible first | exact HB.out | apply bA_ | apply bN_ | apply bD_ | refine bS_ ?_ GE560) | exact HB.out))) : w.heap.size ≤ gb561)); replace HB := Aside0.mk (below_step (by repeat (first | (with_reducible first | exact HB.out | apply bA_ | apply bN_ | apply bD_ | refine bS_ ?_ GE560) | exact HB.out)) hb); have GE561 := GW561; have NB560_561 := Aside0.mk ((by rw [hg]; exact Nat.ne_of_lt (blk_lt (kbW BK560)) : gb560 ≠ gb561)); have NB561_560 := Aside0.mk ((by rw [hg]; exact Nat.ne_of_gt (blk_lt (kbW BK560)) : gb561 ≠ gb560)); replace BK560 := kB BK560 hb; clear hb hbox hg))
 go_loopg [10] k (fun kq v10 w' => ∃ (x10_1 : Int) (x562000_1 : Int) (x562001_1 : Bool) (x562002_1 : Int) (x562003_1 : Int) (x562004_1 : Int) (x562005_1 : ByteArray), v10 = .int .i64 x10_1 ∧ Aside0 (skerryref05_Find.l0 kq l0 (l0.length : Int) x10_1 a1_0 a1_1 a1_2 a1_3 = some (r1, r2, r3, r4, r5, r6, r7)) ∧ Aside0 (kq ≤ k) ∧ Aside0 (w'.heap[gb560]? = some (.cells #[.string a1_0, .string a1_1, .int .i64 a1_2, .string a1_3] 23 (0, 0))) ∧ Aside0 (w'.heap[gb561]? = some (.cells #[.int .i64 x562000_1, .bool x562001_1, .int .i64 x562002_1, .int .i64 x562003_1, .int .i64 x562004_1, .string x562005_1] 27 (0, 0))) ∧ Aside0 (Below w.heap.size w w'))
 case atStart => exact ⟨(0), (0), (false), (0), (0), (0), ((⟨#[]⟩ : ByteArray)), (by first | rfl | (simp; done) | (simp [bne, *]; done)), H', ⟨Nat.le_refl _⟩, ⟨by (with_reducible repeat (first | refine blk_drewN ?_ _ | refine blk_drew ?_ | refine blk_alloc ?_ _)); exact BK560.out⟩, ⟨by (with_reducible repeat (first | refine blk_drewN ?_ _ | refine blk_drew ?_ | refine blk_alloc ?_ _)); exact BK561.out⟩, ⟨by repeat (first | (with_reducible first | exact HB.out | apply bA_ | apply bN_ | apply bD_ | refine bS_ ?_ GE560 | refine bS_ ?_ GE561) | exact HB.out)⟩⟩
 case round =>
  clear H'
  try clear c2
  try clear p2
  obtain ⟨x10_1, x562000_1, x562001_1, x562002_1, x562003_1, x562004_1, x562005_1, rfl, HA, HK1, BK560, BK561, HB⟩ := hrel
  cases gk with
  | zero => exact absurd HA.out (by simp [skerryref05_Find.l0])
  | succ k1 =>
   have H := HA.out
   clear HA
   simp only [skerryref05_Find.l0] at H
   by_cases c5 : x10_1 < (l0.length : Int)
   rotate_left
   ·
    rw [if_neg c5] at H
    have c5b0 : decide (x10_1 < (l0.length : Int)) = false := decide_eq_false c5
    clear c5
    simp only [Option.some.injEq, Prod.mk.injEq] at H
    obtain ⟨rfl, rfl, rfl, rfl, rfl, rfl, rfl⟩ := H
    have hnb22 := NB561_560.out
    have hnc22 := NB560_561.out
    obtain ⟨_, _, _, _, _, _, _, _, _, _, _, _⟩ := czf6 BK561
    go_wp2
    refine bodyPost_ret (results_ct rfl _ _ gb561 27 #[.int .i64 0, .bool false, .int .i64 0, .int .i64 0, .int .i64 0, .string (⟨#[]⟩ : ByteArray)] (0, 0) _ rfl (by (with_reducible repeat (first | refine blk_drewN ?_ _ | refine blk_drew ?_ | refine blk_alloc ?_ _)); exact bp6 (kbW BK561)) Try.underlying27 rfl (by kernel_rfl)) rfl ?_
    exact ⟨by first | rfl | (simp <;> rfl) | (simp [*] <;> rfl), by repeat (first | (with_reducible first | exact HB.out | apply bA_ | apply bN_ | apply bD_ | refine bS_ ?_ GE560 | refine bS_ ?_ GE561) | exact HB.out)⟩
   rw [if_pos c5] at H
   have c5b0 : decide (x10_1 < (l0.length : Int)) = true := decide_eq_true c5
   clear c5
   by_cases c6 : 0 ≤ x10_1
   rotate_left
   ·
    rw [if_neg c6] at H
    exact absurd H (by simp)
   rw [if_pos c6] at H
   have c6b0 : decide (0 ≤ x10_1) = true := decide_eq_true c6
   clear c6
   by_cases c7 : x10_1 < (l0.length : Int)
   rotate_left
   ·
    rw [if_neg c7] at H
    exact absurd H (by simp)
   rw [if_pos c7] at H
   have c7b0 : decide (x10_1 < (l0.length : Int)) = true := decide_eq_true c7
   clear c7
   by_cases c8 : ((((rd_T29 l0 x10_1).f0.f0).toList) == a1_0.toList && ((((rd_T29 l0 x10_1).f0.f1).toList) == a1_1.toList && (((rd_T29 l0 x10_1).f0.f2) == a1_2 && ((((rd_T29 l0 x10_1).f0.f3).toList) == a1_3.toList)))) = true
   ·
    rw [if_pos c8] at H
    have c8b0 : ((((rd_T29 l0 x10_1).f0.f0).toList) == a1_0.toList && ((((rd_T29 l0 x10_1).f0.f1).toList) == a1_1.toList && (((rd_T29 l0 x10_1).f0.f2) == a1_2 && ((((rd_T29 l0 x10_1).f0.f3).toList) == a1_3.toList)))) = true := c8
    (try (have c8b1 : decide ((((rd_T29 l0 x10_1).f0.f0).toList) = a1_0.toList && ((((rd_T29 l0 x10_1).f0.f1).toList) == a1_1.toList && (((rd_T29 l0 x10_1).f0.f2) == a1_2 && ((((rd_T29 l0 x10_1).f0.f3).toList) == a1_3.toList)))) = true := by simpa using c8))
    (try (have c8b2 : ((((rd_T29 l0 x10_1).f0.f0).toList) == a1_0.toList && ((((rd_T29 l0 x10_1).f0.f1).toList) == a1_1.toList && (((rd_T29 l0 x10_1).f0.f2) == a1_2 && ((((rd_T29 l0 x10_1).f0.f3).toList) == a1_3.toList)))) = true := by simpa using c8))
    clear c8
    simp only [Option.some.injEq, Prod.mk.injEq] at H
    obtain ⟨rfl, rfl, rfl, rfl, rfl, rfl, rfl⟩ := H
    have p562 : 0 ≤ (x10_1 : Int) := of_decide_eq_true (by first | (with_reducible assumption) | assumption)
    have q562 : x10_1 < (l0.length : Int) := of_decide_eq_true (by first | (with_reducible assumption) | assumption)
    obtain ⟨ad562, e562, hx562_0, hx562_1, hx562_2, hx562_3, hx562_4, hx562_5, hx562_6, hx562_7, hx562_8, hx562_9⟩ := at_T29 HR0.out x10_1 p562 q562
    cases e562
    replace hx562_0 := cB_ HB hx562_0
    replace hx562_1 := cB_ HB hx562_1
    replace hx562_2 := cB_ HB hx562_2
    replace hx562_3 := cB_ HB hx562_3
    replace hx562_4 := cB_ HB hx562_4
    replace hx562_5 := cB_ HB hx562_5
    replace hx562_6 := cB_ HB hx562_6
    replace hx562_7 := cB_ HB hx562_7
    replace hx562_8 := cB_ HB hx562_8
    replace hx562_9 := cB_ HB hx562_9
    replace p562 := eq_true p562
    replace q562 := eq_true q562
    go_wp2_with (first | ((with_reducible refine gate_dst (N := 7) rfl ?_); refine box_event ?hg (N := 7) ?hd (cs := #[.string (⟨#[]⟩ : ByteArray), .string (⟨#[]⟩ : ByteArray), .int .i64 0, .string (⟨#[]⟩ : ByteArray), .int .i64 0, .bool false, .int .i64 0, .int .i64 0, .int .i64 0, .string (⟨#[]⟩ : ByteArray)]) (t := 29) ?hr ?_; (case hd => rfl); (case hg => rfl); (case hr => first | (go_simp; done) | (go_simp; rfl)); intro gb563 hg w9 hbox hb; have BK563 := Aside0.mk (hbox); have GW563 := Aside0.mk ((by rw [hg]; exact (bZ_ (by repeat (first | (with_reducible first | exact HB.out | apply bA_ | apply bN_ | apply bD_ | refine bS_ ?_ GE560 | refine bS_ ?_ GE561) | exact HB.out))) : w.heap.size ≤ gb563)); replace HB := Aside0.mk (below_step (by repeat (first | (with_reducible first | exact HB.out | apply bA_ | apply bN_ | apply bD_ | refine bS_ ?_ GE560 | refine bS_ ?_ GE561) | exact HB.out)) hb); have GE563 := GW563; have NB560_563 := Aside0.mk ((by rw [hg]; exact Nat.ne_of_lt (blk_lt (kbW BK560)) : gb560 ≠ gb563)); have NB563_560 := Aside0.mk ((by rw [hg]; exact Nat.ne_of_gt (blk_lt (kbW BK560)) : gb563 ≠ gb560)); replace BK560 := kB BK560 hb; have NB561_563 := Aside0.mk ((by rw [hg]; exact Nat.ne_of_lt (blk_lt (kbW BK561)) : gb561 ≠ gb563)); have NB563_561 := Aside0.mk ((by rw [hg]; exact Nat.ne_of_gt (blk_lt (kbW BK561)) : gb563 ≠ gb561)); replace BK561 := kB BK561 hb; clear hb hbox hg; have hnb10 := NB563_560.out; have hnc10 := NB560_563.out; have hnb11 := NB563_561.out; have hnc11 := NB561_563.out; obtain ⟨_, _, _, _, _, _, _, _, _, _, _, _, _, _, _, _, _, _, _, _⟩ := czf10 BK563; have hnb13 := NB560_561.out; have hnc13 := NB561_560.out; obtain ⟨_, _, _, _, _, _, _, _⟩ := czf4 BK560; obtain ⟨hcz15_0, hcz15_1, hcz15_2, hcz15_3, hcz15_4, hcz15_5, hfz15_0, hfz15_1, hfz15_2, hfz15_3, hfz15_4, hfz15_5⟩ := czf6 BK561))
    refine bodyPost_ret (results_ct rfl _ _ gb561 27 #[.int .i64 ((rd_T29 l0 x10_1).f1.f0), .bool ((rd_T29 l0 x10_1).f1.f1), .int .i64 ((rd_T29 l0 x10_1).f1.f2), .int .i64 ((rd_T29 l0 x10_1).f1.f3.f0), .int .i64 ((rd_T29 l0 x10_1).f1.f3.f1), .string ((rd_T29 l0 x10_1).f1.f3.f2)] (0, 0) _ rfl (by (with_reducible repeat (first | refine blk_drewN ?_ _ | refine blk_drew ?_ | refine blk_alloc ?_ _)); apply bp6; (with_reducible repeat (first | refine blk_drewN ?_ _ | refine blk_drew ?_ | refine blk_alloc ?_ _)); refine bf10 ?_ NB561_563.out; (with_reducible repeat (first | refine blk_drewN ?_ _ | refine blk_drew ?_ | refine blk_alloc ?_ _)); exact BK561.out) Try.underlying27 rfl (by kernel_rfl)) rfl ?_
    exact ⟨by first | rfl | (simp <;> rfl) | (simp [*] <;> rfl), by repeat (first | (with_reducible first | exact HB.out | apply bA_ | apply bN_ | apply bD_ | refine bS_ ?_ GE560 | refine bS_ ?_ GE561 | refine bS_ ?_ GE563) | exact HB.out)⟩
   ·
    rw [if_neg c8] at H
    have c8b0 : ((((rd_T29 l0 x10_1).f0.f0).toList) == a1_0.toList && ((((rd_T29 l0 x10_1).f0.f1).toList) == a1_1.toList && (((rd_T29 l0 x10_1).f0.f2) == a1_2 && ((((rd_T29 l0 x10_1).f0.f3).toList) == a1_3.toList)))) = false := by simpa using c8
    (try (have c8b1 : decide ((((rd_T29 l0 x10_1).f0.f0).toList) = a1_0.toList && ((((rd_T29 l0 x10_1).f0.f1).toList) == a1_1.toList && (((rd_T29 l0 x10_1).f0.f2) == a1_2 && ((((rd_T29 l0 x10_1).f0.f3).toList) == a1_3.toList)))) = false := by simpa using c8))
    (try (have c8b2 : ((((rd_T29 l0 x10_1).f0.f0).toList) == a1_0.toList && ((((rd_T29 l0 x10_1).f0.f1).toList) == a1_1.toList && (((rd_T29 l0 x10_1).f0.f2) == a1_2 && ((((rd_T29 l0 x10_1).f0.f3).toList) == a1_3.toList)))) = false := by simpa using c8))
    (try (have c8b3 : ¬ ((((rd_T29 l0 x10_1).f0.f0).toList) = a1_0.toList && ((((rd_T29 l0 x10_1).f0.f1).toList) == a1_1.toList && (((rd_T29 l0 x10_1).f0.f2) == a1_2 && ((((rd_T29 l0 x10_1).f0.f3).toList) == a1_3.toList)))) := by simpa using c8))
    clear c8
    have H' := Aside0.mk H
    clear H
    have p562 : 0 ≤ (x10_1 : Int) := of_decide_eq_true (by first | (with_reducible assumption) | assumption)
    have q562 : x10_1 < (l0.length : Int) := of_decide_eq_true (by first | (with_reducible assumption) | assumption)
    obtain ⟨ad562, e562, hx562_0, hx562_1, hx562_2, hx562_3, hx562_4, hx562_5, hx562_6, hx562_7, hx562_8, hx562_9⟩ := at_T29 HR0.out x10_1 p562 q562
    cases e562
    replace hx562_0 := cB_ HB hx562_0
    replace hx562_1 := cB_ HB hx562_1
    replace hx562_2 := cB_ HB hx562_2
    replace hx562_3 := cB_ HB hx562_3
    replace hx562_4 := cB_ HB hx562_4
    replace hx562_5 := cB_ HB hx562_5
    replace hx562_6 := cB_ HB hx562_6
    replace hx562_7 := cB_ HB hx562_7
    replace hx562_8 := cB_ HB hx562_8
    replace hx562_9 := cB_ HB hx562_9
    replace p562 := eq_true p562
    replace q562 := eq_true q562
    go_wp2_with (first | ((with_reducible refine gate_dst (N := 7) rfl ?_); refine box_event ?hg (N := 7) ?hd (cs := #[.string (⟨#[]⟩ : ByteArray), .string (⟨#[]⟩ : ByteArray), .int .i64 0, .string (⟨#[]⟩ : ByteArray), .int .i64 0, .bool false, .int .i64 0, .int .i64 0, .int .i64 0, .string (⟨#[]⟩ : ByteArray)]) (t := 29) ?hr ?_; (case hd => rfl); (case hg => rfl); (case hr => first | (go_simp; done) | (go_simp; rfl)); intro gb563 hg w16 hbox hb; have BK563 := Aside0.mk (hbox); have GW563 := Aside0.mk ((by rw [hg]; exact (bZ_ (by repeat (first | (with_reducible first | exact HB.out | apply bA_ | apply bN_ | apply bD_ | refine bS_ ?_ GE560 | refine bS_ ?_ GE561) | exact HB.out))) : w.heap.size ≤ gb563)); replace HB := Aside0.mk (below_step (by repeat (first | (with_reducible first | exact HB.out | apply bA_ | apply bN_ | apply bD_ | refine bS_ ?_ GE560 | refine bS_ ?_ GE561) | exact HB.out)) hb); have GE563 := GW563; have NB560_563 := Aside0.mk ((by rw [hg]; exact Nat.ne_of_lt (blk_lt (kbW BK560)) : gb560 ≠ gb563)); have NB563_560 := Aside0.mk ((by rw [hg]; exact Nat.ne_of_gt (blk_lt (kbW BK560)) : gb563 ≠ gb560)); replace BK560 := kB BK560 hb; have NB561_563 := Aside0.mk ((by rw [hg]; exact Nat.ne_of_lt (blk_lt (kbW BK561)) : gb561 ≠ gb563)); have NB563_561 := Aside0.mk ((by rw [hg]; exact Nat.ne_of_gt (blk_lt (kbW BK561)) : gb563 ≠ gb561)); replace BK561 := kB BK561 hb; clear hb hbox hg; have hnb17 := NB563_560.out; have hnc17 := NB560_563.out; have hnb18 := NB563_561.out; have hnc18 := NB561_563.out; obtain ⟨_, _, _, _, _, _, _, _, _, _, _, _, _, _, _, _, _, _, _, _⟩ := czf10 BK563; have hnb20 := NB560_561.out; have hnc20 := NB561_560.out; obtain ⟨hcz21_0, hcz21_1, hcz21_2, hcz21_3, hfz21_0, hfz21_1, hfz21_2, hfz21_3⟩ := czf4 BK560))
    go_roundg k1
    case measure => have := HK1.out; omega
    case rel => exact ⟨(wrap64 (x10_1 + 1)), (x562000_1), (x562001_1), (x562002_1), (x562003_1), (x562004_1), (x562005_1), (by first | rfl | (simp; done) | (simp [bne, *]; done)), H', ⟨by have := HK1.out; omega⟩, ⟨by (with_reducible repeat (first | refine blk_drewN ?_ _ | refine blk_drew ?_ | refine blk_alloc ?_ _)); refine bf10 ?_ NB560_563.out; (with_reducible repeat (first | refine blk_drewN ?_ _ | refine blk_drew ?_ | refine blk_alloc ?_ _)); exact BK560.out⟩, ⟨by (with_reducible repeat (first | refine blk_drewN ?_ _ | refine blk_drew ?_ | refine blk_alloc ?_ _)); refine bf10 ?_ NB561_563.out; (with_reducible repeat (first | refine blk_drewN ?_ _ | refine blk_drew ?_ | refine blk_alloc ?_ _)); exact BK561.out⟩, ⟨by repeat (first | (with_reducible first | exact HB.out | apply bA_ | apply bN_ | apply bD_ | refine bS_ ?_ GE560 | refine bS_ ?_ GE561 | refine bS_ ?_ GE563) | exact HB.out)⟩⟩
end Go.Proofs.Ytaedmofnhjaljaa.Q
