/- Lemmas for this claim's walk: no condition of their own. -/
import Derived.Test.YtabiekkebdocnaaZeSq
import Derived.Test.YtabiekkebdocnaaZeQx0
import Derived.Test.YtabiekkebdocnaaZeQx6
namespace Go.Proofs.Ytabiekkebdocnaa.Q
open Go.RowKit Go.Proofs.YtabiekkebdocnaaW.PrintWords Go.Proofs.YtabiekkebdocnaaW.PrintLast Go.Proofs.YtabiekkebdocnaaW.PrintMore
attribute [local go_sem] max2_int min2_int max_two min_two max_three min_three max_four min_four
set_option linter.unusedVariables false
set_option linter.unusedSimpArgs false
def merge_source_before.f (k : Nat) (l0_0 : List (S39)) (a0_1 : Int) (l1_0 : List (S39)) (a1_1 : Int) : Option (Bool) := if 0 < (l0_0.length : Int) then (if 0 < (l1_0.length : Int) then ((key_Cmp.f k ((rd_T39 l0_0 0).f0.f0) ((rd_T39 l0_0 0).f0.f1) ((rd_T39 l0_0 0).f0.f2) ((rd_T39 l0_0 0).f0.f3) ((rd_T39 l1_0 0).f0.f0) ((rd_T39 l1_0 0).f0.f1) ((rd_T39 l1_0 0).f0.f2) ((rd_T39 l1_0 0).f0.f3)).bind fun t220 => (if t220 < 0 then (some true) else (if t220 = 0 then (some (decide (a0_1 < a1_1))) else (some false)))) else (none)) else (none)
def merge_source_before.T1 : Bool × List (List Nat × List Nat) := (true, [([], []), ([0], [0]), ([1], [1]), ([2], [2]), ([3], [3]), ([], []), ([5], [5]), ([6], [6]), ([7], [7]), ([8], [8]), ([4, 9], [4, 9]), ([10, 10, 0, 1, 2, 3, 4, 5, 6, 7, 8, 9, 10], [10])])
def merge_source_before.B1 : List Nat := [0, 1, 3, 7, 15, 0, 32, 96, 224, 480, 1023, 2047]
theorem merge_source_before.tab1 : rtab .any (opsOf Try.f58 1) = merge_source_before.T1 := by kernel_rfl
theorem merge_source_before.bits1 : waitsOk merge_source_before.T1.2 merge_source_before.B1 = true := by kernel_rfl
set_option maxHeartbeats 8000000 in
set_option maxRecDepth 100000 in
theorem merge_source_before.calls (k : Nat) (A0_0 : Option Addr) (c0_0 : Nat) (l0_0 : List (S39)) (a0_1 : Int) (A1_0 : Option Addr) (c1_0 : Nat) (l1_0 : List (S39)) (a1_1 : Int) (r : Bool) (w : World) (hr0_0 : Kd.C k39 w A0_0 l0_0.length l0_0) (hc0_0 : l0_0.length ≤ c0_0) (hr1_0 : Kd.C k39 w A1_0 l1_0.length l1_0) (hc1_0 : l1_0.length ≤ c1_0) (h : merge_source_before.f k l0_0 a0_1 l1_0 a1_1 = some r) :
  Calls Try.prog 58 #[.agg #[.slice A0_0 l0_0.length c0_0, .int .i64 a0_1], .agg #[.slice A1_0 l1_0.length c1_0, .int .i64 a1_1]] w fun e w' => e = .returned (.bool r) ∧ Below w.heap.size w w' := by
 have hu59 := Try.underlying59
 have hu33 := Try.underlying33
 have HR0_0 := Aside0.mk hr0_0
 have HC0_0 := Aside0.mk hc0_0
 clear hr0_0 hc0_0
 have HR1_0 := Aside0.mk hr1_0
 have HC1_0 := Aside0.mk hc1_0
 clear hr1_0 hc1_0
 have HB := Aside0.mk (Below.refl w.heap.size w)
 have H : (if 0 < (l0_0.length : Int) then (if 0 < (l1_0.length : Int) then ((key_Cmp.f k ((rd_T39 l0_0 0).f0.f0) ((rd_T39 l0_0 0).f0.f1) ((rd_T39 l0_0 0).f0.f2) ((rd_T39 l0_0 0).f0.f3) ((rd_T39 l1_0 0).f0.f0) ((rd_T39 l1_0 0).f0.f1) ((rd_T39 l1_0 0).f0.f2) ((rd_T39 l1_0 0).f0.f3)).bind fun t220 => (if t220 < 0 then (some true) else (if t220 = 0 then (some (decide (a0_1 < a1_1))) else (some false)))) else (none)) else (none)) = some r := h
 clear h
 by_cases c3 : 0 < (l0_0.length : Int)
 rotate_left
 ·
  rw [if_neg c3] at H
  exact absurd H (by simp)
 rw [if_pos c3] at H
 have c3b0 : decide (0 < (l0_0.length : Int)) = true := decide_eq_true c3
 have c3b1 : decide (0 < l0_0.length) = true := decide_eq_true (by omega)
 clear c3
 by_cases c4 : 0 < (l1_0.length : Int)
 rotate_left
 ·
  rw [if_neg c4] at H
  exact absurd H (by simp)
 rw [if_pos c4] at H
 have c4b0 : decide (0 < (l1_0.length : Int)) = true := decide_eq_true c4
 have c4b1 : decide (0 < l1_0.length) = true := decide_eq_true (by omega)
 clear c4
 replace H := Option.bind_eq_some_iff.mp H
 obtain ⟨t220, A50, H⟩ := H
 have A5 := Aside0.mk A50
 clear A50
 by_cases c6 : t220 < 0
 ·
  rw [if_pos c6] at H
  have c6b0 : decide (t220 < 0) = true := decide_eq_true c6
  clear c6
  obtain rfl := Option.some.inj H
  go_enter Try.func58, Try.ntmps58
  try go_wp2_with (first | ((with_reducible refine gate_dst (N := 2) rfl ?_); refine box_event ?hg (N := 2) ?hd (cs := #[.slice A0_0 l0_0.length c0_0, .int .i64 a0_1]) (t := 59) ?hr ?_; (case hd => rfl); (case hg => rfl); (case hr => first | (go_simp; done) | (go_simp; rfl)); intro gb216 hg w7 hbox hb; have BK216 := Aside0.mk (hbox); have GW216 := Aside0.mk ((by rw [hg]; exact (bZ_ (kwW HB)) : w.heap.size ≤ gb216)); replace HB := Aside0.mk (below_step (kwW HB) hb); have GE216 := GW216; clear hb hbox hg) | ((with_reducible refine gate_dst (N := 3) rfl ?_); refine box_event ?hg (N := 3) ?hd (cs := #[.slice A1_0 l1_0.length c1_0, .int .i64 a1_1]) (t := 59) ?hr ?_; (case hd => rfl); (case hg => rfl); (case hr => first | (go_simp; done) | (go_simp; rfl)); intro gb217 hg w8 hbox hb; have BK217 := Aside0.mk (hbox); have GW217 := Aside0.mk ((by rw [hg]; exact (bZ_ (by repeat (first | (with_reducible first | exact HB.out | apply bA_ | apply bN_ | apply bD_ | refine bS_ ?_ GE216) | exact HB.out))) : w.heap.size ≤ gb217)); replace HB := Aside0.mk (below_step (by repeat (first | (with_reducible first | exact HB.out | apply bA_ | apply bN_ | apply bD_ | refine bS_ ?_ GE216) | exact HB.out)) hb); have GE217 := GW217; have NB216_217 := Aside0.mk ((by rw [hg]; exact Nat.ne_of_lt (blk_lt (kbW BK216)) : gb216 ≠ gb217)); have NB217_216 := Aside0.mk ((by rw [hg]; exact Nat.ne_of_gt (blk_lt (kbW BK216)) : gb217 ≠ gb216)); replace BK216 := kB BK216 hb; clear hb hbox hg))
  replace BK216 := Aside0.mk (blk_drew BK216.out)
  replace BK217 := Aside0.mk (blk_drew BK217.out)
  replace HB := Aside0.mk (below_drew1 HB.out)
  have p218 : 0 ≤ (0 : Int) := (by omega)
  have q218 : 0 < (l0_0.length : Int) := of_decide_eq_true (by first | (with_reducible assumption) | assumption)
  obtain ⟨ad218, e218, hx218_0, hx218_1, hx218_2, hx218_3, hx218_4, hx218_5, hx218_6, hx218_7, hx218_8, hx218_9⟩ := at_T39 HR0_0.out 0 p218 q218
  have hw218_9 := hx218_9
  (try rw [show ((0 : Int)).toNat = 0 from rfl] at hw218_9)
  (try rw [show 0 * 10 = 0 from rfl] at hw218_9)
  (try rw [Addr.add_zero'] at hw218_9)
  have hw218_8 := hx218_8
  (try rw [show ((0 : Int)).toNat = 0 from rfl] at hw218_8)
  (try rw [show 0 * 10 = 0 from rfl] at hw218_8)
  (try rw [Addr.add_zero'] at hw218_8)
  have hw218_7 := hx218_7
  (try rw [show ((0 : Int)).toNat = 0 from rfl] at hw218_7)
  (try rw [show 0 * 10 = 0 from rfl] at hw218_7)
  (try rw [Addr.add_zero'] at hw218_7)
  have hw218_6 := hx218_6
  (try rw [show ((0 : Int)).toNat = 0 from rfl] at hw218_6)
  (try rw [show 0 * 10 = 0 from rfl] at hw218_6)
  (try rw [Addr.add_zero'] at hw218_6)
  have hw218_5 := hx218_5
  (try rw [show ((0 : Int)).toNat = 0 from rfl] at hw218_5)
  (try rw [show 0 * 10 = 0 from rfl] at hw218_5)
  (try rw [Addr.add_zero'] at hw218_5)
  have hw218_4 := hx218_4
  (try rw [show ((0 : Int)).toNat = 0 from rfl] at hw218_4)
  (try rw [show 0 * 10 = 0 from rfl] at hw218_4)
  (try rw [Addr.add_zero'] at hw218_4)
  have hw218_3 := hx218_3
  (try rw [show ((0 : Int)).toNat = 0 from rfl] at hw218_3)
  (try rw [show 0 * 10 = 0 from rfl] at hw218_3)
  (try rw [Addr.add_zero'] at hw218_3)
  have hw218_2 := hx218_2
  (try rw [show ((0 : Int)).toNat = 0 from rfl] at hw218_2)
  (try rw [show 0 * 10 = 0 from rfl] at hw218_2)
  (try rw [Addr.add_zero'] at hw218_2)
  have hw218_1 := hx218_1
  (try rw [show ((0 : Int)).toNat = 0 from rfl] at hw218_1)
  (try rw [show 0 * 10 = 0 from rfl] at hw218_1)
  (try rw [Addr.add_zero'] at hw218_1)
  have hw218_0 := hx218_0
  (try rw [show ((0 : Int)).toNat = 0 from rfl] at hw218_0)
  (try rw [show 0 * 10 = 0 from rfl] at hw218_0)
  (try rw [Addr.add_zero'] at hw218_0)
  cases e218
  have qi218 : (0 < l0_0.length) = True := eq_true (by omega)
  (try rw [show ((0 : Int)).toNat = 0 from rfl] at hx218_0)
  (try rw [show 0 * 10 = 0 from rfl] at hx218_0)
  (try rw [Addr.add_zero'] at hx218_0)
  (try rw [show ((0 : Int)).toNat = 0 from rfl] at hx218_1)
  (try rw [show 0 * 10 = 0 from rfl] at hx218_1)
  (try rw [Addr.add_zero'] at hx218_1)
  (try rw [show ((0 : Int)).toNat = 0 from rfl] at hx218_2)
  (try rw [show 0 * 10 = 0 from rfl] at hx218_2)
  (try rw [Addr.add_zero'] at hx218_2)
  (try rw [show ((0 : Int)).toNat = 0 from rfl] at hx218_3)
  (try rw [show 0 * 10 = 0 from rfl] at hx218_3)
  (try rw [Addr.add_zero'] at hx218_3)
  (try rw [show ((0 : Int)).toNat = 0 from rfl] at hx218_4)
  (try rw [show 0 * 10 = 0 from rfl] at hx218_4)
  (try rw [Addr.add_zero'] at hx218_4)
  (try rw [show ((0 : Int)).toNat = 0 from rfl] at hx218_5)
  (try rw [show 0 * 10 = 0 from rfl] at hx218_5)
  (try rw [Addr.add_zero'] at hx218_5)
  (try rw [show ((0 : Int)).toNat = 0 from rfl] at hx218_6)
  (try rw [show 0 * 10 = 0 from rfl] at hx218_6)
  (try rw [Addr.add_zero'] at hx218_6)
  (try rw [show ((0 : Int)).toNat = 0 from rfl] at hx218_7)
  (try rw [show 0 * 10 = 0 from rfl] at hx218_7)
  (try rw [Addr.add_zero'] at hx218_7)
  (try rw [show ((0 : Int)).toNat = 0 from rfl] at hx218_8)
  (try rw [show 0 * 10 = 0 from rfl] at hx218_8)
  (try rw [Addr.add_zero'] at hx218_8)
  (try rw [show ((0 : Int)).toNat = 0 from rfl] at hx218_9)
  (try rw [show 0 * 10 = 0 from rfl] at hx218_9)
  (try rw [Addr.add_zero'] at hx218_9)
  replace hx218_0 := cB_ HB hx218_0
  replace hx218_1 := cB_ HB hx218_1
  replace hx218_2 := cB_ HB hx218_2
  replace hx218_3 := cB_ HB hx218_3
  replace hx218_4 := cB_ HB hx218_4
  replace hx218_5 := cB_ HB hx218_5
  replace hx218_6 := cB_ HB hx218_6
  replace hx218_7 := cB_ HB hx218_7
  replace hx218_8 := cB_ HB hx218_8
  replace hx218_9 := cB_ HB hx218_9
  replace p218 := eq_true p218
  replace q218 := eq_true q218
  have p219 : 0 ≤ (0 : Int) := (by omega)
  have q219 : 0 < (l1_0.length : Int) := of_decide_eq_true (by first | (with_reducible assumption) | assumption)
  obtain ⟨ad219, e219, hx219_0, hx219_1, hx219_2, hx219_3, hx219_4, hx219_5, hx219_6, hx219_7, hx219_8, hx219_9⟩ := at_T39 HR1_0.out 0 p219 q219
  have hw219_9 := hx219_9
  (try rw [show ((0 : Int)).toNat = 0 from rfl] at hw219_9)
  (try rw [show 0 * 10 = 0 from rfl] at hw219_9)
  (try rw [Addr.add_zero'] at hw219_9)
  have hw219_8 := hx219_8
  (try rw [show ((0 : Int)).toNat = 0 from rfl] at hw219_8)
  (try rw [show 0 * 10 = 0 from rfl] at hw219_8)
  (try rw [Addr.add_zero'] at hw219_8)
  have hw219_7 := hx219_7
  (try rw [show ((0 : Int)).toNat = 0 from rfl] at hw219_7)
  (try rw [show 0 * 10 = 0 from rfl] at hw219_7)
  (try rw [Addr.add_zero'] at hw219_7)
  have hw219_6 := hx219_6
  (try rw [show ((0 : Int)).toNat = 0 from rfl] at hw219_6)
  (try rw [show 0 * 10 = 0 from rfl] at hw219_6)
  (try rw [Addr.add_zero'] at hw219_6)
  have hw219_5 := hx219_5
  (try rw [show ((0 : Int)).toNat = 0 from rfl] at hw219_5)
  (try rw [show 0 * 10 = 0 from rfl] at hw219_5)
  (try rw [Addr.add_zero'] at hw219_5)
  have hw219_4 := hx219_4
  (try rw [show ((0 : Int)).toNat = 0 from rfl] at hw219_4)
  (try rw [show 0 * 10 = 0 from rfl] at hw219_4)
  (try rw [Addr.add_zero'] at hw219_4)
  have hw219_3 := hx219_3
  (try rw [show ((0 : Int)).toNat = 0 from rfl] at hw219_3)
  (try rw [show 0 * 10 = 0 from rfl] at hw219_3)
  (try rw [Addr.add_zero'] at hw219_3)
  have hw219_2 := hx219_2
  (try rw [show ((0 : Int)).toNat = 0 from rfl] at hw219_2)
  (try rw [show 0 * 10 = 0 from rfl] at hw219_2)
  (try rw [Addr.add_zero'] at hw219_2)
  have hw219_1 := hx219_1
  (try rw [show ((0 : Int)).toNat = 0 from rfl] at hw219_1)
  (try rw [show 0 * 10 = 0 from rfl] at hw219_1)
  (try rw [Addr.add_zero'] at hw219_1)
  have hw219_0 := hx219_0
  (try rw [show ((0 : Int)).toNat = 0 from rfl] at hw219_0)
  (try rw [show 0 * 10 = 0 from rfl] at hw219_0)
  (try rw [Addr.add_zero'] at hw219_0)
  cases e219
  have qi219 : (0 < l1_0.length) = True := eq_true (by omega)
  (try rw [show ((0 : Int)).toNat = 0 from rfl] at hx219_0)
  (try rw [show 0 * 10 = 0 from rfl] at hx219_0)
  (try rw [Addr.add_zero'] at hx219_0)
  (try rw [show ((0 : Int)).toNat = 0 from rfl] at hx219_1)
  (try rw [show 0 * 10 = 0 from rfl] at hx219_1)
  (try rw [Addr.add_zero'] at hx219_1)
  (try rw [show ((0 : Int)).toNat = 0 from rfl] at hx219_2)
  (try rw [show 0 * 10 = 0 from rfl] at hx219_2)
  (try rw [Addr.add_zero'] at hx219_2)
  (try rw [show ((0 : Int)).toNat = 0 from rfl] at hx219_3)
  (try rw [show 0 * 10 = 0 from rfl] at hx219_3)
  (try rw [Addr.add_zero'] at hx219_3)
  (try rw [show ((0 : Int)).toNat = 0 from rfl] at hx219_4)
  (try rw [show 0 * 10 = 0 from rfl] at hx219_4)
  (try rw [Addr.add_zero'] at hx219_4)
  (try rw [show ((0 : Int)).toNat = 0 from rfl] at hx219_5)
  (try rw [show 0 * 10 = 0 from rfl] at hx219_5)
  (try rw [Addr.add_zero'] at hx219_5)
  (try rw [show ((0 : Int)).toNat = 0 from rfl] at hx219_6)
  (try rw [show 0 * 10 = 0 from rfl] at hx219_6)
  (try rw [Addr.add_zero'] at hx219_6)
  (try rw [show ((0 : Int)).toNat = 0 from rfl] at hx219_7)
  (try rw [show 0 * 10 = 0 from rfl] at hx219_7)
  (try rw [Addr.add_zero'] at hx219_7)
  (try rw [show ((0 : Int)).toNat = 0 from rfl] at hx219_8)
  (try rw [show 0 * 10 = 0 from rfl] at hx219_8)
  (try rw [Addr.add_zero'] at hx219_8)
  (try rw [show ((0 : Int)).toNat = 0 from rfl] at hx219_9)
  (try rw [show 0 * 10 = 0 from rfl] at hx219_9)
  (try rw [Addr.add_zero'] at hx219_9)
  replace hx219_0 := cB_ HB hx219_0
  replace hx219_1 := cB_ HB hx219_1
  replace hx219_2 := cB_ HB hx219_2
  replace hx219_3 := cB_ HB hx219_3
  replace hx219_4 := cB_ HB hx219_4
  replace hx219_5 := cB_ HB hx219_5
  replace hx219_6 := cB_ HB hx219_6
  replace hx219_7 := cB_ HB hx219_7
  replace hx219_8 := cB_ HB hx219_8
  replace hx219_9 := cB_ HB hx219_9
  replace p219 := eq_true p219
  replace q219 := eq_true q219
  refine start_ (n := 12) (S := fun w' => w'.cell? ⟨gb216, 0, none⟩ = some (.slice (some ad218) l0_0.length c0_0) ∧ w'.cell? ⟨gb216, 1, none⟩ = some (.int .i64 a0_1) ∧ w'.cell? ⟨gb217, 0, none⟩ = some (.slice (some ad219) l1_0.length c1_0) ∧ w'.cell? ⟨gb217, 1, none⟩ = some (.int .i64 a1_1) ∧ w'.cell? ad218 = some (.string ((rd_T39 l0_0 0).f0.f0)) ∧ w'.cell? ⟨ad218.block, ad218.off + 1, none⟩ = some (.string ((rd_T39 l0_0 0).f0.f1)) ∧ w'.cell? ⟨ad218.block, ad218.off + 2, none⟩ = some (.int .i64 ((rd_T39 l0_0 0).f0.f2)) ∧ w'.cell? ⟨ad218.block, ad218.off + 3, none⟩ = some (.string ((rd_T39 l0_0 0).f0.f3)) ∧ w'.cell? ⟨ad218.block, ad218.off + 4, none⟩ = some (.int .i64 ((rd_T39 l0_0 0).f1.f0)) ∧ w'.cell? ⟨ad218.block, ad218.off + 5, none⟩ = some (.bool ((rd_T39 l0_0 0).f1.f1)) ∧ w'.cell? ⟨ad218.block, ad218.off + 6, none⟩ = some (.int .i64 ((rd_T39 l0_0 0).f1.f2)) ∧ w'.cell? ⟨ad218.block, ad218.off + 7, none⟩ = some (.int .i64 ((rd_T39 l0_0 0).f1.f3.f0)) ∧ w'.cell? ⟨ad218.block, ad218.off + 8, none⟩ = some (.int .i64 ((rd_T39 l0_0 0).f1.f3.f1)) ∧ w'.cell? ⟨ad218.block, ad218.off + 9, none⟩ = some (.string ((rd_T39 l0_0 0).f1.f3.f2)) ∧ w'.cell? ad219 = some (.string ((rd_T39 l1_0 0).f0.f0)) ∧ w'.cell? ⟨ad219.block, ad219.off + 1, none⟩ = some (.string ((rd_T39 l1_0 0).f0.f1)) ∧ w'.cell? ⟨ad219.block, ad219.off + 2, none⟩ = some (.int .i64 ((rd_T39 l1_0 0).f0.f2)) ∧ w'.cell? ⟨ad219.block, ad219.off + 3, none⟩ = some (.string ((rd_T39 l1_0 0).f0.f3)) ∧ w'.cell? ⟨ad219.block, ad219.off + 4, none⟩ = some (.int .i64 ((rd_T39 l1_0 0).f1.f0)) ∧ w'.cell? ⟨ad219.block, ad219.off + 5, none⟩ = some (.bool ((rd_T39 l1_0 0).f1.f1)) ∧ w'.cell? ⟨ad219.block, ad219.off + 6, none⟩ = some (.int .i64 ((rd_T39 l1_0 0).f1.f2)) ∧ w'.cell? ⟨ad219.block, ad219.off + 7, none⟩ = some (.int .i64 ((rd_T39 l1_0 0).f1.f3.f0)) ∧ w'.cell? ⟨ad219.block, ad219.off + 8, none⟩ = some (.int .i64 ((rd_T39 l1_0 0).f1.f3.f1)) ∧ w'.cell? ⟨ad219.block, ad219.off + 9, none⟩ = some (.string ((rd_T39 l1_0 0).f1.f3.f2))) (ds := []) (tf_ 0 12) (by kernel_rfl) rfl rfl ⟨(blk_cell BK216.out 0).trans rfl, (blk_cell BK216.out 1).trans rfl, (blk_cell BK217.out 0).trans rfl, (blk_cell BK217.out 1).trans rfl, ((HB.out.cell (World.block_lt_of_cell? w _ hw218_0)).trans hw218_0), ((HB.out.cell (World.block_lt_of_cell? w _ hw218_1)).trans hw218_1), ((HB.out.cell (World.block_lt_of_cell? w _ hw218_2)).trans hw218_2), ((HB.out.cell (World.block_lt_of_cell? w _ hw218_3)).trans hw218_3), ((HB.out.cell (World.block_lt_of_cell? w _ hw218_4)).trans hw218_4), ((HB.out.cell (World.block_lt_of_cell? w _ hw218_5)).trans hw218_5), ((HB.out.cell (World.block_lt_of_cell? w _ hw218_6)).trans hw218_6), ((HB.out.cell (World.block_lt_of_cell? w _ hw218_7)).trans hw218_7), ((HB.out.cell (World.block_lt_of_cell? w _ hw218_8)).trans hw218_8), ((HB.out.cell (World.block_lt_of_cell? w _ hw218_9)).trans hw218_9), ((HB.out.cell (World.block_lt_of_cell? w _ hw219_0)).trans hw219_0), ((HB.out.cell (World.block_lt_of_cell? w _ hw219_1)).trans hw219_1), ((HB.out.cell (World.block_lt_of_cell? w _ hw219_2)).trans hw219_2), ((HB.out.cell (World.block_lt_of_cell? w _ hw219_3)).trans hw219_3), ((HB.out.cell (World.block_lt_of_cell? w _ hw219_4)).trans hw219_4), ((HB.out.cell (World.block_lt_of_cell? w _ hw219_5)).trans hw219_5), ((HB.out.cell (World.block_lt_of_cell? w _ hw219_6)).trans hw219_6), ((HB.out.cell (World.block_lt_of_cell? w _ hw219_7)).trans hw219_7), ((HB.out.cell (World.block_lt_of_cell? w _ hw219_8)).trans hw219_8), ((HB.out.cell (World.block_lt_of_cell? w _ hw219_9)).trans hw219_9)⟩ (fun hHeld => ?_); refine with_tabW merge_source_before.tab1 merge_source_before.bits1 (fun HT_ HW_ => ?_)
  generalize w8.drew = w9 at BK216 BK217 HB hx218_0 hx218_1 hx218_2 hx218_3 hx218_4 hx218_5 hx218_6 hx218_7 hx218_8 hx218_9 hx219_0 hx219_1 hx219_2 hx219_3 hx219_4 hx219_5 hx219_6 hx219_7 hx219_8 hx219_9 hHeld ⊢
  refine pure_ (i := 0) (N := some 6) (v := ?_) (a' := ?_) (tf_ 1 11) rfl rfl (any_of HT_.out (by kernel_rfl)) (fun _ _ _ h => h) (Or.inl ⟨by rfl, ?_⟩) ?_ ?_
  rotate_left; · (intro w'; go_simp; with_reducible rfl)
  rotate_left; · (simp only [Act.put, sT_, sO_, sN_, i64_w, i32_w]; rfl)
  refine pure_ (i := 5) (N := some 11) (v := ?_) (a' := ?_) (tb_ 33 12) rfl rfl (any_of HT_.out (by kernel_rfl)) (fun _ _ _ h => h) (Or.inl ⟨by rfl, ?_⟩) ?_ ?_
  rotate_left; · (intro w'; go_simp; with_reducible rfl)
  rotate_left; · (simp only [Act.put, sT_, sO_, sN_, i64_w, i32_w]; rfl)
  refine take_ (i := 1) (N := some 7) (v := ?_) (a' := ?_) (tb_ 35 12) rfl rfl (take_ofW HT_.out HW_.out (by kernel_rfl)) (fun _ _ _ h => h) (Or.inl ⟨by rfl, ?_⟩) hHeld ?_ ?_
  rotate_left; · (rintro w' ⟨s0, s1, s2, s3, s4, s5, s6, s7, s8, s9, s10, s11, s12, s13, s14, s15, s16, s17, s18, s19, s20, s21, s22, s23⟩; go_simp; with_reducible rfl)
  rotate_left; · (simp only [Act.put, sT_, sO_, sN_, i64_w, i32_w]; rfl)
  refine pure_ (i := 2) (N := some 8) (v := ?_) (a' := ?_) (tb_ 39 12) rfl rfl (any_of HT_.out (by kernel_rfl)) (fun _ _ _ h => h) (Or.inl ⟨by rfl, ?_⟩) ?_ ?_
  rotate_left; · (intro w'; go_simp; with_reducible rfl)
  rotate_left; · (simp only [Act.put, sT_, sO_, sN_, i64_w, i32_w]; rfl)
  refine pure_ (i := 3) (N := some 9) (v := ?_) (a' := ?_) (tb_ 47 12) rfl rfl (any_of HT_.out (by kernel_rfl)) (fun _ _ _ h => h) (Or.inl ⟨by rfl, ?_⟩) ?_ ?_
  rotate_left; · (intro w'; go_simp; with_reducible rfl)
  rotate_left; · (simp only [Act.put, sT_, sO_, sN_, i64_w, i32_w]; rfl)
  refine take_ (i := 4) (N := some 10) (v := ?_) (a' := ?_) (tf_ 6 6) rfl rfl (take_ofW HT_.out HW_.out (by kernel_rfl)) (fun _ _ _ h => h) (Or.inl ⟨by rfl, ?_⟩) hHeld ?_ ?_
  rotate_left; · (rintro w' ⟨s0, s1, s2, s3, s4, s5, s6, s7, s8, s9, s10, s11, s12, s13, s14, s15, s16, s17, s18, s19, s20, s21, s22, s23⟩; go_simp; with_reducible rfl)
  rotate_left; · (simp only [Act.put, sT_, sO_, sN_, i64_w, i32_w]; rfl)
  refine take_ (i := 6) (N := some 12) (v := ?_) (a' := ?_) (tf_ 7 5) rfl rfl (take_ofW HT_.out HW_.out (by kernel_rfl)) (fun _ _ _ h => h) (Or.inl ⟨by rfl, ?_⟩) hHeld ?_ ?_
  rotate_left; · (rintro w' ⟨s0, s1, s2, s3, s4, s5, s6, s7, s8, s9, s10, s11, s12, s13, s14, s15, s16, s17, s18, s19, s20, s21, s22, s23⟩; go_simp; with_reducible rfl)
  rotate_left; · (simp only [Act.put, sT_, sO_, sN_, i64_w, i32_w]; rfl)
  refine pure_ (i := 7) (N := some 13) (v := ?_) (a' := ?_) (tf_ 8 4) rfl rfl (any_of HT_.out (by kernel_rfl)) (fun _ _ _ h => h) (Or.inl ⟨by rfl, ?_⟩) ?_ ?_
  rotate_left; · (intro w'; go_simp; with_reducible rfl)
  rotate_left; · (simp only [Act.put, sT_, sO_, sN_, i64_w, i32_w]; rfl)
  refine pure_ (i := 8) (N := some 14) (v := ?_) (a' := ?_) (tf_ 9 3) rfl rfl (any_of HT_.out (by kernel_rfl)) (fun _ _ _ h => h) (Or.inl ⟨by rfl, ?_⟩) ?_ ?_
  rotate_left; · (intro w'; go_simp; with_reducible rfl)
  rotate_left; · (simp only [Act.put, sT_, sO_, sN_, i64_w, i32_w]; rfl)
  refine take_ (i := 9) (N := some 15) (v := ?_) (a' := ?_) (tf_ 10 2) rfl rfl (take_ofW HT_.out HW_.out (by kernel_rfl)) (fun _ _ _ h => h) (Or.inl ⟨by rfl, ?_⟩) hHeld ?_ ?_
  rotate_left; · (rintro w' ⟨s0, s1, s2, s3, s4, s5, s6, s7, s8, s9, s10, s11, s12, s13, s14, s15, s16, s17, s18, s19, s20, s21, s22, s23⟩; go_simp; with_reducible rfl)
  rotate_left; · (simp only [Act.put, sT_, sO_, sN_, i64_w, i32_w]; rfl)
  refine one_ (i := 10) (N := some 16) (tf_ 11 1) rfl rfl (one_of HT_.out (by kernel_rfl)) (by decide) (fun K hK => ?_)
  refine goes_ Try.func33 (by kernel_rfl) rfl #[.agg #[.string ((rd_T39 l0_0 0).f0.f0), .string ((rd_T39 l0_0 0).f0.f1), .int .i64 ((rd_T39 l0_0 0).f0.f2), .string ((rd_T39 l0_0 0).f0.f3)], .agg #[.string ((rd_T39 l1_0 0).f0.f0), .string ((rd_T39 l1_0 0).f0.f1), .int .i64 ((rd_T39 l1_0 0).f0.f2), .string ((rd_T39 l1_0 0).f0.f3)]] (by rfl) rfl rfl (by (try simp only [mT_, mC_, mN_]); first | done | rfl) ?_
  with_reducible refine (key_Cmp.calls k ((rd_T39 l0_0 0).f0.f0) ((rd_T39 l0_0 0).f0.f1) ((rd_T39 l0_0 0).f0.f2) ((rd_T39 l0_0 0).f0.f3) ((rd_T39 l1_0 0).f0.f0) ((rd_T39 l1_0 0).f0.f1) ((rd_T39 l1_0 0).f0.f2) ((rd_T39 l1_0 0).f0.f3) t220 _ A5.out).mono ?_
  rintro e w10 ⟨rfl, hb⟩
  refine ⟨_, rfl, ?_⟩
  replace BK216 := kB BK216 hb
  replace BK217 := kB BK217 hb
  replace HB := Aside0.mk (below_step (by repeat (first | (with_reducible first | exact HB.out | apply bA_ | apply bN_ | apply bD_ | refine bS_ ?_ GE216 | refine bS_ ?_ GE217) | exact HB.out)) hb)
  (try clear hb)
  (try clear hb2)
  (try clear hk)
  (try clear hi)
  refine hK.out _ _ ⟨(blk_cell BK216.out 0).trans rfl, (blk_cell BK216.out 1).trans rfl, (blk_cell BK217.out 0).trans rfl, (blk_cell BK217.out 1).trans rfl, ((HB.out.cell (World.block_lt_of_cell? w _ hw218_0)).trans hw218_0), ((HB.out.cell (World.block_lt_of_cell? w _ hw218_1)).trans hw218_1), ((HB.out.cell (World.block_lt_of_cell? w _ hw218_2)).trans hw218_2), ((HB.out.cell (World.block_lt_of_cell? w _ hw218_3)).trans hw218_3), ((HB.out.cell (World.block_lt_of_cell? w _ hw218_4)).trans hw218_4), ((HB.out.cell (World.block_lt_of_cell? w _ hw218_5)).trans hw218_5), ((HB.out.cell (World.block_lt_of_cell? w _ hw218_6)).trans hw218_6), ((HB.out.cell (World.block_lt_of_cell? w _ hw218_7)).trans hw218_7), ((HB.out.cell (World.block_lt_of_cell? w _ hw218_8)).trans hw218_8), ((HB.out.cell (World.block_lt_of_cell? w _ hw218_9)).trans hw218_9), ((HB.out.cell (World.block_lt_of_cell? w _ hw219_0)).trans hw219_0), ((HB.out.cell (World.block_lt_of_cell? w _ hw219_1)).trans hw219_1), ((HB.out.cell (World.block_lt_of_cell? w _ hw219_2)).trans hw219_2), ((HB.out.cell (World.block_lt_of_cell? w _ hw219_3)).trans hw219_3), ((HB.out.cell (World.block_lt_of_cell? w _ hw219_4)).trans hw219_4), ((HB.out.cell (World.block_lt_of_cell? w _ hw219_5)).trans hw219_5), ((HB.out.cell (World.block_lt_of_cell? w _ hw219_6)).trans hw219_6), ((HB.out.cell (World.block_lt_of_cell? w _ hw219_7)).trans hw219_7), ((HB.out.cell (World.block_lt_of_cell? w _ hw219_8)).trans hw219_8), ((HB.out.cell (World.block_lt_of_cell? w _ hw219_9)).trans hw219_9)⟩ (fun hHeld => ?_)
  clear hK K
  refine norm_ (a' := ?_) ?_ ?_
  rotate_left
  ·
   show Act.put _ (some 16) _ = _
   simp only [Act.put, sT_, sO_, sN_, i64_w, i32_w]
   rfl
  refine pure_ (i := 11) (N := some 5) (v := ?_) (a' := ?_) (tf_ 12 0) rfl rfl (any_of HT_.out (by kernel_rfl)) (fun _ _ _ h => h) (Or.inl ⟨by rfl, ?_⟩) ?_ ?_
  rotate_left; · (intro w'; go_simp; with_reducible rfl)
  rotate_left; · (simp only [Act.put, sT_, sO_, sN_, i64_w, i32_w]; rfl)
  refine done_ (done_of HT_.out (by kernel_rfl)) ?_
  try go_wp2
  go_ret
  exact ⟨by first | rfl | (simp <;> rfl) | (simp [*] <;> rfl), by repeat (first | (with_reducible first | exact HB.out | apply bA_ | apply bN_ | apply bD_ | refine bS_ ?_ GE216 | refine bS_ ?_ GE217) | exact HB.out)⟩
 ·
  rw [if_neg c6] at H
  have c6b0 : decide (t220 < 0) = false := decide_eq_false c6
  clear c6
  by_cases c11 : t220 = 0
  rotate_left
  ·
   rw [if_neg c11] at H
   have c11b0 : (t220 == 0) = false := beq_eq_false_iff_ne.mpr c11
   have c11b1 : (t220 != 0) = true := bne_iff_ne.mpr c11
   obtain rfl := Option.some.inj H
   go_enter Try.func58, Try.ntmps58
   try go_wp2_with (first | ((with_reducible refine gate_dst (N := 2) rfl ?_); refine box_event ?hg (N := 2) ?hd (cs := #[.slice A0_0 l0_0.length c0_0, .int .i64 a0_1]) (t := 59) ?hr ?_; (case hd => rfl); (case hg => rfl); (case hr => first | (go_simp; done) | (go_simp; rfl)); intro gb216 hg w19 hbox hb; have BK216 := Aside0.mk (hbox); have GW216 := Aside0.mk ((by rw [hg]; exact (bZ_ (kwW HB)) : w.heap.size ≤ gb216)); replace HB := Aside0.mk (below_step (kwW HB) hb); have GE216 := GW216; clear hb hbox hg) | ((with_reducible refine gate_dst (N := 3) rfl ?_); refine box_event ?hg (N := 3) ?hd (cs := #[.slice A1_0 l1_0.length c1_0, .int .i64 a1_1]) (t := 59) ?hr ?_; (case hd => rfl); (case hg => rfl); (case hr => first | (go_simp; done) | (go_simp; rfl)); intro gb217 hg w20 hbox hb; have BK217 := Aside0.mk (hbox); have GW217 := Aside0.mk ((by rw [hg]; exact (bZ_ (by repeat (first | (with_reducible first | exact HB.out | apply bA_ | apply bN_ | apply bD_ | refine bS_ ?_ GE216) | exact HB.out))) : w.heap.size ≤ gb217)); replace HB := Aside0.mk (below_step (by repeat (first | (with_reducible first | exact HB.out | apply bA_ | apply bN_ | apply bD_ | refine bS_ ?_ GE216) | exact HB.out)) hb); have GE217 := GW217; have NB216_217 := Aside0.mk ((by rw [hg]; exact Nat.ne_of_lt (blk_lt (kbW BK216)) : gb216 ≠ gb217)); have NB217_216 := Aside0.mk ((by rw [hg]; exact Nat.ne_of_gt (blk_lt (kbW BK216)) : gb217 ≠ gb216)); replace BK216 := kB BK216 hb; clear hb hbox hg))
   replace BK216 := Aside0.mk (blk_drew BK216.out)
   replace BK217 := Aside0.mk (blk_drew BK217.out)
   replace HB := Aside0.mk (below_drew1 HB.out)
   have p218 : 0 ≤ (0 : Int) := (by omega)
   have q218 : 0 < (l0_0.length : Int) := of_decide_eq_true (by first | (with_reducible assumption) | assumption)
   obtain ⟨ad218, e218, hx218_0, hx218_1, hx218_2, hx218_3, hx218_4, hx218_5, hx218_6, hx218_7, hx218_8, hx218_9⟩ := at_T39 HR0_0.out 0 p218 q218
   have hw218_9 := hx218_9
   (try rw [show ((0 : Int)).toNat = 0 from rfl] at hw218_9)
   (try rw [show 0 * 10 = 0 from rfl] at hw218_9)
   (try rw [Addr.add_zero'] at hw218_9)
   have hw218_8 := hx218_8
   (try rw [show ((0 : Int)).toNat = 0 from rfl] at hw218_8)
   (try rw [show 0 * 10 = 0 from rfl] at hw218_8)
   (try rw [Addr.add_zero'] at hw218_8)
   have hw218_7 := hx218_7
   (try rw [show ((0 : Int)).toNat = 0 from rfl] at hw218_7)
   (try rw [show 0 * 10 = 0 from rfl] at hw218_7)
   (try rw [Addr.add_zero'] at hw218_7)
   have hw218_6 := hx218_6
   (try rw [show ((0 : Int)).toNat = 0 from rfl] at hw218_6)
   (try rw [show 0 * 10 = 0 from rfl] at hw218_6)
   (try rw [Addr.add_zero'] at hw218_6)
   have hw218_5 := hx218_5
   (try rw [show ((0 : Int)).toNat = 0 from rfl] at hw218_5)
   (try rw [show 0 * 10 = 0 from rfl] at hw218_5)
   (try rw [Addr.add_zero'] at hw218_5)
   have hw218_4 := hx218_4
   (try rw [show ((0 : Int)).toNat = 0 from rfl] at hw218_4)
   (try rw [show 0 * 10 = 0 from rfl] at hw218_4)
   (try rw [Addr.add_zero'] at hw218_4)
   have hw218_3 := hx218_3
   (try rw [show ((0 : Int)).toNat = 0 from rfl] at hw218_3)
   (try rw [show 0 * 10 = 0 from rfl] at hw218_3)
   (try rw [Addr.add_zero'] at hw218_3)
   have hw218_2 := hx218_2
   (try rw [show ((0 : Int)).toNat = 0 from rfl] at hw218_2)
   (try rw [show 0 * 10 = 0 from rfl] at hw218_2)
   (try rw [Addr.add_zero'] at hw218_2)
   have hw218_1 := hx218_1
   (try rw [show ((0 : Int)).toNat = 0 from rfl] at hw218_1)
   (try rw [show 0 * 10 = 0 from rfl] at hw218_1)
   (try rw [Addr.add_zero'] at hw218_1)
   have hw218_0 := hx218_0
   (try rw [show ((0 : Int)).toNat = 0 from rfl] at hw218_0)
   (try rw [show 0 * 10 = 0 from rfl] at hw218_0)
   (try rw [Addr.add_zero'] at hw218_0)
   cases e218
   have qi218 : (0 < l0_0.length) = True := eq_true (by omega)
   (try rw [show ((0 : Int)).toNat = 0 from rfl] at hx218_0)
   (try rw [show 0 * 10 = 0 from rfl] at hx218_0)
   (try rw [Addr.add_zero'] at hx218_0)
   (try rw [show ((0 : Int)).toNat = 0 from rfl] at hx218_1)
   (try rw [show 0 * 10 = 0 from rfl] at hx218_1)
   (try rw [Addr.add_zero'] at hx218_1)
   (try rw [show ((0 : Int)).toNat = 0 from rfl] at hx218_2)
   (try rw [show 0 * 10 = 0 from rfl] at hx218_2)
   (try rw [Addr.add_zero'] at hx218_2)
   (try rw [show ((0 : Int)).toNat = 0 from rfl] at hx218_3)
   (try rw [show 0 * 10 = 0 from rfl] at hx218_3)
   (try rw [Addr.add_zero'] at hx218_3)
   (try rw [show ((0 : Int)).toNat = 0 from rfl] at hx218_4)
   (try rw [show 0 * 10 = 0 from rfl] at hx218_4)
   (try rw [Addr.add_zero'] at hx218_4)
   (try rw [show ((0 : Int)).toNat = 0 from rfl] at hx218_5)
   (try rw [show 0 * 10 = 0 from rfl] at hx218_5)
   (try rw [Addr.add_zero'] at hx218_5)
   (try rw [show ((0 : Int)).toNat = 0 from rfl] at hx218_6)
   (try rw [show 0 * 10 = 0 from rfl] at hx218_6)
   (try rw [Addr.add_zero'] at hx218_6)
   (try rw [show ((0 : Int)).toNat = 0 from rfl] at hx218_7)
   (try rw [show 0 * 10 = 0 from rfl] at hx218_7)
   (try rw [Addr.add_zero'] at hx218_7)
   (try rw [show ((0 : Int)).toNat = 0 from rfl] at hx218_8)
   (try rw [show 0 * 10 = 0 from rfl] at hx218_8)
   (try rw [Addr.add_zero'] at hx218_8)
   (try rw [show ((0 : Int)).toNat = 0 from rfl] at hx218_9)
   (try rw [show 0 * 10 = 0 from rfl] at hx218_9)
   (try rw [Addr.add_zero'] at hx218_9)
   replace hx218_0 := cB_ HB hx218_0
   replace hx218_1 := cB_ HB hx218_1
   replace hx218_2 := cB_ HB hx218_2
   replace hx218_3 := cB_ HB hx218_3
   replace hx218_4 := cB_ HB hx218_4
   replace hx218_5 := cB_ HB hx218_5
   replace hx218_6 := cB_ HB hx218_6
   replace hx218_7 := cB_ HB hx218_7
   replace hx218_8 := cB_ HB hx218_8
   replace hx218_9 := cB_ HB hx218_9
   replace p218 := eq_true p218
   replace q218 := eq_true q218
   have p219 : 0 ≤ (0 : Int) := (by omega)
   have q219 : 0 < (l1_0.length : Int) := of_decide_eq_true (by first | (with_reducible assumption) | assumption)
   obtain ⟨ad219, e219, hx219_0, hx219_1, hx219_2, hx219_3, hx219_4, hx219_5, hx219_6, hx219_7, hx219_8, hx219_9⟩ := at_T39 HR1_0.out 0 p219 q219
   have hw219_9 := hx219_9
   (try rw [show ((0 : Int)).toNat = 0 from rfl] at hw219_9)
   (try rw [show 0 * 10 = 0 from rfl] at hw219_9)
   (try rw [Addr.add_zero'] at hw219_9)
   have hw219_8 := hx219_8
   (try rw [show ((0 : Int)).toNat = 0 from rfl] at hw219_8)
   (try rw [show 0 * 10 = 0 from rfl] at hw219_8)
   (try rw [Addr.add_zero'] at hw219_8)
   have hw219_7 := hx219_7
   (try rw [show ((0 : Int)).toNat = 0 from rfl] at hw219_7)
   (try rw [show 0 * 10 = 0 from rfl] at hw219_7)
   (try rw [Addr.add_zero'] at hw219_7)
   have hw219_6 := hx219_6
   (try rw [show ((0 : Int)).toNat = 0 from rfl] at hw219_6)
   (try rw [show 0 * 10 = 0 from rfl] at hw219_6)
   (try rw [Addr.add_zero'] at hw219_6)
   have hw219_5 := hx219_5
   (try rw [show ((0 : Int)).toNat = 0 from rfl] at hw219_5)
   (try rw [show 0 * 10 = 0 from rfl] at hw219_5)
   (try rw [Addr.add_zero'] at hw219_5)
   have hw219_4 := hx219_4
   (try rw [show ((0 : Int)).toNat = 0 from rfl] at hw219_4)
   (try rw [show 0 * 10 = 0 from rfl] at hw219_4)
   (try rw [Addr.add_zero'] at hw219_4)
   have hw219_3 := hx219_3
   (try rw [show ((0 : Int)).toNat = 0 from rfl] at hw219_3)
   (try rw [show 0 * 10 = 0 from rfl] at hw219_3)
   (try rw [Addr.add_zero'] at hw219_3)
   have hw219_2 := hx219_2
   (try rw [show ((0 : Int)).toNat = 0 from rfl] at hw219_2)
   (try rw [show 0 * 10 = 0 from rfl] at hw219_2)
   (try rw [Addr.add_zero'] at hw219_2)
   have hw219_1 := hx219_1
   (try rw [show ((0 : Int)).toNat = 0 from rfl] at hw219_1)
   (try rw [show 0 * 10 = 0 from rfl] at hw219_1)
   (try rw [Addr.add_zero'] at hw219_1)
   have hw219_0 := hx219_0
   (try rw [show ((0 : Int)).toNat = 0 from rfl] at hw219_0)
   (try rw [show 0 * 10 = 0 from rfl] at hw219_0)
   (try rw [Addr.add_zero'] at hw219_0)
   cases e219
   have qi219 : (0 < l1_0.length) = True := eq_true (by omega)
   (try rw [show ((0 : Int)).toNat = 0 from rfl] at hx219_0)
   (try rw [show 0 * 10 = 0 from rfl] at hx219_0)
   (try rw [Addr.add_zero'] at hx219_0)
   (try rw [show ((0 : Int)).toNat = 0 from rfl] at hx219_1)
   (try rw [show 0 * 10 = 0 from rfl] at hx219_1)
   (try rw [Addr.add_zero'] at hx219_1)
   (try rw [show ((0 : Int)).toNat = 0 from rfl] at hx219_2)
   (try rw [show 0 * 10 = 0 from rfl] at hx219_2)
   (try rw [Addr.add_zero'] at hx219_2)
   (try rw [show ((0 : Int)).toNat = 0 from rfl] at hx219_3)
   (try rw [show 0 * 10 = 0 from rfl] at hx219_3)
   (try rw [Addr.add_zero'] at hx219_3)
   (try rw [show ((0 : Int)).toNat = 0 from rfl] at hx219_4)
   (try rw [show 0 * 10 = 0 from rfl] at hx219_4)
   (try rw [Addr.add_zero'] at hx219_4)
   (try rw [show ((0 : Int)).toNat = 0 from rfl] at hx219_5)
   (try rw [show 0 * 10 = 0 from rfl] at hx219_5)
   (try rw [Addr.add_zero'] at hx219_5)
   (try rw [show ((0 : Int)).toNat = 0 from rfl] at hx219_6)
   (try rw [show 0 * 10 = 0 from rfl] at hx219_6)
   (try rw [Addr.add_zero'] at hx219_6)
   (try rw [show ((0 : Int)).toNat = 0 from rfl] at hx219_7)
   (try rw [show 0 * 10 = 0 from rfl] at hx219_7)
   (try rw [Addr.add_zero'] at hx219_7)
   (try rw [show ((0 : Int)).toNat = 0 from rfl] at hx219_8)
   (try rw [show 0 * 10 = 0 from rfl] at hx219_8)
   (try rw [Addr.add_zero'] at hx219_8)
   (try rw [show ((0 : Int)).toNat = 0 from rfl] at hx219_9)
   (try rw [show 0 * 10 = 0 from rfl] at hx219_9)
   (try rw [Addr.add_zero'] at hx219_9)
   replace hx219_0 := cB_ HB hx219_0
   replace hx219_1 := cB_ HB hx219_1
   replace hx219_2 := cB_ HB hx219_2
   replace hx219_3 := cB_ HB hx219_3
   replace hx219_4 := cB_ HB hx219_4
   replace hx219_5 := cB_ HB hx219_5
   replace hx219_6 := cB_ HB hx219_6
   replace hx219_7 := cB_ HB hx219_7
   replace hx219_8 := cB_ HB hx219_8
   replace hx219_9 := cB_ HB hx219_9
   replace p219 := eq_true p219
   replace q219 := eq_true q219
   refine start_ (n := 12) (S := fun w' => w'.cell? ⟨gb216, 0, none⟩ = some (.slice (some ad218) l0_0.length c0_0) ∧ w'.cell? ⟨gb216, 1, none⟩ = some (.int .i64 a0_1) ∧ w'.cell? ⟨gb217, 0, none⟩ = some (.slice (some ad219) l1_0.length c1_0) ∧ w'.cell? ⟨gb217, 1, none⟩ = some (.int .i64 a1_1) ∧ w'.cell? ad218 = some (.string ((rd_T39 l0_0 0).f0.f0)) ∧ w'.cell? ⟨ad218.block, ad218.off + 1, none⟩ = some (.string ((rd_T39 l0_0 0).f0.f1)) ∧ w'.cell? ⟨ad218.block, ad218.off + 2, none⟩ = some (.int .i64 ((rd_T39 l0_0 0).f0.f2)) ∧ w'.cell? ⟨ad218.block, ad218.off + 3, none⟩ = some (.string ((rd_T39 l0_0 0).f0.f3)) ∧ w'.cell? ⟨ad218.block, ad218.off + 4, none⟩ = some (.int .i64 ((rd_T39 l0_0 0).f1.f0)) ∧ w'.cell? ⟨ad218.block, ad218.off + 5, none⟩ = some (.bool ((rd_T39 l0_0 0).f1.f1)) ∧ w'.cell? ⟨ad218.block, ad218.off + 6, none⟩ = some (.int .i64 ((rd_T39 l0_0 0).f1.f2)) ∧ w'.cell? ⟨ad218.block, ad218.off + 7, none⟩ = some (.int .i64 ((rd_T39 l0_0 0).f1.f3.f0)) ∧ w'.cell? ⟨ad218.block, ad218.off + 8, none⟩ = some (.int .i64 ((rd_T39 l0_0 0).f1.f3.f1)) ∧ w'.cell? ⟨ad218.block, ad218.off + 9, none⟩ = some (.string ((rd_T39 l0_0 0).f1.f3.f2)) ∧ w'.cell? ad219 = some (.string ((rd_T39 l1_0 0).f0.f0)) ∧ w'.cell? ⟨ad219.block, ad219.off + 1, none⟩ = some (.string ((rd_T39 l1_0 0).f0.f1)) ∧ w'.cell? ⟨ad219.block, ad219.off + 2, none⟩ = some (.int .i64 ((rd_T39 l1_0 0).f0.f2)) ∧ w'.cell? ⟨ad219.block, ad219.off + 3, none⟩ = some (.string ((rd_T39 l1_0 0).f0.f3)) ∧ w'.cell? ⟨ad219.block, ad219.off + 4, none⟩ = some (.int .i64 ((rd_T39 l1_0 0).f1.f0)) ∧ w'.cell? ⟨ad219.block, ad219.off + 5, none⟩ = some (.bool ((rd_T39 l1_0 0).f1.f1)) ∧ w'.cell? ⟨ad219.block, ad219.off + 6, none⟩ = some (.int .i64 ((rd_T39 l1_0 0).f1.f2)) ∧ w'.cell? ⟨ad219.block, ad219.off + 7, none⟩ = some (.int .i64 ((rd_T39 l1_0 0).f1.f3.f0)) ∧ w'.cell? ⟨ad219.block, ad219.off + 8, none⟩ = some (.int .i64 ((rd_T39 l1_0 0).f1.f3.f1)) ∧ w'.cell? ⟨ad219.block, ad219.off + 9, none⟩ = some (.string ((rd_T39 l1_0 0).f1.f3.f2))) (ds := []) (tf_ 0 12) (by kernel_rfl) rfl rfl ⟨(blk_cell BK216.out 0).trans rfl, (blk_cell BK216.out 1).trans rfl, (blk_cell BK217.out 0).trans rfl, (blk_cell BK217.out 1).trans rfl, ((HB.out.cell (World.block_lt_of_cell? w _ hw218_0)).trans hw218_0), ((HB.out.cell (World.block_lt_of_cell? w _ hw218_1)).trans hw218_1), ((HB.out.cell (World.block_lt_of_cell? w _ hw218_2)).trans hw218_2), ((HB.out.cell (World.block_lt_of_cell? w _ hw218_3)).trans hw218_3), ((HB.out.cell (World.block_lt_of_cell? w _ hw218_4)).trans hw218_4), ((HB.out.cell (World.block_lt_of_cell? w _ hw218_5)).trans hw218_5), ((HB.out.cell (World.block_lt_of_cell? w _ hw218_6)).trans hw218_6), ((HB.out.cell (World.block_lt_of_cell? w _ hw218_7)).trans hw218_7), ((HB.out.cell (World.block_lt_of_cell? w _ hw218_8)).trans hw218_8), ((HB.out.cell (World.block_lt_of_cell? w _ hw218_9)).trans hw218_9), ((HB.out.cell (World.block_lt_of_cell? w _ hw219_0)).trans hw219_0), ((HB.out.cell (World.block_lt_of_cell? w _ hw219_1)).trans hw219_1), ((HB.out.cell (World.block_lt_of_cell? w _ hw219_2)).trans hw219_2), ((HB.out.cell (World.block_lt_of_cell? w _ hw219_3)).trans hw219_3), ((HB.out.cell (World.block_lt_of_cell? w _ hw219_4)).trans hw219_4), ((HB.out.cell (World.block_lt_of_cell? w _ hw219_5)).trans hw219_5), ((HB.out.cell (World.block_lt_of_cell? w _ hw219_6)).trans hw219_6), ((HB.out.cell (World.block_lt_of_cell? w _ hw219_7)).trans hw219_7), ((HB.out.cell (World.block_lt_of_cell? w _ hw219_8)).trans hw219_8), ((HB.out.cell (World.block_lt_of_cell? w _ hw219_9)).trans hw219_9)⟩ (fun hHeld => ?_); refine with_tabW merge_source_before.tab1 merge_source_before.bits1 (fun HT_ HW_ => ?_)
   generalize w20.drew = w21 at BK216 BK217 HB hx218_0 hx218_1 hx218_2 hx218_3 hx218_4 hx218_5 hx218_6 hx218_7 hx218_8 hx218_9 hx219_0 hx219_1 hx219_2 hx219_3 hx219_4 hx219_5 hx219_6 hx219_7 hx219_8 hx219_9 hHeld ⊢
   refine pure_ (i := 0) (N := some 6) (v := ?_) (a' := ?_) (tf_ 1 11) rfl rfl (any_of HT_.out (by kernel_rfl)) (fun _ _ _ h => h) (Or.inl ⟨by rfl, ?_⟩) ?_ ?_
   rotate_left; · (intro w'; go_simp; with_reducible rfl)
   rotate_left; · (simp only [Act.put, sT_, sO_, sN_, i64_w, i32_w]; rfl)
   refine pure_ (i := 5) (N := some 11) (v := ?_) (a' := ?_) (tb_ 33 12) rfl rfl (any_of HT_.out (by kernel_rfl)) (fun _ _ _ h => h) (Or.inl ⟨by rfl, ?_⟩) ?_ ?_
   rotate_left; · (intro w'; go_simp; with_reducible rfl)
   rotate_left; · (simp only [Act.put, sT_, sO_, sN_, i64_w, i32_w]; rfl)
   refine take_ (i := 1) (N := some 7) (v := ?_) (a' := ?_) (tb_ 35 12) rfl rfl (take_ofW HT_.out HW_.out (by kernel_rfl)) (fun _ _ _ h => h) (Or.inl ⟨by rfl, ?_⟩) hHeld ?_ ?_
   rotate_left; · (rintro w' ⟨s0, s1, s2, s3, s4, s5, s6, s7, s8, s9, s10, s11, s12, s13, s14, s15, s16, s17, s18, s19, s20, s21, s22, s23⟩; go_simp; with_reducible rfl)
   rotate_left; · (simp only [Act.put, sT_, sO_, sN_, i64_w, i32_w]; rfl)
   refine pure_ (i := 2) (N := some 8) (v := ?_) (a' := ?_) (tb_ 39 12) rfl rfl (any_of HT_.out (by kernel_rfl)) (fun _ _ _ h => h) (Or.inl ⟨by rfl, ?_⟩) ?_ ?_
   rotate_left; · (intro w'; go_simp; with_reducible rfl)
   rotate_left; · (simp only [Act.put, sT_, sO_, sN_, i64_w, i32_w]; rfl)
   refine pure_ (i := 3) (N := some 9) (v := ?_) (a' := ?_) (tb_ 47 12) rfl rfl (any_of HT_.out (by kernel_rfl)) (fun _ _ _ h => h) (Or.inl ⟨by rfl, ?_⟩) ?_ ?_
   rotate_left; · (intro w'; go_simp; with_reducible rfl)
   rotate_left; · (simp only [Act.put, sT_, sO_, sN_, i64_w, i32_w]; rfl)
   refine take_ (i := 4) (N := some 10) (v := ?_) (a' := ?_) (tf_ 6 6) rfl rfl (take_ofW HT_.out HW_.out (by kernel_rfl)) (fun _ _ _ h => h) (Or.inl ⟨by rfl, ?_⟩) hHeld ?_ ?_
   rotate_left; · (rintro w' ⟨s0, s1, s2, s3, s4, s5, s6, s7, s8, s9, s10, s11, s12, s13, s14, s15, s16, s17, s18, s19, s20, s21, s22, s23⟩; go_simp; with_reducible rfl)
   rotate_left; · (simp only [Act.put, sT_, sO_, sN_, i64_w, i32_w]; rfl)
   refine take_ (i := 6) (N := some 12) (v := ?_) (a' := ?_) (tf_ 7 5) rfl rfl (take_ofW HT_.out HW_.out (by kernel_rfl)) (fun _ _ _ h => h) (Or.inl ⟨by rfl, ?_⟩) hHeld ?_ ?_
   rotate_left; · (rintro w' ⟨s0, s1, s2, s3, s4, s5, s6, s7, s8, s9, s10, s11, s12, s13, s14, s15, s16, s17, s18, s19, s20, s21, s22, s23⟩; go_simp; with_reducible rfl)
   rotate_left; · (simp only [Act.put, sT_, sO_, sN_, i64_w, i32_w]; rfl)
   refine pure_ (i := 7) (N := some 13) (v := ?_) (a' := ?_) (tf_ 8 4) rfl rfl (any_of HT_.out (by kernel_rfl)) (fun _ _ _ h => h) (Or.inl ⟨by rfl, ?_⟩) ?_ ?_
   rotate_left; · (intro w'; go_simp; with_reducible rfl)
   rotate_left; · (simp only [Act.put, sT_, sO_, sN_, i64_w, i32_w]; rfl)
   refine pure_ (i := 8) (N := some 14) (v := ?_) (a' := ?_) (tf_ 9 3) rfl rfl (any_of HT_.out (by kernel_rfl)) (fun _ _ _ h => h) (Or.inl ⟨by rfl, ?_⟩) ?_ ?_
   rotate_left; · (intro w'; go_simp; with_reducible rfl)
   rotate_left; · (simp only [Act.put, sT_, sO_, sN_, i64_w, i32_w]; rfl)
   refine take_ (i := 9) (N := some 15) (v := ?_) (a' := ?_) (tf_ 10 2) rfl rfl (take_ofW HT_.out HW_.out (by kernel_rfl)) (fun _ _ _ h => h) (Or.inl ⟨by rfl, ?_⟩) hHeld ?_ ?_
   rotate_left; · (rintro w' ⟨s0, s1, s2, s3, s4, s5, s6, s7, s8, s9, s10, s11, s12, s13, s14, s15, s16, s17, s18, s19, s20, s21, s22, s23⟩; go_simp; with_reducible rfl)
   rotate_left; · (simp only [Act.put, sT_, sO_, sN_, i64_w, i32_w]; rfl)
   refine one_ (i := 10) (N := some 16) (tf_ 11 1) rfl rfl (one_of HT_.out (by kernel_rfl)) (by decide) (fun K hK => ?_)
   refine goes_ Try.func33 (by kernel_rfl) rfl #[.agg #[.string ((rd_T39 l0_0 0).f0.f0), .string ((rd_T39 l0_0 0).f0.f1), .int .i64 ((rd_T39 l0_0 0).f0.f2), .string ((rd_T39 l0_0 0).f0.f3)], .agg #[.string ((rd_T39 l1_0 0).f0.f0), .string ((rd_T39 l1_0 0).f0.f1), .int .i64 ((rd_T39 l1_0 0).f0.f2), .string ((rd_T39 l1_0 0).f0.f3)]] (by rfl) rfl rfl (by (try simp only [mT_, mC_, mN_]); first | done | rfl) ?_
   with_reducible refine (key_Cmp.calls k ((rd_T39 l0_0 0).f0.f0) ((rd_T39 l0_0 0).f0.f1) ((rd_T39 l0_0 0).f0.f2) ((rd_T39 l0_0 0).f0.f3) ((rd_T39 l1_0 0).f0.f0) ((rd_T39 l1_0 0).f0.f1) ((rd_T39 l1_0 0).f0.f2) ((rd_T39 l1_0 0).f0.f3) t220 _ A5.out).mono ?_
   rintro e w22 ⟨rfl, hb⟩
   refine ⟨_, rfl, ?_⟩
   replace BK216 := kB BK216 hb
   replace BK217 := kB BK217 hb
   replace HB := Aside0.mk (below_step (by repeat (first | (with_reducible first | exact HB.out | apply bA_ | apply bN_ | apply bD_ | refine bS_ ?_ GE216 | refine bS_ ?_ GE217) | exact HB.out)) hb)
   (try clear hb)
   (try clear hb2)
   (try clear hk)
   (try clear hi)
   refine hK.out _ _ ⟨(blk_cell BK216.out 0).trans rfl, (blk_cell BK216.out 1).trans rfl, (blk_cell BK217.out 0).trans rfl, (blk_cell BK217.out 1).trans rfl, ((HB.out.cell (World.block_lt_of_cell? w _ hw218_0)).trans hw218_0), ((HB.out.cell (World.block_lt_of_cell? w _ hw218_1)).trans hw218_1), ((HB.out.cell (World.block_lt_of_cell? w _ hw218_2)).trans hw218_2), ((HB.out.cell (World.block_lt_of_cell? w _ hw218_3)).trans hw218_3), ((HB.out.cell (World.block_lt_of_cell? w _ hw218_4)).trans hw218_4), ((HB.out.cell (World.block_lt_of_cell? w _ hw218_5)).trans hw218_5), ((HB.out.cell (World.block_lt_of_cell? w _ hw218_6)).trans hw218_6), ((HB.out.cell (World.block_lt_of_cell? w _ hw218_7)).trans hw218_7), ((HB.out.cell (World.block_lt_of_cell? w _ hw218_8)).trans hw218_8), ((HB.out.cell (World.block_lt_of_cell? w _ hw218_9)).trans hw218_9), ((HB.out.cell (World.block_lt_of_cell? w _ hw219_0)).trans hw219_0), ((HB.out.cell (World.block_lt_of_cell? w _ hw219_1)).trans hw219_1), ((HB.out.cell (World.block_lt_of_cell? w _ hw219_2)).trans hw219_2), ((HB.out.cell (World.block_lt_of_cell? w _ hw219_3)).trans hw219_3), ((HB.out.cell (World.block_lt_of_cell? w _ hw219_4)).trans hw219_4), ((HB.out.cell (World.block_lt_of_cell? w _ hw219_5)).trans hw219_5), ((HB.out.cell (World.block_lt_of_cell? w _ hw219_6)).trans hw219_6), ((HB.out.cell (World.block_lt_of_cell? w _ hw219_7)).trans hw219_7), ((HB.out.cell (World.block_lt_of_cell? w _ hw219_8)).trans hw219_8), ((HB.out.cell (World.block_lt_of_cell? w _ hw219_9)).trans hw219_9)⟩ (fun hHeld => ?_)
   clear hK K
   refine norm_ (a' := ?_) ?_ ?_
   rotate_left
   ·
    show Act.put _ (some 16) _ = _
    simp only [Act.put, sT_, sO_, sN_, i64_w, i32_w]
    rfl
   refine pure_ (i := 11) (N := some 5) (v := ?_) (a' := ?_) (tf_ 12 0) rfl rfl (any_of HT_.out (by kernel_rfl)) (fun _ _ _ h => h) (Or.inl ⟨by rfl, ?_⟩) ?_ ?_
   rotate_left; · (intro w'; go_simp; with_reducible rfl)
   rotate_left; · (simp only [Act.put, sT_, sO_, sN_, i64_w, i32_w]; rfl)
   refine done_ (done_of HT_.out (by kernel_rfl)) ?_
   try go_wp2
   go_ret
   exact ⟨by first | rfl | (simp <;> rfl) | (simp [*] <;> rfl), by repeat (first | (with_reducible first | exact HB.out | apply bA_ | apply bN_ | apply bD_ | refine bS_ ?_ GE216 | refine bS_ ?_ GE217) | exact HB.out)⟩
  rw [if_pos c11] at H
  have c11b0 : (t220 == 0) = true := beq_iff_eq.mpr c11
  have c11b1 : (t220 != 0) = false := bne_eq_false_iff_eq.mpr c11
  clear c11
  obtain rfl := Option.some.inj H
  go_enter Try.func58, Try.ntmps58
  try go_wp2_with (first | ((with_reducible refine gate_dst (N := 2) rfl ?_); refine box_event ?hg (N := 2) ?hd (cs := #[.slice A0_0 l0_0.length c0_0, .int .i64 a0_1]) (t := 59) ?hr ?_; (case hd => rfl); (case hg => rfl); (case hr => first | (go_simp; done) | (go_simp; rfl)); intro gb216 hg w12 hbox hb; have BK216 := Aside0.mk (hbox); have GW216 := Aside0.mk ((by rw [hg]; exact (bZ_ (kwW HB)) : w.heap.size ≤ gb216)); replace HB := Aside0.mk (below_step (kwW HB) hb); have GE216 := GW216; clear hb hbox hg) | ((with_reducible refine gate_dst (N := 3) rfl ?_); refine box_event ?hg (N := 3) ?hd (cs := #[.slice A1_0 l1_0.length c1_0, .int .i64 a1_1]) (t := 59) ?hr ?_; (case hd => rfl); (case hg => rfl); (case hr => first | (go_simp; done) | (go_simp; rfl)); intro gb217 hg w13 hbox hb; have BK217 := Aside0.mk (hbox); have GW217 := Aside0.mk ((by rw [hg]; exact (bZ_ (by repeat (first | (with_reducible first | exact HB.out | apply bA_ | apply bN_ | apply bD_ | refine bS_ ?_ GE216) | exact HB.out))) : w.heap.size ≤ gb217)); replace HB := Aside0.mk (below_step (by repeat (first | (with_reducible first | exact HB.out | apply bA_ | apply bN_ | apply bD_ | refine bS_ ?_ GE216) | exact HB.out)) hb); have GE217 := GW217; have NB216_217 := Aside0.mk ((by rw [hg]; exact Nat.ne_of_lt (blk_lt (kbW BK216)) : gb216 ≠ gb217)); have NB217_216 := Aside0.mk ((by rw [hg]; exact Nat.ne_of_gt (blk_lt (kbW BK216)) : gb217 ≠ gb216)); replace BK216 := kB BK216 hb; clear hb hbox hg))
  replace BK216 := Aside0.mk (blk_drew BK216.out)
  replace BK217 := Aside0.mk (blk_drew BK217.out)
  replace HB := Aside0.mk (below_drew1 HB.out)
  have p218 : 0 ≤ (0 : Int) := (by omega)
  have q218 : 0 < (l0_0.length : Int) := of_decide_eq_true (by first | (with_reducible assumption) | assumption)
  obtain ⟨ad218, e218, hx218_0, hx218_1, hx218_2, hx218_3, hx218_4, hx218_5, hx218_6, hx218_7, hx218_8, hx218_9⟩ := at_T39 HR0_0.out 0 p218 q218
  have hw218_9 := hx218_9
  (try rw [show ((0 : Int)).toNat = 0 from rfl] at hw218_9)
  (try rw [show 0 * 10 = 0 from rfl] at hw218_9)
  (try rw [Addr.add_zero'] at hw218_9)
  have hw218_8 := hx218_8
  (try rw [show ((0 : Int)).toNat = 0 from rfl] at hw218_8)
  (try rw [show 0 * 10 = 0 from rfl] at hw218_8)
  (try rw [Addr.add_zero'] at hw218_8)
  have hw218_7 := hx218_7
  (try rw [show ((0 : Int)).toNat = 0 from rfl] at hw218_7)
  (try rw [show 0 * 10 = 0 from rfl] at hw218_7)
  (try rw [Addr.add_zero'] at hw218_7)
  have hw218_6 := hx218_6
  (try rw [show ((0 : Int)).toNat = 0 from rfl] at hw218_6)
  (try rw [show 0 * 10 = 0 from rfl] at hw218_6)
  (try rw [Addr.add_zero'] at hw218_6)
  have hw218_5 := hx218_5
  (try rw [show ((0 : Int)).toNat = 0 from rfl] at hw218_5)
  (try rw [show 0 * 10 = 0 from rfl] at hw218_5)
  (try rw [Addr.add_zero'] at hw218_5)
  have hw218_4 := hx218_4
  (try rw [show ((0 : Int)).toNat = 0 from rfl] at hw218_4)
  (try rw [show 0 * 10 = 0 from rfl] at hw218_4)
  (try rw [Addr.add_zero'] at hw218_4)
  have hw218_3 := hx218_3
  (try rw [show ((0 : Int)).toNat = 0 from rfl] at hw218_3)
  (try rw [show 0 * 10 = 0 from rfl] at hw218_3)
  (try rw [Addr.add_zero'] at hw218_3)
  have hw218_2 := hx218_2
  (try rw [show ((0 : Int)).toNat = 0 from rfl] at hw218_2)
  (try rw [show 0 * 10 = 0 from rfl] at hw218_2)
  (try rw [Addr.add_zero'] at hw218_2)
  have hw218_1 := hx218_1
  (try rw [show ((0 : Int)).toNat = 0 from rfl] at hw218_1)
  (try rw [show 0 * 10 = 0 from rfl] at hw218_1)
  (try rw [Addr.add_zero'] at hw218_1)
  have hw218_0 := hx218_0
  (try rw [show ((0 : Int)).toNat = 0 from rfl] at hw218_0)
  (try rw [show 0 * 10 = 0 from rfl] at hw218_0)
  (try rw [Addr.add_zero'] at hw218_0)
  cases e218
  have qi218 : (0 < l0_0.length) = True := eq_true (by omega)
  (try rw [show ((0 : Int)).toNat = 0 from rfl] at hx218_0)
  (try rw [show 0 * 10 = 0 from rfl] at hx218_0)
  (try rw [Addr.add_zero'] at hx218_0)
  (try rw [show ((0 : Int)).toNat = 0 from rfl] at hx218_1)
  (try rw [show 0 * 10 = 0 from rfl] at hx218_1)
  (try rw [Addr.add_zero'] at hx218_1)
  (try rw [show ((0 : Int)).toNat = 0 from rfl] at hx218_2)
  (try rw [show 0 * 10 = 0 from rfl] at hx218_2)
  (try rw [Addr.add_zero'] at hx218_2)
  (try rw [show ((0 : Int)).toNat = 0 from rfl] at hx218_3)
  (try rw [show 0 * 10 = 0 from rfl] at hx218_3)
  (try rw [Addr.add_zero'] at hx218_3)
  (try rw [show ((0 : Int)).toNat = 0 from rfl] at hx218_4)
  (try rw [show 0 * 10 = 0 from rfl] at hx218_4)
  (try rw [Addr.add_zero'] at hx218_4)
  (try rw [show ((0 : Int)).toNat = 0 from rfl] at hx218_5)
  (try rw [show 0 * 10 = 0 from rfl] at hx218_5)
  (try rw [Addr.add_zero'] at hx218_5)
  (try rw [show ((0 : Int)).toNat = 0 from rfl] at hx218_6)
  (try rw [show 0 * 10 = 0 from rfl] at hx218_6)
  (try rw [Addr.add_zero'] at hx218_6)
  (try rw [show ((0 : Int)).toNat = 0 from rfl] at hx218_7)
  (try rw [show 0 * 10 = 0 from rfl] at hx218_7)
  (try rw [Addr.add_zero'] at hx218_7)
  (try rw [show ((0 : Int)).toNat = 0 from rfl] at hx218_8)
  (try rw [show 0 * 10 = 0 from rfl] at hx218_8)
  (try rw [Addr.add_zero'] at hx218_8)
  (try rw [show ((0 : Int)).toNat = 0 from rfl] at hx218_9)
  (try rw [show 0 * 10 = 0 from rfl] at hx218_9)
  (try rw [Addr.add_zero'] at hx218_9)
  replace hx218_0 := cB_ HB hx218_0
  replace hx218_1 := cB_ HB hx218_1
  replace hx218_2 := cB_ HB hx218_2
  replace hx218_3 := cB_ HB hx218_3
  replace hx218_4 := cB_ HB hx218_4
  replace hx218_5 := cB_ HB hx218_5
  replace hx218_6 := cB_ HB hx218_6
  replace hx218_7 := cB_ HB hx218_7
  replace hx218_8 := cB_ HB hx218_8
  replace hx218_9 := cB_ HB hx218_9
  replace p218 := eq_true p218
  replace q218 := eq_true q218
  have p219 : 0 ≤ (0 : Int) := (by omega)
  have q219 : 0 < (l1_0.length : Int) := of_decide_eq_true (by first | (with_reducible assumption) | assumption)
  obtain ⟨ad219, e219, hx219_0, hx219_1, hx219_2, hx219_3, hx219_4, hx219_5, hx219_6, hx219_7, hx219_8, hx219_9⟩ := at_T39 HR1_0.out 0 p219 q219
  have hw219_9 := hx219_9
  (try rw [show ((0 : Int)).toNat = 0 from rfl] at hw219_9)
  (try rw [show 0 * 10 = 0 from rfl] at hw219_9)
  (try rw [Addr.add_zero'] at hw219_9)
  have hw219_8 := hx219_8
  (try rw [show ((0 : Int)).toNat = 0 from rfl] at hw219_8)
  (try rw [show 0 * 10 = 0 from rfl] at hw219_8)
  (try rw [Addr.add_zero'] at hw219_8)
  have hw219_7 := hx219_7
  (try rw [show ((0 : Int)).toNat = 0 from rfl] at hw219_7)
  (try rw [show 0 * 10 = 0 from rfl] at hw219_7)
  (try rw [Addr.add_zero'] at hw219_7)
  have hw219_6 := hx219_6
  (try rw [show ((0 : Int)).toNat = 0 from rfl] at hw219_6)
  (try rw [show 0 * 10 = 0 from rfl] at hw219_6)
  (try rw [Addr.add_zero'] at hw219_6)
  have hw219_5 := hx219_5
  (try rw [show ((0 : Int)).toNat = 0 from rfl] at hw219_5)
  (try rw [show 0 * 10 = 0 from rfl] at hw219_5)
  (try rw [Addr.add_zero'] at hw219_5)
  have hw219_4 := hx219_4
  (try rw [show ((0 : Int)).toNat = 0 from rfl] at hw219_4)
  (try rw [show 0 * 10 = 0 from rfl] at hw219_4)
  (try rw [Addr.add_zero'] at hw219_4)
  have hw219_3 := hx219_3
  (try rw [show ((0 : Int)).toNat = 0 from rfl] at hw219_3)
  (try rw [show 0 * 10 = 0 from rfl] at hw219_3)
  (try rw [Addr.add_zero'] at hw219_3)
  have hw219_2 := hx219_2
  (try rw [show ((0 : Int)).toNat = 0 from rfl] at hw219_2)
  (try rw [show 0 * 10 = 0 from rfl] at hw219_2)
  (try rw [Addr.add_zero'] at hw219_2)
  have hw219_1 := hx219_1
  (try rw [show ((0 : Int)).toNat = 0 from rfl] at hw219_1)
  (try rw [show 0 * 10 = 0 from rfl] at hw219_1)
  (try rw [Addr.add_zero'] at hw219_1)
  have hw219_0 := hx219_0
  (try rw [show ((0 : Int)).toNat = 0 from rfl] at hw219_0)
  (try rw [show 0 * 10 = 0 from rfl] at hw219_0)
  (try rw [Addr.add_zero'] at hw219_0)
  cases e219
  have qi219 : (0 < l1_0.length) = True := eq_true (by omega)
  (try rw [show ((0 : Int)).toNat = 0 from rfl] at hx219_0)
  (try rw [show 0 * 10 = 0 from rfl] at hx219_0)
  (try rw [Addr.add_zero'] at hx219_0)
  (try rw [show ((0 : Int)).toNat = 0 from rfl] at hx219_1)
  (try rw [show 0 * 10 = 0 from rfl] at hx219_1)
  (try rw [Addr.add_zero'] at hx219_1)
  (try rw [show ((0 : Int)).toNat = 0 from rfl] at hx219_2)
  (try rw [show 0 * 10 = 0 from rfl] at hx219_2)
  (try rw [Addr.add_zero'] at hx219_2)
  (try rw [show ((0 : Int)).toNat = 0 from rfl] at hx219_3)
  (try rw [show 0 * 10 = 0 from rfl] at hx219_3)
  (try rw [Addr.add_zero'] at hx219_3)
  (try rw [show ((0 : Int)).toNat = 0 from rfl] at hx219_4)
  (try rw [show 0 * 10 = 0 from rfl] at hx219_4)
  (try rw [Addr.add_zero'] at hx219_4)
  (try rw [show ((0 : Int)).toNat = 0 from rfl] at hx219_5)
  (try rw [show 0 * 10 = 0 from rfl] at hx219_5)
  (try rw [Addr.add_zero'] at hx219_5)
  (try rw [show ((0 : Int)).toNat = 0 from rfl] at hx219_6)
  (try rw [show 0 * 10 = 0 from rfl] at hx219_6)
  (try rw [Addr.add_zero'] at hx219_6)
  (try rw [show ((0 : Int)).toNat = 0 from rfl] at hx219_7)
  (try rw [show 0 * 10 = 0 from rfl] at hx219_7)
  (try rw [Addr.add_zero'] at hx219_7)
  (try rw [show ((0 : Int)).toNat = 0 from rfl] at hx219_8)
  (try rw [show 0 * 10 = 0 from rfl] at hx219_8)
  (try rw [Addr.add_zero'] at hx219_8)
  (try rw [show ((0 : Int)).toNat = 0 from rfl] at hx219_9)
  (try rw [show 0 * 10 = 0 from rfl] at hx219_9)
  (try rw [Addr.add_zero'] at hx219_9)
  replace hx219_0 := cB_ HB hx219_0
  replace hx219_1 := cB_ HB hx219_1
  replace hx219_2 := cB_ HB hx219_2
  replace hx219_3 := cB_ HB hx219_3
  replace hx219_4 := cB_ HB hx219_4
  replace hx219_5 := cB_ HB hx219_5
  replace hx219_6 := cB_ HB hx219_6
  replace hx219_7 := cB_ HB hx219_7
  replace hx219_8 := cB_ HB hx219_8
  replace hx219_9 := cB_ HB hx219_9
  replace p219 := eq_true p219
  replace q219 := eq_true q219
  refine start_ (n := 12) (S := fun w' => w'.cell? ⟨gb216, 0, none⟩ = some (.slice (some ad218) l0_0.length c0_0) ∧ w'.cell? ⟨gb216, 1, none⟩ = some (.int .i64 a0_1) ∧ w'.cell? ⟨gb217, 0, none⟩ = some (.slice (some ad219) l1_0.length c1_0) ∧ w'.cell? ⟨gb217, 1, none⟩ = some (.int .i64 a1_1) ∧ w'.cell? ad218 = some (.string ((rd_T39 l0_0 0).f0.f0)) ∧ w'.cell? ⟨ad218.block, ad218.off + 1, none⟩ = some (.string ((rd_T39 l0_0 0).f0.f1)) ∧ w'.cell? ⟨ad218.block, ad218.off + 2, none⟩ = some (.int .i64 ((rd_T39 l0_0 0).f0.f2)) ∧ w'.cell? ⟨ad218.block, ad218.off + 3, none⟩ = some (.string ((rd_T39 l0_0 0).f0.f3)) ∧ w'.cell? ⟨ad218.block, ad218.off + 4, none⟩ = some (.int .i64 ((rd_T39 l0_0 0).f1.f0)) ∧ w'.cell? ⟨ad218.block, ad218.off + 5, none⟩ = some (.bool ((rd_T39 l0_0 0).f1.f1)) ∧ w'.cell? ⟨ad218.block, ad218.off + 6, none⟩ = some (.int .i64 ((rd_T39 l0_0 0).f1.f2)) ∧ w'.cell? ⟨ad218.block, ad218.off + 7, none⟩ = some (.int .i64 ((rd_T39 l0_0 0).f1.f3.f0)) ∧ w'.cell? ⟨ad218.block, ad218.off + 8, none⟩ = some (.int .i64 ((rd_T39 l0_0 0).f1.f3.f1)) ∧ w'.cell? ⟨ad218.block, ad218.off + 9, none⟩ = some (.string ((rd_T39 l0_0 0).f1.f3.f2)) ∧ w'.cell? ad219 = some (.string ((rd_T39 l1_0 0).f0.f0)) ∧ w'.cell? ⟨ad219.block, ad219.off + 1, none⟩ = some (.string ((rd_T39 l1_0 0).f0.f1)) ∧ w'.cell? ⟨ad219.block, ad219.off + 2, none⟩ = some (.int .i64 ((rd_T39 l1_0 0).f0.f2)) ∧ w'.cell? ⟨ad219.block, ad219.off + 3, none⟩ = some (.string ((rd_T39 l1_0 0).f0.f3)) ∧ w'.cell? ⟨ad219.block, ad219.off + 4, none⟩ = some (.int .i64 ((rd_T39 l1_0 0).f1.f0)) ∧ w'.cell? ⟨ad219.block, ad219.off + 5, none⟩ = some (.bool ((rd_T39 l1_0 0).f1.f1)) ∧ w'.cell? ⟨ad219.block, ad219.off + 6, none⟩ = some (.int .i64 ((rd_T39 l1_0 0).f1.f2)) ∧ w'.cell? ⟨ad219.block, ad219.off + 7, none⟩ = some (.int .i64 ((rd_T39 l1_0 0).f1.f3.f0)) ∧ w'.cell? ⟨ad219.block, ad219.off + 8, none⟩ = some (.int .i64 ((rd_T39 l1_0 0).f1.f3.f1)) ∧ w'.cell? ⟨ad219.block, ad219.off + 9, none⟩ = some (.string ((rd_T39 l1_0 0).f1.f3.f2))) (ds := []) (tf_ 0 12) (by kernel_rfl) rfl rfl ⟨(blk_cell BK216.out 0).trans rfl, (blk_cell BK216.out 1).trans rfl, (blk_cell BK217.out 0).trans rfl, (blk_cell BK217.out 1).trans rfl, ((HB.out.cell (World.block_lt_of_cell? w _ hw218_0)).trans hw218_0), ((HB.out.cell (World.block_lt_of_cell? w _ hw218_1)).trans hw218_1), ((HB.out.cell (World.block_lt_of_cell? w _ hw218_2)).trans hw218_2), ((HB.out.cell (World.block_lt_of_cell? w _ hw218_3)).trans hw218_3), ((HB.out.cell (World.block_lt_of_cell? w _ hw218_4)).trans hw218_4), ((HB.out.cell (World.block_lt_of_cell? w _ hw218_5)).trans hw218_5), ((HB.out.cell (World.block_lt_of_cell? w _ hw218_6)).trans hw218_6), ((HB.out.cell (World.block_lt_of_cell? w _ hw218_7)).trans hw218_7), ((HB.out.cell (World.block_lt_of_cell? w _ hw218_8)).trans hw218_8), ((HB.out.cell (World.block_lt_of_cell? w _ hw218_9)).trans hw218_9), ((HB.out.cell (World.block_lt_of_cell? w _ hw219_0)).trans hw219_0), ((HB.out.cell (World.block_lt_of_cell? w _ hw219_1)).trans hw219_1), ((HB.out.cell (World.block_lt_of_cell? w _ hw219_2)).trans hw219_2), ((HB.out.cell (World.block_lt_of_cell? w _ hw219_3)).trans hw219_3), ((HB.out.cell (World.block_lt_of_cell? w _ hw219_4)).trans hw219_4), ((HB.out.cell (World.block_lt_of_cell? w _ hw219_5)).trans hw219_5), ((HB.out.cell (World.block_lt_of_cell? w _ hw219_6)).trans hw219_6), ((HB.out.cell (World.block_lt_of_cell? w _ hw219_7)).trans hw219_7), ((HB.out.cell (World.block_lt_of_cell? w _ hw219_8)).trans hw219_8), ((HB.out.cell (World.block_lt_of_cell? w _ hw219_9)).trans hw219_9)⟩ (fun hHeld => ?_); refine with_tabW merge_source_before.tab1 merge_source_before.bits1 (fun HT_ HW_ => ?_)
  generalize w13.drew = w14 at BK216 BK217 HB hx218_0 hx218_1 hx218_2 hx218_3 hx218_4 hx218_5 hx218_6 hx218_7 hx218_8 hx218_9 hx219_0 hx219_1 hx219_2 hx219_3 hx219_4 hx219_5 hx219_6 hx219_7 hx219_8 hx219_9 hHeld ⊢
  refine pure_ (i := 0) (N := some 6) (v := ?_) (a' := ?_) (tf_ 1 11) rfl rfl (any_of HT_.out (by kernel_rfl)) (fun _ _ _ h => h) (Or.inl ⟨by rfl, ?_⟩) ?_ ?_
  rotate_left; · (intro w'; go_simp; with_reducible rfl)
  rotate_left; · (simp only [Act.put, sT_, sO_, sN_, i64_w, i32_w]; rfl)
  refine pure_ (i := 5) (N := some 11) (v := ?_) (a' := ?_) (tb_ 33 12) rfl rfl (any_of HT_.out (by kernel_rfl)) (fun _ _ _ h => h) (Or.inl ⟨by rfl, ?_⟩) ?_ ?_
  rotate_left; · (intro w'; go_simp; with_reducible rfl)
  rotate_left; · (simp only [Act.put, sT_, sO_, sN_, i64_w, i32_w]; rfl)
  refine take_ (i := 1) (N := some 7) (v := ?_) (a' := ?_) (tb_ 35 12) rfl rfl (take_ofW HT_.out HW_.out (by kernel_rfl)) (fun _ _ _ h => h) (Or.inl ⟨by rfl, ?_⟩) hHeld ?_ ?_
  rotate_left; · (rintro w' ⟨s0, s1, s2, s3, s4, s5, s6, s7, s8, s9, s10, s11, s12, s13, s14, s15, s16, s17, s18, s19, s20, s21, s22, s23⟩; go_simp; with_reducible rfl)
  rotate_left; · (simp only [Act.put, sT_, sO_, sN_, i64_w, i32_w]; rfl)
  refine pure_ (i := 2) (N := some 8) (v := ?_) (a' := ?_) (tb_ 39 12) rfl rfl (any_of HT_.out (by kernel_rfl)) (fun _ _ _ h => h) (Or.inl ⟨by rfl, ?_⟩) ?_ ?_
  rotate_left; · (intro w'; go_simp; with_reducible rfl)
  rotate_left; · (simp only [Act.put, sT_, sO_, sN_, i64_w, i32_w]; rfl)
  refine pure_ (i := 3) (N := some 9) (v := ?_) (a' := ?_) (tb_ 47 12) rfl rfl (any_of HT_.out (by kernel_rfl)) (fun _ _ _ h => h) (Or.inl ⟨by rfl, ?_⟩) ?_ ?_
  rotate_left; · (intro w'; go_simp; with_reducible rfl)
  rotate_left; · (simp only [Act.put, sT_, sO_, sN_, i64_w, i32_w]; rfl)
  refine take_ (i := 4) (N := some 10) (v := ?_) (a' := ?_) (tf_ 6 6) rfl rfl (take_ofW HT_.out HW_.out (by kernel_rfl)) (fun _ _ _ h => h) (Or.inl ⟨by rfl, ?_⟩) hHeld ?_ ?_
  rotate_left; · (rintro w' ⟨s0, s1, s2, s3, s4, s5, s6, s7, s8, s9, s10, s11, s12, s13, s14, s15, s16, s17, s18, s19, s20, s21, s22, s23⟩; go_simp; with_reducible rfl)
  rotate_left; · (simp only [Act.put, sT_, sO_, sN_, i64_w, i32_w]; rfl)
  refine take_ (i := 6) (N := some 12) (v := ?_) (a' := ?_) (tf_ 7 5) rfl rfl (take_ofW HT_.out HW_.out (by kernel_rfl)) (fun _ _ _ h => h) (Or.inl ⟨by rfl, ?_⟩) hHeld ?_ ?_
  rotate_left; · (rintro w' ⟨s0, s1, s2, s3, s4, s5, s6, s7, s8, s9, s10, s11, s12, s13, s14, s15, s16, s17, s18, s19, s20, s21, s22, s23⟩; go_simp; with_reducible rfl)
  rotate_left; · (simp only [Act.put, sT_, sO_, sN_, i64_w, i32_w]; rfl)
  refine pure_ (i := 7) (N := some 13) (v := ?_) (a' := ?_) (tf_ 8 4) rfl rfl (any_of HT_.out (by kernel_rfl)) (fun _ _ _ h => h) (Or.inl ⟨by rfl, ?_⟩) ?_ ?_
  rotate_left; · (intro w'; go_simp; with_reducible rfl)
  rotate_left; · (simp only [Act.put, sT_, sO_, sN_, i64_w, i32_w]; rfl)
  refine pure_ (i := 8) (N := some 14) (v := ?_) (a' := ?_) (tf_ 9 3) rfl rfl (any_of HT_.out (by kernel_rfl)) (fun _ _ _ h => h) (Or.inl ⟨by rfl, ?_⟩) ?_ ?_
  rotate_left; · (intro w'; go_simp; with_reducible rfl)
  rotate_left; · (simp only [Act.put, sT_, sO_, sN_, i64_w, i32_w]; rfl)
  refine take_ (i := 9) (N := some 15) (v := ?_) (a' := ?_) (tf_ 10 2) rfl rfl (take_ofW HT_.out HW_.out (by kernel_rfl)) (fun _ _ _ h => h) (Or.inl ⟨by rfl, ?_⟩) hHeld ?_ ?_
  rotate_left; · (rintro w' ⟨s0, s1, s2, s3, s4, s5, s6, s7, s8, s9, s10, s11, s12, s13, s14, s15, s16, s17, s18, s19, s20, s21, s22, s23⟩; go_simp; with_reducible rfl)
  rotate_left; · (simp only [Act.put, sT_, sO_, sN_, i64_w, i32_w]; rfl)
  refine one_ (i := 10) (N := some 16) (tf_ 11 1) rfl rfl (one_of HT_.out (by kernel_rfl)) (by decide) (fun K hK => ?_)
  refine goes_ Try.func33 (by kernel_rfl) rfl #[.agg #[.string ((rd_T39 l0_0 0).f0.f0), .string ((rd_T39 l0_0 0).f0.f1), .int .i64 ((rd_T39 l0_0 0).f0.f2), .string ((rd_T39 l0_0 0).f0.f3)], .agg #[.string ((rd_T39 l1_0 0).f0.f0), .string ((rd_T39 l1_0 0).f0.f1), .int .i64 ((rd_T39 l1_0 0).f0.f2), .string ((rd_T39 l1_0 0).f0.f3)]] (by rfl) rfl rfl (by (try simp only [mT_, mC_, mN_]); first | done | rfl) ?_
  with_reducible refine (key_Cmp.calls k ((rd_T39 l0_0 0).f0.f0) ((rd_T39 l0_0 0).f0.f1) ((rd_T39 l0_0 0).f0.f2) ((rd_T39 l0_0 0).f0.f3) ((rd_T39 l1_0 0).f0.f0) ((rd_T39 l1_0 0).f0.f1) ((rd_T39 l1_0 0).f0.f2) ((rd_T39 l1_0 0).f0.f3) t220 _ A5.out).mono ?_
  rintro e w15 ⟨rfl, hb⟩
  refine ⟨_, rfl, ?_⟩
  replace BK216 := kB BK216 hb
  replace BK217 := kB BK217 hb
  replace HB := Aside0.mk (below_step (by repeat (first | (with_reducible first | exact HB.out | apply bA_ | apply bN_ | apply bD_ | refine bS_ ?_ GE216 | refine bS_ ?_ GE217) | exact HB.out)) hb)
  (try clear hb)
  (try clear hb2)
  (try clear hk)
  (try clear hi)
  refine hK.out _ _ ⟨(blk_cell BK216.out 0).trans rfl, (blk_cell BK216.out 1).trans rfl, (blk_cell BK217.out 0).trans rfl, (blk_cell BK217.out 1).trans rfl, ((HB.out.cell (World.block_lt_of_cell? w _ hw218_0)).trans hw218_0), ((HB.out.cell (World.block_lt_of_cell? w _ hw218_1)).trans hw218_1), ((HB.out.cell (World.block_lt_of_cell? w _ hw218_2)).trans hw218_2), ((HB.out.cell (World.block_lt_of_cell? w _ hw218_3)).trans hw218_3), ((HB.out.cell (World.block_lt_of_cell? w _ hw218_4)).trans hw218_4), ((HB.out.cell (World.block_lt_of_cell? w _ hw218_5)).trans hw218_5), ((HB.out.cell (World.block_lt_of_cell? w _ hw218_6)).trans hw218_6), ((HB.out.cell (World.block_lt_of_cell? w _ hw218_7)).trans hw218_7), ((HB.out.cell (World.block_lt_of_cell? w _ hw218_8)).trans hw218_8), ((HB.out.cell (World.block_lt_of_cell? w _ hw218_9)).trans hw218_9), ((HB.out.cell (World.block_lt_of_cell? w _ hw219_0)).trans hw219_0), ((HB.out.cell (World.block_lt_of_cell? w _ hw219_1)).trans hw219_1), ((HB.out.cell (World.block_lt_of_cell? w _ hw219_2)).trans hw219_2), ((HB.out.cell (World.block_lt_of_cell? w _ hw219_3)).trans hw219_3), ((HB.out.cell (World.block_lt_of_cell? w _ hw219_4)).trans hw219_4), ((HB.out.cell (World.block_lt_of_cell? w _ hw219_5)).trans hw219_5), ((HB.out.cell (World.block_lt_of_cell? w _ hw219_6)).trans hw219_6), ((HB.out.cell (World.block_lt_of_cell? w _ hw219_7)).trans hw219_7), ((HB.out.cell (World.block_lt_of_cell? w _ hw219_8)).trans hw219_8), ((HB.out.cell (World.block_lt_of_cell? w _ hw219_9)).trans hw219_9)⟩ (fun hHeld => ?_)
  clear hK K
  refine norm_ (a' := ?_) ?_ ?_
  rotate_left
  ·
   show Act.put _ (some 16) _ = _
   simp only [Act.put, sT_, sO_, sN_, i64_w, i32_w]
   rfl
  refine pure_ (i := 11) (N := some 5) (v := ?_) (a' := ?_) (tf_ 12 0) rfl rfl (any_of HT_.out (by kernel_rfl)) (fun _ _ _ h => h) (Or.inl ⟨by rfl, ?_⟩) ?_ ?_
  rotate_left; · (intro w'; go_simp; with_reducible rfl)
  rotate_left; · (simp only [Act.put, sT_, sO_, sN_, i64_w, i32_w]; rfl)
  refine done_ (done_of HT_.out (by kernel_rfl)) ?_
  have hnb16 := NB216_217.out
  have hnc16 := NB217_216.out
  obtain ⟨_, _, _, _⟩ := czf2 BK216
  obtain ⟨_, _, _, _⟩ := czf2 BK217
  try go_wp2
  go_ret
  exact ⟨by first | rfl | (simp <;> rfl) | (simp [*] <;> rfl), by repeat (first | (with_reducible first | exact HB.out | apply bA_ | apply bN_ | apply bD_ | refine bS_ ?_ GE216 | refine bS_ ?_ GE217) | exact HB.out)⟩
end Go.Proofs.Ytabiekkebdocnaa.Q
