/- Lemmas for this claim's walk: no condition of their own. -/
import Derived.Test.YtabiekkebdocnaaZaSq
import Derived.Test.YtabiekkebdocnaaZaQx0
import Derived.Test.YtabiekkebdocnaaZaJ17
namespace Go.Proofs.Ytabiekkebdocnaa.Q
open Go.RowKit Go.Proofs.YtabiekkebdocnaaW.PrintWords Go.Proofs.YtabiekkebdocnaaW.PrintLast Go.Proofs.YtabiekkebdocnaaW.PrintMore
attribute [local go_sem] max2_int min2_int max_two min_two max_three min_three max_four min_four
set_option linter.unusedVariables false
set_option linter.unusedSimpArgs false
attribute [local go_sem high] eqA33
def skerryref05_Find.l0 : Nat → List (S39) → Int → Int → ByteArray → ByteArray → Int → ByteArray → Option (Int × Bool × Int × Int × Int × ByteArray × Bool)
 | 0, _, _, _, _, _, _, _ => none
 | k + 1, x8, x9, x10, x327000, x327001, x327002, x327003 => if x10 < x9 then (if 0 ≤ x10 then (if x10 < (x8.length : Int) then (if ((((rd_T39 x8 x10).f0.f0).toList) == x327000.toList && ((((rd_T39 x8 x10).f0.f1).toList) == x327001.toList && (((rd_T39 x8 x10).f0.f2) == x327002 && ((((rd_T39 x8 x10).f0.f3).toList) == x327003.toList)))) = true then (some ((rd_T39 x8 x10).f1.f0, (rd_T39 x8 x10).f1.f1, (rd_T39 x8 x10).f1.f2, (rd_T39 x8 x10).f1.f3.f0, (rd_T39 x8 x10).f1.f3.f1, (rd_T39 x8 x10).f1.f3.f2, true)) else (skerryref05_Find.l0 k x8 x9 (wrap64 (x10 + 1)) x327000 x327001 x327002 x327003)) else (none)) else (none)) else (some (0, false, 0, 0, 0, (⟨#[]⟩ : ByteArray), false))
def skerryref05_Find.f (k : Nat) (l0 : List (S39)) (a1_0 : ByteArray) (a1_1 : ByteArray) (a1_2 : Int) (a1_3 : ByteArray) : Option (Int × Bool × Int × Int × Int × ByteArray × Bool) := skerryref05_Find.l0 k l0 (l0.length : Int) 0 a1_0 a1_1 a1_2 a1_3
set_option maxHeartbeats 8000000 in
set_option maxRecDepth 100000 in
theorem skerryref05_Find.calls (k : Nat) (A0 : Option Addr) (c0 : Nat) (l0 : List (S39)) (a1_0 : ByteArray) (a1_1 : ByteArray) (a1_2 : Int) (a1_3 : ByteArray) (r1 : Int) (r2 : Bool) (r3 : Int) (r4 : Int) (r5 : Int) (r6 : ByteArray) (r7 : Bool) (w : World) (hr0 : Kd.C k39 w A0 l0.length l0) (hc0 : l0.length ≤ c0) (h : skerryref05_Find.f k l0 a1_0 a1_1 a1_2 a1_3 = some (r1, r2, r3, r4, r5, r6, r7)) :
  Calls Try.prog 27 #[.slice A0 l0.length c0, .agg #[.string a1_0, .string a1_1, .int .i64 a1_2, .string a1_3]] w fun e w' => e = .returned (.tuple #[.agg #[.int .i64 r1, .bool r2, .int .i64 r3, .int .i64 r4, .int .i64 r5, .string r6], .bool r7]) ∧ Below w.heap.size w w' := by
 have hu33 := Try.underlying33
 have hu37 := Try.underlying37
 have hu39 := Try.underlying39
 have HR0 := Aside0.mk hr0
 have HC0 := Aside0.mk hc0
 clear hr0 hc0
 have HB := Aside0.mk (Below.refl w.heap.size w)
 have H : (skerryref05_Find.l0 k l0 (l0.length : Int) 0 a1_0 a1_1 a1_2 a1_3) = some (r1, r2, r3, r4, r5, r6, r7) := h
 clear h
 have H' := Aside0.mk H
 clear H
 go_enter Try.func27, Try.ntmps27
 go_wp2_with (first | ((with_reducible refine gate_dst (N := 3) rfl ?_); refine box_event ?hg (N := 3) ?hd (cs := #[.string a1_0, .string a1_1, .int .i64 a1_2, .string a1_3]) (t := 33) ?hr ?_; (case hd => rfl); (case hg => rfl); (case hr => first | (go_simp; done) | (go_simp; rfl)); intro gb326 hg w3 hbox hb; have BK326 := Aside0.mk (hbox); have GW326 := Aside0.mk ((by rw [hg]; exact (bZ_ (kwW HB)) : w.heap.size ≤ gb326)); replace HB := Aside0.mk (below_step (kwW HB) hb); have GE326 := GW326; clear hb hbox hg) | ((with_reducible refine gate_dst (N := 4) rfl ?_); refine box_event ?hg (N := 4) ?hd (cs := #[.int .i64 0, .bool false, .int .i64 0, .int .i64 0, .int .i64 0, .string (⟨#[]⟩ : ByteArray)]) (t := 37) ?hr ?_; (case hd => rfl); (case hg => rfl); (case hr => first | (go_simp; done) | (go_simp; rfl)); intro gb327 hg w4 hbox hb; have BK327 := Aside0.mk (hbox); have GW327 := Aside0.mk ((by rw [hg]; exact (bZ_ (by repeat (first | (with_reducible first | exact HB.out | apply bA_ | apply bN_ | apply bD_ | refine bS_ ?_ GE326) | exact HB.out))) : w.heap.size ≤ gb327)); replace HB := Aside0.mk (below_step (by repeat (first | (with_reducible first | exact HB.out | apply bA_ | apply bN_ | apply bD_ | refine bS_ ?_ GE326) | exact HB.out)) hb); have GE327 := GW327; have NB326_327 := Aside0.mk ((by rw [hg]; exact Nat.ne_of_lt (blk_lt (kbW BK326)) : gb326 ≠ gb327)); have NB327_326 := Aside0.mk ((by rw [hg]; exact Nat.ne_of_gt (blk_lt (kbW BK326)) : gb327 ≠ gb326)); replace BK326 := kB BK326 hb; clear hb hbox hg))
 go_loopg [10] k (fun kq v10 w' => ∃ (x10_1 : Int) (x328000_1 : Int) (x328001_1 : Bool) (x328002_1 : Int) (x328003_1 : Int) (x328004_1 : Int) (x328005_1 : ByteArray), v10 = .int .i64 x10_1 ∧ Aside0 (skerryref05_Find.l0 kq l0 (l0.length : Int) x10_1 a1_0 a1_1 a1_2 a1_3 = some (r1, r2, r3, r4, r5, r6, r7)) ∧ Aside0 (kq ≤ k) ∧ Aside0 (w'.heap[gb326]? = some (.cells #[.string a1_0, .string a1_1, .int .i64 a1_2, .string a1_3] 33 (0, 0))) ∧ Aside0 (w'.heap[gb327]? = some (.cells #[.int .i64 x328000_1, .bool x328001_1, .int .i64 x328002_1, .int .i64 x328003_1, .int .i64 x328004_1, .string x328005_1] 37 (0, 0))) ∧ Aside0 (Below w.heap.size w w'))
 case atStart => exact ⟨(0), (0), (false), (0), (0), (0), ((⟨#[]⟩ : ByteArray)), (by first | rfl | (simp; done) | (simp [bne, *]; done)), H', ⟨Nat.le_refl _⟩, ⟨by (with_reducible repeat (first | refine blk_drewN ?_ _ | refine blk_drew ?_ | refine blk_alloc ?_ _)); exact BK326.out⟩, ⟨by (with_reducible repeat (first | refine blk_drewN ?_ _ | refine blk_drew ?_ | refine blk_alloc ?_ _)); exact BK327.out⟩, ⟨by repeat (first | (with_reducible first | exact HB.out | apply bA_ | apply bN_ | apply bD_ | refine bS_ ?_ GE326 | refine bS_ ?_ GE327) | exact HB.out)⟩⟩
 case round =>
  clear H'
  try clear c2
  try clear p2
  obtain ⟨x10_1, x328000_1, x328001_1, x328002_1, x328003_1, x328004_1, x328005_1, rfl, HA, HK1, BK326, BK327, HB⟩ := hrel
  cases gk with
  | zero => exact absurd HA.out (by simp [skerryref05_Find.l0])
  | succ k1 =>
   have H := HA.out
   clear HA
   simp only [skerryref05_Find.l0] at H
   by_cases c5 : x10_1 < (l0.length : Int)
   rotate_left
   ·
    rw [if_neg c5] at H
    have c5b0 : decide (x10_1 < (l0.length : Int)) = false := decide_eq_false c5
    clear c5
    simp only [Option.some.injEq, Prod.mk.injEq] at H
    obtain ⟨rfl, rfl, rfl, rfl, rfl, rfl, rfl⟩ := H
    have hnb22 := NB327_326.out
    have hnc22 := NB326_327.out
    obtain ⟨_, _, _, _, _, _, _, _, _, _, _, _⟩ := czf6 BK327
    go_wp2
    refine bodyPost_ret (results_ct rfl _ _ gb327 37 #[.int .i64 0, .bool false, .int .i64 0, .int .i64 0, .int .i64 0, .string (⟨#[]⟩ : ByteArray)] (0, 0) _ rfl (by (with_reducible repeat (first | refine blk_drewN ?_ _ | refine blk_drew ?_ | refine blk_alloc ?_ _)); exact bp6 (kbW BK327)) Try.underlying37 rfl (by kernel_rfl)) rfl ?_
    exact ⟨by first | rfl | (simp <;> rfl) | (simp [*] <;> rfl), by repeat (first | (with_reducible first | exact HB.out | apply bA_ | apply bN_ | apply bD_ | refine bS_ ?_ GE326 | refine bS_ ?_ GE327) | exact HB.out)⟩
   rw [if_pos c5] at H
   have c5b0 : decide (x10_1 < (l0.length : Int)) = true := decide_eq_true c5
   clear c5
   by_cases c6 : 0 ≤ x10_1
   rotate_left
   ·
    rw [if_neg c6] at H
    exact absurd H (by simp)
   rw [if_pos c6] at H
   have c6b0 : decide (0 ≤ x10_1) = true := decide_eq_true c6
   clear c6
   by_cases c7 : x10_1 < (l0.length : Int)
   rotate_left
   ·
    rw [if_neg c7] at H
    exact absurd H (by simp)
   rw [if_pos c7] at H
   have c7b0 : decide (x10_1 < (l0.length : Int)) = true := decide_eq_true c7
   clear c7
   by_cases c8 : ((((rd_T39 l0 x10_1).f0.f0).toList) == a1_0.toList && ((((rd_T39 l0 x10_1).f0.f1).toList) == a1_1.toList && (((rd_T39 l0 x10_1).f0.f2) == a1_2 && ((((rd_T39 l0 x10_1).f0.f3).toList) == a1_3.toList)))) = true
   ·
    rw [if_pos c8] at H
    have c8b0 : ((((rd_T39 l0 x10_1).f0.f0).toList) == a1_0.toList && ((((rd_T39 l0 x10_1).f0.f1).toList) == a1_1.toList && (((rd_T39 l0 x10_1).f0.f2) == a1_2 && ((((rd_T39 l0 x10_1).f0.f3).toList) == a1_3.toList)))) = true := c8
    (try (have c8b1 : decide ((((rd_T39 l0 x10_1).f0.f0).toList) = a1_0.toList && ((((rd_T39 l0 x10_1).f0.f1).toList) == a1_1.toList && (((rd_T39 l0 x10_1).f0.f2) == a1_2 && ((((rd_T39 l0 x10_1).f0.f3).toList) == a1_3.toList)))) = true := by simpa using c8))
    (try (have c8b2 : ((((rd_T39 l0 x10_1).f0.f0).toList) == a1_0.toList && ((((rd_T39 l0 x10_1).f0.f1).toList) == a1_1.toList && (((rd_T39 l0 x10_1).f0.f2) == a1_2 && ((((rd_T39 l0 x10_1).f0.f3).toList) == a1_3.toList)))) = true := by simpa using c8))
    clear c8
    simp only [Option.some.injEq, Prod.mk.injEq] at H
    obtain ⟨rfl, rfl, rfl, rfl, rfl, rfl, rfl⟩ := H
    have p328 : 0 ≤ (x10_1 : Int) := of_decide_eq_true (by first | (with_reducible assumption) | assumption)
    have q328 : x10_1 < (l0.length : Int) := of_decide_eq_true (by first | (with_reducible assumption) | assumption)
    obtain ⟨ad328, e328, hx328_0, hx328_1, hx328_2, hx328_3, hx328_4, hx328_5, hx328_6, hx328_7, hx328_8, hx328_9⟩ := at_T39 HR0.out x10_1 p328 q328
    cases e328
    replace hx328_0 := cB_ HB hx328_0
    replace hx328_1 := cB_ HB hx328_1
    replace hx328_2 := cB_ HB hx328_2
    replace hx328_3 := cB_ HB hx328_3
    replace hx328_4 := cB_ HB hx328_4
    replace hx328_5 := cB_ HB hx328_5
    replace hx328_6 := cB_ HB hx328_6
    replace hx328_7 := cB_ HB hx328_7
    replace hx328_8 := cB_ HB hx328_8
    replace hx328_9 := cB_ HB hx328_9
    replace p328 := eq_true p328
    replace q328 := eq_true q328
    go_wp2_with (first | ((with_reducible refine gate_dst (N := 7) rfl ?_); refine box_event ?hg (N := 7) ?hd (cs := #[.string (⟨#[]⟩ : ByteArray), .string (⟨#[]⟩ : ByteArray), .int .i64 0, .string (⟨#[]⟩ : ByteArray), .int .i64 0, .bool false, .int .i64 0, .int .i64 0, .int .i64 0, .string (⟨#[]⟩ : ByteArray)]) (t := 39) ?hr ?_; (case hd => rfl); (case hg => rfl); (case hr => first | (go_simp; done) | (go_simp; rfl)); intro gb329 hg w9 hbox hb; have BK329 := Aside0.mk (hbox); have GW329 := Aside0.mk ((by rw [hg]; exact (bZ_ (by repeat (first | (with_reducible first | exact HB.out | apply bA_ | apply bN_ | apply bD_ | refine bS_ ?_ GE326 | refine bS_ ?_ GE327) | exact HB.out))) : w.heap.size ≤ gb329)); replace HB := Aside0.mk (below_step (by repeat (first | (with_reducible first | exact HB.out | apply bA_ | apply bN_ | apply bD_ | refine bS_ ?_ GE326 | refine bS_ ?_ GE327) | exact HB.out)) hb); have GE329 := GW329; have NB326_329 := Aside0.mk ((by rw [hg]; exact Nat.ne_of_lt (blk_lt (kbW BK326)) : gb326 ≠ gb329)); have NB329_326 := Aside0.mk ((by rw [hg]; exact Nat.ne_of_gt (blk_lt (kbW BK326)) : gb329 ≠ gb326)); replace BK326 := kB BK326 hb; have NB327_329 := Aside0.mk ((by rw [hg]; exact Nat.ne_of_lt (blk_lt (kbW BK327)) : gb327 ≠ gb329)); have NB329_327 := Aside0.mk ((by rw [hg]; exact Nat.ne_of_gt (blk_lt (kbW BK327)) : gb329 ≠ gb327)); replace BK327 := kB BK327 hb; clear hb hbox hg; have hnb10 := NB329_326.out; have hnc10 := NB326_329.out; have hnb11 := NB329_327.out; have hnc11 := NB327_329.out; obtain ⟨_, _, _, _, _, _, _, _, _, _, _, _, _, _, _, _, _, _, _, _⟩ := czf10 BK329; have hnb13 := NB326_327.out; have hnc13 := NB327_326.out; obtain ⟨_, _, _, _, _, _, _, _⟩ := czf4 BK326; obtain ⟨_, _, _, _, _, _, _, _, _, _, _, _⟩ := czf6 BK327))
    refine bodyPost_ret (results_ct rfl _ _ gb327 37 #[.int .i64 ((rd_T39 l0 x10_1).f1.f0), .bool ((rd_T39 l0 x10_1).f1.f1), .int .i64 ((rd_T39 l0 x10_1).f1.f2), .int .i64 ((rd_T39 l0 x10_1).f1.f3.f0), .int .i64 ((rd_T39 l0 x10_1).f1.f3.f1), .string ((rd_T39 l0 x10_1).f1.f3.f2)] (0, 0) _ rfl (by (with_reducible repeat (first | refine blk_drewN ?_ _ | refine blk_drew ?_ | refine blk_alloc ?_ _)); apply bp6; (with_reducible repeat (first | refine blk_drewN ?_ _ | refine blk_drew ?_ | refine blk_alloc ?_ _)); refine bf10 ?_ NB327_329.out; (with_reducible repeat (first | refine blk_drewN ?_ _ | refine blk_drew ?_ | refine blk_alloc ?_ _)); exact BK327.out) Try.underlying37 rfl (by kernel_rfl)) rfl ?_
    exact ⟨by first | rfl | (simp <;> rfl) | (simp [*] <;> rfl), by repeat (first | (with_reducible first | exact HB.out | apply bA_ | apply bN_ | apply bD_ | refine bS_ ?_ GE326 | refine bS_ ?_ GE327 | refine bS_ ?_ GE329) | exact HB.out)⟩
   ·
    rw [if_neg c8] at H
    have c8b0 : ((((rd_T39 l0 x10_1).f0.f0).toList) == a1_0.toList && ((((rd_T39 l0 x10_1).f0.f1).toList) == a1_1.toList && (((rd_T39 l0 x10_1).f0.f2) == a1_2 && ((((rd_T39 l0 x10_1).f0.f3).toList) == a1_3.toList)))) = false := by simpa using c8
    (try (have c8b1 : decide ((((rd_T39 l0 x10_1).f0.f0).toList) = a1_0.toList && ((((rd_T39 l0 x10_1).f0.f1).toList) == a1_1.toList && (((rd_T39 l0 x10_1).f0.f2) == a1_2 && ((((rd_T39 l0 x10_1).f0.f3).toList) == a1_3.toList)))) = false := by simpa using c8))
    (try (have c8b2 : ((((rd_T39 l0 x10_1).f0.f0).toList) == a1_0.toList && ((((rd_T39 l0 x10_1).f0.f1).toList) == a1_1.toList && (((rd_T39 l0 x10_1).f0.f2) == a1_2 && ((((rd_T39 l0 x10_1).f0.f3).toList) == a1_3.toList)))) = false := by simpa using c8))
    (try (have c8b3 : ¬ ((((rd_T39 l0 x10_1).f0.f0).toList) = a1_0.toList && ((((rd_T39 l0 x10_1).f0.f1).toList) == a1_1.toList && (((rd_T39 l0 x10_1).f0.f2) == a1_2 && ((((rd_T39 l0 x10_1).f0.f3).toList) == a1_3.toList)))) := by simpa using c8))
    clear c8
    have H' := Aside0.mk H
    clear H
    have p328 : 0 ≤ (x10_1 : Int) := of_decide_eq_true (by first | (with_reducible assumption) | assumption)
    have q328 : x10_1 < (l0.length : Int) := of_decide_eq_true (by first | (with_reducible assumption) | assumption)
    obtain ⟨ad328, e328, hx328_0, hx328_1, hx328_2, hx328_3, hx328_4, hx328_5, hx328_6, hx328_7, hx328_8, hx328_9⟩ := at_T39 HR0.out x10_1 p328 q328
    cases e328
    replace hx328_0 := cB_ HB hx328_0
    replace hx328_1 := cB_ HB hx328_1
    replace hx328_2 := cB_ HB hx328_2
    replace hx328_3 := cB_ HB hx328_3
    replace hx328_4 := cB_ HB hx328_4
    replace hx328_5 := cB_ HB hx328_5
    replace hx328_6 := cB_ HB hx328_6
    replace hx328_7 := cB_ HB hx328_7
    replace hx328_8 := cB_ HB hx328_8
    replace hx328_9 := cB_ HB hx328_9
    replace p328 := eq_true p328
    replace q328 := eq_true q328
    go_wp2_with (first | ((with_reducible refine gate_dst (N := 7) rfl ?_); refine box_event ?hg (N := 7) ?hd (cs := #[.string (⟨#[]⟩ : ByteArray), .string (⟨#[]⟩ : ByteArray), .int .i64 0, .string (⟨#[]⟩ : ByteArray), .int .i64 0, .bool false, .int .i64 0, .int .i64 0, .int .i64 0, .string (⟨#[]⟩ : ByteArray)]) (t := 39) ?hr ?_; (case hd => rfl); (case hg => rfl); (case hr => first | (go_simp; done) | (go_simp; rfl)); intro gb329 hg w16 hbox hb; have BK329 := Aside0.mk (hbox); have GW329 := Aside0.mk ((by rw [hg]; exact (bZ_ (by repeat (first | (with_reducible first | exact HB.out | apply bA_ | apply bN_ | apply bD_ | refine bS_ ?_ GE326 | refine bS_ ?_ GE327) | exact HB.out))) : w.heap.size ≤ gb329)); replace HB := Aside0.mk (below_step (by repeat (first | (with_reducible first | exact HB.out | apply bA_ | apply bN_ | apply bD_ | refine bS_ ?_ GE326 | refine bS_ ?_ GE327) | exact HB.out)) hb); have GE329 := GW329; have NB326_329 := Aside0.mk ((by rw [hg]; exact Nat.ne_of_lt (blk_lt (kbW BK326)) : gb326 ≠ gb329)); have NB329_326 := Aside0.mk ((by rw [hg]; exact Nat.ne_of_gt (blk_lt (kbW BK326)) : gb329 ≠ gb326)); replace BK326 := kB BK326 hb; have NB327_329 := Aside0.mk ((by rw [hg]; exact Nat.ne_of_lt (blk_lt (kbW BK327)) : gb327 ≠ gb329)); have NB329_327 := Aside0.mk ((by rw [hg]; exact Nat.ne_of_gt (blk_lt (kbW BK327)) : gb329 ≠ gb327)); replace BK327 := kB BK327 hb; clear hb hbox hg; have hnb17 := NB329_326.out; have hnc17 := NB326_329.out; have hnb18 := NB329_327.out; have hnc18 := NB327_329.out; obtain ⟨_, _, _, _, _, _, _, _, _, _, _, _, _, _, _, _, _, _, _, _⟩ := czf10 BK329; have hnb20 := NB326_327.out; have hnc20 := NB327_326.out; obtain ⟨_, _, _, _, _, _, _, _⟩ := czf4 BK326))
    go_roundg k1
    case measure => have := HK1.out; omega
    case rel => exact ⟨(wrap64 (x10_1 + 1)), (x328000_1), (x328001_1), (x328002_1), (x328003_1), (x328004_1), (x328005_1), (by first | rfl | (simp; done) | (simp [bne, *]; done)), H', ⟨by have := HK1.out; omega⟩, ⟨by (with_reducible repeat (first | refine blk_drewN ?_ _ | refine blk_drew ?_ | refine blk_alloc ?_ _)); refine bf10 ?_ NB326_329.out; (with_reducible repeat (first | refine blk_drewN ?_ _ | refine blk_drew ?_ | refine blk_alloc ?_ _)); exact BK326.out⟩, ⟨by (with_reducible repeat (first | refine blk_drewN ?_ _ | refine blk_drew ?_ | refine blk_alloc ?_ _)); refine bf10 ?_ NB327_329.out; (with_reducible repeat (first | refine blk_drewN ?_ _ | refine blk_drew ?_ | refine blk_alloc ?_ _)); exact BK327.out⟩, ⟨by repeat (first | (with_reducible first | exact HB.out | apply bA_ | apply bN_ | apply bD_ | refine bS_ ?_ GE326 | refine bS_ ?_ GE327 | refine bS_ ?_ GE329) | exact HB.out)⟩⟩
end Go.Proofs.Ytabiekkebdocnaa.Q
