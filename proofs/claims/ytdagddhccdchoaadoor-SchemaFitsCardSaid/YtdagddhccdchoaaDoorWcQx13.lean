/- Lemmas for this claim's walk: no condition of their own. -/
import Derived.Test.YtdagddhccdchoaaDoorWcSq
import Derived.Test.YtdagddhccdchoaaDoorWcQx0
namespace Go.Proofs.YtdagddhccdchoaaDoor.Q
open Go.RowKit Go.Proofs.YtdagddhccdchoaaDoorW.PrintWords Go.Proofs.YtdagddhccdchoaaDoorW.PrintLast Go.Proofs.YtdagddhccdchoaaDoorW.PrintMore
attribute [local go_sem] max2_int min2_int max_two min_two max_three min_three max_four min_four
set_option linter.unusedVariables false
set_option linter.unusedSimpArgs false
def skerryref17_Column.l0 : Nat → ByteArray → List (S29) → Int → Int → Option (ByteArray × Int × Bool)
 | 0, _, _, _, _ => none
 | k + 1, x1, x9, x10, x11 => if x11 < x10 then (if 0 ≤ x11 then (if x11 < (x9.length : Int) then (if ((rd_T29 x9 x11).f0).toList = x1.toList then (some ((rd_T29 x9 x11).f0, (rd_T29 x9 x11).f1, true)) else (skerryref17_Column.l0 k x1 x9 x10 (wrap64 (x11 + 1)))) else (none)) else (none)) else (some ((⟨#[]⟩ : ByteArray), 0, false))
def skerryref17_Column.f (k : Nat) (a0_0 : ByteArray) (a0_1 : ByteArray) (a0_2 : ByteArray) (l0_3 : List (S29)) (a1 : ByteArray) : Option (ByteArray × Int × Bool) := skerryref17_Column.l0 k a1 l0_3 (l0_3.length : Int) 0
set_option maxHeartbeats 8000000 in
set_option maxRecDepth 100000 in
theorem skerryref17_Column.calls (k : Nat) (a0_0 : ByteArray) (a0_1 : ByteArray) (a0_2 : ByteArray) (A0_3 : Option Addr) (c0_3 : Nat) (l0_3 : List (S29)) (a1 : ByteArray) (r1 : ByteArray) (r2 : Int) (r3 : Bool) (w : World) (hr0_3 : Kd.C k29 w A0_3 l0_3.length l0_3) (hc0_3 : l0_3.length ≤ c0_3) (h : skerryref17_Column.f k a0_0 a0_1 a0_2 l0_3 a1 = some (r1, r2, r3)) :
  Calls Tryd.prog 12 #[.agg #[.string a0_0, .string a0_1, .string a0_2, .slice A0_3 l0_3.length c0_3], .string a1] w fun e w' => e = .returned (.tuple #[.agg #[.string r1, .int .i64 r2], .bool r3]) ∧ Below w.heap.size w w' := by
 have hu26 := Tryd.underlying26
 have hu29 := Tryd.underlying29
 have HR0_3 := Aside0.mk hr0_3
 have HC0_3 := Aside0.mk hc0_3
 clear hr0_3 hc0_3
 have HB := Aside0.mk (Below.refl w.heap.size w)
 have H : (skerryref17_Column.l0 k a1 l0_3 (l0_3.length : Int) 0) = some (r1, r2, r3) := h
 clear h
 have H' := Aside0.mk H
 clear H
 go_enter Tryd.func12, Tryd.ntmps12
 go_wp2_with (first | ((with_reducible refine gate_dst (N := 2) rfl ?_); refine box_event ?hg (N := 2) ?hd (cs := #[.string a0_0, .string a0_1, .string a0_2, .slice A0_3 l0_3.length c0_3]) (t := 26) ?hr ?_; (case hd => rfl); (case hg => rfl); (case hr => first | (go_simp; done) | (go_simp; rfl)); intro gb154 hg w3 hbox hb; have BK154 := Aside0.mk (hbox); have GW154 := Aside0.mk ((by rw [hg]; exact (bZ_ (kwW HB)) : w.heap.size ≤ gb154)); replace HB := Aside0.mk (below_step (kwW HB) hb); have GE154 := GW154; clear hb hbox hg) | ((with_reducible refine gate_dst (N := 4) rfl ?_); refine box_event ?hg (N := 4) ?hd (cs := #[.string (⟨#[]⟩ : ByteArray), .int .i64 0]) (t := 29) ?hr ?_; (case hd => rfl); (case hg => rfl); (case hr => first | (go_simp; done) | (go_simp; rfl)); intro gb155 hg w4 hbox hb; have BK155 := Aside0.mk (hbox); have GW155 := Aside0.mk ((by rw [hg]; exact (bZ_ (by repeat (first | (with_reducible first | exact HB.out | apply bA_ | apply bN_ | apply bD_ | refine bS_ ?_ GE154) | exact HB.out))) : w.heap.size ≤ gb155)); replace HB := Aside0.mk (below_step (by repeat (first | (with_reducible first | exact HB.out | apply bA_ | apply bN_ | apply bD_ | refine bS_ ?_ GE154) | exact HB.out)) hb); have GE155 := GW155; have NB154_155 := Aside0.mk ((by rw [hg]; exact Nat.ne_of_lt (blk_lt (kbW BK154)) : gb154 ≠ gb155)); have NB155_154 := Aside0.mk ((by rw [hg]; exact Nat.ne_of_gt (blk_lt (kbW BK154)) : gb155 ≠ gb154)); replace BK154 := kB BK154 hb; clear hb hbox hg; have hnb5 := NB154_155.out; have hnc5 := NB155_154.out; obtain ⟨hcz6_0, hcz6_1, hcz6_2, hcz6_3, hfz6_0, hfz6_1, hfz6_2, hfz6_3⟩ := czf4 BK154))
 go_loopg [11] k (fun kq v11 w' => ∃ (x11_1 : Int) (x156000_1 : ByteArray) (x156001_1 : Int), v11 = .int .i64 x11_1 ∧ Aside0 (skerryref17_Column.l0 kq a1 l0_3 (l0_3.length : Int) x11_1 = some (r1, r2, r3)) ∧ Aside0 (kq ≤ k) ∧ Aside0 (w'.heap[gb154]? = some (.cells #[.string a0_0, .string a0_1, .string a0_2, (.slice A0_3 l0_3.length c0_3)] 26 (0, 0))) ∧ Aside0 (w'.heap[gb155]? = some (.cells #[.string x156000_1, .int .i64 x156001_1] 29 (0, 0))) ∧ Aside0 (Below w.heap.size w w'))
 case atStart => exact ⟨(0), ((⟨#[]⟩ : ByteArray)), (0), (by first | rfl | (simp; done) | (simp [bne, *]; done)), H', ⟨Nat.le_refl _⟩, ⟨by (with_reducible repeat (first | refine blk_drewN ?_ _ | refine blk_drew ?_ | refine blk_alloc ?_ _)); exact BK154.out⟩, ⟨by (with_reducible repeat (first | refine blk_drewN ?_ _ | refine blk_drew ?_ | refine blk_alloc ?_ _)); exact BK155.out⟩, ⟨by repeat (first | (with_reducible first | exact HB.out | apply bA_ | apply bN_ | apply bD_ | refine bS_ ?_ GE154 | refine bS_ ?_ GE155) | exact HB.out)⟩⟩
 case round =>
  clear H'
  try clear c1
  try clear p2
  try clear c5
  try clear hcz6_0
  try clear hcz6_1
  try clear hcz6_2
  try clear hcz6_3
  try clear hfz6_0
  try clear hfz6_1
  try clear hfz6_2
  try clear hfz6_3
  obtain ⟨x11_1, x156000_1, x156001_1, rfl, HA, HK1, BK154, BK155, HB⟩ := hrel
  cases gk with
  | zero => exact absurd HA.out (by simp [skerryref17_Column.l0])
  | succ k1 =>
   have H := HA.out
   clear HA
   simp only [skerryref17_Column.l0] at H
   by_cases c7 : x11_1 < (l0_3.length : Int)
   rotate_left
   ·
    rw [if_neg c7] at H
    have c7b0 : decide (x11_1 < (l0_3.length : Int)) = false := decide_eq_false c7
    clear c7
    simp only [Option.some.injEq, Prod.mk.injEq] at H
    obtain ⟨rfl, rfl, rfl⟩ := H
    have hnb21 := NB155_154.out
    have hnc21 := NB154_155.out
    obtain ⟨_, _, _, _⟩ := czf2 BK155
    go_wp2
    refine bodyPost_ret (results_ct rfl _ _ gb155 29 #[.string (⟨#[]⟩ : ByteArray), .int .i64 0] (0, 0) _ rfl (by (with_reducible repeat (first | refine blk_drewN ?_ _ | refine blk_drew ?_ | refine blk_alloc ?_ _)); refine blk_put (cs := #[.string (⟨#[]⟩ : ByteArray), .int .i64 x156001_1]) ?_ 1 _ rfl; (with_reducible repeat (first | refine blk_drewN ?_ _ | refine blk_drew ?_ | refine blk_alloc ?_ _)); refine blk_put (cs := #[.string x156000_1, .int .i64 x156001_1]) ?_ 0 _ rfl; (with_reducible repeat (first | refine blk_drewN ?_ _ | refine blk_drew ?_ | refine blk_alloc ?_ _)); exact BK155.out) Tryd.underlying29 rfl (by kernel_rfl)) rfl ?_
    exact ⟨by first | rfl | (simp <;> rfl) | (simp [*] <;> rfl), by repeat (first | (with_reducible first | exact HB.out | apply bA_ | apply bN_ | apply bD_ | refine bS_ ?_ GE154 | refine bS_ ?_ GE155) | exact HB.out)⟩
   rw [if_pos c7] at H
   have c7b0 : decide (x11_1 < (l0_3.length : Int)) = true := decide_eq_true c7
   clear c7
   by_cases c8 : 0 ≤ x11_1
   rotate_left
   ·
    rw [if_neg c8] at H
    exact absurd H (by simp)
   rw [if_pos c8] at H
   have c8b0 : decide (0 ≤ x11_1) = true := decide_eq_true c8
   clear c8
   by_cases c9 : x11_1 < (l0_3.length : Int)
   rotate_left
   ·
    rw [if_neg c9] at H
    exact absurd H (by simp)
   rw [if_pos c9] at H
   have c9b0 : decide (x11_1 < (l0_3.length : Int)) = true := decide_eq_true c9
   clear c9
   by_cases c10 : ((rd_T29 l0_3 x11_1).f0).toList = a1.toList
   ·
    rw [if_pos c10] at H
    have c10b0 : (((rd_T29 l0_3 x11_1).f0).toList == a1.toList) = true := beq_iff_eq.mpr c10
    have c10b1 : (((rd_T29 l0_3 x11_1).f0).toList != a1.toList) = false := bne_eq_false_iff_eq.mpr c10
    clear c10
    simp only [Option.some.injEq, Prod.mk.injEq] at H
    obtain ⟨rfl, rfl, rfl⟩ := H
    have p156 : 0 ≤ (x11_1 : Int) := of_decide_eq_true (by first | (with_reducible assumption) | assumption)
    have q156 : x11_1 < (l0_3.length : Int) := of_decide_eq_true (by first | (with_reducible assumption) | assumption)
    obtain ⟨ad156, e156, hx156_0, hx156_1⟩ := at_T29 HR0_3.out x11_1 p156 q156
    cases e156
    replace hx156_0 := cB_ HB hx156_0
    replace hx156_1 := cB_ HB hx156_1
    replace p156 := eq_true p156
    replace q156 := eq_true q156
    go_wp2_with (first | ((with_reducible refine gate_dst (N := 7) rfl ?_); refine box_event ?hg (N := 7) ?hd (cs := #[.string (⟨#[]⟩ : ByteArray), .int .i64 0]) (t := 29) ?hr ?_; (case hd => rfl); (case hg => rfl); (case hr => first | (go_simp; done) | (go_simp; rfl)); intro gb157 hg w11 hbox hb; have BK157 := Aside0.mk (hbox); have GW157 := Aside0.mk ((by rw [hg]; exact (bZ_ (by repeat (first | (with_reducible first | exact HB.out | apply bA_ | apply bN_ | apply bD_ | refine bS_ ?_ GE154 | refine bS_ ?_ GE155) | exact HB.out))) : w.heap.size ≤ gb157)); replace HB := Aside0.mk (below_step (by repeat (first | (with_reducible first | exact HB.out | apply bA_ | apply bN_ | apply bD_ | refine bS_ ?_ GE154 | refine bS_ ?_ GE155) | exact HB.out)) hb); have GE157 := GW157; have NB154_157 := Aside0.mk ((by rw [hg]; exact Nat.ne_of_lt (blk_lt (kbW BK154)) : gb154 ≠ gb157)); have NB157_154 := Aside0.mk ((by rw [hg]; exact Nat.ne_of_gt (blk_lt (kbW BK154)) : gb157 ≠ gb154)); replace BK154 := kB BK154 hb; have NB155_157 := Aside0.mk ((by rw [hg]; exact Nat.ne_of_lt (blk_lt (kbW BK155)) : gb155 ≠ gb157)); have NB157_155 := Aside0.mk ((by rw [hg]; exact Nat.ne_of_gt (blk_lt (kbW BK155)) : gb157 ≠ gb155)); replace BK155 := kB BK155 hb; clear hb hbox hg; have hnb12 := NB157_154.out; have hnc12 := NB154_157.out; have hnb13 := NB157_155.out; have hnc13 := NB155_157.out; obtain ⟨_, _, _, _⟩ := czf2 BK157; have hnb15 := NB155_154.out; have hnc15 := NB154_155.out; obtain ⟨_, _, _, _⟩ := czf2 BK155))
    refine bodyPost_ret (results_ct rfl _ _ gb155 29 #[.string ((rd_T29 l0_3 x11_1).f0), .int .i64 ((rd_T29 l0_3 x11_1).f1)] (0, 0) _ rfl (by (with_reducible repeat (first | refine blk_drewN ?_ _ | refine blk_drew ?_ | refine blk_alloc ?_ _)); refine blk_put (cs := #[.string ((rd_T29 l0_3 x11_1).f0), .int .i64 x156001_1]) ?_ 1 _ rfl; (with_reducible repeat (first | refine blk_drewN ?_ _ | refine blk_drew ?_ | refine blk_alloc ?_ _)); refine blk_put (cs := #[.string x156000_1, .int .i64 x156001_1]) ?_ 0 _ rfl; (with_reducible repeat (first | refine blk_drewN ?_ _ | refine blk_drew ?_ | refine blk_alloc ?_ _)); refine blk_far ?_ NB155_157.out _; (with_reducible repeat (first | refine blk_drewN ?_ _ | refine blk_drew ?_ | refine blk_alloc ?_ _)); refine blk_far ?_ NB155_157.out _; (with_reducible repeat (first | refine blk_drewN ?_ _ | refine blk_drew ?_ | refine blk_alloc ?_ _)); exact BK155.out) Tryd.underlying29 rfl (by kernel_rfl)) rfl ?_
    exact ⟨by first | rfl | (simp <;> rfl) | (simp [*] <;> rfl), by repeat (first | (with_reducible first | exact HB.out | apply bA_ | apply bN_ | apply bD_ | refine bS_ ?_ GE154 | refine bS_ ?_ GE155 | refine bS_ ?_ GE157) | exact HB.out)⟩
   ·
    rw [if_neg c10] at H
    have c10b0 : (((rd_T29 l0_3 x11_1).f0).toList == a1.toList) = false := beq_eq_false_iff_ne.mpr c10
    have c10b1 : (((rd_T29 l0_3 x11_1).f0).toList != a1.toList) = true := bne_iff_ne.mpr c10
    have H' := Aside0.mk H
    clear H
    have p156 : 0 ≤ (x11_1 : Int) := of_decide_eq_true (by first | (with_reducible assumption) | assumption)
    have q156 : x11_1 < (l0_3.length : Int) := of_decide_eq_true (by first | (with_reducible assumption) | assumption)
    obtain ⟨ad156, e156, hx156_0, hx156_1⟩ := at_T29 HR0_3.out x11_1 p156 q156
    cases e156
    replace hx156_0 := cB_ HB hx156_0
    replace hx156_1 := cB_ HB hx156_1
    replace p156 := eq_true p156
    replace q156 := eq_true q156
    go_wp2_with (first | ((with_reducible refine gate_dst (N := 7) rfl ?_); refine box_event ?hg (N := 7) ?hd (cs := #[.string (⟨#[]⟩ : ByteArray), .int .i64 0]) (t := 29) ?hr ?_; (case hd => rfl); (case hg => rfl); (case hr => first | (go_simp; done) | (go_simp; rfl)); intro gb157 hg w17 hbox hb; have BK157 := Aside0.mk (hbox); have GW157 := Aside0.mk ((by rw [hg]; exact (bZ_ (by repeat (first | (with_reducible first | exact HB.out | apply bA_ | apply bN_ | apply bD_ | refine bS_ ?_ GE154 | refine bS_ ?_ GE155) | exact HB.out))) : w.heap.size ≤ gb157)); replace HB := Aside0.mk (below_step (by repeat (first | (with_reducible first | exact HB.out | apply bA_ | apply bN_ | apply bD_ | refine bS_ ?_ GE154 | refine bS_ ?_ GE155) | exact HB.out)) hb); have GE157 := GW157; have NB154_157 := Aside0.mk ((by rw [hg]; exact Nat.ne_of_lt (blk_lt (kbW BK154)) : gb154 ≠ gb157)); have NB157_154 := Aside0.mk ((by rw [hg]; exact Nat.ne_of_gt (blk_lt (kbW BK154)) : gb157 ≠ gb154)); replace BK154 := kB BK154 hb; have NB155_157 := Aside0.mk ((by rw [hg]; exact Nat.ne_of_lt (blk_lt (kbW BK155)) : gb155 ≠ gb157)); have NB157_155 := Aside0.mk ((by rw [hg]; exact Nat.ne_of_gt (blk_lt (kbW BK155)) : gb157 ≠ gb155)); replace BK155 := kB BK155 hb; clear hb hbox hg; have hnb18 := NB157_154.out; have hnc18 := NB154_157.out; have hnb19 := NB157_155.out; have hnc19 := NB155_157.out; obtain ⟨_, _, _, _⟩ := czf2 BK157))
    go_roundg k1
    case measure => have := HK1.out; omega
    case rel => exact ⟨(wrap64 (x11_1 + 1)), (x156000_1), (x156001_1), (by first | rfl | (simp; done) | (simp [bne, *]; done)), H', ⟨by have := HK1.out; omega⟩, ⟨by (with_reducible repeat (first | refine blk_drewN ?_ _ | refine blk_drew ?_ | refine blk_alloc ?_ _)); refine blk_far ?_ NB154_157.out _; (with_reducible repeat (first | refine blk_drewN ?_ _ | refine blk_drew ?_ | refine blk_alloc ?_ _)); refine blk_far ?_ NB154_157.out _; (with_reducible repeat (first | refine blk_drewN ?_ _ | refine blk_drew ?_ | refine blk_alloc ?_ _)); exact BK154.out⟩, ⟨by (with_reducible repeat (first | refine blk_drewN ?_ _ | refine blk_drew ?_ | refine blk_alloc ?_ _)); refine blk_far ?_ NB155_157.out _; (with_reducible repeat (first | refine blk_drewN ?_ _ | refine blk_drew ?_ | refine blk_alloc ?_ _)); refine blk_far ?_ NB155_157.out _; (with_reducible repeat (first | refine blk_drewN ?_ _ | refine blk_drew ?_ | refine blk_alloc ?_ _)); exact BK155.out⟩, ⟨by repeat (first | (with_reducible first | exact HB.out | apply bA_ | apply bN_ | apply bD_ | refine bS_ ?_ GE154 | refine bS_ ?_ GE155 | refine bS_ ?_ GE157) | exact HB.out)⟩⟩
end Go.Proofs.YtdagddhccdchoaaDoor.Q
