/- Lemmas for this claim's walk: no condition of their own. -/
import Derived.Test.YtabiekkebdocnaaZeSq
import Derived.Test.YtabiekkebdocnaaZeQx0
import Derived.Test.YtabiekkebdocnaaZeQx7
import Derived.Test.YtabiekkebdocnaaZeQx9
namespace Go.Proofs.Ytabiekkebdocnaa.Q
open Go.RowKit Go.Proofs.YtabiekkebdocnaaW.PrintWords Go.Proofs.YtabiekkebdocnaaW.PrintLast Go.Proofs.YtabiekkebdocnaaW.PrintMore
attribute [local go_sem] max2_int min2_int max_two min_two max_three min_three max_four min_four
set_option linter.unusedVariables false
set_option linter.unusedSimpArgs false
def api_Cell_43.l0 : Nat → List (S39) → List (S39) → Int → Int → Option ((List (S39)))
 | 0, _, _, _, _ => none
 | k + 1, x7, x11, x12, x13 => if x13 < x12 then (if 0 ≤ x13 then (if x13 < (x11.length : Int) then (if (x7.length : Int) > 0 then (if 0 ≤ (wrap64 ((x7.length : Int) - 1)) then (if (wrap64 ((x7.length : Int) - 1)) < (x7.length : Int) then ((cell_Norm_2.f ((rd_T39 x7 (wrap64 ((x7.length : Int) - 1))).f0.f0) ((rd_T39 x7 (wrap64 ((x7.length : Int) - 1))).f0.f1) ((rd_T39 x7 (wrap64 ((x7.length : Int) - 1))).f0.f2) ((rd_T39 x7 (wrap64 ((x7.length : Int) - 1))).f0.f3) ((rd_T39 x7 (wrap64 ((x7.length : Int) - 1))).f1.f0) ((rd_T39 x7 (wrap64 ((x7.length : Int) - 1))).f1.f1) ((rd_T39 x7 (wrap64 ((x7.length : Int) - 1))).f1.f2) ((rd_T39 x7 (wrap64 ((x7.length : Int) - 1))).f1.f3.f0) ((rd_T39 x7 (wrap64 ((x7.length : Int) - 1))).f1.f3.f1) ((rd_T39 x7 (wrap64 ((x7.length : Int) - 1))).f1.f3.f2) ((rd_T39 x11 x13).f0.f0) ((rd_T39 x11 x13).f0.f1) ((rd_T39 x11 x13).f0.f2) ((rd_T39 x11 x13).f0.f3) ((rd_T39 x11 x13).f1.f0) ((rd_T39 x11 x13).f1.f1) ((rd_T39 x11 x13).f1.f2) ((rd_T39 x11 x13).f1.f3.f0) ((rd_T39 x11 x13).f1.f3.f1) ((rd_T39 x11 x13).f1.f3.f2)).bind fun t190 => (if t190 = true then ((cell_Norm_3.f k ((rd_T39 x7 (wrap64 ((x7.length : Int) - 1))).f0.f0) ((rd_T39 x7 (wrap64 ((x7.length : Int) - 1))).f0.f1) ((rd_T39 x7 (wrap64 ((x7.length : Int) - 1))).f0.f2) ((rd_T39 x7 (wrap64 ((x7.length : Int) - 1))).f0.f3) ((rd_T39 x7 (wrap64 ((x7.length : Int) - 1))).f1.f0) ((rd_T39 x7 (wrap64 ((x7.length : Int) - 1))).f1.f1) ((rd_T39 x7 (wrap64 ((x7.length : Int) - 1))).f1.f2) ((rd_T39 x7 (wrap64 ((x7.length : Int) - 1))).f1.f3.f0) ((rd_T39 x7 (wrap64 ((x7.length : Int) - 1))).f1.f3.f1) ((rd_T39 x7 (wrap64 ((x7.length : Int) - 1))).f1.f3.f2) ((rd_T39 x11 x13).f0.f0) ((rd_T39 x11 x13).f0.f1) ((rd_T39 x11 x13).f0.f2) ((rd_T39 x11 x13).f0.f3) ((rd_T39 x11 x13).f1.f0) ((rd_T39 x11 x13).f1.f1) ((rd_T39 x11 x13).f1.f2) ((rd_T39 x11 x13).f1.f3.f0) ((rd_T39 x11 x13).f1.f3.f1) ((rd_T39 x11 x13).f1.f3.f2)).bind fun bt192 => (api_Cell_43.l0 k (x7.set ((wrap64 ((x7.length : Int) - 1)) : Int).toNat (⟨(⟨bt192.1, bt192.2.1, bt192.2.2.1, bt192.2.2.2.1⟩ : S33), (⟨bt192.2.2.2.2.1, bt192.2.2.2.2.2.1, bt192.2.2.2.2.2.2.1, (⟨bt192.2.2.2.2.2.2.2.1, bt192.2.2.2.2.2.2.2.2.1, bt192.2.2.2.2.2.2.2.2.2⟩ : S35)⟩ : S37)⟩ : S39)) x11 x12 (wrap64 (x13 + 1)))) else (if x7.length < 1256584717458 then (api_Cell_43.l0 k (x7 ++ [(⟨(⟨(rd_T39 x11 x13).f0.f0, (rd_T39 x11 x13).f0.f1, (rd_T39 x11 x13).f0.f2, (rd_T39 x11 x13).f0.f3⟩ : S33), (⟨(rd_T39 x11 x13).f1.f0, (rd_T39 x11 x13).f1.f1, (rd_T39 x11 x13).f1.f2, (⟨(rd_T39 x11 x13).f1.f3.f0, (rd_T39 x11 x13).f1.f3.f1, (rd_T39 x11 x13).f1.f3.f2⟩ : S35)⟩ : S37)⟩ : S39)]) x11 x12 (wrap64 (x13 + 1))) else (none)))) else (none)) else (none)) else (if x7.length < 1256584717458 then (api_Cell_43.l0 k (x7 ++ [(⟨(⟨(rd_T39 x11 x13).f0.f0, (rd_T39 x11 x13).f0.f1, (rd_T39 x11 x13).f0.f2, (rd_T39 x11 x13).f0.f3⟩ : S33), (⟨(rd_T39 x11 x13).f1.f0, (rd_T39 x11 x13).f1.f1, (rd_T39 x11 x13).f1.f2, (⟨(rd_T39 x11 x13).f1.f3.f0, (rd_T39 x11 x13).f1.f3.f1, (rd_T39 x11 x13).f1.f3.f2⟩ : S35)⟩ : S37)⟩ : S39)]) x11 x12 (wrap64 (x13 + 1))) else (none))) else (none)) else (none)) else (some x7)
def api_Cell_43.f (k : Nat) (l0 : List (S39))   : Option ((List (S39))) := api_Cell_43.l0 k ([] : List (S39)) l0 (l0.length : Int) 0
def api_Cell_43.T6 : Bool × List (List Nat × List Nat) := (true, [([], []), ([0], [0]), ([1], [1]), ([2], [2]), ([2], [2]), ([2], [2]), ([5, 2], [2, 5]), ([4, 6, 2], [2, 4, 6]), ([7, 2], [2, 7]), ([2], [2]), ([3, 8, 9, 2, 2], [2, 3, 8, 9]), ([2, 10], [2, 10])])
def api_Cell_43.B6 : List Nat := [0, 1, 3, 7, 7, 7, 39, 119, 247, 7, 1023, 2047]
theorem api_Cell_43.tab6 : rtab .any (opsOf Try.f43 6) = api_Cell_43.T6 := by kernel_rfl
theorem api_Cell_43.bits6 : waitsOk api_Cell_43.T6.2 api_Cell_43.B6 = true := by kernel_rfl
def api_Cell_43.T7 : Bool × List (List Nat × List Nat) := (true, [([], []), ([], []), ([1], [1]), ([], []), ([], []), ([], []), ([5], [5]), ([4, 6], [4, 6]), ([7], [7]), ([], []), ([3, 8, 9], [3, 8, 9]), ([0, 2, 0, 1, 2, 3, 4, 5, 6, 7, 8, 9, 10], [0, 2]), ([11, 10, 10, 0, 1, 2, 3, 4, 5, 6, 7, 8, 9, 10], [10, 11])])
def api_Cell_43.B7 : List Nat := [0, 0, 2, 0, 0, 0, 32, 112, 240, 0, 1016, 2047, 4095]
theorem api_Cell_43.tab7 : rtab .any (opsOf Try.f43 7) = api_Cell_43.T7 := by kernel_rfl
theorem api_Cell_43.bits7 : waitsOk api_Cell_43.T7.2 api_Cell_43.B7 = true := by kernel_rfl
set_option maxHeartbeats 8000000 in
set_option maxRecDepth 100000 in
theorem api_Cell_43.calls (k : Nat) (A0 : Option Addr) (c0 : Nat) (l0 : List (S39))   (r : List (S39)) (w : World) (hr0 : Kd.C k39 w A0 l0.length l0) (hc0 : l0.length ≤ c0) (h : api_Cell_43.f k l0 = some r) :
  Calls Try.prog 43 #[.slice A0 l0.length c0, .func (.func 44) #[] #[], .func (.func 45) #[] #[]] w fun e w' => ∃ v0_ : Value, e = .returned (v0_) ∧ Kd.R k39 39 w' w.heap.size (fun _ => True) v0_ r ∧ Below w.heap.size w w' := by
 have hu39 := Try.underlying39
 have HR0 := Aside0.mk hr0
 have HC0 := Aside0.mk hc0
 clear hr0 hc0
 have HB := Aside0.mk (Below.refl w.heap.size w)
 have H : (api_Cell_43.l0 k ([] : List (S39)) l0 (l0.length : Int) 0) = some r := h
 clear h
 have H' := Aside0.mk H
 clear H
 go_enter Try.func43, Try.ntmps43
 go_wp2
 go_loopg [7, 13] k (fun kq v7 v13 w' => ∃ (x7_1 : List (S39)) (x13_1 : Int), v13 = .int .i64 x13_1 ∧ Aside0 (api_Cell_43.l0 kq x7_1 l0 (l0.length : Int) x13_1 = some r) ∧ Aside0 (kq ≤ k) ∧ Aside0 (Kd.R k39 39 w' w.heap.size (fun _ => True) v7 x7_1) ∧ Aside0 (Below w.heap.size w w'))
 case atStart => exact ⟨(([] : List (S39))), (0), (by first | rfl | (simp; done) | (simp [bne, *]; done)), H', ⟨Nat.le_refl _⟩, ⟨by first | exact Kd.R_nil _ _ _ _ _ | exact Kd.N_nil _ _ _ _ _ | exact Kd.V_nil _ _ _ _ _ | exact Kd.Q_nil _ _ _ _ _ | exact Kd.S_nil _ _ _ _ _⟩, ⟨kwW HB⟩⟩
 case round =>
  clear H'
  try clear p2
  obtain ⟨x7_1, x13_1, rfl, HA, HK1, HO_7, HB⟩ := hrel
  cases gk with
  | zero => exact absurd HA.out (by simp [api_Cell_43.l0])
  | succ k1 =>
   have H := HA.out
   clear HA
   simp only [api_Cell_43.l0] at H
   by_cases c4 : x13_1 < (l0.length : Int)
   rotate_left
   ·
    rw [if_neg c4] at H
    have c4b0 : decide (x13_1 < (l0.length : Int)) = false := decide_eq_false c4
    clear c4
    obtain rfl := Option.some.inj H
    go_wp2
    go_ret
    exact ⟨_, by first | rfl | (simp <;> rfl) | (simp [*] <;> rfl), krW HO_7, kwW HB⟩
   rw [if_pos c4] at H
   have c4b0 : decide (x13_1 < (l0.length : Int)) = true := decide_eq_true c4
   clear c4
   by_cases c5 : 0 ≤ x13_1
   rotate_left
   ·
    rw [if_neg c5] at H
    exact absurd H (by simp)
   rw [if_pos c5] at H
   have c5b0 : decide (0 ≤ x13_1) = true := decide_eq_true c5
   clear c5
   by_cases c6 : x13_1 < (l0.length : Int)
   rotate_left
   ·
    rw [if_neg c6] at H
    exact absurd H (by simp)
   rw [if_pos c6] at H
   have c6b0 : decide (x13_1 < (l0.length : Int)) = true := decide_eq_true c6
   clear c6
   by_cases c7 : (x7_1.length : Int) > 0
   rotate_left
   ·
    rw [if_neg c7] at H
    have c7b0 : decide (0 < (x7_1.length : Int)) = false := decide_eq_false c7
    have c7b1 : decide (0 < x7_1.length) = false := decide_eq_false (by omega)
    clear c7
    by_cases c33 : x7_1.length < 1256584717458
    rotate_left
    ·
     rw [if_neg c33] at H
     exact absurd H (by simp)
    rw [if_pos c33] at H
    have LMc33 := Aside0.mk c33
    clear c33
    obtain ⟨y206, hy206⟩ : ∃ y_ : List (S39), y_ = (x7_1 ++ [(⟨(⟨(rd_T39 l0 x13_1).f0.f0, (rd_T39 l0 x13_1).f0.f1, (rd_T39 l0 x13_1).f0.f2, (rd_T39 l0 x13_1).f0.f3⟩ : S33), (⟨(rd_T39 l0 x13_1).f1.f0, (rd_T39 l0 x13_1).f1.f1, (rd_T39 l0 x13_1).f1.f2, (⟨(rd_T39 l0 x13_1).f1.f3.f0, (rd_T39 l0 x13_1).f1.f3.f1, (rd_T39 l0 x13_1).f1.f3.f2⟩ : S35)⟩ : S37)⟩ : S39)]) := ⟨_, rfl⟩
    replace H : (api_Cell_43.l0 k1 y206 l0 (l0.length : Int) (wrap64 (x13_1 + 1))) = some r := by first | (rw [hy206]; with_reducible exact H) | (have H2_ := (Option.bind_some _ _).symm.trans H; rw [hy206]; with_reducible exact H2_) | (have H2_ := (Option.bind_some _ _).symm.trans H; with_reducible exact H2_) | with_reducible exact H | (rw [hy206]; exact H) | exact H
    have Ny206 := Aside0.mk hy206
    clear hy206
    have H' := Aside0.mk H
    clear H
    have p187 : 0 ≤ (x13_1 : Int) := of_decide_eq_true (by first | (with_reducible assumption) | assumption)
    have q187 : x13_1 < (l0.length : Int) := of_decide_eq_true (by first | (with_reducible assumption) | assumption)
    obtain ⟨ad187, e187, hx187_0, hx187_1, hx187_2, hx187_3, hx187_4, hx187_5, hx187_6, hx187_7, hx187_8, hx187_9⟩ := at_T39 HR0.out x13_1 p187 q187
    cases e187
    replace hx187_0 := cB_ HB hx187_0
    replace hx187_1 := cB_ HB hx187_1
    replace hx187_2 := cB_ HB hx187_2
    replace hx187_3 := cB_ HB hx187_3
    replace hx187_4 := cB_ HB hx187_4
    replace hx187_5 := cB_ HB hx187_5
    replace hx187_6 := cB_ HB hx187_6
    replace hx187_7 := cB_ HB hx187_7
    replace hx187_8 := cB_ HB hx187_8
    replace hx187_9 := cB_ HB hx187_9
    replace p187 := eq_true p187
    replace q187 := eq_true q187
    try go_wp2_with (first | ((with_reducible refine gate_dst (N := 9) rfl ?_); refine box_event ?hg (N := 9) ?hd (cs := #[.string (⟨#[]⟩ : ByteArray), .string (⟨#[]⟩ : ByteArray), .int .i64 0, .string (⟨#[]⟩ : ByteArray), .int .i64 0, .bool false, .int .i64 0, .int .i64 0, .int .i64 0, .string (⟨#[]⟩ : ByteArray)]) (t := 39) ?hr ?_; (case hd => rfl); (case hg => rfl); (case hr => first | (go_simp; done) | (go_simp; rfl)); intro gb188 hg w34 hbox hb; replace HO_7 := Aside0.mk (Kd.R_below (Kd.R_elderB (krW HO_7) gb188 (Nat.le_of_eq hg.symm)) hb); have BK188 := Aside0.mk (hbox); have GW188 := Aside0.mk ((by rw [hg]; exact (bZ_ (kwW HB)) : w.heap.size ≤ gb188)); replace HB := Aside0.mk (below_step (kwW HB) hb); have GE188 := GW188; clear hb hbox hg; obtain ⟨_, _, _, _, _, _, _, _, _, _, _, _, _, _, _, _, _, _, _, _⟩ := czf10 BK188; obtain ⟨Ao36, co36, eo36⟩ := Kd.R_slice HO_7.out; subst eo36))
    have n0_ : Aside0 (Kd.R k39 39 ((((((((((w34.setCell ⟨gb188, 0, none⟩ (.string ((rd_T39 l0 x13_1).f0.f0))).setCell ⟨gb188, 1, none⟩ (.string ((rd_T39 l0 x13_1).f0.f1))).setCell ⟨gb188, 2, none⟩ (.int .i64 ((rd_T39 l0 x13_1).f0.f2))).setCell ⟨gb188, 3, none⟩ (.string ((rd_T39 l0 x13_1).f0.f3))).setCell ⟨gb188, 4, none⟩ (.int .i64 ((rd_T39 l0 x13_1).f1.f0))).setCell ⟨gb188, 5, none⟩ (.bool ((rd_T39 l0 x13_1).f1.f1))).setCell ⟨gb188, 6, none⟩ (.int .i64 ((rd_T39 l0 x13_1).f1.f2))).setCell ⟨gb188, 7, none⟩ (.int .i64 ((rd_T39 l0 x13_1).f1.f3.f0))).setCell ⟨gb188, 8, none⟩ (.int .i64 ((rd_T39 l0 x13_1).f1.f3.f1))).setCell ⟨gb188, 9, none⟩ (.string ((rd_T39 l0 x13_1).f1.f3.f2))) w.heap.size (fun k_ => k_ ≠ gb188) (.slice Ao36 x7_1.length co36) x7_1) := ⟨by (with_reducible repeat (first | apply Kd.R_alloc | apply Kd.R_drewN | apply Kd.R_drew)); exact Kd.R_mono (rf10 (Kd.R_mono HO_7.out (fun k_ hk => (⟨hk, hk.2⟩ : _ ∧ k_ ≠ gb188))) (fun _ hk => hk.2)) (fun _ hk => hk.1.2)⟩
    have n1_ : Aside0 (((((((((((w34.setCell ⟨gb188, 0, none⟩ (.string ((rd_T39 l0 x13_1).f0.f0))).setCell ⟨gb188, 1, none⟩ (.string ((rd_T39 l0 x13_1).f0.f1))).setCell ⟨gb188, 2, none⟩ (.int .i64 ((rd_T39 l0 x13_1).f0.f2))).setCell ⟨gb188, 3, none⟩ (.string ((rd_T39 l0 x13_1).f0.f3))).setCell ⟨gb188, 4, none⟩ (.int .i64 ((rd_T39 l0 x13_1).f1.f0))).setCell ⟨gb188, 5, none⟩ (.bool ((rd_T39 l0 x13_1).f1.f1))).setCell ⟨gb188, 6, none⟩ (.int .i64 ((rd_T39 l0 x13_1).f1.f2))).setCell ⟨gb188, 7, none⟩ (.int .i64 ((rd_T39 l0 x13_1).f1.f3.f0))).setCell ⟨gb188, 8, none⟩ (.int .i64 ((rd_T39 l0 x13_1).f1.f3.f1))).setCell ⟨gb188, 9, none⟩ (.string ((rd_T39 l0 x13_1).f1.f3.f2))).heap[gb188]? = some (.cells #[.string ((rd_T39 l0 x13_1).f0.f0), .string ((rd_T39 l0 x13_1).f0.f1), .int .i64 ((rd_T39 l0 x13_1).f0.f2), .string ((rd_T39 l0 x13_1).f0.f3), .int .i64 ((rd_T39 l0 x13_1).f1.f0), .bool ((rd_T39 l0 x13_1).f1.f1), .int .i64 ((rd_T39 l0 x13_1).f1.f2), .int .i64 ((rd_T39 l0 x13_1).f1.f3.f0), .int .i64 ((rd_T39 l0 x13_1).f1.f3.f1), .string ((rd_T39 l0 x13_1).f1.f3.f2)] 39 (0, 0))) := ⟨by (with_reducible repeat (first | refine blk_drewN ?_ _ | refine blk_drew ?_ | refine blk_alloc ?_ _)); exact bp10 (kbW BK188)⟩
    have n2_ : Aside0 (Below w.heap.size w ((((((((((w34.setCell ⟨gb188, 0, none⟩ (.string ((rd_T39 l0 x13_1).f0.f0))).setCell ⟨gb188, 1, none⟩ (.string ((rd_T39 l0 x13_1).f0.f1))).setCell ⟨gb188, 2, none⟩ (.int .i64 ((rd_T39 l0 x13_1).f0.f2))).setCell ⟨gb188, 3, none⟩ (.string ((rd_T39 l0 x13_1).f0.f3))).setCell ⟨gb188, 4, none⟩ (.int .i64 ((rd_T39 l0 x13_1).f1.f0))).setCell ⟨gb188, 5, none⟩ (.bool ((rd_T39 l0 x13_1).f1.f1))).setCell ⟨gb188, 6, none⟩ (.int .i64 ((rd_T39 l0 x13_1).f1.f2))).setCell ⟨gb188, 7, none⟩ (.int .i64 ((rd_T39 l0 x13_1).f1.f3.f0))).setCell ⟨gb188, 8, none⟩ (.int .i64 ((rd_T39 l0 x13_1).f1.f3.f1))).setCell ⟨gb188, 9, none⟩ (.string ((rd_T39 l0 x13_1).f1.f3.f2)))) := ⟨by repeat (first | (with_reducible first | exact HB.out | apply bA_ | apply bN_ | apply bD_ | refine bS_ ?_ GE188) | exact HB.out)⟩
    (try clear HO_7)
    (try clear BK188)
    (try clear HB)
    generalize ((((((((((w34.setCell ⟨gb188, 0, none⟩ (.string ((rd_T39 l0 x13_1).f0.f0))).setCell ⟨gb188, 1, none⟩ (.string ((rd_T39 l0 x13_1).f0.f1))).setCell ⟨gb188, 2, none⟩ (.int .i64 ((rd_T39 l0 x13_1).f0.f2))).setCell ⟨gb188, 3, none⟩ (.string ((rd_T39 l0 x13_1).f0.f3))).setCell ⟨gb188, 4, none⟩ (.int .i64 ((rd_T39 l0 x13_1).f1.f0))).setCell ⟨gb188, 5, none⟩ (.bool ((rd_T39 l0 x13_1).f1.f1))).setCell ⟨gb188, 6, none⟩ (.int .i64 ((rd_T39 l0 x13_1).f1.f2))).setCell ⟨gb188, 7, none⟩ (.int .i64 ((rd_T39 l0 x13_1).f1.f3.f0))).setCell ⟨gb188, 8, none⟩ (.int .i64 ((rd_T39 l0 x13_1).f1.f3.f1))).setCell ⟨gb188, 9, none⟩ (.string ((rd_T39 l0 x13_1).f1.f3.f2))) = w37 at n0_ n1_ n2_ ⊢
    have HO_7 := n0_
    have BK188 := n1_
    have HB := n2_
    clear n0_ n1_ n2_
    replace HO_7 := Aside0.mk (Kd.R_drew HO_7.out)
    replace BK188 := Aside0.mk (blk_drew BK188.out)
    replace HB := Aside0.mk (below_drew1 HB.out)
    refine start_ (n := 12) (S := fun w' => True) (ds := []) (tf_ 0 12) (by kernel_rfl) rfl rfl trivial (fun hHeld => ?_); refine with_tabW api_Cell_43.tab6 api_Cell_43.bits6 (fun HT_ HW_ => ?_)
    generalize w37.drew = w38 at HO_7 BK188 HB hHeld ⊢
    refine pure_ (i := 0) (N := some 19) (v := ?_) (a' := ?_) (tf_ 1 11) rfl rfl (any_of HT_.out (by kernel_rfl)) (fun _ _ _ h => h) (Or.inl ⟨by rfl, ?_⟩) ?_ ?_
    rotate_left; · (intro w'; go_simp; with_reducible rfl)
    rotate_left; · (simp only [Act.put, sT_, sO_, sN_, i64_w, i32_w]; rfl)
    refine pure_ (i := 1) (N := some 20) (v := ?_) (a' := ?_) (tf_ 2 10) rfl rfl (any_of HT_.out (by kernel_rfl)) (fun _ _ _ h => h) (Or.inl ⟨by rfl, ?_⟩) ?_ ?_
    rotate_left; · (intro w'; go_simp; with_reducible rfl)
    rotate_left; · (simp only [Act.put, sT_, sO_, sN_, i64_w, i32_w]; rfl)
    refine pure_ (i := 2) (N := some 21) (v := ?_) (a' := ?_) (tf_ 3 9) rfl rfl (any_of HT_.out (by kernel_rfl)) (fun _ _ _ h => h) (Or.inl ⟨by rfl, ?_⟩) ?_ ?_
    rotate_left; · (intro w'; go_simp; with_reducible rfl)
    rotate_left; · (simp only [Act.put, sT_, sO_, sN_, i64_w, i32_w]; rfl)
    refine pure_ (i := 3) (N := some 22) (v := undef) (a' := ?_) (tf_ 4 8) rfl rfl (any_of HT_.out (by kernel_rfl)) (fun _ _ _ h => h) (Or.inr ⟨by rfl, rfl⟩) ?_ ?_
    rotate_left
    ·
     simp only [Act.put, sT_, sO_, sN_, i64_w, i32_w]
     rfl
    refine pure_ (i := 4) (N := some 23) (v := undef) (a' := ?_) (tf_ 5 7) rfl rfl (any_of HT_.out (by kernel_rfl)) (fun _ _ _ h => h) (Or.inr ⟨by rfl, rfl⟩) ?_ ?_
    rotate_left
    ·
     simp only [Act.put, sT_, sO_, sN_, i64_w, i32_w]
     rfl
    refine pure_ (i := 5) (N := some 24) (v := undef) (a' := ?_) (tf_ 6 6) rfl rfl (any_of HT_.out (by kernel_rfl)) (fun _ _ _ h => h) (Or.inr ⟨by rfl, rfl⟩) ?_ ?_
    rotate_left
    ·
     simp only [Act.put, sT_, sO_, sN_, i64_w, i32_w]
     rfl
    refine pure_ (i := 6) (N := some 25) (v := undef) (a' := ?_) (tf_ 7 5) rfl rfl (any_of HT_.out (by kernel_rfl)) (fun _ _ _ h => h) (Or.inr ⟨by rfl, rfl⟩) ?_ ?_
    rotate_left
    ·
     simp only [Act.put, sT_, sO_, sN_, i64_w, i32_w]
     rfl
    refine pure_ (i := 7) (N := some 26) (v := undef) (a' := ?_) (tf_ 8 4) rfl rfl (any_of HT_.out (by kernel_rfl)) (fun _ _ _ h => h) (Or.inr ⟨by rfl, rfl⟩) ?_ ?_
    rotate_left
    ·
     simp only [Act.put, sT_, sO_, sN_, i64_w, i32_w]
     rfl
    refine pure_ (i := 8) (N := some 27) (v := undef) (a' := ?_) (tf_ 9 3) rfl rfl (any_of HT_.out (by kernel_rfl)) (fun _ _ _ h => h) (Or.inr ⟨by rfl, rfl⟩) ?_ ?_
    rotate_left
    ·
     simp only [Act.put, sT_, sO_, sN_, i64_w, i32_w]
     rfl
    refine pure_ (i := 9) (N := some 28) (v := undef) (a' := ?_) (tf_ 10 2) rfl rfl (any_of HT_.out (by kernel_rfl)) (fun _ _ _ h => h) (Or.inr ⟨by rfl, rfl⟩) ?_ ?_
    rotate_left
    ·
     simp only [Act.put, sT_, sO_, sN_, i64_w, i32_w]
     rfl
    refine pure_ (i := 10) (N := some 29) (v := undef) (a' := ?_) (tf_ 11 1) rfl rfl (any_of HT_.out (by kernel_rfl)) (fun _ _ _ h => h) (Or.inr ⟨by rfl, rfl⟩) ?_ ?_
    rotate_left
    ·
     simp only [Act.put, sT_, sO_, sN_, i64_w, i32_w]
     rfl
    refine pure_ (i := 11) (N := some 30) (v := ?_) (a' := ?_) (tf_ 12 0) rfl rfl (any_of HT_.out (by kernel_rfl)) (fun _ _ _ h => h) (Or.inl ⟨by rfl, ?_⟩) ?_ ?_
    rotate_left; · (intro w'; go_simp; with_reducible rfl)
    rotate_left; · (simp only [Act.put, sT_, sO_, sN_, i64_w, i32_w]; rfl)
    refine done_ (done_of HT_.out (by kernel_rfl)) ?_
    obtain ⟨_, _, _, _, _, _, _, _, _, _, _, _, _, _, _, _, _, _, _, _⟩ := czf10 BK188
    try go_wp2_with (first | ((with_reducible refine gate_builtin (b := .append) (xs := #[.tmp 43, .tmp 45]) rfl ?_); at_builtin; refine Kd.R_append k39 (w0 := w) w.heap.size rfl (.tmp 43) (.tmp 45) 25 39 (.agg #[(.string ⟨#[]⟩), (.string ⟨#[]⟩), (.int .i64 0), (.string ⟨#[]⟩), (.int .i64 0), (.bool false), (.int .i64 0), (.int .i64 0), (.int .i64 0), (.string ⟨#[]⟩)]) 112 rfl Try.underlying25 info39 rfl (by decide) (by omega) (.slice Ao36 x7_1.length co36) x7_1 (⟨(⟨(rd_T39 l0 x13_1).f0.f0, (rd_T39 l0 x13_1).f0.f1, (rd_T39 l0 x13_1).f0.f2, (rd_T39 l0 x13_1).f0.f3⟩ : S33), (⟨(rd_T39 l0 x13_1).f1.f0, (rd_T39 l0 x13_1).f1.f1, (rd_T39 l0 x13_1).f1.f2, (⟨(rd_T39 l0 x13_1).f1.f3.f0, (rd_T39 l0 x13_1).f1.f3.f1, (rd_T39 l0 x13_1).f1.f3.f2⟩ : S35)⟩ : S37)⟩ : S39) [.string ((rd_T39 l0 x13_1).f0.f0), .string ((rd_T39 l0 x13_1).f0.f1), .int .i64 ((rd_T39 l0 x13_1).f0.f2), .string ((rd_T39 l0 x13_1).f0.f3), .int .i64 ((rd_T39 l0 x13_1).f1.f0), .bool ((rd_T39 l0 x13_1).f1.f1), .int .i64 ((rd_T39 l0 x13_1).f1.f2), .int .i64 ((rd_T39 l0 x13_1).f1.f3.f0), .int .i64 ((rd_T39 l0 x13_1).f1.f3.f1), .string ((rd_T39 l0 x13_1).f1.f3.f2)] (fun k_ => k_ ≠ gb188) (fun _ => False) rfl rfl ?aP (fun _ hk => hk.elim) ?aF ?aO ?aB ?aS ?aL ?_; (case aP => exact k39_mkM _ _ _ (⟨(⟨(rd_T39 l0 x13_1).f0.f0, (rd_T39 l0 x13_1).f0.f1, (rd_T39 l0 x13_1).f0.f2, (rd_T39 l0 x13_1).f0.f3⟩ : S33), (⟨(rd_T39 l0 x13_1).f1.f0, (rd_T39 l0 x13_1).f1.f1, (rd_T39 l0 x13_1).f1.f2, (⟨(rd_T39 l0 x13_1).f1.f3.f0, (rd_T39 l0 x13_1).f1.f3.f1, (rd_T39 l0 x13_1).f1.f3.f2⟩ : S35)⟩ : S37)⟩ : S39)); (case aB => exact (by repeat (first | (with_reducible first | exact HB.out | apply bA_ | apply bN_ | apply bD_ | refine bS_ ?_ GE188) | exact HB.out))); (case aF => exact (fun k_ hk => Kd.freshB (kbW BK188) k_ hk)); (case aO => exact (krW HO_7)); (case aS => exact (bZ_ (by repeat (first | (with_reducible first | exact HB.out | apply bA_ | apply bN_ | apply bD_ | refine bS_ ?_ GE188) | exact HB.out)))); (case aL => have := LMc33.out; omega); intro v207 w40 ho hb hg hat; rw [← Ny206.out] at ho; replace BK188 := Aside0.mk (blk_grown (kbW BK188) hg (Kd.R_away HO_7.out (fun _ hk => hk))); replace HB := Aside0.mk (hb); have HO208 := Aside0.mk (ho); clear HO_7; clear ho hb hg hat))
    go_roundg k1
    case measure => have := HK1.out; omega
    case rel => exact ⟨(y206), (wrap64 (x13_1 + 1)), (by first | rfl | (simp; done) | (simp [bne, *]; done)), H', ⟨by have := HK1.out; omega⟩, ⟨by (with_reducible repeat (first | apply Kd.R_alloc | apply Kd.R_drewN | apply Kd.R_drew)); exact Kd.R_mono HO208.out (fun _ hk => trivial)⟩, ⟨by repeat (first | (with_reducible first | exact HB.out | apply bA_ | apply bN_ | apply bD_ | refine bS_ ?_ GE188) | exact HB.out)⟩⟩
   rw [if_pos c7] at H
   have c7b0 : decide (0 < (x7_1.length : Int)) = true := decide_eq_true c7
   have c7b1 : decide (0 < x7_1.length) = true := decide_eq_true (by omega)
   clear c7
   obtain ⟨ji8, hji8⟩ : ∃ j_ : Int, (wrap64 ((x7_1.length : Int) - 1)) = j_ := ⟨_, rfl⟩
   replace H : (if 0 ≤ (ji8) then (if (ji8) < (x7_1.length : Int) then ((cell_Norm_2.f ((rd_T39 x7_1 (ji8)).f0.f0) ((rd_T39 x7_1 (ji8)).f0.f1) ((rd_T39 x7_1 (ji8)).f0.f2) ((rd_T39 x7_1 (ji8)).f0.f3) ((rd_T39 x7_1 (ji8)).f1.f0) ((rd_T39 x7_1 (ji8)).f1.f1) ((rd_T39 x7_1 (ji8)).f1.f2) ((rd_T39 x7_1 (ji8)).f1.f3.f0) ((rd_T39 x7_1 (ji8)).f1.f3.f1) ((rd_T39 x7_1 (ji8)).f1.f3.f2) ((rd_T39 l0 x13_1).f0.f0) ((rd_T39 l0 x13_1).f0.f1) ((rd_T39 l0 x13_1).f0.f2) ((rd_T39 l0 x13_1).f0.f3) ((rd_T39 l0 x13_1).f1.f0) ((rd_T39 l0 x13_1).f1.f1) ((rd_T39 l0 x13_1).f1.f2) ((rd_T39 l0 x13_1).f1.f3.f0) ((rd_T39 l0 x13_1).f1.f3.f1) ((rd_T39 l0 x13_1).f1.f3.f2)).bind fun t190 => (if t190 = true then ((cell_Norm_3.f k1 ((rd_T39 x7_1 (ji8)).f0.f0) ((rd_T39 x7_1 (ji8)).f0.f1) ((rd_T39 x7_1 (ji8)).f0.f2) ((rd_T39 x7_1 (ji8)).f0.f3) ((rd_T39 x7_1 (ji8)).f1.f0) ((rd_T39 x7_1 (ji8)).f1.f1) ((rd_T39 x7_1 (ji8)).f1.f2) ((rd_T39 x7_1 (ji8)).f1.f3.f0) ((rd_T39 x7_1 (ji8)).f1.f3.f1) ((rd_T39 x7_1 (ji8)).f1.f3.f2) ((rd_T39 l0 x13_1).f0.f0) ((rd_T39 l0 x13_1).f0.f1) ((rd_T39 l0 x13_1).f0.f2) ((rd_T39 l0 x13_1).f0.f3) ((rd_T39 l0 x13_1).f1.f0) ((rd_T39 l0 x13_1).f1.f1) ((rd_T39 l0 x13_1).f1.f2) ((rd_T39 l0 x13_1).f1.f3.f0) ((rd_T39 l0 x13_1).f1.f3.f1) ((rd_T39 l0 x13_1).f1.f3.f2)).bind fun bt192 => (api_Cell_43.l0 k1 (x7_1.set ((ji8) : Int).toNat (⟨(⟨bt192.1, bt192.2.1, bt192.2.2.1, bt192.2.2.2.1⟩ : S33), (⟨bt192.2.2.2.2.1, bt192.2.2.2.2.2.1, bt192.2.2.2.2.2.2.1, (⟨bt192.2.2.2.2.2.2.2.1, bt192.2.2.2.2.2.2.2.2.1, bt192.2.2.2.2.2.2.2.2.2⟩ : S35)⟩ : S37)⟩ : S39)) l0 (l0.length : Int) (wrap64 (x13_1 + 1)))) else (if x7_1.length < 1256584717458 then (api_Cell_43.l0 k1 (x7_1 ++ [(⟨(⟨(rd_T39 l0 x13_1).f0.f0, (rd_T39 l0 x13_1).f0.f1, (rd_T39 l0 x13_1).f0.f2, (rd_T39 l0 x13_1).f0.f3⟩ : S33), (⟨(rd_T39 l0 x13_1).f1.f0, (rd_T39 l0 x13_1).f1.f1, (rd_T39 l0 x13_1).f1.f2, (⟨(rd_T39 l0 x13_1).f1.f3.f0, (rd_T39 l0 x13_1).f1.f3.f1, (rd_T39 l0 x13_1).f1.f3.f2⟩ : S35)⟩ : S37)⟩ : S39)]) l0 (l0.length : Int) (wrap64 (x13_1 + 1))) else (none)))) else (none)) else (none)) = some r := by first | (rw [hji8] at H; exact H) | (simp only [hji8] at H ⊢; exact H)
   have hji8w : (IntKind.i64.wrap ((x7_1.length : Int) - 1)) = ji8 := (i64_w _).trans hji8
   by_cases c9 : 0 ≤ (ji8)
   rotate_left
   ·
    rw [if_neg c9] at H
    exact absurd H (by simp)
   rw [if_pos c9] at H
   have c9b0 : decide (0 ≤ (ji8)) = true := decide_eq_true c9
   clear c9
   by_cases c10 : (ji8) < (x7_1.length : Int)
   rotate_left
   ·
    rw [if_neg c10] at H
    exact absurd H (by simp)
   rw [if_pos c10] at H
   have c10b0 : decide ((ji8) < (x7_1.length : Int)) = true := decide_eq_true c10
   clear c10
   replace H := Option.bind_eq_some_iff.mp H
   obtain ⟨t190, A110, H⟩ := H
   have A11 := Aside0.mk A110
   clear A110
   by_cases c12 : t190 = true
   rotate_left
   ·
    replace c12 := Bool.eq_false_iff.mpr c12
    subst c12
    have H1 : (if x7_1.length < 1256584717458 then (api_Cell_43.l0 k1 (x7_1 ++ [(⟨(⟨(rd_T39 l0 x13_1).f0.f0, (rd_T39 l0 x13_1).f0.f1, (rd_T39 l0 x13_1).f0.f2, (rd_T39 l0 x13_1).f0.f3⟩ : S33), (⟨(rd_T39 l0 x13_1).f1.f0, (rd_T39 l0 x13_1).f1.f1, (rd_T39 l0 x13_1).f1.f2, (⟨(rd_T39 l0 x13_1).f1.f3.f0, (rd_T39 l0 x13_1).f1.f3.f1, (rd_T39 l0 x13_1).f1.f3.f2⟩ : S35)⟩ : S37)⟩ : S39)]) l0 (l0.length : Int) (wrap64 (x13_1 + 1))) else (none)) = some r := by rw [if_neg (show ¬ (false = true) by decide)] at H; exact H
    clear H
    have H := H1
    clear H1
    by_cases c24 : x7_1.length < 1256584717458
    rotate_left
    ·
     rw [if_neg c24] at H
     exact absurd H (by simp)
    rw [if_pos c24] at H
    have LMc24 := Aside0.mk c24
    clear c24
    obtain ⟨y203, hy203⟩ : ∃ y_ : List (S39), y_ = (x7_1 ++ [(⟨(⟨(rd_T39 l0 x13_1).f0.f0, (rd_T39 l0 x13_1).f0.f1, (rd_T39 l0 x13_1).f0.f2, (rd_T39 l0 x13_1).f0.f3⟩ : S33), (⟨(rd_T39 l0 x13_1).f1.f0, (rd_T39 l0 x13_1).f1.f1, (rd_T39 l0 x13_1).f1.f2, (⟨(rd_T39 l0 x13_1).f1.f3.f0, (rd_T39 l0 x13_1).f1.f3.f1, (rd_T39 l0 x13_1).f1.f3.f2⟩ : S35)⟩ : S37)⟩ : S39)]) := ⟨_, rfl⟩
    replace H : (api_Cell_43.l0 k1 y203 l0 (l0.length : Int) (wrap64 (x13_1 + 1))) = some r := by first | (rw [hy203]; with_reducible exact H) | (have H2_ := (Option.bind_some _ _).symm.trans H; rw [hy203]; with_reducible exact H2_) | (have H2_ := (Option.bind_some _ _).symm.trans H; with_reducible exact H2_) | with_reducible exact H | (rw [hy203]; exact H) | exact H
    have Ny203 := Aside0.mk hy203
    clear hy203
    have H' := Aside0.mk H
    clear H
    have p187 : 0 ≤ (x13_1 : Int) := of_decide_eq_true (by first | (with_reducible assumption) | assumption)
    have q187 : x13_1 < (l0.length : Int) := of_decide_eq_true (by first | (with_reducible assumption) | assumption)
    obtain ⟨ad187, e187, hx187_0, hx187_1, hx187_2, hx187_3, hx187_4, hx187_5, hx187_6, hx187_7, hx187_8, hx187_9⟩ := at_T39 HR0.out x13_1 p187 q187
    cases e187
    replace hx187_0 := cB_ HB hx187_0
    replace hx187_1 := cB_ HB hx187_1
    replace hx187_2 := cB_ HB hx187_2
    replace hx187_3 := cB_ HB hx187_3
    replace hx187_4 := cB_ HB hx187_4
    replace hx187_5 := cB_ HB hx187_5
    replace hx187_6 := cB_ HB hx187_6
    replace hx187_7 := cB_ HB hx187_7
    replace hx187_8 := cB_ HB hx187_8
    replace hx187_9 := cB_ HB hx187_9
    replace p187 := eq_true p187
    replace q187 := eq_true q187
    try go_wp2_with (first | ((with_reducible refine gate_dst (N := 9) rfl ?_); refine box_event ?hg (N := 9) ?hd (cs := #[.string (⟨#[]⟩ : ByteArray), .string (⟨#[]⟩ : ByteArray), .int .i64 0, .string (⟨#[]⟩ : ByteArray), .int .i64 0, .bool false, .int .i64 0, .int .i64 0, .int .i64 0, .string (⟨#[]⟩ : ByteArray)]) (t := 39) ?hr ?_; (case hd => rfl); (case hg => rfl); (case hr => first | (go_simp; done) | (go_simp; rfl)); intro gb188 hg w25 hbox hb; replace HO_7 := Aside0.mk (Kd.R_below (Kd.R_elderB (krW HO_7) gb188 (Nat.le_of_eq hg.symm)) hb); have BK188 := Aside0.mk (hbox); have GW188 := Aside0.mk ((by rw [hg]; exact (bZ_ (kwW HB)) : w.heap.size ≤ gb188)); replace HB := Aside0.mk (below_step (kwW HB) hb); have GE188 := GW188; clear hb hbox hg; obtain ⟨_, _, _, _, _, _, _, _, _, _, _, _, _, _, _, _, _, _, _, _⟩ := czf10 BK188; obtain ⟨Ao27, co27, eo27⟩ := Kd.R_slice HO_7.out; subst eo27))
    have n0_ : Aside0 (Kd.R k39 39 ((((((((((w25.setCell ⟨gb188, 0, none⟩ (.string ((rd_T39 l0 x13_1).f0.f0))).setCell ⟨gb188, 1, none⟩ (.string ((rd_T39 l0 x13_1).f0.f1))).setCell ⟨gb188, 2, none⟩ (.int .i64 ((rd_T39 l0 x13_1).f0.f2))).setCell ⟨gb188, 3, none⟩ (.string ((rd_T39 l0 x13_1).f0.f3))).setCell ⟨gb188, 4, none⟩ (.int .i64 ((rd_T39 l0 x13_1).f1.f0))).setCell ⟨gb188, 5, none⟩ (.bool ((rd_T39 l0 x13_1).f1.f1))).setCell ⟨gb188, 6, none⟩ (.int .i64 ((rd_T39 l0 x13_1).f1.f2))).setCell ⟨gb188, 7, none⟩ (.int .i64 ((rd_T39 l0 x13_1).f1.f3.f0))).setCell ⟨gb188, 8, none⟩ (.int .i64 ((rd_T39 l0 x13_1).f1.f3.f1))).setCell ⟨gb188, 9, none⟩ (.string ((rd_T39 l0 x13_1).f1.f3.f2))) w.heap.size (fun k_ => k_ ≠ gb188) (.slice Ao27 x7_1.length co27) x7_1) := ⟨by (with_reducible repeat (first | apply Kd.R_alloc | apply Kd.R_drewN | apply Kd.R_drew)); exact Kd.R_mono (rf10 (Kd.R_mono HO_7.out (fun k_ hk => (⟨hk, hk.2⟩ : _ ∧ k_ ≠ gb188))) (fun _ hk => hk.2)) (fun _ hk => hk.1.2)⟩
    have n1_ : Aside0 (((((((((((w25.setCell ⟨gb188, 0, none⟩ (.string ((rd_T39 l0 x13_1).f0.f0))).setCell ⟨gb188, 1, none⟩ (.string ((rd_T39 l0 x13_1).f0.f1))).setCell ⟨gb188, 2, none⟩ (.int .i64 ((rd_T39 l0 x13_1).f0.f2))).setCell ⟨gb188, 3, none⟩ (.string ((rd_T39 l0 x13_1).f0.f3))).setCell ⟨gb188, 4, none⟩ (.int .i64 ((rd_T39 l0 x13_1).f1.f0))).setCell ⟨gb188, 5, none⟩ (.bool ((rd_T39 l0 x13_1).f1.f1))).setCell ⟨gb188, 6, none⟩ (.int .i64 ((rd_T39 l0 x13_1).f1.f2))).setCell ⟨gb188, 7, none⟩ (.int .i64 ((rd_T39 l0 x13_1).f1.f3.f0))).setCell ⟨gb188, 8, none⟩ (.int .i64 ((rd_T39 l0 x13_1).f1.f3.f1))).setCell ⟨gb188, 9, none⟩ (.string ((rd_T39 l0 x13_1).f1.f3.f2))).heap[gb188]? = some (.cells #[.string ((rd_T39 l0 x13_1).f0.f0), .string ((rd_T39 l0 x13_1).f0.f1), .int .i64 ((rd_T39 l0 x13_1).f0.f2), .string ((rd_T39 l0 x13_1).f0.f3), .int .i64 ((rd_T39 l0 x13_1).f1.f0), .bool ((rd_T39 l0 x13_1).f1.f1), .int .i64 ((rd_T39 l0 x13_1).f1.f2), .int .i64 ((rd_T39 l0 x13_1).f1.f3.f0), .int .i64 ((rd_T39 l0 x13_1).f1.f3.f1), .string ((rd_T39 l0 x13_1).f1.f3.f2)] 39 (0, 0))) := ⟨by (with_reducible repeat (first | refine blk_drewN ?_ _ | refine blk_drew ?_ | refine blk_alloc ?_ _)); exact bp10 (kbW BK188)⟩
    have n2_ : Aside0 (Below w.heap.size w ((((((((((w25.setCell ⟨gb188, 0, none⟩ (.string ((rd_T39 l0 x13_1).f0.f0))).setCell ⟨gb188, 1, none⟩ (.string ((rd_T39 l0 x13_1).f0.f1))).setCell ⟨gb188, 2, none⟩ (.int .i64 ((rd_T39 l0 x13_1).f0.f2))).setCell ⟨gb188, 3, none⟩ (.string ((rd_T39 l0 x13_1).f0.f3))).setCell ⟨gb188, 4, none⟩ (.int .i64 ((rd_T39 l0 x13_1).f1.f0))).setCell ⟨gb188, 5, none⟩ (.bool ((rd_T39 l0 x13_1).f1.f1))).setCell ⟨gb188, 6, none⟩ (.int .i64 ((rd_T39 l0 x13_1).f1.f2))).setCell ⟨gb188, 7, none⟩ (.int .i64 ((rd_T39 l0 x13_1).f1.f3.f0))).setCell ⟨gb188, 8, none⟩ (.int .i64 ((rd_T39 l0 x13_1).f1.f3.f1))).setCell ⟨gb188, 9, none⟩ (.string ((rd_T39 l0 x13_1).f1.f3.f2)))) := ⟨by repeat (first | (with_reducible first | exact HB.out | apply bA_ | apply bN_ | apply bD_ | refine bS_ ?_ GE188) | exact HB.out)⟩
    (try clear HO_7)
    (try clear BK188)
    (try clear HB)
    generalize ((((((((((w25.setCell ⟨gb188, 0, none⟩ (.string ((rd_T39 l0 x13_1).f0.f0))).setCell ⟨gb188, 1, none⟩ (.string ((rd_T39 l0 x13_1).f0.f1))).setCell ⟨gb188, 2, none⟩ (.int .i64 ((rd_T39 l0 x13_1).f0.f2))).setCell ⟨gb188, 3, none⟩ (.string ((rd_T39 l0 x13_1).f0.f3))).setCell ⟨gb188, 4, none⟩ (.int .i64 ((rd_T39 l0 x13_1).f1.f0))).setCell ⟨gb188, 5, none⟩ (.bool ((rd_T39 l0 x13_1).f1.f1))).setCell ⟨gb188, 6, none⟩ (.int .i64 ((rd_T39 l0 x13_1).f1.f2))).setCell ⟨gb188, 7, none⟩ (.int .i64 ((rd_T39 l0 x13_1).f1.f3.f0))).setCell ⟨gb188, 8, none⟩ (.int .i64 ((rd_T39 l0 x13_1).f1.f3.f1))).setCell ⟨gb188, 9, none⟩ (.string ((rd_T39 l0 x13_1).f1.f3.f2))) = w28 at n0_ n1_ n2_ ⊢
    have HO_7 := n0_
    have BK188 := n1_
    have HB := n2_
    clear n0_ n1_ n2_
    replace HO_7 := Aside0.mk (Kd.R_drew HO_7.out)
    replace BK188 := Aside0.mk (blk_drew BK188.out)
    replace HB := Aside0.mk (below_drew1 HB.out)
    have p189 : 0 ≤ ((ji8) : Int) := of_decide_eq_true (by first | (with_reducible assumption) | assumption)
    have q189 : (ji8) < (x7_1.length : Int) := of_decide_eq_true (by first | (with_reducible assumption) | assumption)
    obtain ⟨ad189, e189, hx189_0, hx189_1, hx189_2, hx189_3, hx189_4, hx189_5, hx189_6, hx189_7, hx189_8, hx189_9⟩ := at_T39 (Kd.R_reads' HO_7.out).2.2 (ji8) p189 q189
    cases e189
    replace p189 := eq_true p189
    replace q189 := eq_true q189
    refine start_ (n := 12) (S := fun w' => w'.cell? ⟨gb188, 0, none⟩ = some (.string ((rd_T39 l0 x13_1).f0.f0)) ∧ w'.cell? ⟨gb188, 1, none⟩ = some (.string ((rd_T39 l0 x13_1).f0.f1)) ∧ w'.cell? ⟨gb188, 2, none⟩ = some (.int .i64 ((rd_T39 l0 x13_1).f0.f2)) ∧ w'.cell? ⟨gb188, 3, none⟩ = some (.string ((rd_T39 l0 x13_1).f0.f3)) ∧ w'.cell? ⟨gb188, 4, none⟩ = some (.int .i64 ((rd_T39 l0 x13_1).f1.f0)) ∧ w'.cell? ⟨gb188, 5, none⟩ = some (.bool ((rd_T39 l0 x13_1).f1.f1)) ∧ w'.cell? ⟨gb188, 6, none⟩ = some (.int .i64 ((rd_T39 l0 x13_1).f1.f2)) ∧ w'.cell? ⟨gb188, 7, none⟩ = some (.int .i64 ((rd_T39 l0 x13_1).f1.f3.f0)) ∧ w'.cell? ⟨gb188, 8, none⟩ = some (.int .i64 ((rd_T39 l0 x13_1).f1.f3.f1)) ∧ w'.cell? ⟨gb188, 9, none⟩ = some (.string ((rd_T39 l0 x13_1).f1.f3.f2)) ∧ w'.cell? (ad189.add (((ji8)).toNat * 10)) = some (.string ((rd_T39 x7_1 (ji8)).f0.f0)) ∧ w'.cell? ⟨(ad189.add (((ji8)).toNat * 10)).block, (ad189.add (((ji8)).toNat * 10)).off + 1, none⟩ = some (.string ((rd_T39 x7_1 (ji8)).f0.f1)) ∧ w'.cell? ⟨(ad189.add (((ji8)).toNat * 10)).block, (ad189.add (((ji8)).toNat * 10)).off + 2, none⟩ = some (.int .i64 ((rd_T39 x7_1 (ji8)).f0.f2)) ∧ w'.cell? ⟨(ad189.add (((ji8)).toNat * 10)).block, (ad189.add (((ji8)).toNat * 10)).off + 3, none⟩ = some (.string ((rd_T39 x7_1 (ji8)).f0.f3)) ∧ w'.cell? ⟨(ad189.add (((ji8)).toNat * 10)).block, (ad189.add (((ji8)).toNat * 10)).off + 4, none⟩ = some (.int .i64 ((rd_T39 x7_1 (ji8)).f1.f0)) ∧ w'.cell? ⟨(ad189.add (((ji8)).toNat * 10)).block, (ad189.add (((ji8)).toNat * 10)).off + 5, none⟩ = some (.bool ((rd_T39 x7_1 (ji8)).f1.f1)) ∧ w'.cell? ⟨(ad189.add (((ji8)).toNat * 10)).block, (ad189.add (((ji8)).toNat * 10)).off + 6, none⟩ = some (.int .i64 ((rd_T39 x7_1 (ji8)).f1.f2)) ∧ w'.cell? ⟨(ad189.add (((ji8)).toNat * 10)).block, (ad189.add (((ji8)).toNat * 10)).off + 7, none⟩ = some (.int .i64 ((rd_T39 x7_1 (ji8)).f1.f3.f0)) ∧ w'.cell? ⟨(ad189.add (((ji8)).toNat * 10)).block, (ad189.add (((ji8)).toNat * 10)).off + 8, none⟩ = some (.int .i64 ((rd_T39 x7_1 (ji8)).f1.f3.f1)) ∧ w'.cell? ⟨(ad189.add (((ji8)).toNat * 10)).block, (ad189.add (((ji8)).toNat * 10)).off + 9, none⟩ = some (.string ((rd_T39 x7_1 (ji8)).f1.f3.f2))) (ds := []) (tf_ 0 12) (by kernel_rfl) rfl rfl ⟨(blk_cell BK188.out 0).trans rfl, (blk_cell BK188.out 1).trans rfl, (blk_cell BK188.out 2).trans rfl, (blk_cell BK188.out 3).trans rfl, (blk_cell BK188.out 4).trans rfl, (blk_cell BK188.out 5).trans rfl, (blk_cell BK188.out 6).trans rfl, (blk_cell BK188.out 7).trans rfl, (blk_cell BK188.out 8).trans rfl, (blk_cell BK188.out 9).trans rfl, hx189_0, hx189_1, hx189_2, hx189_3, hx189_4, hx189_5, hx189_6, hx189_7, hx189_8, hx189_9⟩ (fun hHeld => ?_); refine with_tabW api_Cell_43.tab6 api_Cell_43.bits6 (fun HT_ HW_ => ?_)
    generalize w28.drew = w29 at HO_7 BK188 HB hx189_0 hx189_1 hx189_2 hx189_3 hx189_4 hx189_5 hx189_6 hx189_7 hx189_8 hx189_9 hHeld ⊢
    refine pure_ (i := 0) (N := some 19) (v := ?_) (a' := ?_) (tf_ 1 11) rfl rfl (any_of HT_.out (by kernel_rfl)) (fun _ _ _ h => h) (Or.inl ⟨by rfl, ?_⟩) ?_ ?_
    rotate_left; · (intro w'; go_simp; with_reducible rfl)
    rotate_left; · (simp only [Act.put, sT_, sO_, sN_, i64_w, i32_w]; rfl)
    refine pure_ (i := 1) (N := some 20) (v := ?_) (a' := ?_) (tf_ 2 10) rfl rfl (any_of HT_.out (by kernel_rfl)) (fun _ _ _ h => h) (Or.inl ⟨by rfl, ?_⟩) ?_ ?_
    rotate_left; · (intro w'; go_simp; with_reducible rfl)
    rotate_left; · (simp only [Act.put, sT_, sO_, sN_, i64_w, i32_w]; rfl)
    refine pure_ (i := 2) (N := some 21) (v := ?_) (a' := ?_) (tf_ 3 9) rfl rfl (any_of HT_.out (by kernel_rfl)) (fun _ _ _ h => h) (Or.inl ⟨by rfl, ?_⟩) ?_ ?_
    rotate_left; · (intro w'; go_simp; with_reducible rfl)
    rotate_left; · (simp only [Act.put, sT_, sO_, sN_, i64_w, i32_w]; rfl)
    refine pure_ (i := 3) (N := some 22) (v := ?_) (a' := ?_) (tf_ 4 8) rfl rfl (any_of HT_.out (by kernel_rfl)) (fun _ _ _ h => h) (Or.inl ⟨by rfl, ?_⟩) ?_ ?_
    rotate_left; · (intro w'; go_simp; with_reducible rfl)
    rotate_left; · (simp only [Act.put, sT_, sO_, sN_, i64_w, i32_w]; rfl)
    refine pure_ (i := 4) (N := some 23) (v := ?_) (a' := ?_) (tf_ 5 7) rfl rfl (any_of HT_.out (by kernel_rfl)) (fun _ _ _ h => h) (Or.inl ⟨by rfl, ?_⟩) ?_ ?_
    rotate_left; · (intro w'; go_simp; with_reducible rfl)
    rotate_left; · (simp only [Act.put, sT_, sO_, sN_, i64_w, i32_w]; rfl)
    refine pure_ (i := 5) (N := some 24) (v := ?_) (a' := ?_) (tf_ 6 6) rfl rfl (any_of HT_.out (by kernel_rfl)) (fun _ _ _ h => h) (Or.inl ⟨by rfl, ?_⟩) ?_ ?_
    rotate_left; · (intro w'; go_simp; with_reducible rfl)
    rotate_left; · (simp only [Act.put, sT_, sO_, sN_, i64_w, i32_w]; rfl)
    refine pure_ (i := 6) (N := some 25) (v := ?_) (a' := ?_) (tf_ 7 5) rfl rfl (any_of HT_.out (by kernel_rfl)) (fun _ _ _ h => h) (Or.inl ⟨by rfl, ?_⟩) ?_ ?_
    rotate_left; · (intro w'; go_simp; with_reducible rfl)
    rotate_left; · (simp only [Act.put, sT_, sO_, sN_, i64_w, i32_w]; rfl)
    refine pure_ (i := 7) (N := some 26) (v := ?_) (a' := ?_) (tf_ 8 4) rfl rfl (any_of HT_.out (by kernel_rfl)) (fun _ _ _ h => h) (Or.inl ⟨by rfl, ?_⟩) ?_ ?_
    rotate_left; · (intro w'; go_simp; with_reducible rfl)
    rotate_left; · (simp only [Act.put, sT_, sO_, sN_, i64_w, i32_w]; rfl)
    refine take_ (i := 8) (N := some 27) (v := ?_) (a' := ?_) (tf_ 9 3) rfl rfl (take_ofW HT_.out HW_.out (by kernel_rfl)) (fun _ _ _ h => h) (Or.inl ⟨by rfl, ?_⟩) hHeld ?_ ?_
    rotate_left; · (rintro w' ⟨s0, s1, s2, s3, s4, s5, s6, s7, s8, s9, s10, s11, s12, s13, s14, s15, s16, s17, s18, s19⟩; go_simp; with_reducible rfl)
    rotate_left; · (simp only [Act.put, sT_, sO_, sN_, i64_w, i32_w]; rfl)
    refine take_ (i := 9) (N := some 28) (v := ?_) (a' := ?_) (tf_ 10 2) rfl rfl (take_ofW HT_.out HW_.out (by kernel_rfl)) (fun _ _ _ h => h) (Or.inl ⟨by rfl, ?_⟩) hHeld ?_ ?_
    rotate_left; · (rintro w' ⟨s0, s1, s2, s3, s4, s5, s6, s7, s8, s9, s10, s11, s12, s13, s14, s15, s16, s17, s18, s19⟩; go_simp; with_reducible rfl)
    rotate_left; · (simp only [Act.put, sT_, sO_, sN_, i64_w, i32_w]; rfl)
    refine one_ (i := 10) (N := some 29) (tf_ 11 1) rfl rfl (one_of HT_.out (by kernel_rfl)) (by decide) (fun K hK => ?_)
    refine goesX_ Try.func44 (by kernel_rfl) rfl #[.agg #[.string ((rd_T39 x7_1 (ji8)).f0.f0), .string ((rd_T39 x7_1 (ji8)).f0.f1), .int .i64 ((rd_T39 x7_1 (ji8)).f0.f2), .string ((rd_T39 x7_1 (ji8)).f0.f3), .int .i64 ((rd_T39 x7_1 (ji8)).f1.f0), .bool ((rd_T39 x7_1 (ji8)).f1.f1), .int .i64 ((rd_T39 x7_1 (ji8)).f1.f2), .int .i64 ((rd_T39 x7_1 (ji8)).f1.f3.f0), .int .i64 ((rd_T39 x7_1 (ji8)).f1.f3.f1), .string ((rd_T39 x7_1 (ji8)).f1.f3.f2)], .agg #[.string ((rd_T39 l0 x13_1).f0.f0), .string ((rd_T39 l0 x13_1).f0.f1), .int .i64 ((rd_T39 l0 x13_1).f0.f2), .string ((rd_T39 l0 x13_1).f0.f3), .int .i64 ((rd_T39 l0 x13_1).f1.f0), .bool ((rd_T39 l0 x13_1).f1.f1), .int .i64 ((rd_T39 l0 x13_1).f1.f2), .int .i64 ((rd_T39 l0 x13_1).f1.f3.f0), .int .i64 ((rd_T39 l0 x13_1).f1.f3.f1), .string ((rd_T39 l0 x13_1).f1.f3.f2)]] (by rfl) rfl rfl (by (try simp only [mT_, mC_, mN_]); first | done | (simp only [hji8]; rfl) | rfl | (simp only [List.length_drop, List.length_take]; rfl)) ?_
    with_reducible refine (cell_Norm_2.calls ((rd_T39 x7_1 (ji8)).f0.f0) ((rd_T39 x7_1 (ji8)).f0.f1) ((rd_T39 x7_1 (ji8)).f0.f2) ((rd_T39 x7_1 (ji8)).f0.f3) ((rd_T39 x7_1 (ji8)).f1.f0) ((rd_T39 x7_1 (ji8)).f1.f1) ((rd_T39 x7_1 (ji8)).f1.f2) ((rd_T39 x7_1 (ji8)).f1.f3.f0) ((rd_T39 x7_1 (ji8)).f1.f3.f1) ((rd_T39 x7_1 (ji8)).f1.f3.f2) ((rd_T39 l0 x13_1).f0.f0) ((rd_T39 l0 x13_1).f0.f1) ((rd_T39 l0 x13_1).f0.f2) ((rd_T39 l0 x13_1).f0.f3) ((rd_T39 l0 x13_1).f1.f0) ((rd_T39 l0 x13_1).f1.f1) ((rd_T39 l0 x13_1).f1.f2) ((rd_T39 l0 x13_1).f1.f3.f0) ((rd_T39 l0 x13_1).f1.f3.f1) ((rd_T39 l0 x13_1).f1.f3.f2) false _ A11.out).mono ?_
    rintro e w30 ⟨rfl, hb⟩
    have HS10_ := (hb.cell (World.block_lt_of_cell? _ _ (hHeld.2.2.2.2.2.2.2.2.2.2.1))).trans (hHeld.2.2.2.2.2.2.2.2.2.2.1)
    have HS11_ := (hb.cell (World.block_lt_of_cell? _ _ (hHeld.2.2.2.2.2.2.2.2.2.2.2.1))).trans (hHeld.2.2.2.2.2.2.2.2.2.2.2.1)
    have HS12_ := (hb.cell (World.block_lt_of_cell? _ _ (hHeld.2.2.2.2.2.2.2.2.2.2.2.2.1))).trans (hHeld.2.2.2.2.2.2.2.2.2.2.2.2.1)
    have HS13_ := (hb.cell (World.block_lt_of_cell? _ _ (hHeld.2.2.2.2.2.2.2.2.2.2.2.2.2.1))).trans (hHeld.2.2.2.2.2.2.2.2.2.2.2.2.2.1)
    have HS14_ := (hb.cell (World.block_lt_of_cell? _ _ (hHeld.2.2.2.2.2.2.2.2.2.2.2.2.2.2.1))).trans (hHeld.2.2.2.2.2.2.2.2.2.2.2.2.2.2.1)
    have HS15_ := (hb.cell (World.block_lt_of_cell? _ _ (hHeld.2.2.2.2.2.2.2.2.2.2.2.2.2.2.2.1))).trans (hHeld.2.2.2.2.2.2.2.2.2.2.2.2.2.2.2.1)
    have HS16_ := (hb.cell (World.block_lt_of_cell? _ _ (hHeld.2.2.2.2.2.2.2.2.2.2.2.2.2.2.2.2.1))).trans (hHeld.2.2.2.2.2.2.2.2.2.2.2.2.2.2.2.2.1)
    have HS17_ := (hb.cell (World.block_lt_of_cell? _ _ (hHeld.2.2.2.2.2.2.2.2.2.2.2.2.2.2.2.2.2.1))).trans (hHeld.2.2.2.2.2.2.2.2.2.2.2.2.2.2.2.2.2.1)
    have HS18_ := (hb.cell (World.block_lt_of_cell? _ _ (hHeld.2.2.2.2.2.2.2.2.2.2.2.2.2.2.2.2.2.2.1))).trans (hHeld.2.2.2.2.2.2.2.2.2.2.2.2.2.2.2.2.2.2.1)
    have HS19_ := (hb.cell (World.block_lt_of_cell? _ _ (hHeld.2.2.2.2.2.2.2.2.2.2.2.2.2.2.2.2.2.2.2))).trans (hHeld.2.2.2.2.2.2.2.2.2.2.2.2.2.2.2.2.2.2.2)
    refine ⟨_, rfl, ?_⟩
    replace HO_7 := kR HO_7 hb
    replace BK188 := kB BK188 hb
    replace HB := Aside0.mk (below_step (by repeat (first | (with_reducible first | exact HB.out | apply bA_ | apply bN_ | apply bD_ | refine bS_ ?_ GE188) | exact HB.out)) hb)
    (try clear hb)
    (try clear hb2)
    (try clear hk)
    (try clear hi)
    refine hK.out _ _ ⟨(blk_cell BK188.out 0).trans rfl, (blk_cell BK188.out 1).trans rfl, (blk_cell BK188.out 2).trans rfl, (blk_cell BK188.out 3).trans rfl, (blk_cell BK188.out 4).trans rfl, (blk_cell BK188.out 5).trans rfl, (blk_cell BK188.out 6).trans rfl, (blk_cell BK188.out 7).trans rfl, (blk_cell BK188.out 8).trans rfl, (blk_cell BK188.out 9).trans rfl, HS10_, HS11_, HS12_, HS13_, HS14_, HS15_, HS16_, HS17_, HS18_, HS19_⟩ (fun hHeld => ?_)
    clear hK K
    refine norm_ (a' := ?_) ?_ ?_
    rotate_left
    ·
     show Act.put _ (some 29) _ = _
     simp only [Act.put, sT_, sO_, sN_, i64_w, i32_w]
     rfl
    refine pure_ (i := 11) (N := some 30) (v := ?_) (a' := ?_) (tf_ 12 0) rfl rfl (any_of HT_.out (by kernel_rfl)) (fun _ _ _ h => h) (Or.inl ⟨by rfl, ?_⟩) ?_ ?_
    rotate_left; · (intro w'; go_simp; with_reducible rfl)
    rotate_left; · (simp only [Act.put, sT_, sO_, sN_, i64_w, i32_w]; rfl)
    refine done_ (done_of HT_.out (by kernel_rfl)) ?_
    obtain ⟨_, _, _, _, _, _, _, _, _, _, _, _, _, _, _, _, _, _, _, _⟩ := czf10 BK188
    try go_wp2_with (first | ((with_reducible refine gate_builtin (b := .append) (xs := #[.tmp 43, .tmp 45]) rfl ?_); at_builtin; refine Kd.R_append k39 (w0 := w) w.heap.size rfl (.tmp 43) (.tmp 45) 25 39 (.agg #[(.string ⟨#[]⟩), (.string ⟨#[]⟩), (.int .i64 0), (.string ⟨#[]⟩), (.int .i64 0), (.bool false), (.int .i64 0), (.int .i64 0), (.int .i64 0), (.string ⟨#[]⟩)]) 112 rfl Try.underlying25 info39 rfl (by decide) (by omega) (.slice (some ad189) x7_1.length co27) x7_1 (⟨(⟨(rd_T39 l0 x13_1).f0.f0, (rd_T39 l0 x13_1).f0.f1, (rd_T39 l0 x13_1).f0.f2, (rd_T39 l0 x13_1).f0.f3⟩ : S33), (⟨(rd_T39 l0 x13_1).f1.f0, (rd_T39 l0 x13_1).f1.f1, (rd_T39 l0 x13_1).f1.f2, (⟨(rd_T39 l0 x13_1).f1.f3.f0, (rd_T39 l0 x13_1).f1.f3.f1, (rd_T39 l0 x13_1).f1.f3.f2⟩ : S35)⟩ : S37)⟩ : S39) [.string ((rd_T39 l0 x13_1).f0.f0), .string ((rd_T39 l0 x13_1).f0.f1), .int .i64 ((rd_T39 l0 x13_1).f0.f2), .string ((rd_T39 l0 x13_1).f0.f3), .int .i64 ((rd_T39 l0 x13_1).f1.f0), .bool ((rd_T39 l0 x13_1).f1.f1), .int .i64 ((rd_T39 l0 x13_1).f1.f2), .int .i64 ((rd_T39 l0 x13_1).f1.f3.f0), .int .i64 ((rd_T39 l0 x13_1).f1.f3.f1), .string ((rd_T39 l0 x13_1).f1.f3.f2)] (fun k_ => k_ ≠ gb188) (fun _ => False) rfl rfl ?aP (fun _ hk => hk.elim) ?aF ?aO ?aB ?aS ?aL ?_; (case aP => exact k39_mkM _ _ _ (⟨(⟨(rd_T39 l0 x13_1).f0.f0, (rd_T39 l0 x13_1).f0.f1, (rd_T39 l0 x13_1).f0.f2, (rd_T39 l0 x13_1).f0.f3⟩ : S33), (⟨(rd_T39 l0 x13_1).f1.f0, (rd_T39 l0 x13_1).f1.f1, (rd_T39 l0 x13_1).f1.f2, (⟨(rd_T39 l0 x13_1).f1.f3.f0, (rd_T39 l0 x13_1).f1.f3.f1, (rd_T39 l0 x13_1).f1.f3.f2⟩ : S35)⟩ : S37)⟩ : S39)); (case aB => exact (by repeat (first | (with_reducible first | exact HB.out | apply bA_ | apply bN_ | apply bD_ | refine bS_ ?_ GE188) | exact HB.out))); (case aF => exact (fun k_ hk => Kd.freshB (kbW BK188) k_ hk)); (case aO => exact (krW HO_7)); (case aS => exact (bZ_ (by repeat (first | (with_reducible first | exact HB.out | apply bA_ | apply bN_ | apply bD_ | refine bS_ ?_ GE188) | exact HB.out)))); (case aL => have := LMc24.out; omega); intro v204 w32 ho hb hg hat; rw [← Ny203.out] at ho; replace BK188 := Aside0.mk (blk_grown (kbW BK188) hg (Kd.R_away HO_7.out (fun _ hk => hk))); replace HB := Aside0.mk (hb); have HO205 := Aside0.mk (ho); clear HO_7; clear ho hb hg hat))
    go_roundg k1
    case measure => have := HK1.out; omega
    case rel => exact ⟨(y203), (wrap64 (x13_1 + 1)), (by first | rfl | (simp; done) | (simp [bne, *]; done)), H', ⟨by have := HK1.out; omega⟩, ⟨by (with_reducible repeat (first | apply Kd.R_alloc | apply Kd.R_drewN | apply Kd.R_drew)); exact Kd.R_mono HO205.out (fun _ hk => trivial)⟩, ⟨by repeat (first | (with_reducible first | exact HB.out | apply bA_ | apply bN_ | apply bD_ | refine bS_ ?_ GE188) | exact HB.out)⟩⟩
   subst c12
   have H1 : ((cell_Norm_3.f k1 ((rd_T39 x7_1 (ji8)).f0.f0) ((rd_T39 x7_1 (ji8)).f0.f1) ((rd_T39 x7_1 (ji8)).f0.f2) ((rd_T39 x7_1 (ji8)).f0.f3) ((rd_T39 x7_1 (ji8)).f1.f0) ((rd_T39 x7_1 (ji8)).f1.f1) ((rd_T39 x7_1 (ji8)).f1.f2) ((rd_T39 x7_1 (ji8)).f1.f3.f0) ((rd_T39 x7_1 (ji8)).f1.f3.f1) ((rd_T39 x7_1 (ji8)).f1.f3.f2) ((rd_T39 l0 x13_1).f0.f0) ((rd_T39 l0 x13_1).f0.f1) ((rd_T39 l0 x13_1).f0.f2) ((rd_T39 l0 x13_1).f0.f3) ((rd_T39 l0 x13_1).f1.f0) ((rd_T39 l0 x13_1).f1.f1) ((rd_T39 l0 x13_1).f1.f2) ((rd_T39 l0 x13_1).f1.f3.f0) ((rd_T39 l0 x13_1).f1.f3.f1) ((rd_T39 l0 x13_1).f1.f3.f2)).bind fun bt192 => (api_Cell_43.l0 k1 (x7_1.set ((ji8) : Int).toNat (⟨(⟨bt192.1, bt192.2.1, bt192.2.2.1, bt192.2.2.2.1⟩ : S33), (⟨bt192.2.2.2.2.1, bt192.2.2.2.2.2.1, bt192.2.2.2.2.2.2.1, (⟨bt192.2.2.2.2.2.2.2.1, bt192.2.2.2.2.2.2.2.2.1, bt192.2.2.2.2.2.2.2.2.2⟩ : S35)⟩ : S37)⟩ : S39)) l0 (l0.length : Int) (wrap64 (x13_1 + 1)))) = some r := by rw [if_pos rfl] at H; exact H
   clear H
   have H := H1
   clear H1
   replace H := Option.bind_eq_some_iff.mp H
   obtain ⟨⟨t192, t193, t194, t195, t196, t197, t198, t199, t200, t201⟩, A130, H⟩ := H
   have A13 := Aside0.mk A130
   clear A130
   obtain ⟨y202, hy202⟩ : ∃ y_ : List (S39), y_ = (x7_1.set ((ji8) : Int).toNat (⟨(⟨t192, t193, t194, t195⟩ : S33), (⟨t196, t197, t198, (⟨t199, t200, t201⟩ : S35)⟩ : S37)⟩ : S39)) := ⟨_, rfl⟩
   replace H : (api_Cell_43.l0 k1 y202 l0 (l0.length : Int) (wrap64 (x13_1 + 1))) = some r := by first | (rw [hy202]; with_reducible exact H) | (have H2_ := (Option.bind_some _ _).symm.trans H; rw [hy202]; with_reducible exact H2_) | (have H2_ := (Option.bind_some _ _).symm.trans H; with_reducible exact H2_) | with_reducible exact H | (rw [hy202]; exact H) | exact H
   have Ny202 := Aside0.mk hy202
   clear hy202
   have H' := Aside0.mk H
   clear H
   have p187 : 0 ≤ (x13_1 : Int) := of_decide_eq_true (by first | (with_reducible assumption) | assumption)
   have q187 : x13_1 < (l0.length : Int) := of_decide_eq_true (by first | (with_reducible assumption) | assumption)
   obtain ⟨ad187, e187, hx187_0, hx187_1, hx187_2, hx187_3, hx187_4, hx187_5, hx187_6, hx187_7, hx187_8, hx187_9⟩ := at_T39 HR0.out x13_1 p187 q187
   cases e187
   replace hx187_0 := cB_ HB hx187_0
   replace hx187_1 := cB_ HB hx187_1
   replace hx187_2 := cB_ HB hx187_2
   replace hx187_3 := cB_ HB hx187_3
   replace hx187_4 := cB_ HB hx187_4
   replace hx187_5 := cB_ HB hx187_5
   replace hx187_6 := cB_ HB hx187_6
   replace hx187_7 := cB_ HB hx187_7
   replace hx187_8 := cB_ HB hx187_8
   replace hx187_9 := cB_ HB hx187_9
   replace p187 := eq_true p187
   replace q187 := eq_true q187
   try go_wp2_with (first | ((with_reducible refine gate_dst (N := 9) rfl ?_); refine box_event ?hg (N := 9) ?hd (cs := #[.string (⟨#[]⟩ : ByteArray), .string (⟨#[]⟩ : ByteArray), .int .i64 0, .string (⟨#[]⟩ : ByteArray), .int .i64 0, .bool false, .int .i64 0, .int .i64 0, .int .i64 0, .string (⟨#[]⟩ : ByteArray)]) (t := 39) ?hr ?_; (case hd => rfl); (case hg => rfl); (case hr => first | (go_simp; done) | (go_simp; rfl)); intro gb188 hg w15 hbox hb; replace HO_7 := Aside0.mk (Kd.R_below (Kd.R_elderB (krW HO_7) gb188 (Nat.le_of_eq hg.symm)) hb); have BK188 := Aside0.mk (hbox); have GW188 := Aside0.mk ((by rw [hg]; exact (bZ_ (kwW HB)) : w.heap.size ≤ gb188)); replace HB := Aside0.mk (below_step (kwW HB) hb); have GE188 := GW188; clear hb hbox hg; obtain ⟨_, _, _, _, _, _, _, _, _, _, _, _, _, _, _, _, _, _, _, _⟩ := czf10 BK188; obtain ⟨Ao17, co17, eo17⟩ := Kd.R_slice HO_7.out; subst eo17))
   have n0_ : Aside0 (Kd.R k39 39 ((((((((((w15.setCell ⟨gb188, 0, none⟩ (.string ((rd_T39 l0 x13_1).f0.f0))).setCell ⟨gb188, 1, none⟩ (.string ((rd_T39 l0 x13_1).f0.f1))).setCell ⟨gb188, 2, none⟩ (.int .i64 ((rd_T39 l0 x13_1).f0.f2))).setCell ⟨gb188, 3, none⟩ (.string ((rd_T39 l0 x13_1).f0.f3))).setCell ⟨gb188, 4, none⟩ (.int .i64 ((rd_T39 l0 x13_1).f1.f0))).setCell ⟨gb188, 5, none⟩ (.bool ((rd_T39 l0 x13_1).f1.f1))).setCell ⟨gb188, 6, none⟩ (.int .i64 ((rd_T39 l0 x13_1).f1.f2))).setCell ⟨gb188, 7, none⟩ (.int .i64 ((rd_T39 l0 x13_1).f1.f3.f0))).setCell ⟨gb188, 8, none⟩ (.int .i64 ((rd_T39 l0 x13_1).f1.f3.f1))).setCell ⟨gb188, 9, none⟩ (.string ((rd_T39 l0 x13_1).f1.f3.f2))) w.heap.size (fun k_ => k_ ≠ gb188) (.slice Ao17 x7_1.length co17) x7_1) := ⟨by (with_reducible repeat (first | apply Kd.R_alloc | apply Kd.R_drewN | apply Kd.R_drew)); exact Kd.R_mono (rf10 (Kd.R_mono HO_7.out (fun k_ hk => (⟨hk, hk.2⟩ : _ ∧ k_ ≠ gb188))) (fun _ hk => hk.2)) (fun _ hk => hk.1.2)⟩
   have n1_ : Aside0 (((((((((((w15.setCell ⟨gb188, 0, none⟩ (.string ((rd_T39 l0 x13_1).f0.f0))).setCell ⟨gb188, 1, none⟩ (.string ((rd_T39 l0 x13_1).f0.f1))).setCell ⟨gb188, 2, none⟩ (.int .i64 ((rd_T39 l0 x13_1).f0.f2))).setCell ⟨gb188, 3, none⟩ (.string ((rd_T39 l0 x13_1).f0.f3))).setCell ⟨gb188, 4, none⟩ (.int .i64 ((rd_T39 l0 x13_1).f1.f0))).setCell ⟨gb188, 5, none⟩ (.bool ((rd_T39 l0 x13_1).f1.f1))).setCell ⟨gb188, 6, none⟩ (.int .i64 ((rd_T39 l0 x13_1).f1.f2))).setCell ⟨gb188, 7, none⟩ (.int .i64 ((rd_T39 l0 x13_1).f1.f3.f0))).setCell ⟨gb188, 8, none⟩ (.int .i64 ((rd_T39 l0 x13_1).f1.f3.f1))).setCell ⟨gb188, 9, none⟩ (.string ((rd_T39 l0 x13_1).f1.f3.f2))).heap[gb188]? = some (.cells #[.string ((rd_T39 l0 x13_1).f0.f0), .string ((rd_T39 l0 x13_1).f0.f1), .int .i64 ((rd_T39 l0 x13_1).f0.f2), .string ((rd_T39 l0 x13_1).f0.f3), .int .i64 ((rd_T39 l0 x13_1).f1.f0), .bool ((rd_T39 l0 x13_1).f1.f1), .int .i64 ((rd_T39 l0 x13_1).f1.f2), .int .i64 ((rd_T39 l0 x13_1).f1.f3.f0), .int .i64 ((rd_T39 l0 x13_1).f1.f3.f1), .string ((rd_T39 l0 x13_1).f1.f3.f2)] 39 (0, 0))) := ⟨by (with_reducible repeat (first | refine blk_drewN ?_ _ | refine blk_drew ?_ | refine blk_alloc ?_ _)); exact bp10 (kbW BK188)⟩
   have n2_ : Aside0 (Below w.heap.size w ((((((((((w15.setCell ⟨gb188, 0, none⟩ (.string ((rd_T39 l0 x13_1).f0.f0))).setCell ⟨gb188, 1, none⟩ (.string ((rd_T39 l0 x13_1).f0.f1))).setCell ⟨gb188, 2, none⟩ (.int .i64 ((rd_T39 l0 x13_1).f0.f2))).setCell ⟨gb188, 3, none⟩ (.string ((rd_T39 l0 x13_1).f0.f3))).setCell ⟨gb188, 4, none⟩ (.int .i64 ((rd_T39 l0 x13_1).f1.f0))).setCell ⟨gb188, 5, none⟩ (.bool ((rd_T39 l0 x13_1).f1.f1))).setCell ⟨gb188, 6, none⟩ (.int .i64 ((rd_T39 l0 x13_1).f1.f2))).setCell ⟨gb188, 7, none⟩ (.int .i64 ((rd_T39 l0 x13_1).f1.f3.f0))).setCell ⟨gb188, 8, none⟩ (.int .i64 ((rd_T39 l0 x13_1).f1.f3.f1))).setCell ⟨gb188, 9, none⟩ (.string ((rd_T39 l0 x13_1).f1.f3.f2)))) := ⟨by repeat (first | (with_reducible first | exact HB.out | apply bA_ | apply bN_ | apply bD_ | refine bS_ ?_ GE188) | exact HB.out)⟩
   (try clear HO_7)
   (try clear BK188)
   (try clear HB)
   generalize ((((((((((w15.setCell ⟨gb188, 0, none⟩ (.string ((rd_T39 l0 x13_1).f0.f0))).setCell ⟨gb188, 1, none⟩ (.string ((rd_T39 l0 x13_1).f0.f1))).setCell ⟨gb188, 2, none⟩ (.int .i64 ((rd_T39 l0 x13_1).f0.f2))).setCell ⟨gb188, 3, none⟩ (.string ((rd_T39 l0 x13_1).f0.f3))).setCell ⟨gb188, 4, none⟩ (.int .i64 ((rd_T39 l0 x13_1).f1.f0))).setCell ⟨gb188, 5, none⟩ (.bool ((rd_T39 l0 x13_1).f1.f1))).setCell ⟨gb188, 6, none⟩ (.int .i64 ((rd_T39 l0 x13_1).f1.f2))).setCell ⟨gb188, 7, none⟩ (.int .i64 ((rd_T39 l0 x13_1).f1.f3.f0))).setCell ⟨gb188, 8, none⟩ (.int .i64 ((rd_T39 l0 x13_1).f1.f3.f1))).setCell ⟨gb188, 9, none⟩ (.string ((rd_T39 l0 x13_1).f1.f3.f2))) = w18 at n0_ n1_ n2_ ⊢
   have HO_7 := n0_
   have BK188 := n1_
   have HB := n2_
   clear n0_ n1_ n2_
   replace HO_7 := Aside0.mk (Kd.R_drew HO_7.out)
   replace BK188 := Aside0.mk (blk_drew BK188.out)
   replace HB := Aside0.mk (below_drew1 HB.out)
   have p189 : 0 ≤ ((ji8) : Int) := of_decide_eq_true (by first | (with_reducible assumption) | assumption)
   have q189 : (ji8) < (x7_1.length : Int) := of_decide_eq_true (by first | (with_reducible assumption) | assumption)
   obtain ⟨ad189, e189, hx189_0, hx189_1, hx189_2, hx189_3, hx189_4, hx189_5, hx189_6, hx189_7, hx189_8, hx189_9⟩ := at_T39 (Kd.R_reads' HO_7.out).2.2 (ji8) p189 q189
   cases e189
   replace p189 := eq_true p189
   replace q189 := eq_true q189
   refine start_ (n := 12) (S := fun w' => w'.cell? ⟨gb188, 0, none⟩ = some (.string ((rd_T39 l0 x13_1).f0.f0)) ∧ w'.cell? ⟨gb188, 1, none⟩ = some (.string ((rd_T39 l0 x13_1).f0.f1)) ∧ w'.cell? ⟨gb188, 2, none⟩ = some (.int .i64 ((rd_T39 l0 x13_1).f0.f2)) ∧ w'.cell? ⟨gb188, 3, none⟩ = some (.string ((rd_T39 l0 x13_1).f0.f3)) ∧ w'.cell? ⟨gb188, 4, none⟩ = some (.int .i64 ((rd_T39 l0 x13_1).f1.f0)) ∧ w'.cell? ⟨gb188, 5, none⟩ = some (.bool ((rd_T39 l0 x13_1).f1.f1)) ∧ w'.cell? ⟨gb188, 6, none⟩ = some (.int .i64 ((rd_T39 l0 x13_1).f1.f2)) ∧ w'.cell? ⟨gb188, 7, none⟩ = some (.int .i64 ((rd_T39 l0 x13_1).f1.f3.f0)) ∧ w'.cell? ⟨gb188, 8, none⟩ = some (.int .i64 ((rd_T39 l0 x13_1).f1.f3.f1)) ∧ w'.cell? ⟨gb188, 9, none⟩ = some (.string ((rd_T39 l0 x13_1).f1.f3.f2)) ∧ w'.cell? (ad189.add (((ji8)).toNat * 10)) = some (.string ((rd_T39 x7_1 (ji8)).f0.f0)) ∧ w'.cell? ⟨(ad189.add (((ji8)).toNat * 10)).block, (ad189.add (((ji8)).toNat * 10)).off + 1, none⟩ = some (.string ((rd_T39 x7_1 (ji8)).f0.f1)) ∧ w'.cell? ⟨(ad189.add (((ji8)).toNat * 10)).block, (ad189.add (((ji8)).toNat * 10)).off + 2, none⟩ = some (.int .i64 ((rd_T39 x7_1 (ji8)).f0.f2)) ∧ w'.cell? ⟨(ad189.add (((ji8)).toNat * 10)).block, (ad189.add (((ji8)).toNat * 10)).off + 3, none⟩ = some (.string ((rd_T39 x7_1 (ji8)).f0.f3)) ∧ w'.cell? ⟨(ad189.add (((ji8)).toNat * 10)).block, (ad189.add (((ji8)).toNat * 10)).off + 4, none⟩ = some (.int .i64 ((rd_T39 x7_1 (ji8)).f1.f0)) ∧ w'.cell? ⟨(ad189.add (((ji8)).toNat * 10)).block, (ad189.add (((ji8)).toNat * 10)).off + 5, none⟩ = some (.bool ((rd_T39 x7_1 (ji8)).f1.f1)) ∧ w'.cell? ⟨(ad189.add (((ji8)).toNat * 10)).block, (ad189.add (((ji8)).toNat * 10)).off + 6, none⟩ = some (.int .i64 ((rd_T39 x7_1 (ji8)).f1.f2)) ∧ w'.cell? ⟨(ad189.add (((ji8)).toNat * 10)).block, (ad189.add (((ji8)).toNat * 10)).off + 7, none⟩ = some (.int .i64 ((rd_T39 x7_1 (ji8)).f1.f3.f0)) ∧ w'.cell? ⟨(ad189.add (((ji8)).toNat * 10)).block, (ad189.add (((ji8)).toNat * 10)).off + 8, none⟩ = some (.int .i64 ((rd_T39 x7_1 (ji8)).f1.f3.f1)) ∧ w'.cell? ⟨(ad189.add (((ji8)).toNat * 10)).block, (ad189.add (((ji8)).toNat * 10)).off + 9, none⟩ = some (.string ((rd_T39 x7_1 (ji8)).f1.f3.f2))) (ds := []) (tf_ 0 12) (by kernel_rfl) rfl rfl ⟨(blk_cell BK188.out 0).trans rfl, (blk_cell BK188.out 1).trans rfl, (blk_cell BK188.out 2).trans rfl, (blk_cell BK188.out 3).trans rfl, (blk_cell BK188.out 4).trans rfl, (blk_cell BK188.out 5).trans rfl, (blk_cell BK188.out 6).trans rfl, (blk_cell BK188.out 7).trans rfl, (blk_cell BK188.out 8).trans rfl, (blk_cell BK188.out 9).trans rfl, hx189_0, hx189_1, hx189_2, hx189_3, hx189_4, hx189_5, hx189_6, hx189_7, hx189_8, hx189_9⟩ (fun hHeld => ?_); refine with_tabW api_Cell_43.tab6 api_Cell_43.bits6 (fun HT_ HW_ => ?_)
   generalize w18.drew = w19 at HO_7 BK188 HB hx189_0 hx189_1 hx189_2 hx189_3 hx189_4 hx189_5 hx189_6 hx189_7 hx189_8 hx189_9 hHeld ⊢
   refine pure_ (i := 0) (N := some 19) (v := ?_) (a' := ?_) (tf_ 1 11) rfl rfl (any_of HT_.out (by kernel_rfl)) (fun _ _ _ h => h) (Or.inl ⟨by rfl, ?_⟩) ?_ ?_
   rotate_left; · (intro w'; go_simp; with_reducible rfl)
   rotate_left; · (simp only [Act.put, sT_, sO_, sN_, i64_w, i32_w]; rfl)
   refine pure_ (i := 1) (N := some 20) (v := ?_) (a' := ?_) (tf_ 2 10) rfl rfl (any_of HT_.out (by kernel_rfl)) (fun _ _ _ h => h) (Or.inl ⟨by rfl, ?_⟩) ?_ ?_
   rotate_left; · (intro w'; go_simp; with_reducible rfl)
   rotate_left; · (simp only [Act.put, sT_, sO_, sN_, i64_w, i32_w]; rfl)
   refine pure_ (i := 2) (N := some 21) (v := ?_) (a' := ?_) (tf_ 3 9) rfl rfl (any_of HT_.out (by kernel_rfl)) (fun _ _ _ h => h) (Or.inl ⟨by rfl, ?_⟩) ?_ ?_
   rotate_left; · (intro w'; go_simp; with_reducible rfl)
   rotate_left; · (simp only [Act.put, sT_, sO_, sN_, i64_w, i32_w]; rfl)
   refine pure_ (i := 3) (N := some 22) (v := ?_) (a' := ?_) (tf_ 4 8) rfl rfl (any_of HT_.out (by kernel_rfl)) (fun _ _ _ h => h) (Or.inl ⟨by rfl, ?_⟩) ?_ ?_
   rotate_left; · (intro w'; go_simp; with_reducible rfl)
   rotate_left; · (simp only [Act.put, sT_, sO_, sN_, i64_w, i32_w]; rfl)
   refine pure_ (i := 4) (N := some 23) (v := ?_) (a' := ?_) (tf_ 5 7) rfl rfl (any_of HT_.out (by kernel_rfl)) (fun _ _ _ h => h) (Or.inl ⟨by rfl, ?_⟩) ?_ ?_
   rotate_left; · (intro w'; go_simp; with_reducible rfl)
   rotate_left; · (simp only [Act.put, sT_, sO_, sN_, i64_w, i32_w]; rfl)
   refine pure_ (i := 5) (N := some 24) (v := ?_) (a' := ?_) (tf_ 6 6) rfl rfl (any_of HT_.out (by kernel_rfl)) (fun _ _ _ h => h) (Or.inl ⟨by rfl, ?_⟩) ?_ ?_
   rotate_left; · (intro w'; go_simp; with_reducible rfl)
   rotate_left; · (simp only [Act.put, sT_, sO_, sN_, i64_w, i32_w]; rfl)
   refine pure_ (i := 6) (N := some 25) (v := ?_) (a' := ?_) (tf_ 7 5) rfl rfl (any_of HT_.out (by kernel_rfl)) (fun _ _ _ h => h) (Or.inl ⟨by rfl, ?_⟩) ?_ ?_
   rotate_left; · (intro w'; go_simp; with_reducible rfl)
   rotate_left; · (simp only [Act.put, sT_, sO_, sN_, i64_w, i32_w]; rfl)
   refine pure_ (i := 7) (N := some 26) (v := ?_) (a' := ?_) (tf_ 8 4) rfl rfl (any_of HT_.out (by kernel_rfl)) (fun _ _ _ h => h) (Or.inl ⟨by rfl, ?_⟩) ?_ ?_
   rotate_left; · (intro w'; go_simp; with_reducible rfl)
   rotate_left; · (simp only [Act.put, sT_, sO_, sN_, i64_w, i32_w]; rfl)
   refine take_ (i := 8) (N := some 27) (v := ?_) (a' := ?_) (tf_ 9 3) rfl rfl (take_ofW HT_.out HW_.out (by kernel_rfl)) (fun _ _ _ h => h) (Or.inl ⟨by rfl, ?_⟩) hHeld ?_ ?_
   rotate_left; · (rintro w' ⟨s0, s1, s2, s3, s4, s5, s6, s7, s8, s9, s10, s11, s12, s13, s14, s15, s16, s17, s18, s19⟩; go_simp; with_reducible rfl)
   rotate_left; · (simp only [Act.put, sT_, sO_, sN_, i64_w, i32_w]; rfl)
   refine take_ (i := 9) (N := some 28) (v := ?_) (a' := ?_) (tf_ 10 2) rfl rfl (take_ofW HT_.out HW_.out (by kernel_rfl)) (fun _ _ _ h => h) (Or.inl ⟨by rfl, ?_⟩) hHeld ?_ ?_
   rotate_left; · (rintro w' ⟨s0, s1, s2, s3, s4, s5, s6, s7, s8, s9, s10, s11, s12, s13, s14, s15, s16, s17, s18, s19⟩; go_simp; with_reducible rfl)
   rotate_left; · (simp only [Act.put, sT_, sO_, sN_, i64_w, i32_w]; rfl)
   refine one_ (i := 10) (N := some 29) (tf_ 11 1) rfl rfl (one_of HT_.out (by kernel_rfl)) (by decide) (fun K hK => ?_)
   refine goesX_ Try.func44 (by kernel_rfl) rfl #[.agg #[.string ((rd_T39 x7_1 (ji8)).f0.f0), .string ((rd_T39 x7_1 (ji8)).f0.f1), .int .i64 ((rd_T39 x7_1 (ji8)).f0.f2), .string ((rd_T39 x7_1 (ji8)).f0.f3), .int .i64 ((rd_T39 x7_1 (ji8)).f1.f0), .bool ((rd_T39 x7_1 (ji8)).f1.f1), .int .i64 ((rd_T39 x7_1 (ji8)).f1.f2), .int .i64 ((rd_T39 x7_1 (ji8)).f1.f3.f0), .int .i64 ((rd_T39 x7_1 (ji8)).f1.f3.f1), .string ((rd_T39 x7_1 (ji8)).f1.f3.f2)], .agg #[.string ((rd_T39 l0 x13_1).f0.f0), .string ((rd_T39 l0 x13_1).f0.f1), .int .i64 ((rd_T39 l0 x13_1).f0.f2), .string ((rd_T39 l0 x13_1).f0.f3), .int .i64 ((rd_T39 l0 x13_1).f1.f0), .bool ((rd_T39 l0 x13_1).f1.f1), .int .i64 ((rd_T39 l0 x13_1).f1.f2), .int .i64 ((rd_T39 l0 x13_1).f1.f3.f0), .int .i64 ((rd_T39 l0 x13_1).f1.f3.f1), .string ((rd_T39 l0 x13_1).f1.f3.f2)]] (by rfl) rfl rfl (by (try simp only [mT_, mC_, mN_]); first | done | (simp only [hji8]; rfl) | rfl | (simp only [List.length_drop, List.length_take]; rfl)) ?_
   with_reducible refine (cell_Norm_2.calls ((rd_T39 x7_1 (ji8)).f0.f0) ((rd_T39 x7_1 (ji8)).f0.f1) ((rd_T39 x7_1 (ji8)).f0.f2) ((rd_T39 x7_1 (ji8)).f0.f3) ((rd_T39 x7_1 (ji8)).f1.f0) ((rd_T39 x7_1 (ji8)).f1.f1) ((rd_T39 x7_1 (ji8)).f1.f2) ((rd_T39 x7_1 (ji8)).f1.f3.f0) ((rd_T39 x7_1 (ji8)).f1.f3.f1) ((rd_T39 x7_1 (ji8)).f1.f3.f2) ((rd_T39 l0 x13_1).f0.f0) ((rd_T39 l0 x13_1).f0.f1) ((rd_T39 l0 x13_1).f0.f2) ((rd_T39 l0 x13_1).f0.f3) ((rd_T39 l0 x13_1).f1.f0) ((rd_T39 l0 x13_1).f1.f1) ((rd_T39 l0 x13_1).f1.f2) ((rd_T39 l0 x13_1).f1.f3.f0) ((rd_T39 l0 x13_1).f1.f3.f1) ((rd_T39 l0 x13_1).f1.f3.f2) true _ A11.out).mono ?_
   rintro e w20 ⟨rfl, hb⟩
   have HS10_ := (hb.cell (World.block_lt_of_cell? _ _ (hHeld.2.2.2.2.2.2.2.2.2.2.1))).trans (hHeld.2.2.2.2.2.2.2.2.2.2.1)
   have HS11_ := (hb.cell (World.block_lt_of_cell? _ _ (hHeld.2.2.2.2.2.2.2.2.2.2.2.1))).trans (hHeld.2.2.2.2.2.2.2.2.2.2.2.1)
   have HS12_ := (hb.cell (World.block_lt_of_cell? _ _ (hHeld.2.2.2.2.2.2.2.2.2.2.2.2.1))).trans (hHeld.2.2.2.2.2.2.2.2.2.2.2.2.1)
   have HS13_ := (hb.cell (World.block_lt_of_cell? _ _ (hHeld.2.2.2.2.2.2.2.2.2.2.2.2.2.1))).trans (hHeld.2.2.2.2.2.2.2.2.2.2.2.2.2.1)
   have HS14_ := (hb.cell (World.block_lt_of_cell? _ _ (hHeld.2.2.2.2.2.2.2.2.2.2.2.2.2.2.1))).trans (hHeld.2.2.2.2.2.2.2.2.2.2.2.2.2.2.1)
   have HS15_ := (hb.cell (World.block_lt_of_cell? _ _ (hHeld.2.2.2.2.2.2.2.2.2.2.2.2.2.2.2.1))).trans (hHeld.2.2.2.2.2.2.2.2.2.2.2.2.2.2.2.1)
   have HS16_ := (hb.cell (World.block_lt_of_cell? _ _ (hHeld.2.2.2.2.2.2.2.2.2.2.2.2.2.2.2.2.1))).trans (hHeld.2.2.2.2.2.2.2.2.2.2.2.2.2.2.2.2.1)
   have HS17_ := (hb.cell (World.block_lt_of_cell? _ _ (hHeld.2.2.2.2.2.2.2.2.2.2.2.2.2.2.2.2.2.1))).trans (hHeld.2.2.2.2.2.2.2.2.2.2.2.2.2.2.2.2.2.1)
   have HS18_ := (hb.cell (World.block_lt_of_cell? _ _ (hHeld.2.2.2.2.2.2.2.2.2.2.2.2.2.2.2.2.2.2.1))).trans (hHeld.2.2.2.2.2.2.2.2.2.2.2.2.2.2.2.2.2.2.1)
   have HS19_ := (hb.cell (World.block_lt_of_cell? _ _ (hHeld.2.2.2.2.2.2.2.2.2.2.2.2.2.2.2.2.2.2.2))).trans (hHeld.2.2.2.2.2.2.2.2.2.2.2.2.2.2.2.2.2.2.2)
   refine ⟨_, rfl, ?_⟩
   replace HO_7 := kR HO_7 hb
   replace BK188 := kB BK188 hb
   replace HB := Aside0.mk (below_step (by repeat (first | (with_reducible first | exact HB.out | apply bA_ | apply bN_ | apply bD_ | refine bS_ ?_ GE188) | exact HB.out)) hb)
   (try clear hb)
   (try clear hb2)
   (try clear hk)
   (try clear hi)
   refine hK.out _ _ ⟨(blk_cell BK188.out 0).trans rfl, (blk_cell BK188.out 1).trans rfl, (blk_cell BK188.out 2).trans rfl, (blk_cell BK188.out 3).trans rfl, (blk_cell BK188.out 4).trans rfl, (blk_cell BK188.out 5).trans rfl, (blk_cell BK188.out 6).trans rfl, (blk_cell BK188.out 7).trans rfl, (blk_cell BK188.out 8).trans rfl, (blk_cell BK188.out 9).trans rfl, HS10_, HS11_, HS12_, HS13_, HS14_, HS15_, HS16_, HS17_, HS18_, HS19_⟩ (fun hHeld => ?_)
   clear hK K
   refine norm_ (a' := ?_) ?_ ?_
   rotate_left
   ·
    show Act.put _ (some 29) _ = _
    simp only [Act.put, sT_, sO_, sN_, i64_w, i32_w]
    rfl
   refine pure_ (i := 11) (N := some 30) (v := ?_) (a' := ?_) (tf_ 12 0) rfl rfl (any_of HT_.out (by kernel_rfl)) (fun _ _ _ h => h) (Or.inl ⟨by rfl, ?_⟩) ?_ ?_
   rotate_left; · (intro w'; go_simp; with_reducible rfl)
   rotate_left; · (simp only [Act.put, sT_, sO_, sN_, i64_w, i32_w]; rfl)
   refine done_ (done_of HT_.out (by kernel_rfl)) ?_
   try go_wp2
   replace HO_7 := Aside0.mk (Kd.R_drew HO_7.out)
   replace BK188 := Aside0.mk (blk_drew BK188.out)
   replace HB := Aside0.mk (below_drew1 HB.out)
   have p191 : 0 ≤ ((ji8) : Int) := of_decide_eq_true (by first | (with_reducible assumption) | assumption)
   have q191 : (ji8) < (x7_1.length : Int) := of_decide_eq_true (by first | (with_reducible assumption) | assumption)
   obtain ⟨ad191, e191, hx191_0, hx191_1, hx191_2, hx191_3, hx191_4, hx191_5, hx191_6, hx191_7, hx191_8, hx191_9⟩ := at_T39 (Kd.R_reads' HO_7.out).2.2 (ji8) p191 q191
   obtain rfl : ad189 = ad191 := (by injection e191)
   replace p191 := eq_true p191
   replace q191 := eq_true q191
   refine start_ (n := 13) (S := fun w' => w'.cell? ⟨gb188, 0, none⟩ = some (.string ((rd_T39 l0 x13_1).f0.f0)) ∧ w'.cell? ⟨gb188, 1, none⟩ = some (.string ((rd_T39 l0 x13_1).f0.f1)) ∧ w'.cell? ⟨gb188, 2, none⟩ = some (.int .i64 ((rd_T39 l0 x13_1).f0.f2)) ∧ w'.cell? ⟨gb188, 3, none⟩ = some (.string ((rd_T39 l0 x13_1).f0.f3)) ∧ w'.cell? ⟨gb188, 4, none⟩ = some (.int .i64 ((rd_T39 l0 x13_1).f1.f0)) ∧ w'.cell? ⟨gb188, 5, none⟩ = some (.bool ((rd_T39 l0 x13_1).f1.f1)) ∧ w'.cell? ⟨gb188, 6, none⟩ = some (.int .i64 ((rd_T39 l0 x13_1).f1.f2)) ∧ w'.cell? ⟨gb188, 7, none⟩ = some (.int .i64 ((rd_T39 l0 x13_1).f1.f3.f0)) ∧ w'.cell? ⟨gb188, 8, none⟩ = some (.int .i64 ((rd_T39 l0 x13_1).f1.f3.f1)) ∧ w'.cell? ⟨gb188, 9, none⟩ = some (.string ((rd_T39 l0 x13_1).f1.f3.f2)) ∧ w'.cell? (ad189.add (((ji8)).toNat * 10)) = some (.string ((rd_T39 x7_1 (ji8)).f0.f0)) ∧ w'.cell? ⟨(ad189.add (((ji8)).toNat * 10)).block, (ad189.add (((ji8)).toNat * 10)).off + 1, none⟩ = some (.string ((rd_T39 x7_1 (ji8)).f0.f1)) ∧ w'.cell? ⟨(ad189.add (((ji8)).toNat * 10)).block, (ad189.add (((ji8)).toNat * 10)).off + 2, none⟩ = some (.int .i64 ((rd_T39 x7_1 (ji8)).f0.f2)) ∧ w'.cell? ⟨(ad189.add (((ji8)).toNat * 10)).block, (ad189.add (((ji8)).toNat * 10)).off + 3, none⟩ = some (.string ((rd_T39 x7_1 (ji8)).f0.f3)) ∧ w'.cell? ⟨(ad189.add (((ji8)).toNat * 10)).block, (ad189.add (((ji8)).toNat * 10)).off + 4, none⟩ = some (.int .i64 ((rd_T39 x7_1 (ji8)).f1.f0)) ∧ w'.cell? ⟨(ad189.add (((ji8)).toNat * 10)).block, (ad189.add (((ji8)).toNat * 10)).off + 5, none⟩ = some (.bool ((rd_T39 x7_1 (ji8)).f1.f1)) ∧ w'.cell? ⟨(ad189.add (((ji8)).toNat * 10)).block, (ad189.add (((ji8)).toNat * 10)).off + 6, none⟩ = some (.int .i64 ((rd_T39 x7_1 (ji8)).f1.f2)) ∧ w'.cell? ⟨(ad189.add (((ji8)).toNat * 10)).block, (ad189.add (((ji8)).toNat * 10)).off + 7, none⟩ = some (.int .i64 ((rd_T39 x7_1 (ji8)).f1.f3.f0)) ∧ w'.cell? ⟨(ad189.add (((ji8)).toNat * 10)).block, (ad189.add (((ji8)).toNat * 10)).off + 8, none⟩ = some (.int .i64 ((rd_T39 x7_1 (ji8)).f1.f3.f1)) ∧ w'.cell? ⟨(ad189.add (((ji8)).toNat * 10)).block, (ad189.add (((ji8)).toNat * 10)).off + 9, none⟩ = some (.string ((rd_T39 x7_1 (ji8)).f1.f3.f2))) (ds := [12]) (tf_ 0 13) (by kernel_rfl) rfl rfl ⟨(blk_cell BK188.out 0).trans rfl, (blk_cell BK188.out 1).trans rfl, (blk_cell BK188.out 2).trans rfl, (blk_cell BK188.out 3).trans rfl, (blk_cell BK188.out 4).trans rfl, (blk_cell BK188.out 5).trans rfl, (blk_cell BK188.out 6).trans rfl, (blk_cell BK188.out 7).trans rfl, (blk_cell BK188.out 8).trans rfl, (blk_cell BK188.out 9).trans rfl, hx191_0, hx191_1, hx191_2, hx191_3, hx191_4, hx191_5, hx191_6, hx191_7, hx191_8, hx191_9⟩ (fun hHeld => ?_); refine with_tabW api_Cell_43.tab7 api_Cell_43.bits7 (fun HT_ HW_ => ?_)
   generalize w20.drew = w21 at HO_7 BK188 HB hx191_0 hx191_1 hx191_2 hx191_3 hx191_4 hx191_5 hx191_6 hx191_7 hx191_8 hx191_9 hHeld ⊢
   refine pure_ (i := 0) (N := some 31) (v := ?_) (a' := ?_) (tf_ 1 12) rfl rfl (any_of HT_.out (by kernel_rfl)) (fun _ _ _ h => h) (Or.inl ⟨by rfl, ?_⟩) ?_ ?_
   rotate_left; · (intro w'; go_simp; with_reducible rfl)
   rotate_left; · (simp only [Act.put, sT_, sO_, sN_, i64_w, i32_w]; rfl)
   refine pure_ (i := 1) (N := some 32) (v := ?_) (a' := ?_) (tf_ 2 11) rfl rfl (any_of HT_.out (by kernel_rfl)) (fun _ _ _ h => h) (Or.inl ⟨by rfl, ?_⟩) ?_ ?_
   rotate_left; · (intro w'; go_simp; with_reducible rfl)
   rotate_left; · (simp only [Act.put, sT_, sO_, sN_, i64_w, i32_w]; rfl)
   refine pure_ (i := 2) (N := some 33) (v := ?_) (a' := ?_) (tf_ 3 10) rfl rfl (any_of HT_.out (by kernel_rfl)) (fun _ _ _ h => h) (Or.inl ⟨by rfl, ?_⟩) ?_ ?_
   rotate_left; · (intro w'; go_simp; with_reducible rfl)
   rotate_left; · (simp only [Act.put, sT_, sO_, sN_, i64_w, i32_w]; rfl)
   refine pure_ (i := 3) (N := some 34) (v := ?_) (a' := ?_) (tf_ 4 9) rfl rfl (any_of HT_.out (by kernel_rfl)) (fun _ _ _ h => h) (Or.inl ⟨by rfl, ?_⟩) ?_ ?_
   rotate_left; · (intro w'; go_simp; with_reducible rfl)
   rotate_left; · (simp only [Act.put, sT_, sO_, sN_, i64_w, i32_w]; rfl)
   refine pure_ (i := 4) (N := some 35) (v := ?_) (a' := ?_) (tf_ 5 8) rfl rfl (any_of HT_.out (by kernel_rfl)) (fun _ _ _ h => h) (Or.inl ⟨by rfl, ?_⟩) ?_ ?_
   rotate_left; · (intro w'; go_simp; with_reducible rfl)
   rotate_left; · (simp only [Act.put, sT_, sO_, sN_, i64_w, i32_w]; rfl)
   refine pure_ (i := 5) (N := some 36) (v := ?_) (a' := ?_) (tf_ 6 7) rfl rfl (any_of HT_.out (by kernel_rfl)) (fun _ _ _ h => h) (Or.inl ⟨by rfl, ?_⟩) ?_ ?_
   rotate_left; · (intro w'; go_simp; with_reducible rfl)
   rotate_left; · (simp only [Act.put, sT_, sO_, sN_, i64_w, i32_w]; rfl)
   refine pure_ (i := 6) (N := some 37) (v := ?_) (a' := ?_) (tf_ 7 6) rfl rfl (any_of HT_.out (by kernel_rfl)) (fun _ _ _ h => h) (Or.inl ⟨by rfl, ?_⟩) ?_ ?_
   rotate_left; · (intro w'; go_simp; with_reducible rfl)
   rotate_left; · (simp only [Act.put, sT_, sO_, sN_, i64_w, i32_w]; rfl)
   refine pure_ (i := 7) (N := some 38) (v := ?_) (a' := ?_) (tf_ 8 5) rfl rfl (any_of HT_.out (by kernel_rfl)) (fun _ _ _ h => h) (Or.inl ⟨by rfl, ?_⟩) ?_ ?_
   rotate_left; · (intro w'; go_simp; with_reducible rfl)
   rotate_left; · (simp only [Act.put, sT_, sO_, sN_, i64_w, i32_w]; rfl)
   refine take_ (i := 8) (N := some 39) (v := ?_) (a' := ?_) (tf_ 9 4) rfl rfl (take_ofW HT_.out HW_.out (by kernel_rfl)) (fun _ _ _ h => h) (Or.inl ⟨by rfl, ?_⟩) hHeld ?_ ?_
   rotate_left; · (rintro w' ⟨s0, s1, s2, s3, s4, s5, s6, s7, s8, s9, s10, s11, s12, s13, s14, s15, s16, s17, s18, s19⟩; go_simp; with_reducible rfl)
   rotate_left; · (simp only [Act.put, sT_, sO_, sN_, i64_w, i32_w]; rfl)
   refine take_ (i := 9) (N := some 40) (v := ?_) (a' := ?_) (tf_ 10 3) rfl rfl (take_ofW HT_.out HW_.out (by kernel_rfl)) (fun _ _ _ h => h) (Or.inl ⟨by rfl, ?_⟩) hHeld ?_ ?_
   rotate_left; · (rintro w' ⟨s0, s1, s2, s3, s4, s5, s6, s7, s8, s9, s10, s11, s12, s13, s14, s15, s16, s17, s18, s19⟩; go_simp; with_reducible rfl)
   rotate_left; · (simp only [Act.put, sT_, sO_, sN_, i64_w, i32_w]; rfl)
   refine one_ (i := 10) (N := some 41) (tf_ 11 2) rfl rfl (one_of HT_.out (by kernel_rfl)) (by decide) (fun K hK => ?_)
   refine goesX_ Try.func45 (by kernel_rfl) rfl #[.agg #[.string ((rd_T39 x7_1 (ji8)).f0.f0), .string ((rd_T39 x7_1 (ji8)).f0.f1), .int .i64 ((rd_T39 x7_1 (ji8)).f0.f2), .string ((rd_T39 x7_1 (ji8)).f0.f3), .int .i64 ((rd_T39 x7_1 (ji8)).f1.f0), .bool ((rd_T39 x7_1 (ji8)).f1.f1), .int .i64 ((rd_T39 x7_1 (ji8)).f1.f2), .int .i64 ((rd_T39 x7_1 (ji8)).f1.f3.f0), .int .i64 ((rd_T39 x7_1 (ji8)).f1.f3.f1), .string ((rd_T39 x7_1 (ji8)).f1.f3.f2)], .agg #[.string ((rd_T39 l0 x13_1).f0.f0), .string ((rd_T39 l0 x13_1).f0.f1), .int .i64 ((rd_T39 l0 x13_1).f0.f2), .string ((rd_T39 l0 x13_1).f0.f3), .int .i64 ((rd_T39 l0 x13_1).f1.f0), .bool ((rd_T39 l0 x13_1).f1.f1), .int .i64 ((rd_T39 l0 x13_1).f1.f2), .int .i64 ((rd_T39 l0 x13_1).f1.f3.f0), .int .i64 ((rd_T39 l0 x13_1).f1.f3.f1), .string ((rd_T39 l0 x13_1).f1.f3.f2)]] (by rfl) rfl rfl (by (try simp only [mT_, mC_, mN_]); first | done | (simp only [hji8]; rfl) | rfl | (simp only [List.length_drop, List.length_take]; rfl)) ?_
   with_reducible refine (cell_Norm_3.calls k1 ((rd_T39 x7_1 (ji8)).f0.f0) ((rd_T39 x7_1 (ji8)).f0.f1) ((rd_T39 x7_1 (ji8)).f0.f2) ((rd_T39 x7_1 (ji8)).f0.f3) ((rd_T39 x7_1 (ji8)).f1.f0) ((rd_T39 x7_1 (ji8)).f1.f1) ((rd_T39 x7_1 (ji8)).f1.f2) ((rd_T39 x7_1 (ji8)).f1.f3.f0) ((rd_T39 x7_1 (ji8)).f1.f3.f1) ((rd_T39 x7_1 (ji8)).f1.f3.f2) ((rd_T39 l0 x13_1).f0.f0) ((rd_T39 l0 x13_1).f0.f1) ((rd_T39 l0 x13_1).f0.f2) ((rd_T39 l0 x13_1).f0.f3) ((rd_T39 l0 x13_1).f1.f0) ((rd_T39 l0 x13_1).f1.f1) ((rd_T39 l0 x13_1).f1.f2) ((rd_T39 l0 x13_1).f1.f3.f0) ((rd_T39 l0 x13_1).f1.f3.f1) ((rd_T39 l0 x13_1).f1.f3.f2) t192 t193 t194 t195 t196 t197 t198 t199 t200 t201 _ A13.out).mono ?_
   rintro e w22 ⟨rfl, hb⟩
   have HS10_ := (hb.cell (World.block_lt_of_cell? _ _ (hHeld.2.2.2.2.2.2.2.2.2.2.1))).trans (hHeld.2.2.2.2.2.2.2.2.2.2.1)
   have HS11_ := (hb.cell (World.block_lt_of_cell? _ _ (hHeld.2.2.2.2.2.2.2.2.2.2.2.1))).trans (hHeld.2.2.2.2.2.2.2.2.2.2.2.1)
   have HS12_ := (hb.cell (World.block_lt_of_cell? _ _ (hHeld.2.2.2.2.2.2.2.2.2.2.2.2.1))).trans (hHeld.2.2.2.2.2.2.2.2.2.2.2.2.1)
   have HS13_ := (hb.cell (World.block_lt_of_cell? _ _ (hHeld.2.2.2.2.2.2.2.2.2.2.2.2.2.1))).trans (hHeld.2.2.2.2.2.2.2.2.2.2.2.2.2.1)
   have HS14_ := (hb.cell (World.block_lt_of_cell? _ _ (hHeld.2.2.2.2.2.2.2.2.2.2.2.2.2.2.1))).trans (hHeld.2.2.2.2.2.2.2.2.2.2.2.2.2.2.1)
   have HS15_ := (hb.cell (World.block_lt_of_cell? _ _ (hHeld.2.2.2.2.2.2.2.2.2.2.2.2.2.2.2.1))).trans (hHeld.2.2.2.2.2.2.2.2.2.2.2.2.2.2.2.1)
   have HS16_ := (hb.cell (World.block_lt_of_cell? _ _ (hHeld.2.2.2.2.2.2.2.2.2.2.2.2.2.2.2.2.1))).trans (hHeld.2.2.2.2.2.2.2.2.2.2.2.2.2.2.2.2.1)
   have HS17_ := (hb.cell (World.block_lt_of_cell? _ _ (hHeld.2.2.2.2.2.2.2.2.2.2.2.2.2.2.2.2.2.1))).trans (hHeld.2.2.2.2.2.2.2.2.2.2.2.2.2.2.2.2.2.1)
   have HS18_ := (hb.cell (World.block_lt_of_cell? _ _ (hHeld.2.2.2.2.2.2.2.2.2.2.2.2.2.2.2.2.2.2.1))).trans (hHeld.2.2.2.2.2.2.2.2.2.2.2.2.2.2.2.2.2.2.1)
   have HS19_ := (hb.cell (World.block_lt_of_cell? _ _ (hHeld.2.2.2.2.2.2.2.2.2.2.2.2.2.2.2.2.2.2.2))).trans (hHeld.2.2.2.2.2.2.2.2.2.2.2.2.2.2.2.2.2.2.2)
   refine ⟨_, rfl, ?_⟩
   replace HO_7 := kR HO_7 hb
   replace BK188 := kB BK188 hb
   replace HB := Aside0.mk (below_step (by repeat (first | (with_reducible first | exact HB.out | apply bA_ | apply bN_ | apply bD_ | refine bS_ ?_ GE188) | exact HB.out)) hb)
   (try clear hb)
   (try clear hb2)
   (try clear hk)
   (try clear hi)
   have p14 : 0 ≤ ((ji8) : Int) := of_decide_eq_true (by first | (with_reducible assumption) | assumption)
   have q14 : ((ji8) : Int) < ((x7_1.length : Int) : Int) := of_decide_eq_true (by first | (with_reducible assumption) | assumption)
   obtain ⟨go14, co14, eo14, gb14, gl14, cl14, HG14⟩ := Kd.R_form HO_7.out (by omega)
   (first | cases eo14 | (injection eo14 with ea_ en_ ec_; (first | subst ea_ | (injection ea_ with ea_; subst ea_)); subst ec_; clear en_))
   have GB14 := Aside0.mk gb14
   have GG14 := Aside0.mk HG14
   clear gb14 gl14 HG14
   (first | simp only [add_plain] at hx189_0 | skip)
   (first | simp only [add_plain] at hx189_1 | skip)
   (first | simp only [add_plain] at hx189_2 | skip)
   (first | simp only [add_plain] at hx189_3 | skip)
   (first | simp only [add_plain] at hx189_4 | skip)
   (first | simp only [add_plain] at hx189_5 | skip)
   (first | simp only [add_plain] at hx189_6 | skip)
   (first | simp only [add_plain] at hx189_7 | skip)
   (first | simp only [add_plain] at hx189_8 | skip)
   (first | simp only [add_plain] at hx189_9 | skip)
   (first | simp only [add_plain] at hx191_0 | skip)
   (first | simp only [add_plain] at hx191_1 | skip)
   (first | simp only [add_plain] at hx191_2 | skip)
   (first | simp only [add_plain] at hx191_3 | skip)
   (first | simp only [add_plain] at hx191_4 | skip)
   (first | simp only [add_plain] at hx191_5 | skip)
   (first | simp only [add_plain] at hx191_6 | skip)
   (first | simp only [add_plain] at hx191_7 | skip)
   (first | simp only [add_plain] at hx191_8 | skip)
   (first | simp only [add_plain] at hx191_9 | skip)
   obtain ⟨ce14, hcl14, hM14, hcc14, hfr14⟩ := Kd.R_elem HO_7.out z39 ((ji8) : Int) p14 q14
   obtain rfl := k39_openM hM14
   have hx14_0 : World.cell? _ ⟨go14, ((ji8) : Int).toNat * 10, none⟩ = some (.string ((rd_T39 x7_1 (ji8)).f0.f0)) := hcc14 0 _ rfl
   have hx14_1 : World.cell? _ ⟨go14, ((ji8) : Int).toNat * 10 + 1, none⟩ = some (.string ((rd_T39 x7_1 (ji8)).f0.f1)) := hcc14 1 _ rfl
   have hx14_2 : World.cell? _ ⟨go14, ((ji8) : Int).toNat * 10 + 2, none⟩ = some (.int .i64 ((rd_T39 x7_1 (ji8)).f0.f2)) := hcc14 2 _ rfl
   have hx14_3 : World.cell? _ ⟨go14, ((ji8) : Int).toNat * 10 + 3, none⟩ = some (.string ((rd_T39 x7_1 (ji8)).f0.f3)) := hcc14 3 _ rfl
   have hx14_4 : World.cell? _ ⟨go14, ((ji8) : Int).toNat * 10 + 4, none⟩ = some (.int .i64 ((rd_T39 x7_1 (ji8)).f1.f0)) := hcc14 4 _ rfl
   have hx14_5 : World.cell? _ ⟨go14, ((ji8) : Int).toNat * 10 + 5, none⟩ = some (.bool ((rd_T39 x7_1 (ji8)).f1.f1)) := hcc14 5 _ rfl
   have hx14_6 : World.cell? _ ⟨go14, ((ji8) : Int).toNat * 10 + 6, none⟩ = some (.int .i64 ((rd_T39 x7_1 (ji8)).f1.f2)) := hcc14 6 _ rfl
   have hx14_7 : World.cell? _ ⟨go14, ((ji8) : Int).toNat * 10 + 7, none⟩ = some (.int .i64 ((rd_T39 x7_1 (ji8)).f1.f3.f0)) := hcc14 7 _ rfl
   have hx14_8 : World.cell? _ ⟨go14, ((ji8) : Int).toNat * 10 + 8, none⟩ = some (.int .i64 ((rd_T39 x7_1 (ji8)).f1.f3.f1)) := hcc14 8 _ rfl
   have hx14_9 : World.cell? _ ⟨go14, ((ji8) : Int).toNat * 10 + 9, none⟩ = some (.string ((rd_T39 x7_1 (ji8)).f1.f3.f2)) := hcc14 9 _ rfl
   have hf14_0 : World.frozen? _ ⟨go14, ((ji8) : Int).toNat * 10, none⟩ = false := hfr14 0
   have hf14_1 : World.frozen? _ ⟨go14, ((ji8) : Int).toNat * 10 + 1, none⟩ = false := hfr14 1
   have hf14_2 : World.frozen? _ ⟨go14, ((ji8) : Int).toNat * 10 + 2, none⟩ = false := hfr14 2
   have hf14_3 : World.frozen? _ ⟨go14, ((ji8) : Int).toNat * 10 + 3, none⟩ = false := hfr14 3
   have hf14_4 : World.frozen? _ ⟨go14, ((ji8) : Int).toNat * 10 + 4, none⟩ = false := hfr14 4
   have hf14_5 : World.frozen? _ ⟨go14, ((ji8) : Int).toNat * 10 + 5, none⟩ = false := hfr14 5
   have hf14_6 : World.frozen? _ ⟨go14, ((ji8) : Int).toNat * 10 + 6, none⟩ = false := hfr14 6
   have hf14_7 : World.frozen? _ ⟨go14, ((ji8) : Int).toNat * 10 + 7, none⟩ = false := hfr14 7
   have hf14_8 : World.frozen? _ ⟨go14, ((ji8) : Int).toNat * 10 + 8, none⟩ = false := hfr14 8
   have hf14_9 : World.frozen? _ ⟨go14, ((ji8) : Int).toNat * 10 + 9, none⟩ = false := hfr14 9
   clear hcl14 hcc14 hfr14 hM14
   replace p14 := eq_true p14
   replace q14 := eq_true q14
   obtain ⟨ce23, hcl23, hM23, hcc23, hfr23⟩ := Kd.R_elem HO_7.out z39 ((ji8) : Int) (of_decide_eq_true (by first | (with_reducible assumption) | assumption)) (by have h_ : ((ji8) : Int) < ((x7_1.length : Int) : Int) := of_decide_eq_true (by first | (with_reducible assumption) | assumption); first | exact h_ | (have e_ := (Kd.R_reads' HO_7.out).1; omega) | simpa using h_)
   obtain rfl := k39_openM hM23
   have HP23 := (Kd.R_seg HO_7.out ((ji8) : Int) (of_decide_eq_true (by first | (with_reducible assumption) | assumption)) (by have h_ : ((ji8) : Int) < ((x7_1.length : Int) : Int) := of_decide_eq_true (by first | (with_reducible assumption) | assumption); first | exact h_ | (have e_ := (Kd.R_reads' HO_7.out).1; omega) | simpa using h_) (seg := [.string t192, .string t193, .int .i64 t194, .string t195, .int .i64 t196, .bool t197, .int .i64 t198, .int .i64 t199, .int .i64 t200, .string t201]) (j := 0) hcl23 hcc23 (show 10 ≤ 10 from by decide) (x' := (⟨(⟨t192, t193, t194, t195⟩ : S33), (⟨t196, t197, t198, (⟨t199, t200, t201⟩ : S35)⟩ : S37)⟩ : S39)) (k39_mkM _ _ _ (⟨(⟨t192, t193, t194, t195⟩ : S33), (⟨t196, t197, t198, (⟨t199, t200, t201⟩ : S35)⟩ : S37)⟩ : S39) ) (fun _ hk => hk)).1
   rw [← Ny202.out] at HP23
   have HQ23 := Aside0.mk HP23
   have hT23 := there_of hcl23 hcc23 hfr23
   clear hcl23 hcc23 hfr23 hM23 HP23
   refine hK.out _ _ ⟨(blk_cell BK188.out 0).trans rfl, (blk_cell BK188.out 1).trans rfl, (blk_cell BK188.out 2).trans rfl, (blk_cell BK188.out 3).trans rfl, (blk_cell BK188.out 4).trans rfl, (blk_cell BK188.out 5).trans rfl, (blk_cell BK188.out 6).trans rfl, (blk_cell BK188.out 7).trans rfl, (blk_cell BK188.out 8).trans rfl, (blk_cell BK188.out 9).trans rfl, HS10_, HS11_, HS12_, HS13_, HS14_, HS15_, HS16_, HS17_, HS18_, HS19_⟩ (fun hHeld => ?_)
   clear hK K
   refine norm_ (a' := ?_) ?_ ?_
   rotate_left
   ·
    show Act.put _ (some 41) _ = _
    simp only [Act.put, sT_, sO_, sN_, i64_w, i32_w]
    rfl
   refine pure_ (i := 11) (N := some 42) (v := ?_) (a' := ?_) (tf_ 12 1) rfl rfl (any_of HT_.out (by kernel_rfl)) (fun _ _ _ h => h) (Or.inl ⟨by rfl, ?_⟩) ?_ ?_
   rotate_left; · (intro w'; go_simp; with_reducible rfl)
   rotate_left; · (simp only [Act.put, sT_, sO_, sN_, i64_w, i32_w]; rfl)
   refine last_ (i := 12) (N := none) (tf_ 13 0) rfl rfl (one_of HT_.out (by kernel_rfl)) (by decide) (fun K hK => ?_)
   refine skip_ (w1 := ?_) (by rfl) rfl ?_ ?_
   rotate_left
   ·
    go_simp
    rfl
   refine hK.out _ _ ?_
   clear hK K
   refine done_ (done_of HT_.out (by kernel_rfl)) ?_
   try go_wp2
   go_roundg k1
   case measure => have := HK1.out; omega
   case rel => exact ⟨(y202), (wrap64 (x13_1 + 1)), (by first | rfl | (simp; done) | (simp [bne, *]; done)), H', ⟨by have := HK1.out; omega⟩, ⟨by (with_reducible repeat (first | apply Kd.R_alloc | apply Kd.R_drewN | apply Kd.R_drew)); exact Kd.R_mono HQ23.out (fun _ hk => trivial)⟩, ⟨by repeat (first | (with_reducible first | exact HB.out | apply bA_ | apply bN_ | apply bD_ | refine below_set ?_ GB14.out | refine below_set ?_ GB14.out | refine below_set ?_ GB14.out | refine below_set ?_ GB14.out | refine below_set ?_ GB14.out | refine below_set ?_ GB14.out | refine below_set ?_ GB14.out | refine below_set ?_ GB14.out | refine below_set ?_ GB14.out | refine below_set ?_ GB14.out | refine bS_ ?_ GE188) | exact HB.out)⟩⟩
end Go.Proofs.Ytabiekkebdocnaa.Q
