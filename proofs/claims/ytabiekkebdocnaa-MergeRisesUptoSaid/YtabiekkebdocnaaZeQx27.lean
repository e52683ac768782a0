/- Lemmas for this claim's walk: no condition of their own. -/
import Derived.Test.YtabiekkebdocnaaZeSq
import Derived.Test.YtabiekkebdocnaaZeQx0
import Derived.Test.YtabiekkebdocnaaZeQx26
namespace Go.Proofs.Ytabiekkebdocnaa.Q
open Go.RowKit Go.Proofs.YtabiekkebdocnaaW.PrintWords Go.Proofs.YtabiekkebdocnaaW.PrintLast Go.Proofs.YtabiekkebdocnaaW.PrintMore
attribute [local go_sem] max2_int min2_int max_two min_two max_three min_three max_four min_four
set_option linter.unusedVariables false
set_option linter.unusedSimpArgs false
def skerryref05_Norm.l0 : Nat → List (S39) → List (S39) → Int → Int → Option ((List (S39)))
 | 0, _, _, _, _ => none
 | k + 1, x3, x6, x7, x8 => if x8 < x7 then (if 0 ≤ x8 then (if x8 < (x6.length : Int) then ((skerryref05_Add.f x3 ((rd_T39 x6 x8).f0.f0) ((rd_T39 x6 x8).f0.f1) ((rd_T39 x6 x8).f0.f2) ((rd_T39 x6 x8).f0.f3) ((rd_T39 x6 x8).f1.f0) ((rd_T39 x6 x8).f1.f1) ((rd_T39 x6 x8).f1.f2) ((rd_T39 x6 x8).f1.f3.f0) ((rd_T39 x6 x8).f1.f3.f1) ((rd_T39 x6 x8).f1.f3.f2)).bind fun t313 => (skerryref05_Norm.l0 k t313 x6 x7 (wrap64 (x8 + 1)))) else (none)) else (none)) else (some x3)
def skerryref05_Norm.f (k : Nat) (l0 : List (S39)) : Option ((List (S39))) := skerryref05_Norm.l0 k ([] : List (S39)) l0 (l0.length : Int) 0
set_option maxHeartbeats 8000000 in
set_option maxRecDepth 100000 in
theorem skerryref05_Norm.calls (k : Nat) (A0 : Option Addr) (c0 : Nat) (l0 : List (S39)) (r : List (S39)) (w : World) (hr0 : Kd.C k39 w A0 l0.length l0) (hc0 : l0.length ≤ c0) (h : skerryref05_Norm.f k l0 = some r) :
  Calls Try.prog 17 #[.slice A0 l0.length c0] w fun e w' => ∃ v0_ : Value, e = .returned (v0_) ∧ Kd.R k39 39 w' w.heap.size (fun _ => True) v0_ r ∧ Below w.heap.size w w' := by
 have hu39 := Try.underlying39
 have HR0 := Aside0.mk hr0
 have HC0 := Aside0.mk hc0
 clear hr0 hc0
 have HB := Aside0.mk (Below.refl w.heap.size w)
 have H : (skerryref05_Norm.l0 k ([] : List (S39)) l0 (l0.length : Int) 0) = some r := h
 clear h
 have H' := Aside0.mk H
 clear H
 go_enter Try.func17, Try.ntmps17
 go_wp2
 go_loopg [3, 8] k (fun kq v3 v8 w' => ∃ (x3_1 : List (S39)) (x8_1 : Int), v8 = .int .i64 x8_1 ∧ Aside0 (skerryref05_Norm.l0 kq x3_1 l0 (l0.length : Int) x8_1 = some r) ∧ Aside0 (kq ≤ k) ∧ Aside0 (Kd.R k39 39 w' w.heap.size (fun _ => True) v3 x3_1) ∧ Aside0 (Below w.heap.size w w'))
 case atStart => exact ⟨(([] : List (S39))), (0), (by first | rfl | (simp; done) | (simp [bne, *]; done)), H', ⟨Nat.le_refl _⟩, ⟨by first | exact Kd.R_nil _ _ _ _ _ | exact Kd.N_nil _ _ _ _ _ | exact Kd.V_nil _ _ _ _ _ | exact Kd.Q_nil _ _ _ _ _ | exact Kd.S_nil _ _ _ _ _⟩, ⟨kwW HB⟩⟩
 case round =>
  clear H'
  try clear c1
  obtain ⟨x3_1, x8_1, rfl, HA, HK1, HO_3, HB⟩ := hrel
  cases gk with
  | zero => exact absurd HA.out (by simp [skerryref05_Norm.l0])
  | succ k1 =>
   have H := HA.out
   clear HA
   simp only [skerryref05_Norm.l0] at H
   by_cases c2 : x8_1 < (l0.length : Int)
   rotate_left
   ·
    rw [if_neg c2] at H
    have c2b0 : decide (x8_1 < (l0.length : Int)) = false := decide_eq_false c2
    clear c2
    obtain rfl := Option.some.inj H
    go_wp2
    go_ret
    exact ⟨_, by first | rfl | (simp <;> rfl) | (simp [*] <;> rfl), krW HO_3, kwW HB⟩
   rw [if_pos c2] at H
   have c2b0 : decide (x8_1 < (l0.length : Int)) = true := decide_eq_true c2
   clear c2
   by_cases c3 : 0 ≤ x8_1
   rotate_left
   ·
    rw [if_neg c3] at H
    exact absurd H (by simp)
   rw [if_pos c3] at H
   have c3b0 : decide (0 ≤ x8_1) = true := decide_eq_true c3
   clear c3
   by_cases c4 : x8_1 < (l0.length : Int)
   rotate_left
   ·
    rw [if_neg c4] at H
    exact absurd H (by simp)
   rw [if_pos c4] at H
   have c4b0 : decide (x8_1 < (l0.length : Int)) = true := decide_eq_true c4
   clear c4
   replace H := Option.bind_eq_some_iff.mp H
   obtain ⟨t313, A50, H⟩ := H
   have A5 := Aside0.mk A50
   clear A50
   have H' := Aside0.mk H
   clear H
   have p311 : 0 ≤ (x8_1 : Int) := of_decide_eq_true (by first | (with_reducible assumption) | assumption)
   have q311 : x8_1 < (l0.length : Int) := of_decide_eq_true (by first | (with_reducible assumption) | assumption)
   obtain ⟨ad311, e311, hx311_0, hx311_1, hx311_2, hx311_3, hx311_4, hx311_5, hx311_6, hx311_7, hx311_8, hx311_9⟩ := at_T39 HR0.out x8_1 p311 q311
   cases e311
   replace hx311_0 := cB_ HB hx311_0
   replace hx311_1 := cB_ HB hx311_1
   replace hx311_2 := cB_ HB hx311_2
   replace hx311_3 := cB_ HB hx311_3
   replace hx311_4 := cB_ HB hx311_4
   replace hx311_5 := cB_ HB hx311_5
   replace hx311_6 := cB_ HB hx311_6
   replace hx311_7 := cB_ HB hx311_7
   replace hx311_8 := cB_ HB hx311_8
   replace hx311_9 := cB_ HB hx311_9
   replace p311 := eq_true p311
   replace q311 := eq_true q311
   go_wp2_with (first | ((with_reducible refine gate_dst (N := 5) rfl ?_); refine box_event ?hg (N := 5) ?hd (cs := #[.string (⟨#[]⟩ : ByteArray), .string (⟨#[]⟩ : ByteArray), .int .i64 0, .string (⟨#[]⟩ : ByteArray), .int .i64 0, .bool false, .int .i64 0, .int .i64 0, .int .i64 0, .string (⟨#[]⟩ : ByteArray)]) (t := 39) ?hr ?_; (case hd => rfl); (case hg => rfl); (case hr => first | (go_simp; done) | (go_simp; rfl)); intro gb312 hg w6 hbox hb; replace HO_3 := Aside0.mk (Kd.R_below (Kd.R_elderB (krW HO_3) gb312 (Nat.le_of_eq hg.symm)) hb); have BK312 := Aside0.mk (hbox); have GW312 := Aside0.mk ((by rw [hg]; exact (bZ_ (kwW HB)) : w.heap.size ≤ gb312)); replace HB := Aside0.mk (below_step (kwW HB) hb); have GE312 := GW312; clear hb hbox hg; obtain ⟨_, _, _, _, _, _, _, _, _, _, _, _, _, _, _, _, _, _, _, _⟩ := czf10 BK312; obtain ⟨Ao8, co8, eo8⟩ := Kd.R_slice HO_3.out; subst eo8) | ((with_reducible refine gate_callee (f := 34) rfl ?_); refine goesL_ (some 14) rfl rfl Try.func34 (by kernel_rfl) rfl #[.slice Ao8 x3_1.length co8, .agg #[.string ((rd_T39 l0 x8_1).f0.f0), .string ((rd_T39 l0 x8_1).f0.f1), .int .i64 ((rd_T39 l0 x8_1).f0.f2), .string ((rd_T39 l0 x8_1).f0.f3), .int .i64 ((rd_T39 l0 x8_1).f1.f0), .bool ((rd_T39 l0 x8_1).f1.f1), .int .i64 ((rd_T39 l0 x8_1).f1.f2), .int .i64 ((rd_T39 l0 x8_1).f1.f3.f0), .int .i64 ((rd_T39 l0 x8_1).f1.f3.f1), .string ((rd_T39 l0 x8_1).f1.f3.f2)]] rfl (by (try simp only [mT_, mC_, mN_]); first | done | rfl) ?_; (with_reducible refine (skerryref05_Add.calls _ _ x3_1 ((rd_T39 l0 x8_1).f0.f0) ((rd_T39 l0 x8_1).f0.f1) ((rd_T39 l0 x8_1).f0.f2) ((rd_T39 l0 x8_1).f0.f3) ((rd_T39 l0 x8_1).f1.f0) ((rd_T39 l0 x8_1).f1.f1) ((rd_T39 l0 x8_1).f1.f2) ((rd_T39 l0 x8_1).f1.f3.f0) ((rd_T39 l0 x8_1).f1.f3.f1) ((rd_T39 l0 x8_1).f1.f3.f2) t313 _ ?side1 ?side2 A5.out).mono ?_); (case side1 => refine (Kd.R_reads' (e := 39) (base := w.heap.size) (ok := fun k_ => (True ∧ k_ ≠ gb312)) (n := x3_1.length) (c := co8) ?_).2.2; exact (by (with_reducible repeat (first | apply Kd.R_alloc | apply Kd.R_drewN | apply Kd.R_drew)); exact (Kd.R_mono (rf10 (Kd.R_mono HO_3.out (fun k_ hk => (⟨hk, hk.2⟩ : _ ∧ k_ ≠ gb312))) (fun _ hk => hk.2)) (fun _ h_ => h_.1)))); (case side2 => exact (Kd.R_reads' HO_3.out).2.1); rintro e w9 ⟨v314, rfl, ho0, hb⟩; refine ⟨_, rfl, ?_⟩; have HO315 := Aside0.mk (Kd.R_lower (Kd.R_newB (Kd.R_new' ho0 (Kd.R_lt (by (with_reducible repeat (first | apply Kd.R_alloc | apply Kd.R_drewN | apply Kd.R_drew)); exact (Kd.R_mono (rf10 (Kd.R_mono HO_3.out (fun k_ hk => (⟨hk, hk.2⟩ : _ ∧ k_ ≠ gb312))) (fun _ hk => hk.2)) (fun _ h_ => h_.1))))) (g := gb312) (o := .cells #[.string ((rd_T39 l0 x8_1).f0.f0), .string ((rd_T39 l0 x8_1).f0.f1), .int .i64 ((rd_T39 l0 x8_1).f0.f2), .string ((rd_T39 l0 x8_1).f0.f3), .int .i64 ((rd_T39 l0 x8_1).f1.f0), .bool ((rd_T39 l0 x8_1).f1.f1), .int .i64 ((rd_T39 l0 x8_1).f1.f2), .int .i64 ((rd_T39 l0 x8_1).f1.f3.f0), .int .i64 ((rd_T39 l0 x8_1).f1.f3.f1), .string ((rd_T39 l0 x8_1).f1.f3.f2)] 39 (0, 0)) (by (with_reducible repeat (first | refine blk_drewN ?_ _ | refine blk_drew ?_ | refine blk_alloc ?_ _)); exact bp10 (kbW BK312))) (bZ_ (by repeat (first | (with_reducible first | exact HB.out | apply bA_ | apply bN_ | apply bD_ | refine bS_ ?_ GE312) | exact HB.out)))); replace HO_3 := Aside0.mk (Kd.R_elder' (by (with_reducible repeat (first | apply Kd.R_alloc | apply Kd.R_drewN | apply Kd.R_drew)); exact (Kd.R_mono (rf10 (Kd.R_mono HO_3.out (fun k_ hk => (⟨hk, hk.2⟩ : _ ∧ k_ ≠ gb312))) (fun _ hk => hk.2)) (fun _ h_ => h_.1))) (Kd.R_base ho0) hb); replace BK312 := Aside0.mk (blk_below (g := gb312) (o := .cells #[.string ((rd_T39 l0 x8_1).f0.f0), .string ((rd_T39 l0 x8_1).f0.f1), .int .i64 ((rd_T39 l0 x8_1).f0.f2), .string ((rd_T39 l0 x8_1).f0.f3), .int .i64 ((rd_T39 l0 x8_1).f1.f0), .bool ((rd_T39 l0 x8_1).f1.f1), .int .i64 ((rd_T39 l0 x8_1).f1.f2), .int .i64 ((rd_T39 l0 x8_1).f1.f3.f0), .int .i64 ((rd_T39 l0 x8_1).f1.f3.f1), .string ((rd_T39 l0 x8_1).f1.f3.f2)] 39 (0, 0)) (by (with_reducible repeat (first | refine blk_drewN ?_ _ | refine blk_drew ?_ | refine blk_alloc ?_ _)); exact bp10 (kbW BK312)) hb); replace HB := Aside0.mk (below_step (by repeat (first | (with_reducible first | exact HB.out | apply bA_ | apply bN_ | apply bD_ | refine bS_ ?_ GE312) | exact HB.out)) hb); (try clear hb); (try clear hb2); (try clear hk); (try clear hi); (try clear ho0)))
   go_roundg k1
   case measure => have := HK1.out; omega
   case rel => exact ⟨(t313), (wrap64 (x8_1 + 1)), (by first | rfl | (simp; done) | (simp [bne, *]; done)), H', ⟨by have := HK1.out; omega⟩, ⟨by (with_reducible repeat (first | apply Kd.R_alloc | apply Kd.R_drewN | apply Kd.R_drew)); exact Kd.R_mono HO315.out (fun _ hk => trivial)⟩, ⟨by repeat (first | (with_reducible first | exact HB.out | apply bA_ | apply bN_ | apply bD_ | refine bS_ ?_ GE312) | exact HB.out)⟩⟩
end Go.Proofs.Ytabiekkebdocnaa.Q
