/- Lemmas for this claim's walk: no condition of their own. -/
import Derived.Test.YtlffkbcaphhldaaFbSq
import Derived.Test.YtlffkbcaphhldaaFbQx0
import Derived.Test.YtlffkbcaphhldaaFbQx15
namespace Go.Proofs.Ytlffkbcaphhldaa.Q
open Go.RowKit Go.Proofs.YtlffkbcaphhldaaW.PrintWords Go.Proofs.YtlffkbcaphhldaaW.PrintLast Go.Proofs.YtlffkbcaphhldaaW.PrintMore
attribute [local go_sem] max2_int min2_int max_two min_two max_three min_three max_four min_four
set_option linter.unusedVariables false
set_option linter.unusedSimpArgs false
def skerryref05_Norm.l0 : Nat → List (S37) → List (S37) → Int → Int → Option ((List (S37)))
 | 0, _, _, _, _ => none
 | k + 1, x3, x6, x7, x8 => if x8 < x7 then (if 0 ≤ x8 then (if x8 < (x6.length : Int) then ((skerryref05_Add.f x3 ((rd_T37 x6 x8).f0.f0) ((rd_T37 x6 x8).f0.f1) ((rd_T37 x6 x8).f0.f2) ((rd_T37 x6 x8).f0.f3) ((rd_T37 x6 x8).f1.f0) ((rd_T37 x6 x8).f1.f1) ((rd_T37 x6 x8).f1.f2) ((rd_T37 x6 x8).f1.f3.f0) ((rd_T37 x6 x8).f1.f3.f1) ((rd_T37 x6 x8).f1.f3.f2)).bind fun t155 => (skerryref05_Norm.l0 k t155 x6 x7 (wrap64 (x8 + 1)))) else (none)) else (none)) else (some x3)
def skerryref05_Norm.f (k : Nat) (l0 : List (S37)) : Option ((List (S37))) := skerryref05_Norm.l0 k ([] : List (S37)) l0 (l0.length : Int) 0
set_option maxHeartbeats 8000000 in
set_option maxRecDepth 100000 in
theorem skerryref05_Norm.calls (k : Nat) (A0 : Option Addr) (c0 : Nat) (l0 : List (S37)) (r : List (S37)) (w : World) (hr0 : Kd.C k37 w A0 l0.length l0) (hc0 : l0.length ≤ c0) (h : skerryref05_Norm.f k l0 = some r) :
  Calls Try.prog 12 #[.slice A0 l0.length c0] w fun e w' => ∃ v0_ : Value, e = .returned (v0_) ∧ Kd.R k37 37 w' w.heap.size (fun _ => True) v0_ r ∧ Below w.heap.size w w' := by
 have hu37 := Try.underlying37
 have HR0 := Aside0.mk hr0
 have HC0 := Aside0.mk hc0
 clear hr0 hc0
 have HB := Aside0.mk (Below.refl w.heap.size w)
 have H : (skerryref05_Norm.l0 k ([] : List (S37)) l0 (l0.length : Int) 0) = some r := h
 clear h
 have H' := Aside0.mk H
 clear H
 go_enter Try.func12, Try.ntmps12
 go_wp2
 go_loopg [3, 8] k (fun kq v3 v8 w' => ∃ (x3_1 : List (S37)) (x8_1 : Int), v8 = .int .i64 x8_1 ∧ Aside0 (skerryref05_Norm.l0 kq x3_1 l0 (l0.length : Int) x8_1 = some r) ∧ Aside0 (kq ≤ k) ∧ Aside0 (Kd.R k37 37 w' w.heap.size (fun _ => True) v3 x3_1) ∧ Aside0 (Below w.heap.size w w'))
 case atStart => exact ⟨(([] : List (S37))), (0), (by first | rfl | (simp; done) | (simp [bne, *]; done)), H', ⟨Nat.le_refl _⟩, ⟨by first | exact Kd.R_nil _ _ _ _ _ | exact Kd.N_nil _ _ _ _ _ | exact Kd.V_nil _ _ _ _ _ | exact Kd.Q_nil _ _ _ _ _ | exact Kd.S_nil _ _ _ _ _⟩, ⟨kwW HB⟩⟩
 case round =>
  clear H'
  try clear c1
  obtain ⟨x3_1, x8_1, rfl, HA, HK1, HO_3, HB⟩ := hrel
  cases gk with
  | zero => exact absurd HA.out (by simp [skerryref05_Norm.l0])
  | succ k1 =>
   have H := HA.out
   clear HA
   simp only [skerryref05_Norm.l0] at H
   by_cases c2 : x8_1 < (l0.length : Int)
   rotate_left
   ·
    rw [if_neg c2] at H
    have c2b0 : decide (x8_1 < (l0.length : Int)) = false := decide_eq_false c2
    clear c2
    obtain rfl := Option.some.inj H
    go_wp2
    go_ret
    exact ⟨_, by first | rfl | (simp <;> rfl) | (simp [*] <;> rfl), krW HO_3, kwW HB⟩
   rw [if_pos c2] at H
   have c2b0 : decide (x8_1 < (l0.length : Int)) = true := decide_eq_true c2
   clear c2
   by_cases c3 : 0 ≤ x8_1
   rotate_left
   ·
    rw [if_neg c3] at H
    exact absurd H (by simp)
   rw [if_pos c3] at H
   have c3b0 : decide (0 ≤ x8_1) = true := decide_eq_true c3
   clear c3
   by_cases c4 : x8_1 < (l0.length : Int)
   rotate_left
   ·
    rw [if_neg c4] at H
    exact absurd H (by simp)
   rw [if_pos c4] at H
   have c4b0 : decide (x8_1 < (l0.length : Int)) = true := decide_eq_true c4
   clear c4
   replace H := Option.bind_eq_some_iff.mp H
   obtain ⟨t155, A50, H⟩ := H
   have A5 := Aside0.mk A50
   clear A50
   have H' := Aside0.mk H
   clear H
   have p153 : 0 ≤ (x8_1 : Int) := of_decide_eq_true (by first | (with_reducible assumption) | assumption)
   have q153 : x8_1 < (l0.length : Int) := of_decide_eq_true (by first | (with_reducible assumption) | assumption)
   obtain ⟨ad153, e153, hx153_0, hx153_1, hx153_2, hx153_3, hx153_4, hx153_5, hx153_6, hx153_7, hx153_8, hx153_9⟩ := at_T37 HR0.out x8_1 p153 q153
   cases e153
   replace hx153_0 := cB_ HB hx153_0
   replace hx153_1 := cB_ HB hx153_1
   replace hx153_2 := cB_ HB hx153_2
   replace hx153_3 := cB_ HB hx153_3
   replace hx153_4 := cB_ HB hx153_4
   replace hx153_5 := cB_ HB hx153_5
   replace hx153_6 := cB_ HB hx153_6
   replace hx153_7 := cB_ HB hx153_7
   replace hx153_8 := cB_ HB hx153_8
   replace hx153_9 := cB_ HB hx153_9
   replace p153 := eq_true p153
   replace q153 := eq_true q153
   go_wp2_with (first | ((with_reducible refine gate_dst (N := 5) rfl ?_); refine box_event ?hg (N := 5) ?hd (cs := #[.string (⟨#[]⟩ : ByteArray), .string (⟨#[]⟩ : ByteArray), .int .i64 0, .string (⟨#[]⟩ : ByteArray), .int .i64 0, .bool false, .int .i64 0, .int .i64 0, .int .i64 0, .string (⟨#[]⟩ : ByteArray)]) (t := 37) ?hr ?_; (case hd => rfl); (case hg => rfl); (case hr => first | (go_simp; done) | (go_simp; rfl)); intro gb154 hg w6 hbox hb; replace HO_3 := Aside0.mk (Kd.R_below (Kd.R_elderB (krW HO_3) gb154 (Nat.le_of_eq hg.symm)) hb); have BK154 := Aside0.mk (hbox); have GW154 := Aside0.mk ((by rw [hg]; exact (bZ_ (kwW HB)) : w.heap.size ≤ gb154)); replace HB := Aside0.mk (below_step (kwW HB) hb); have GE154 := GW154; clear hb hbox hg; obtain ⟨_, _, _, _, _, _, _, _, _, _, _, _, _, _, _, _, _, _, _, _⟩ := czf10 BK154; obtain ⟨Ao8, co8, eo8⟩ := Kd.R_slice HO_3.out; subst eo8) | ((with_reducible refine gate_callee (f := 33) rfl ?_); refine goesL_ (some 14) rfl rfl Try.func33 (by kernel_rfl) rfl #[.slice Ao8 x3_1.length co8, .agg #[.string ((rd_T37 l0 x8_1).f0.f0), .string ((rd_T37 l0 x8_1).f0.f1), .int .i64 ((rd_T37 l0 x8_1).f0.f2), .string ((rd_T37 l0 x8_1).f0.f3), .int .i64 ((rd_T37 l0 x8_1).f1.f0), .bool ((rd_T37 l0 x8_1).f1.f1), .int .i64 ((rd_T37 l0 x8_1).f1.f2), .int .i64 ((rd_T37 l0 x8_1).f1.f3.f0), .int .i64 ((rd_T37 l0 x8_1).f1.f3.f1), .string ((rd_T37 l0 x8_1).f1.f3.f2)]] rfl (by (try simp only [mT_, mC_, mN_]); first | done | rfl) ?_; (with_reducible refine (skerryref05_Add.calls _ _ x3_1 ((rd_T37 l0 x8_1).f0.f0) ((rd_T37 l0 x8_1).f0.f1) ((rd_T37 l0 x8_1).f0.f2) ((rd_T37 l0 x8_1).f0.f3) ((rd_T37 l0 x8_1).f1.f0) ((rd_T37 l0 x8_1).f1.f1) ((rd_T37 l0 x8_1).f1.f2) ((rd_T37 l0 x8_1).f1.f3.f0) ((rd_T37 l0 x8_1).f1.f3.f1) ((rd_T37 l0 x8_1).f1.f3.f2) t155 _ ?side1 ?side2 A5.out).mono ?_); (case side1 => refine (Kd.R_reads' (e := 37) (base := w.heap.size) (ok := fun k_ => (True ∧ k_ ≠ gb154)) (n := x3_1.length) (c := co8) ?_).2.2; exact (by (with_reducible repeat (first | apply Kd.R_alloc | apply Kd.R_drewN | apply Kd.R_drew)); exact (Kd.R_mono (rf10 (Kd.R_mono HO_3.out (fun k_ hk => (⟨hk, hk.2⟩ : _ ∧ k_ ≠ gb154))) (fun _ hk => hk.2)) (fun _ h_ => h_.1)))); (case side2 => exact (Kd.R_reads' HO_3.out).2.1); rintro e w9 ⟨v156, rfl, ho0, hb⟩; refine ⟨_, rfl, ?_⟩; have HO157 := Aside0.mk (Kd.R_lower (Kd.R_newB (Kd.R_new' ho0 (Kd.R_lt (by (with_reducible repeat (first | apply Kd.R_alloc | apply Kd.R_drewN | apply Kd.R_drew)); exact (Kd.R_mono (rf10 (Kd.R_mono HO_3.out (fun k_ hk => (⟨hk, hk.2⟩ : _ ∧ k_ ≠ gb154))) (fun _ hk => hk.2)) (fun _ h_ => h_.1))))) (g := gb154) (o := .cells #[.string ((rd_T37 l0 x8_1).f0.f0), .string ((rd_T37 l0 x8_1).f0.f1), .int .i64 ((rd_T37 l0 x8_1).f0.f2), .string ((rd_T37 l0 x8_1).f0.f3), .int .i64 ((rd_T37 l0 x8_1).f1.f0), .bool ((rd_T37 l0 x8_1).f1.f1), .int .i64 ((rd_T37 l0 x8_1).f1.f2), .int .i64 ((rd_T37 l0 x8_1).f1.f3.f0), .int .i64 ((rd_T37 l0 x8_1).f1.f3.f1), .string ((rd_T37 l0 x8_1).f1.f3.f2)] 37 (0, 0)) (by (with_reducible repeat (first | refine blk_drewN ?_ _ | refine blk_drew ?_ | refine blk_alloc ?_ _)); exact bp10 (kbW BK154))) (bZ_ (by repeat (first | (with_reducible first | exact HB.out | apply bA_ | apply bN_ | apply bD_ | refine bS_ ?_ GE154) | exact HB.out)))); replace HO_3 := Aside0.mk (Kd.R_elder' (by (with_reducible repeat (first | apply Kd.R_alloc | apply Kd.R_drewN | apply Kd.R_drew)); exact (Kd.R_mono (rf10 (Kd.R_mono HO_3.out (fun k_ hk => (⟨hk, hk.2⟩ : _ ∧ k_ ≠ gb154))) (fun _ hk => hk.2)) (fun _ h_ => h_.1))) (Kd.R_base ho0) hb); replace BK154 := Aside0.mk (blk_below (g := gb154) (o := .cells #[.string ((rd_T37 l0 x8_1).f0.f0), .string ((rd_T37 l0 x8_1).f0.f1), .int .i64 ((rd_T37 l0 x8_1).f0.f2), .string ((rd_T37 l0 x8_1).f0.f3), .int .i64 ((rd_T37 l0 x8_1).f1.f0), .bool ((rd_T37 l0 x8_1).f1.f1), .int .i64 ((rd_T37 l0 x8_1).f1.f2), .int .i64 ((rd_T37 l0 x8_1).f1.f3.f0), .int .i64 ((rd_T37 l0 x8_1).f1.f3.f1), .string ((rd_T37 l0 x8_1).f1.f3.f2)] 37 (0, 0)) (by (with_reducible repeat (first | refine blk_drewN ?_ _ | refine blk_drew ?_ | refine blk_alloc ?_ _)); exact bp10 (kbW BK154)) hb); replace HB := Aside0.mk (below_step (by repeat (first | (with_reducible first | exact HB.out | apply bA_ | apply bN_ | apply bD_ | refine bS_ ?_ GE154) | exact HB.out)) hb); (try clear hb); (try clear hb2); (try clear hk); (try clear hi); (try clear ho0)))
   go_roundg k1
   case measure => have := HK1.out; omega
   case rel => exact ⟨(t155), (wrap64 (x8_1 + 1)), (by first | rfl | (simp; done) | (simp [bne, *]; done)), H', ⟨by have := HK1.out; omega⟩, ⟨by (with_reducible repeat (first | apply Kd.R_alloc | apply Kd.R_drewN | apply Kd.R_drew)); exact Kd.R_mono HO157.out (fun _ hk => trivial)⟩, ⟨by repeat (first | (with_reducible first | exact HB.out | apply bA_ | apply bN_ | apply bD_ | refine bS_ ?_ GE154) | exact HB.out)⟩⟩
end Go.Proofs.Ytlffkbcaphhldaa.Q
