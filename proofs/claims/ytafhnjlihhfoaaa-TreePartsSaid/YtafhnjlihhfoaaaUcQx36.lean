/- Lemmas for this claim's walk: no condition of their own. -/
import Derived.Test.YtafhnjlihhfoaaaUcSq
import Derived.Test.YtafhnjlihhfoaaaUcQx0
import Derived.Test.YtafhnjlihhfoaaaUcQx35
namespace Go.Proofs.Ytafhnjlihhfoaaa.Q
open Go.RowKit Go.Proofs.YtafhnjlihhfoaaaW.PrintWords Go.Proofs.YtafhnjlihhfoaaaW.PrintLast Go.Proofs.YtafhnjlihhfoaaaW.PrintMore
attribute [local go_sem] max2_int min2_int max_two min_two max_three min_three max_four min_four
set_option linter.unusedVariables false
set_option linter.unusedSimpArgs false
def skerryref05_Norm.l0 : Nat → List (S38) → List (S38) → Int → Int → Option ((List (S38)))
 | 0, _, _, _, _ => none
 | k + 1, x3, x6, x7, x8 => if x8 < x7 then (if 0 ≤ x8 then (if x8 < (x6.length : Int) then ((skerryref05_Add.f k x3 ((rd_T38 x6 x8).f0.f0) ((rd_T38 x6 x8).f0.f1) ((rd_T38 x6 x8).f0.f2) ((rd_T38 x6 x8).f0.f3) ((rd_T38 x6 x8).f1.f0) ((rd_T38 x6 x8).f1.f1) ((rd_T38 x6 x8).f1.f2) ((rd_T38 x6 x8).f1.f3.f0) ((rd_T38 x6 x8).f1.f3.f1) ((rd_T38 x6 x8).f1.f3.f2)).bind fun t367 => (skerryref05_Norm.l0 k t367 x6 x7 (wrap64 (x8 + 1)))) else (none)) else (none)) else (some x3)
def skerryref05_Norm.f (k : Nat) (l0 : List (S38)) : Option ((List (S38))) := skerryref05_Norm.l0 k ([] : List (S38)) l0 (l0.length : Int) 0
set_option maxHeartbeats 8000000 in
set_option maxRecDepth 100000 in
theorem skerryref05_Norm.calls (k : Nat) (A0 : Option Addr) (c0 : Nat) (l0 : List (S38)) (r : List (S38)) (w : World) (hr0 : Kd.C k38 w A0 l0.length l0) (hc0 : l0.length ≤ c0) (h : skerryref05_Norm.f k l0 = some r) :
  Calls Try.prog 26 #[.slice A0 l0.length c0] w fun e w' => ∃ v0_ : Value, e = .returned (v0_) ∧ Kd.R k38 38 w' w.heap.size (fun _ => True) v0_ r ∧ Below w.heap.size w w' := by
 have hu38 := Try.underlying38
 have HR0 := Aside0.mk hr0
 have HC0 := Aside0.mk hc0
 clear hr0 hc0
 have HB := Aside0.mk (Below.refl w.heap.size w)
 have H : (skerryref05_Norm.l0 k ([] : List (S38)) l0 (l0.length : Int) 0) = some r := h
 clear h
 have H' := Aside0.mk H
 clear H
 go_enter Try.func26, Try.ntmps26
 go_wp2
 go_loopg [3, 8] k (fun kq v3 v8 w' => ∃ (x3_1 : List (S38)) (x8_1 : Int), v8 = .int .i64 x8_1 ∧ Aside0 (skerryref05_Norm.l0 kq x3_1 l0 (l0.length : Int) x8_1 = some r) ∧ Aside0 (kq ≤ k) ∧ Aside0 (Kd.R k38 38 w' w.heap.size (fun _ => True) v3 x3_1) ∧ Aside0 (Below w.heap.size w w'))
 case atStart => exact ⟨(([] : List (S38))), (0), (by first | rfl | (simp; done) | (simp [bne, *]; done)), H', ⟨Nat.le_refl _⟩, ⟨by first | exact Kd.R_nil _ _ _ _ _ | exact Kd.N_nil _ _ _ _ _ | exact Kd.V_nil _ _ _ _ _ | exact Kd.Q_nil _ _ _ _ _ | exact Kd.S_nil _ _ _ _ _⟩, ⟨kwW HB⟩⟩
 case round =>
  clear H'
  obtain ⟨x3_1, x8_1, rfl, HA, HK1, HO_3, HB⟩ := hrel
  cases gk with
  | zero => exact absurd HA.out (by simp [skerryref05_Norm.l0])
  | succ k1 =>
   have H := HA.out
   clear HA
   simp only [skerryref05_Norm.l0] at H
   by_cases c2 : x8_1 < (l0.length : Int)
   rotate_left
   ·
    rw [if_neg c2] at H
    have c2b0 : decide (x8_1 < (l0.length : Int)) = false := decide_eq_false c2
    clear c2
    obtain rfl := Option.some.inj H
    go_wp2
    go_ret
    exact ⟨_, by first | rfl | (simp <;> rfl) | (simp [*] <;> rfl), krW HO_3, kwW HB⟩
   rw [if_pos c2] at H
   have c2b0 : decide (x8_1 < (l0.length : Int)) = true := decide_eq_true c2
   clear c2
   by_cases c3 : 0 ≤ x8_1
   rotate_left
   ·
    rw [if_neg c3] at H
    exact absurd H (by simp)
   rw [if_pos c3] at H
   have c3b0 : decide (0 ≤ x8_1) = true := decide_eq_true c3
   clear c3
   by_cases c4 : x8_1 < (l0.length : Int)
   rotate_left
   ·
    rw [if_neg c4] at H
    exact absurd H (by simp)
   rw [if_pos c4] at H
   have c4b0 : decide (x8_1 < (l0.length : Int)) = true := decide_eq_true c4
   clear c4
   replace H := Option.bind_eq_some_iff.mp H
   obtain ⟨t367, A50, H⟩ := H
   have A5 := Aside0.mk A50
   clear A50
   have H' := Aside0.mk H
   clear H
   have p365 : 0 ≤ (x8_1 : Int) := of_decide_eq_true (by first | (with_reducible assumption) | assumption)
   have q365 : x8_1 < (l0.length : Int) := of_decide_eq_true (by first | (with_reducible assumption) | assumption)
   obtain ⟨ad365, e365, hx365_0, hx365_1, hx365_2, hx365_3, hx365_4, hx365_5, hx365_6, hx365_7, hx365_8, hx365_9⟩ := at_T38 HR0.out x8_1 p365 q365
   cases e365
   replace hx365_0 := cB_ HB hx365_0
   replace hx365_1 := cB_ HB hx365_1
   replace hx365_2 := cB_ HB hx365_2
   replace hx365_3 := cB_ HB hx365_3
   replace hx365_4 := cB_ HB hx365_4
   replace hx365_5 := cB_ HB hx365_5
   replace hx365_6 := cB_ HB hx365_6
   replace hx365_7 := cB_ HB hx365_7
   replace hx365_8 := cB_ HB hx365_8
   replace hx365_9 := cB_ HB hx365_9
   replace p365 := eq_true p365
   replace q365 := eq_true q365
   go_wp2_with (first | ((with_reducible refine gate_dst (N := 5) rfl ?_); refine box_event ?hg (N := 5) ?hd (cs := #[.string (⟨#[]⟩ : ByteArray), .string (⟨#[]⟩ : ByteArray), .int .i64 0, .string (⟨#[]⟩ : ByteArray), .int .i64 0, .bool false, .int .i64 0, .int .i64 0, .int .i64 0, .string (⟨#[]⟩ : ByteArray)]) (t := 38) ?hr ?_; (case hd => rfl); (case hg => rfl); (case hr => first | (go_simp; done) | (go_simp; rfl)); intro gb366 hg w6 hbox hb; replace HO_3 := Aside0.mk (Kd.R_below (Kd.R_elderB (krW HO_3) gb366 (Nat.le_of_eq hg.symm)) hb); have BK366 := Aside0.mk (hbox); have GW366 := Aside0.mk ((by rw [hg]; exact (bZ_ (kwW HB)) : w.heap.size ≤ gb366)); replace HB := Aside0.mk (below_step (kwW HB) hb); have GE366 := GW366; clear hb hbox hg; obtain ⟨_, _, _, _, _, _, _, _, _, _, _, _, _, _, _, _, _, _, _, _⟩ := czf10 BK366; obtain ⟨Ao8, co8, eo8⟩ := Kd.R_slice HO_3.out; subst eo8) | ((with_reducible refine gate_callee (f := 49) rfl ?_); refine goesL_ (some 14) rfl rfl Try.func49 (by kernel_rfl) rfl #[.slice Ao8 x3_1.length co8, .agg #[.string ((rd_T38 l0 x8_1).f0.f0), .string ((rd_T38 l0 x8_1).f0.f1), .int .i64 ((rd_T38 l0 x8_1).f0.f2), .string ((rd_T38 l0 x8_1).f0.f3), .int .i64 ((rd_T38 l0 x8_1).f1.f0), .bool ((rd_T38 l0 x8_1).f1.f1), .int .i64 ((rd_T38 l0 x8_1).f1.f2), .int .i64 ((rd_T38 l0 x8_1).f1.f3.f0), .int .i64 ((rd_T38 l0 x8_1).f1.f3.f1), .string ((rd_T38 l0 x8_1).f1.f3.f2)]] rfl (by (try simp only [mT_, mC_, mN_]); first | done | rfl) ?_; (with_reducible refine (skerryref05_Add.calls k1 _ _ x3_1 ((rd_T38 l0 x8_1).f0.f0) ((rd_T38 l0 x8_1).f0.f1) ((rd_T38 l0 x8_1).f0.f2) ((rd_T38 l0 x8_1).f0.f3) ((rd_T38 l0 x8_1).f1.f0) ((rd_T38 l0 x8_1).f1.f1) ((rd_T38 l0 x8_1).f1.f2) ((rd_T38 l0 x8_1).f1.f3.f0) ((rd_T38 l0 x8_1).f1.f3.f1) ((rd_T38 l0 x8_1).f1.f3.f2) t367 _ ?side1 ?side2 A5.out).mono ?_); (case side1 => refine (Kd.R_reads' (e := 38) (base := w.heap.size) (ok := fun k_ => (True ∧ k_ ≠ gb366)) (n := x3_1.length) (c := co8) ?_).2.2; exact (by (with_reducible repeat (first | apply Kd.R_alloc | apply Kd.R_drewN | apply Kd.R_drew)); exact (Kd.R_mono (rf10 (Kd.R_mono HO_3.out (fun k_ hk => (⟨hk, hk.2⟩ : _ ∧ k_ ≠ gb366))) (fun _ hk => hk.2)) (fun _ h_ => h_.1)))); (case side2 => exact (Kd.R_reads' HO_3.out).2.1); rintro e w9 ⟨v368, rfl, ho0, hb⟩; refine ⟨_, rfl, ?_⟩; have HO369 := Aside0.mk (Kd.R_lower (Kd.R_newB (Kd.R_new' ho0 (Kd.R_lt (by (with_reducible repeat (first | apply Kd.R_alloc | apply Kd.R_drewN | apply Kd.R_drew)); exact (Kd.R_mono (rf10 (Kd.R_mono HO_3.out (fun k_ hk => (⟨hk, hk.2⟩ : _ ∧ k_ ≠ gb366))) (fun _ hk => hk.2)) (fun _ h_ => h_.1))))) (g := gb366) (o := .cells #[.string ((rd_T38 l0 x8_1).f0.f0), .string ((rd_T38 l0 x8_1).f0.f1), .int .i64 ((rd_T38 l0 x8_1).f0.f2), .string ((rd_T38 l0 x8_1).f0.f3), .int .i64 ((rd_T38 l0 x8_1).f1.f0), .bool ((rd_T38 l0 x8_1).f1.f1), .int .i64 ((rd_T38 l0 x8_1).f1.f2), .int .i64 ((rd_T38 l0 x8_1).f1.f3.f0), .int .i64 ((rd_T38 l0 x8_1).f1.f3.f1), .string ((rd_T38 l0 x8_1).f1.f3.f2)] 38 (0, 0)) (by (with_reducible repeat (first | refine blk_drewN ?_ _ | refine blk_drew ?_ | refine blk_alloc ?_ _)); exact bp10 (kbW BK366))) (bZ_ (by repeat (first | (with_reducible first | exact HB.out | apply bA_ | apply bN_ | apply bD_ | refine bS_ ?_ GE366) | exact HB.out)))); replace HO_3 := Aside0.mk (Kd.R_elder' (by (with_reducible repeat (first | apply Kd.R_alloc | apply Kd.R_drewN | apply Kd.R_drew)); exact (Kd.R_mono (rf10 (Kd.R_mono HO_3.out (fun k_ hk => (⟨hk, hk.2⟩ : _ ∧ k_ ≠ gb366))) (fun _ hk => hk.2)) (fun _ h_ => h_.1))) (Kd.R_base ho0) hb); replace BK366 := Aside0.mk (blk_below (g := gb366) (o := .cells #[.string ((rd_T38 l0 x8_1).f0.f0), .string ((rd_T38 l0 x8_1).f0.f1), .int .i64 ((rd_T38 l0 x8_1).f0.f2), .string ((rd_T38 l0 x8_1).f0.f3), .int .i64 ((rd_T38 l0 x8_1).f1.f0), .bool ((rd_T38 l0 x8_1).f1.f1), .int .i64 ((rd_T38 l0 x8_1).f1.f2), .int .i64 ((rd_T38 l0 x8_1).f1.f3.f0), .int .i64 ((rd_T38 l0 x8_1).f1.f3.f1), .string ((rd_T38 l0 x8_1).f1.f3.f2)] 38 (0, 0)) (by (with_reducible repeat (first | refine blk_drewN ?_ _ | refine blk_drew ?_ | refine blk_alloc ?_ _)); exact bp10 (kbW BK366)) hb); replace HB := Aside0.mk (below_step (by repeat (first | (with_reducible first | exact HB.out | apply bA_ | apply bN_ | apply bD_ | refine bS_ ?_ GE366) | exact HB.out)) hb); (try clear hb); (try clear hb2); (try clear hk); (try clear hi); (try clear ho0)))
   go_roundg k1
   case measure => have := HK1.out; omega
   case rel => exact ⟨(t367), (wrap64 (x8_1 + 1)), (by first | rfl | (simp; done) | (simp [bne, *]; done)), H', ⟨by have := HK1.out; omega⟩, ⟨by (with_reducible repeat (first | apply Kd.R_alloc | apply Kd.R_drewN | apply Kd.R_drew)); exact Kd.R_mono HO369.out (fun _ hk => trivial)⟩, ⟨by repeat (first | (with_reducible first | exact HB.out | apply bA_ | apply bN_ | apply bD_ | refine bS_ ?_ GE366) | exact HB.out)⟩⟩
end Go.Proofs.Ytafhnjlihhfoaaa.Q
