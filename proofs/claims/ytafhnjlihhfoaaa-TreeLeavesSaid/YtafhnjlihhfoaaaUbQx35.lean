/- Lemmas for this claim's walk: no condition of their own. -/
import Derived.Test.YtafhnjlihhfoaaaUbJ13
import Derived.Test.YtafhnjlihhfoaaaUbQx0
import Derived.Test.YtafhnjlihhfoaaaUbQx31
import Derived.Test.YtafhnjlihhfoaaaUbQx34
namespace Go.Proofs.Ytafhnjlihhfoaaa.Q
open Go.RowKit Go.Proofs.YtafhnjlihhfoaaaW.PrintWords Go.Proofs.YtafhnjlihhfoaaaW.PrintLast Go.Proofs.YtafhnjlihhfoaaaW.PrintMore
attribute [local go_sem] max2_int min2_int max_two min_two max_three min_three max_four min_four
set_option linter.unusedVariables false
set_option linter.unusedSimpArgs false
def skerryref22_Pick.l0 : Nat → Int → List Int → List (S38) → List (S38) → Int → Int → Option ((List (S38)))
 | 0, _, _, _, _, _, _ => none
 | k + 1, x1, x2, x7, x11, x12, x13 => if x13 < x12 then (if 0 ≤ x13 then (if x13 < (x11.length : Int) then ((skerryref22_Bucket.f k ((rd_T38 x11 x13).f0.f1) x1).bind fun t325 => ((skerryref22_in.f k x2 t325).bind fun t326 => (if t326 = true then (if x7.length < 1256584717458 then (skerryref22_Pick.l0 k x1 x2 (x7 ++ [(⟨(⟨(rd_T38 x11 x13).f0.f0, (rd_T38 x11 x13).f0.f1, (rd_T38 x11 x13).f0.f2, (rd_T38 x11 x13).f0.f3⟩ : S32), (⟨(rd_T38 x11 x13).f1.f0, (rd_T38 x11 x13).f1.f1, (rd_T38 x11 x13).f1.f2, (⟨(rd_T38 x11 x13).f1.f3.f0, (rd_T38 x11 x13).f1.f3.f1, (rd_T38 x11 x13).f1.f3.f2⟩ : S34)⟩ : S36)⟩ : S38)]) x11 x12 (wrap64 (x13 + 1))) else (none)) else (skerryref22_Pick.l0 k x1 x2 x7 x11 x12 (wrap64 (x13 + 1)))))) else (none)) else (none)) else (some x7)
def skerryref22_Pick.f (k : Nat) (l0 : List (S38)) (a1 : Int) (l2 : List Int) : Option ((List (S38))) := (skerryref05_Norm.f k l0).bind fun t320 => (skerryref22_Pick.l0 k a1 l2 ([] : List (S38)) t320 (t320.length : Int) 0)
set_option maxHeartbeats 8000000 in
set_option maxRecDepth 100000 in
theorem skerryref22_Pick.calls (k : Nat) (A0 : Option Addr) (c0 : Nat) (l0 : List (S38)) (a1 : Int) (A2 : Option Addr) (c2 : Nat) (l2 : List Int) (r : List (S38)) (w : World) (hr0 : Kd.C k38 w A0 l0.length l0) (hc0 : l0.length ≤ c0) (hr2 : Kd.C (Kd.int .i64) w A2 l2.length l2) (hc2 : l2.length ≤ c2) (h : skerryref22_Pick.f k l0 a1 l2 = some r) :
  Calls Try.prog 22 #[.slice A0 l0.length c0, .int .i64 a1, .slice A2 l2.length c2] w fun e w' => ∃ v0_ : Value, e = .returned (v0_) ∧ Kd.R k38 38 w' w.heap.size (fun _ => True) v0_ r ∧ Below w.heap.size w w' := by
 have hu38 := Try.underlying38
 have HR0 := Aside0.mk hr0
 have HC0 := Aside0.mk hc0
 clear hr0 hc0
 have HR2 := Aside0.mk hr2
 have HC2 := Aside0.mk hc2
 clear hr2 hc2
 have HB := Aside0.mk (Below.refl w.heap.size w)
 have H : ((skerryref05_Norm.f k l0).bind fun t320 => (skerryref22_Pick.l0 k a1 l2 ([] : List (S38)) t320 (t320.length : Int) 0)) = some r := h
 clear h
 replace H := Option.bind_eq_some_iff.mp H
 obtain ⟨t320, A40, H⟩ := H
 have A4 := Aside0.mk A40
 clear A40
 have H' := Aside0.mk H
 clear H
 go_enter Try.func22, Try.ntmps22
 go_wp2_with (first | ((with_reducible refine gate_callee (f := 26) rfl ?_); refine goesL_ (some 11) rfl rfl Try.func26 (by kernel_rfl) rfl #[.slice A0 l0.length c0] rfl (by (try simp only [mT_, mC_, mN_]); first | done | rfl) ?_; (with_reducible refine (skerryref05_Norm.calls k _ _ l0 t320 _ ?side1 ?side2 A4.out).mono ?_); (case side1 => repeat (first | exact HR0.out | (with_reducible refine Kd.C_alloc ?_ _) | (with_reducible refine Kd.C_drewN ?_ _) | (with_reducible refine Kd.C_drew ?_))); (case side2 => exact HC0.out); rintro e w5 ⟨v321, rfl, ho0, hb⟩; refine ⟨_, rfl, ?_⟩; have HO322 := Aside0.mk (Kd.R_lower ho0 (bZ_ (kwW HB))); replace HB := Aside0.mk (below_step (kwW HB) hb); (try clear hb); (try clear hb2); (try clear hk); (try clear hi); (try clear ho0); obtain ⟨Ao6, co6, eo6⟩ := Kd.R_slice HO322.out; subst eo6))
 go_loopg [7, 13] k (fun kq v7 v13 w' => ∃ (x7_1 : List (S38)) (x13_1 : Int), v13 = .int .i64 x13_1 ∧ Aside0 (skerryref22_Pick.l0 kq a1 l2 x7_1 t320 (t320.length : Int) x13_1 = some r) ∧ Aside0 (kq ≤ k) ∧ Aside0 (Kd.R k38 38 w' w.heap.size (fun k_ => some k_ ≠ ((.slice Ao6 t320.length co6) : Value).ownBlock) v7 x7_1) ∧ Aside0 (Kd.R k38 38 w' w.heap.size (fun k_ => some k_ ≠ (v7 : Value).ownBlock) (.slice Ao6 t320.length co6) t320) ∧ Aside0 (Below w.heap.size w w'))
 case atStart => exact ⟨(([] : List (S38))), (0), (by first | rfl | (simp; done) | (simp [bne, *]; done)), H', ⟨Nat.le_refl _⟩, ⟨by first | exact Kd.R_nil _ _ _ _ _ | exact Kd.N_nil _ _ _ _ _ | exact Kd.V_nil _ _ _ _ _ | exact Kd.Q_nil _ _ _ _ _ | exact Kd.S_nil _ _ _ _ _⟩, ⟨by (with_reducible repeat (first | apply Kd.R_alloc | apply Kd.R_drewN | apply Kd.R_drew)); exact Kd.R_mono HO322.out (fun _ hk => (by simp [Value.ownBlock]))⟩, ⟨kwW HB⟩⟩
 case round =>
  clear H'
  try clear c2
  try clear p2
  obtain ⟨x7_1, x13_1, rfl, HA, HK1, HO_7, HO_11, HB⟩ := hrel
  cases gk with
  | zero => exact absurd HA.out (by simp [skerryref22_Pick.l0])
  | succ k1 =>
   have H := HA.out
   clear HA
   simp only [skerryref22_Pick.l0] at H
   by_cases c7 : x13_1 < (t320.length : Int)
   rotate_left
   ·
    rw [if_neg c7] at H
    have c7b0 : decide (x13_1 < (t320.length : Int)) = false := decide_eq_false c7
    clear c7
    obtain rfl := Option.some.inj H
    go_wp2
    go_ret
    exact ⟨_, by first | rfl | (simp <;> rfl) | (simp [*] <;> rfl), by (with_reducible repeat (first | apply Kd.R_alloc | apply Kd.R_drewN | apply Kd.R_drew)); exact Kd.R_mono HO_7.out (fun _ hk => trivial), kwW HB⟩
   rw [if_pos c7] at H
   have c7b0 : decide (x13_1 < (t320.length : Int)) = true := decide_eq_true c7
   clear c7
   by_cases c8 : 0 ≤ x13_1
   rotate_left
   ·
    rw [if_neg c8] at H
    exact absurd H (by simp)
   rw [if_pos c8] at H
   have c8b0 : decide (0 ≤ x13_1) = true := decide_eq_true c8
   clear c8
   by_cases c9 : x13_1 < (t320.length : Int)
   rotate_left
   ·
    rw [if_neg c9] at H
    exact absurd H (by simp)
   rw [if_pos c9] at H
   have c9b0 : decide (x13_1 < (t320.length : Int)) = true := decide_eq_true c9
   clear c9
   replace H := Option.bind_eq_some_iff.mp H
   obtain ⟨t325, A100, H⟩ := H
   have A10 := Aside0.mk A100
   clear A100
   replace H := Option.bind_eq_some_iff.mp H
   obtain ⟨t326, A110, H⟩ := H
   have A11 := Aside0.mk A110
   clear A110
   by_cases c12 : t326 = true
   rotate_left
   ·
    replace c12 := Bool.eq_false_iff.mpr c12
    subst c12
    have H1 : (skerryref22_Pick.l0 k1 a1 l2 x7_1 t320 (t320.length : Int) (wrap64 (x13_1 + 1))) = some r := by rw [if_neg (show ¬ (false = true) by decide)] at H; exact H
    clear H
    have H := H1
    clear H1
    have H' := Aside0.mk H
    clear H
    have p323 : 0 ≤ (x13_1 : Int) := of_decide_eq_true (by first | (with_reducible assumption) | assumption)
    have q323 : x13_1 < (t320.length : Int) := of_decide_eq_true (by first | (with_reducible assumption) | assumption)
    obtain ⟨ad323, e323, hx323_0, hx323_1, hx323_2, hx323_3, hx323_4, hx323_5, hx323_6, hx323_7, hx323_8, hx323_9⟩ := at_T38 (Kd.R_reads' HO_11.out).2.2 x13_1 p323 q323
    cases e323
    replace p323 := eq_true p323
    replace q323 := eq_true q323
    go_wp2_with (first | ((with_reducible refine gate_dst (N := 9) rfl ?_); refine box_event ?hg (N := 9) ?hd (cs := #[.string (⟨#[]⟩ : ByteArray), .string (⟨#[]⟩ : ByteArray), .int .i64 0, .string (⟨#[]⟩ : ByteArray), .int .i64 0, .bool false, .int .i64 0, .int .i64 0, .int .i64 0, .string (⟨#[]⟩ : ByteArray)]) (t := 38) ?hr ?_; (case hd => rfl); (case hg => rfl); (case hr => first | (go_simp; done) | (go_simp; rfl)); intro gb324 hg w19 hbox hb; replace HO_7 := Aside0.mk (Kd.R_below (Kd.R_elderB (krW HO_7) gb324 (Nat.le_of_eq hg.symm)) hb); replace HO_11 := Aside0.mk (Kd.R_below (Kd.R_elderB (krW HO_11) gb324 (Nat.le_of_eq hg.symm)) hb); have BK324 := Aside0.mk (hbox); have GW324 := Aside0.mk ((by rw [hg]; exact (bZ_ (kwW HB)) : w.heap.size ≤ gb324)); replace HB := Aside0.mk (below_step (kwW HB) hb); have GE324 := GW324; clear hb hbox hg; obtain ⟨_, _, _, _, _, _, _, _, _, _, _, _, _, _, _, _, _, _, _, _⟩ := czf10 BK324) | ((with_reducible refine gate_callee (f := 17) rfl ?_); refine goesL_ (some 22) rfl rfl Try.func17 (by kernel_rfl) rfl #[.string ((rd_T38 t320 x13_1).f0.f1), .int .i64 a1] rfl (by (try simp only [mT_, mC_, mN_]); first | done | rfl) ?_; (with_reducible refine (skerryref22_Bucket.calls k1 ((rd_T38 t320 x13_1).f0.f1) a1 t325 _ A10.out).mono ?_); rintro e w21 ⟨rfl, hb⟩; refine ⟨_, rfl, ?_⟩; replace HO_7 := Aside0.mk (Kd.R_below (by (with_reducible repeat (first | apply Kd.R_alloc | apply Kd.R_drewN | apply Kd.R_drew)); exact (Kd.R_mono (rf10 (Kd.R_mono HO_7.out (fun k_ hk => (⟨hk, hk.2⟩ : _ ∧ k_ ≠ gb324))) (fun _ hk => hk.2)) (fun _ h_ => h_.1))) hb); replace HO_11 := Aside0.mk (Kd.R_below (by (with_reducible repeat (first | apply Kd.R_alloc | apply Kd.R_drewN | apply Kd.R_drew)); exact (Kd.R_mono (rf10 (Kd.R_mono HO_11.out (fun k_ hk => (⟨hk, hk.2⟩ : _ ∧ k_ ≠ gb324))) (fun _ hk => hk.2)) (fun _ h_ => h_.1))) hb); replace BK324 := Aside0.mk (blk_below (g := gb324) (o := .cells #[.string ((rd_T38 t320 x13_1).f0.f0), .string ((rd_T38 t320 x13_1).f0.f1), .int .i64 ((rd_T38 t320 x13_1).f0.f2), .string ((rd_T38 t320 x13_1).f0.f3), .int .i64 ((rd_T38 t320 x13_1).f1.f0), .bool ((rd_T38 t320 x13_1).f1.f1), .int .i64 ((rd_T38 t320 x13_1).f1.f2), .int .i64 ((rd_T38 t320 x13_1).f1.f3.f0), .int .i64 ((rd_T38 t320 x13_1).f1.f3.f1), .string ((rd_T38 t320 x13_1).f1.f3.f2)] 38 (0, 0)) (by (with_reducible repeat (first | refine blk_drewN ?_ _ | refine blk_drew ?_ | refine blk_alloc ?_ _)); exact bp10 (kbW BK324)) hb); replace HB := Aside0.mk (below_step (by repeat (first | (with_reducible first | exact HB.out | apply bA_ | apply bN_ | apply bD_ | refine bS_ ?_ GE324) | exact HB.out)) hb); (try clear hb); (try clear hb2); (try clear hk); (try clear hi)) | ((with_reducible refine gate_callee (f := 40) rfl ?_); refine goesL_ (some 23) rfl rfl Try.func40 (by kernel_rfl) rfl #[.slice A2 l2.length c2, .int .i64 t325] rfl (by (try simp only [mT_, mC_, mN_]); first | done | rfl) ?_; (with_reducible refine (skerryref22_in.calls k1 _ _ l2 t325 false _ ?side1 ?side2 A11.out).mono ?_); (case side1 => repeat (first | exact (Kd.C_below HR2.out HB.out) | (with_reducible refine Kd.C_alloc ?_ _) | (with_reducible refine Kd.C_drewN ?_ _) | (with_reducible refine Kd.C_drew ?_))); (case side2 => exact HC2.out); rintro e w' ⟨rfl, ⟨nd, rfl⟩⟩; refine ⟨_, rfl, ?_⟩))
    go_roundg k1
    case measure => have := HK1.out; omega
    case rel => exact ⟨(x7_1), (wrap64 (x13_1 + 1)), (by first | rfl | (simp; done) | (simp [bne, *]; done)), H', ⟨by have := HK1.out; omega⟩, ⟨by (with_reducible repeat (first | apply Kd.R_alloc | apply Kd.R_drewN | apply Kd.R_drew)); exact Kd.R_mono HO_7.out (fun _ hk => hk.1)⟩, ⟨by (with_reducible repeat (first | apply Kd.R_alloc | apply Kd.R_drewN | apply Kd.R_drew)); exact Kd.R_mono HO_11.out (fun _ hk => hk.1)⟩, ⟨by repeat (first | (with_reducible first | exact HB.out | apply bA_ | apply bN_ | apply bD_ | refine bS_ ?_ GE324) | exact HB.out)⟩⟩
   subst c12
   have H1 : (if x7_1.length < 1256584717458 then (skerryref22_Pick.l0 k1 a1 l2 (x7_1 ++ [(⟨(⟨(rd_T38 t320 x13_1).f0.f0, (rd_T38 t320 x13_1).f0.f1, (rd_T38 t320 x13_1).f0.f2, (rd_T38 t320 x13_1).f0.f3⟩ : S32), (⟨(rd_T38 t320 x13_1).f1.f0, (rd_T38 t320 x13_1).f1.f1, (rd_T38 t320 x13_1).f1.f2, (⟨(rd_T38 t320 x13_1).f1.f3.f0, (rd_T38 t320 x13_1).f1.f3.f1, (rd_T38 t320 x13_1).f1.f3.f2⟩ : S34)⟩ : S36)⟩ : S38)]) t320 (t320.length : Int) (wrap64 (x13_1 + 1))) else (none)) = some r := by rw [if_pos rfl] at H; exact H
   clear H
   have H := H1
   clear H1
   by_cases c13 : x7_1.length < 1256584717458
   rotate_left
   ·
    rw [if_neg c13] at H
    exact absurd H (by simp)
   rw [if_pos c13] at H
   have LMc13 := Aside0.mk c13
   clear c13
   obtain ⟨y327, hy327⟩ : ∃ y_ : List (S38), y_ = (x7_1 ++ [(⟨(⟨(rd_T38 t320 x13_1).f0.f0, (rd_T38 t320 x13_1).f0.f1, (rd_T38 t320 x13_1).f0.f2, (rd_T38 t320 x13_1).f0.f3⟩ : S32), (⟨(rd_T38 t320 x13_1).f1.f0, (rd_T38 t320 x13_1).f1.f1, (rd_T38 t320 x13_1).f1.f2, (⟨(rd_T38 t320 x13_1).f1.f3.f0, (rd_T38 t320 x13_1).f1.f3.f1, (rd_T38 t320 x13_1).f1.f3.f2⟩ : S34)⟩ : S36)⟩ : S38)]) := ⟨_, rfl⟩
   replace H : (skerryref22_Pick.l0 k1 a1 l2 y327 t320 (t320.length : Int) (wrap64 (x13_1 + 1))) = some r := by first | (rw [hy327]; with_reducible exact H) | (have H2_ := (Option.bind_some _ _).symm.trans H; rw [hy327]; with_reducible exact H2_) | (have H2_ := (Option.bind_some _ _).symm.trans H; with_reducible exact H2_) | with_reducible exact H | (rw [hy327]; exact H) | exact H
   have Ny327 := Aside0.mk hy327
   clear hy327
   have H' := Aside0.mk H
   clear H
   have p323 : 0 ≤ (x13_1 : Int) := of_decide_eq_true (by first | (with_reducible assumption) | assumption)
   have q323 : x13_1 < (t320.length : Int) := of_decide_eq_true (by first | (with_reducible assumption) | assumption)
   obtain ⟨ad323, e323, hx323_0, hx323_1, hx323_2, hx323_3, hx323_4, hx323_5, hx323_6, hx323_7, hx323_8, hx323_9⟩ := at_T38 (Kd.R_reads' HO_11.out).2.2 x13_1 p323 q323
   cases e323
   replace p323 := eq_true p323
   replace q323 := eq_true q323
   go_wp2_with (first | ((with_reducible refine gate_dst (N := 9) rfl ?_); refine box_event ?hg (N := 9) ?hd (cs := #[.string (⟨#[]⟩ : ByteArray), .string (⟨#[]⟩ : ByteArray), .int .i64 0, .string (⟨#[]⟩ : ByteArray), .int .i64 0, .bool false, .int .i64 0, .int .i64 0, .int .i64 0, .string (⟨#[]⟩ : ByteArray)]) (t := 38) ?hr ?_; (case hd => rfl); (case hg => rfl); (case hr => first | (go_simp; done) | (go_simp; rfl)); intro gb324 hg w14 hbox hb; replace HO_7 := Aside0.mk (Kd.R_below (Kd.R_elderB (krW HO_7) gb324 (Nat.le_of_eq hg.symm)) hb); replace HO_11 := Aside0.mk (Kd.R_below (Kd.R_elderB (krW HO_11) gb324 (Nat.le_of_eq hg.symm)) hb); have BK324 := Aside0.mk (hbox); have GW324 := Aside0.mk ((by rw [hg]; exact (bZ_ (kwW HB)) : w.heap.size ≤ gb324)); replace HB := Aside0.mk (below_step (kwW HB) hb); have GE324 := GW324; clear hb hbox hg; obtain ⟨_, _, _, _, _, _, _, _, _, _, _, _, _, _, _, _, _, _, _, _⟩ := czf10 BK324) | ((with_reducible refine gate_callee (f := 17) rfl ?_); refine goesL_ (some 22) rfl rfl Try.func17 (by kernel_rfl) rfl #[.string ((rd_T38 t320 x13_1).f0.f1), .int .i64 a1] rfl (by (try simp only [mT_, mC_, mN_]); first | done | rfl) ?_; (with_reducible refine (skerryref22_Bucket.calls k1 ((rd_T38 t320 x13_1).f0.f1) a1 t325 _ A10.out).mono ?_); rintro e w16 ⟨rfl, hb⟩; refine ⟨_, rfl, ?_⟩; replace HO_7 := Aside0.mk (Kd.R_below (by (with_reducible repeat (first | apply Kd.R_alloc | apply Kd.R_drewN | apply Kd.R_drew)); exact (Kd.R_mono (rf10 (Kd.R_mono HO_7.out (fun k_ hk => (⟨hk, hk.2⟩ : _ ∧ k_ ≠ gb324))) (fun _ hk => hk.2)) (fun _ h_ => h_.1))) hb); replace HO_11 := Aside0.mk (Kd.R_below (by (with_reducible repeat (first | apply Kd.R_alloc | apply Kd.R_drewN | apply Kd.R_drew)); exact (Kd.R_mono (rf10 (Kd.R_mono HO_11.out (fun k_ hk => (⟨hk, hk.2⟩ : _ ∧ k_ ≠ gb324))) (fun _ hk => hk.2)) (fun _ h_ => h_.1))) hb); replace BK324 := Aside0.mk (blk_below (g := gb324) (o := .cells #[.string ((rd_T38 t320 x13_1).f0.f0), .string ((rd_T38 t320 x13_1).f0.f1), .int .i64 ((rd_T38 t320 x13_1).f0.f2), .string ((rd_T38 t320 x13_1).f0.f3), .int .i64 ((rd_T38 t320 x13_1).f1.f0), .bool ((rd_T38 t320 x13_1).f1.f1), .int .i64 ((rd_T38 t320 x13_1).f1.f2), .int .i64 ((rd_T38 t320 x13_1).f1.f3.f0), .int .i64 ((rd_T38 t320 x13_1).f1.f3.f1), .string ((rd_T38 t320 x13_1).f1.f3.f2)] 38 (0, 0)) (by (with_reducible repeat (first | refine blk_drewN ?_ _ | refine blk_drew ?_ | refine blk_alloc ?_ _)); exact bp10 (kbW BK324)) hb); replace HB := Aside0.mk (below_step (by repeat (first | (with_reducible first | exact HB.out | apply bA_ | apply bN_ | apply bD_ | refine bS_ ?_ GE324) | exact HB.out)) hb); (try clear hb); (try clear hb2); (try clear hk); (try clear hi)) | ((with_reducible refine gate_callee (f := 40) rfl ?_); refine goesL_ (some 23) rfl rfl Try.func40 (by kernel_rfl) rfl #[.slice A2 l2.length c2, .int .i64 t325] rfl (by (try simp only [mT_, mC_, mN_]); first | done | rfl) ?_; (with_reducible refine (skerryref22_in.calls k1 _ _ l2 t325 true _ ?side1 ?side2 A11.out).mono ?_); (case side1 => repeat (first | exact (Kd.C_below HR2.out HB.out) | (with_reducible refine Kd.C_alloc ?_ _) | (with_reducible refine Kd.C_drewN ?_ _) | (with_reducible refine Kd.C_drew ?_))); (case side2 => exact HC2.out); rintro e w' ⟨rfl, ⟨nd, rfl⟩⟩; refine ⟨_, rfl, ?_⟩; obtain ⟨_, _, _, _, _, _, _, _, _, _, _, _, _, _, _, _, _, _, _, _⟩ := czf10 BK324) | ((with_reducible refine gate_builtin (b := .append) (xs := #[.tmp 24, .tmp 26]) rfl ?_); at_builtin; refine Kd.R_append k38 (w0 := w) w.heap.size rfl (.tmp 24) (.tmp 26) 29 38 (.agg #[(.string ⟨#[]⟩), (.string ⟨#[]⟩), (.int .i64 0), (.string ⟨#[]⟩), (.int .i64 0), (.bool false), (.int .i64 0), (.int .i64 0), (.int .i64 0), (.string ⟨#[]⟩)]) 112 rfl Try.underlying29 info38 rfl (by decide) (by omega) u7 x7_1 (⟨(⟨(rd_T38 t320 x13_1).f0.f0, (rd_T38 t320 x13_1).f0.f1, (rd_T38 t320 x13_1).f0.f2, (rd_T38 t320 x13_1).f0.f3⟩ : S32), (⟨(rd_T38 t320 x13_1).f1.f0, (rd_T38 t320 x13_1).f1.f1, (rd_T38 t320 x13_1).f1.f2, (⟨(rd_T38 t320 x13_1).f1.f3.f0, (rd_T38 t320 x13_1).f1.f3.f1, (rd_T38 t320 x13_1).f1.f3.f2⟩ : S34)⟩ : S36)⟩ : S38) [.string ((rd_T38 t320 x13_1).f0.f0), .string ((rd_T38 t320 x13_1).f0.f1), .int .i64 ((rd_T38 t320 x13_1).f0.f2), .string ((rd_T38 t320 x13_1).f0.f3), .int .i64 ((rd_T38 t320 x13_1).f1.f0), .bool ((rd_T38 t320 x13_1).f1.f1), .int .i64 ((rd_T38 t320 x13_1).f1.f2), .int .i64 ((rd_T38 t320 x13_1).f1.f3.f0), .int .i64 ((rd_T38 t320 x13_1).f1.f3.f1), .string ((rd_T38 t320 x13_1).f1.f3.f2)] (fun k_ => some k_ ≠ (.slice (some ad323) t320.length co6 : Value).ownBlock ∧ k_ ≠ gb324) (fun _ => False) rfl rfl ?aP (fun _ hk => hk.elim) ?aF ?aO ?aB ?aS ?aL ?_; (case aP => exact k38_mkM _ _ _ (⟨(⟨(rd_T38 t320 x13_1).f0.f0, (rd_T38 t320 x13_1).f0.f1, (rd_T38 t320 x13_1).f0.f2, (rd_T38 t320 x13_1).f0.f3⟩ : S32), (⟨(rd_T38 t320 x13_1).f1.f0, (rd_T38 t320 x13_1).f1.f1, (rd_T38 t320 x13_1).f1.f2, (⟨(rd_T38 t320 x13_1).f1.f3.f0, (rd_T38 t320 x13_1).f1.f3.f1, (rd_T38 t320 x13_1).f1.f3.f2⟩ : S34)⟩ : S36)⟩ : S38)); (case aB => exact (by repeat (first | (with_reducible first | exact HB.out | apply bA_ | apply bN_ | apply bD_ | refine bS_ ?_ GE324) | exact HB.out))); (case aF => exact (fun k_ hk => ⟨Kd.fresh' (Kd.R_lt (krW HO_11)) k_ hk, Kd.freshB (kbW BK324) k_ hk⟩)); (case aO => exact (krW HO_7)); (case aS => exact (bZ_ (by repeat (first | (with_reducible first | exact HB.out | apply bA_ | apply bN_ | apply bD_ | refine bS_ ?_ GE324) | exact HB.out)))); (case aL => have := LMc13.out; omega); intro v328 w18 ho hb hg hat; rw [← Ny327.out] at ho; replace HO_11 := Aside0.mk (Kd.R_after (ok := (fun k_ => k_ ≠ gb324)) (by (with_reducible repeat (first | apply Kd.R_alloc | apply Kd.R_drewN | apply Kd.R_drew)); exact Kd.R_mono HO_11.out (fun _ hk => ⟨hk.2, hk.1⟩)) hg hat); replace BK324 := Aside0.mk (blk_grown (kbW BK324) hg (Kd.R_away HO_7.out (fun _ hk => hk.2))); replace HB := Aside0.mk (hb); have HO329 := Aside0.mk (ho); clear HO_7; clear ho hb hg hat))
   go_roundg k1
   case measure => have := HK1.out; omega
   case rel => exact ⟨(y327), (wrap64 (x13_1 + 1)), (by first | rfl | (simp; done) | (simp [bne, *]; done)), H', ⟨by have := HK1.out; omega⟩, ⟨by (with_reducible repeat (first | apply Kd.R_alloc | apply Kd.R_drewN | apply Kd.R_drew)); exact Kd.R_mono HO329.out (fun _ hk => hk.1)⟩, ⟨by (with_reducible repeat (first | apply Kd.R_alloc | apply Kd.R_drewN | apply Kd.R_drew)); exact Kd.R_mono HO_11.out (fun _ hk => hk.2)⟩, ⟨by repeat (first | (with_reducible first | exact HB.out | apply bA_ | apply bN_ | apply bD_ | refine bS_ ?_ GE324) | exact HB.out)⟩⟩
end Go.Proofs.Ytafhnjlihhfoaaa.Q
