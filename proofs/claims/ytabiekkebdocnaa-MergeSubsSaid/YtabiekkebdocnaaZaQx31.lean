/- Lemmas for this claim's walk: no condition of their own. -/
import Derived.Test.YtabiekkebdocnaaZaSq
import Derived.Test.YtabiekkebdocnaaZaQx0
import Derived.Test.YtabiekkebdocnaaZaQx27
namespace Go.Proofs.Ytabiekkebdocnaa.Q
open Go.RowKit Go.Proofs.YtabiekkebdocnaaW.PrintWords Go.Proofs.YtabiekkebdocnaaW.PrintLast Go.Proofs.YtabiekkebdocnaaW.PrintMore
attribute [local go_sem] max2_int min2_int max_two min_two max_three min_three max_four min_four
set_option linter.unusedVariables false
set_option linter.unusedSimpArgs false
def skerryref10_Part.l0 : Nat → ByteArray → ByteArray → List (S39) → List (S39) → Int → Int → Option ((List (S39)))
 | 0, _, _, _, _, _, _ => none
 | k + 1, x1, x2, x7, x11, x12, x13 => if x13 < x12 then (if 0 ≤ x13 then (if x13 < (x11.length : Int) then (if ((rd_T39 x11 x13).f0.f0).toList = x1.toList then (if ((rd_T39 x11 x13).f0.f1).toList = x2.toList then (if x7.length < 1256584717458 then (skerryref10_Part.l0 k x1 x2 (x7 ++ [(⟨(⟨(rd_T39 x11 x13).f0.f0, (rd_T39 x11 x13).f0.f1, (rd_T39 x11 x13).f0.f2, (rd_T39 x11 x13).f0.f3⟩ : S33), (⟨(rd_T39 x11 x13).f1.f0, (rd_T39 x11 x13).f1.f1, (rd_T39 x11 x13).f1.f2, (⟨(rd_T39 x11 x13).f1.f3.f0, (rd_T39 x11 x13).f1.f3.f1, (rd_T39 x11 x13).f1.f3.f2⟩ : S35)⟩ : S37)⟩ : S39)]) x11 x12 (wrap64 (x13 + 1))) else (none)) else (skerryref10_Part.l0 k x1 x2 x7 x11 x12 (wrap64 (x13 + 1)))) else (skerryref10_Part.l0 k x1 x2 x7 x11 x12 (wrap64 (x13 + 1)))) else (none)) else (none)) else (some x7)
def skerryref10_Part.f (k : Nat) (l0 : List (S39)) (a1 : ByteArray) (a2 : ByteArray) : Option ((List (S39))) := (skerryref05_Norm.f k l0).bind fun t370 => (skerryref10_Part.l0 k a1 a2 ([] : List (S39)) t370 (t370.length : Int) 0)
set_option maxHeartbeats 8000000 in
set_option maxRecDepth 100000 in
theorem skerryref10_Part.calls (k : Nat) (A0 : Option Addr) (c0 : Nat) (l0 : List (S39)) (a1 : ByteArray) (a2 : ByteArray) (r : List (S39)) (w : World) (hr0 : Kd.C k39 w A0 l0.length l0) (hc0 : l0.length ≤ c0) (h : skerryref10_Part.f k l0 a1 a2 = some r) :
  Calls Try.prog 22 #[.slice A0 l0.length c0, .string a1, .string a2] w fun e w' => ∃ v0_ : Value, e = .returned (v0_) ∧ Kd.R k39 39 w' w.heap.size (fun _ => True) v0_ r ∧ Below w.heap.size w w' := by
 have hu39 := Try.underlying39
 have HR0 := Aside0.mk hr0
 have HC0 := Aside0.mk hc0
 clear hr0 hc0
 have HB := Aside0.mk (Below.refl w.heap.size w)
 have H : ((skerryref05_Norm.f k l0).bind fun t370 => (skerryref10_Part.l0 k a1 a2 ([] : List (S39)) t370 (t370.length : Int) 0)) = some r := h
 clear h
 replace H := Option.bind_eq_some_iff.mp H
 obtain ⟨t370, A40, H⟩ := H
 have A4 := Aside0.mk A40
 clear A40
 have H' := Aside0.mk H
 clear H
 go_enter Try.func22, Try.ntmps22
 go_wp2_with (first | ((with_reducible refine gate_callee (f := 17) rfl ?_); refine goesL_ (some 11) rfl rfl Try.func17 (by kernel_rfl) rfl #[.slice A0 l0.length c0] rfl (by (try simp only [mT_, mC_, mN_]); first | done | rfl) ?_; (with_reducible refine (skerryref05_Norm.calls k _ _ l0 t370 _ ?side1 ?side2 A4.out).mono ?_); (case side1 => repeat (first | exact HR0.out | (with_reducible refine Kd.C_alloc ?_ _) | (with_reducible refine Kd.C_drewN ?_ _) | (with_reducible refine Kd.C_drew ?_))); (case side2 => exact HC0.out); rintro e w5 ⟨v371, rfl, ho0, hb⟩; refine ⟨_, rfl, ?_⟩; have HO372 := Aside0.mk (Kd.R_lower ho0 (bZ_ (kwW HB))); replace HB := Aside0.mk (below_step (kwW HB) hb); (try clear hb); (try clear hb2); (try clear hk); (try clear hi); (try clear ho0); obtain ⟨Ao6, co6, eo6⟩ := Kd.R_slice HO372.out; subst eo6))
 go_loopg [7, 13] k (fun kq v7 v13 w' => ∃ (x7_1 : List (S39)) (x13_1 : Int), v13 = .int .i64 x13_1 ∧ Aside0 (skerryref10_Part.l0 kq a1 a2 x7_1 t370 (t370.length : Int) x13_1 = some r) ∧ Aside0 (kq ≤ k) ∧ Aside0 (Kd.R k39 39 w' w.heap.size (fun k_ => some k_ ≠ ((.slice Ao6 t370.length co6) : Value).ownBlock) v7 x7_1) ∧ Aside0 (Kd.R k39 39 w' w.heap.size (fun k_ => some k_ ≠ (v7 : Value).ownBlock) (.slice Ao6 t370.length co6) t370) ∧ Aside0 (Below w.heap.size w w'))
 case atStart => exact ⟨(([] : List (S39))), (0), (by first | rfl | (simp; done) | (simp [bne, *]; done)), H', ⟨Nat.le_refl _⟩, ⟨by first | exact Kd.R_nil _ _ _ _ _ | exact Kd.N_nil _ _ _ _ _ | exact Kd.V_nil _ _ _ _ _ | exact Kd.Q_nil _ _ _ _ _ | exact Kd.S_nil _ _ _ _ _⟩, ⟨by (with_reducible repeat (first | apply Kd.R_alloc | apply Kd.R_drewN | apply Kd.R_drew)); exact Kd.R_mono HO372.out (fun _ hk => (by simp [Value.ownBlock]))⟩, ⟨kwW HB⟩⟩
 case round =>
  clear H'
  try clear c1
  try clear c2
  try clear p2
  obtain ⟨x7_1, x13_1, rfl, HA, HK1, HO_7, HO_11, HB⟩ := hrel
  cases gk with
  | zero => exact absurd HA.out (by simp [skerryref10_Part.l0])
  | succ k1 =>
   have H := HA.out
   clear HA
   simp only [skerryref10_Part.l0] at H
   by_cases c7 : x13_1 < (t370.length : Int)
   rotate_left
   ·
    rw [if_neg c7] at H
    have c7b0 : decide (x13_1 < (t370.length : Int)) = false := decide_eq_false c7
    clear c7
    obtain rfl := Option.some.inj H
    go_wp2
    go_ret
    exact ⟨_, by first | rfl | (simp <;> rfl) | (simp [*] <;> rfl), by (with_reducible repeat (first | apply Kd.R_alloc | apply Kd.R_drewN | apply Kd.R_drew)); exact Kd.R_mono HO_7.out (fun _ hk => trivial), kwW HB⟩
   rw [if_pos c7] at H
   have c7b0 : decide (x13_1 < (t370.length : Int)) = true := decide_eq_true c7
   clear c7
   by_cases c8 : 0 ≤ x13_1
   rotate_left
   ·
    rw [if_neg c8] at H
    exact absurd H (by simp)
   rw [if_pos c8] at H
   have c8b0 : decide (0 ≤ x13_1) = true := decide_eq_true c8
   clear c8
   by_cases c9 : x13_1 < (t370.length : Int)
   rotate_left
   ·
    rw [if_neg c9] at H
    exact absurd H (by simp)
   rw [if_pos c9] at H
   have c9b0 : decide (x13_1 < (t370.length : Int)) = true := decide_eq_true c9
   clear c9
   by_cases c10 : ((rd_T39 t370 x13_1).f0.f0).toList = a1.toList
   rotate_left
   ·
    rw [if_neg c10] at H
    have c10b0 : (((rd_T39 t370 x13_1).f0.f0).toList == a1.toList) = false := beq_eq_false_iff_ne.mpr c10
    have c10b1 : (((rd_T39 t370 x13_1).f0.f0).toList != a1.toList) = true := bne_iff_ne.mpr c10
    have H' := Aside0.mk H
    clear H
    have p373 : 0 ≤ (x13_1 : Int) := of_decide_eq_true (by first | (with_reducible assumption) | assumption)
    have q373 : x13_1 < (t370.length : Int) := of_decide_eq_true (by first | (with_reducible assumption) | assumption)
    obtain ⟨ad373, e373, hx373_0, hx373_1, hx373_2, hx373_3, hx373_4, hx373_5, hx373_6, hx373_7, hx373_8, hx373_9⟩ := at_T39 (Kd.R_reads' HO_11.out).2.2 x13_1 p373 q373
    cases e373
    replace p373 := eq_true p373
    replace q373 := eq_true q373
    go_wp2_with (first | ((with_reducible refine gate_dst (N := 9) rfl ?_); refine box_event ?hg (N := 9) ?hd (cs := #[.string (⟨#[]⟩ : ByteArray), .string (⟨#[]⟩ : ByteArray), .int .i64 0, .string (⟨#[]⟩ : ByteArray), .int .i64 0, .bool false, .int .i64 0, .int .i64 0, .int .i64 0, .string (⟨#[]⟩ : ByteArray)]) (t := 39) ?hr ?_; (case hd => rfl); (case hg => rfl); (case hr => first | (go_simp; done) | (go_simp; rfl)); intro gb374 hg w18 hbox hb; replace HO_7 := Aside0.mk (Kd.R_below (Kd.R_elderB (krW HO_7) gb374 (Nat.le_of_eq hg.symm)) hb); replace HO_11 := Aside0.mk (Kd.R_below (Kd.R_elderB (krW HO_11) gb374 (Nat.le_of_eq hg.symm)) hb); have BK374 := Aside0.mk (hbox); have GW374 := Aside0.mk ((by rw [hg]; exact (bZ_ (kwW HB)) : w.heap.size ≤ gb374)); replace HB := Aside0.mk (below_step (kwW HB) hb); have GE374 := GW374; clear hb hbox hg; obtain ⟨_, _, _, _, _, _, _, _, _, _, _, _, _, _, _, _, _, _, _, _⟩ := czf10 BK374))
    go_roundg k1
    case measure => have := HK1.out; omega
    case rel => exact ⟨(x7_1), (wrap64 (x13_1 + 1)), (by first | rfl | (simp; done) | (simp [bne, *]; done)), H', ⟨by have := HK1.out; omega⟩, ⟨by (with_reducible repeat (first | apply Kd.R_alloc | apply Kd.R_drewN | apply Kd.R_drew)); exact Kd.R_mono (rf10 (Kd.R_mono HO_7.out (fun k_ hk => (⟨hk, hk.2⟩ : _ ∧ k_ ≠ gb374))) (fun _ hk => hk.2)) (fun _ hk => hk.1.1)⟩, ⟨by (with_reducible repeat (first | apply Kd.R_alloc | apply Kd.R_drewN | apply Kd.R_drew)); exact Kd.R_mono (rf10 (Kd.R_mono HO_11.out (fun k_ hk => (⟨hk, hk.2⟩ : _ ∧ k_ ≠ gb374))) (fun _ hk => hk.2)) (fun _ hk => hk.1.1)⟩, ⟨by repeat (first | (with_reducible first | exact HB.out | apply bA_ | apply bN_ | apply bD_ | refine bS_ ?_ GE374) | exact HB.out)⟩⟩
   rw [if_pos c10] at H
   have c10b0 : (((rd_T39 t370 x13_1).f0.f0).toList == a1.toList) = true := beq_iff_eq.mpr c10
   have c10b1 : (((rd_T39 t370 x13_1).f0.f0).toList != a1.toList) = false := bne_eq_false_iff_eq.mpr c10
   clear c10
   by_cases c11 : ((rd_T39 t370 x13_1).f0.f1).toList = a2.toList
   rotate_left
   ·
    rw [if_neg c11] at H
    have c11b0 : (((rd_T39 t370 x13_1).f0.f1).toList == a2.toList) = false := beq_eq_false_iff_ne.mpr c11
    have c11b1 : (((rd_T39 t370 x13_1).f0.f1).toList != a2.toList) = true := bne_iff_ne.mpr c11
    have H' := Aside0.mk H
    clear H
    have p373 : 0 ≤ (x13_1 : Int) := of_decide_eq_true (by first | (with_reducible assumption) | assumption)
    have q373 : x13_1 < (t370.length : Int) := of_decide_eq_true (by first | (with_reducible assumption) | assumption)
    obtain ⟨ad373, e373, hx373_0, hx373_1, hx373_2, hx373_3, hx373_4, hx373_5, hx373_6, hx373_7, hx373_8, hx373_9⟩ := at_T39 (Kd.R_reads' HO_11.out).2.2 x13_1 p373 q373
    cases e373
    replace p373 := eq_true p373
    replace q373 := eq_true q373
    go_wp2_with (first | ((with_reducible refine gate_dst (N := 9) rfl ?_); refine box_event ?hg (N := 9) ?hd (cs := #[.string (⟨#[]⟩ : ByteArray), .string (⟨#[]⟩ : ByteArray), .int .i64 0, .string (⟨#[]⟩ : ByteArray), .int .i64 0, .bool false, .int .i64 0, .int .i64 0, .int .i64 0, .string (⟨#[]⟩ : ByteArray)]) (t := 39) ?hr ?_; (case hd => rfl); (case hg => rfl); (case hr => first | (go_simp; done) | (go_simp; rfl)); intro gb374 hg w16 hbox hb; replace HO_7 := Aside0.mk (Kd.R_below (Kd.R_elderB (krW HO_7) gb374 (Nat.le_of_eq hg.symm)) hb); replace HO_11 := Aside0.mk (Kd.R_below (Kd.R_elderB (krW HO_11) gb374 (Nat.le_of_eq hg.symm)) hb); have BK374 := Aside0.mk (hbox); have GW374 := Aside0.mk ((by rw [hg]; exact (bZ_ (kwW HB)) : w.heap.size ≤ gb374)); replace HB := Aside0.mk (below_step (kwW HB) hb); have GE374 := GW374; clear hb hbox hg; obtain ⟨_, _, _, _, _, _, _, _, _, _, _, _, _, _, _, _, _, _, _, _⟩ := czf10 BK374))
    go_roundg k1
    case measure => have := HK1.out; omega
    case rel => exact ⟨(x7_1), (wrap64 (x13_1 + 1)), (by first | rfl | (simp; done) | (simp [bne, *]; done)), H', ⟨by have := HK1.out; omega⟩, ⟨by (with_reducible repeat (first | apply Kd.R_alloc | apply Kd.R_drewN | apply Kd.R_drew)); exact Kd.R_mono (rf10 (Kd.R_mono HO_7.out (fun k_ hk => (⟨hk, hk.2⟩ : _ ∧ k_ ≠ gb374))) (fun _ hk => hk.2)) (fun _ hk => hk.1.1)⟩, ⟨by (with_reducible repeat (first | apply Kd.R_alloc | apply Kd.R_drewN | apply Kd.R_drew)); exact Kd.R_mono (rf10 (Kd.R_mono HO_11.out (fun k_ hk => (⟨hk, hk.2⟩ : _ ∧ k_ ≠ gb374))) (fun _ hk => hk.2)) (fun _ hk => hk.1.1)⟩, ⟨by repeat (first | (with_reducible first | exact HB.out | apply bA_ | apply bN_ | apply bD_ | refine bS_ ?_ GE374) | exact HB.out)⟩⟩
   rw [if_pos c11] at H
   have c11b0 : (((rd_T39 t370 x13_1).f0.f1).toList == a2.toList) = true := beq_iff_eq.mpr c11
   have c11b1 : (((rd_T39 t370 x13_1).f0.f1).toList != a2.toList) = false := bne_eq_false_iff_eq.mpr c11
   clear c11
   by_cases c12 : x7_1.length < 1256584717458
   rotate_left
   ·
    rw [if_neg c12] at H
    exact absurd H (by simp)
   rw [if_pos c12] at H
   have LMc12 := Aside0.mk c12
   clear c12
   obtain ⟨y375, hy375⟩ : ∃ y_ : List (S39), y_ = (x7_1 ++ [(⟨(⟨(rd_T39 t370 x13_1).f0.f0, (rd_T39 t370 x13_1).f0.f1, (rd_T39 t370 x13_1).f0.f2, (rd_T39 t370 x13_1).f0.f3⟩ : S33), (⟨(rd_T39 t370 x13_1).f1.f0, (rd_T39 t370 x13_1).f1.f1, (rd_T39 t370 x13_1).f1.f2, (⟨(rd_T39 t370 x13_1).f1.f3.f0, (rd_T39 t370 x13_1).f1.f3.f1, (rd_T39 t370 x13_1).f1.f3.f2⟩ : S35)⟩ : S37)⟩ : S39)]) := ⟨_, rfl⟩
   replace H : (skerryref10_Part.l0 k1 a1 a2 y375 t370 (t370.length : Int) (wrap64 (x13_1 + 1))) = some r := by first | (rw [hy375]; with_reducible exact H) | (have H2_ := (Option.bind_some _ _).symm.trans H; rw [hy375]; with_reducible exact H2_) | (have H2_ := (Option.bind_some _ _).symm.trans H; with_reducible exact H2_) | with_reducible exact H | (rw [hy375]; exact H) | exact H
   have Ny375 := Aside0.mk hy375
   clear hy375
   have H' := Aside0.mk H
   clear H
   have p373 : 0 ≤ (x13_1 : Int) := of_decide_eq_true (by first | (with_reducible assumption) | assumption)
   have q373 : x13_1 < (t370.length : Int) := of_decide_eq_true (by first | (with_reducible assumption) | assumption)
   obtain ⟨ad373, e373, hx373_0, hx373_1, hx373_2, hx373_3, hx373_4, hx373_5, hx373_6, hx373_7, hx373_8, hx373_9⟩ := at_T39 (Kd.R_reads' HO_11.out).2.2 x13_1 p373 q373
   cases e373
   replace p373 := eq_true p373
   replace q373 := eq_true q373
   go_wp2_with (first | ((with_reducible refine gate_dst (N := 9) rfl ?_); refine box_event ?hg (N := 9) ?hd (cs := #[.string (⟨#[]⟩ : ByteArray), .string (⟨#[]⟩ : ByteArray), .int .i64 0, .string (⟨#[]⟩ : ByteArray), .int .i64 0, .bool false, .int .i64 0, .int .i64 0, .int .i64 0, .string (⟨#[]⟩ : ByteArray)]) (t := 39) ?hr ?_; (case hd => rfl); (case hg => rfl); (case hr => first | (go_simp; done) | (go_simp; rfl)); intro gb374 hg w13 hbox hb; replace HO_7 := Aside0.mk (Kd.R_below (Kd.R_elderB (krW HO_7) gb374 (Nat.le_of_eq hg.symm)) hb); replace HO_11 := Aside0.mk (Kd.R_below (Kd.R_elderB (krW HO_11) gb374 (Nat.le_of_eq hg.symm)) hb); have BK374 := Aside0.mk (hbox); have GW374 := Aside0.mk ((by rw [hg]; exact (bZ_ (kwW HB)) : w.heap.size ≤ gb374)); replace HB := Aside0.mk (below_step (kwW HB) hb); have GE374 := GW374; clear hb hbox hg; obtain ⟨_, _, _, _, _, _, _, _, _, _, _, _, _, _, _, _, _, _, _, _⟩ := czf10 BK374) | ((with_reducible refine gate_builtin (b := .append) (xs := #[.tmp 29, .tmp 31]) rfl ?_); at_builtin; refine Kd.R_append k39 (w0 := w) w.heap.size rfl (.tmp 29) (.tmp 31) 25 39 (.agg #[(.string ⟨#[]⟩), (.string ⟨#[]⟩), (.int .i64 0), (.string ⟨#[]⟩), (.int .i64 0), (.bool false), (.int .i64 0), (.int .i64 0), (.int .i64 0), (.string ⟨#[]⟩)]) 112 rfl Try.underlying25 info39 rfl (by decide) (by omega) u7 x7_1 (⟨(⟨(rd_T39 t370 x13_1).f0.f0, (rd_T39 t370 x13_1).f0.f1, (rd_T39 t370 x13_1).f0.f2, (rd_T39 t370 x13_1).f0.f3⟩ : S33), (⟨(rd_T39 t370 x13_1).f1.f0, (rd_T39 t370 x13_1).f1.f1, (rd_T39 t370 x13_1).f1.f2, (⟨(rd_T39 t370 x13_1).f1.f3.f0, (rd_T39 t370 x13_1).f1.f3.f1, (rd_T39 t370 x13_1).f1.f3.f2⟩ : S35)⟩ : S37)⟩ : S39) [.string ((rd_T39 t370 x13_1).f0.f0), .string ((rd_T39 t370 x13_1).f0.f1), .int .i64 ((rd_T39 t370 x13_1).f0.f2), .string ((rd_T39 t370 x13_1).f0.f3), .int .i64 ((rd_T39 t370 x13_1).f1.f0), .bool ((rd_T39 t370 x13_1).f1.f1), .int .i64 ((rd_T39 t370 x13_1).f1.f2), .int .i64 ((rd_T39 t370 x13_1).f1.f3.f0), .int .i64 ((rd_T39 t370 x13_1).f1.f3.f1), .string ((rd_T39 t370 x13_1).f1.f3.f2)] (fun k_ => some k_ ≠ (.slice (some ad373) t370.length co6 : Value).ownBlock ∧ k_ ≠ gb374) (fun _ => False) rfl (by first | (go_simp; done) | (go_simp; rfl)) ?aP (fun _ hk => hk.elim) ?aF ?aO ?aB ?aS ?aL ?_; (case aP => exact k39_mkM _ _ _ (⟨(⟨(rd_T39 t370 x13_1).f0.f0, (rd_T39 t370 x13_1).f0.f1, (rd_T39 t370 x13_1).f0.f2, (rd_T39 t370 x13_1).f0.f3⟩ : S33), (⟨(rd_T39 t370 x13_1).f1.f0, (rd_T39 t370 x13_1).f1.f1, (rd_T39 t370 x13_1).f1.f2, (⟨(rd_T39 t370 x13_1).f1.f3.f0, (rd_T39 t370 x13_1).f1.f3.f1, (rd_T39 t370 x13_1).f1.f3.f2⟩ : S35)⟩ : S37)⟩ : S39)); (case aB => exact (by repeat (first | (with_reducible first | exact HB.out | apply bA_ | apply bN_ | apply bD_ | refine bS_ ?_ GE374) | exact HB.out))); (case aF => exact (fun k_ hk => ⟨Kd.fresh' (Kd.R_lt (by (with_reducible repeat (first | apply Kd.R_alloc | apply Kd.R_drewN | apply Kd.R_drew)); exact (Kd.R_mono (rf10 (Kd.R_mono HO_11.out (fun k_ hk => (⟨hk, hk.2⟩ : _ ∧ k_ ≠ gb374))) (fun _ hk => hk.2)) (fun _ h_ => h_.1)))) k_ hk, Kd.freshB (g := gb374) (o := .cells #[.string ((rd_T39 t370 x13_1).f0.f0), .string ((rd_T39 t370 x13_1).f0.f1), .int .i64 ((rd_T39 t370 x13_1).f0.f2), .string ((rd_T39 t370 x13_1).f0.f3), .int .i64 ((rd_T39 t370 x13_1).f1.f0), .bool ((rd_T39 t370 x13_1).f1.f1), .int .i64 ((rd_T39 t370 x13_1).f1.f2), .int .i64 ((rd_T39 t370 x13_1).f1.f3.f0), .int .i64 ((rd_T39 t370 x13_1).f1.f3.f1), .string ((rd_T39 t370 x13_1).f1.f3.f2)] 39 (0, 0)) (by (with_reducible repeat (first | refine blk_drewN ?_ _ | refine blk_drew ?_ | refine blk_alloc ?_ _)); exact bp10 (kbW BK374)) k_ hk⟩)); (case aO => exact (by (with_reducible repeat (first | apply Kd.R_alloc | apply Kd.R_drewN | apply Kd.R_drew)); exact Kd.R_mono (rf10 (Kd.R_mono HO_7.out (fun k_ hk => (⟨hk, hk.2⟩ : _ ∧ k_ ≠ gb374))) (fun _ hk => hk.2)) (fun _ hk => ⟨hk.1.1, hk.1.2⟩))); (case aS => exact (bZ_ (by repeat (first | (with_reducible first | exact HB.out | apply bA_ | apply bN_ | apply bD_ | refine bS_ ?_ GE374) | exact HB.out)))); (case aL => have := LMc12.out; omega); intro v376 w15 ho hb hg hat; rw [← Ny375.out] at ho; replace HO_11 := Aside0.mk (Kd.R_after (ok := (fun k_ => k_ ≠ gb374)) (by (with_reducible repeat (first | apply Kd.R_alloc | apply Kd.R_drewN | apply Kd.R_drew)); exact Kd.R_mono (rf10 (Kd.R_mono HO_11.out (fun k_ hk => (⟨hk, hk.2⟩ : _ ∧ k_ ≠ gb374))) (fun _ hk => hk.2)) (fun _ hk => ⟨hk.1.2, hk.1.1⟩)) hg hat); replace BK374 := Aside0.mk (blk_grown (g := gb374) (o := .cells #[.string ((rd_T39 t370 x13_1).f0.f0), .string ((rd_T39 t370 x13_1).f0.f1), .int .i64 ((rd_T39 t370 x13_1).f0.f2), .string ((rd_T39 t370 x13_1).f0.f3), .int .i64 ((rd_T39 t370 x13_1).f1.f0), .bool ((rd_T39 t370 x13_1).f1.f1), .int .i64 ((rd_T39 t370 x13_1).f1.f2), .int .i64 ((rd_T39 t370 x13_1).f1.f3.f0), .int .i64 ((rd_T39 t370 x13_1).f1.f3.f1), .string ((rd_T39 t370 x13_1).f1.f3.f2)] 39 (0, 0)) (by (with_reducible repeat (first | refine blk_drewN ?_ _ | refine blk_drew ?_ | refine blk_alloc ?_ _)); exact bp10 (kbW BK374)) hg (Kd.R_away HO_7.out (fun _ hk => hk.2))); replace HB := Aside0.mk (hb); have HO377 := Aside0.mk (ho); clear HO_7; clear ho hb hg hat))
   go_roundg k1
   case measure => have := HK1.out; omega
   case rel => exact ⟨(y375), (wrap64 (x13_1 + 1)), (by first | rfl | (simp; done) | (simp [bne, *]; done)), H', ⟨by have := HK1.out; omega⟩, ⟨by (with_reducible repeat (first | apply Kd.R_alloc | apply Kd.R_drewN | apply Kd.R_drew)); exact Kd.R_mono HO377.out (fun _ hk => hk.1)⟩, ⟨by (with_reducible repeat (first | apply Kd.R_alloc | apply Kd.R_drewN | apply Kd.R_drew)); exact Kd.R_mono HO_11.out (fun _ hk => hk.2)⟩, ⟨by repeat (first | (with_reducible first | exact HB.out | apply bA_ | apply bN_ | apply bD_ | refine bS_ ?_ GE374) | exact HB.out)⟩⟩
end Go.Proofs.Ytabiekkebdocnaa.Q
