/- Lemmas for this claim's walk: no condition of their own. -/
import Derived.Test.YtdagddhccdchoaaDoorWcSq
import Derived.Test.YtdagddhccdchoaaDoorWcQx0
namespace Go.Proofs.YtdagddhccdchoaaDoor.Q
open Go.RowKit Go.Proofs.YtdagddhccdchoaaDoorW.PrintWords Go.Proofs.YtdagddhccdchoaaDoorW.PrintLast Go.Proofs.YtdagddhccdchoaaDoorW.PrintMore
attribute [local go_sem] max2_int min2_int max_two min_two max_three min_three max_four min_four
set_option linter.unusedVariables false
set_option linter.unusedSimpArgs false
def schema_Find.l0 : Nat → ByteArray → List (S26) → Int → Int → Option (ByteArray × ByteArray × ByteArray × (List (S29)) × Bool)
 | 0, _, _, _, _ => none
 | k + 1, x1, x8, x9, x10 => if x10 < x9 then (if 0 ≤ x10 then (if x10 < (x8.length : Int) then (if ((rd_T26 x8 x10).f0).toList = x1.toList then (some ((rd_T26 x8 x10).f0, (rd_T26 x8 x10).f1, (rd_T26 x8 x10).f2, (rd_T26 x8 x10).f3, true)) else (schema_Find.l0 k x1 x8 x9 (wrap64 (x10 + 1)))) else (none)) else (none)) else (some ((⟨#[]⟩ : ByteArray), (⟨#[]⟩ : ByteArray), (⟨#[]⟩ : ByteArray), ([] : List (S29)), false))
def schema_Find.f (k : Nat) (l0 : List (S26)) (a1 : ByteArray) : Option (ByteArray × ByteArray × ByteArray × (List (S29)) × Bool) := schema_Find.l0 k a1 l0 (l0.length : Int) 0
set_option maxHeartbeats 8000000 in
set_option maxRecDepth 100000 in
theorem schema_Find.calls (k : Nat) (P0_ : Nat → Prop) (A0 : Option Addr) (c0 : Nat) (l0 : List (S26)) (a1 : ByteArray) (r1 : ByteArray) (r2 : ByteArray) (r3 : ByteArray) (r4 : List (S29)) (r5 : Bool) (w : World) (hs0 : Kd.V k26 26 w w.heap.size (fun k_ => P0_ k_) (.slice A0 l0.length c0) l0) (h : schema_Find.f k l0 a1 = some (r1, r2, r3, r4, r5)) :
  Calls Tryd.prog 20 #[.slice A0 l0.length c0, .string a1] w fun e w' => ∃ v3_ : Value, e = .returned (.tuple #[.agg #[.string r1, .string r2, .string r3, v3_], .bool r5]) ∧ Kd.V k29 29 w' w.heap.size (fun k_ => (P0_ k_ ∨ w.heap.size ≤ k_)) v3_ r4 ∧ Below w.heap.size w w' := by
 have hu26 := Tryd.underlying26
 have HO0 := Aside0.mk (show Kd.V k26 26 w w.heap.size (fun k_ => (P0_ k_ ∨ w.heap.size ≤ k_)) (.slice A0 l0.length c0) l0 from Kd.V_mono hs0 (fun k_ hk => .inl hk))
 have HB := Aside0.mk (Below.refl w.heap.size w)
 have H : (schema_Find.l0 k a1 l0 (l0.length : Int) 0) = some (r1, r2, r3, r4, r5) := h
 clear h
 have H' := Aside0.mk H
 clear H
 go_enter Tryd.func20, Tryd.ntmps20
 go_wp2_with (first | ((with_reducible refine gate_dst (N := 4) rfl ?_); refine box_event ?hg (N := 4) ?hd (cs := #[.string (⟨#[]⟩ : ByteArray), .string (⟨#[]⟩ : ByteArray), .string (⟨#[]⟩ : ByteArray), .slice none 0 0]) (t := 26) ?hr ?_; (case hd => rfl); (case hg => rfl); (case hr => first | (go_simp; done) | (go_simp; rfl)); intro gb222 hg w3 hbox hb; replace HO0 := Aside0.mk (Kd.V_below (Kd.V_elderB (by (with_reducible repeat (first | apply Kd.V_alloc | apply Kd.V_drewN | apply Kd.V_drew)); exact HO0.out) gb222 (Nat.le_of_eq hg.symm)) hb); have BK222 := Aside0.mk (hbox); have GW222 := Aside0.mk ((by rw [hg]; exact (bZ_ (kwW HB)) : w.heap.size ≤ gb222)); replace HB := Aside0.mk (below_step (kwW HB) hb); have GE222 := GW222; clear hb hbox hg))
 go_loopg [10] k (fun kq v10 w' => ∃ (x10_1 : Int) (x223000_1 : ByteArray) (x223001_1 : ByteArray) (x223002_1 : ByteArray), v10 = .int .i64 x10_1 ∧ Aside0 (schema_Find.l0 kq a1 l0 (l0.length : Int) x10_1 = some (r1, r2, r3, r4, r5)) ∧ Aside0 (kq ≤ k) ∧ Aside0 (Kd.V k26 26 w' w.heap.size (fun k_ => (P0_ k_ ∨ w.heap.size ≤ k_) ∧ k_ ≠ gb222) (.slice A0 l0.length c0) l0) ∧ Aside0 (w'.heap[gb222]? = some (.cells #[.string x223000_1, .string x223001_1, .string x223002_1, (.slice none 0 0)] 26 (0, 0))) ∧ Aside0 (Below w.heap.size w w'))
 case atStart => exact ⟨(0), ((⟨#[]⟩ : ByteArray)), ((⟨#[]⟩ : ByteArray)), ((⟨#[]⟩ : ByteArray)), (by first | rfl | (simp; done) | (simp [bne, *]; done)), H', ⟨Nat.le_refl _⟩, ⟨by (with_reducible repeat (first | apply Kd.V_alloc | apply Kd.V_drewN | apply Kd.V_drew)); exact HO0.out⟩, ⟨by (with_reducible repeat (first | refine blk_drewN ?_ _ | refine blk_drew ?_ | refine blk_alloc ?_ _)); exact BK222.out⟩, ⟨by repeat (first | (with_reducible first | exact HB.out | apply bA_ | apply bN_ | apply bD_ | refine bS_ ?_ GE222) | exact HB.out)⟩⟩
 case round =>
  clear H'
  try clear c2
  try clear p2
  obtain ⟨x10_1, x223000_1, x223001_1, x223002_1, rfl, HA, HK1, HO_8, BK222, HB⟩ := hrel
  cases gk with
  | zero => exact absurd HA.out (by simp [schema_Find.l0])
  | succ k1 =>
   have H := HA.out
   clear HA
   simp only [schema_Find.l0] at H
   by_cases c4 : x10_1 < (l0.length : Int)
   rotate_left
   ·
    rw [if_neg c4] at H
    have c4b0 : decide (x10_1 < (l0.length : Int)) = false := decide_eq_false c4
    clear c4
    simp only [Option.some.injEq, Prod.mk.injEq] at H
    obtain ⟨rfl, rfl, rfl, rfl, rfl⟩ := H
    obtain ⟨_, _, _, _, _, _, _, _⟩ := czf4 BK222
    go_wp2
    refine bodyPost_ret (results_ct rfl _ _ gb222 26 #[.string (⟨#[]⟩ : ByteArray), .string (⟨#[]⟩ : ByteArray), .string (⟨#[]⟩ : ByteArray), .slice none 0 0] (0, 0) _ rfl (by (with_reducible repeat (first | refine blk_drewN ?_ _ | refine blk_drew ?_ | refine blk_alloc ?_ _)); exact bp4 (kbW BK222)) Tryd.underlying26 rfl (by kernel_rfl)) rfl ?_
    exact ⟨_, by first | rfl | (simp <;> rfl) | (simp [*] <;> rfl), (by first | exact Kd.V_nil _ _ _ _ _ | exact Kd.V_nil), by repeat (first | (with_reducible first | exact HB.out | apply bA_ | apply bN_ | apply bD_ | refine bS_ ?_ GE222) | exact HB.out)⟩
   rw [if_pos c4] at H
   have c4b0 : decide (x10_1 < (l0.length : Int)) = true := decide_eq_true c4
   clear c4
   by_cases c5 : 0 ≤ x10_1
   rotate_left
   ·
    rw [if_neg c5] at H
    exact absurd H (by simp)
   rw [if_pos c5] at H
   have c5b0 : decide (0 ≤ x10_1) = true := decide_eq_true c5
   clear c5
   by_cases c6 : x10_1 < (l0.length : Int)
   rotate_left
   ·
    rw [if_neg c6] at H
    exact absurd H (by simp)
   rw [if_pos c6] at H
   have c6b0 : decide (x10_1 < (l0.length : Int)) = true := decide_eq_true c6
   clear c6
   by_cases c7 : ((rd_T26 l0 x10_1).f0).toList = a1.toList
   ·
    rw [if_pos c7] at H
    have c7b0 : (((rd_T26 l0 x10_1).f0).toList == a1.toList) = true := beq_iff_eq.mpr c7
    have c7b1 : (((rd_T26 l0 x10_1).f0).toList != a1.toList) = false := bne_eq_false_iff_eq.mpr c7
    clear c7
    simp only [Option.some.injEq, Prod.mk.injEq] at H
    obtain ⟨rfl, rfl, rfl, rfl, rfl⟩ := H
    have p223 : 0 ≤ (x10_1 : Int) := of_decide_eq_true (by first | (with_reducible assumption) | assumption)
    have q223 : x10_1 < (l0.length : Int) := of_decide_eq_true (by first | (with_reducible assumption) | assumption)
    obtain ⟨ad223, A223_3, c223_3, e223, hx223_0, hx223_1, hx223_2, hx223_3, hl223_3, hi223_3⟩ := at_T26 (Kd.V_reads' HO_8.out).2.2 x10_1 p223 q223
    cases e223
    obtain ⟨ce223, hce223, hMe223, hcc223⟩ := Kd.V_get HO_8.out z26 x10_1 p223 (by first | exact q223 | exact of_decide_eq_true (by first | (with_reducible assumption) | assumption) | (have e_ := (Kd.V_reads' HO_8.out).1; omega))
    obtain ⟨ua223_3, uc223_3, rfl, ul223_3, ge223_3⟩ := k26_openF hMe223
    have hv223_3 := hcc223 3 _ rfl
    rw [add_field _ _ 3 (by omega)] at hv223_3
    replace hv223_3 := Option.some.inj (hv223_3.symm.trans hx223_3)
    injection hv223_3 with hva_ hvn_ hvc_
    rw [hva_] at ge223_3
    rw [hvc_] at ul223_3
    have HL223_3 := Aside0.mk (show Kd.V k29 29 _ w.heap.size _ _ ((rd_T26 l0 x10_1).f3) from Kd.V_mk ul223_3 ge223_3)
    clear hva_ hvn_ hvc_ ge223_3 ul223_3
    clear hcc223 hce223
    have HR223_3 := Aside0.mk hi223_3
    have HC223_3 := Aside0.mk hl223_3
    clear hi223_3 hl223_3
    replace p223 := eq_true p223
    replace q223 := eq_true q223
    go_wp2_with (first | ((with_reducible refine gate_dst (N := 7) rfl ?_); refine box_event ?hg (N := 7) ?hd (cs := #[.string (⟨#[]⟩ : ByteArray), .string (⟨#[]⟩ : ByteArray), .string (⟨#[]⟩ : ByteArray), .slice none 0 0]) (t := 26) ?hr ?_; (case hd => rfl); (case hg => rfl); (case hr => first | (go_simp; done) | (go_simp; rfl)); intro gb224 hg w8 hbox hb; replace HO_8 := Aside0.mk (Kd.V_below (Kd.V_elderB (by (with_reducible repeat (first | apply Kd.V_alloc | apply Kd.V_drewN | apply Kd.V_drew)); exact HO_8.out) gb224 (Nat.le_of_eq hg.symm)) hb); replace HL223_3 := Aside0.mk (Kd.V_below (Kd.V_elderB (by (with_reducible repeat (first | apply Kd.V_alloc | apply Kd.V_drewN | apply Kd.V_drew)); exact HL223_3.out) gb224 (Nat.le_of_eq hg.symm)) hb); replace HR223_3 := Aside0.mk (Kd.C_below (by repeat (first | (with_reducible exact HR223_3.out) | (with_reducible refine Kd.C_alloc ?_ _) | (with_reducible refine Kd.C_drewN ?_ _) | (with_reducible refine Kd.C_drew ?_) | exact HR223_3.out)) hb); have BK224 := Aside0.mk (hbox); have GW224 := Aside0.mk ((by rw [hg]; exact (bZ_ (by repeat (first | (with_reducible first | exact HB.out | apply bA_ | apply bN_ | apply bD_ | refine bS_ ?_ GE222) | exact HB.out))) : w.heap.size ≤ gb224)); replace HB := Aside0.mk (below_step (by repeat (first | (with_reducible first | exact HB.out | apply bA_ | apply bN_ | apply bD_ | refine bS_ ?_ GE222) | exact HB.out)) hb); have GE224 := GW224; have NB222_224 := Aside0.mk ((by rw [hg]; exact Nat.ne_of_lt (blk_lt (kbW BK222)) : gb222 ≠ gb224)); have NB224_222 := Aside0.mk ((by rw [hg]; exact Nat.ne_of_gt (blk_lt (kbW BK222)) : gb224 ≠ gb222)); replace BK222 := kB BK222 hb; clear hb hbox hg; have hnb9 := NB224_222.out; have hnc9 := NB222_224.out; obtain ⟨_, _, _, _, _, _, _, _⟩ := czf4 BK224; obtain ⟨_, _, _, _, _, _, _, _⟩ := czf4 BK222))
    refine bodyPost_ret (results_ct rfl _ _ gb222 26 #[.string ((rd_T26 l0 x10_1).f0), .string ((rd_T26 l0 x10_1).f1), .string ((rd_T26 l0 x10_1).f2), .slice A223_3 ((rd_T26 l0 x10_1).f3).length c223_3] (0, 0) _ rfl (by (with_reducible repeat (first | refine blk_drewN ?_ _ | refine blk_drew ?_ | refine blk_alloc ?_ _)); apply bp4; (with_reducible repeat (first | refine blk_drewN ?_ _ | refine blk_drew ?_ | refine blk_alloc ?_ _)); refine bf4 ?_ NB222_224.out; (with_reducible repeat (first | refine blk_drewN ?_ _ | refine blk_drew ?_ | refine blk_alloc ?_ _)); exact BK222.out) Tryd.underlying26 rfl (by kernel_rfl)) rfl ?_
    exact ⟨_, by first | rfl | (simp <;> rfl) | (simp [*] <;> rfl), by (with_reducible repeat (first | apply Kd.V_alloc | apply Kd.V_drewN | apply Kd.V_drew)); exact Kd.V_mono (Kd.V_far (p := ⟨gb222, 3, none⟩) (Kd.V_far (p := ⟨gb222, 2, none⟩) (Kd.V_far (p := ⟨gb222, 1, none⟩) (Kd.V_far (p := ⟨gb222, 0, none⟩) (Kd.V_far (p := ⟨gb224, 3, none⟩) (Kd.V_far (p := ⟨gb224, 2, none⟩) (Kd.V_far (p := ⟨gb224, 1, none⟩) (Kd.V_far (p := ⟨gb224, 0, none⟩) (Kd.V_mono (Kd.V_mono HL223_3.out (fun k_ hk => (⟨hk, hk.2⟩ : _ ∧ k_ ≠ gb224))) (fun k_ hk => (⟨hk, hk.1.1.2⟩ : _ ∧ k_ ≠ gb222))) (fun _ hk => hk.1.2) (.string ((rd_T26 l0 x10_1).f0))) (fun _ hk => hk.1.2) (.string ((rd_T26 l0 x10_1).f1))) (fun _ hk => hk.1.2) (.string ((rd_T26 l0 x10_1).f2))) (fun _ hk => hk.1.2) (.slice A223_3 ((rd_T26 l0 x10_1).f3).length c223_3)) (fun _ hk => hk.2) (.string ((rd_T26 l0 x10_1).f0))) (fun _ hk => hk.2) (.string ((rd_T26 l0 x10_1).f1))) (fun _ hk => hk.2) (.string ((rd_T26 l0 x10_1).f2))) (fun _ hk => hk.2) (.slice A223_3 ((rd_T26 l0 x10_1).f3).length c223_3)) (fun _ hk => hk.1.1.1.1), by repeat (first | (with_reducible first | exact HB.out | apply bA_ | apply bN_ | apply bD_ | refine bS_ ?_ GE222 | refine bS_ ?_ GE224) | exact HB.out)⟩
   ·
    rw [if_neg c7] at H
    have c7b0 : (((rd_T26 l0 x10_1).f0).toList == a1.toList) = false := beq_eq_false_iff_ne.mpr c7
    have c7b1 : (((rd_T26 l0 x10_1).f0).toList != a1.toList) = true := bne_iff_ne.mpr c7
    have H' := Aside0.mk H
    clear H
    have p223 : 0 ≤ (x10_1 : Int) := of_decide_eq_true (by first | (with_reducible assumption) | assumption)
    have q223 : x10_1 < (l0.length : Int) := of_decide_eq_true (by first | (with_reducible assumption) | assumption)
    obtain ⟨ad223, A223_3, c223_3, e223, hx223_0, hx223_1, hx223_2, hx223_3, hl223_3, hi223_3⟩ := at_T26 (Kd.V_reads' HO_8.out).2.2 x10_1 p223 q223
    cases e223
    obtain ⟨ce223, hce223, hMe223, hcc223⟩ := Kd.V_get HO_8.out z26 x10_1 p223 (by first | exact q223 | exact of_decide_eq_true (by first | (with_reducible assumption) | assumption) | (have e_ := (Kd.V_reads' HO_8.out).1; omega))
    obtain ⟨ua223_3, uc223_3, rfl, ul223_3, ge223_3⟩ := k26_openF hMe223
    have hv223_3 := hcc223 3 _ rfl
    rw [add_field _ _ 3 (by omega)] at hv223_3
    replace hv223_3 := Option.some.inj (hv223_3.symm.trans hx223_3)
    injection hv223_3 with hva_ hvn_ hvc_
    rw [hva_] at ge223_3
    rw [hvc_] at ul223_3
    have HL223_3 := Aside0.mk (show Kd.V k29 29 _ w.heap.size _ _ ((rd_T26 l0 x10_1).f3) from Kd.V_mk ul223_3 ge223_3)
    clear hva_ hvn_ hvc_ ge223_3 ul223_3
    clear hcc223 hce223
    have HR223_3 := Aside0.mk hi223_3
    have HC223_3 := Aside0.mk hl223_3
    clear hi223_3 hl223_3
    replace p223 := eq_true p223
    replace q223 := eq_true q223
    go_wp2_with (first | ((with_reducible refine gate_dst (N := 7) rfl ?_); refine box_event ?hg (N := 7) ?hd (cs := #[.string (⟨#[]⟩ : ByteArray), .string (⟨#[]⟩ : ByteArray), .string (⟨#[]⟩ : ByteArray), .slice none 0 0]) (t := 26) ?hr ?_; (case hd => rfl); (case hg => rfl); (case hr => first | (go_simp; done) | (go_simp; rfl)); intro gb224 hg w12 hbox hb; replace HO_8 := Aside0.mk (Kd.V_below (Kd.V_elderB (by (with_reducible repeat (first | apply Kd.V_alloc | apply Kd.V_drewN | apply Kd.V_drew)); exact HO_8.out) gb224 (Nat.le_of_eq hg.symm)) hb); replace HL223_3 := Aside0.mk (Kd.V_below (Kd.V_elderB (by (with_reducible repeat (first | apply Kd.V_alloc | apply Kd.V_drewN | apply Kd.V_drew)); exact HL223_3.out) gb224 (Nat.le_of_eq hg.symm)) hb); replace HR223_3 := Aside0.mk (Kd.C_below (by repeat (first | (with_reducible exact HR223_3.out) | (with_reducible refine Kd.C_alloc ?_ _) | (with_reducible refine Kd.C_drewN ?_ _) | (with_reducible refine Kd.C_drew ?_) | exact HR223_3.out)) hb); have BK224 := Aside0.mk (hbox); have GW224 := Aside0.mk ((by rw [hg]; exact (bZ_ (by repeat (first | (with_reducible first | exact HB.out | apply bA_ | apply bN_ | apply bD_ | refine bS_ ?_ GE222) | exact HB.out))) : w.heap.size ≤ gb224)); replace HB := Aside0.mk (below_step (by repeat (first | (with_reducible first | exact HB.out | apply bA_ | apply bN_ | apply bD_ | refine bS_ ?_ GE222) | exact HB.out)) hb); have GE224 := GW224; have NB222_224 := Aside0.mk ((by rw [hg]; exact Nat.ne_of_lt (blk_lt (kbW BK222)) : gb222 ≠ gb224)); have NB224_222 := Aside0.mk ((by rw [hg]; exact Nat.ne_of_gt (blk_lt (kbW BK222)) : gb224 ≠ gb222)); replace BK222 := kB BK222 hb; clear hb hbox hg; have hnb13 := NB224_222.out; have hnc13 := NB222_224.out; obtain ⟨_, _, _, _, _, _, _, _⟩ := czf4 BK224))
    go_roundg k1
    case measure => have := HK1.out; omega
    case rel => exact ⟨(wrap64 (x10_1 + 1)), (x223000_1), (x223001_1), (x223002_1), (by first | rfl | (simp; done) | (simp [bne, *]; done)), H', ⟨by have := HK1.out; omega⟩, ⟨by (with_reducible repeat (first | apply Kd.V_alloc | apply Kd.V_drewN | apply Kd.V_drew)); exact Kd.V_mono (Kd.V_far (p := ⟨gb224, 3, none⟩) (Kd.V_far (p := ⟨gb224, 2, none⟩) (Kd.V_far (p := ⟨gb224, 1, none⟩) (Kd.V_far (p := ⟨gb224, 0, none⟩) (Kd.V_mono HO_8.out (fun k_ hk => (⟨hk, hk.2⟩ : _ ∧ k_ ≠ gb224))) (fun _ hk => hk.2) (.string ((rd_T26 l0 x10_1).f0))) (fun _ hk => hk.2) (.string ((rd_T26 l0 x10_1).f1))) (fun _ hk => hk.2) (.string ((rd_T26 l0 x10_1).f2))) (fun _ hk => hk.2) (.slice A223_3 ((rd_T26 l0 x10_1).f3).length c223_3)) (fun _ hk => ⟨hk.1.1.1, hk.1.1.2⟩)⟩, ⟨by (with_reducible repeat (first | refine blk_drewN ?_ _ | refine blk_drew ?_ | refine blk_alloc ?_ _)); refine bf4 ?_ NB222_224.out; (with_reducible repeat (first | refine blk_drewN ?_ _ | refine blk_drew ?_ | refine blk_alloc ?_ _)); exact BK222.out⟩, ⟨by repeat (first | (with_reducible first | exact HB.out | apply bA_ | apply bN_ | apply bD_ | refine bS_ ?_ GE222 | refine bS_ ?_ GE224) | exact HB.out)⟩⟩
end Go.Proofs.YtdagddhccdchoaaDoor.Q
