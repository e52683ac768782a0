/- Lemmas for this claim's walk: no condition of their own. -/
import Derived.Test.YtdagddhccdchoaaDoorWcSq
import Derived.Test.YtdagddhccdchoaaDoorWcQx0
import Derived.Test.YtdagddhccdchoaaDoorWcQx9
import Derived.Test.YtdagddhccdchoaaDoorWcQx18
import Derived.Test.YtdagddhccdchoaaDoorWcQx20
import Derived.Test.YtdagddhccdchoaaDoorWcQx21
import Derived.Test.YtdagddhccdchoaaDoorWcQx22
namespace Go.Proofs.YtdagddhccdchoaaDoor.Q
open Go.RowKit Go.Proofs.YtdagddhccdchoaaDoorW.PrintWords Go.Proofs.YtdagddhccdchoaaDoorW.PrintLast Go.Proofs.YtdagddhccdchoaaDoorW.PrintMore
attribute [local go_sem] max2_int min2_int max_two min_two max_three min_three max_four min_four
set_option linter.unusedVariables false
set_option linter.unusedSimpArgs false
mutual
def skerrylaw17_SchemaFits.j0 : Nat → List (S26) → ByteArray → Bool → ByteArray → ByteArray → Int → ByteArray → Int → Bool → Int → Int → Int → ByteArray → Option (Bool)
 | 0, _, _, _, _, _, _, _, _, _, _, _, _, _ => none
 | k + 1, x0, x2, x38, x229000, x229001, x229002, x229003, x229004, x229005, x229006, x229007, x229008, x229009 => if x38 = true then ((skerrylaw17_lives.f k).bind fun t229 => (some t229)) else (skerrylaw17_SchemaFits.l0 k x0 x2 x0 (x0.length : Int) 0 x229000 x229001 x229002 x229003 x229004 x229005 x229006 x229007 x229008 x229009)
def skerrylaw17_SchemaFits.l0 : Nat → List (S26) → ByteArray → List (S26) → Int → Int → ByteArray → ByteArray → Int → ByteArray → Int → Bool → Int → Int → Int → ByteArray → Option (Bool)
 | 0, _, _, _, _, _, _, _, _, _, _, _, _, _, _, _ => none
 | k + 1, x0, x2, x40, x41, x42, x229000, x229001, x229002, x229003, x229004, x229005, x229006, x229007, x229008, x229009 => if x42 < x41 then (if 0 ≤ x42 then (if x42 < (x40.length : Int) then (if (((rd_T26 x40 x42).f3).length : Int) > 200 then ((skerrylaw17_lives.f k).bind fun t249 => (some t249)) else ((schema_Fits.f k ((rd_T26 x40 x42).f0) ((rd_T26 x40 x42).f1) ((rd_T26 x40 x42).f2) ((rd_T26 x40 x42).f3) x229000 x229001 x229002 x229003 x229004 x229005 x229006 x229007 x229008 x229009).bind fun t250 => ((skerryref17_Fits.f k ((rd_T26 x40 x42).f0) ((rd_T26 x40 x42).f1) ((rd_T26 x40 x42).f2) ((rd_T26 x40 x42).f3) x229000 x229001 x229002 x229003 x229004 x229005 x229006 x229007 x229008 x229009).bind fun t251 => (if (t250 != t251) = true then (none) else (skerrylaw17_SchemaFits.l0 k x0 x2 x40 x41 (wrap64 (x42 + 1)) x229000 x229001 x229002 x229003 x229004 x229005 x229006 x229007 x229008 x229009))))) else (none)) else (none)) else ((schema_Find.f k x0 x2).bind fun bt230 => ((skerryref17_Find.f k x0 x2).bind fun bt238 => (if bt230.1.toList = bt238.1.toList then (if bt230.2.1.toList = bt238.2.1.toList then (if bt230.2.2.1.toList = bt238.2.2.1.toList then (if (bt230.2.2.2.1.length : Int) = (bt238.2.2.2.1.length : Int) then (if (bt230.2.2.2.2 == bt238.2.2.2.2) = true then ((skerrylaw17_lives.f k).bind fun t246 => (some t246)) else (none)) else (none)) else (none)) else (none)) else (none))))
end
def skerrylaw17_SchemaFits.f (k : Nat) (l0 : List (S26)) (a1_0 : ByteArray) (a1_1 : ByteArray) (a1_2 : Int) (a1_3 : ByteArray) (a1_4 : Int) (a1_5 : Bool) (a1_6 : Int) (a1_7 : Int) (a1_8 : Int) (a1_9 : ByteArray) (a2 : ByteArray) : Option (Bool) := if (l0.length : Int) > 100 then (skerrylaw17_SchemaFits.j0 k l0 a2 true a1_0 a1_1 a1_2 a1_3 a1_4 a1_5 a1_6 a1_7 a1_8 a1_9) else (skerrylaw17_SchemaFits.j0 k l0 a2 (decide ((wrap64 ((wrap64 ((wrap64 ((a1_1.size : Int) + (a1_0.size : Int))) + (a1_3.size : Int))) + (a1_9.size : Int))) > 5000)) a1_0 a1_1 a1_2 a1_3 a1_4 a1_5 a1_6 a1_7 a1_8 a1_9)
set_option maxHeartbeats 8000000 in
set_option maxRecDepth 100000 in
theorem skerrylaw17_SchemaFits.calls (k : Nat) (A0 : Option Addr) (c0 : Nat) (l0 : List (S26)) (a1_0 : ByteArray) (a1_1 : ByteArray) (a1_2 : Int) (a1_3 : ByteArray) (a1_4 : Int) (a1_5 : Bool) (a1_6 : Int) (a1_7 : Int) (a1_8 : Int) (a1_9 : ByteArray) (a2 : ByteArray) (r : Bool) (w : World) (hr0 : Kd.C k26 w A0 l0.length l0) (hc0 : l0.length ≤ c0) (h : skerrylaw17_SchemaFits.f k l0 a1_0 a1_1 a1_2 a1_3 a1_4 a1_5 a1_6 a1_7 a1_8 a1_9 a2 = some r) :
  Calls Tryd.prog 7 #[.slice A0 l0.length c0, .agg #[.string a1_0, .string a1_1, .int .i64 a1_2, .string a1_3, .int .i64 a1_4, .bool a1_5, .int .i64 a1_6, .int .i64 a1_7, .int .i64 a1_8, .string a1_9], .string a2] w fun e w' => e = .returned (.bool r) ∧ Below w.heap.size w w' := by
 have hu49 := Tryd.underlying49
 have hu26 := Tryd.underlying26
 have HR0 := Aside0.mk hr0
 have HC0 := Aside0.mk hc0
 clear hr0 hc0
 have HB := Aside0.mk (Below.refl w.heap.size w)
 have H : (if (l0.length : Int) > 100 then (skerrylaw17_SchemaFits.j0 k l0 a2 true a1_0 a1_1 a1_2 a1_3 a1_4 a1_5 a1_6 a1_7 a1_8 a1_9) else (skerrylaw17_SchemaFits.j0 k l0 a2 (decide ((wrap64 ((wrap64 ((wrap64 ((a1_1.size : Int) + (a1_0.size : Int))) + (a1_3.size : Int))) + (a1_9.size : Int))) > 5000)) a1_0 a1_1 a1_2 a1_3 a1_4 a1_5 a1_6 a1_7 a1_8 a1_9)) = some r := h
 clear h
 have HC4 := Aside0.mk H
 clear H
 go_enter Tryd.func7, Tryd.ntmps7
 go_upto_region 1 with (first | ((with_reducible refine gate_dst (N := 4) rfl ?_); (try (refine gate_guard (by rfl) ?_; dsimp only)); refine box_event ?hg (N := 4) ?hd (cs := #[.string a1_0, .string a1_1, .int .i64 a1_2, .string a1_3, .int .i64 a1_4, .bool a1_5, .int .i64 a1_6, .int .i64 a1_7, .int .i64 a1_8, .string a1_9]) (t := 49) ?hr ?_; (case hd => rfl); (case hg => rfl); (case hr => first | (go_simp; done) | (go_simp; rfl)); intro gb228 hg w5 hbox hb; have BK228 := Aside0.mk (hbox); have GW228 := Aside0.mk ((by rw [hg]; exact (bZ_ (kwW HB)) : w.heap.size ≤ gb228)); replace HB := Aside0.mk (below_step (kwW HB) hb); have GE228 := GW228; clear hb hbox hg))
 (try simp only [Act.put, List.setIfInBounds_toArray, List.set_cons_zero, List.set_cons_succ])
 go_cut [38] (fun v38 wc => ∃ (kq : Nat) (x38_3 : Bool), v38 = .bool x38_3 ∧ Aside0 (skerrylaw17_SchemaFits.j0 kq l0 a2 x38_3 a1_0 a1_1 a1_2 a1_3 a1_4 a1_5 a1_6 a1_7 a1_8 a1_9 = some r) ∧ Aside0 (kq ≤ k) ∧ Aside0 (wc.heap[gb228]? = some (.cells #[.string a1_0, .string a1_1, .int .i64 a1_2, .string a1_3, .int .i64 a1_4, .bool a1_5, .int .i64 a1_6, .int .i64 a1_7, .int .i64 a1_8, .string a1_9] 49 (0, 0))) ∧ Aside0 (Below w.heap.size w wc))
 case first =>
  have H := HC4.out
  clear HC4
  by_cases c6 : (l0.length : Int) > 100
  ·
   rw [if_pos c6] at H
   have c6b0 : decide (100 < (l0.length : Int)) = true := decide_eq_true c6
   have c6b1 : decide (100 < l0.length) = true := decide_eq_true (by omega)
   clear c6
   (first | rw [c6b0] | (simp only [i64_w, i32_w]; rw [c6b0]) | skip)
   have H' := Aside0.mk H
   clear H
   go_wp2
   go_meet
   case rel => exact ⟨_, (true), (by first | rfl | (simp; done) | (simp [bne, *]; done)), H', ⟨by first | omega | exact Nat.le_refl _⟩, ⟨by (with_reducible repeat (first | refine blk_drewN ?_ _ | refine blk_drew ?_ | refine blk_alloc ?_ _)); exact BK228.out⟩, ⟨by repeat (first | (with_reducible first | exact HB.out | apply bA_ | apply bN_ | apply bD_ | refine bS_ ?_ GE228) | exact HB.out)⟩⟩
  ·
   rw [if_neg c6] at H
   have c6b0 : decide (100 < (l0.length : Int)) = false := decide_eq_false c6
   have c6b1 : decide (100 < l0.length) = false := decide_eq_false (by omega)
   clear c6
   (first | rw [c6b0] | (simp only [i64_w, i32_w]; rw [c6b0]) | skip)
   have H' := Aside0.mk H
   clear H
   obtain ⟨hcz7_0, hcz7_1, hcz7_2, hcz7_3, hcz7_4, hcz7_5, hcz7_6, hcz7_7, hcz7_8, hcz7_9, hfz7_0, hfz7_1, hfz7_2, hfz7_3, hfz7_4, hfz7_5, hfz7_6, hfz7_7, hfz7_8, hfz7_9⟩ := czf10 BK228
   go_wp2
   go_meet
   case rel => exact ⟨_, (decide ((wrap64 ((wrap64 ((wrap64 ((a1_1.size : Int) + (a1_0.size : Int))) + (a1_3.size : Int))) + (a1_9.size : Int))) > 5000)), (by first | rfl | (simp; done) | (simp [bne, *]; done)), H', ⟨by first | omega | exact Nat.le_refl _⟩, ⟨by (with_reducible repeat (first | refine blk_drewN ?_ _ | refine blk_drew ?_ | refine blk_alloc ?_ _)); exact BK228.out⟩, ⟨by repeat (first | (with_reducible first | exact HB.out | apply bA_ | apply bN_ | apply bD_ | refine bS_ ?_ GE228) | exact HB.out)⟩⟩
 case rest =>
  clear HC4
  try clear p2
  try clear c6
  try clear c6b0
  try clear c6b1
  try clear p6
  try clear c7
  try clear hcz7_0
  try clear hcz7_1
  try clear hcz7_2
  try clear hcz7_3
  try clear hcz7_4
  try clear hcz7_5
  try clear hcz7_6
  try clear hcz7_7
  try clear hcz7_8
  try clear hcz7_9
  try clear hfz7_0
  try clear hfz7_1
  try clear hfz7_2
  try clear hfz7_3
  try clear hfz7_4
  try clear hfz7_5
  try clear hfz7_6
  try clear hfz7_7
  try clear hfz7_8
  try clear hfz7_9
  obtain ⟨kq, x38_3, rfl, HA, HJ3, BK228, HB⟩ := hcut
  cases kq with
  | zero => exact absurd HA.out (by simp [skerrylaw17_SchemaFits.j0])
  | succ kj3 =>
   have H := HA.out
   clear HA
   simp only [skerrylaw17_SchemaFits.j0] at H
   by_cases c8 : x38_3 = true
   ·
    subst c8
    have H1 : ((skerrylaw17_lives.f kj3).bind fun t229 => (some t229)) = some r := by rw [if_pos rfl] at H; exact H
    clear H
    have H := H1
    clear H1
    replace H := Option.bind_eq_some_iff.mp H
    obtain ⟨t229, A90, H⟩ := H
    have A9 := Aside0.mk A90
    clear A90
    obtain rfl := Option.some.inj H
    go_wp2_with (first | ((with_reducible refine gate_callee (f := 8) rfl ?_); refine goesL_ (some 39) rfl rfl Tryd.func8 (by kernel_rfl) rfl #[] rfl (by (try simp only [mT_, mC_, mN_]); first | done | rfl) ?_; (with_reducible refine (skerrylaw17_lives.calls kj3  t229 _ A9.out).mono ?_); rintro e w10 ⟨rfl, hb⟩; refine ⟨_, rfl, ?_⟩; replace BK228 := kB BK228 hb; replace HB := Aside0.mk (below_step (by repeat (first | (with_reducible first | exact HB.out | apply bA_ | apply bN_ | apply bD_ | refine bS_ ?_ GE228) | exact HB.out)) hb); (try clear hb); (try clear hb2); (try clear hk); (try clear hi)))
    go_ret
    exact ⟨by first | rfl | (simp <;> rfl) | (simp [*] <;> rfl), by repeat (first | (with_reducible first | exact HB.out | apply bA_ | apply bN_ | apply bD_ | refine bS_ ?_ GE228) | exact HB.out)⟩
   ·
    replace c8 := Bool.eq_false_iff.mpr c8
    subst c8
    have H1 : (skerrylaw17_SchemaFits.l0 kj3 l0 a2 l0 (l0.length : Int) 0 a1_0 a1_1 a1_2 a1_3 a1_4 a1_5 a1_6 a1_7 a1_8 a1_9) = some r := by rw [if_neg (show ¬ (false = true) by decide)] at H; exact H
    clear H
    have H := H1
    clear H1
    have H' := Aside0.mk H
    clear H
    go_wp2
    go_loopg [42] kj3 (fun kq v42 w' => ∃ (x42_2 : Int), v42 = .int .i64 x42_2 ∧ Aside0 (skerrylaw17_SchemaFits.l0 kq l0 a2 l0 (l0.length : Int) x42_2 a1_0 a1_1 a1_2 a1_3 a1_4 a1_5 a1_6 a1_7 a1_8 a1_9 = some r) ∧ Aside0 (kq ≤ kj3) ∧ Aside0 (w'.heap[gb228]? = some (.cells #[.string a1_0, .string a1_1, .int .i64 a1_2, .string a1_3, .int .i64 a1_4, .bool a1_5, .int .i64 a1_6, .int .i64 a1_7, .int .i64 a1_8, .string a1_9] 49 (0, 0))) ∧ Aside0 (Below w.heap.size w w'))
    case atStart => exact ⟨(0), (by first | rfl | (simp; done) | (simp [bne, *]; done)), H', ⟨Nat.le_refl _⟩, ⟨by (with_reducible repeat (first | refine blk_drewN ?_ _ | refine blk_drew ?_ | refine blk_alloc ?_ _)); exact BK228.out⟩, ⟨by repeat (first | (with_reducible first | exact HB.out | apply bA_ | apply bN_ | apply bD_ | refine bS_ ?_ GE228) | exact HB.out)⟩⟩
    case round =>
     clear H'
     try clear p2
     try clear c6
     try clear c6b0
     try clear c6b1
     try clear p6
     try clear c7
     try clear c8
     try clear hcz7_0
     try clear hcz7_1
     try clear hcz7_2
     try clear hcz7_3
     try clear hcz7_4
     try clear hcz7_5
     try clear hcz7_6
     try clear hcz7_7
     try clear hcz7_8
     try clear hcz7_9
     try clear hfz7_0
     try clear hfz7_1
     try clear hfz7_2
     try clear hfz7_3
     try clear hfz7_4
     try clear hfz7_5
     try clear hfz7_6
     try clear hfz7_7
     try clear hfz7_8
     try clear hfz7_9
     try clear p2
     try clear p6
     obtain ⟨x42_2, rfl, HA, HK2, BK228, HB⟩ := hrel
     cases gk with
     | zero => exact absurd HA.out (by simp [skerrylaw17_SchemaFits.l0])
     | succ k2 =>
      have H := HA.out
      clear HA
      simp only [skerrylaw17_SchemaFits.l0] at H
      by_cases c11 : x42_2 < (l0.length : Int)
      rotate_left
      ·
       rw [if_neg c11] at H
       have c11b0 : decide (x42_2 < (l0.length : Int)) = false := decide_eq_false c11
       clear c11
       replace H := Option.bind_eq_some_iff.mp H
       obtain ⟨⟨t230, t231, t232, t233, t236⟩, A300, H⟩ := H
       have A30 := Aside0.mk A300
       clear A300
       replace H := Option.bind_eq_some_iff.mp H
       obtain ⟨⟨t238, t239, t240, t241, t244⟩, A310, H⟩ := H
       have A31 := Aside0.mk A310
       clear A310
       by_cases c32 : t230.toList = t238.toList
       rotate_left
       ·
        rw [if_neg c32] at H
        exact absurd H (by simp)
       rw [if_pos c32] at H
       have c32b0 : (t230.toList == t238.toList) = true := beq_iff_eq.mpr c32
       have c32b1 : (t230.toList != t238.toList) = false := bne_eq_false_iff_eq.mpr c32
       clear c32
       by_cases c33 : t231.toList = t239.toList
       rotate_left
       ·
        rw [if_neg c33] at H
        exact absurd H (by simp)
       rw [if_pos c33] at H
       have c33b0 : (t231.toList == t239.toList) = true := beq_iff_eq.mpr c33
       have c33b1 : (t231.toList != t239.toList) = false := bne_eq_false_iff_eq.mpr c33
       clear c33
       by_cases c34 : t232.toList = t240.toList
       rotate_left
       ·
        rw [if_neg c34] at H
        exact absurd H (by simp)
       rw [if_pos c34] at H
       have c34b0 : (t232.toList == t240.toList) = true := beq_iff_eq.mpr c34
       have c34b1 : (t232.toList != t240.toList) = false := bne_eq_false_iff_eq.mpr c34
       clear c34
       by_cases c35 : (t233.length : Int) = (t241.length : Int)
       rotate_left
       ·
        rw [if_neg c35] at H
        exact absurd H (by simp)
       rw [if_pos c35] at H
       have c35b0 : ((t233.length : Int) == (t241.length : Int)) = true := beq_iff_eq.mpr c35
       have c35b1 : ((t233.length : Int) != (t241.length : Int)) = false := bne_eq_false_iff_eq.mpr c35
       have c35b2 : (t233.length == t241.length) = true := by first | simpa using c35 | (simp at c35 ⊢; omega)
       clear c35
       by_cases c36 : (t236 == t244) = true
       rotate_left
       ·
        rw [if_neg c36] at H
        exact absurd H (by simp)
       rw [if_pos c36] at H
       have c36b0 : (t236 == t244) = true := c36
       (try (have c36b1 : decide (t236 = t244) = true := by simpa using c36))
       (try (have c36b2 : (t236 == t244) = true := by simpa using c36))
       clear c36
       replace H := Option.bind_eq_some_iff.mp H
       obtain ⟨t246, A370, H⟩ := H
       have A37 := Aside0.mk A370
       clear A370
       obtain rfl := Option.some.inj H
       go_wp2_with (first | ((with_reducible refine gate_callee (f := 20) rfl ?_); refine goesL_ (some 62) rfl rfl Tryd.func20 (by kernel_rfl) rfl #[.slice A0 l0.length c0, .string a2] rfl (by (try simp only [mT_, mC_, mN_]); first | done | rfl) ?_; (with_reducible refine (schema_Find.calls k2 (fun k_ => k_ < w.heap.size) _ _ l0 a2 t230 t231 t232 t233 t236 _ ?side1 A30.out).mono ?_); (case side1 => exact Kd.V_mk HC0.out (Kd.F_below (Kd.C_F k26_heap HR0.out) (by repeat (first | (with_reducible first | exact HB.out | apply bA_ | apply bN_ | apply bD_ | refine bS_ ?_ GE228) | exact HB.out)))); rintro e w38 ⟨v234, rfl, ho0, hb⟩; refine ⟨_, rfl, ?_⟩; have HO235 := Aside0.mk (Kd.V_lower (Kd.V_mono (ok' := fun k_ => k_ ≠ gb228) ho0 (fun k_ hk_ => Or.elim hk_ (fun hs_ => fun e_ => Nat.not_le.2 hs_ (by rw [e_]; exact GW228.out)) (fun hn_ => (Kd.freshB (kbW BK228) k_ hn_)))) (bZ_ (by repeat (first | (with_reducible first | exact HB.out | apply bA_ | apply bN_ | apply bD_ | refine bS_ ?_ GE228) | exact HB.out)))); replace BK228 := kB BK228 hb; replace HB := Aside0.mk (below_step (by repeat (first | (with_reducible first | exact HB.out | apply bA_ | apply bN_ | apply bD_ | refine bS_ ?_ GE228) | exact HB.out)) hb); (try clear hb); (try clear hb2); (try clear hk); (try clear hi); (try clear ho0)) | ((with_reducible refine gate_dst (N := 9) rfl ?_); (try (refine gate_guard (by rfl) ?_; dsimp only)); refine box_event ?hg (N := 9) ?hd (cs := #[.string (⟨#[]⟩ : ByteArray), .string (⟨#[]⟩ : ByteArray), .string (⟨#[]⟩ : ByteArray), .slice none 0 0]) (t := 26) ?hr ?_; (case hd => rfl); (case hg => rfl); (case hr => first | (go_simp; done) | (go_simp; rfl)); intro gb237 hg w39 hbox hb; replace HO235 := Aside0.mk (Kd.V_below (Kd.V_elderB (by (with_reducible repeat (first | apply Kd.V_alloc | apply Kd.V_drewN | apply Kd.V_drew)); exact HO235.out) gb237 (Nat.le_of_eq hg.symm)) hb); have BK237 := Aside0.mk (hbox); have GW237 := Aside0.mk ((by rw [hg]; exact (bZ_ (by repeat (first | (with_reducible first | exact HB.out | apply bA_ | apply bN_ | apply bD_ | refine bS_ ?_ GE228) | exact HB.out))) : w.heap.size ≤ gb237)); replace HB := Aside0.mk (below_step (by repeat (first | (with_reducible first | exact HB.out | apply bA_ | apply bN_ | apply bD_ | refine bS_ ?_ GE228) | exact HB.out)) hb); have GE237 := GW237; have NB228_237 := Aside0.mk ((by rw [hg]; exact Nat.ne_of_lt (blk_lt (kbW BK228)) : gb228 ≠ gb237)); have NB237_228 := Aside0.mk ((by rw [hg]; exact Nat.ne_of_gt (blk_lt (kbW BK228)) : gb237 ≠ gb228)); replace BK228 := kB BK228 hb; clear hb hbox hg; have hnb40 := NB237_228.out; have hnc40 := NB228_237.out; obtain ⟨_, _, _, _, _, _, _, _⟩ := czf4 BK237; obtain ⟨Ao42, co42, eo42⟩ := Kd.V_slice HO235.out; subst eo42) | ((with_reducible refine gate_store (t := 26) (p := 9) rfl ?_); refine store_event (t := 26) (p := 9) (v := ?vo_w43) (w1 := ((((w39.setCell ⟨gb237, 0, none⟩ (.string t230)).setCell ⟨gb237, 1, none⟩ (.string t231)).setCell ⟨gb237, 2, none⟩ (.string t232)).setCell ⟨gb237, 3, none⟩ (.slice Ao42 t233.length co42))) ?hg ?ho ?hn ?hr ?_; (case ho => rfl); (case hg => rfl); (case hn => rfl); (case hr => first | (go_simp; done) | (go_simp; rfl)); intro w43 hw; replace HO235 : Aside0 (Kd.V k29 29 w43 w.heap.size (fun k_ => k_ ≠ gb228 ∧ k_ ≠ gb237) (.slice Ao42 t233.length co42) t233) := ⟨(by rw [hw]; exact (by (with_reducible repeat (first | apply Kd.V_alloc | apply Kd.V_drewN | apply Kd.V_drew)); exact Kd.V_mono (Kd.V_far (p := ⟨gb237, 3, none⟩) (Kd.V_far (p := ⟨gb237, 2, none⟩) (Kd.V_far (p := ⟨gb237, 1, none⟩) (Kd.V_far (p := ⟨gb237, 0, none⟩) (Kd.V_mono HO235.out (fun k_ hk => (⟨hk, hk.2⟩ : _ ∧ k_ ≠ gb237))) (fun _ hk => hk.2) (.string t230)) (fun _ hk => hk.2) (.string t231)) (fun _ hk => hk.2) (.string t232)) (fun _ hk => hk.2) (.slice Ao42 t233.length co42)) (fun _ hk => ⟨hk.1.1, hk.1.2⟩)))⟩; replace BK228 : Aside0 (w43.heap[gb228]? = some (.cells #[.string a1_0, .string a1_1, .int .i64 a1_2, .string a1_3, .int .i64 a1_4, .bool a1_5, .int .i64 a1_6, .int .i64 a1_7, .int .i64 a1_8, .string a1_9] 49 (0, 0))) := ⟨(by rw [hw]; exact (by (with_reducible repeat (first | refine blk_drewN ?_ _ | refine blk_drew ?_ | refine blk_alloc ?_ _)); refine bf4 ?_ NB228_237.out; (with_reducible repeat (first | refine blk_drewN ?_ _ | refine blk_drew ?_ | refine blk_alloc ?_ _)); exact BK228.out))⟩; replace BK237 : Aside0 (w43.heap[gb237]? = some (.cells #[.string t230, .string t231, .string t232, .slice Ao42 t233.length co42] 26 (0, 0))) := ⟨(by rw [hw]; exact (by (with_reducible repeat (first | refine blk_drewN ?_ _ | refine blk_drew ?_ | refine blk_alloc ?_ _)); exact bp4 (kbW BK237)))⟩; replace HB : Aside0 (Below w.heap.size w w43) := ⟨(by rw [hw]; exact (by repeat (first | (with_reducible first | exact HB.out | apply bA_ | apply bN_ | apply bD_ | refine bS_ ?_ GE228 | refine bS_ ?_ GE237) | exact HB.out)))⟩; clear hw) | ((with_reducible refine gate_callee (f := 21) rfl ?_); refine goesL_ (some 68) rfl rfl Tryd.func21 (by kernel_rfl) rfl #[.slice A0 l0.length c0, .string a2] rfl (by (try simp only [mT_, mC_, mN_]); first | done | rfl) ?_; (with_reducible refine (skerryref17_Find.calls k2 (fun k_ => k_ < w.heap.size) _ _ l0 a2 t238 t239 t240 t241 t244 _ ?side1 A31.out).mono ?_); (case side1 => exact Kd.V_mk HC0.out (Kd.F_below (Kd.C_F k26_heap HR0.out) (by repeat (first | (with_reducible first | exact HB.out | apply bA_ | apply bN_ | apply bD_ | refine bS_ ?_ GE228 | refine bS_ ?_ GE237) | exact HB.out)))); rintro e w44 ⟨v242, rfl, ho0, hb⟩; refine ⟨_, rfl, ?_⟩; replace HO235 := Aside0.mk (Kd.V_below (by (with_reducible repeat (first | apply Kd.V_alloc | apply Kd.V_drewN | apply Kd.V_drew)); exact HO235.out) hb); have HO243 := Aside0.mk (Kd.V_lower (Kd.V_mono (ok' := fun k_ => k_ ≠ gb228 ∧ k_ ≠ gb237) ho0 (fun k_ hk_ => ⟨Or.elim hk_ (fun hs_ => fun e_ => Nat.not_le.2 hs_ (by rw [e_]; exact GW228.out)) (fun hn_ => (Kd.freshB (kbW BK228) k_ hn_)), Or.elim hk_ (fun hs_ => fun e_ => Nat.not_le.2 hs_ (by rw [e_]; exact GW237.out)) (fun hn_ => (Kd.freshB (kbW BK237) k_ hn_))⟩)) (bZ_ (by repeat (first | (with_reducible first | exact HB.out | apply bA_ | apply bN_ | apply bD_ | refine bS_ ?_ GE228 | refine bS_ ?_ GE237) | exact HB.out)))); replace BK228 := kB BK228 hb; replace BK237 := kB BK237 hb; replace HB := Aside0.mk (below_step (by repeat (first | (with_reducible first | exact HB.out | apply bA_ | apply bN_ | apply bD_ | refine bS_ ?_ GE228 | refine bS_ ?_ GE237) | exact HB.out)) hb); (try clear hb); (try clear hb2); (try clear hk); (try clear hi); (try clear ho0)) | ((with_reducible refine gate_dst (N := 11) rfl ?_); (try (refine gate_guard (by rfl) ?_; dsimp only)); refine box_event ?hg (N := 11) ?hd (cs := #[.string (⟨#[]⟩ : ByteArray), .string (⟨#[]⟩ : ByteArray), .string (⟨#[]⟩ : ByteArray), .slice none 0 0]) (t := 26) ?hr ?_; (case hd => rfl); (case hg => rfl); (case hr => first | (go_simp; done) | (go_simp; rfl)); intro gb245 hg w45 hbox hb; replace HO235 := Aside0.mk (Kd.V_below (Kd.V_elderB (by (with_reducible repeat (first | apply Kd.V_alloc | apply Kd.V_drewN | apply Kd.V_drew)); exact HO235.out) gb245 (Nat.le_of_eq hg.symm)) hb); replace HO243 := Aside0.mk (Kd.V_below (Kd.V_elderB (by (with_reducible repeat (first | apply Kd.V_alloc | apply Kd.V_drewN | apply Kd.V_drew)); exact HO243.out) gb245 (Nat.le_of_eq hg.symm)) hb); have BK245 := Aside0.mk (hbox); have GW245 := Aside0.mk ((by rw [hg]; exact (bZ_ (by repeat (first | (with_reducible first | exact HB.out | apply bA_ | apply bN_ | apply bD_ | refine bS_ ?_ GE228 | refine bS_ ?_ GE237) | exact HB.out))) : w.heap.size ≤ gb245)); replace HB := Aside0.mk (below_step (by repeat (first | (with_reducible first | exact HB.out | apply bA_ | apply bN_ | apply bD_ | refine bS_ ?_ GE228 | refine bS_ ?_ GE237) | exact HB.out)) hb); have GE245 := GW245; have NB228_245 := Aside0.mk ((by rw [hg]; exact Nat.ne_of_lt (blk_lt (kbW BK228)) : gb228 ≠ gb245)); have NB245_228 := Aside0.mk ((by rw [hg]; exact Nat.ne_of_gt (blk_lt (kbW BK228)) : gb245 ≠ gb228)); replace BK228 := kB BK228 hb; have NB237_245 := Aside0.mk ((by rw [hg]; exact Nat.ne_of_lt (blk_lt (kbW BK237)) : gb237 ≠ gb245)); have NB245_237 := Aside0.mk ((by rw [hg]; exact Nat.ne_of_gt (blk_lt (kbW BK237)) : gb245 ≠ gb237)); replace BK237 := kB BK237 hb; clear hb hbox hg; have hnb46 := NB245_228.out; have hnc46 := NB228_245.out; have hnb47 := NB245_237.out; have hnc47 := NB237_245.out; obtain ⟨_, _, _, _, _, _, _, _⟩ := czf4 BK245; obtain ⟨Ao49, co49, eo49⟩ := Kd.V_slice HO243.out; subst eo49; obtain ⟨_, _, _, _, _, _, _, _⟩ := czf4 BK237) | (go_at_call 8; (with_reducible refine (skerrylaw17_lives.calls k2  t246 _ A37.out).mono ?_); rintro e w51 ⟨rfl, hb⟩; replace HO235 := Aside0.mk (Kd.V_below (by (with_reducible repeat (first | apply Kd.V_alloc | apply Kd.V_drewN | apply Kd.V_drew)); exact (Kd.V_mono (Kd.V_far (p := ⟨gb245, 3, none⟩) (Kd.V_far (p := ⟨gb245, 2, none⟩) (Kd.V_far (p := ⟨gb245, 1, none⟩) (Kd.V_far (p := ⟨gb245, 0, none⟩) (Kd.V_mono HO235.out (fun k_ hk => (⟨hk, hk.2⟩ : _ ∧ k_ ≠ gb245))) (fun _ hk => hk.2) (.string t238)) (fun _ hk => hk.2) (.string t239)) (fun _ hk => hk.2) (.string t240)) (fun _ hk => hk.2) (.slice Ao49 t241.length co49)) (fun _ h_ => h_.1))) hb); replace HO243 := Aside0.mk (Kd.V_below (by (with_reducible repeat (first | apply Kd.V_alloc | apply Kd.V_drewN | apply Kd.V_drew)); exact (Kd.V_mono (Kd.V_far (p := ⟨gb245, 3, none⟩) (Kd.V_far (p := ⟨gb245, 2, none⟩) (Kd.V_far (p := ⟨gb245, 1, none⟩) (Kd.V_far (p := ⟨gb245, 0, none⟩) (Kd.V_mono HO243.out (fun k_ hk => (⟨hk, hk.2⟩ : _ ∧ k_ ≠ gb245))) (fun _ hk => hk.2) (.string t238)) (fun _ hk => hk.2) (.string t239)) (fun _ hk => hk.2) (.string t240)) (fun _ hk => hk.2) (.slice Ao49 t241.length co49)) (fun _ h_ => h_.1))) hb); replace BK228 := kBf BK228 (fun h_ => by (with_reducible repeat (first | refine blk_drewN ?_ _ | refine blk_drew ?_ | refine blk_alloc ?_ _)); refine bf4 ?_ NB228_245.out; (with_reducible repeat (first | refine blk_drewN ?_ _ | refine blk_drew ?_ | refine blk_alloc ?_ _)); exact h_) hb; replace BK237 := kBf BK237 (fun h_ => by (with_reducible repeat (first | refine blk_drewN ?_ _ | refine blk_drew ?_ | refine blk_alloc ?_ _)); refine bf4 ?_ NB237_245.out; (with_reducible repeat (first | refine blk_drewN ?_ _ | refine blk_drew ?_ | refine blk_alloc ?_ _)); exact h_) hb; replace BK245 := Aside0.mk (blk_below (g := gb245) (o := .cells #[.string t238, .string t239, .string t240, .slice Ao49 t241.length co49] 26 (0, 0)) (by (with_reducible repeat (first | refine blk_drewN ?_ _ | refine blk_drew ?_ | refine blk_alloc ?_ _)); exact bp4 (kbW BK245)) hb); replace HB := Aside0.mk (below_step (by repeat (first | (with_reducible first | exact HB.out | apply bA_ | apply bN_ | apply bD_ | refine bS_ ?_ GE228 | refine bS_ ?_ GE237 | refine bS_ ?_ GE245) | exact HB.out)) hb); (try clear hb); (try clear hb2); (try clear hk); (try clear hi)))
       go_ret
       exact ⟨by first | rfl | (simp <;> rfl) | (simp [*] <;> rfl), by repeat (first | (with_reducible first | exact HB.out | apply bA_ | apply bN_ | apply bD_ | refine bS_ ?_ GE228 | refine bS_ ?_ GE237 | refine bS_ ?_ GE245) | exact HB.out)⟩
      rw [if_pos c11] at H
      have c11b0 : decide (x42_2 < (l0.length : Int)) = true := decide_eq_true c11
      clear c11
      by_cases c12 : 0 ≤ x42_2
      rotate_left
      ·
       rw [if_neg c12] at H
       exact absurd H (by simp)
      rw [if_pos c12] at H
      have c12b0 : decide (0 ≤ x42_2) = true := decide_eq_true c12
      clear c12
      by_cases c13 : x42_2 < (l0.length : Int)
      rotate_left
      ·
       rw [if_neg c13] at H
       exact absurd H (by simp)
      rw [if_pos c13] at H
      have c13b0 : decide (x42_2 < (l0.length : Int)) = true := decide_eq_true c13
      clear c13
      by_cases c14 : (((rd_T26 l0 x42_2).f3).length : Int) > 200
      ·
       rw [if_pos c14] at H
       have c14b0 : decide (200 < (((rd_T26 l0 x42_2).f3).length : Int)) = true := decide_eq_true c14
       have c14b1 : decide (200 < ((rd_T26 l0 x42_2).f3).length) = true := decide_eq_true (by omega)
       clear c14
       replace H := Option.bind_eq_some_iff.mp H
       obtain ⟨t249, A150, H⟩ := H
       have A15 := Aside0.mk A150
       clear A150
       obtain rfl := Option.some.inj H
       have p247 : 0 ≤ (x42_2 : Int) := of_decide_eq_true (by first | (with_reducible assumption) | assumption)
       have q247 : x42_2 < (l0.length : Int) := of_decide_eq_true (by first | (with_reducible assumption) | assumption)
       obtain ⟨ad247, A247_3, c247_3, e247, hx247_0, hx247_1, hx247_2, hx247_3, hl247_3, hi247_3⟩ := at_T26 HR0.out x42_2 p247 q247
       cases e247
       replace hx247_0 := cB_ HB hx247_0
       replace hx247_1 := cB_ HB hx247_1
       replace hx247_2 := cB_ HB hx247_2
       replace hx247_3 := cB_ HB hx247_3
       have HR247_3 := Aside0.mk hi247_3
       have HC247_3 := Aside0.mk hl247_3
       clear hi247_3 hl247_3
       replace p247 := eq_true p247
       replace q247 := eq_true q247
       go_wp2_with (first | ((with_reducible refine gate_dst (N := 8) rfl ?_); (try (refine gate_guard (by rfl) ?_; dsimp only)); refine box_event ?hg (N := 8) ?hd (cs := #[.string (⟨#[]⟩ : ByteArray), .string (⟨#[]⟩ : ByteArray), .string (⟨#[]⟩ : ByteArray), .slice none 0 0]) (t := 26) ?hr ?_; (case hd => rfl); (case hg => rfl); (case hr => first | (go_simp; done) | (go_simp; rfl)); intro gb248 hg w16 hbox hb; have BK248 := Aside0.mk (hbox); have GW248 := Aside0.mk ((by rw [hg]; exact (bZ_ (by repeat (first | (with_reducible first | exact HB.out | apply bA_ | apply bN_ | apply bD_ | refine bS_ ?_ GE228) | exact HB.out))) : w.heap.size ≤ gb248)); replace HB := Aside0.mk (below_step (by repeat (first | (with_reducible first | exact HB.out | apply bA_ | apply bN_ | apply bD_ | refine bS_ ?_ GE228) | exact HB.out)) hb); have GE248 := GW248; have NB228_248 := Aside0.mk ((by rw [hg]; exact Nat.ne_of_lt (blk_lt (kbW BK228)) : gb228 ≠ gb248)); have NB248_228 := Aside0.mk ((by rw [hg]; exact Nat.ne_of_gt (blk_lt (kbW BK228)) : gb248 ≠ gb228)); replace BK228 := kB BK228 hb; clear hb hbox hg; have hnb17 := NB248_228.out; have hnc17 := NB228_248.out; obtain ⟨_, _, _, _, _, _, _, _⟩ := czf4 BK248) | ((with_reducible refine gate_callee (f := 8) rfl ?_); refine goesL_ (some 50) rfl rfl Tryd.func8 (by kernel_rfl) rfl #[] rfl (by (try simp only [mT_, mC_, mN_]); first | done | rfl) ?_; (with_reducible refine (skerrylaw17_lives.calls k2  t249 _ A15.out).mono ?_); rintro e w19 ⟨rfl, hb⟩; refine ⟨_, rfl, ?_⟩; replace BK228 := kBf BK228 (fun h_ => by (with_reducible repeat (first | refine blk_drewN ?_ _ | refine blk_drew ?_ | refine blk_alloc ?_ _)); refine bf4 ?_ NB228_248.out; (with_reducible repeat (first | refine blk_drewN ?_ _ | refine blk_drew ?_ | refine blk_alloc ?_ _)); exact h_) hb; replace BK248 := Aside0.mk (blk_below (g := gb248) (o := .cells #[.string ((rd_T26 l0 x42_2).f0), .string ((rd_T26 l0 x42_2).f1), .string ((rd_T26 l0 x42_2).f2), .slice A247_3 ((rd_T26 l0 x42_2).f3).length c247_3] 26 (0, 0)) (by (with_reducible repeat (first | refine blk_drewN ?_ _ | refine blk_drew ?_ | refine blk_alloc ?_ _)); exact bp4 (kbW BK248)) hb); replace HB := Aside0.mk (below_step (by repeat (first | (with_reducible first | exact HB.out | apply bA_ | apply bN_ | apply bD_ | refine bS_ ?_ GE228 | refine bS_ ?_ GE248) | exact HB.out)) hb); (try clear hb); (try clear hb2); (try clear hk); (try clear hi)))
       go_ret
       exact ⟨by first | rfl | (simp <;> rfl) | (simp [*] <;> rfl), by repeat (first | (with_reducible first | exact HB.out | apply bA_ | apply bN_ | apply bD_ | refine bS_ ?_ GE228 | refine bS_ ?_ GE248) | exact HB.out)⟩
      ·
       rw [if_neg c14] at H
       have c14b0 : decide (200 < (((rd_T26 l0 x42_2).f3).length : Int)) = false := decide_eq_false c14
       have c14b1 : decide (200 < ((rd_T26 l0 x42_2).f3).length) = false := decide_eq_false (by omega)
       clear c14
       replace H := Option.bind_eq_some_iff.mp H
       obtain ⟨t250, A200, H⟩ := H
       have A20 := Aside0.mk A200
       clear A200
       replace H := Option.bind_eq_some_iff.mp H
       obtain ⟨t251, A210, H⟩ := H
       have A21 := Aside0.mk A210
       clear A210
       by_cases c22 : (t250 != t251) = true
       ·
        rw [if_pos c22] at H
        exact absurd H (by simp)
       ·
        rw [if_neg c22] at H
        have c22b0 : (t250 != t251) = false := by simpa using c22
        (try (have c22b1 : decide (t250 = t251) = true := by simpa using c22))
        (try (have c22b2 : (t250 == t251) = true := by simpa using c22))
        clear c22
        have H' := Aside0.mk H
        clear H
        have p247 : 0 ≤ (x42_2 : Int) := of_decide_eq_true (by first | (with_reducible assumption) | assumption)
        have q247 : x42_2 < (l0.length : Int) := of_decide_eq_true (by first | (with_reducible assumption) | assumption)
        obtain ⟨ad247, A247_3, c247_3, e247, hx247_0, hx247_1, hx247_2, hx247_3, hl247_3, hi247_3⟩ := at_T26 HR0.out x42_2 p247 q247
        cases e247
        replace hx247_0 := cB_ HB hx247_0
        replace hx247_1 := cB_ HB hx247_1
        replace hx247_2 := cB_ HB hx247_2
        replace hx247_3 := cB_ HB hx247_3
        have HR247_3 := Aside0.mk hi247_3
        have HC247_3 := Aside0.mk hl247_3
        clear hi247_3 hl247_3
        replace p247 := eq_true p247
        replace q247 := eq_true q247
        try go_wp2_with (first | ((with_reducible refine gate_dst (N := 8) rfl ?_); (try (refine gate_guard (by rfl) ?_; dsimp only)); refine box_event ?hg (N := 8) ?hd (cs := #[.string (⟨#[]⟩ : ByteArray), .string (⟨#[]⟩ : ByteArray), .string (⟨#[]⟩ : ByteArray), .slice none 0 0]) (t := 26) ?hr ?_; (case hd => rfl); (case hg => rfl); (case hr => first | (go_simp; done) | (go_simp; rfl)); intro gb248 hg w23 hbox hb; have BK248 := Aside0.mk (hbox); have GW248 := Aside0.mk ((by rw [hg]; exact (bZ_ (by repeat (first | (with_reducible first | exact HB.out | apply bA_ | apply bN_ | apply bD_ | refine bS_ ?_ GE228) | exact HB.out))) : w.heap.size ≤ gb248)); replace HB := Aside0.mk (below_step (by repeat (first | (with_reducible first | exact HB.out | apply bA_ | apply bN_ | apply bD_ | refine bS_ ?_ GE228) | exact HB.out)) hb); have GE248 := GW248; have NB228_248 := Aside0.mk ((by rw [hg]; exact Nat.ne_of_lt (blk_lt (kbW BK228)) : gb228 ≠ gb248)); have NB248_228 := Aside0.mk ((by rw [hg]; exact Nat.ne_of_gt (blk_lt (kbW BK228)) : gb248 ≠ gb228)); replace BK228 := kB BK228 hb; clear hb hbox hg; have hnb24 := NB248_228.out; have hnc24 := NB228_248.out; obtain ⟨_, _, _, _, _, _, _, _⟩ := czf4 BK248))
        have n0_ : Aside0 (((((w23.setCell ⟨gb248, 0, none⟩ (.string ((rd_T26 l0 x42_2).f0))).setCell ⟨gb248, 1, none⟩ (.string ((rd_T26 l0 x42_2).f1))).setCell ⟨gb248, 2, none⟩ (.string ((rd_T26 l0 x42_2).f2))).setCell ⟨gb248, 3, none⟩ (.slice A247_3 ((rd_T26 l0 x42_2).f3).length c247_3)).heap[gb228]? = some (.cells #[.string a1_0, .string a1_1, .int .i64 a1_2, .string a1_3, .int .i64 a1_4, .bool a1_5, .int .i64 a1_6, .int .i64 a1_7, .int .i64 a1_8, .string a1_9] 49 (0, 0))) := ⟨by (with_reducible repeat (first | refine blk_drewN ?_ _ | refine blk_drew ?_ | refine blk_alloc ?_ _)); refine bf4 ?_ NB228_248.out; (with_reducible repeat (first | refine blk_drewN ?_ _ | refine blk_drew ?_ | refine blk_alloc ?_ _)); exact BK228.out⟩
        have n1_ : Aside0 (((((w23.setCell ⟨gb248, 0, none⟩ (.string ((rd_T26 l0 x42_2).f0))).setCell ⟨gb248, 1, none⟩ (.string ((rd_T26 l0 x42_2).f1))).setCell ⟨gb248, 2, none⟩ (.string ((rd_T26 l0 x42_2).f2))).setCell ⟨gb248, 3, none⟩ (.slice A247_3 ((rd_T26 l0 x42_2).f3).length c247_3)).heap[gb248]? = some (.cells #[.string ((rd_T26 l0 x42_2).f0), .string ((rd_T26 l0 x42_2).f1), .string ((rd_T26 l0 x42_2).f2), .slice A247_3 ((rd_T26 l0 x42_2).f3).length c247_3] 26 (0, 0))) := ⟨by (with_reducible repeat (first | refine blk_drewN ?_ _ | refine blk_drew ?_ | refine blk_alloc ?_ _)); exact bp4 (kbW BK248)⟩
        have n2_ : Aside0 (Below w.heap.size w ((((w23.setCell ⟨gb248, 0, none⟩ (.string ((rd_T26 l0 x42_2).f0))).setCell ⟨gb248, 1, none⟩ (.string ((rd_T26 l0 x42_2).f1))).setCell ⟨gb248, 2, none⟩ (.string ((rd_T26 l0 x42_2).f2))).setCell ⟨gb248, 3, none⟩ (.slice A247_3 ((rd_T26 l0 x42_2).f3).length c247_3))) := ⟨by repeat (first | (with_reducible first | exact HB.out | apply bA_ | apply bN_ | apply bD_ | refine bS_ ?_ GE228 | refine bS_ ?_ GE248) | exact HB.out)⟩
        (try clear BK228)
        (try clear BK248)
        (try clear HB)
        generalize ((((w23.setCell ⟨gb248, 0, none⟩ (.string ((rd_T26 l0 x42_2).f0))).setCell ⟨gb248, 1, none⟩ (.string ((rd_T26 l0 x42_2).f1))).setCell ⟨gb248, 2, none⟩ (.string ((rd_T26 l0 x42_2).f2))).setCell ⟨gb248, 3, none⟩ (.slice A247_3 ((rd_T26 l0 x42_2).f3).length c247_3)) = w26 at n0_ n1_ n2_ ⊢
        have BK228 := n0_
        have BK248 := n1_
        have HB := n2_
        clear n0_ n1_ n2_
        replace BK228 := Aside0.mk (blk_drew BK228.out)
        replace BK248 := Aside0.mk (blk_drew BK248.out)
        replace HB := Aside0.mk (below_drew1 HB.out)
        refine start_ (n := 7) (S := fun w' => w'.cell? ⟨gb248, 0, none⟩ = some (.string ((rd_T26 l0 x42_2).f0)) ∧ w'.cell? ⟨gb248, 1, none⟩ = some (.string ((rd_T26 l0 x42_2).f1)) ∧ w'.cell? ⟨gb248, 2, none⟩ = some (.string ((rd_T26 l0 x42_2).f2)) ∧ w'.cell? ⟨gb248, 3, none⟩ = some (.slice A247_3 ((rd_T26 l0 x42_2).f3).length c247_3) ∧ w'.cell? ⟨gb228, 0, none⟩ = some (.string a1_0) ∧ w'.cell? ⟨gb228, 1, none⟩ = some (.string a1_1) ∧ w'.cell? ⟨gb228, 2, none⟩ = some (.int .i64 a1_2) ∧ w'.cell? ⟨gb228, 3, none⟩ = some (.string a1_3) ∧ w'.cell? ⟨gb228, 4, none⟩ = some (.int .i64 a1_4) ∧ w'.cell? ⟨gb228, 5, none⟩ = some (.bool a1_5) ∧ w'.cell? ⟨gb228, 6, none⟩ = some (.int .i64 a1_6) ∧ w'.cell? ⟨gb228, 7, none⟩ = some (.int .i64 a1_7) ∧ w'.cell? ⟨gb228, 8, none⟩ = some (.int .i64 a1_8) ∧ w'.cell? ⟨gb228, 9, none⟩ = some (.string a1_9)) (ds := []) (tf_ 0 7) (by kernel_rfl) rfl rfl (cc4 BK248 (cd10 BK228)) (fun hHeld => ?_)
        generalize w26.drew = w27 at BK228 BK248 HB hHeld ⊢
        refine take_ (i := 0) (N := some 51) (v := ?_) (a' := ?_) (tf_ 1 6) rfl rfl (by kernel_rfl) (fun _ _ _ h => h) (Or.inl ⟨by rfl, ?_⟩) hHeld ?_ ?_
        rotate_left; · (rintro w' ⟨s0, s1, s2, s3, s4, s5, s6, s7, s8, s9, s10, s11, s12, s13⟩; go_simp; with_reducible rfl)
        rotate_left; · (simp only [Act.put, sT_, sO_, sN_, i64_w, i32_w]; rfl)
        refine take_ (i := 1) (N := some 52) (v := ?_) (a' := ?_) (tf_ 2 5) rfl rfl (by kernel_rfl) (fun _ _ _ h => h) (Or.inl ⟨by rfl, ?_⟩) hHeld ?_ ?_
        rotate_left; · (rintro w' ⟨s0, s1, s2, s3, s4, s5, s6, s7, s8, s9, s10, s11, s12, s13⟩; go_simp; with_reducible rfl)
        rotate_left; · (simp only [Act.put, sT_, sO_, sN_, i64_w, i32_w]; rfl)
        refine take_ (i := 3) (N := some 54) (v := ?_) (a' := ?_) (tb_ 11 7) rfl rfl (by kernel_rfl) (fun _ _ _ h => h) (Or.inl ⟨by rfl, ?_⟩) hHeld ?_ ?_
        rotate_left; · (rintro w' ⟨s0, s1, s2, s3, s4, s5, s6, s7, s8, s9, s10, s11, s12, s13⟩; go_simp; with_reducible rfl)
        rotate_left; · (simp only [Act.put, sT_, sO_, sN_, i64_w, i32_w]; rfl)
        refine take_ (i := 4) (N := some 55) (v := ?_) (a' := ?_) (tb_ 27 7) rfl rfl (by kernel_rfl) (fun _ _ _ h => h) (Or.inl ⟨by rfl, ?_⟩) hHeld ?_ ?_
        rotate_left; · (rintro w' ⟨s0, s1, s2, s3, s4, s5, s6, s7, s8, s9, s10, s11, s12, s13⟩; go_simp; with_reducible rfl)
        rotate_left; · (simp only [Act.put, sT_, sO_, sN_, i64_w, i32_w]; rfl)
        refine one_ (i := 2) (N := some 53) (tf_ 5 2) rfl rfl (by kernel_rfl) (by decide) (fun K hK => ?_)
        refine goes_ Tryd.func18 (by kernel_rfl) rfl #[.agg #[.string ((rd_T26 l0 x42_2).f0), .string ((rd_T26 l0 x42_2).f1), .string ((rd_T26 l0 x42_2).f2), .slice A247_3 ((rd_T26 l0 x42_2).f3).length c247_3], .agg #[.string a1_0, .string a1_1, .int .i64 a1_2, .string a1_3, .int .i64 a1_4, .bool a1_5, .int .i64 a1_6, .int .i64 a1_7, .int .i64 a1_8, .string a1_9]] (by rfl) rfl rfl (by (try simp only [mT_, mC_, mN_]); first | done | rfl) ?_
        with_reducible refine (schema_Fits.calls k2 ((rd_T26 l0 x42_2).f0) ((rd_T26 l0 x42_2).f1) ((rd_T26 l0 x42_2).f2) _ _ ((rd_T26 l0 x42_2).f3) a1_0 a1_1 a1_2 a1_3 a1_4 a1_5 a1_6 a1_7 a1_8 a1_9 t250 _ ?side1 ?side2 A20.out).mono ?_
        (case side1 => repeat (first | exact (Kd.C_below HR247_3.out HB.out) | (with_reducible refine Kd.C_alloc ?_ _) | (with_reducible refine Kd.C_drewN ?_ _) | (with_reducible refine Kd.C_drew ?_)))
        (case side2 => exact HC247_3.out)
        rintro e w28 ⟨rfl, hb⟩
        refine ⟨_, rfl, ?_⟩
        replace BK228 := kB BK228 hb
        replace BK248 := kB BK248 hb
        replace HB := Aside0.mk (below_step (by repeat (first | (with_reducible first | exact HB.out | apply bA_ | apply bN_ | apply bD_ | refine bS_ ?_ GE228 | refine bS_ ?_ GE248) | exact HB.out)) hb)
        (try clear hb)
        (try clear hb2)
        (try clear hk)
        (try clear hi)
        refine hK.out _ _ (cc4 BK248 (cd10 BK228)) (fun hHeld => ?_)
        clear hK K
        refine norm_ (a' := ?_) ?_ ?_
        rotate_left
        ·
         show Act.put _ (some 53) _ = _
         simp only [Act.put, sT_, sO_, sN_, i64_w, i32_w]
         rfl
        refine one_ (i := 5) (N := some 56) (tf_ 6 1) rfl rfl (by kernel_rfl) (by decide) (fun K hK => ?_)
        refine goes_ Tryd.func19 (by kernel_rfl) rfl #[.agg #[.string ((rd_T26 l0 x42_2).f0), .string ((rd_T26 l0 x42_2).f1), .string ((rd_T26 l0 x42_2).f2), .slice A247_3 ((rd_T26 l0 x42_2).f3).length c247_3], .agg #[.string a1_0, .string a1_1, .int .i64 a1_2, .string a1_3, .int .i64 a1_4, .bool a1_5, .int .i64 a1_6, .int .i64 a1_7, .int .i64 a1_8, .string a1_9]] (by rfl) rfl rfl (by (try simp only [mT_, mC_, mN_]); first | done | rfl) ?_
        with_reducible refine (skerryref17_Fits.calls k2 ((rd_T26 l0 x42_2).f0) ((rd_T26 l0 x42_2).f1) ((rd_T26 l0 x42_2).f2) _ _ ((rd_T26 l0 x42_2).f3) a1_0 a1_1 a1_2 a1_3 a1_4 a1_5 a1_6 a1_7 a1_8 a1_9 t251 _ ?side1 ?side2 A21.out).mono ?_
        (case side1 => repeat (first | exact (Kd.C_below HR247_3.out HB.out) | (with_reducible refine Kd.C_alloc ?_ _) | (with_reducible refine Kd.C_drewN ?_ _) | (with_reducible refine Kd.C_drew ?_)))
        (case side2 => exact HC247_3.out)
        rintro e w29 ⟨rfl, hb⟩
        refine ⟨_, rfl, ?_⟩
        replace BK228 := kB BK228 hb
        replace BK248 := kB BK248 hb
        replace HB := Aside0.mk (below_step (by repeat (first | (with_reducible first | exact HB.out | apply bA_ | apply bN_ | apply bD_ | refine bS_ ?_ GE228 | refine bS_ ?_ GE248) | exact HB.out)) hb)
        (try clear hb)
        (try clear hb2)
        (try clear hk)
        (try clear hi)
        refine hK.out _ _ (cc4 BK248 (cd10 BK228)) (fun hHeld => ?_)
        clear hK K
        refine norm_ (a' := ?_) ?_ ?_
        rotate_left
        ·
         show Act.put _ (some 56) _ = _
         simp only [Act.put, sT_, sO_, sN_, i64_w, i32_w]
         rfl
        refine pure_ (i := 6) (N := some 57) (v := ?_) (a' := ?_) (tf_ 7 0) rfl rfl (by kernel_rfl) (fun _ _ _ h => h) (Or.inl ⟨by rfl, ?_⟩) ?_ ?_
        rotate_left; · (intro w'; go_simp; with_reducible rfl)
        rotate_left; · (simp only [Act.put, sT_, sO_, sN_, i64_w, i32_w]; rfl)
        refine done_ (by kernel_rfl) ?_
        try go_wp2
        go_roundg k2
        case measure => have := HJ3.out; have := HK2.out; omega
        case rel => exact ⟨(wrap64 (x42_2 + 1)), (by first | rfl | (simp; done) | (simp [bne, *]; done)), H', ⟨by have := HJ3.out; have := HK2.out; omega⟩, ⟨by (with_reducible repeat (first | refine blk_drewN ?_ _ | refine blk_drew ?_ | refine blk_alloc ?_ _)); exact BK228.out⟩, ⟨by repeat (first | (with_reducible first | exact HB.out | apply bA_ | apply bN_ | apply bD_ | refine bS_ ?_ GE228 | refine bS_ ?_ GE248) | exact HB.out)⟩⟩
end Go.Proofs.YtdagddhccdchoaaDoor.Q
