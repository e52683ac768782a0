/- Lemmas for this claim's walk: no condition of their own. -/
import Derived.Test.YtaedmofnhjaljaaKnSq
import Derived.Test.YtaedmofnhjaljaaKnQx0
import Derived.Test.YtaedmofnhjaljaaKnJ15
import Derived.Test.YtaedmofnhjaljaaKnQx15
import Derived.Test.YtaedmofnhjaljaaKnQx27
import Derived.Test.YtaedmofnhjaljaaKnQx35
import Derived.Test.YtaedmofnhjaljaaKnQx36
import Derived.Test.YtaedmofnhjaljaaKnQx37
import Derived.Test.YtaedmofnhjaljaaKnQx38
import Derived.Test.YtaedmofnhjaljaaKnQx40
import Derived.Test.YtaedmofnhjaljaaKnQx41
import Derived.Test.YtaedmofnhjaljaaKnQx43
import Derived.Test.YtaedmofnhjaljaaKnQx45
namespace Go.Proofs.Ytaedmofnhjaljaa.Q
open Go.RowKit Go.Proofs.YtaedmofnhjaljaaW.PrintWords Go.Proofs.YtaedmofnhjaljaaW.PrintLast Go.Proofs.YtaedmofnhjaljaaW.PrintMore
attribute [local go_sem] max2_int min2_int max_two min_two max_three min_three max_four min_four
set_option linter.unusedVariables false
set_option linter.unusedSimpArgs false
attribute [local go_sem high] eqA27
def skerryref05_Digest.f (k : Nat) (l0 : List (S29)) : Option (Int) := (skerryref01_Cells.f k l0).bind fun t679 => ((skerryref02_Sum.f k t679 0).bind fun bt682 => (some bt682.1))
set_option maxHeartbeats 8000000 in
set_option maxRecDepth 100000 in
theorem skerryref05_Digest.calls (k : Nat) (A0 : Option Addr) (c0 : Nat) (l0 : List (S29)) (r : Int) (w : World) (hr0 : Kd.C k29 w A0 l0.length l0) (hc0 : l0.length ≤ c0) (h : skerryref05_Digest.f k l0 = some r) :
  Calls Try.prog 29 #[.slice A0 l0.length c0] w fun e w' => e = .returned (.int .u64 r) ∧ Below w.heap.size w w' := by
 have HR0 := Aside0.mk hr0
 have HC0 := Aside0.mk hc0
 clear hr0 hc0
 have HB := Aside0.mk (Below.refl w.heap.size w)
 have H : ((skerryref01_Cells.f k l0).bind fun t679 => ((skerryref02_Sum.f k t679 0).bind fun bt682 => (some bt682.1))) = some r := h
 clear h
 replace H := Option.bind_eq_some_iff.mp H
 obtain ⟨t679, A20, H⟩ := H
 have A2 := Aside0.mk A20
 clear A20
 replace H := Option.bind_eq_some_iff.mp H
 obtain ⟨⟨t682, t683⟩, A30, H⟩ := H
 have A3 := Aside0.mk A30
 clear A30
 obtain rfl := Option.some.inj H
 go_enter Try.func29, Try.ntmps29
 go_wp2_with (first | ((with_reducible refine gate_callee (f := 51) rfl ?_); refine goesL_ (some 7) rfl rfl Try.func51 (by kernel_rfl) rfl #[.slice A0 l0.length c0] rfl (by (try simp only [mT_, mC_, mN_]); first | done | rfl) ?_; (with_reducible refine (skerryref01_Cells.calls k _ _ l0 t679 _ ?side1 ?side2 A2.out).mono ?_); (case side1 => repeat (first | exact HR0.out | (with_reducible refine Kd.C_alloc ?_ _) | (with_reducible refine Kd.C_drewN ?_ _) | (with_reducible refine Kd.C_drew ?_))); (case side2 => exact HC0.out); rintro e w4 ⟨v680, rfl, ho0, hb⟩; refine ⟨_, rfl, ?_⟩; have HO681 := Aside0.mk (Kd.R_lower ho0 (bZ_ (kwW HB))); replace HB := Aside0.mk (below_step (kwW HB) hb); (try clear hb); (try clear hb2); (try clear hk); (try clear hi); (try clear ho0); obtain ⟨Ao5, co5, eo5⟩ := Kd.R_slice HO681.out; subst eo5) | ((with_reducible refine gate_callee (f := 50) rfl ?_); refine goesL_ (some 8) rfl rfl Try.func50 (by kernel_rfl) rfl #[.slice Ao5 t679.length co5, .int .u64 0] rfl (by (try simp only [mT_, mC_, mN_]); first | done | rfl) ?_; (with_reducible refine (skerryref02_Sum.calls k _ _ t679 0 t682 t683 _ ?side1 ?side2 A3.out).mono ?_); (case side1 => repeat (first | exact (Kd.R_reads' HO681.out).2.2 | (with_reducible refine Kd.C_alloc ?_ _) | (with_reducible refine Kd.C_drewN ?_ _) | (with_reducible refine Kd.C_drew ?_))); (case side2 => exact (Kd.R_reads' HO681.out).2.1); rintro e w' ⟨rfl, ⟨nd, rfl⟩⟩; refine ⟨_, rfl, ?_⟩))
 go_ret
 exact ⟨by first | rfl | (simp <;> rfl) | (simp [*] <;> rfl), kwW HB⟩
def skerrylaw05_CellNorms.f (k : Nat) (l0 : List (S29)) (a1_0 : ByteArray) (a1_1 : ByteArray) (a1_2 : Int) (a1_3 : ByteArray) : Option (Bool) := (skerrylaw05_weigh.f k l0 400).bind fun t685 => (if t685 > 400 then ((skerrylaw05_lives.f k).bind fun t686 => (some t686)) else ((some (([] : List (S29)) : List (S29))).bind fun y687 => (if y687.length + l0.length < 1256584717458 then ((some (y687 ++ l0 : List (S29))).bind fun y690 => ((cell_Norm.f k y690).bind fun t693 => ((cell_Find.f l0 a1_0 a1_1 a1_2 a1_3).bind fun bt696 => ((skerryref05_Find.f k l0 a1_0 a1_1 a1_2 a1_3).bind fun bt704 => ((skerryref05_Norm.f k l0).bind fun t712 => ((skerryref01_Like.f k t693 t712).bind fun t715 => (if t715 = true then ((skerryref01_Like.f k y690 l0).bind fun t716 => (if t716 = true then ((cell_Sorted.f k l0).bind fun t717 => ((skerryref05_Sorted.f k l0).bind fun t718 => (if (t717 == t718) = true then (if (bt696.1 == bt704.1 && (bt696.2.1 == bt704.2.1 && (bt696.2.2.1 == bt704.2.2.1 && ((bt696.2.2.2.1 == bt704.2.2.2.1 && (bt696.2.2.2.2.1 == bt704.2.2.2.2.1 && (bt696.2.2.2.2.2.1.toList == bt704.2.2.2.2.2.1.toList))))))) = true then (if (bt696.2.2.2.2.2.2 == bt704.2.2.2.2.2.2) = true then ((cell_Digest.f k l0).bind fun t719 => ((skerryref05_Digest.f k l0).bind fun t720 => (if t719 = t720 then ((skerrylaw05_lives.f k).bind fun t721 => (some t721)) else (none)))) else (none)) else (none)) else (none)))) else (none))) else (none)))))))) else (none))))
set_option maxHeartbeats 8000000 in
set_option maxRecDepth 100000 in
theorem skerrylaw05_CellNorms.calls (k : Nat) (A0 : Option Addr) (c0 : Nat) (l0 : List (S29)) (a1_0 : ByteArray) (a1_1 : ByteArray) (a1_2 : Int) (a1_3 : ByteArray) (r : Bool) (w : World) (hr0 : Kd.C k29 w A0 l0.length l0) (hc0 : l0.length ≤ c0) (h : skerrylaw05_CellNorms.f k l0 a1_0 a1_1 a1_2 a1_3 = some r) :
  Calls Try.prog 9 #[.slice A0 l0.length c0, .agg #[.string a1_0, .string a1_1, .int .i64 a1_2, .string a1_3]] w fun e w' => e = .returned (.bool r) ∧ Below w.heap.size w w' := by
 have hu23 := Try.underlying23
 have hu27 := Try.underlying27
 have HR0 := Aside0.mk hr0
 have HC0 := Aside0.mk hc0
 clear hr0 hc0
 have HB := Aside0.mk (Below.refl w.heap.size w)
 have H : ((skerrylaw05_weigh.f k l0 400).bind fun t685 => (if t685 > 400 then ((skerrylaw05_lives.f k).bind fun t686 => (some t686)) else ((some (([] : List (S29)) : List (S29))).bind fun y687 => (if y687.length + l0.length < 1256584717458 then ((some (y687 ++ l0 : List (S29))).bind fun y690 => ((cell_Norm.f k y690).bind fun t693 => ((cell_Find.f l0 a1_0 a1_1 a1_2 a1_3).bind fun bt696 => ((skerryref05_Find.f k l0 a1_0 a1_1 a1_2 a1_3).bind fun bt704 => ((skerryref05_Norm.f k l0).bind fun t712 => ((skerryref01_Like.f k t693 t712).bind fun t715 => (if t715 = true then ((skerryref01_Like.f k y690 l0).bind fun t716 => (if t716 = true then ((cell_Sorted.f k l0).bind fun t717 => ((skerryref05_Sorted.f k l0).bind fun t718 => (if (t717 == t718) = true then (if (bt696.1 == bt704.1 && (bt696.2.1 == bt704.2.1 && (bt696.2.2.1 == bt704.2.2.1 && ((bt696.2.2.2.1 == bt704.2.2.2.1 && (bt696.2.2.2.2.1 == bt704.2.2.2.2.1 && (bt696.2.2.2.2.2.1.toList == bt704.2.2.2.2.2.1.toList))))))) = true then (if (bt696.2.2.2.2.2.2 == bt704.2.2.2.2.2.2) = true then ((cell_Digest.f k l0).bind fun t719 => ((skerryref05_Digest.f k l0).bind fun t720 => (if t719 = t720 then ((skerrylaw05_lives.f k).bind fun t721 => (some t721)) else (none)))) else (none)) else (none)) else (none)))) else (none))) else (none)))))))) else (none))))) = some r := h
 clear h
 replace H := Option.bind_eq_some_iff.mp H
 obtain ⟨t685, A30, H⟩ := H
 have A3 := Aside0.mk A30
 clear A30
 by_cases c4 : t685 > 400
 ·
  rw [if_pos c4] at H
  have c4b0 : decide (400 < t685) = true := decide_eq_true c4
  clear c4
  replace H := Option.bind_eq_some_iff.mp H
  obtain ⟨t686, A50, H⟩ := H
  have A5 := Aside0.mk A50
  clear A50
  obtain rfl := Option.some.inj H
  go_enter Try.func9, Try.ntmps9
  go_wp2_with (first | ((with_reducible refine gate_dst (N := 3) rfl ?_); refine box_event ?hg (N := 3) ?hd (cs := #[.string a1_0, .string a1_1, .int .i64 a1_2, .string a1_3]) (t := 23) ?hr ?_; (case hd => rfl); (case hg => rfl); (case hr => first | (go_simp; done) | (go_simp; rfl)); intro gb684 hg w6 hbox hb; have BK684 := Aside0.mk (hbox); have GW684 := Aside0.mk ((by rw [hg]; exact (bZ_ (kwW HB)) : w.heap.size ≤ gb684)); replace HB := Aside0.mk (below_step (kwW HB) hb); have GE684 := GW684; clear hb hbox hg) | ((with_reducible refine gate_callee (f := 10) rfl ?_); refine goesL_ (some 12) rfl rfl Try.func10 (by kernel_rfl) rfl #[.slice A0 l0.length c0, .int .i64 400] rfl (by (try simp only [mT_, mC_, mN_]); first | done | rfl) ?_; (with_reducible refine (skerrylaw05_weigh.calls k _ _ l0 400 t685 _ ?side1 ?side2 A3.out).mono ?_); (case side1 => repeat (first | exact (Kd.C_below HR0.out HB.out) | (with_reducible refine Kd.C_alloc ?_ _) | (with_reducible refine Kd.C_drewN ?_ _) | (with_reducible refine Kd.C_drew ?_))); (case side2 => exact HC0.out); rintro e w7 ⟨rfl, hb⟩; refine ⟨_, rfl, ?_⟩; replace BK684 := kB BK684 hb; replace HB := Aside0.mk (below_step (by repeat (first | (with_reducible first | exact HB.out | apply bA_ | apply bN_ | apply bD_ | refine bS_ ?_ GE684) | exact HB.out)) hb); (try clear hb); (try clear hb2); (try clear hk); (try clear hi)) | ((with_reducible refine gate_callee (f := 11) rfl ?_); refine goesL_ (some 14) rfl rfl Try.func11 (by kernel_rfl) rfl #[] rfl (by (try simp only [mT_, mC_, mN_]); first | done | rfl) ?_; (with_reducible refine (skerrylaw05_lives.calls k  t686 _ A5.out).mono ?_); rintro e w8 ⟨rfl, hb⟩; refine ⟨_, rfl, ?_⟩; replace BK684 := kB BK684 hb; replace HB := Aside0.mk (below_step (by repeat (first | (with_reducible first | exact HB.out | apply bA_ | apply bN_ | apply bD_ | refine bS_ ?_ GE684) | exact HB.out)) hb); (try clear hb); (try clear hb2); (try clear hk); (try clear hi)))
  go_ret
  exact ⟨by first | rfl | (simp <;> rfl) | (simp [*] <;> rfl), by repeat (first | (with_reducible first | exact HB.out | apply bA_ | apply bN_ | apply bD_ | refine bS_ ?_ GE684) | exact HB.out)⟩
 ·
  rw [if_neg c4] at H
  have c4b0 : decide (400 < t685) = false := decide_eq_false c4
  clear c4
  obtain ⟨y687, hy687⟩ : ∃ y_ : List (S29), y_ = (([] : List (S29))) := ⟨_, rfl⟩
  replace H : (if y687.length + l0.length < 1256584717458 then ((some (y687 ++ l0 : List (S29))).bind fun y690 => ((cell_Norm.f k y690).bind fun t693 => ((cell_Find.f l0 a1_0 a1_1 a1_2 a1_3).bind fun bt696 => ((skerryref05_Find.f k l0 a1_0 a1_1 a1_2 a1_3).bind fun bt704 => ((skerryref05_Norm.f k l0).bind fun t712 => ((skerryref01_Like.f k t693 t712).bind fun t715 => (if t715 = true then ((skerryref01_Like.f k y690 l0).bind fun t716 => (if t716 = true then ((cell_Sorted.f k l0).bind fun t717 => ((skerryref05_Sorted.f k l0).bind fun t718 => (if (t717 == t718) = true then (if (bt696.1 == bt704.1 && (bt696.2.1 == bt704.2.1 && (bt696.2.2.1 == bt704.2.2.1 && ((bt696.2.2.2.1 == bt704.2.2.2.1 && (bt696.2.2.2.2.1 == bt704.2.2.2.2.1 && (bt696.2.2.2.2.2.1.toList == bt704.2.2.2.2.2.1.toList))))))) = true then (if (bt696.2.2.2.2.2.2 == bt704.2.2.2.2.2.2) = true then ((cell_Digest.f k l0).bind fun t719 => ((skerryref05_Digest.f k l0).bind fun t720 => (if t719 = t720 then ((skerrylaw05_lives.f k).bind fun t721 => (some t721)) else (none)))) else (none)) else (none)) else (none)))) else (none))) else (none)))))))) else (none)) = some r := by first | (rw [hy687]; with_reducible exact H) | (have H2_ := (Option.bind_some _ _).symm.trans H; rw [hy687]; with_reducible exact H2_) | (have H2_ := (Option.bind_some _ _).symm.trans H; with_reducible exact H2_) | with_reducible exact H | (rw [hy687]; exact H) | exact H
  have Ny687 := Aside0.mk hy687
  clear hy687
  by_cases c9 : y687.length + l0.length < 1256584717458
  rotate_left
  ·
   rw [if_neg c9] at H
   exact absurd H (by simp)
  rw [if_pos c9] at H
  have LMc9 := Aside0.mk c9
  clear c9
  obtain ⟨y690, hy690⟩ : ∃ y_ : List (S29), y_ = (y687 ++ l0) := ⟨_, rfl⟩
  replace H : ((cell_Norm.f k y690).bind fun t693 => ((cell_Find.f l0 a1_0 a1_1 a1_2 a1_3).bind fun bt696 => ((skerryref05_Find.f k l0 a1_0 a1_1 a1_2 a1_3).bind fun bt704 => ((skerryref05_Norm.f k l0).bind fun t712 => ((skerryref01_Like.f k t693 t712).bind fun t715 => (if t715 = true then ((skerryref01_Like.f k y690 l0).bind fun t716 => (if t716 = true then ((cell_Sorted.f k l0).bind fun t717 => ((skerryref05_Sorted.f k l0).bind fun t718 => (if (t717 == t718) = true then (if (bt696.1 == bt704.1 && (bt696.2.1 == bt704.2.1 && (bt696.2.2.1 == bt704.2.2.1 && ((bt696.2.2.2.1 == bt704.2.2.2.1 && (bt696.2.2.2.2.1 == bt704.2.2.2.2.1 && (bt696.2.2.2.2.2.1.toList == bt704.2.2.2.2.2.1.toList))))))) = true then (if (bt696.2.2.2.2.2.2 == bt704.2.2.2.2.2.2) = true then ((cell_Digest.f k l0).bind fun t719 => ((skerryref05_Digest.f k l0).bind fun t720 => (if t719 = t720 then ((skerrylaw05_lives.f k).bind fun t721 => (some t721)) else (none)))) else (none)) else (none)) else (none)))) else (none))) else (none))))))) = some r := by first | (rw [hy690]; with_reducible exact H) | (have H2_ := (Option.bind_some _ _).symm.trans H; rw [hy690]; with_reducible exact H2_) | (have H2_ := (Option.bind_some _ _).symm.trans H; with_reducible exact H2_) | with_reducible exact H | (rw [hy690]; exact H) | exact H
  have Ny690 := Aside0.mk hy690
  clear hy690
  replace H := Option.bind_eq_some_iff.mp H
  obtain ⟨t693, A100, H⟩ := H
  have A10 := Aside0.mk A100
  clear A100
  replace H := Option.bind_eq_some_iff.mp H
  obtain ⟨⟨t696, t697, t698, t699, t700, t701, t702⟩, A110, H⟩ := H
  have A11 := Aside0.mk A110
  clear A110
  replace H := Option.bind_eq_some_iff.mp H
  obtain ⟨⟨t704, t705, t706, t707, t708, t709, t710⟩, A120, H⟩ := H
  have A12 := Aside0.mk A120
  clear A120
  replace H := Option.bind_eq_some_iff.mp H
  obtain ⟨t712, A130, H⟩ := H
  have A13 := Aside0.mk A130
  clear A130
  replace H := Option.bind_eq_some_iff.mp H
  obtain ⟨t715, A140, H⟩ := H
  have A14 := Aside0.mk A140
  clear A140
  by_cases c15 : t715 = true
  rotate_left
  ·
   replace c15 := Bool.eq_false_iff.mpr c15
   subst c15
   have H1 : (none) = some r := by rw [if_neg (show ¬ (false = true) by decide)] at H; exact H
   clear H
   have H := H1
   clear H1
   exact absurd H (by simp)
  subst c15
  have H1 : ((skerryref01_Like.f k y690 l0).bind fun t716 => (if t716 = true then ((cell_Sorted.f k l0).bind fun t717 => ((skerryref05_Sorted.f k l0).bind fun t718 => (if (t717 == t718) = true then (if (t696 == t704 && (t697 == t705 && (t698 == t706 && ((t699 == t707 && (t700 == t708 && (t701.toList == t709.toList))))))) = true then (if (t702 == t710) = true then ((cell_Digest.f k l0).bind fun t719 => ((skerryref05_Digest.f k l0).bind fun t720 => (if t719 = t720 then ((skerrylaw05_lives.f k).bind fun t721 => (some t721)) else (none)))) else (none)) else (none)) else (none)))) else (none))) = some r := by rw [if_pos rfl] at H; exact H
  clear H
  have H := H1
  clear H1
  replace H := Option.bind_eq_some_iff.mp H
  obtain ⟨t716, A160, H⟩ := H
  have A16 := Aside0.mk A160
  clear A160
  by_cases c17 : t716 = true
  rotate_left
  ·
   replace c17 := Bool.eq_false_iff.mpr c17
   subst c17
   have H1 : (none) = some r := by rw [if_neg (show ¬ (false = true) by decide)] at H; exact H
   clear H
   have H := H1
   clear H1
   exact absurd H (by simp)
  subst c17
  have H1 : ((cell_Sorted.f k l0).bind fun t717 => ((skerryref05_Sorted.f k l0).bind fun t718 => (if (t717 == t718) = true then (if (t696 == t704 && (t697 == t705 && (t698 == t706 && ((t699 == t707 && (t700 == t708 && (t701.toList == t709.toList))))))) = true then (if (t702 == t710) = true then ((cell_Digest.f k l0).bind fun t719 => ((skerryref05_Digest.f k l0).bind fun t720 => (if t719 = t720 then ((skerrylaw05_lives.f k).bind fun t721 => (some t721)) else (none)))) else (none)) else (none)) else (none)))) = some r := by rw [if_pos rfl] at H; exact H
  clear H
  have H := H1
  clear H1
  replace H := Option.bind_eq_some_iff.mp H
  obtain ⟨t717, A180, H⟩ := H
  have A18 := Aside0.mk A180
  clear A180
  replace H := Option.bind_eq_some_iff.mp H
  obtain ⟨t718, A190, H⟩ := H
  have A19 := Aside0.mk A190
  clear A190
  by_cases c20 : (t717 == t718) = true
  rotate_left
  ·
   rw [if_neg c20] at H
   exact absurd H (by simp)
  rw [if_pos c20] at H
  have c20b0 : (t717 == t718) = true := c20
  (try (have c20b1 : decide (t717 = t718) = true := by simpa using c20))
  (try (have c20b2 : (t717 == t718) = true := by simpa using c20))
  clear c20
  by_cases c21 : (t696 == t704 && (t697 == t705 && (t698 == t706 && ((t699 == t707 && (t700 == t708 && (t701.toList == t709.toList))))))) = true
  rotate_left
  ·
   rw [if_neg c21] at H
   exact absurd H (by simp)
  rw [if_pos c21] at H
  have c21b0 : (t696 == t704 && (t697 == t705 && (t698 == t706 && ((t699 == t707 && (t700 == t708 && (t701.toList == t709.toList))))))) = true := c21
  (try (have c21b1 : decide (t696 = t704 && (t697 == t705 && (t698 == t706 && ((t699 == t707 && (t700 == t708 && (t701.toList == t709.toList))))))) = true := by simpa using c21))
  (try (have c21b2 : (t696 == t704 && (t697 == t705 && (t698 == t706 && ((t699 == t707 && (t700 == t708 && (t701.toList == t709.toList))))))) = true := by simpa using c21))
  clear c21
  by_cases c22 : (t702 == t710) = true
  rotate_left
  ·
   rw [if_neg c22] at H
   exact absurd H (by simp)
  rw [if_pos c22] at H
  have c22b0 : (t702 == t710) = true := c22
  (try (have c22b1 : decide (t702 = t710) = true := by simpa using c22))
  (try (have c22b2 : (t702 == t710) = true := by simpa using c22))
  clear c22
  replace H := Option.bind_eq_some_iff.mp H
  obtain ⟨t719, A230, H⟩ := H
  have A23 := Aside0.mk A230
  clear A230
  replace H := Option.bind_eq_some_iff.mp H
  obtain ⟨t720, A240, H⟩ := H
  have A24 := Aside0.mk A240
  clear A240
  by_cases c25 : t719 = t720
  rotate_left
  ·
   rw [if_neg c25] at H
   exact absurd H (by simp)
  rw [if_pos c25] at H
  have c25b0 : (t719 == t720) = true := beq_iff_eq.mpr c25
  have c25b1 : (t719 != t720) = false := bne_eq_false_iff_eq.mpr c25
  clear c25
  replace H := Option.bind_eq_some_iff.mp H
  obtain ⟨t721, A260, H⟩ := H
  have A26 := Aside0.mk A260
  clear A260
  obtain rfl := Option.some.inj H
  go_enter Try.func9, Try.ntmps9
  go_wp2_with (first | ((with_reducible refine gate_dst (N := 3) rfl ?_); refine box_event ?hg (N := 3) ?hd (cs := #[.string a1_0, .string a1_1, .int .i64 a1_2, .string a1_3]) (t := 23) ?hr ?_; (case hd => rfl); (case hg => rfl); (case hr => first | (go_simp; done) | (go_simp; rfl)); intro gb684 hg w27 hbox hb; have BK684 := Aside0.mk (hbox); have GW684 := Aside0.mk ((by rw [hg]; exact (bZ_ (kwW HB)) : w.heap.size ≤ gb684)); replace HB := Aside0.mk (below_step (kwW HB) hb); have GE684 := GW684; clear hb hbox hg) | ((with_reducible refine gate_callee (f := 10) rfl ?_); refine goesL_ (some 12) rfl rfl Try.func10 (by kernel_rfl) rfl #[.slice A0 l0.length c0, .int .i64 400] rfl (by (try simp only [mT_, mC_, mN_]); first | done | rfl) ?_; (with_reducible refine (skerrylaw05_weigh.calls k _ _ l0 400 t685 _ ?side1 ?side2 A3.out).mono ?_); (case side1 => repeat (first | exact (Kd.C_below HR0.out HB.out) | (with_reducible refine Kd.C_alloc ?_ _) | (with_reducible refine Kd.C_drewN ?_ _) | (with_reducible refine Kd.C_drew ?_))); (case side2 => exact HC0.out); rintro e w28 ⟨rfl, hb⟩; refine ⟨_, rfl, ?_⟩; replace BK684 := kB BK684 hb; replace HB := Aside0.mk (below_step (by repeat (first | (with_reducible first | exact HB.out | apply bA_ | apply bN_ | apply bD_ | refine bS_ ?_ GE684) | exact HB.out)) hb); (try clear hb); (try clear hb2); (try clear hk); (try clear hi)) | ((with_reducible refine gate_dst (N := 15) rfl ?_); refine Kd.R_lit k29 _ 29 ?hg (N := 15) ?hd (xs := ([] : List (S29))) (inner := []) (ok := fun _ => True) (okp := fun _ => True) ?hr ?hp (fun _ hk => hk) trivial (Below.refl _ _) (Nat.le_refl _) (by simp) ?_; (case hd => rfl); (case hg => rfl); (case hr => first | (go_simp; done) | (go_simp; rfl)); (case hp => exact (Reps.none _ _)); intro v688 w29 ho30 hb hg_ hnew_; clear hg_ hnew_; (first | rw [← Ny687.out] at ho30 | (simp only [Int.reduceToNat] at ho30; rw [← Ny687.out] at ho30)); have HO689 := Aside0.mk (Kd.R_lower ho30 (bZ_ (by repeat (first | (with_reducible first | exact HB.out | apply bA_ | apply bN_ | apply bD_ | refine bS_ ?_ GE684) | exact HB.out)))); replace BK684 := kB BK684 hb; replace HB := Aside0.mk (below_step (by repeat (first | (with_reducible first | exact HB.out | apply bA_ | apply bN_ | apply bD_ | refine bS_ ?_ GE684) | exact HB.out)) hb); clear hb ho30) | ((with_reducible refine gate_builtin (b := .append) (xs := #[.tmp 15, .tmp 16]) rfl ?_); at_builtin; refine Kd.R_append_rows k29 (w0 := w) w.heap.size rfl (.tmp 15) (.tmp 16) 31 29 (.agg #[(.string ⟨#[]⟩), (.string ⟨#[]⟩), (.int .i64 0), (.string ⟨#[]⟩), (.int .i64 0), (.bool false), (.int .i64 0), (.int .i64 0), (.int .i64 0), (.string ⟨#[]⟩)]) 112 rfl Try.underlying31 info29 rfl (by decide) (by omega) v688 y687 l0 _ _ _ (fun _ => True) (fun _ => False) rfl rfl ?aO ?aR (fun _ _ h => h) (fun _ h => h.elim) ?aF ?aB ?aS ?aL ?_; (case aR => repeat (first | exact (Kd.C_below HR0.out HB.out) | (with_reducible refine Kd.C_alloc ?_ _) | (with_reducible refine Kd.C_drewN ?_ _) | (with_reducible refine Kd.C_drew ?_))); (case aB => exact (by repeat (first | (with_reducible first | exact HB.out | apply bA_ | apply bN_ | apply bD_ | refine bS_ ?_ GE684) | exact HB.out))); (case aF => exact (fun _ _ => trivial)); (case aO => exact (krW HO689)); (case aS => exact (bZ_ (by repeat (first | (with_reducible first | exact HB.out | apply bA_ | apply bN_ | apply bD_ | refine bS_ ?_ GE684) | exact HB.out)))); (case aL => have := LMc9.out; omega); intro v691 w31 ho hb hg hat; rw [← Ny690.out] at ho; replace BK684 := Aside0.mk (blk_grown (kbW BK684) hg (Kd.R_ne HO689.out BK684.out (by decide))); replace HB := Aside0.mk (hb); have HO692 := Aside0.mk (ho); clear HO689; clear ho hb hg hat; obtain ⟨Ao32, co32, eo32⟩ := Kd.R_slice HO692.out; subst eo32) | ((with_reducible refine gate_callee (f := 21) rfl ?_); refine goesL_ (some 19) rfl rfl Try.func21 (by kernel_rfl) rfl #[.slice Ao32 y690.length co32] rfl (by (try simp only [mT_, mC_, mN_]); first | done | rfl) ?_; (with_reducible refine (cell_Norm.calls k _ _ y690 t693 _ ?side1 ?side2 A10.out).mono ?_); (case side1 => repeat (first | exact (Kd.R_reads' HO692.out).2.2 | (with_reducible refine Kd.C_alloc ?_ _) | (with_reducible refine Kd.C_drewN ?_ _) | (with_reducible refine Kd.C_drew ?_))); (case side2 => exact (Kd.R_reads' HO692.out).2.1); rintro e w33 ⟨v694, rfl, ho0, hb⟩; refine ⟨_, rfl, ?_⟩; have HO695 := Aside0.mk (Kd.R_lower (Kd.R_new' ho0 (Kd.R_lt (krW HO692))) (bZ_ (by repeat (first | (with_reducible first | exact HB.out | apply bA_ | apply bN_ | apply bD_ | refine bS_ ?_ GE684) | exact HB.out)))); replace HO692 := Aside0.mk (Kd.R_elder' (krW HO692) (Kd.R_base ho0) hb); replace BK684 := kB BK684 hb; replace HB := Aside0.mk (below_step (by repeat (first | (with_reducible first | exact HB.out | apply bA_ | apply bN_ | apply bD_ | refine bS_ ?_ GE684) | exact HB.out)) hb); (try clear hb); (try clear hb2); (try clear hk); (try clear hi); (try clear ho0); obtain ⟨_, _, _, _, _, _, _, _⟩ := czf4 BK684) | ((with_reducible refine gate_callee (f := 24) rfl ?_); refine goesL_ (some 23) rfl rfl Try.func24 (by kernel_rfl) rfl #[.slice A0 l0.length c0, .agg #[.string a1_0, .string a1_1, .int .i64 a1_2, .string a1_3]] rfl (by (try simp only [mT_, mC_, mN_]); first | done | rfl) ?_; (with_reducible refine (cell_Find.calls _ _ l0 a1_0 a1_1 a1_2 a1_3 t696 t697 t698 t699 t700 t701 t702 _ ?side1 ?side2 A11.out).mono ?_); (case side1 => repeat (first | exact (Kd.C_below HR0.out HB.out) | (with_reducible refine Kd.C_alloc ?_ _) | (with_reducible refine Kd.C_drewN ?_ _) | (with_reducible refine Kd.C_drew ?_))); (case side2 => exact HC0.out); rintro e w35 ⟨rfl, hb⟩; refine ⟨_, rfl, ?_⟩; replace HO692 := kR HO692 hb; replace HO695 := kR HO695 hb; replace BK684 := kB BK684 hb; replace HB := Aside0.mk (below_step (by repeat (first | (with_reducible first | exact HB.out | apply bA_ | apply bN_ | apply bD_ | refine bS_ ?_ GE684) | exact HB.out)) hb); (try clear hb); (try clear hb2); (try clear hk); (try clear hi)) | ((with_reducible refine gate_dst (N := 7) rfl ?_); refine box_event ?hg (N := 7) ?hd (cs := #[.int .i64 0, .bool false, .int .i64 0, .int .i64 0, .int .i64 0, .string (⟨#[]⟩ : ByteArray)]) (t := 27) ?hr ?_; (case hd => rfl); (case hg => rfl); (case hr => first | (go_simp; done) | (go_simp; rfl)); intro gb703 hg w36 hbox hb; replace HO692 := kR HO692 hb; replace HO695 := kR HO695 hb; have BK703 := Aside0.mk (hbox); have GW703 := Aside0.mk ((by rw [hg]; exact (bZ_ (by repeat (first | (with_reducible first | exact HB.out | apply bA_ | apply bN_ | apply bD_ | refine bS_ ?_ GE684) | exact HB.out))) : w.heap.size ≤ gb703)); replace HB := Aside0.mk (below_step (by repeat (first | (with_reducible first | exact HB.out | apply bA_ | apply bN_ | apply bD_ | refine bS_ ?_ GE684) | exact HB.out)) hb); have GE703 := GW703; have NB684_703 := Aside0.mk ((by rw [hg]; exact Nat.ne_of_lt (blk_lt (kbW BK684)) : gb684 ≠ gb703)); have NB703_684 := Aside0.mk ((by rw [hg]; exact Nat.ne_of_gt (blk_lt (kbW BK684)) : gb703 ≠ gb684)); replace BK684 := kB BK684 hb; clear hb hbox hg; have hnb37 := NB703_684.out; have hnc37 := NB684_703.out; obtain ⟨_, _, _, _, _, _, _, _, _, _, _, _⟩ := czf6 BK703; obtain ⟨_, _, _, _, _, _, _, _⟩ := czf4 BK684) | ((with_reducible refine gate_callee (f := 26) rfl ?_); refine goesL_ (some 29) rfl rfl Try.func26 (by kernel_rfl) rfl #[.slice A0 l0.length c0, .agg #[.string a1_0, .string a1_1, .int .i64 a1_2, .string a1_3]] rfl (by (try simp only [mT_, mC_, mN_]); first | done | rfl) ?_; (with_reducible refine (skerryref05_Find.calls k _ _ l0 a1_0 a1_1 a1_2 a1_3 t704 t705 t706 t707 t708 t709 t710 _ ?side1 ?side2 A12.out).mono ?_); (case side1 => exact Kd.C_below HR0.out (by repeat (first | (with_reducible first | exact HB.out | apply bA_ | apply bN_ | apply bD_ | refine bS_ ?_ GE684 | refine bS_ ?_ GE703) | exact HB.out))); (case side2 => exact HC0.out); rintro e w40 ⟨rfl, hb⟩; refine ⟨_, rfl, ?_⟩; replace HO692 := Aside0.mk (Kd.R_below (by (with_reducible repeat (first | apply Kd.R_alloc | apply Kd.R_drewN | apply Kd.R_drew)); exact (Kd.R_mono (rf6 (Kd.R_types HO692.out BK703.out (by decide)) (fun _ hk => hk.2)) (fun _ h_ => h_.1))) hb); replace HO695 := Aside0.mk (Kd.R_below (by (with_reducible repeat (first | apply Kd.R_alloc | apply Kd.R_drewN | apply Kd.R_drew)); exact (Kd.R_mono (rf6 (Kd.R_types HO695.out BK703.out (by decide)) (fun _ hk => hk.2)) (fun _ h_ => h_.1))) hb); replace BK684 := kBf BK684 (fun h_ => by (with_reducible repeat (first | refine blk_drewN ?_ _ | refine blk_drew ?_ | refine blk_alloc ?_ _)); refine bf6 ?_ NB684_703.out; (with_reducible repeat (first | refine blk_drewN ?_ _ | refine blk_drew ?_ | refine blk_alloc ?_ _)); exact h_) hb; replace BK703 := Aside0.mk (blk_below (g := gb703) (o := .cells #[.int .i64 t696, .bool t697, .int .i64 t698, .int .i64 t699, .int .i64 t700, .string t701] 27 (0, 0)) (by (with_reducible repeat (first | refine blk_drewN ?_ _ | refine blk_drew ?_ | refine blk_alloc ?_ _)); exact bp6 (kbW BK703)) hb); replace HB := Aside0.mk (below_step (by repeat (first | (with_reducible first | exact HB.out | apply bA_ | apply bN_ | apply bD_ | refine bS_ ?_ GE684 | refine bS_ ?_ GE703) | exact HB.out)) hb); (try clear hb); (try clear hb2); (try clear hk); (try clear hi)) | ((with_reducible refine gate_dst (N := 9) rfl ?_); refine box_event ?hg (N := 9) ?hd (cs := #[.int .i64 0, .bool false, .int .i64 0, .int .i64 0, .int .i64 0, .string (⟨#[]⟩ : ByteArray)]) (t := 27) ?hr ?_; (case hd => rfl); (case hg => rfl); (case hr => first | (go_simp; done) | (go_simp; rfl)); intro gb711 hg w41 hbox hb; replace HO692 := kR HO692 hb; replace HO695 := kR HO695 hb; have BK711 := Aside0.mk (hbox); have GW711 := Aside0.mk ((by rw [hg]; exact (bZ_ (by repeat (first | (with_reducible first | exact HB.out | apply bA_ | apply bN_ | apply bD_ | refine bS_ ?_ GE684 | refine bS_ ?_ GE703) | exact HB.out))) : w.heap.size ≤ gb711)); replace HB := Aside0.mk (below_step (by repeat (first | (with_reducible first | exact HB.out | apply bA_ | apply bN_ | apply bD_ | refine bS_ ?_ GE684 | refine bS_ ?_ GE703) | exact HB.out)) hb); have GE711 := GW711; have NB684_711 := Aside0.mk ((by rw [hg]; exact Nat.ne_of_lt (blk_lt (kbW BK684)) : gb684 ≠ gb711)); have NB711_684 := Aside0.mk ((by rw [hg]; exact Nat.ne_of_gt (blk_lt (kbW BK684)) : gb711 ≠ gb684)); replace BK684 := kB BK684 hb; have NB703_711 := Aside0.mk ((by rw [hg]; exact Nat.ne_of_lt (blk_lt (kbW BK703)) : gb703 ≠ gb711)); have NB711_703 := Aside0.mk ((by rw [hg]; exact Nat.ne_of_gt (blk_lt (kbW BK703)) : gb711 ≠ gb703)); replace BK703 := kB BK703 hb; clear hb hbox hg; have hnb42 := NB711_684.out; have hnc42 := NB684_711.out; have hnb43 := NB711_703.out; have hnc43 := NB703_711.out; obtain ⟨_, _, _, _, _, _, _, _, _, _, _, _⟩ := czf6 BK711) | ((with_reducible refine gate_callee (f := 27) rfl ?_); refine goesL_ (some 34) rfl rfl Try.func27 (by kernel_rfl) rfl #[.slice A0 l0.length c0] rfl (by (try simp only [mT_, mC_, mN_]); first | done | rfl) ?_; (with_reducible refine (skerryref05_Norm.calls k _ _ l0 t712 _ ?side1 ?side2 A13.out).mono ?_); (case side1 => exact Kd.C_below HR0.out (by repeat (first | (with_reducible first | exact HB.out | apply bA_ | apply bN_ | apply bD_ | refine bS_ ?_ GE684 | refine bS_ ?_ GE703 | refine bS_ ?_ GE711) | exact HB.out))); (case side2 => exact HC0.out); rintro e w45 ⟨v713, rfl, ho0, hb⟩; refine ⟨_, rfl, ?_⟩; have HO714 := Aside0.mk (Kd.R_lower (Kd.R_new' (Kd.R_new' ho0 (Kd.R_lt (by (with_reducible repeat (first | apply Kd.R_alloc | apply Kd.R_drewN | apply Kd.R_drew)); exact (Kd.R_mono (rf6 (Kd.R_types HO692.out BK711.out (by decide)) (fun _ hk => hk.2)) (fun _ h_ => h_.1))))) (Kd.R_lt (by (with_reducible repeat (first | apply Kd.R_alloc | apply Kd.R_drewN | apply Kd.R_drew)); exact (Kd.R_mono (rf6 (Kd.R_types HO695.out BK711.out (by decide)) (fun _ hk => hk.2)) (fun _ h_ => h_.1))))) (bZ_ (by repeat (first | (with_reducible first | exact HB.out | apply bA_ | apply bN_ | apply bD_ | refine bS_ ?_ GE684 | refine bS_ ?_ GE703 | refine bS_ ?_ GE711) | exact HB.out)))); replace HO692 := Aside0.mk (Kd.R_elder' (by (with_reducible repeat (first | apply Kd.R_alloc | apply Kd.R_drewN | apply Kd.R_drew)); exact (Kd.R_mono (rf6 (Kd.R_types HO692.out BK711.out (by decide)) (fun _ hk => hk.2)) (fun _ h_ => h_.1))) (Kd.R_base ho0) hb); replace HO695 := Aside0.mk (Kd.R_elder' (by (with_reducible repeat (first | apply Kd.R_alloc | apply Kd.R_drewN | apply Kd.R_drew)); exact (Kd.R_mono (rf6 (Kd.R_types HO695.out BK711.out (by decide)) (fun _ hk => hk.2)) (fun _ h_ => h_.1))) (Kd.R_base ho0) hb); replace BK684 := kBf BK684 (fun h_ => by (with_reducible repeat (first | refine blk_drewN ?_ _ | refine blk_drew ?_ | refine blk_alloc ?_ _)); refine bf6 ?_ NB684_711.out; (with_reducible repeat (first | refine blk_drewN ?_ _ | refine blk_drew ?_ | refine blk_alloc ?_ _)); exact h_) hb; replace BK703 := kBf BK703 (fun h_ => by (with_reducible repeat (first | refine blk_drewN ?_ _ | refine blk_drew ?_ | refine blk_alloc ?_ _)); refine bf6 ?_ NB703_711.out; (with_reducible repeat (first | refine blk_drewN ?_ _ | refine blk_drew ?_ | refine blk_alloc ?_ _)); exact h_) hb; replace BK711 := Aside0.mk (blk_below (g := gb711) (o := .cells #[.int .i64 t704, .bool t705, .int .i64 t706, .int .i64 t707, .int .i64 t708, .string t709] 27 (0, 0)) (by (with_reducible repeat (first | refine blk_drewN ?_ _ | refine blk_drew ?_ | refine blk_alloc ?_ _)); exact bp6 (kbW BK711)) hb); replace HB := Aside0.mk (below_step (by repeat (first | (with_reducible first | exact HB.out | apply bA_ | apply bN_ | apply bD_ | refine bS_ ?_ GE684 | refine bS_ ?_ GE703 | refine bS_ ?_ GE711) | exact HB.out)) hb); (try clear hb); (try clear hb2); (try clear hk); (try clear hi); (try clear ho0); obtain ⟨Ao46, co46, eo46⟩ := Kd.R_slice HO695.out; subst eo46; obtain ⟨Ao47, co47, eo47⟩ := Kd.R_slice HO714.out; subst eo47) | ((with_reducible refine gate_callee (f := 22) rfl ?_); refine goesL_ (some 35) rfl rfl Try.func22 (by kernel_rfl) rfl #[.slice Ao46 t693.length co46, .slice Ao47 t712.length co47] rfl (by (try simp only [mT_, mC_, mN_]); first | done | rfl) ?_; (with_reducible refine (skerryref01_Like.calls k _ _ t693 _ _ t712 true _ ?side1 ?side2 ?side3 ?side4 A14.out).mono ?_); (case side1 => repeat (first | exact (Kd.R_reads' HO695.out).2.2 | (with_reducible refine Kd.C_alloc ?_ _) | (with_reducible refine Kd.C_drewN ?_ _) | (with_reducible refine Kd.C_drew ?_))); (case side2 => exact (Kd.R_reads' HO695.out).2.1); (case side3 => repeat (first | exact (Kd.R_reads' HO714.out).2.2 | (with_reducible refine Kd.C_alloc ?_ _) | (with_reducible refine Kd.C_drewN ?_ _) | (with_reducible refine Kd.C_drew ?_))); (case side4 => exact (Kd.R_reads' HO714.out).2.1); rintro e w' ⟨rfl, ⟨nd, rfl⟩⟩; refine ⟨_, rfl, ?_⟩) | (go_at_call 22; (with_reducible refine (skerryref01_Like.calls k _ _ y690 _ _ l0 true _ ?side1 ?side2 ?side3 ?side4 A16.out).mono ?_); (case side1 => repeat (first | exact (Kd.R_reads' HO692.out).2.2 | (with_reducible refine Kd.C_alloc ?_ _) | (with_reducible refine Kd.C_drewN ?_ _) | (with_reducible refine Kd.C_drew ?_))); (case side2 => exact (Kd.R_reads' HO692.out).2.1); (case side3 => repeat (first | exact (Kd.C_below HR0.out (by repeat (first | (with_reducible first | exact HB.out | apply bA_ | apply bN_ | apply bD_ | refine bS_ ?_ GE684 | refine bS_ ?_ GE703 | refine bS_ ?_ GE711) | exact HB.out))) | (with_reducible refine Kd.C_alloc ?_ _) | (with_reducible refine Kd.C_drewN ?_ _) | (with_reducible refine Kd.C_drew ?_))); (case side4 => exact HC0.out); rintro e w' ⟨rfl, ⟨nd, rfl⟩⟩) | (go_at_call 23; (with_reducible refine (cell_Sorted.calls k _ _ l0 t717 _ ?side1 ?side2 A18.out).mono ?_); (case side1 => repeat (first | exact (Kd.C_below HR0.out (by repeat (first | (with_reducible first | exact HB.out | apply bA_ | apply bN_ | apply bD_ | refine bS_ ?_ GE684 | refine bS_ ?_ GE703 | refine bS_ ?_ GE711) | exact HB.out))) | (with_reducible refine Kd.C_alloc ?_ _) | (with_reducible refine Kd.C_drewN ?_ _) | (with_reducible refine Kd.C_drew ?_))); (case side2 => exact HC0.out); rintro e w48 ⟨rfl, hb⟩; replace HO692 := kR HO692 hb; replace HO695 := kR HO695 hb; replace HO714 := kR HO714 hb; replace BK684 := kB BK684 hb; replace BK703 := kB BK703 hb; replace BK711 := kB BK711 hb; replace HB := Aside0.mk (below_step (by repeat (first | (with_reducible first | exact HB.out | apply bA_ | apply bN_ | apply bD_ | refine bS_ ?_ GE684 | refine bS_ ?_ GE703 | refine bS_ ?_ GE711) | exact HB.out)) hb); (try clear hb); (try clear hb2); (try clear hk); (try clear hi)) | (go_at_call 28; (with_reducible refine (skerryref05_Sorted.calls k _ _ l0 t718 _ ?side1 ?side2 A19.out).mono ?_); (case side1 => repeat (first | exact (Kd.C_below HR0.out HB.out) | (with_reducible refine Kd.C_alloc ?_ _) | (with_reducible refine Kd.C_drewN ?_ _) | (with_reducible refine Kd.C_drew ?_))); (case side2 => exact HC0.out); rintro e w49 ⟨rfl, hb⟩; replace HO692 := kR HO692 hb; replace HO695 := kR HO695 hb; replace HO714 := kR HO714 hb; replace BK684 := kB BK684 hb; replace BK703 := kB BK703 hb; replace BK711 := kB BK711 hb; replace HB := Aside0.mk (below_step (by repeat (first | (with_reducible first | exact HB.out | apply bA_ | apply bN_ | apply bD_ | refine bS_ ?_ GE684 | refine bS_ ?_ GE703 | refine bS_ ?_ GE711) | exact HB.out)) hb); (try clear hb); (try clear hb2); (try clear hk); (try clear hi); obtain ⟨_, _, _, _, _, _, _, _, _, _, _, _⟩ := czf6 BK703; obtain ⟨_, _, _, _, _, _, _, _, _, _, _, _⟩ := czf6 BK711) | (go_at_call 20; (with_reducible refine (cell_Digest.calls k _ _ l0 t719 _ ?side1 ?side2 A23.out).mono ?_); (case side1 => repeat (first | exact (Kd.C_below HR0.out HB.out) | (with_reducible refine Kd.C_alloc ?_ _) | (with_reducible refine Kd.C_drewN ?_ _) | (with_reducible refine Kd.C_drew ?_))); (case side2 => exact HC0.out); rintro e w52 ⟨rfl, hb⟩; replace HO692 := kR HO692 hb; replace HO695 := kR HO695 hb; replace HO714 := kR HO714 hb; replace BK684 := kB BK684 hb; replace BK703 := kB BK703 hb; replace BK711 := kB BK711 hb; replace HB := Aside0.mk (below_step (by repeat (first | (with_reducible first | exact HB.out | apply bA_ | apply bN_ | apply bD_ | refine bS_ ?_ GE684 | refine bS_ ?_ GE703 | refine bS_ ?_ GE711) | exact HB.out)) hb); (try clear hb); (try clear hb2); (try clear hk); (try clear hi)) | (go_at_call 29; (with_reducible refine (skerryref05_Digest.calls k _ _ l0 t720 _ ?side1 ?side2 A24.out).mono ?_); (case side1 => repeat (first | exact (Kd.C_below HR0.out HB.out) | (with_reducible refine Kd.C_alloc ?_ _) | (with_reducible refine Kd.C_drewN ?_ _) | (with_reducible refine Kd.C_drew ?_))); (case side2 => exact HC0.out); rintro e w53 ⟨rfl, hb⟩; replace HO692 := kR HO692 hb; replace HO695 := kR HO695 hb; replace HO714 := kR HO714 hb; replace BK684 := kB BK684 hb; replace BK703 := kB BK703 hb; replace BK711 := kB BK711 hb; replace HB := Aside0.mk (below_step (by repeat (first | (with_reducible first | exact HB.out | apply bA_ | apply bN_ | apply bD_ | refine bS_ ?_ GE684 | refine bS_ ?_ GE703 | refine bS_ ?_ GE711) | exact HB.out)) hb); (try clear hb); (try clear hb2); (try clear hk); (try clear hi)) | (go_at_call 11; (with_reducible refine (skerrylaw05_lives.calls k  t721 _ A26.out).mono ?_); rintro e w54 ⟨rfl, hb⟩; replace HO692 := kR HO692 hb; replace HO695 := kR HO695 hb; replace HO714 := kR HO714 hb; replace BK684 := kB BK684 hb; replace BK703 := kB BK703 hb; replace BK711 := kB BK711 hb; replace HB := Aside0.mk (below_step (by repeat (first | (with_reducible first | exact HB.out | apply bA_ | apply bN_ | apply bD_ | refine bS_ ?_ GE684 | refine bS_ ?_ GE703 | refine bS_ ?_ GE711) | exact HB.out)) hb); (try clear hb); (try clear hb2); (try clear hk); (try clear hi)))
  go_ret
  exact ⟨by first | rfl | (simp <;> rfl) | (simp [*] <;> rfl), by repeat (first | (with_reducible first | exact HB.out | apply bA_ | apply bN_ | apply bD_ | refine bS_ ?_ GE684 | refine bS_ ?_ GE703 | refine bS_ ?_ GE711) | exact HB.out)⟩
end Go.Proofs.Ytaedmofnhjaljaa.Q
