/- Lemmas for this claim's walk: no condition of their own. -/
import Derived.Test.YtafhnjlihhfoaaaUbJ13
import Derived.Test.YtafhnjlihhfoaaaUbQx0
import Derived.Test.YtafhnjlihhfoaaaUbQx13
import Derived.Test.YtafhnjlihhfoaaaUbJ15
import Derived.Test.YtafhnjlihhfoaaaUbQx15
import Derived.Test.YtafhnjlihhfoaaaUbQx25
import Derived.Test.YtafhnjlihhfoaaaUbQx26
namespace Go.Proofs.Ytafhnjlihhfoaaa.Q
open Go.RowKit Go.Proofs.YtafhnjlihhfoaaaW.PrintWords Go.Proofs.YtafhnjlihhfoaaaW.PrintLast Go.Proofs.YtafhnjlihhfoaaaW.PrintMore
attribute [local go_sem] max2_int min2_int max_two min_two max_three min_three max_four min_four
set_option linter.unusedVariables false
set_option linter.unusedSimpArgs false
def skerrylaw22_lives.f (k : Nat)  : Option (Bool) := (some (([(⟨(⟨(⟨#[116]⟩ : ByteArray), (⟨#[120]⟩ : ByteArray), 0, (⟨#[]⟩ : ByteArray)⟩ : S32), (⟨0, false, 0, (⟨0, 0, (⟨#[]⟩ : ByteArray)⟩ : S34)⟩ : S36)⟩ : S38)] : List (S38)) : List (S38))).bind fun y257 => ((tree_Leaves.f k y257 0).bind fun t260 => ((tree_Build.f t260).bind fun t263 => (if (t260.length : Int) = 1 then (if 0 < (t260.length : Int) then ((cell_Digest.f k y257).bind fun t267 => (if (rd t260 0) = t267 then ((skerryref01_Words.f k t263 (([0, rd t260 0] : List Int))).bind fun t272 => (if t272 = true then ((tree_Diff.f t263 t263).bind fun t273 => (if (t273.length : Int) = 0 then ((tree_Diff.f t263 (([0, 0] : List Int))).bind fun t279 => (some ((t279.length : Int) == 1))) else (none))) else (none))) else (none))) else (none)) else (none))))
def skerrylaw22_lives.T4 : Bool × List (List Nat × List Nat) := (true, [([], []), ([0], [0]), ([1], [1]), ([2], [2]), ([3], [3]), ([4, 3], [3, 4]), ([5, 3], [3, 5]), ([3], [3]), ([7, 3, 3], [3, 7]), ([6, 8, 3], [3, 6, 8]), ([3, 9], [3, 9]), ([10, 8], [10]), ([11], [11]), ([11], [11]), ([13, 11], [11, 13]), ([14, 11], [11, 14]), ([15, 11], [11, 15]), ([12, 16, 11, 11], [11, 12, 16]), ([11, 17], [11, 17]), ([18, 17], [18]), ([19], [19]), ([19], [19]), ([20, 21, 19, 19], [19, 20, 21]), ([22, 19], [19, 22]), ([23, 19], [19, 23]), ([19, 24], [19, 24]), ([25, 22], [25]), ([26], [26]), ([26], [26]), ([27, 28, 26, 26], [26, 27, 28]), ([29, 26], [26, 29]), ([30, 26], [26, 30]), ([26, 31], [26, 31]), ([32, 29, 0, 1, 2, 3, 4, 5, 6, 7, 8, 9, 10, 11, 12, 13, 14, 15, 16, 17, 18, 19, 20, 21, 22, 23, 24, 25, 26, 27, 28, 29, 30, 31, 32], [32])])
def skerrylaw22_lives.B4 : List Nat := [0, 1, 3, 7, 15, 31, 63, 15, 143, 511, 1023, 2047, 4095, 4095, 12287, 28671, 61439, 131071, 262143, 524287, 1048575, 1048575, 4194303, 8388607, 16777215, 33554431, 67108863, 134217727, 134217727, 536870911, 1073741823, 2147483647, 4294967295, 8589934591]
theorem skerrylaw22_lives.tab4 : rtab .any (opsOf Try.f8 4) = skerrylaw22_lives.T4 := by kernel_rfl
theorem skerrylaw22_lives.bits4 : waitsOk skerrylaw22_lives.T4.2 skerrylaw22_lives.B4 = true := by kernel_rfl
set_option maxHeartbeats 8000000 in
set_option maxRecDepth 100000 in
theorem skerrylaw22_lives.calls (k : Nat)  (r : Bool) (w : World) (h : skerrylaw22_lives.f k  = some r) :
  Calls Try.prog 8 #[] w fun e w' => e = .returned (.bool r) ∧ Below w.heap.size w w' := by
 have hu32 := Try.underlying32
 have hu38 := Try.underlying38
 have HB := Aside0.mk (Below.refl w.heap.size w)
 have H : ((some (([(⟨(⟨(⟨#[116]⟩ : ByteArray), (⟨#[120]⟩ : ByteArray), 0, (⟨#[]⟩ : ByteArray)⟩ : S32), (⟨0, false, 0, (⟨0, 0, (⟨#[]⟩ : ByteArray)⟩ : S34)⟩ : S36)⟩ : S38)] : List (S38)) : List (S38))).bind fun y257 => ((tree_Leaves.f k y257 0).bind fun t260 => ((tree_Build.f t260).bind fun t263 => (if (t260.length : Int) = 1 then (if 0 < (t260.length : Int) then ((cell_Digest.f k y257).bind fun t267 => (if (rd t260 0) = t267 then ((skerryref01_Words.f k t263 (([0, rd t260 0] : List Int))).bind fun t272 => (if t272 = true then ((tree_Diff.f t263 t263).bind fun t273 => (if (t273.length : Int) = 0 then ((tree_Diff.f t263 (([0, 0] : List Int))).bind fun t279 => (some ((t279.length : Int) == 1))) else (none))) else (none))) else (none))) else (none)) else (none))))) = some r := h
 clear h
 obtain ⟨y257, hy257⟩ : ∃ y_ : List (S38), y_ = (([(⟨(⟨(⟨#[116]⟩ : ByteArray), (⟨#[120]⟩ : ByteArray), 0, (⟨#[]⟩ : ByteArray)⟩ : S32), (⟨0, false, 0, (⟨0, 0, (⟨#[]⟩ : ByteArray)⟩ : S34)⟩ : S36)⟩ : S38)] : List (S38))) := ⟨_, rfl⟩
 replace H : ((tree_Leaves.f k y257 0).bind fun t260 => ((tree_Build.f t260).bind fun t263 => (if (t260.length : Int) = 1 then (if 0 < (t260.length : Int) then ((cell_Digest.f k y257).bind fun t267 => (if (rd t260 0) = t267 then ((skerryref01_Words.f k t263 (([0, rd t260 0] : List Int))).bind fun t272 => (if t272 = true then ((tree_Diff.f t263 t263).bind fun t273 => (if (t273.length : Int) = 0 then ((tree_Diff.f t263 (([0, 0] : List Int))).bind fun t279 => (some ((t279.length : Int) == 1))) else (none))) else (none))) else (none))) else (none)) else (none)))) = some r := by first | (rw [hy257]; with_reducible exact H) | (have H2_ := (Option.bind_some _ _).symm.trans H; rw [hy257]; with_reducible exact H2_) | (have H2_ := (Option.bind_some _ _).symm.trans H; with_reducible exact H2_) | with_reducible exact H | (rw [hy257]; exact H) | exact H
 have Ny257 := Aside0.mk hy257
 clear hy257
 replace H := Option.bind_eq_some_iff.mp H
 obtain ⟨t260, A10, H⟩ := H
 have A1 := Aside0.mk A10
 clear A10
 replace H := Option.bind_eq_some_iff.mp H
 obtain ⟨t263, A20, H⟩ := H
 have A2 := Aside0.mk A20
 clear A20
 by_cases c3 : (t260.length : Int) = 1
 rotate_left
 ·
  rw [if_neg c3] at H
  have c3b0 : ((t260.length : Int) == 1) = false := beq_eq_false_iff_ne.mpr c3
  have c3b1 : ((t260.length : Int) != 1) = true := bne_iff_ne.mpr c3
  exact absurd H (by simp)
 rw [if_pos c3] at H
 have c3b0 : ((t260.length : Int) == 1) = true := beq_iff_eq.mpr c3
 have c3b1 : ((t260.length : Int) != 1) = false := bne_eq_false_iff_eq.mpr c3
 clear c3
 by_cases c4 : 0 < (t260.length : Int)
 rotate_left
 ·
  rw [if_neg c4] at H
  exact absurd H (by simp)
 rw [if_pos c4] at H
 have c4b0 : decide (0 < (t260.length : Int)) = true := decide_eq_true c4
 have c4b1 : decide (0 < t260.length) = true := decide_eq_true (by omega)
 clear c4
 replace H := Option.bind_eq_some_iff.mp H
 obtain ⟨t267, A50, H⟩ := H
 have A5 := Aside0.mk A50
 clear A50
 by_cases c6 : (rd t260 0) = t267
 rotate_left
 ·
  rw [if_neg c6] at H
  have c6b0 : ((rd t260 0) == t267) = false := beq_eq_false_iff_ne.mpr c6
  have c6b1 : ((rd t260 0) != t267) = true := bne_iff_ne.mpr c6
  exact absurd H (by simp)
 rw [if_pos c6] at H
 have c6b0 : ((rd t260 0) == t267) = true := beq_iff_eq.mpr c6
 have c6b1 : ((rd t260 0) != t267) = false := bne_eq_false_iff_eq.mpr c6
 clear c6
 obtain ⟨y269, hy269⟩ : ∃ y_ : List Int, y_ = (([0, rd t260 0] : List Int)) := ⟨_, rfl⟩
 replace H : ((skerryref01_Words.f k t263 y269).bind fun t272 => (if t272 = true then ((tree_Diff.f t263 t263).bind fun t273 => (if (t273.length : Int) = 0 then ((tree_Diff.f t263 (([0, 0] : List Int))).bind fun t279 => (some ((t279.length : Int) == 1))) else (none))) else (none))) = some r := by first | (rw [hy269]; with_reducible exact H) | (have H2_ := (Option.bind_some _ _).symm.trans H; rw [hy269]; with_reducible exact H2_) | (have H2_ := (Option.bind_some _ _).symm.trans H; with_reducible exact H2_) | with_reducible exact H | (rw [hy269]; exact H) | exact H
 have Ny269 := Aside0.mk hy269
 clear hy269
 replace H := Option.bind_eq_some_iff.mp H
 obtain ⟨t272, A70, H⟩ := H
 have A7 := Aside0.mk A70
 clear A70
 by_cases c8 : t272 = true
 rotate_left
 ·
  replace c8 := Bool.eq_false_iff.mpr c8
  subst c8
  have H1 : (none) = some r := by rw [if_neg (show ¬ (false = true) by decide)] at H; exact H
  clear H
  have H := H1
  clear H1
  exact absurd H (by simp)
 subst c8
 have H1 : ((tree_Diff.f t263 t263).bind fun t273 => (if (t273.length : Int) = 0 then ((tree_Diff.f t263 (([0, 0] : List Int))).bind fun t279 => (some ((t279.length : Int) == 1))) else (none))) = some r := by rw [if_pos rfl] at H; exact H
 clear H
 have H := H1
 clear H1
 replace H := Option.bind_eq_some_iff.mp H
 obtain ⟨t273, A90, H⟩ := H
 have A9 := Aside0.mk A90
 clear A90
 by_cases c10 : (t273.length : Int) = 0
 rotate_left
 ·
  rw [if_neg c10] at H
  have c10b0 : ((t273.length : Int) == 0) = false := beq_eq_false_iff_ne.mpr c10
  have c10b1 : ((t273.length : Int) != 0) = true := bne_iff_ne.mpr c10
  have c10b2 : ¬ (t273 = []) := fun h_ => c10 (by rw [h_]; rfl)
  exact absurd H (by simp)
 rw [if_pos c10] at H
 have c10b0 : ((t273.length : Int) == 0) = true := beq_iff_eq.mpr c10
 have c10b1 : ((t273.length : Int) != 0) = false := bne_eq_false_iff_eq.mpr c10
 clear c10
 obtain ⟨y276, hy276⟩ : ∃ y_ : List Int, y_ = (([0, 0] : List Int)) := ⟨_, rfl⟩
 replace H : ((tree_Diff.f t263 y276).bind fun t279 => (some ((t279.length : Int) == 1))) = some r := by first | (rw [hy276]; with_reducible exact H) | (have H2_ := (Option.bind_some _ _).symm.trans H; rw [hy276]; with_reducible exact H2_) | (have H2_ := (Option.bind_some _ _).symm.trans H; with_reducible exact H2_) | with_reducible exact H | (rw [hy276]; exact H) | exact H
 have Ny276 := Aside0.mk hy276
 clear hy276
 replace H := Option.bind_eq_some_iff.mp H
 obtain ⟨t279, A110, H⟩ := H
 have A11 := Aside0.mk A110
 clear A110
 obtain rfl := Option.some.inj H
 go_enter Try.func8, Try.ntmps8
 try go_wp2_with (first | ((with_reducible refine gate_dst (N := 6) rfl ?_); (try (refine gate_guard (by rfl) ?_; dsimp only)); refine Kd.R_lit k38 _ 38 ?hg (N := 6) ?hd (xs := ([(⟨(⟨(⟨#[116]⟩ : ByteArray), (⟨#[120]⟩ : ByteArray), 0, (⟨#[]⟩ : ByteArray)⟩ : S32), (⟨0, false, 0, (⟨0, 0, (⟨#[]⟩ : ByteArray)⟩ : S34)⟩ : S36)⟩ : S38)] : List (S38))) (inner := [.string (⟨#[116]⟩ : ByteArray), .string (⟨#[120]⟩ : ByteArray), .int .i64 0, .string (⟨#[]⟩ : ByteArray), .int .i64 0, .bool false, .int .i64 0, .int .i64 0, .int .i64 0, .string (⟨#[]⟩ : ByteArray)]) (ok := fun _ => True) (okp := fun _ => True) ?hr ?hp (fun _ hk => hk) trivial (Below.refl _ _) (Nat.le_refl _) (by simp) ?_; (case hd => rfl); (case hg => rfl); (case hr => first | (go_simp; done) | (go_simp; rfl)); (case hp => exact (Reps.c10 (show Kd.M k38 _ _ _ (⟨(⟨(⟨#[116]⟩ : ByteArray), (⟨#[120]⟩ : ByteArray), 0, (⟨#[]⟩ : ByteArray)⟩ : S32), (⟨0, false, 0, (⟨0, 0, (⟨#[]⟩ : ByteArray)⟩ : S34)⟩ : S36)⟩ : S38) [.string (⟨#[116]⟩ : ByteArray), .string (⟨#[120]⟩ : ByteArray), .int .i64 0, .string (⟨#[]⟩ : ByteArray), .int .i64 0, .bool false, .int .i64 0, .int .i64 0, .int .i64 0, .string (⟨#[]⟩ : ByteArray)] from (k38_mkM _ _ _ (⟨(⟨(⟨#[116]⟩ : ByteArray), (⟨#[120]⟩ : ByteArray), 0, (⟨#[]⟩ : ByteArray)⟩ : S32), (⟨0, false, 0, (⟨0, 0, (⟨#[]⟩ : ByteArray)⟩ : S34)⟩ : S36)⟩ : S38) )) (Reps.none _ _))); intro v258 w12 ho13 hb hg_ hnew_; clear hg_ hnew_; (first | rw [← Ny257.out] at ho13 | (simp only [Int.reduceToNat] at ho13; rw [← Ny257.out] at ho13)); have HO259 := Aside0.mk (Kd.R_lower ho13 (bZ_ (kwW HB))); replace HB := Aside0.mk (below_step (kwW HB) hb); clear hb ho13; obtain ⟨Ao14, co14, eo14⟩ := Kd.R_slice HO259.out; subst eo14) | ((with_reducible refine gate_callee (f := 18) rfl ?_); refine goesL_ (some 8) rfl rfl Try.func18 (by kernel_rfl) rfl #[.slice Ao14 y257.length co14, .int .i64 0] rfl (by (try simp only [mT_, mC_, mN_]); first | done | rfl) ?_; (with_reducible refine (tree_Leaves.calls k _ _ y257 0 t260 _ ?side1 ?side2 A1.out).mono ?_); (case side1 => repeat (first | exact (Kd.R_reads' HO259.out).2.2 | (with_reducible refine Kd.C_alloc ?_ _) | (with_reducible refine Kd.C_drewN ?_ _) | (with_reducible refine Kd.C_drew ?_))); (case side2 => exact (Kd.R_reads' HO259.out).2.1); rintro e w15 ⟨v261, rfl, ho0, hb⟩; refine ⟨_, rfl, ?_⟩; replace HO259 := kR HO259 hb; have HO262 := Aside0.mk (Kd.R_lower ho0 (bZ_ (kwW HB))); replace HB := Aside0.mk (below_step (kwW HB) hb); (try clear hb); (try clear hb2); (try clear hk); (try clear hi); (try clear ho0); obtain ⟨Ao16, co16, eo16⟩ := Kd.R_slice HO262.out; subst eo16) | ((with_reducible refine gate_callee (f := 9) rfl ?_); refine goesL_ (some 10) rfl rfl Try.func9 (by kernel_rfl) rfl #[.slice Ao16 t260.length co16] rfl (by (try simp only [mT_, mC_, mN_]); first | done | rfl) ?_; (with_reducible refine (tree_Build.calls _ _ t260 t263 _ ?side1 ?side2 A2.out).mono ?_); (case side1 => repeat (first | exact (Kd.R_reads' HO262.out).2.2 | (with_reducible refine Kd.C_alloc ?_ _) | (with_reducible refine Kd.C_drewN ?_ _) | (with_reducible refine Kd.C_drew ?_))); (case side2 => exact (Kd.R_reads' HO262.out).2.1); rintro e w17 ⟨v264, rfl, ho0, hb⟩; refine ⟨_, rfl, ?_⟩; replace HO259 := kR HO259 hb; have HO265 := Aside0.mk (Kd.R_lower (Kd.R_new' ho0 (Kd.R_lt (krW HO262))) (bZ_ (kwW HB))); replace HO262 := Aside0.mk (Kd.R_elder' (krW HO262) (Kd.R_base ho0) hb); replace HB := Aside0.mk (below_step (kwW HB) hb); (try clear hb); (try clear hb2); (try clear hk); (try clear hi); (try clear ho0)))
 replace HO259 := Aside0.mk (Kd.R_drew HO259.out)
 replace HO262 := Aside0.mk (Kd.R_drew HO262.out)
 replace HO265 := Aside0.mk (Kd.R_drew HO265.out)
 replace HB := Aside0.mk (below_drew1 HB.out)
 have p266 : 0 ≤ (0 : Int) := (by omega)
 have q266 : 0 < (t260.length : Int) := of_decide_eq_true (by first | (with_reducible assumption) | assumption)
 obtain ⟨ad266, e266, hx266_0⟩ := Kd.at_int (Kd.R_reads' HO262.out).2.2 0 p266 q266
 cases e266
 have qi266 : (0 < t260.length) = True := eq_true (by omega)
 (try rw [show ((0 : Int)).toNat = 0 from rfl] at hx266_0)
 (try rw [Addr.add_zero'] at hx266_0)
 replace p266 := eq_true p266
 replace q266 := eq_true q266
 have p268 : 0 ≤ (0 : Int) := (by omega)
 have q268 : 0 < (t260.length : Int) := of_decide_eq_true (by first | (with_reducible assumption) | assumption)
 obtain ⟨ad268, e268, hx268_0⟩ := Kd.at_int (Kd.R_reads' HO262.out).2.2 0 p268 q268
 obtain rfl : ad266 = ad268 := (by injection e268)
 have qi268 : (0 < t260.length) = True := eq_true (by omega)
 (try rw [show ((0 : Int)).toNat = 0 from rfl] at hx268_0)
 (try rw [Addr.add_zero'] at hx268_0)
 replace p268 := eq_true p268
 replace q268 := eq_true q268
 refine start_ (n := 34) (S := fun w' => w'.cell? ad266 = some (.int .u64 (rd t260 0)) ∧ w'.cell? ad266 = some (.int .u64 (rd t260 0))) (ds := []) (tf_ 0 34) (by kernel_rfl) rfl rfl ⟨hx266_0, hx268_0⟩ (fun hHeld => ?_); refine with_tabW skerrylaw22_lives.tab4 skerrylaw22_lives.bits4 (fun HT_ HW_ => ?_)
 generalize w17.drew = w18 at HO259 HO262 HO265 HB hx266_0 hx268_0 hHeld ⊢
 refine pure_ (i := 0) (N := some 11) (v := ?_) (a' := ?_) (tf_ 1 33) rfl rfl (any_of HT_.out (by kernel_rfl)) (fun _ _ _ h => h) (Or.inl ⟨by rfl, ?_⟩) ?_ ?_
 rotate_left; · (intro w'; go_simp; with_reducible rfl)
 rotate_left; · (simp only [Act.put, sT_, sO_, sN_, i64_w, i32_w]; rfl)
 refine pure_ (i := 1) (N := some 12) (v := ?_) (a' := ?_) (tf_ 2 32) rfl rfl (any_of HT_.out (by kernel_rfl)) (fun _ _ _ h => h) (Or.inl ⟨by rfl, ?_⟩) ?_ ?_
 rotate_left; · (intro w'; go_simp; with_reducible rfl)
 rotate_left; · (simp only [Act.put, sT_, sO_, sN_, i64_w, i32_w]; rfl)
 refine pure_ (i := 2) (N := some 13) (v := ?_) (a' := ?_) (tf_ 3 31) rfl rfl (any_of HT_.out (by kernel_rfl)) (fun _ _ _ h => h) (Or.inl ⟨by rfl, ?_⟩) ?_ ?_
 rotate_left; · (intro w'; go_simp; with_reducible rfl)
 rotate_left; · (simp only [Act.put, sT_, sO_, sN_, i64_w, i32_w]; rfl)
 refine pure_ (i := 3) (N := some 14) (v := ?_) (a' := ?_) (tf_ 4 30) rfl rfl (any_of HT_.out (by kernel_rfl)) (fun _ _ _ h => h) (Or.inl ⟨by rfl, ?_⟩) ?_ ?_
 rotate_left; · (intro w'; go_simp; with_reducible rfl)
 rotate_left; · (simp only [Act.put, sT_, sO_, sN_, i64_w, i32_w]; rfl)
 refine pure_ (i := 4) (N := some 15) (v := ?_) (a' := ?_) (tf_ 5 29) rfl rfl (any_of HT_.out (by kernel_rfl)) (fun _ _ _ h => h) (Or.inl ⟨by rfl, ?_⟩) ?_ ?_
 rotate_left; · (intro w'; go_simp; with_reducible rfl)
 rotate_left; · (simp only [Act.put, sT_, sO_, sN_, i64_w, i32_w]; rfl)
 refine pure_ (i := 5) (N := some 16) (v := ?_) (a' := ?_) (tf_ 6 28) rfl rfl (any_of HT_.out (by kernel_rfl)) (fun _ _ _ h => h) (Or.inl ⟨by rfl, ?_⟩) ?_ ?_
 rotate_left; · (intro w'; go_simp; with_reducible rfl)
 rotate_left; · (simp only [Act.put, sT_, sO_, sN_, i64_w, i32_w]; rfl)
 refine pure_ (i := 7) (N := some 18) (v := ?_) (a' := ?_) (tb_ 191 34) rfl rfl (any_of HT_.out (by kernel_rfl)) (fun _ _ _ h => h) (Or.inl ⟨by rfl, ?_⟩) ?_ ?_
 rotate_left; · (intro w'; go_simp; with_reducible rfl)
 rotate_left; · (simp only [Act.put, sT_, sO_, sN_, i64_w, i32_w]; rfl)
 refine take_ (i := 6) (N := some 17) (v := ?_) (a' := ?_) (tf_ 8 26) rfl rfl (take_ofW HT_.out HW_.out (by kernel_rfl)) (fun _ _ _ h => h) (Or.inl ⟨by rfl, ?_⟩) hHeld ?_ ?_
 rotate_left; · (rintro w' ⟨s0, s1⟩; go_simp; with_reducible rfl)
 rotate_left; · (simp only [Act.put, sT_, sO_, sN_, i64_w, i32_w]; rfl)
 refine one_ (i := 8) (N := some 19) (tf_ 9 25) rfl rfl (one_of HT_.out (by kernel_rfl)) (by decide) (fun K hK => ?_)
 refine goes_ Try.func28 (by kernel_rfl) rfl #[.slice Ao14 y257.length co14] (by rfl) rfl rfl (by (try simp only [mT_, mC_, mN_]); first | done | rfl) ?_
 with_reducible refine (cell_Digest.calls k _ _ y257 t267 _ ?side1 ?side2 A5.out).mono ?_
 (case side1 => repeat (first | exact (Kd.R_reads' HO259.out).2.2 | (with_reducible refine Kd.C_alloc ?_ _) | (with_reducible refine Kd.C_drewN ?_ _) | (with_reducible refine Kd.C_drew ?_)))
 (case side2 => exact (Kd.R_reads' HO259.out).2.1)
 rintro e w19 ⟨rfl, hb⟩
 have HS0_ := (hb.cell (World.block_lt_of_cell? _ _ (hHeld.1))).trans (hHeld.1)
 have HS1_ := (hb.cell (World.block_lt_of_cell? _ _ (hHeld.2))).trans (hHeld.2)
 refine ⟨_, rfl, ?_⟩
 replace HO259 := kR HO259 hb
 replace HO262 := kR HO262 hb
 replace HO265 := kR HO265 hb
 replace HB := Aside0.mk (below_step (kwW HB) hb)
 (try clear hb)
 (try clear hb2)
 (try clear hk)
 (try clear hi)
 refine hK.out _ _ ⟨HS0_, HS1_⟩ (fun hHeld => ?_)
 clear hK K
 refine norm_ (a' := ?_) ?_ ?_
 rotate_left
 ·
  show Act.put _ (some 19) _ = _
  simp only [Act.put, sT_, sO_, sN_, i64_w, i32_w]
  rfl
 refine pure_ (i := 9) (N := some 20) (v := ?_) (a' := ?_) (tf_ 10 24) rfl rfl (any_of HT_.out (by kernel_rfl)) (fun _ _ _ h => h) (Or.inl ⟨by rfl, ?_⟩) ?_ ?_
 rotate_left; · (intro w'; go_simp; with_reducible rfl)
 rotate_left; · (simp only [Act.put, sT_, sO_, sN_, i64_w, i32_w]; rfl)
 refine pure_ (i := 10) (N := some 21) (v := ?_) (a' := ?_) (tf_ 11 23) rfl rfl (any_of HT_.out (by kernel_rfl)) (fun _ _ _ h => h) (Or.inl ⟨by rfl, ?_⟩) ?_ ?_
 rotate_left; · (intro w'; go_simp; with_reducible rfl)
 rotate_left; · (simp only [Act.put, sT_, sO_, sN_, i64_w, i32_w]; rfl)
 refine pure_ (i := 11) (N := some 22) (v := ?_) (a' := ?_) (tf_ 12 22) rfl rfl (any_of HT_.out (by kernel_rfl)) (fun _ _ _ h => h) (Or.inl ⟨by rfl, ?_⟩) ?_ ?_
 rotate_left; · (intro w'; go_simp; with_reducible rfl)
 rotate_left; · (simp only [Act.put, sT_, sO_, sN_, i64_w, i32_w]; rfl)
 refine pure_ (i := 12) (N := some 23) (v := ?_) (a' := ?_) (tf_ 13 21) rfl rfl (any_of HT_.out (by kernel_rfl)) (fun _ _ _ h => h) (Or.inl ⟨by rfl, ?_⟩) ?_ ?_
 rotate_left; · (intro w'; go_simp; with_reducible rfl)
 rotate_left; · (simp only [Act.put, sT_, sO_, sN_, i64_w, i32_w]; rfl)
 refine pure_ (i := 13) (N := some 24) (v := ?_) (a' := ?_) (tf_ 14 20) rfl rfl (any_of HT_.out (by kernel_rfl)) (fun _ _ _ h => h) (Or.inl ⟨by rfl, ?_⟩) ?_ ?_
 rotate_left; · (intro w'; go_simp; with_reducible rfl)
 rotate_left; · (simp only [Act.put, sT_, sO_, sN_, i64_w, i32_w]; rfl)
 refine pure_ (i := 14) (N := some 25) (v := ?_) (a' := ?_) (tf_ 15 19) rfl rfl (any_of HT_.out (by kernel_rfl)) (fun _ _ _ h => h) (Or.inl ⟨by rfl, ?_⟩) ?_ ?_
 rotate_left; · (intro w'; go_simp; with_reducible rfl)
 rotate_left; · (simp only [Act.put, sT_, sO_, sN_, i64_w, i32_w]; rfl)
 refine take_ (i := 15) (N := some 26) (v := ?_) (a' := ?_) (tf_ 16 18) rfl rfl (take_ofW HT_.out HW_.out (by kernel_rfl)) (fun _ _ _ h => h) (Or.inl ⟨by rfl, ?_⟩) hHeld ?_ ?_
 rotate_left; · (rintro w' ⟨s0, s1⟩; go_simp; with_reducible rfl)
 rotate_left; · (simp only [Act.put, sT_, sO_, sN_, i64_w, i32_w]; rfl)
 refine one_ (i := 16) (N := some 27) (tf_ 17 17) rfl rfl (one_of HT_.out (by kernel_rfl)) (by decide) (fun K hK => ?_)
 refine Kd.R_lit_step (Kd.int .u64) _ 50 ?hg (N := 27) ?hd (xs := ([0, rd t260 0] : List Int)) (inner := [.int .u64 0, .int .u64 (rd t260 0)]) (ok := fun _ => True) (okp := fun _ => True) ?hr ?hp (fun _ hk => hk) trivial (Below.refl _ _) (Nat.le_refl _) (by simp) ?_; (case hd => rfl); (case hg => rfl); (case hr => first | (go_simp; done) | (go_simp; rfl)); (case hp => exact (Reps.one (show Kd.M (Kd.int .u64) _ _ _ 0 [.int .u64 0] from rfl) (Reps.one (show Kd.M (Kd.int .u64) _ _ _ (rd t260 0) [.int .u64 (rd t260 0)] from rfl) (Reps.none _ _))))
 intro v270 w20 ho21 hb hg_ hnew_
 have HS0_ := (hb.cell (World.block_lt_of_cell? _ _ (hHeld.1))).trans (hHeld.1)
 have HS1_ := (hb.cell (World.block_lt_of_cell? _ _ (hHeld.2))).trans (hHeld.2)
 clear hg_ hnew_
 (first | rw [← Ny269.out] at ho21 | (simp only [Int.reduceToNat] at ho21; rw [← Ny269.out] at ho21))
 replace HO259 := kR HO259 hb
 have HO271 := Aside0.mk (Kd.R_lower (Kd.R_new' (Kd.R_new' ho21 (Kd.R_lt (krW HO262))) (Kd.R_lt (krW HO265))) (bZ_ (kwW HB)))
 replace HO262 := Aside0.mk (Kd.R_elder' (krW HO262) (Kd.R_base ho21) hb)
 replace HO265 := Aside0.mk (Kd.R_elder' (krW HO265) (Kd.R_base ho21) hb)
 replace HB := Aside0.mk (below_step (kwW HB) hb)
 clear hb ho21
 obtain ⟨Ao22, co22, eo22⟩ := Kd.R_slice HO265.out
 (first | subst eo22 | (injection eo22 with f1_ f2_ f3_; have f4_ := f1_.symm; have f5_ := f3_.symm; clear f1_ f2_ f3_; subst f4_; subst f5_))
 obtain ⟨Ao23, co23, eo23⟩ := Kd.R_slice HO271.out
 (first | subst eo23 | (injection eo23 with f1_ f2_ f3_; have f4_ := f1_.symm; have f5_ := f3_.symm; clear f1_ f2_ f3_; subst f4_; subst f5_))
 refine hK.out _ _ ⟨HS0_, HS1_⟩ (fun hHeld => ?_)
 clear hK K
 refine norm_ (a' := ?_) ?_ ?_
 rotate_left
 ·
  show Act.put _ (some 27) _ = _
  simp only [Act.put, sT_, sO_, sN_, i64_w, i32_w]
  rfl
 refine one_ (i := 17) (N := some 28) (tf_ 18 16) rfl rfl (one_of HT_.out (by kernel_rfl)) (by decide) (fun K hK => ?_)
 refine goes_ Try.func10 (by kernel_rfl) rfl #[.slice Ao22 t263.length co22, .slice Ao23 y269.length co23] (by rfl) rfl rfl (by (try simp only [mT_, mC_, mN_]); first | done | rfl) ?_
 with_reducible refine (skerryref01_Words.calls k _ _ t263 _ _ y269 true _ ?side1 ?side2 ?side3 ?side4 A7.out).mono ?_
 (case side1 => repeat (first | exact (Kd.R_reads' HO265.out).2.2 | (with_reducible refine Kd.C_alloc ?_ _) | (with_reducible refine Kd.C_drewN ?_ _) | (with_reducible refine Kd.C_drew ?_)))
 (case side2 => exact (Kd.R_reads' HO265.out).2.1)
 (case side3 => repeat (first | exact (Kd.R_reads' HO271.out).2.2 | (with_reducible refine Kd.C_alloc ?_ _) | (with_reducible refine Kd.C_drewN ?_ _) | (with_reducible refine Kd.C_drew ?_)))
 (case side4 => exact (Kd.R_reads' HO271.out).2.1)
 rintro e w' ⟨rfl, ⟨nd, rfl⟩⟩
 refine ⟨_, rfl, ?_⟩
 refine hK.out _ _ ⟨hHeld.1, hHeld.2⟩ (fun hHeld => ?_)
 clear hK K
 refine norm_ (a' := ?_) ?_ ?_
 rotate_left
 ·
  show Act.put _ (some 28) _ = _
  simp only [Act.put, sT_, sO_, sN_, i64_w, i32_w]
  rfl
 refine pure_ (i := 18) (N := some 29) (v := ?_) (a' := ?_) (tf_ 19 15) rfl rfl (any_of HT_.out (by kernel_rfl)) (fun _ _ _ h => h) (Or.inl ⟨by rfl, ?_⟩) ?_ ?_
 rotate_left; · (intro w'; go_simp; with_reducible rfl)
 rotate_left; · (simp only [Act.put, sT_, sO_, sN_, i64_w, i32_w]; rfl)
 refine pure_ (i := 19) (N := some 30) (v := ?_) (a' := ?_) (tf_ 20 14) rfl rfl (any_of HT_.out (by kernel_rfl)) (fun _ _ _ h => h) (Or.inl ⟨by rfl, ?_⟩) ?_ ?_
 rotate_left; · (intro w'; go_simp; with_reducible rfl)
 rotate_left; · (simp only [Act.put, sT_, sO_, sN_, i64_w, i32_w]; rfl)
 refine pure_ (i := 20) (N := some 31) (v := ?_) (a' := ?_) (tf_ 21 13) rfl rfl (any_of HT_.out (by kernel_rfl)) (fun _ _ _ h => h) (Or.inl ⟨by rfl, ?_⟩) ?_ ?_
 rotate_left; · (intro w'; go_simp; with_reducible rfl)
 rotate_left; · (simp only [Act.put, sT_, sO_, sN_, i64_w, i32_w]; rfl)
 refine pure_ (i := 21) (N := some 32) (v := ?_) (a' := ?_) (tf_ 22 12) rfl rfl (any_of HT_.out (by kernel_rfl)) (fun _ _ _ h => h) (Or.inl ⟨by rfl, ?_⟩) ?_ ?_
 rotate_left; · (intro w'; go_simp; with_reducible rfl)
 rotate_left; · (simp only [Act.put, sT_, sO_, sN_, i64_w, i32_w]; rfl)
 refine one_ (i := 22) (N := some 33) (tf_ 23 11) rfl rfl (one_of HT_.out (by kernel_rfl)) (by decide) (fun K hK => ?_)
 refine goes_ Try.func13 (by kernel_rfl) rfl #[.slice Ao22 t263.length co22, .slice Ao22 t263.length co22] (by rfl) rfl rfl (by (try simp only [mT_, mC_, mN_]); first | done | rfl) ?_
 with_reducible refine (tree_Diff.calls _ _ t263 _ _ t263 t273 _ ?side1 ?side2 ?side3 ?side4 A9.out).mono ?_
 (case side1 => repeat (first | exact (Kd.R_reads' HO265.out).2.2 | (with_reducible refine Kd.C_alloc ?_ _) | (with_reducible refine Kd.C_drewN ?_ _) | (with_reducible refine Kd.C_drew ?_)))
 (case side2 => exact (Kd.R_reads' HO265.out).2.1)
 (case side3 => repeat (first | exact (Kd.R_reads' HO265.out).2.2 | (with_reducible refine Kd.C_alloc ?_ _) | (with_reducible refine Kd.C_drewN ?_ _) | (with_reducible refine Kd.C_drew ?_)))
 (case side4 => exact (Kd.R_reads' HO265.out).2.1)
 rintro e w24 ⟨v274, rfl, ho0, hb⟩
 have HS0_ := (hb.cell (World.block_lt_of_cell? _ _ (hHeld.1))).trans (hHeld.1)
 have HS1_ := (hb.cell (World.block_lt_of_cell? _ _ (hHeld.2))).trans (hHeld.2)
 refine ⟨_, rfl, ?_⟩
 replace HO259 := kR HO259 hb
 replace HO262 := kR HO262 hb
 replace HO265 := kR HO265 hb
 replace HO271 := kR HO271 hb
 have HO275 := Aside0.mk (Kd.R_lower ho0 (bZ_ (kwW HB)))
 replace HB := Aside0.mk (below_step (kwW HB) hb)
 (try clear hb)
 (try clear hb2)
 (try clear hk)
 (try clear hi)
 (try clear ho0)
 obtain ⟨Ao25, co25, eo25⟩ := Kd.R_slice HO275.out
 (first | subst eo25 | (injection eo25 with f1_ f2_ f3_; have f4_ := f1_.symm; have f5_ := f3_.symm; clear f1_ f2_ f3_; subst f4_; subst f5_))
 refine hK.out _ _ ⟨HS0_, HS1_⟩ (fun hHeld => ?_)
 clear hK K
 refine norm_ (a' := ?_) ?_ ?_
 rotate_left
 ·
  show Act.put _ (some 33) _ = _
  simp only [Act.put, sT_, sO_, sN_, i64_w, i32_w]
  rfl
 refine pure_ (i := 23) (N := some 34) (v := ?_) (a' := ?_) (tf_ 24 10) rfl rfl (any_of HT_.out (by kernel_rfl)) (fun _ _ _ h => h) (Or.inl ⟨by rfl, ?_⟩) ?_ ?_
 rotate_left; · (intro w'; go_simp; with_reducible rfl)
 rotate_left; · (simp only [Act.put, sT_, sO_, sN_, i64_w, i32_w]; rfl)
 refine pure_ (i := 24) (N := some 35) (v := ?_) (a' := ?_) (tf_ 25 9) rfl rfl (any_of HT_.out (by kernel_rfl)) (fun _ _ _ h => h) (Or.inl ⟨by rfl, ?_⟩) ?_ ?_
 rotate_left; · (intro w'; go_simp; with_reducible rfl)
 rotate_left; · (simp only [Act.put, sT_, sO_, sN_, i64_w, i32_w]; rfl)
 refine pure_ (i := 25) (N := some 36) (v := ?_) (a' := ?_) (tf_ 26 8) rfl rfl (any_of HT_.out (by kernel_rfl)) (fun _ _ _ h => h) (Or.inl ⟨by rfl, ?_⟩) ?_ ?_
 rotate_left; · (intro w'; go_simp; with_reducible rfl)
 rotate_left; · (simp only [Act.put, sT_, sO_, sN_, i64_w, i32_w]; rfl)
 refine pure_ (i := 26) (N := some 37) (v := ?_) (a' := ?_) (tf_ 27 7) rfl rfl (any_of HT_.out (by kernel_rfl)) (fun _ _ _ h => h) (Or.inl ⟨by rfl, ?_⟩) ?_ ?_
 rotate_left; · (intro w'; go_simp; with_reducible rfl)
 rotate_left; · (simp only [Act.put, sT_, sO_, sN_, i64_w, i32_w]; rfl)
 refine pure_ (i := 27) (N := some 38) (v := ?_) (a' := ?_) (tf_ 28 6) rfl rfl (any_of HT_.out (by kernel_rfl)) (fun _ _ _ h => h) (Or.inl ⟨by rfl, ?_⟩) ?_ ?_
 rotate_left; · (intro w'; go_simp; with_reducible rfl)
 rotate_left; · (simp only [Act.put, sT_, sO_, sN_, i64_w, i32_w]; rfl)
 refine one_ (i := 28) (N := some 39) (tf_ 29 5) rfl rfl (one_of HT_.out (by kernel_rfl)) (by decide) (fun K hK => ?_)
 refine Kd.R_lit_step (Kd.int .u64) _ 50 ?hg (N := 39) ?hd (xs := ([0, 0] : List Int)) (inner := [.int .u64 0, .int .u64 0]) (ok := fun _ => True) (okp := fun _ => True) ?hr ?hp (fun _ hk => hk) trivial (Below.refl _ _) (Nat.le_refl _) (by simp) ?_; (case hd => rfl); (case hg => rfl); (case hr => first | (go_simp; done) | (go_simp; rfl)); (case hp => exact (Reps.one (show Kd.M (Kd.int .u64) _ _ _ 0 [.int .u64 0] from rfl) (Reps.one (show Kd.M (Kd.int .u64) _ _ _ 0 [.int .u64 0] from rfl) (Reps.none _ _))))
 intro v277 w26 ho27 hb hg_ hnew_
 have HS0_ := (hb.cell (World.block_lt_of_cell? _ _ (hHeld.1))).trans (hHeld.1)
 have HS1_ := (hb.cell (World.block_lt_of_cell? _ _ (hHeld.2))).trans (hHeld.2)
 clear hg_ hnew_
 (first | rw [← Ny276.out] at ho27 | (simp only [Int.reduceToNat] at ho27; rw [← Ny276.out] at ho27))
 replace HO259 := kR HO259 hb
 replace HO275 := kR HO275 hb
 have HO278 := Aside0.mk (Kd.R_lower (Kd.R_new' (Kd.R_new' (Kd.R_new' ho27 (Kd.R_lt (krW HO262))) (Kd.R_lt (krW HO265))) (Kd.R_lt (krW HO271))) (bZ_ (kwW HB)))
 replace HO262 := Aside0.mk (Kd.R_elder' (krW HO262) (Kd.R_base ho27) hb)
 replace HO265 := Aside0.mk (Kd.R_elder' (krW HO265) (Kd.R_base ho27) hb)
 replace HO271 := Aside0.mk (Kd.R_elder' (krW HO271) (Kd.R_base ho27) hb)
 replace HB := Aside0.mk (below_step (kwW HB) hb)
 clear hb ho27
 obtain ⟨Ao28, co28, eo28⟩ := Kd.R_slice HO278.out
 (first | subst eo28 | (injection eo28 with f1_ f2_ f3_; have f4_ := f1_.symm; have f5_ := f3_.symm; clear f1_ f2_ f3_; subst f4_; subst f5_))
 refine hK.out _ _ ⟨HS0_, HS1_⟩ (fun hHeld => ?_)
 clear hK K
 refine norm_ (a' := ?_) ?_ ?_
 rotate_left
 ·
  show Act.put _ (some 39) _ = _
  simp only [Act.put, sT_, sO_, sN_, i64_w, i32_w]
  rfl
 refine one_ (i := 29) (N := some 40) (tf_ 30 4) rfl rfl (one_of HT_.out (by kernel_rfl)) (by decide) (fun K hK => ?_)
 refine goes_ Try.func13 (by kernel_rfl) rfl #[.slice Ao22 t263.length co22, .slice Ao28 y276.length co28] (by rfl) rfl rfl (by (try simp only [mT_, mC_, mN_]); first | done | rfl) ?_
 with_reducible refine (tree_Diff.calls _ _ t263 _ _ y276 t279 _ ?side1 ?side2 ?side3 ?side4 A11.out).mono ?_
 (case side1 => repeat (first | exact (Kd.R_reads' HO265.out).2.2 | (with_reducible refine Kd.C_alloc ?_ _) | (with_reducible refine Kd.C_drewN ?_ _) | (with_reducible refine Kd.C_drew ?_)))
 (case side2 => exact (Kd.R_reads' HO265.out).2.1)
 (case side3 => repeat (first | exact (Kd.R_reads' HO278.out).2.2 | (with_reducible refine Kd.C_alloc ?_ _) | (with_reducible refine Kd.C_drewN ?_ _) | (with_reducible refine Kd.C_drew ?_)))
 (case side4 => exact (Kd.R_reads' HO278.out).2.1)
 rintro e w29 ⟨v280, rfl, ho0, hb⟩
 have HS0_ := (hb.cell (World.block_lt_of_cell? _ _ (hHeld.1))).trans (hHeld.1)
 have HS1_ := (hb.cell (World.block_lt_of_cell? _ _ (hHeld.2))).trans (hHeld.2)
 refine ⟨_, rfl, ?_⟩
 replace HO259 := kR HO259 hb
 replace HO262 := kR HO262 hb
 replace HO265 := kR HO265 hb
 replace HO271 := kR HO271 hb
 replace HO278 := kR HO278 hb
 have HO281 := Aside0.mk (Kd.R_lower (Kd.R_new' ho0 (Kd.R_lt (krW HO275))) (bZ_ (kwW HB)))
 replace HO275 := Aside0.mk (Kd.R_elder' (krW HO275) (Kd.R_base ho0) hb)
 replace HB := Aside0.mk (below_step (kwW HB) hb)
 (try clear hb)
 (try clear hb2)
 (try clear hk)
 (try clear hi)
 (try clear ho0)
 obtain ⟨Ao30, co30, eo30⟩ := Kd.R_slice HO281.out
 (first | subst eo30 | (injection eo30 with f1_ f2_ f3_; have f4_ := f1_.symm; have f5_ := f3_.symm; clear f1_ f2_ f3_; subst f4_; subst f5_))
 refine hK.out _ _ ⟨HS0_, HS1_⟩ (fun hHeld => ?_)
 clear hK K
 refine norm_ (a' := ?_) ?_ ?_
 rotate_left
 ·
  show Act.put _ (some 40) _ = _
  simp only [Act.put, sT_, sO_, sN_, i64_w, i32_w]
  rfl
 refine pure_ (i := 30) (N := some 41) (v := ?_) (a' := ?_) (tf_ 31 3) rfl rfl (any_of HT_.out (by kernel_rfl)) (fun _ _ _ h => h) (Or.inl ⟨by rfl, ?_⟩) ?_ ?_
 rotate_left; · (intro w'; go_simp; with_reducible rfl)
 rotate_left; · (simp only [Act.put, sT_, sO_, sN_, i64_w, i32_w]; rfl)
 refine pure_ (i := 31) (N := some 42) (v := ?_) (a' := ?_) (tf_ 32 2) rfl rfl (any_of HT_.out (by kernel_rfl)) (fun _ _ _ h => h) (Or.inl ⟨by rfl, ?_⟩) ?_ ?_
 rotate_left; · (intro w'; go_simp; with_reducible rfl)
 rotate_left; · (simp only [Act.put, sT_, sO_, sN_, i64_w, i32_w]; rfl)
 refine pure_ (i := 32) (N := some 43) (v := ?_) (a' := ?_) (tf_ 33 1) rfl rfl (any_of HT_.out (by kernel_rfl)) (fun _ _ _ h => h) (Or.inl ⟨by rfl, ?_⟩) ?_ ?_
 rotate_left; · (intro w'; go_simp; with_reducible rfl)
 rotate_left; · (simp only [Act.put, sT_, sO_, sN_, i64_w, i32_w]; rfl)
 refine pure_ (i := 33) (N := some 0) (v := ?_) (a' := ?_) (tf_ 34 0) rfl rfl (any_of HT_.out (by kernel_rfl)) (fun _ _ _ h => h) (Or.inl ⟨by rfl, ?_⟩) ?_ ?_
 rotate_left; · (intro w'; go_simp; with_reducible rfl)
 rotate_left; · (simp only [Act.put, sT_, sO_, sN_, i64_w, i32_w]; rfl)
 refine done_ (done_of HT_.out (by kernel_rfl)) ?_
 try go_wp2
 go_ret
 exact ⟨by first | rfl | (simp <;> rfl) | (simp [*] <;> rfl), kwW HB⟩
end Go.Proofs.Ytafhnjlihhfoaaa.Q
