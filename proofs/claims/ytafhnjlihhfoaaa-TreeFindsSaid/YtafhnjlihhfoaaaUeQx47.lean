/- Lemmas for this claim's walk: no condition of their own. -/
import Derived.Test.YtafhnjlihhfoaaaUeJ13
import Derived.Test.YtafhnjlihhfoaaaUeQx0
import Derived.Test.YtafhnjlihhfoaaaUeQx35
import Derived.Test.YtafhnjlihhfoaaaUeQx38
import Derived.Test.YtafhnjlihhfoaaaUeJ15
import Derived.Test.YtafhnjlihhfoaaaUeQx43
namespace Go.Proofs.Ytafhnjlihhfoaaa.Q
open Go.RowKit Go.Proofs.YtafhnjlihhfoaaaW.PrintWords Go.Proofs.YtafhnjlihhfoaaaW.PrintLast Go.Proofs.YtafhnjlihhfoaaaW.PrintMore
attribute [local go_sem] max2_int min2_int max_two min_two max_three min_three max_four min_four
set_option linter.unusedVariables false
set_option linter.unusedSimpArgs false
def skerrylaw22_clash.l0 : Nat → List (S38) → List (S38) → Int → List Int → List Int → Int → Int → Option (Bool)
 | 0, _, _, _, _, _, _, _ => none
 | k + 1, x0, x1, x2, x7, x8, x9, x10 => if x10 < (x7.length : Int) then (if x10 ≥ x9 then ((skerryref22_Pick.f k x0 x2 (([wrap64 (x10 - x9)] : List Int))).bind fun t461 => ((skerryref22_Pick.f k x1 x2 (([wrap64 (x10 - x9)] : List Int))).bind fun t467 => ((skerryref01_Like.f k t461 t467).bind fun t470 => (if t470 = true then (skerrylaw22_clash.l0 k x0 x1 x2 x7 x8 x9 (wrap64 (x10 + 1))) else (if 0 ≤ x10 then (if x10 < (x8.length : Int) then (if (rd x7 x10) = (rd x8 x10) then (some true) else (skerrylaw22_clash.l0 k x0 x1 x2 x7 x8 x9 (wrap64 (x10 + 1)))) else (none)) else (none)))))) else (if 0 ≤ (wrap64 (2 * x10)) then (if (wrap64 (2 * x10)) < (x7.length : Int) then (if (wrap64 (2 * x10)) < (x8.length : Int) then (if (rd x7 (wrap64 (2 * x10))) = (rd x8 (wrap64 (2 * x10))) then (if 0 ≤ (wrap64 ((wrap64 (2 * x10)) + 1)) then (if (wrap64 ((wrap64 (2 * x10)) + 1)) < (x7.length : Int) then (if (wrap64 ((wrap64 (2 * x10)) + 1)) < (x8.length : Int) then (if ((rd x7 (wrap64 ((wrap64 (2 * x10)) + 1))) = (rd x8 (wrap64 ((wrap64 (2 * x10)) + 1)))) then (skerrylaw22_clash.l0 k x0 x1 x2 x7 x8 x9 (wrap64 (x10 + 1))) else (if 0 ≤ x10 then (if x10 < (x8.length : Int) then (if (rd x7 x10) = (rd x8 x10) then (some true) else (skerrylaw22_clash.l0 k x0 x1 x2 x7 x8 x9 (wrap64 (x10 + 1)))) else (none)) else (none))) else (none)) else (none)) else (none)) else (if 0 ≤ x10 then (if x10 < (x8.length : Int) then (if (rd x7 x10) = (rd x8 x10) then (some true) else (skerrylaw22_clash.l0 k x0 x1 x2 x7 x8 x9 (wrap64 (x10 + 1)))) else (none)) else (none))) else (none)) else (none)) else (none))) else (some false)
def skerrylaw22_clash.f (k : Nat) (l0 : List (S38)) (l1 : List (S38)) (a2 : Int) : Option (Bool) := (skerryref22_Leaves.f k l0 a2).bind fun t446 => ((skerryref22_Build.f k t446).bind fun t449 => ((skerryref22_Leaves.f k l1 a2).bind fun t452 => ((skerryref22_Build.f k t452).bind fun t455 => (skerrylaw22_clash.l0 k l0 l1 a2 t449 t455 (wrap64 ((t449.length : Int) / 2)) 1))))
set_option maxHeartbeats 8000000 in
set_option maxRecDepth 100000 in
theorem skerrylaw22_clash.calls (k : Nat) (A0 : Option Addr) (c0 : Nat) (l0 : List (S38)) (A1 : Option Addr) (c1 : Nat) (l1 : List (S38)) (a2 : Int) (r : Bool) (w : World) (hr0 : Kd.C k38 w A0 l0.length l0) (hc0 : l0.length ≤ c0) (hr1 : Kd.C k38 w A1 l1.length l1) (hc1 : l1.length ≤ c1) (h : skerrylaw22_clash.f k l0 l1 a2 = some r) :
  Calls Try.prog 23 #[.slice A0 l0.length c0, .slice A1 l1.length c1, .int .i64 a2] w fun e w' => e = .returned (.bool r) ∧ Below w.heap.size w w' := by
 have HR0 := Aside0.mk hr0
 have HC0 := Aside0.mk hc0
 clear hr0 hc0
 have HR1 := Aside0.mk hr1
 have HC1 := Aside0.mk hc1
 clear hr1 hc1
 have HB := Aside0.mk (Below.refl w.heap.size w)
 have H : ((skerryref22_Leaves.f k l0 a2).bind fun t446 => ((skerryref22_Build.f k t446).bind fun t449 => ((skerryref22_Leaves.f k l1 a2).bind fun t452 => ((skerryref22_Build.f k t452).bind fun t455 => (skerrylaw22_clash.l0 k l0 l1 a2 t449 t455 (wrap64 ((t449.length : Int) / 2)) 1))))) = some r := h
 clear h
 replace H := Option.bind_eq_some_iff.mp H
 obtain ⟨t446, A40, H⟩ := H
 have A4 := Aside0.mk A40
 clear A40
 replace H := Option.bind_eq_some_iff.mp H
 obtain ⟨t449, A50, H⟩ := H
 have A5 := Aside0.mk A50
 clear A50
 replace H := Option.bind_eq_some_iff.mp H
 obtain ⟨t452, A60, H⟩ := H
 have A6 := Aside0.mk A60
 clear A60
 replace H := Option.bind_eq_some_iff.mp H
 obtain ⟨t455, A70, H⟩ := H
 have A7 := Aside0.mk A70
 clear A70
 have H' := Aside0.mk H
 clear H
 go_enter Try.func23, Try.ntmps23
 go_wp2_with (first | (go_at_call 19; (with_reducible refine (skerryref22_Leaves.calls k _ _ l0 a2 t446 _ ?side1 ?side2 A4.out).mono ?_); (case side1 => repeat (first | exact HR0.out | (with_reducible refine Kd.C_alloc ?_ _) | (with_reducible refine Kd.C_drewN ?_ _) | (with_reducible refine Kd.C_drew ?_))); (case side2 => exact HC0.out); rintro e w8 ⟨v447, rfl, ho0, hb⟩; have HO448 := Aside0.mk (Kd.R_lower ho0 (bZ_ (kwW HB))); replace HB := Aside0.mk (below_step (kwW HB) hb); (try clear hb); (try clear hb2); (try clear hk); (try clear hi); (try clear ho0); obtain ⟨Ao9, co9, eo9⟩ := Kd.R_slice HO448.out; subst eo9) | (go_at_call 11; (with_reducible refine (skerryref22_Build.calls k _ _ t446 t449 _ ?side1 ?side2 A5.out).mono ?_); (case side1 => repeat (first | exact (Kd.R_reads' HO448.out).2.2 | (with_reducible refine Kd.C_alloc ?_ _) | (with_reducible refine Kd.C_drewN ?_ _) | (with_reducible refine Kd.C_drew ?_))); (case side2 => exact (Kd.R_reads' HO448.out).2.1); rintro e w10 ⟨v450, rfl, ho0, hb⟩; have HO451 := Aside0.mk (Kd.R_lower (Kd.R_new' ho0 (Kd.R_lt (krW HO448))) (bZ_ (kwW HB))); replace HO448 := Aside0.mk (Kd.R_elder' (krW HO448) (Kd.R_base ho0) hb); replace HB := Aside0.mk (below_step (kwW HB) hb); (try clear hb); (try clear hb2); (try clear hk); (try clear hi); (try clear ho0)) | (go_at_call 19; (with_reducible refine (skerryref22_Leaves.calls k _ _ l1 a2 t452 _ ?side1 ?side2 A6.out).mono ?_); (case side1 => repeat (first | exact (Kd.C_below HR1.out HB.out) | (with_reducible refine Kd.C_alloc ?_ _) | (with_reducible refine Kd.C_drewN ?_ _) | (with_reducible refine Kd.C_drew ?_))); (case side2 => exact HC1.out); rintro e w11 ⟨v453, rfl, ho0, hb⟩; have HO454 := Aside0.mk (Kd.R_lower (Kd.R_new' (Kd.R_new' ho0 (Kd.R_lt (krW HO448))) (Kd.R_lt (krW HO451))) (bZ_ (kwW HB))); replace HO448 := Aside0.mk (Kd.R_elder' (krW HO448) (Kd.R_base ho0) hb); replace HO451 := Aside0.mk (Kd.R_elder' (krW HO451) (Kd.R_base ho0) hb); replace HB := Aside0.mk (below_step (kwW HB) hb); (try clear hb); (try clear hb2); (try clear hk); (try clear hi); (try clear ho0); obtain ⟨Ao12, co12, eo12⟩ := Kd.R_slice HO454.out; subst eo12) | (go_at_call 11; (with_reducible refine (skerryref22_Build.calls k _ _ t452 t455 _ ?side1 ?side2 A7.out).mono ?_); (case side1 => repeat (first | exact (Kd.R_reads' HO454.out).2.2 | (with_reducible refine Kd.C_alloc ?_ _) | (with_reducible refine Kd.C_drewN ?_ _) | (with_reducible refine Kd.C_drew ?_))); (case side2 => exact (Kd.R_reads' HO454.out).2.1); rintro e w13 ⟨v456, rfl, ho0, hb⟩; have HO457 := Aside0.mk (Kd.R_lower (Kd.R_new' (Kd.R_new' (Kd.R_new' ho0 (Kd.R_lt (krW HO448))) (Kd.R_lt (krW HO451))) (Kd.R_lt (krW HO454))) (bZ_ (kwW HB))); replace HO448 := Aside0.mk (Kd.R_elder' (krW HO448) (Kd.R_base ho0) hb); replace HO451 := Aside0.mk (Kd.R_elder' (krW HO451) (Kd.R_base ho0) hb); replace HO454 := Aside0.mk (Kd.R_elder' (krW HO454) (Kd.R_base ho0) hb); replace HB := Aside0.mk (below_step (kwW HB) hb); (try clear hb); (try clear hb2); (try clear hk); (try clear hi); (try clear ho0); obtain ⟨Ao14, co14, eo14⟩ := Kd.R_slice HO451.out; subst eo14))
 go_loopg [10] k (fun kq v10 w' => ∃ (x10_1 : Int), v10 = .int .i64 x10_1 ∧ Aside0 (skerrylaw22_clash.l0 kq l0 l1 a2 t449 t455 (wrap64 ((t449.length : Int) / 2)) x10_1 = some r) ∧ Aside0 (kq ≤ k) ∧ Aside0 (Kd.R (Kd.int .u64) 50 w' w.heap.size (fun k_ => some k_ ≠ (v456 : Value).ownBlock) (.slice Ao14 t449.length co14) t449) ∧ Aside0 (Kd.R (Kd.int .u64) 50 w' w.heap.size (fun k_ => some k_ ≠ ((.slice Ao14 t449.length co14) : Value).ownBlock) v456 t455) ∧ Aside0 (Below w.heap.size w w'))
 case atStart => exact ⟨(1), (by first | rfl | (simp; done) | (simp [bne, *]; done)), H', ⟨Nat.le_refl _⟩, ⟨by (with_reducible repeat (first | apply Kd.R_alloc | apply Kd.R_drewN | apply Kd.R_drew)); exact Kd.R_mono HO451.out (fun _ hk => hk.2)⟩, ⟨by (with_reducible repeat (first | apply Kd.R_alloc | apply Kd.R_drewN | apply Kd.R_drew)); exact Kd.R_mono HO457.out (fun _ hk => hk.1.2)⟩, ⟨kwW HB⟩⟩
 case round =>
  clear H'
  try clear c1
  try clear c2
  try clear p2
  try clear p6
  obtain ⟨x10_1, rfl, HA, HK1, HO_7, HO_8, HB⟩ := hrel
  cases gk with
  | zero => exact absurd HA.out (by simp [skerrylaw22_clash.l0])
  | succ k1 =>
   have H := HA.out
   clear HA
   simp only [skerrylaw22_clash.l0] at H
   by_cases c15 : x10_1 < (t449.length : Int)
   rotate_left
   ·
    rw [if_neg c15] at H
    have c15b0 : decide (x10_1 < (t449.length : Int)) = false := decide_eq_false c15
    clear c15
    obtain rfl := Option.some.inj H
    go_wp2
    repeat (go_quiet (fail); try go_wp2)
    go_ret
    exact ⟨by first | rfl | (simp <;> rfl) | (simp [*] <;> rfl), kwW HB⟩
   rw [if_pos c15] at H
   have c15b0 : decide (x10_1 < (t449.length : Int)) = true := decide_eq_true c15
   clear c15
   by_cases c16 : x10_1 ≥ (wrap64 ((t449.length : Int) / 2))
   ·
    rw [if_pos c16] at H
    have c16b0 : decide ((wrap64 ((t449.length : Int) / 2)) ≤ x10_1) = true := decide_eq_true c16
    clear c16
    obtain ⟨y458, hy458⟩ : ∃ y_ : List Int, y_ = (([wrap64 (x10_1 - (wrap64 ((t449.length : Int) / 2)))] : List Int)) := ⟨_, rfl⟩
    replace H : ((skerryref22_Pick.f k1 l0 a2 y458).bind fun t461 => ((skerryref22_Pick.f k1 l1 a2 (([wrap64 (x10_1 - (wrap64 ((t449.length : Int) / 2)))] : List Int))).bind fun t467 => ((skerryref01_Like.f k1 t461 t467).bind fun t470 => (if t470 = true then (skerrylaw22_clash.l0 k1 l0 l1 a2 t449 t455 (wrap64 ((t449.length : Int) / 2)) (wrap64 (x10_1 + 1))) else (if 0 ≤ x10_1 then (if x10_1 < (t455.length : Int) then (if (rd t449 x10_1) = (rd t455 x10_1) then (some true) else (skerrylaw22_clash.l0 k1 l0 l1 a2 t449 t455 (wrap64 ((t449.length : Int) / 2)) (wrap64 (x10_1 + 1)))) else (none)) else (none)))))) = some r := by first | (rw [hy458]; with_reducible exact H) | (have H2_ := (Option.bind_some _ _).symm.trans H; rw [hy458]; with_reducible exact H2_) | (have H2_ := (Option.bind_some _ _).symm.trans H; with_reducible exact H2_) | with_reducible exact H | (rw [hy458]; exact H) | exact H
    have Ny458 := Aside0.mk hy458
    clear hy458
    replace H := Option.bind_eq_some_iff.mp H
    obtain ⟨t461, A170, H⟩ := H
    have A17 := Aside0.mk A170
    clear A170
    obtain ⟨y464, hy464⟩ : ∃ y_ : List Int, y_ = (([wrap64 (x10_1 - (wrap64 ((t449.length : Int) / 2)))] : List Int)) := ⟨_, rfl⟩
    replace H : ((skerryref22_Pick.f k1 l1 a2 y464).bind fun t467 => ((skerryref01_Like.f k1 t461 t467).bind fun t470 => (if t470 = true then (skerrylaw22_clash.l0 k1 l0 l1 a2 t449 t455 (wrap64 ((t449.length : Int) / 2)) (wrap64 (x10_1 + 1))) else (if 0 ≤ x10_1 then (if x10_1 < (t455.length : Int) then (if (rd t449 x10_1) = (rd t455 x10_1) then (some true) else (skerrylaw22_clash.l0 k1 l0 l1 a2 t449 t455 (wrap64 ((t449.length : Int) / 2)) (wrap64 (x10_1 + 1)))) else (none)) else (none))))) = some r := by first | (rw [hy464]; with_reducible exact H) | (have H2_ := (Option.bind_some _ _).symm.trans H; rw [hy464]; with_reducible exact H2_) | (have H2_ := (Option.bind_some _ _).symm.trans H; with_reducible exact H2_) | with_reducible exact H | (rw [hy464]; exact H) | exact H
    have Ny464 := Aside0.mk hy464
    clear hy464
    replace H := Option.bind_eq_some_iff.mp H
    obtain ⟨t467, A180, H⟩ := H
    have A18 := Aside0.mk A180
    clear A180
    replace H := Option.bind_eq_some_iff.mp H
    obtain ⟨t470, A190, H⟩ := H
    have A19 := Aside0.mk A190
    clear A190
    by_cases c20 : t470 = true
    ·
     subst c20
     have H1 : (skerrylaw22_clash.l0 k1 l0 l1 a2 t449 t455 (wrap64 ((t449.length : Int) / 2)) (wrap64 (x10_1 + 1))) = some r := by rw [if_pos rfl] at H; exact H
     clear H
     have H := H1
     clear H1
     have H' := Aside0.mk H
     clear H
     go_wp2_with (first | ((with_reducible refine gate_dst (N := 37) rfl ?_); refine Kd.R_lit (Kd.int .i64) _ 3 ?hg (N := 37) ?hd (xs := ([wrap64 (x10_1 - (wrap64 ((t449.length : Int) / 2)))] : List Int)) (inner := [.int .i64 (wrap64 (x10_1 - (wrap64 ((t449.length : Int) / 2))))]) (ok := fun _ => True) (okp := fun _ => True) ?hr ?hp (fun _ hk => hk) trivial (Below.refl _ _) (Nat.le_refl _) (by simp) ?_; (case hd => rfl); (case hg => rfl); (case hr => first | (go_simp; done) | (go_simp; rfl)); (case hp => exact (Reps.one (show Kd.M (Kd.int .i64) _ _ _ (wrap64 (x10_1 - (wrap64 ((t449.length : Int) / 2)))) [.int .i64 (wrap64 (x10_1 - (wrap64 ((t449.length : Int) / 2))))] from rfl) (Reps.none _ _))); intro v459 w21 ho22 hb hg_ hnew_; clear hg_ hnew_; (first | rw [← Ny458.out] at ho22 | (simp only [Int.reduceToNat] at ho22; rw [← Ny458.out] at ho22)); replace HO_7 := kR HO_7 hb; replace HO_8 := kR HO_8 hb; have HO460 := Aside0.mk (Kd.R_lower ho22 (bZ_ (kwW HB))); replace HB := Aside0.mk (below_step (kwW HB) hb); clear hb ho22; obtain ⟨Ao23, co23, eo23⟩ := Kd.R_slice HO460.out; subst eo23) | (go_at_call 22; (with_reducible refine (skerryref22_Pick.calls k1 _ _ l0 a2 _ _ y458 t461 _ ?side1 ?side2 ?side3 ?side4 A17.out).mono ?_); (case side1 => repeat (first | exact (Kd.C_below HR0.out HB.out) | (with_reducible refine Kd.C_alloc ?_ _) | (with_reducible refine Kd.C_drewN ?_ _) | (with_reducible refine Kd.C_drew ?_))); (case side2 => exact HC0.out); (case side3 => repeat (first | exact (Kd.R_reads' HO460.out).2.2 | (with_reducible refine Kd.C_alloc ?_ _) | (with_reducible refine Kd.C_drewN ?_ _) | (with_reducible refine Kd.C_drew ?_))); (case side4 => exact (Kd.R_reads' HO460.out).2.1); rintro e w24 ⟨v462, rfl, ho0, hb⟩; replace HO_7 := kR HO_7 hb; replace HO_8 := kR HO_8 hb; replace HO460 := kR HO460 hb; have HO463 := Aside0.mk (Kd.R_lower ho0 (bZ_ (kwW HB))); replace HB := Aside0.mk (below_step (kwW HB) hb); (try clear hb); (try clear hb2); (try clear hk); (try clear hi); (try clear ho0)) | ((with_reducible refine gate_dst (N := 44) rfl ?_); refine Kd.R_lit (Kd.int .i64) _ 3 ?hg (N := 44) ?hd (xs := ([wrap64 (x10_1 - (wrap64 ((t449.length : Int) / 2)))] : List Int)) (inner := [.int .i64 (wrap64 (x10_1 - (wrap64 ((t449.length : Int) / 2))))]) (ok := fun _ => True) (okp := fun _ => True) ?hr ?hp (fun _ hk => hk) trivial (Below.refl _ _) (Nat.le_refl _) (by simp) ?_; (case hd => rfl); (case hg => rfl); (case hr => first | (go_simp; done) | (go_simp; rfl)); (case hp => exact (Reps.one (show Kd.M (Kd.int .i64) _ _ _ (wrap64 (x10_1 - (wrap64 ((t449.length : Int) / 2)))) [.int .i64 (wrap64 (x10_1 - (wrap64 ((t449.length : Int) / 2))))] from rfl) (Reps.none _ _))); intro v465 w25 ho26 hb hg_ hnew_; clear hg_ hnew_; (first | rw [← Ny464.out] at ho26 | (simp only [Int.reduceToNat] at ho26; rw [← Ny464.out] at ho26)); replace HO_7 := kR HO_7 hb; replace HO_8 := kR HO_8 hb; replace HO463 := kR HO463 hb; have HO466 := Aside0.mk (Kd.R_lower (Kd.R_new' ho26 (Kd.R_lt (krW HO460))) (bZ_ (kwW HB))); replace HO460 := Aside0.mk (Kd.R_elder' (krW HO460) (Kd.R_base ho26) hb); replace HB := Aside0.mk (below_step (kwW HB) hb); clear hb ho26; obtain ⟨Ao27, co27, eo27⟩ := Kd.R_slice HO466.out; subst eo27) | (go_at_call 22; (with_reducible refine (skerryref22_Pick.calls k1 _ _ l1 a2 _ _ y464 t467 _ ?side1 ?side2 ?side3 ?side4 A18.out).mono ?_); (case side1 => repeat (first | exact (Kd.C_below HR1.out HB.out) | (with_reducible refine Kd.C_alloc ?_ _) | (with_reducible refine Kd.C_drewN ?_ _) | (with_reducible refine Kd.C_drew ?_))); (case side2 => exact HC1.out); (case side3 => repeat (first | exact (Kd.R_reads' HO466.out).2.2 | (with_reducible refine Kd.C_alloc ?_ _) | (with_reducible refine Kd.C_drewN ?_ _) | (with_reducible refine Kd.C_drew ?_))); (case side4 => exact (Kd.R_reads' HO466.out).2.1); rintro e w28 ⟨v468, rfl, ho0, hb⟩; replace HO_7 := kR HO_7 hb; replace HO_8 := kR HO_8 hb; replace HO460 := kR HO460 hb; replace HO466 := kR HO466 hb; have HO469 := Aside0.mk (Kd.R_lower (Kd.R_new' ho0 (Kd.R_lt (krW HO463))) (bZ_ (kwW HB))); replace HO463 := Aside0.mk (Kd.R_elder' (krW HO463) (Kd.R_base ho0) hb); replace HB := Aside0.mk (below_step (kwW HB) hb); (try clear hb); (try clear hb2); (try clear hk); (try clear hi); (try clear ho0); obtain ⟨Ao29, co29, eo29⟩ := Kd.R_slice HO463.out; subst eo29; obtain ⟨Ao30, co30, eo30⟩ := Kd.R_slice HO469.out; subst eo30) | (go_at_call 20; (with_reducible refine (skerryref01_Like.calls k1 _ _ t461 _ _ t467 true _ ?side1 ?side2 ?side3 ?side4 A19.out).mono ?_); (case side1 => repeat (first | exact (Kd.R_reads' HO463.out).2.2 | (with_reducible refine Kd.C_alloc ?_ _) | (with_reducible refine Kd.C_drewN ?_ _) | (with_reducible refine Kd.C_drew ?_))); (case side2 => exact (Kd.R_reads' HO463.out).2.1); (case side3 => repeat (first | exact (Kd.R_reads' HO469.out).2.2 | (with_reducible refine Kd.C_alloc ?_ _) | (with_reducible refine Kd.C_drewN ?_ _) | (with_reducible refine Kd.C_drew ?_))); (case side4 => exact (Kd.R_reads' HO469.out).2.1); rintro e w' ⟨rfl, ⟨nd, rfl⟩⟩; (try first | exact ⟨rfl, _, World.drewN_drewN _ _ _⟩ | exact ⟨rfl, _, Eq.trans (World.drewN_drewN _ _ _) (congrArg (World.drewN _) (Nat.add_assoc _ _ _))⟩)))
     repeat (go_quiet (first | ((with_reducible refine gate_dst (N := 37) rfl ?_); refine Kd.R_lit (Kd.int .i64) _ 3 ?hg (N := 37) ?hd (xs := ([wrap64 (x10_1 - (wrap64 ((t449.length : Int) / 2)))] : List Int)) (inner := [.int .i64 (wrap64 (x10_1 - (wrap64 ((t449.length : Int) / 2))))]) (ok := fun _ => True) (okp := fun _ => True) ?hr ?hp (fun _ hk => hk) trivial (Below.refl _ _) (Nat.le_refl _) (by simp) ?_; (case hd => rfl); (case hg => rfl); (case hr => first | (go_simp; done) | (go_simp; rfl)); (case hp => exact (Reps.one (show Kd.M (Kd.int .i64) _ _ _ (wrap64 (x10_1 - (wrap64 ((t449.length : Int) / 2)))) [.int .i64 (wrap64 (x10_1 - (wrap64 ((t449.length : Int) / 2))))] from rfl) (Reps.none _ _))); intro v459 w21 ho22 hb hg_ hnew_; clear hg_ hnew_; (first | rw [← Ny458.out] at ho22 | (simp only [Int.reduceToNat] at ho22; rw [← Ny458.out] at ho22)); replace HO_7 := kR HO_7 hb; replace HO_8 := kR HO_8 hb; have HO460 := Aside0.mk (Kd.R_lower ho22 (bZ_ (kwW HB))); replace HB := Aside0.mk (below_step (kwW HB) hb); clear hb ho22; obtain ⟨Ao23, co23, eo23⟩ := Kd.R_slice HO460.out; subst eo23) | (go_at_call 22; (with_reducible refine (skerryref22_Pick.calls k1 _ _ l0 a2 _ _ y458 t461 _ ?side1 ?side2 ?side3 ?side4 A17.out).mono ?_); (case side1 => repeat (first | exact (Kd.C_below HR0.out HB.out) | (with_reducible refine Kd.C_alloc ?_ _) | (with_reducible refine Kd.C_drewN ?_ _) | (with_reducible refine Kd.C_drew ?_))); (case side2 => exact HC0.out); (case side3 => repeat (first | exact (Kd.R_reads' HO460.out).2.2 | (with_reducible refine Kd.C_alloc ?_ _) | (with_reducible refine Kd.C_drewN ?_ _) | (with_reducible refine Kd.C_drew ?_))); (case side4 => exact (Kd.R_reads' HO460.out).2.1); rintro e w24 ⟨v462, rfl, ho0, hb⟩; replace HO_7 := kR HO_7 hb; replace HO_8 := kR HO_8 hb; replace HO460 := kR HO460 hb; have HO463 := Aside0.mk (Kd.R_lower ho0 (bZ_ (kwW HB))); replace HB := Aside0.mk (below_step (kwW HB) hb); (try clear hb); (try clear hb2); (try clear hk); (try clear hi); (try clear ho0)) | ((with_reducible refine gate_dst (N := 44) rfl ?_); refine Kd.R_lit (Kd.int .i64) _ 3 ?hg (N := 44) ?hd (xs := ([wrap64 (x10_1 - (wrap64 ((t449.length : Int) / 2)))] : List Int)) (inner := [.int .i64 (wrap64 (x10_1 - (wrap64 ((t449.length : Int) / 2))))]) (ok := fun _ => True) (okp := fun _ => True) ?hr ?hp (fun _ hk => hk) trivial (Below.refl _ _) (Nat.le_refl _) (by simp) ?_; (case hd => rfl); (case hg => rfl); (case hr => first | (go_simp; done) | (go_simp; rfl)); (case hp => exact (Reps.one (show Kd.M (Kd.int .i64) _ _ _ (wrap64 (x10_1 - (wrap64 ((t449.length : Int) / 2)))) [.int .i64 (wrap64 (x10_1 - (wrap64 ((t449.length : Int) / 2))))] from rfl) (Reps.none _ _))); intro v465 w25 ho26 hb hg_ hnew_; clear hg_ hnew_; (first | rw [← Ny464.out] at ho26 | (simp only [Int.reduceToNat] at ho26; rw [← Ny464.out] at ho26)); replace HO_7 := kR HO_7 hb; replace HO_8 := kR HO_8 hb; replace HO463 := kR HO463 hb; have HO466 := Aside0.mk (Kd.R_lower (Kd.R_new' ho26 (Kd.R_lt (krW HO460))) (bZ_ (kwW HB))); replace HO460 := Aside0.mk (Kd.R_elder' (krW HO460) (Kd.R_base ho26) hb); replace HB := Aside0.mk (below_step (kwW HB) hb); clear hb ho26; obtain ⟨Ao27, co27, eo27⟩ := Kd.R_slice HO466.out; subst eo27) | (go_at_call 22; (with_reducible refine (skerryref22_Pick.calls k1 _ _ l1 a2 _ _ y464 t467 _ ?side1 ?side2 ?side3 ?side4 A18.out).mono ?_); (case side1 => repeat (first | exact (Kd.C_below HR1.out HB.out) | (with_reducible refine Kd.C_alloc ?_ _) | (with_reducible refine Kd.C_drewN ?_ _) | (with_reducible refine Kd.C_drew ?_))); (case side2 => exact HC1.out); (case side3 => repeat (first | exact (Kd.R_reads' HO466.out).2.2 | (with_reducible refine Kd.C_alloc ?_ _) | (with_reducible refine Kd.C_drewN ?_ _) | (with_reducible refine Kd.C_drew ?_))); (case side4 => exact (Kd.R_reads' HO466.out).2.1); rintro e w28 ⟨v468, rfl, ho0, hb⟩; replace HO_7 := kR HO_7 hb; replace HO_8 := kR HO_8 hb; replace HO460 := kR HO460 hb; replace HO466 := kR HO466 hb; have HO469 := Aside0.mk (Kd.R_lower (Kd.R_new' ho0 (Kd.R_lt (krW HO463))) (bZ_ (kwW HB))); replace HO463 := Aside0.mk (Kd.R_elder' (krW HO463) (Kd.R_base ho0) hb); replace HB := Aside0.mk (below_step (kwW HB) hb); (try clear hb); (try clear hb2); (try clear hk); (try clear hi); (try clear ho0); obtain ⟨Ao29, co29, eo29⟩ := Kd.R_slice HO463.out; subst eo29; obtain ⟨Ao30, co30, eo30⟩ := Kd.R_slice HO469.out; subst eo30) | (go_at_call 20; (with_reducible refine (skerryref01_Like.calls k1 _ _ t461 _ _ t467 true _ ?side1 ?side2 ?side3 ?side4 A19.out).mono ?_); (case side1 => repeat (first | exact (Kd.R_reads' HO463.out).2.2 | (with_reducible refine Kd.C_alloc ?_ _) | (with_reducible refine Kd.C_drewN ?_ _) | (with_reducible refine Kd.C_drew ?_))); (case side2 => exact (Kd.R_reads' HO463.out).2.1); (case side3 => repeat (first | exact (Kd.R_reads' HO469.out).2.2 | (with_reducible refine Kd.C_alloc ?_ _) | (with_reducible refine Kd.C_drewN ?_ _) | (with_reducible refine Kd.C_drew ?_))); (case side4 => exact (Kd.R_reads' HO469.out).2.1); rintro e w' ⟨rfl, ⟨nd, rfl⟩⟩; (try first | exact ⟨rfl, _, World.drewN_drewN _ _ _⟩ | exact ⟨rfl, _, Eq.trans (World.drewN_drewN _ _ _) (congrArg (World.drewN _) (Nat.add_assoc _ _ _))⟩))); try go_wp2_with (first | ((with_reducible refine gate_dst (N := 37) rfl ?_); refine Kd.R_lit (Kd.int .i64) _ 3 ?hg (N := 37) ?hd (xs := ([wrap64 (x10_1 - (wrap64 ((t449.length : Int) / 2)))] : List Int)) (inner := [.int .i64 (wrap64 (x10_1 - (wrap64 ((t449.length : Int) / 2))))]) (ok := fun _ => True) (okp := fun _ => True) ?hr ?hp (fun _ hk => hk) trivial (Below.refl _ _) (Nat.le_refl _) (by simp) ?_; (case hd => rfl); (case hg => rfl); (case hr => first | (go_simp; done) | (go_simp; rfl)); (case hp => exact (Reps.one (show Kd.M (Kd.int .i64) _ _ _ (wrap64 (x10_1 - (wrap64 ((t449.length : Int) / 2)))) [.int .i64 (wrap64 (x10_1 - (wrap64 ((t449.length : Int) / 2))))] from rfl) (Reps.none _ _))); intro v459 w21 ho22 hb hg_ hnew_; clear hg_ hnew_; (first | rw [← Ny458.out] at ho22 | (simp only [Int.reduceToNat] at ho22; rw [← Ny458.out] at ho22)); replace HO_7 := kR HO_7 hb; replace HO_8 := kR HO_8 hb; have HO460 := Aside0.mk (Kd.R_lower ho22 (bZ_ (kwW HB))); replace HB := Aside0.mk (below_step (kwW HB) hb); clear hb ho22; obtain ⟨Ao23, co23, eo23⟩ := Kd.R_slice HO460.out; subst eo23) | (go_at_call 22; (with_reducible refine (skerryref22_Pick.calls k1 _ _ l0 a2 _ _ y458 t461 _ ?side1 ?side2 ?side3 ?side4 A17.out).mono ?_); (case side1 => repeat (first | exact (Kd.C_below HR0.out HB.out) | (with_reducible refine Kd.C_alloc ?_ _) | (with_reducible refine Kd.C_drewN ?_ _) | (with_reducible refine Kd.C_drew ?_))); (case side2 => exact HC0.out); (case side3 => repeat (first | exact (Kd.R_reads' HO460.out).2.2 | (with_reducible refine Kd.C_alloc ?_ _) | (with_reducible refine Kd.C_drewN ?_ _) | (with_reducible refine Kd.C_drew ?_))); (case side4 => exact (Kd.R_reads' HO460.out).2.1); rintro e w24 ⟨v462, rfl, ho0, hb⟩; replace HO_7 := kR HO_7 hb; replace HO_8 := kR HO_8 hb; replace HO460 := kR HO460 hb; have HO463 := Aside0.mk (Kd.R_lower ho0 (bZ_ (kwW HB))); replace HB := Aside0.mk (below_step (kwW HB) hb); (try clear hb); (try clear hb2); (try clear hk); (try clear hi); (try clear ho0)) | ((with_reducible refine gate_dst (N := 44) rfl ?_); refine Kd.R_lit (Kd.int .i64) _ 3 ?hg (N := 44) ?hd (xs := ([wrap64 (x10_1 - (wrap64 ((t449.length : Int) / 2)))] : List Int)) (inner := [.int .i64 (wrap64 (x10_1 - (wrap64 ((t449.length : Int) / 2))))]) (ok := fun _ => True) (okp := fun _ => True) ?hr ?hp (fun _ hk => hk) trivial (Below.refl _ _) (Nat.le_refl _) (by simp) ?_; (case hd => rfl); (case hg => rfl); (case hr => first | (go_simp; done) | (go_simp; rfl)); (case hp => exact (Reps.one (show Kd.M (Kd.int .i64) _ _ _ (wrap64 (x10_1 - (wrap64 ((t449.length : Int) / 2)))) [.int .i64 (wrap64 (x10_1 - (wrap64 ((t449.length : Int) / 2))))] from rfl) (Reps.none _ _))); intro v465 w25 ho26 hb hg_ hnew_; clear hg_ hnew_; (first | rw [← Ny464.out] at ho26 | (simp only [Int.reduceToNat] at ho26; rw [← Ny464.out] at ho26)); replace HO_7 := kR HO_7 hb; replace HO_8 := kR HO_8 hb; replace HO463 := kR HO463 hb; have HO466 := Aside0.mk (Kd.R_lower (Kd.R_new' ho26 (Kd.R_lt (krW HO460))) (bZ_ (kwW HB))); replace HO460 := Aside0.mk (Kd.R_elder' (krW HO460) (Kd.R_base ho26) hb); replace HB := Aside0.mk (below_step (kwW HB) hb); clear hb ho26; obtain ⟨Ao27, co27, eo27⟩ := Kd.R_slice HO466.out; subst eo27) | (go_at_call 22; (with_reducible refine (skerryref22_Pick.calls k1 _ _ l1 a2 _ _ y464 t467 _ ?side1 ?side2 ?side3 ?side4 A18.out).mono ?_); (case side1 => repeat (first | exact (Kd.C_below HR1.out HB.out) | (with_reducible refine Kd.C_alloc ?_ _) | (with_reducible refine Kd.C_drewN ?_ _) | (with_reducible refine Kd.C_drew ?_))); (case side2 => exact HC1.out); (case side3 => repeat (first | exact (Kd.R_reads' HO466.out).2.2 | (with_reducible refine Kd.C_alloc ?_ _) | (with_reducible refine Kd.C_drewN ?_ _) | (with_reducible refine Kd.C_drew ?_))); (case side4 => exact (Kd.R_reads' HO466.out).2.1); rintro e w28 ⟨v468, rfl, ho0, hb⟩; replace HO_7 := kR HO_7 hb; replace HO_8 := kR HO_8 hb; replace HO460 := kR HO460 hb; replace HO466 := kR HO466 hb; have HO469 := Aside0.mk (Kd.R_lower (Kd.R_new' ho0 (Kd.R_lt (krW HO463))) (bZ_ (kwW HB))); replace HO463 := Aside0.mk (Kd.R_elder' (krW HO463) (Kd.R_base ho0) hb); replace HB := Aside0.mk (below_step (kwW HB) hb); (try clear hb); (try clear hb2); (try clear hk); (try clear hi); (try clear ho0); obtain ⟨Ao29, co29, eo29⟩ := Kd.R_slice HO463.out; subst eo29; obtain ⟨Ao30, co30, eo30⟩ := Kd.R_slice HO469.out; subst eo30) | (go_at_call 20; (with_reducible refine (skerryref01_Like.calls k1 _ _ t461 _ _ t467 true _ ?side1 ?side2 ?side3 ?side4 A19.out).mono ?_); (case side1 => repeat (first | exact (Kd.R_reads' HO463.out).2.2 | (with_reducible refine Kd.C_alloc ?_ _) | (with_reducible refine Kd.C_drewN ?_ _) | (with_reducible refine Kd.C_drew ?_))); (case side2 => exact (Kd.R_reads' HO463.out).2.1); (case side3 => repeat (first | exact (Kd.R_reads' HO469.out).2.2 | (with_reducible refine Kd.C_alloc ?_ _) | (with_reducible refine Kd.C_drewN ?_ _) | (with_reducible refine Kd.C_drew ?_))); (case side4 => exact (Kd.R_reads' HO469.out).2.1); rintro e w' ⟨rfl, ⟨nd, rfl⟩⟩; (try first | exact ⟨rfl, _, World.drewN_drewN _ _ _⟩ | exact ⟨rfl, _, Eq.trans (World.drewN_drewN _ _ _) (congrArg (World.drewN _) (Nat.add_assoc _ _ _))⟩))))
     go_roundg k1
     case measure => have := HK1.out; omega
     case rel => exact ⟨(wrap64 (x10_1 + 1)), (by first | rfl | (simp; done) | (simp [bne, *]; done)), H', ⟨by have := HK1.out; omega⟩, ⟨krW HO_7⟩, ⟨krW HO_8⟩, ⟨kwW HB⟩⟩
    ·
     replace c20 := Bool.eq_false_iff.mpr c20
     subst c20
     have H1 : (if 0 ≤ x10_1 then (if x10_1 < (t455.length : Int) then (if (rd t449 x10_1) = (rd t455 x10_1) then (some true) else (skerrylaw22_clash.l0 k1 l0 l1 a2 t449 t455 (wrap64 ((t449.length : Int) / 2)) (wrap64 (x10_1 + 1)))) else (none)) else (none)) = some r := by rw [if_neg (show ¬ (false = true) by decide)] at H; exact H
     clear H
     have H := H1
     clear H1
     by_cases c31 : 0 ≤ x10_1
     rotate_left
     ·
      rw [if_neg c31] at H
      exact absurd H (by simp)
     rw [if_pos c31] at H
     have c31b0 : decide (0 ≤ x10_1) = true := decide_eq_true c31
     clear c31
     by_cases c32 : x10_1 < (t455.length : Int)
     rotate_left
     ·
      rw [if_neg c32] at H
      exact absurd H (by simp)
     rw [if_pos c32] at H
     have c32b0 : decide (x10_1 < (t455.length : Int)) = true := decide_eq_true c32
     clear c32
     by_cases c33 : (rd t449 x10_1) = (rd t455 x10_1)
     ·
      rw [if_pos c33] at H
      have c33b0 : ((rd t449 x10_1) == (rd t455 x10_1)) = true := beq_iff_eq.mpr c33
      have c33b1 : ((rd t449 x10_1) != (rd t455 x10_1)) = false := bne_eq_false_iff_eq.mpr c33
      clear c33
      obtain rfl := Option.some.inj H
      go_wp2_with (first | ((with_reducible refine gate_dst (N := 37) rfl ?_); refine Kd.R_lit (Kd.int .i64) _ 3 ?hg (N := 37) ?hd (xs := ([wrap64 (x10_1 - (wrap64 ((t449.length : Int) / 2)))] : List Int)) (inner := [.int .i64 (wrap64 (x10_1 - (wrap64 ((t449.length : Int) / 2))))]) (ok := fun _ => True) (okp := fun _ => True) ?hr ?hp (fun _ hk => hk) trivial (Below.refl _ _) (Nat.le_refl _) (by simp) ?_; (case hd => rfl); (case hg => rfl); (case hr => first | (go_simp; done) | (go_simp; rfl)); (case hp => exact (Reps.one (show Kd.M (Kd.int .i64) _ _ _ (wrap64 (x10_1 - (wrap64 ((t449.length : Int) / 2)))) [.int .i64 (wrap64 (x10_1 - (wrap64 ((t449.length : Int) / 2))))] from rfl) (Reps.none _ _))); intro v459 w34 ho35 hb hg_ hnew_; clear hg_ hnew_; (first | rw [← Ny458.out] at ho35 | (simp only [Int.reduceToNat] at ho35; rw [← Ny458.out] at ho35)); replace HO_7 := kR HO_7 hb; replace HO_8 := kR HO_8 hb; have HO460 := Aside0.mk (Kd.R_lower ho35 (bZ_ (kwW HB))); replace HB := Aside0.mk (below_step (kwW HB) hb); clear hb ho35; obtain ⟨Ao36, co36, eo36⟩ := Kd.R_slice HO460.out; subst eo36) | (go_at_call 22; (with_reducible refine (skerryref22_Pick.calls k1 _ _ l0 a2 _ _ y458 t461 _ ?side1 ?side2 ?side3 ?side4 A17.out).mono ?_); (case side1 => repeat (first | exact (Kd.C_below HR0.out HB.out) | (with_reducible refine Kd.C_alloc ?_ _) | (with_reducible refine Kd.C_drewN ?_ _) | (with_reducible refine Kd.C_drew ?_))); (case side2 => exact HC0.out); (case side3 => repeat (first | exact (Kd.R_reads' HO460.out).2.2 | (with_reducible refine Kd.C_alloc ?_ _) | (with_reducible refine Kd.C_drewN ?_ _) | (with_reducible refine Kd.C_drew ?_))); (case side4 => exact (Kd.R_reads' HO460.out).2.1); rintro e w37 ⟨v462, rfl, ho0, hb⟩; replace HO_7 := kR HO_7 hb; replace HO_8 := kR HO_8 hb; replace HO460 := kR HO460 hb; have HO463 := Aside0.mk (Kd.R_lower ho0 (bZ_ (kwW HB))); replace HB := Aside0.mk (below_step (kwW HB) hb); (try clear hb); (try clear hb2); (try clear hk); (try clear hi); (try clear ho0)) | ((with_reducible refine gate_dst (N := 44) rfl ?_); refine Kd.R_lit (Kd.int .i64) _ 3 ?hg (N := 44) ?hd (xs := ([wrap64 (x10_1 - (wrap64 ((t449.length : Int) / 2)))] : List Int)) (inner := [.int .i64 (wrap64 (x10_1 - (wrap64 ((t449.length : Int) / 2))))]) (ok := fun _ => True) (okp := fun _ => True) ?hr ?hp (fun _ hk => hk) trivial (Below.refl _ _) (Nat.le_refl _) (by simp) ?_; (case hd => rfl); (case hg => rfl); (case hr => first | (go_simp; done) | (go_simp; rfl)); (case hp => exact (Reps.one (show Kd.M (Kd.int .i64) _ _ _ (wrap64 (x10_1 - (wrap64 ((t449.length : Int) / 2)))) [.int .i64 (wrap64 (x10_1 - (wrap64 ((t449.length : Int) / 2))))] from rfl) (Reps.none _ _))); intro v465 w38 ho39 hb hg_ hnew_; clear hg_ hnew_; (first | rw [← Ny464.out] at ho39 | (simp only [Int.reduceToNat] at ho39; rw [← Ny464.out] at ho39)); replace HO_7 := kR HO_7 hb; replace HO_8 := kR HO_8 hb; replace HO463 := kR HO463 hb; have HO466 := Aside0.mk (Kd.R_lower (Kd.R_new' ho39 (Kd.R_lt (krW HO460))) (bZ_ (kwW HB))); replace HO460 := Aside0.mk (Kd.R_elder' (krW HO460) (Kd.R_base ho39) hb); replace HB := Aside0.mk (below_step (kwW HB) hb); clear hb ho39; obtain ⟨Ao40, co40, eo40⟩ := Kd.R_slice HO466.out; subst eo40) | (go_at_call 22; (with_reducible refine (skerryref22_Pick.calls k1 _ _ l1 a2 _ _ y464 t467 _ ?side1 ?side2 ?side3 ?side4 A18.out).mono ?_); (case side1 => repeat (first | exact (Kd.C_below HR1.out HB.out) | (with_reducible refine Kd.C_alloc ?_ _) | (with_reducible refine Kd.C_drewN ?_ _) | (with_reducible refine Kd.C_drew ?_))); (case side2 => exact HC1.out); (case side3 => repeat (first | exact (Kd.R_reads' HO466.out).2.2 | (with_reducible refine Kd.C_alloc ?_ _) | (with_reducible refine Kd.C_drewN ?_ _) | (with_reducible refine Kd.C_drew ?_))); (case side4 => exact (Kd.R_reads' HO466.out).2.1); rintro e w41 ⟨v468, rfl, ho0, hb⟩; replace HO_7 := kR HO_7 hb; replace HO_8 := kR HO_8 hb; replace HO460 := kR HO460 hb; replace HO466 := kR HO466 hb; have HO469 := Aside0.mk (Kd.R_lower (Kd.R_new' ho0 (Kd.R_lt (krW HO463))) (bZ_ (kwW HB))); replace HO463 := Aside0.mk (Kd.R_elder' (krW HO463) (Kd.R_base ho0) hb); replace HB := Aside0.mk (below_step (kwW HB) hb); (try clear hb); (try clear hb2); (try clear hk); (try clear hi); (try clear ho0); obtain ⟨Ao42, co42, eo42⟩ := Kd.R_slice HO463.out; subst eo42; obtain ⟨Ao43, co43, eo43⟩ := Kd.R_slice HO469.out; subst eo43) | (go_at_call 20; (with_reducible refine (skerryref01_Like.calls k1 _ _ t461 _ _ t467 false _ ?side1 ?side2 ?side3 ?side4 A19.out).mono ?_); (case side1 => repeat (first | exact (Kd.R_reads' HO463.out).2.2 | (with_reducible refine Kd.C_alloc ?_ _) | (with_reducible refine Kd.C_drewN ?_ _) | (with_reducible refine Kd.C_drew ?_))); (case side2 => exact (Kd.R_reads' HO463.out).2.1); (case side3 => repeat (first | exact (Kd.R_reads' HO469.out).2.2 | (with_reducible refine Kd.C_alloc ?_ _) | (with_reducible refine Kd.C_drewN ?_ _) | (with_reducible refine Kd.C_drew ?_))); (case side4 => exact (Kd.R_reads' HO469.out).2.1); rintro e w' ⟨rfl, ⟨nd, rfl⟩⟩; (try first | exact ⟨rfl, _, World.drewN_drewN _ _ _⟩ | exact ⟨rfl, _, Eq.trans (World.drewN_drewN _ _ _) (congrArg (World.drewN _) (Nat.add_assoc _ _ _))⟩); have p471 : 0 ≤ (x10_1 : Int) := of_decide_eq_true (by first | (with_reducible assumption) | assumption); have q471 : x10_1 < (t449.length : Int) := of_decide_eq_true (by first | (with_reducible assumption) | assumption); obtain ⟨ad471, e471, hx471_0⟩ := Kd.at_int (Kd.R_reads' HO_7.out).2.2 x10_1 p471 q471; cases e471; replace p471 := eq_true p471; replace q471 := eq_true q471; obtain ⟨Ao44, co44, eo44⟩ := Kd.R_slice HO_8.out; subst eo44; have p472 : 0 ≤ (x10_1 : Int) := of_decide_eq_true (by first | (with_reducible assumption) | assumption); have q472 : x10_1 < (t455.length : Int) := of_decide_eq_true (by first | (with_reducible assumption) | assumption); obtain ⟨ad472, e472, hx472_0⟩ := Kd.at_int (Kd.R_reads' HO_8.out).2.2 x10_1 p472 q472; cases e472; replace p472 := eq_true p472; replace q472 := eq_true q472))
      repeat (go_quiet (first | ((with_reducible refine gate_dst (N := 37) rfl ?_); refine Kd.R_lit (Kd.int .i64) _ 3 ?hg (N := 37) ?hd (xs := ([wrap64 (x10_1 - (wrap64 ((t449.length : Int) / 2)))] : List Int)) (inner := [.int .i64 (wrap64 (x10_1 - (wrap64 ((t449.length : Int) / 2))))]) (ok := fun _ => True) (okp := fun _ => True) ?hr ?hp (fun _ hk => hk) trivial (Below.refl _ _) (Nat.le_refl _) (by simp) ?_; (case hd => rfl); (case hg => rfl); (case hr => first | (go_simp; done) | (go_simp; rfl)); (case hp => exact (Reps.one (show Kd.M (Kd.int .i64) _ _ _ (wrap64 (x10_1 - (wrap64 ((t449.length : Int) / 2)))) [.int .i64 (wrap64 (x10_1 - (wrap64 ((t449.length : Int) / 2))))] from rfl) (Reps.none _ _))); intro v459 w34 ho35 hb hg_ hnew_; clear hg_ hnew_; (first | rw [← Ny458.out] at ho35 | (simp only [Int.reduceToNat] at ho35; rw [← Ny458.out] at ho35)); replace HO_7 := kR HO_7 hb; replace HO_8 := kR HO_8 hb; have HO460 := Aside0.mk (Kd.R_lower ho35 (bZ_ (kwW HB))); replace HB := Aside0.mk (below_step (kwW HB) hb); clear hb ho35; obtain ⟨Ao36, co36, eo36⟩ := Kd.R_slice HO460.out; subst eo36) | (go_at_call 22; (with_reducible refine (skerryref22_Pick.calls k1 _ _ l0 a2 _ _ y458 t461 _ ?side1 ?side2 ?side3 ?side4 A17.out).mono ?_); (case side1 => repeat (first | exact (Kd.C_below HR0.out HB.out) | (with_reducible refine Kd.C_alloc ?_ _) | (with_reducible refine Kd.C_drewN ?_ _) | (with_reducible refine Kd.C_drew ?_))); (case side2 => exact HC0.out); (case side3 => repeat (first | exact (Kd.R_reads' HO460.out).2.2 | (with_reducible refine Kd.C_alloc ?_ _) | (with_reducible refine Kd.C_drewN ?_ _) | (with_reducible refine Kd.C_drew ?_))); (case side4 => exact (Kd.R_reads' HO460.out).2.1); rintro e w37 ⟨v462, rfl, ho0, hb⟩; replace HO_7 := kR HO_7 hb; replace HO_8 := kR HO_8 hb; replace HO460 := kR HO460 hb; have HO463 := Aside0.mk (Kd.R_lower ho0 (bZ_ (kwW HB))); replace HB := Aside0.mk (below_step (kwW HB) hb); (try clear hb); (try clear hb2); (try clear hk); (try clear hi); (try clear ho0)) | ((with_reducible refine gate_dst (N := 44) rfl ?_); refine Kd.R_lit (Kd.int .i64) _ 3 ?hg (N := 44) ?hd (xs := ([wrap64 (x10_1 - (wrap64 ((t449.length : Int) / 2)))] : List Int)) (inner := [.int .i64 (wrap64 (x10_1 - (wrap64 ((t449.length : Int) / 2))))]) (ok := fun _ => True) (okp := fun _ => True) ?hr ?hp (fun _ hk => hk) trivial (Below.refl _ _) (Nat.le_refl _) (by simp) ?_; (case hd => rfl); (case hg => rfl); (case hr => first | (go_simp; done) | (go_simp; rfl)); (case hp => exact (Reps.one (show Kd.M (Kd.int .i64) _ _ _ (wrap64 (x10_1 - (wrap64 ((t449.length : Int) / 2)))) [.int .i64 (wrap64 (x10_1 - (wrap64 ((t449.length : Int) / 2))))] from rfl) (Reps.none _ _))); intro v465 w38 ho39 hb hg_ hnew_; clear hg_ hnew_; (first | rw [← Ny464.out] at ho39 | (simp only [Int.reduceToNat] at ho39; rw [← Ny464.out] at ho39)); replace HO_7 := kR HO_7 hb; replace HO_8 := kR HO_8 hb; replace HO463 := kR HO463 hb; have HO466 := Aside0.mk (Kd.R_lower (Kd.R_new' ho39 (Kd.R_lt (krW HO460))) (bZ_ (kwW HB))); replace HO460 := Aside0.mk (Kd.R_elder' (krW HO460) (Kd.R_base ho39) hb); replace HB := Aside0.mk (below_step (kwW HB) hb); clear hb ho39; obtain ⟨Ao40, co40, eo40⟩ := Kd.R_slice HO466.out; subst eo40) | (go_at_call 22; (with_reducible refine (skerryref22_Pick.calls k1 _ _ l1 a2 _ _ y464 t467 _ ?side1 ?side2 ?side3 ?side4 A18.out).mono ?_); (case side1 => repeat (first | exact (Kd.C_below HR1.out HB.out) | (with_reducible refine Kd.C_alloc ?_ _) | (with_reducible refine Kd.C_drewN ?_ _) | (with_reducible refine Kd.C_drew ?_))); (case side2 => exact HC1.out); (case side3 => repeat (first | exact (Kd.R_reads' HO466.out).2.2 | (with_reducible refine Kd.C_alloc ?_ _) | (with_reducible refine Kd.C_drewN ?_ _) | (with_reducible refine Kd.C_drew ?_))); (case side4 => exact (Kd.R_reads' HO466.out).2.1); rintro e w41 ⟨v468, rfl, ho0, hb⟩; replace HO_7 := kR HO_7 hb; replace HO_8 := kR HO_8 hb; replace HO460 := kR HO460 hb; replace HO466 := kR HO466 hb; have HO469 := Aside0.mk (Kd.R_lower (Kd.R_new' ho0 (Kd.R_lt (krW HO463))) (bZ_ (kwW HB))); replace HO463 := Aside0.mk (Kd.R_elder' (krW HO463) (Kd.R_base ho0) hb); replace HB := Aside0.mk (below_step (kwW HB) hb); (try clear hb); (try clear hb2); (try clear hk); (try clear hi); (try clear ho0); obtain ⟨Ao42, co42, eo42⟩ := Kd.R_slice HO463.out; subst eo42; obtain ⟨Ao43, co43, eo43⟩ := Kd.R_slice HO469.out; subst eo43) | (go_at_call 20; (with_reducible refine (skerryref01_Like.calls k1 _ _ t461 _ _ t467 false _ ?side1 ?side2 ?side3 ?side4 A19.out).mono ?_); (case side1 => repeat (first | exact (Kd.R_reads' HO463.out).2.2 | (with_reducible refine Kd.C_alloc ?_ _) | (with_reducible refine Kd.C_drewN ?_ _) | (with_reducible refine Kd.C_drew ?_))); (case side2 => exact (Kd.R_reads' HO463.out).2.1); (case side3 => repeat (first | exact (Kd.R_reads' HO469.out).2.2 | (with_reducible refine Kd.C_alloc ?_ _) | (with_reducible refine Kd.C_drewN ?_ _) | (with_reducible refine Kd.C_drew ?_))); (case side4 => exact (Kd.R_reads' HO469.out).2.1); rintro e w' ⟨rfl, ⟨nd, rfl⟩⟩; (try first | exact ⟨rfl, _, World.drewN_drewN _ _ _⟩ | exact ⟨rfl, _, Eq.trans (World.drewN_drewN _ _ _) (congrArg (World.drewN _) (Nat.add_assoc _ _ _))⟩); have p471 : 0 ≤ (x10_1 : Int) := of_decide_eq_true (by first | (with_reducible assumption) | assumption); have q471 : x10_1 < (t449.length : Int) := of_decide_eq_true (by first | (with_reducible assumption) | assumption); obtain ⟨ad471, e471, hx471_0⟩ := Kd.at_int (Kd.R_reads' HO_7.out).2.2 x10_1 p471 q471; cases e471; replace p471 := eq_true p471; replace q471 := eq_true q471; obtain ⟨Ao44, co44, eo44⟩ := Kd.R_slice HO_8.out; subst eo44; have p472 : 0 ≤ (x10_1 : Int) := of_decide_eq_true (by first | (with_reducible assumption) | assumption); have q472 : x10_1 < (t455.length : Int) := of_decide_eq_true (by first | (with_reducible assumption) | assumption); obtain ⟨ad472, e472, hx472_0⟩ := Kd.at_int (Kd.R_reads' HO_8.out).2.2 x10_1 p472 q472; cases e472; replace p472 := eq_true p472; replace q472 := eq_true q472)); try go_wp2_with (first | ((with_reducible refine gate_dst (N := 37) rfl ?_); refine Kd.R_lit (Kd.int .i64) _ 3 ?hg (N := 37) ?hd (xs := ([wrap64 (x10_1 - (wrap64 ((t449.length : Int) / 2)))] : List Int)) (inner := [.int .i64 (wrap64 (x10_1 - (wrap64 ((t449.length : Int) / 2))))]) (ok := fun _ => True) (okp := fun _ => True) ?hr ?hp (fun _ hk => hk) trivial (Below.refl _ _) (Nat.le_refl _) (by simp) ?_; (case hd => rfl); (case hg => rfl); (case hr => first | (go_simp; done) | (go_simp; rfl)); (case hp => exact (Reps.one (show Kd.M (Kd.int .i64) _ _ _ (wrap64 (x10_1 - (wrap64 ((t449.length : Int) / 2)))) [.int .i64 (wrap64 (x10_1 - (wrap64 ((t449.length : Int) / 2))))] from rfl) (Reps.none _ _))); intro v459 w34 ho35 hb hg_ hnew_; clear hg_ hnew_; (first | rw [← Ny458.out] at ho35 | (simp only [Int.reduceToNat] at ho35; rw [← Ny458.out] at ho35)); replace HO_7 := kR HO_7 hb; replace HO_8 := kR HO_8 hb; have HO460 := Aside0.mk (Kd.R_lower ho35 (bZ_ (kwW HB))); replace HB := Aside0.mk (below_step (kwW HB) hb); clear hb ho35; obtain ⟨Ao36, co36, eo36⟩ := Kd.R_slice HO460.out; subst eo36) | (go_at_call 22; (with_reducible refine (skerryref22_Pick.calls k1 _ _ l0 a2 _ _ y458 t461 _ ?side1 ?side2 ?side3 ?side4 A17.out).mono ?_); (case side1 => repeat (first | exact (Kd.C_below HR0.out HB.out) | (with_reducible refine Kd.C_alloc ?_ _) | (with_reducible refine Kd.C_drewN ?_ _) | (with_reducible refine Kd.C_drew ?_))); (case side2 => exact HC0.out); (case side3 => repeat (first | exact (Kd.R_reads' HO460.out).2.2 | (with_reducible refine Kd.C_alloc ?_ _) | (with_reducible refine Kd.C_drewN ?_ _) | (with_reducible refine Kd.C_drew ?_))); (case side4 => exact (Kd.R_reads' HO460.out).2.1); rintro e w37 ⟨v462, rfl, ho0, hb⟩; replace HO_7 := kR HO_7 hb; replace HO_8 := kR HO_8 hb; replace HO460 := kR HO460 hb; have HO463 := Aside0.mk (Kd.R_lower ho0 (bZ_ (kwW HB))); replace HB := Aside0.mk (below_step (kwW HB) hb); (try clear hb); (try clear hb2); (try clear hk); (try clear hi); (try clear ho0)) | ((with_reducible refine gate_dst (N := 44) rfl ?_); refine Kd.R_lit (Kd.int .i64) _ 3 ?hg (N := 44) ?hd (xs := ([wrap64 (x10_1 - (wrap64 ((t449.length : Int) / 2)))] : List Int)) (inner := [.int .i64 (wrap64 (x10_1 - (wrap64 ((t449.length : Int) / 2))))]) (ok := fun _ => True) (okp := fun _ => True) ?hr ?hp (fun _ hk => hk) trivial (Below.refl _ _) (Nat.le_refl _) (by simp) ?_; (case hd => rfl); (case hg => rfl); (case hr => first | (go_simp; done) | (go_simp; rfl)); (case hp => exact (Reps.one (show Kd.M (Kd.int .i64) _ _ _ (wrap64 (x10_1 - (wrap64 ((t449.length : Int) / 2)))) [.int .i64 (wrap64 (x10_1 - (wrap64 ((t449.length : Int) / 2))))] from rfl) (Reps.none _ _))); intro v465 w38 ho39 hb hg_ hnew_; clear hg_ hnew_; (first | rw [← Ny464.out] at ho39 | (simp only [Int.reduceToNat] at ho39; rw [← Ny464.out] at ho39)); replace HO_7 := kR HO_7 hb; replace HO_8 := kR HO_8 hb; replace HO463 := kR HO463 hb; have HO466 := Aside0.mk (Kd.R_lower (Kd.R_new' ho39 (Kd.R_lt (krW HO460))) (bZ_ (kwW HB))); replace HO460 := Aside0.mk (Kd.R_elder' (krW HO460) (Kd.R_base ho39) hb); replace HB := Aside0.mk (below_step (kwW HB) hb); clear hb ho39; obtain ⟨Ao40, co40, eo40⟩ := Kd.R_slice HO466.out; subst eo40) | (go_at_call 22; (with_reducible refine (skerryref22_Pick.calls k1 _ _ l1 a2 _ _ y464 t467 _ ?side1 ?side2 ?side3 ?side4 A18.out).mono ?_); (case side1 => repeat (first | exact (Kd.C_below HR1.out HB.out) | (with_reducible refine Kd.C_alloc ?_ _) | (with_reducible refine Kd.C_drewN ?_ _) | (with_reducible refine Kd.C_drew ?_))); (case side2 => exact HC1.out); (case side3 => repeat (first | exact (Kd.R_reads' HO466.out).2.2 | (with_reducible refine Kd.C_alloc ?_ _) | (with_reducible refine Kd.C_drewN ?_ _) | (with_reducible refine Kd.C_drew ?_))); (case side4 => exact (Kd.R_reads' HO466.out).2.1); rintro e w41 ⟨v468, rfl, ho0, hb⟩; replace HO_7 := kR HO_7 hb; replace HO_8 := kR HO_8 hb; replace HO460 := kR HO460 hb; replace HO466 := kR HO466 hb; have HO469 := Aside0.mk (Kd.R_lower (Kd.R_new' ho0 (Kd.R_lt (krW HO463))) (bZ_ (kwW HB))); replace HO463 := Aside0.mk (Kd.R_elder' (krW HO463) (Kd.R_base ho0) hb); replace HB := Aside0.mk (below_step (kwW HB) hb); (try clear hb); (try clear hb2); (try clear hk); (try clear hi); (try clear ho0); obtain ⟨Ao42, co42, eo42⟩ := Kd.R_slice HO463.out; subst eo42; obtain ⟨Ao43, co43, eo43⟩ := Kd.R_slice HO469.out; subst eo43) | (go_at_call 20; (with_reducible refine (skerryref01_Like.calls k1 _ _ t461 _ _ t467 false _ ?side1 ?side2 ?side3 ?side4 A19.out).mono ?_); (case side1 => repeat (first | exact (Kd.R_reads' HO463.out).2.2 | (with_reducible refine Kd.C_alloc ?_ _) | (with_reducible refine Kd.C_drewN ?_ _) | (with_reducible refine Kd.C_drew ?_))); (case side2 => exact (Kd.R_reads' HO463.out).2.1); (case side3 => repeat (first | exact (Kd.R_reads' HO469.out).2.2 | (with_reducible refine Kd.C_alloc ?_ _) | (with_reducible refine Kd.C_drewN ?_ _) | (with_reducible refine Kd.C_drew ?_))); (case side4 => exact (Kd.R_reads' HO469.out).2.1); rintro e w' ⟨rfl, ⟨nd, rfl⟩⟩; (try first | exact ⟨rfl, _, World.drewN_drewN _ _ _⟩ | exact ⟨rfl, _, Eq.trans (World.drewN_drewN _ _ _) (congrArg (World.drewN _) (Nat.add_assoc _ _ _))⟩); have p471 : 0 ≤ (x10_1 : Int) := of_decide_eq_true (by first | (with_reducible assumption) | assumption); have q471 : x10_1 < (t449.length : Int) := of_decide_eq_true (by first | (with_reducible assumption) | assumption); obtain ⟨ad471, e471, hx471_0⟩ := Kd.at_int (Kd.R_reads' HO_7.out).2.2 x10_1 p471 q471; cases e471; replace p471 := eq_true p471; replace q471 := eq_true q471; obtain ⟨Ao44, co44, eo44⟩ := Kd.R_slice HO_8.out; subst eo44; have p472 : 0 ≤ (x10_1 : Int) := of_decide_eq_true (by first | (with_reducible assumption) | assumption); have q472 : x10_1 < (t455.length : Int) := of_decide_eq_true (by first | (with_reducible assumption) | assumption); obtain ⟨ad472, e472, hx472_0⟩ := Kd.at_int (Kd.R_reads' HO_8.out).2.2 x10_1 p472 q472; cases e472; replace p472 := eq_true p472; replace q472 := eq_true q472)))
      go_ret
      exact ⟨by first | rfl | (simp <;> rfl) | (simp [*] <;> rfl), kwW HB⟩
     ·
      rw [if_neg c33] at H
      have c33b0 : ((rd t449 x10_1) == (rd t455 x10_1)) = false := beq_eq_false_iff_ne.mpr c33
      have c33b1 : ((rd t449 x10_1) != (rd t455 x10_1)) = true := bne_iff_ne.mpr c33
      have H' := Aside0.mk H
      clear H
      go_wp2_with (first | ((with_reducible refine gate_dst (N := 37) rfl ?_); refine Kd.R_lit (Kd.int .i64) _ 3 ?hg (N := 37) ?hd (xs := ([wrap64 (x10_1 - (wrap64 ((t449.length : Int) / 2)))] : List Int)) (inner := [.int .i64 (wrap64 (x10_1 - (wrap64 ((t449.length : Int) / 2))))]) (ok := fun _ => True) (okp := fun _ => True) ?hr ?hp (fun _ hk => hk) trivial (Below.refl _ _) (Nat.le_refl _) (by simp) ?_; (case hd => rfl); (case hg => rfl); (case hr => first | (go_simp; done) | (go_simp; rfl)); (case hp => exact (Reps.one (show Kd.M (Kd.int .i64) _ _ _ (wrap64 (x10_1 - (wrap64 ((t449.length : Int) / 2)))) [.int .i64 (wrap64 (x10_1 - (wrap64 ((t449.length : Int) / 2))))] from rfl) (Reps.none _ _))); intro v459 w45 ho46 hb hg_ hnew_; clear hg_ hnew_; (first | rw [← Ny458.out] at ho46 | (simp only [Int.reduceToNat] at ho46; rw [← Ny458.out] at ho46)); replace HO_7 := kR HO_7 hb; replace HO_8 := kR HO_8 hb; have HO460 := Aside0.mk (Kd.R_lower ho46 (bZ_ (kwW HB))); replace HB := Aside0.mk (below_step (kwW HB) hb); clear hb ho46; obtain ⟨Ao47, co47, eo47⟩ := Kd.R_slice HO460.out; subst eo47) | (go_at_call 22; (with_reducible refine (skerryref22_Pick.calls k1 _ _ l0 a2 _ _ y458 t461 _ ?side1 ?side2 ?side3 ?side4 A17.out).mono ?_); (case side1 => repeat (first | exact (Kd.C_below HR0.out HB.out) | (with_reducible refine Kd.C_alloc ?_ _) | (with_reducible refine Kd.C_drewN ?_ _) | (with_reducible refine Kd.C_drew ?_))); (case side2 => exact HC0.out); (case side3 => repeat (first | exact (Kd.R_reads' HO460.out).2.2 | (with_reducible refine Kd.C_alloc ?_ _) | (with_reducible refine Kd.C_drewN ?_ _) | (with_reducible refine Kd.C_drew ?_))); (case side4 => exact (Kd.R_reads' HO460.out).2.1); rintro e w48 ⟨v462, rfl, ho0, hb⟩; replace HO_7 := kR HO_7 hb; replace HO_8 := kR HO_8 hb; replace HO460 := kR HO460 hb; have HO463 := Aside0.mk (Kd.R_lower ho0 (bZ_ (kwW HB))); replace HB := Aside0.mk (below_step (kwW HB) hb); (try clear hb); (try clear hb2); (try clear hk); (try clear hi); (try clear ho0)) | ((with_reducible refine gate_dst (N := 44) rfl ?_); refine Kd.R_lit (Kd.int .i64) _ 3 ?hg (N := 44) ?hd (xs := ([wrap64 (x10_1 - (wrap64 ((t449.length : Int) / 2)))] : List Int)) (inner := [.int .i64 (wrap64 (x10_1 - (wrap64 ((t449.length : Int) / 2))))]) (ok := fun _ => True) (okp := fun _ => True) ?hr ?hp (fun _ hk => hk) trivial (Below.refl _ _) (Nat.le_refl _) (by simp) ?_; (case hd => rfl); (case hg => rfl); (case hr => first | (go_simp; done) | (go_simp; rfl)); (case hp => exact (Reps.one (show Kd.M (Kd.int .i64) _ _ _ (wrap64 (x10_1 - (wrap64 ((t449.length : Int) / 2)))) [.int .i64 (wrap64 (x10_1 - (wrap64 ((t449.length : Int) / 2))))] from rfl) (Reps.none _ _))); intro v465 w49 ho50 hb hg_ hnew_; clear hg_ hnew_; (first | rw [← Ny464.out] at ho50 | (simp only [Int.reduceToNat] at ho50; rw [← Ny464.out] at ho50)); replace HO_7 := kR HO_7 hb; replace HO_8 := kR HO_8 hb; replace HO463 := kR HO463 hb; have HO466 := Aside0.mk (Kd.R_lower (Kd.R_new' ho50 (Kd.R_lt (krW HO460))) (bZ_ (kwW HB))); replace HO460 := Aside0.mk (Kd.R_elder' (krW HO460) (Kd.R_base ho50) hb); replace HB := Aside0.mk (below_step (kwW HB) hb); clear hb ho50; obtain ⟨Ao51, co51, eo51⟩ := Kd.R_slice HO466.out; subst eo51) | (go_at_call 22; (with_reducible refine (skerryref22_Pick.calls k1 _ _ l1 a2 _ _ y464 t467 _ ?side1 ?side2 ?side3 ?side4 A18.out).mono ?_); (case side1 => repeat (first | exact (Kd.C_below HR1.out HB.out) | (with_reducible refine Kd.C_alloc ?_ _) | (with_reducible refine Kd.C_drewN ?_ _) | (with_reducible refine Kd.C_drew ?_))); (case side2 => exact HC1.out); (case side3 => repeat (first | exact (Kd.R_reads' HO466.out).2.2 | (with_reducible refine Kd.C_alloc ?_ _) | (with_reducible refine Kd.C_drewN ?_ _) | (with_reducible refine Kd.C_drew ?_))); (case side4 => exact (Kd.R_reads' HO466.out).2.1); rintro e w52 ⟨v468, rfl, ho0, hb⟩; replace HO_7 := kR HO_7 hb; replace HO_8 := kR HO_8 hb; replace HO460 := kR HO460 hb; replace HO466 := kR HO466 hb; have HO469 := Aside0.mk (Kd.R_lower (Kd.R_new' ho0 (Kd.R_lt (krW HO463))) (bZ_ (kwW HB))); replace HO463 := Aside0.mk (Kd.R_elder' (krW HO463) (Kd.R_base ho0) hb); replace HB := Aside0.mk (below_step (kwW HB) hb); (try clear hb); (try clear hb2); (try clear hk); (try clear hi); (try clear ho0); obtain ⟨Ao53, co53, eo53⟩ := Kd.R_slice HO463.out; subst eo53; obtain ⟨Ao54, co54, eo54⟩ := Kd.R_slice HO469.out; subst eo54) | (go_at_call 20; (with_reducible refine (skerryref01_Like.calls k1 _ _ t461 _ _ t467 false _ ?side1 ?side2 ?side3 ?side4 A19.out).mono ?_); (case side1 => repeat (first | exact (Kd.R_reads' HO463.out).2.2 | (with_reducible refine Kd.C_alloc ?_ _) | (with_reducible refine Kd.C_drewN ?_ _) | (with_reducible refine Kd.C_drew ?_))); (case side2 => exact (Kd.R_reads' HO463.out).2.1); (case side3 => repeat (first | exact (Kd.R_reads' HO469.out).2.2 | (with_reducible refine Kd.C_alloc ?_ _) | (with_reducible refine Kd.C_drewN ?_ _) | (with_reducible refine Kd.C_drew ?_))); (case side4 => exact (Kd.R_reads' HO469.out).2.1); rintro e w' ⟨rfl, ⟨nd, rfl⟩⟩; (try first | exact ⟨rfl, _, World.drewN_drewN _ _ _⟩ | exact ⟨rfl, _, Eq.trans (World.drewN_drewN _ _ _) (congrArg (World.drewN _) (Nat.add_assoc _ _ _))⟩); have p471 : 0 ≤ (x10_1 : Int) := of_decide_eq_true (by first | (with_reducible assumption) | assumption); have q471 : x10_1 < (t449.length : Int) := of_decide_eq_true (by first | (with_reducible assumption) | assumption); obtain ⟨ad471, e471, hx471_0⟩ := Kd.at_int (Kd.R_reads' HO_7.out).2.2 x10_1 p471 q471; cases e471; replace p471 := eq_true p471; replace q471 := eq_true q471; obtain ⟨Ao55, co55, eo55⟩ := Kd.R_slice HO_8.out; subst eo55; have p472 : 0 ≤ (x10_1 : Int) := of_decide_eq_true (by first | (with_reducible assumption) | assumption); have q472 : x10_1 < (t455.length : Int) := of_decide_eq_true (by first | (with_reducible assumption) | assumption); obtain ⟨ad472, e472, hx472_0⟩ := Kd.at_int (Kd.R_reads' HO_8.out).2.2 x10_1 p472 q472; cases e472; replace p472 := eq_true p472; replace q472 := eq_true q472))
      repeat (go_quiet (first | ((with_reducible refine gate_dst (N := 37) rfl ?_); refine Kd.R_lit (Kd.int .i64) _ 3 ?hg (N := 37) ?hd (xs := ([wrap64 (x10_1 - (wrap64 ((t449.length : Int) / 2)))] : List Int)) (inner := [.int .i64 (wrap64 (x10_1 - (wrap64 ((t449.length : Int) / 2))))]) (ok := fun _ => True) (okp := fun _ => True) ?hr ?hp (fun _ hk => hk) trivial (Below.refl _ _) (Nat.le_refl _) (by simp) ?_; (case hd => rfl); (case hg => rfl); (case hr => first | (go_simp; done) | (go_simp; rfl)); (case hp => exact (Reps.one (show Kd.M (Kd.int .i64) _ _ _ (wrap64 (x10_1 - (wrap64 ((t449.length : Int) / 2)))) [.int .i64 (wrap64 (x10_1 - (wrap64 ((t449.length : Int) / 2))))] from rfl) (Reps.none _ _))); intro v459 w45 ho46 hb hg_ hnew_; clear hg_ hnew_; (first | rw [← Ny458.out] at ho46 | (simp only [Int.reduceToNat] at ho46; rw [← Ny458.out] at ho46)); replace HO_7 := kR HO_7 hb; replace HO_8 := kR HO_8 hb; have HO460 := Aside0.mk (Kd.R_lower ho46 (bZ_ (kwW HB))); replace HB := Aside0.mk (below_step (kwW HB) hb); clear hb ho46; obtain ⟨Ao47, co47, eo47⟩ := Kd.R_slice HO460.out; subst eo47) | (go_at_call 22; (with_reducible refine (skerryref22_Pick.calls k1 _ _ l0 a2 _ _ y458 t461 _ ?side1 ?side2 ?side3 ?side4 A17.out).mono ?_); (case side1 => repeat (first | exact (Kd.C_below HR0.out HB.out) | (with_reducible refine Kd.C_alloc ?_ _) | (with_reducible refine Kd.C_drewN ?_ _) | (with_reducible refine Kd.C_drew ?_))); (case side2 => exact HC0.out); (case side3 => repeat (first | exact (Kd.R_reads' HO460.out).2.2 | (with_reducible refine Kd.C_alloc ?_ _) | (with_reducible refine Kd.C_drewN ?_ _) | (with_reducible refine Kd.C_drew ?_))); (case side4 => exact (Kd.R_reads' HO460.out).2.1); rintro e w48 ⟨v462, rfl, ho0, hb⟩; replace HO_7 := kR HO_7 hb; replace HO_8 := kR HO_8 hb; replace HO460 := kR HO460 hb; have HO463 := Aside0.mk (Kd.R_lower ho0 (bZ_ (kwW HB))); replace HB := Aside0.mk (below_step (kwW HB) hb); (try clear hb); (try clear hb2); (try clear hk); (try clear hi); (try clear ho0)) | ((with_reducible refine gate_dst (N := 44) rfl ?_); refine Kd.R_lit (Kd.int .i64) _ 3 ?hg (N := 44) ?hd (xs := ([wrap64 (x10_1 - (wrap64 ((t449.length : Int) / 2)))] : List Int)) (inner := [.int .i64 (wrap64 (x10_1 - (wrap64 ((t449.length : Int) / 2))))]) (ok := fun _ => True) (okp := fun _ => True) ?hr ?hp (fun _ hk => hk) trivial (Below.refl _ _) (Nat.le_refl _) (by simp) ?_; (case hd => rfl); (case hg => rfl); (case hr => first | (go_simp; done) | (go_simp; rfl)); (case hp => exact (Reps.one (show Kd.M (Kd.int .i64) _ _ _ (wrap64 (x10_1 - (wrap64 ((t449.length : Int) / 2)))) [.int .i64 (wrap64 (x10_1 - (wrap64 ((t449.length : Int) / 2))))] from rfl) (Reps.none _ _))); intro v465 w49 ho50 hb hg_ hnew_; clear hg_ hnew_; (first | rw [← Ny464.out] at ho50 | (simp only [Int.reduceToNat] at ho50; rw [← Ny464.out] at ho50)); replace HO_7 := kR HO_7 hb; replace HO_8 := kR HO_8 hb; replace HO463 := kR HO463 hb; have HO466 := Aside0.mk (Kd.R_lower (Kd.R_new' ho50 (Kd.R_lt (krW HO460))) (bZ_ (kwW HB))); replace HO460 := Aside0.mk (Kd.R_elder' (krW HO460) (Kd.R_base ho50) hb); replace HB := Aside0.mk (below_step (kwW HB) hb); clear hb ho50; obtain ⟨Ao51, co51, eo51⟩ := Kd.R_slice HO466.out; subst eo51) | (go_at_call 22; (with_reducible refine (skerryref22_Pick.calls k1 _ _ l1 a2 _ _ y464 t467 _ ?side1 ?side2 ?side3 ?side4 A18.out).mono ?_); (case side1 => repeat (first | exact (Kd.C_below HR1.out HB.out) | (with_reducible refine Kd.C_alloc ?_ _) | (with_reducible refine Kd.C_drewN ?_ _) | (with_reducible refine Kd.C_drew ?_))); (case side2 => exact HC1.out); (case side3 => repeat (first | exact (Kd.R_reads' HO466.out).2.2 | (with_reducible refine Kd.C_alloc ?_ _) | (with_reducible refine Kd.C_drewN ?_ _) | (with_reducible refine Kd.C_drew ?_))); (case side4 => exact (Kd.R_reads' HO466.out).2.1); rintro e w52 ⟨v468, rfl, ho0, hb⟩; replace HO_7 := kR HO_7 hb; replace HO_8 := kR HO_8 hb; replace HO460 := kR HO460 hb; replace HO466 := kR HO466 hb; have HO469 := Aside0.mk (Kd.R_lower (Kd.R_new' ho0 (Kd.R_lt (krW HO463))) (bZ_ (kwW HB))); replace HO463 := Aside0.mk (Kd.R_elder' (krW HO463) (Kd.R_base ho0) hb); replace HB := Aside0.mk (below_step (kwW HB) hb); (try clear hb); (try clear hb2); (try clear hk); (try clear hi); (try clear ho0); obtain ⟨Ao53, co53, eo53⟩ := Kd.R_slice HO463.out; subst eo53; obtain ⟨Ao54, co54, eo54⟩ := Kd.R_slice HO469.out; subst eo54) | (go_at_call 20; (with_reducible refine (skerryref01_Like.calls k1 _ _ t461 _ _ t467 false _ ?side1 ?side2 ?side3 ?side4 A19.out).mono ?_); (case side1 => repeat (first | exact (Kd.R_reads' HO463.out).2.2 | (with_reducible refine Kd.C_alloc ?_ _) | (with_reducible refine Kd.C_drewN ?_ _) | (with_reducible refine Kd.C_drew ?_))); (case side2 => exact (Kd.R_reads' HO463.out).2.1); (case side3 => repeat (first | exact (Kd.R_reads' HO469.out).2.2 | (with_reducible refine Kd.C_alloc ?_ _) | (with_reducible refine Kd.C_drewN ?_ _) | (with_reducible refine Kd.C_drew ?_))); (case side4 => exact (Kd.R_reads' HO469.out).2.1); rintro e w' ⟨rfl, ⟨nd, rfl⟩⟩; (try first | exact ⟨rfl, _, World.drewN_drewN _ _ _⟩ | exact ⟨rfl, _, Eq.trans (World.drewN_drewN _ _ _) (congrArg (World.drewN _) (Nat.add_assoc _ _ _))⟩); have p471 : 0 ≤ (x10_1 : Int) := of_decide_eq_true (by first | (with_reducible assumption) | assumption); have q471 : x10_1 < (t449.length : Int) := of_decide_eq_true (by first | (with_reducible assumption) | assumption); obtain ⟨ad471, e471, hx471_0⟩ := Kd.at_int (Kd.R_reads' HO_7.out).2.2 x10_1 p471 q471; cases e471; replace p471 := eq_true p471; replace q471 := eq_true q471; obtain ⟨Ao55, co55, eo55⟩ := Kd.R_slice HO_8.out; subst eo55; have p472 : 0 ≤ (x10_1 : Int) := of_decide_eq_true (by first | (with_reducible assumption) | assumption); have q472 : x10_1 < (t455.length : Int) := of_decide_eq_true (by first | (with_reducible assumption) | assumption); obtain ⟨ad472, e472, hx472_0⟩ := Kd.at_int (Kd.R_reads' HO_8.out).2.2 x10_1 p472 q472; cases e472; replace p472 := eq_true p472; replace q472 := eq_true q472)); try go_wp2_with (first | ((with_reducible refine gate_dst (N := 37) rfl ?_); refine Kd.R_lit (Kd.int .i64) _ 3 ?hg (N := 37) ?hd (xs := ([wrap64 (x10_1 - (wrap64 ((t449.length : Int) / 2)))] : List Int)) (inner := [.int .i64 (wrap64 (x10_1 - (wrap64 ((t449.length : Int) / 2))))]) (ok := fun _ => True) (okp := fun _ => True) ?hr ?hp (fun _ hk => hk) trivial (Below.refl _ _) (Nat.le_refl _) (by simp) ?_; (case hd => rfl); (case hg => rfl); (case hr => first | (go_simp; done) | (go_simp; rfl)); (case hp => exact (Reps.one (show Kd.M (Kd.int .i64) _ _ _ (wrap64 (x10_1 - (wrap64 ((t449.length : Int) / 2)))) [.int .i64 (wrap64 (x10_1 - (wrap64 ((t449.length : Int) / 2))))] from rfl) (Reps.none _ _))); intro v459 w45 ho46 hb hg_ hnew_; clear hg_ hnew_; (first | rw [← Ny458.out] at ho46 | (simp only [Int.reduceToNat] at ho46; rw [← Ny458.out] at ho46)); replace HO_7 := kR HO_7 hb; replace HO_8 := kR HO_8 hb; have HO460 := Aside0.mk (Kd.R_lower ho46 (bZ_ (kwW HB))); replace HB := Aside0.mk (below_step (kwW HB) hb); clear hb ho46; obtain ⟨Ao47, co47, eo47⟩ := Kd.R_slice HO460.out; subst eo47) | (go_at_call 22; (with_reducible refine (skerryref22_Pick.calls k1 _ _ l0 a2 _ _ y458 t461 _ ?side1 ?side2 ?side3 ?side4 A17.out).mono ?_); (case side1 => repeat (first | exact (Kd.C_below HR0.out HB.out) | (with_reducible refine Kd.C_alloc ?_ _) | (with_reducible refine Kd.C_drewN ?_ _) | (with_reducible refine Kd.C_drew ?_))); (case side2 => exact HC0.out); (case side3 => repeat (first | exact (Kd.R_reads' HO460.out).2.2 | (with_reducible refine Kd.C_alloc ?_ _) | (with_reducible refine Kd.C_drewN ?_ _) | (with_reducible refine Kd.C_drew ?_))); (case side4 => exact (Kd.R_reads' HO460.out).2.1); rintro e w48 ⟨v462, rfl, ho0, hb⟩; replace HO_7 := kR HO_7 hb; replace HO_8 := kR HO_8 hb; replace HO460 := kR HO460 hb; have HO463 := Aside0.mk (Kd.R_lower ho0 (bZ_ (kwW HB))); replace HB := Aside0.mk (below_step (kwW HB) hb); (try clear hb); (try clear hb2); (try clear hk); (try clear hi); (try clear ho0)) | ((with_reducible refine gate_dst (N := 44) rfl ?_); refine Kd.R_lit (Kd.int .i64) _ 3 ?hg (N := 44) ?hd (xs := ([wrap64 (x10_1 - (wrap64 ((t449.length : Int) / 2)))] : List Int)) (inner := [.int .i64 (wrap64 (x10_1 - (wrap64 ((t449.length : Int) / 2))))]) (ok := fun _ => True) (okp := fun _ => True) ?hr ?hp (fun _ hk => hk) trivial (Below.refl _ _) (Nat.le_refl _) (by simp) ?_; (case hd => rfl); (case hg => rfl); (case hr => first | (go_simp; done) | (go_simp; rfl)); (case hp => exact (Reps.one (show Kd.M (Kd.int .i64) _ _ _ (wrap64 (x10_1 - (wrap64 ((t449.length : Int) / 2)))) [.int .i64 (wrap64 (x10_1 - (wrap64 ((t449.length : Int) / 2))))] from rfl) (Reps.none _ _))); intro v465 w49 ho50 hb hg_ hnew_; clear hg_ hnew_; (first | rw [← Ny464.out] at ho50 | (simp only [Int.reduceToNat] at ho50; rw [← Ny464.out] at ho50)); replace HO_7 := kR HO_7 hb; replace HO_8 := kR HO_8 hb; replace HO463 := kR HO463 hb; have HO466 := Aside0.mk (Kd.R_lower (Kd.R_new' ho50 (Kd.R_lt (krW HO460))) (bZ_ (kwW HB))); replace HO460 := Aside0.mk (Kd.R_elder' (krW HO460) (Kd.R_base ho50) hb); replace HB := Aside0.mk (below_step (kwW HB) hb); clear hb ho50; obtain ⟨Ao51, co51, eo51⟩ := Kd.R_slice HO466.out; subst eo51) | (go_at_call 22; (with_reducible refine (skerryref22_Pick.calls k1 _ _ l1 a2 _ _ y464 t467 _ ?side1 ?side2 ?side3 ?side4 A18.out).mono ?_); (case side1 => repeat (first | exact (Kd.C_below HR1.out HB.out) | (with_reducible refine Kd.C_alloc ?_ _) | (with_reducible refine Kd.C_drewN ?_ _) | (with_reducible refine Kd.C_drew ?_))); (case side2 => exact HC1.out); (case side3 => repeat (first | exact (Kd.R_reads' HO466.out).2.2 | (with_reducible refine Kd.C_alloc ?_ _) | (with_reducible refine Kd.C_drewN ?_ _) | (with_reducible refine Kd.C_drew ?_))); (case side4 => exact (Kd.R_reads' HO466.out).2.1); rintro e w52 ⟨v468, rfl, ho0, hb⟩; replace HO_7 := kR HO_7 hb; replace HO_8 := kR HO_8 hb; replace HO460 := kR HO460 hb; replace HO466 := kR HO466 hb; have HO469 := Aside0.mk (Kd.R_lower (Kd.R_new' ho0 (Kd.R_lt (krW HO463))) (bZ_ (kwW HB))); replace HO463 := Aside0.mk (Kd.R_elder' (krW HO463) (Kd.R_base ho0) hb); replace HB := Aside0.mk (below_step (kwW HB) hb); (try clear hb); (try clear hb2); (try clear hk); (try clear hi); (try clear ho0); obtain ⟨Ao53, co53, eo53⟩ := Kd.R_slice HO463.out; subst eo53; obtain ⟨Ao54, co54, eo54⟩ := Kd.R_slice HO469.out; subst eo54) | (go_at_call 20; (with_reducible refine (skerryref01_Like.calls k1 _ _ t461 _ _ t467 false _ ?side1 ?side2 ?side3 ?side4 A19.out).mono ?_); (case side1 => repeat (first | exact (Kd.R_reads' HO463.out).2.2 | (with_reducible refine Kd.C_alloc ?_ _) | (with_reducible refine Kd.C_drewN ?_ _) | (with_reducible refine Kd.C_drew ?_))); (case side2 => exact (Kd.R_reads' HO463.out).2.1); (case side3 => repeat (first | exact (Kd.R_reads' HO469.out).2.2 | (with_reducible refine Kd.C_alloc ?_ _) | (with_reducible refine Kd.C_drewN ?_ _) | (with_reducible refine Kd.C_drew ?_))); (case side4 => exact (Kd.R_reads' HO469.out).2.1); rintro e w' ⟨rfl, ⟨nd, rfl⟩⟩; (try first | exact ⟨rfl, _, World.drewN_drewN _ _ _⟩ | exact ⟨rfl, _, Eq.trans (World.drewN_drewN _ _ _) (congrArg (World.drewN _) (Nat.add_assoc _ _ _))⟩); have p471 : 0 ≤ (x10_1 : Int) := of_decide_eq_true (by first | (with_reducible assumption) | assumption); have q471 : x10_1 < (t449.length : Int) := of_decide_eq_true (by first | (with_reducible assumption) | assumption); obtain ⟨ad471, e471, hx471_0⟩ := Kd.at_int (Kd.R_reads' HO_7.out).2.2 x10_1 p471 q471; cases e471; replace p471 := eq_true p471; replace q471 := eq_true q471; obtain ⟨Ao55, co55, eo55⟩ := Kd.R_slice HO_8.out; subst eo55; have p472 : 0 ≤ (x10_1 : Int) := of_decide_eq_true (by first | (with_reducible assumption) | assumption); have q472 : x10_1 < (t455.length : Int) := of_decide_eq_true (by first | (with_reducible assumption) | assumption); obtain ⟨ad472, e472, hx472_0⟩ := Kd.at_int (Kd.R_reads' HO_8.out).2.2 x10_1 p472 q472; cases e472; replace p472 := eq_true p472; replace q472 := eq_true q472)))
      go_roundg k1
      case measure => have := HK1.out; omega
      case rel => exact ⟨(wrap64 (x10_1 + 1)), (by first | rfl | (simp; done) | (simp [bne, *]; done)), H', ⟨by have := HK1.out; omega⟩, ⟨krW HO_7⟩, ⟨krW HO_8⟩, ⟨kwW HB⟩⟩
   ·
    rw [if_neg c16] at H
    have c16b0 : decide ((wrap64 ((t449.length : Int) / 2)) ≤ x10_1) = false := decide_eq_false c16
    clear c16
    obtain ⟨ji56, hji56⟩ : ∃ j_ : Int, (wrap64 (2 * x10_1)) = j_ := ⟨_, rfl⟩
    replace H : (if 0 ≤ (ji56) then (if (ji56) < (t449.length : Int) then (if (ji56) < (t455.length : Int) then (if (rd t449 (ji56)) = (rd t455 (ji56)) then (if 0 ≤ (wrap64 ((ji56) + 1)) then (if (wrap64 ((ji56) + 1)) < (t449.length : Int) then (if (wrap64 ((ji56) + 1)) < (t455.length : Int) then (if ((rd t449 (wrap64 ((ji56) + 1))) = (rd t455 (wrap64 ((ji56) + 1)))) then (skerrylaw22_clash.l0 k1 l0 l1 a2 t449 t455 (wrap64 ((t449.length : Int) / 2)) (wrap64 (x10_1 + 1))) else (if 0 ≤ x10_1 then (if x10_1 < (t455.length : Int) then (if (rd t449 x10_1) = (rd t455 x10_1) then (some true) else (skerrylaw22_clash.l0 k1 l0 l1 a2 t449 t455 (wrap64 ((t449.length : Int) / 2)) (wrap64 (x10_1 + 1)))) else (none)) else (none))) else (none)) else (none)) else (none)) else (if 0 ≤ x10_1 then (if x10_1 < (t455.length : Int) then (if (rd t449 x10_1) = (rd t455 x10_1) then (some true) else (skerrylaw22_clash.l0 k1 l0 l1 a2 t449 t455 (wrap64 ((t449.length : Int) / 2)) (wrap64 (x10_1 + 1)))) else (none)) else (none))) else (none)) else (none)) else (none)) = some r := by first | (rw [hji56] at H; exact H) | (simp only [hji56] at H ⊢; exact H)
    have hji56w : (IntKind.i64.wrap (2 * x10_1)) = ji56 := (i64_w _).trans hji56
    by_cases c57 : 0 ≤ (ji56)
    rotate_left
    ·
     rw [if_neg c57] at H
     exact absurd H (by simp)
    rw [if_pos c57] at H
    have c57b0 : decide (0 ≤ (ji56)) = true := decide_eq_true c57
    clear c57
    by_cases c58 : (ji56) < (t449.length : Int)
    rotate_left
    ·
     rw [if_neg c58] at H
     exact absurd H (by simp)
    rw [if_pos c58] at H
    have c58b0 : decide ((ji56) < (t449.length : Int)) = true := decide_eq_true c58
    clear c58
    by_cases c59 : (ji56) < (t455.length : Int)
    rotate_left
    ·
     rw [if_neg c59] at H
     exact absurd H (by simp)
    rw [if_pos c59] at H
    have c59b0 : decide ((ji56) < (t455.length : Int)) = true := decide_eq_true c59
    clear c59
    by_cases c60 : (rd t449 (ji56)) = (rd t455 (ji56))
    rotate_left
    ·
     rw [if_neg c60] at H
     have c60b0 : ((rd t449 (ji56)) == (rd t455 (ji56))) = false := beq_eq_false_iff_ne.mpr c60
     have c60b1 : ((rd t449 (ji56)) != (rd t455 (ji56))) = true := bne_iff_ne.mpr c60
     by_cases c72 : 0 ≤ x10_1
     rotate_left
     ·
      rw [if_neg c72] at H
      exact absurd H (by simp)
     rw [if_pos c72] at H
     have c72b0 : decide (0 ≤ x10_1) = true := decide_eq_true c72
     clear c72
     by_cases c73 : x10_1 < (t455.length : Int)
     rotate_left
     ·
      rw [if_neg c73] at H
      exact absurd H (by simp)
     rw [if_pos c73] at H
     have c73b0 : decide (x10_1 < (t455.length : Int)) = true := decide_eq_true c73
     clear c73
     by_cases c74 : (rd t449 x10_1) = (rd t455 x10_1)
     ·
      rw [if_pos c74] at H
      have c74b0 : ((rd t449 x10_1) == (rd t455 x10_1)) = true := beq_iff_eq.mpr c74
      have c74b1 : ((rd t449 x10_1) != (rd t455 x10_1)) = false := bne_eq_false_iff_eq.mpr c74
      clear c74
      obtain rfl := Option.some.inj H
      have p473 : 0 ≤ ((ji56) : Int) := of_decide_eq_true (by first | (with_reducible assumption) | assumption)
      have q473 : (ji56) < (t449.length : Int) := of_decide_eq_true (by first | (with_reducible assumption) | assumption)
      obtain ⟨ad473, e473, hx473_0⟩ := Kd.at_int (Kd.R_reads' HO_7.out).2.2 (ji56) p473 q473
      cases e473
      replace p473 := eq_true p473
      replace q473 := eq_true q473
      obtain ⟨Ao75, co75, eo75⟩ := Kd.R_slice HO_8.out
      subst eo75
      have p474 : 0 ≤ ((ji56) : Int) := of_decide_eq_true (by first | (with_reducible assumption) | assumption)
      have q474 : (ji56) < (t455.length : Int) := of_decide_eq_true (by first | (with_reducible assumption) | assumption)
      obtain ⟨ad474, e474, hx474_0⟩ := Kd.at_int (Kd.R_reads' HO_8.out).2.2 (ji56) p474 q474
      cases e474
      replace p474 := eq_true p474
      replace q474 := eq_true q474
      have p479 : 0 ≤ (x10_1 : Int) := of_decide_eq_true (by first | (with_reducible assumption) | assumption)
      have q479 : x10_1 < (t449.length : Int) := of_decide_eq_true (by first | (with_reducible assumption) | assumption)
      obtain ⟨ad479, e479, hx479_0⟩ := Kd.at_int (Kd.R_reads' HO_7.out).2.2 x10_1 p479 q479
      obtain rfl : ad473 = ad479 := (by injection e479)
      replace p479 := eq_true p479
      replace q479 := eq_true q479
      have p480 : 0 ≤ (x10_1 : Int) := of_decide_eq_true (by first | (with_reducible assumption) | assumption)
      have q480 : x10_1 < (t455.length : Int) := of_decide_eq_true (by first | (with_reducible assumption) | assumption)
      obtain ⟨ad480, e480, hx480_0⟩ := Kd.at_int (Kd.R_reads' HO_8.out).2.2 x10_1 p480 q480
      obtain rfl : ad474 = ad480 := (by injection e480)
      replace p480 := eq_true p480
      replace q480 := eq_true q480
      go_wp2
      repeat (go_quiet (fail); try go_wp2)
      go_ret
      exact ⟨by first | rfl | (simp [errW_none, errW_some] <;> rfl) | (simp only [← hji56]; first | rfl | (simp [errW_none, errW_some] <;> rfl)) | (simp [*, errW_none, errW_some] <;> rfl), kwW HB⟩
     ·
      rw [if_neg c74] at H
      have c74b0 : ((rd t449 x10_1) == (rd t455 x10_1)) = false := beq_eq_false_iff_ne.mpr c74
      have c74b1 : ((rd t449 x10_1) != (rd t455 x10_1)) = true := bne_iff_ne.mpr c74
      have H' := Aside0.mk H
      clear H
      have p473 : 0 ≤ ((ji56) : Int) := of_decide_eq_true (by first | (with_reducible assumption) | assumption)
      have q473 : (ji56) < (t449.length : Int) := of_decide_eq_true (by first | (with_reducible assumption) | assumption)
      obtain ⟨ad473, e473, hx473_0⟩ := Kd.at_int (Kd.R_reads' HO_7.out).2.2 (ji56) p473 q473
      cases e473
      replace p473 := eq_true p473
      replace q473 := eq_true q473
      obtain ⟨Ao76, co76, eo76⟩ := Kd.R_slice HO_8.out
      subst eo76
      have p474 : 0 ≤ ((ji56) : Int) := of_decide_eq_true (by first | (with_reducible assumption) | assumption)
      have q474 : (ji56) < (t455.length : Int) := of_decide_eq_true (by first | (with_reducible assumption) | assumption)
      obtain ⟨ad474, e474, hx474_0⟩ := Kd.at_int (Kd.R_reads' HO_8.out).2.2 (ji56) p474 q474
      cases e474
      replace p474 := eq_true p474
      replace q474 := eq_true q474
      have p479 : 0 ≤ (x10_1 : Int) := of_decide_eq_true (by first | (with_reducible assumption) | assumption)
      have q479 : x10_1 < (t449.length : Int) := of_decide_eq_true (by first | (with_reducible assumption) | assumption)
      obtain ⟨ad479, e479, hx479_0⟩ := Kd.at_int (Kd.R_reads' HO_7.out).2.2 x10_1 p479 q479
      obtain rfl : ad473 = ad479 := (by injection e479)
      replace p479 := eq_true p479
      replace q479 := eq_true q479
      have p480 : 0 ≤ (x10_1 : Int) := of_decide_eq_true (by first | (with_reducible assumption) | assumption)
      have q480 : x10_1 < (t455.length : Int) := of_decide_eq_true (by first | (with_reducible assumption) | assumption)
      obtain ⟨ad480, e480, hx480_0⟩ := Kd.at_int (Kd.R_reads' HO_8.out).2.2 x10_1 p480 q480
      obtain rfl : ad474 = ad480 := (by injection e480)
      replace p480 := eq_true p480
      replace q480 := eq_true q480
      go_wp2
      repeat (go_quiet (fail); try go_wp2)
      go_roundg k1
      case measure => have := HK1.out; omega
      case rel => exact ⟨(wrap64 (x10_1 + 1)), (by first | rfl | (simp; done) | (simp [bne, *]; done)), H', ⟨by have := HK1.out; omega⟩, ⟨krW HO_7⟩, ⟨krW HO_8⟩, ⟨kwW HB⟩⟩
    rw [if_pos c60] at H
    have c60b0 : ((rd t449 (ji56)) == (rd t455 (ji56))) = true := beq_iff_eq.mpr c60
    have c60b1 : ((rd t449 (ji56)) != (rd t455 (ji56))) = false := bne_eq_false_iff_eq.mpr c60
    clear c60
    obtain ⟨ji61, hji61⟩ : ∃ j_ : Int, (wrap64 ((ji56) + 1)) = j_ := ⟨_, rfl⟩
    replace H : (if 0 ≤ (ji61) then (if (ji61) < (t449.length : Int) then (if (ji61) < (t455.length : Int) then (if ((rd t449 (ji61)) = (rd t455 (ji61))) then (skerrylaw22_clash.l0 k1 l0 l1 a2 t449 t455 (wrap64 ((t449.length : Int) / 2)) (wrap64 (x10_1 + 1))) else (if 0 ≤ x10_1 then (if x10_1 < (t455.length : Int) then (if (rd t449 x10_1) = (rd t455 x10_1) then (some true) else (skerrylaw22_clash.l0 k1 l0 l1 a2 t449 t455 (wrap64 ((t449.length : Int) / 2)) (wrap64 (x10_1 + 1)))) else (none)) else (none))) else (none)) else (none)) else (none)) = some r := by first | (rw [hji61] at H; exact H) | (simp only [hji61] at H ⊢; exact H)
    have hji61w : (IntKind.i64.wrap ((ji56) + 1)) = ji61 := (i64_w _).trans hji61
    (try rw [hji61] at hji56)
    (try rw [hji61] at hji56w)
    by_cases c62 : 0 ≤ (ji61)
    rotate_left
    ·
     rw [if_neg c62] at H
     exact absurd H (by simp)
    rw [if_pos c62] at H
    have c62b0 : decide (0 ≤ (ji61)) = true := decide_eq_true c62
    clear c62
    by_cases c63 : (ji61) < (t449.length : Int)
    rotate_left
    ·
     rw [if_neg c63] at H
     exact absurd H (by simp)
    rw [if_pos c63] at H
    have c63b0 : decide ((ji61) < (t449.length : Int)) = true := decide_eq_true c63
    clear c63
    by_cases c64 : (ji61) < (t455.length : Int)
    rotate_left
    ·
     rw [if_neg c64] at H
     exact absurd H (by simp)
    rw [if_pos c64] at H
    have c64b0 : decide ((ji61) < (t455.length : Int)) = true := decide_eq_true c64
    clear c64
    by_cases c65 : ((rd t449 (ji61)) = (rd t455 (ji61)))
    ·
     rw [if_pos c65] at H
     have c65b0 : ((rd t449 (ji61)) == (rd t455 (ji61))) = true := beq_iff_eq.mpr c65
     have c65b1 : ((rd t449 (ji61)) != (rd t455 (ji61))) = false := bne_eq_false_iff_eq.mpr c65
     clear c65
     have H' := Aside0.mk H
     clear H
     have p473 : 0 ≤ ((ji56) : Int) := of_decide_eq_true (by first | (with_reducible assumption) | assumption)
     have q473 : (ji56) < (t449.length : Int) := of_decide_eq_true (by first | (with_reducible assumption) | assumption)
     obtain ⟨ad473, e473, hx473_0⟩ := Kd.at_int (Kd.R_reads' HO_7.out).2.2 (ji56) p473 q473
     cases e473
     replace p473 := eq_true p473
     replace q473 := eq_true q473
     obtain ⟨Ao66, co66, eo66⟩ := Kd.R_slice HO_8.out
     subst eo66
     have p474 : 0 ≤ ((ji56) : Int) := of_decide_eq_true (by first | (with_reducible assumption) | assumption)
     have q474 : (ji56) < (t455.length : Int) := of_decide_eq_true (by first | (with_reducible assumption) | assumption)
     obtain ⟨ad474, e474, hx474_0⟩ := Kd.at_int (Kd.R_reads' HO_8.out).2.2 (ji56) p474 q474
     cases e474
     replace p474 := eq_true p474
     replace q474 := eq_true q474
     have p475 : 0 ≤ ((ji61) : Int) := of_decide_eq_true (by first | (with_reducible assumption) | assumption)
     have q475 : (ji61) < (t449.length : Int) := of_decide_eq_true (by first | (with_reducible assumption) | assumption)
     obtain ⟨ad475, e475, hx475_0⟩ := Kd.at_int (Kd.R_reads' HO_7.out).2.2 (ji61) p475 q475
     obtain rfl : ad473 = ad475 := (by injection e475)
     replace p475 := eq_true p475
     replace q475 := eq_true q475
     have p476 : 0 ≤ ((ji61) : Int) := of_decide_eq_true (by first | (with_reducible assumption) | assumption)
     have q476 : (ji61) < (t455.length : Int) := of_decide_eq_true (by first | (with_reducible assumption) | assumption)
     obtain ⟨ad476, e476, hx476_0⟩ := Kd.at_int (Kd.R_reads' HO_8.out).2.2 (ji61) p476 q476
     obtain rfl : ad474 = ad476 := (by injection e476)
     replace p476 := eq_true p476
     replace q476 := eq_true q476
     go_wp2
     repeat (go_quiet (fail); try go_wp2)
     go_roundg k1
     case measure => have := HK1.out; omega
     case rel => exact ⟨(wrap64 (x10_1 + 1)), (by first | rfl | (simp; done) | (simp [bne, *]; done)), H', ⟨by have := HK1.out; omega⟩, ⟨krW HO_7⟩, ⟨krW HO_8⟩, ⟨kwW HB⟩⟩
    ·
     rw [if_neg c65] at H
     have c65b0 : ((rd t449 (ji61)) == (rd t455 (ji61))) = false := beq_eq_false_iff_ne.mpr c65
     have c65b1 : ((rd t449 (ji61)) != (rd t455 (ji61))) = true := bne_iff_ne.mpr c65
     by_cases c67 : 0 ≤ x10_1
     rotate_left
     ·
      rw [if_neg c67] at H
      exact absurd H (by simp)
     rw [if_pos c67] at H
     have c67b0 : decide (0 ≤ x10_1) = true := decide_eq_true c67
     clear c67
     by_cases c68 : x10_1 < (t455.length : Int)
     rotate_left
     ·
      rw [if_neg c68] at H
      exact absurd H (by simp)
     rw [if_pos c68] at H
     have c68b0 : decide (x10_1 < (t455.length : Int)) = true := decide_eq_true c68
     clear c68
     by_cases c69 : (rd t449 x10_1) = (rd t455 x10_1)
     ·
      rw [if_pos c69] at H
      have c69b0 : ((rd t449 x10_1) == (rd t455 x10_1)) = true := beq_iff_eq.mpr c69
      have c69b1 : ((rd t449 x10_1) != (rd t455 x10_1)) = false := bne_eq_false_iff_eq.mpr c69
      clear c69
      obtain rfl := Option.some.inj H
      have p473 : 0 ≤ ((ji56) : Int) := of_decide_eq_true (by first | (with_reducible assumption) | assumption)
      have q473 : (ji56) < (t449.length : Int) := of_decide_eq_true (by first | (with_reducible assumption) | assumption)
      obtain ⟨ad473, e473, hx473_0⟩ := Kd.at_int (Kd.R_reads' HO_7.out).2.2 (ji56) p473 q473
      cases e473
      replace p473 := eq_true p473
      replace q473 := eq_true q473
      obtain ⟨Ao70, co70, eo70⟩ := Kd.R_slice HO_8.out
      subst eo70
      have p474 : 0 ≤ ((ji56) : Int) := of_decide_eq_true (by first | (with_reducible assumption) | assumption)
      have q474 : (ji56) < (t455.length : Int) := of_decide_eq_true (by first | (with_reducible assumption) | assumption)
      obtain ⟨ad474, e474, hx474_0⟩ := Kd.at_int (Kd.R_reads' HO_8.out).2.2 (ji56) p474 q474
      cases e474
      replace p474 := eq_true p474
      replace q474 := eq_true q474
      have p475 : 0 ≤ ((ji61) : Int) := of_decide_eq_true (by first | (with_reducible assumption) | assumption)
      have q475 : (ji61) < (t449.length : Int) := of_decide_eq_true (by first | (with_reducible assumption) | assumption)
      obtain ⟨ad475, e475, hx475_0⟩ := Kd.at_int (Kd.R_reads' HO_7.out).2.2 (ji61) p475 q475
      obtain rfl : ad473 = ad475 := (by injection e475)
      replace p475 := eq_true p475
      replace q475 := eq_true q475
      have p476 : 0 ≤ ((ji61) : Int) := of_decide_eq_true (by first | (with_reducible assumption) | assumption)
      have q476 : (ji61) < (t455.length : Int) := of_decide_eq_true (by first | (with_reducible assumption) | assumption)
      obtain ⟨ad476, e476, hx476_0⟩ := Kd.at_int (Kd.R_reads' HO_8.out).2.2 (ji61) p476 q476
      obtain rfl : ad474 = ad476 := (by injection e476)
      replace p476 := eq_true p476
      replace q476 := eq_true q476
      have p477 : 0 ≤ (x10_1 : Int) := of_decide_eq_true (by first | (with_reducible assumption) | assumption)
      have q477 : x10_1 < (t449.length : Int) := of_decide_eq_true (by first | (with_reducible assumption) | assumption)
      obtain ⟨ad477, e477, hx477_0⟩ := Kd.at_int (Kd.R_reads' HO_7.out).2.2 x10_1 p477 q477
      obtain rfl : ad473 = ad477 := (by injection e477)
      replace p477 := eq_true p477
      replace q477 := eq_true q477
      have p478 : 0 ≤ (x10_1 : Int) := of_decide_eq_true (by first | (with_reducible assumption) | assumption)
      have q478 : x10_1 < (t455.length : Int) := of_decide_eq_true (by first | (with_reducible assumption) | assumption)
      obtain ⟨ad478, e478, hx478_0⟩ := Kd.at_int (Kd.R_reads' HO_8.out).2.2 x10_1 p478 q478
      obtain rfl : ad474 = ad478 := (by injection e478)
      replace p478 := eq_true p478
      replace q478 := eq_true q478
      go_wp2
      repeat (go_quiet (fail); try go_wp2)
      go_ret
      exact ⟨by first | rfl | (simp [errW_none, errW_some] <;> rfl) | (simp only [← hji56, ← hji61]; first | rfl | (simp [errW_none, errW_some] <;> rfl)) | (simp [*, errW_none, errW_some] <;> rfl), kwW HB⟩
     ·
      rw [if_neg c69] at H
      have c69b0 : ((rd t449 x10_1) == (rd t455 x10_1)) = false := beq_eq_false_iff_ne.mpr c69
      have c69b1 : ((rd t449 x10_1) != (rd t455 x10_1)) = true := bne_iff_ne.mpr c69
      have H' := Aside0.mk H
      clear H
      have p473 : 0 ≤ ((ji56) : Int) := of_decide_eq_true (by first | (with_reducible assumption) | assumption)
      have q473 : (ji56) < (t449.length : Int) := of_decide_eq_true (by first | (with_reducible assumption) | assumption)
      obtain ⟨ad473, e473, hx473_0⟩ := Kd.at_int (Kd.R_reads' HO_7.out).2.2 (ji56) p473 q473
      cases e473
      replace p473 := eq_true p473
      replace q473 := eq_true q473
      obtain ⟨Ao71, co71, eo71⟩ := Kd.R_slice HO_8.out
      subst eo71
      have p474 : 0 ≤ ((ji56) : Int) := of_decide_eq_true (by first | (with_reducible assumption) | assumption)
      have q474 : (ji56) < (t455.length : Int) := of_decide_eq_true (by first | (with_reducible assumption) | assumption)
      obtain ⟨ad474, e474, hx474_0⟩ := Kd.at_int (Kd.R_reads' HO_8.out).2.2 (ji56) p474 q474
      cases e474
      replace p474 := eq_true p474
      replace q474 := eq_true q474
      have p475 : 0 ≤ ((ji61) : Int) := of_decide_eq_true (by first | (with_reducible assumption) | assumption)
      have q475 : (ji61) < (t449.length : Int) := of_decide_eq_true (by first | (with_reducible assumption) | assumption)
      obtain ⟨ad475, e475, hx475_0⟩ := Kd.at_int (Kd.R_reads' HO_7.out).2.2 (ji61) p475 q475
      obtain rfl : ad473 = ad475 := (by injection e475)
      replace p475 := eq_true p475
      replace q475 := eq_true q475
      have p476 : 0 ≤ ((ji61) : Int) := of_decide_eq_true (by first | (with_reducible assumption) | assumption)
      have q476 : (ji61) < (t455.length : Int) := of_decide_eq_true (by first | (with_reducible assumption) | assumption)
      obtain ⟨ad476, e476, hx476_0⟩ := Kd.at_int (Kd.R_reads' HO_8.out).2.2 (ji61) p476 q476
      obtain rfl : ad474 = ad476 := (by injection e476)
      replace p476 := eq_true p476
      replace q476 := eq_true q476
      have p477 : 0 ≤ (x10_1 : Int) := of_decide_eq_true (by first | (with_reducible assumption) | assumption)
      have q477 : x10_1 < (t449.length : Int) := of_decide_eq_true (by first | (with_reducible assumption) | assumption)
      obtain ⟨ad477, e477, hx477_0⟩ := Kd.at_int (Kd.R_reads' HO_7.out).2.2 x10_1 p477 q477
      obtain rfl : ad473 = ad477 := (by injection e477)
      replace p477 := eq_true p477
      replace q477 := eq_true q477
      have p478 : 0 ≤ (x10_1 : Int) := of_decide_eq_true (by first | (with_reducible assumption) | assumption)
      have q478 : x10_1 < (t455.length : Int) := of_decide_eq_true (by first | (with_reducible assumption) | assumption)
      obtain ⟨ad478, e478, hx478_0⟩ := Kd.at_int (Kd.R_reads' HO_8.out).2.2 x10_1 p478 q478
      obtain rfl : ad474 = ad478 := (by injection e478)
      replace p478 := eq_true p478
      replace q478 := eq_true q478
      go_wp2
      repeat (go_quiet (fail); try go_wp2)
      go_roundg k1
      case measure => have := HK1.out; omega
      case rel => exact ⟨(wrap64 (x10_1 + 1)), (by first | rfl | (simp; done) | (simp [bne, *]; done)), H', ⟨by have := HK1.out; omega⟩, ⟨krW HO_7⟩, ⟨krW HO_8⟩, ⟨kwW HB⟩⟩
end Go.Proofs.Ytafhnjlihhfoaaa.Q
