/- Lemmas for this claim's walk: no condition of their own. -/
import Derived.Test.YtfaogccfiklinaaDoorKbSq
import Derived.Lib.SlBytesConst
import Derived.Test.YtfaogccfiklinaaDoorKbQx0
import Derived.Test.YtfaogccfiklinaaDoorKbJ12
import Derived.Test.YtfaogccfiklinaaDoorKbQx16
import Derived.Test.YtfaogccfiklinaaDoorKbQx18
import Derived.Test.YtfaogccfiklinaaDoorKbQx19
import Derived.Test.YtfaogccfiklinaaDoorKbQx23
namespace Go.Proofs.YtfaogccfiklinaaDoor.Q
open Go.RowKit Go.Proofs.YtfaogccfiklinaaDoorW.PrintWords Go.Proofs.YtfaogccfiklinaaDoorW.PrintLast Go.Proofs.YtfaogccfiklinaaDoorW.PrintMore
attribute [local go_sem] max2_int min2_int max_two min_two max_three min_three max_four min_four
set_option linter.unusedVariables false
set_option linter.unusedSimpArgs false
mutual
def skerryref18_one.j1 : Nat → ByteArray → Int → Int → Option (Int × ByteArray × Int × Int × ByteArray × Int × Int × Int)
 | 0, _, _, _ => none
 | k + 1, x0, x1, x6 => (some (([61, 60, 40, 41, 44, 42] : List Int) : List Int)).bind fun y303 => (skerryref18_one.l0 k x0 x1 x6 y303 (y303.length : Int) 0)
def skerryref18_one.l0 : Nat → ByteArray → Int → Int → List Int → Int → Int → Option (Int × ByteArray × Int × Int × ByteArray × Int × Int × Int)
 | 0, _, _, _, _, _, _ => none
 | k + 1, x0, x1, x6, x74, x75, x76 => if x76 < x75 then (if 0 ≤ x76 then (if x76 < (x74.length : Int) then (if x6 = (rd x74 x76) then (if 0 ≤ x1 then (if x1 ≤ (wrap64 (x1 + 1)) then (if (wrap64 (x1 + 1)) ≤ (x0.size : Int) then (some (1, x0.extract (x1 : Int).toNat ((wrap64 (x1 + 1)) : Int).toNat, 0, 0, (⟨#[]⟩ : ByteArray), x1, wrap64 (x1 + 1), (-1))) else (none)) else (none)) else (none)) else (skerryref18_one.l0 k x0 x1 x6 x74 x75 (wrap64 (x76 + 1)))) else (none)) else (none)) else (some (0, (⟨#[]⟩ : ByteArray), 0, 0, (⟨#[]⟩ : ByteArray), 0, 0, x1))
def skerryref18_one.j0 : Nat → ByteArray → Int → Int → Bool → Option (Int × ByteArray × Int × Int × ByteArray × Int × Int × Int)
 | 0, _, _, _, _ => none
 | k + 1, x0, x1, x6, x12 => if x12 = true then ((skerryref18_number.f k x0 x1).bind fun bt278 => (some (bt278.1, bt278.2.1, bt278.2.2.1, bt278.2.2.2.1, bt278.2.2.2.2.1, bt278.2.2.2.2.2.1, bt278.2.2.2.2.2.2.1, bt278.2.2.2.2.2.2.2))) else (if x6 = 39 then ((skerryref18_quoted.f k x0 x1).bind fun bt286 => (some (bt286.1, bt286.2.1, bt286.2.2.1, bt286.2.2.2.1, bt286.2.2.2.2.1, bt286.2.2.2.2.2.1, bt286.2.2.2.2.2.2.1, bt286.2.2.2.2.2.2.2))) else ((skerryref18_letter.f x6).bind fun t294 => (if t294 = true then ((skerryref18_word.f k x0 x1).bind fun bt295 => (some (bt295.1, bt295.2.1, bt295.2.2.1, bt295.2.2.2.1, bt295.2.2.2.2.1, bt295.2.2.2.2.2.1, bt295.2.2.2.2.2.2.1, bt295.2.2.2.2.2.2.2))) else (if x6 = 62 then (if (wrap64 (x1 + 1)) < (x0.size : Int) then (if 0 ≤ (wrap64 (x1 + 1)) then (if (bt x0 (wrap64 (x1 + 1))) = 61 then (some (1, (⟨#[62, 61]⟩ : ByteArray), 0, 0, (⟨#[]⟩ : ByteArray), x1, wrap64 (x1 + 2), (-1))) else (skerryref18_one.j1 k x0 x1 x6)) else (none)) else (skerryref18_one.j1 k x0 x1 x6)) else (skerryref18_one.j1 k x0 x1 x6)))))
end
def skerryref18_one.f (k : Nat) (a0 : ByteArray) (a1 : Int) : Option (Int × ByteArray × Int × Int × ByteArray × Int × Int × Int) := if 0 ≤ a1 then (if a1 < (a0.size : Int) then ((skerryref18_digit.f (bt a0 a1)).bind fun t276 => (if t276 = true then (skerryref18_one.j0 k a0 a1 (bt a0 a1) t276) else (if (bt a0 a1) = 45 then (if (wrap64 (a1 + 1)) < (a0.size : Int) then (if 0 ≤ (wrap64 (a1 + 1)) then ((skerryref18_digit.f (bt a0 (wrap64 (a1 + 1)))).bind fun t277 => (skerryref18_one.j0 k a0 a1 (bt a0 a1) t277)) else (none)) else (skerryref18_one.j0 k a0 a1 (bt a0 a1) false)) else (skerryref18_one.j0 k a0 a1 (bt a0 a1) false)))) else (none)) else (none)
set_option maxHeartbeats 8000000 in
set_option maxRecDepth 100000 in
theorem skerryref18_one.calls (k : Nat) (a0 : ByteArray) (a1 : Int) (r1 : Int) (r2 : ByteArray) (r3 : Int) (r4 : Int) (r5 : ByteArray) (r6 : Int) (r7 : Int) (r8 : Int) (w : World) (h : skerryref18_one.f k a0 a1 = some (r1, r2, r3, r4, r5, r6, r7, r8)) :
  Calls Tryd.prog 22 #[.string a0, .int .i64 a1] w fun e w' => e = .returned (.tuple #[.agg #[.int .i64 r1, .string r2, .int .i64 r3, .int .i64 r4, .string r5, .int .i64 r6, .int .i64 r7], .int .i64 r8]) ∧ Below w.heap.size w w' := by
 have hu29 := Tryd.underlying29
 have HB := Aside0.mk (Below.refl w.heap.size w)
 have H : (if 0 ≤ a1 then (if a1 < (a0.size : Int) then ((skerryref18_digit.f (bt a0 a1)).bind fun t276 => (if t276 = true then (skerryref18_one.j0 k a0 a1 (bt a0 a1) t276) else (if (bt a0 a1) = 45 then (if (wrap64 (a1 + 1)) < (a0.size : Int) then (if 0 ≤ (wrap64 (a1 + 1)) then ((skerryref18_digit.f (bt a0 (wrap64 (a1 + 1)))).bind fun t277 => (skerryref18_one.j0 k a0 a1 (bt a0 a1) t277)) else (none)) else (skerryref18_one.j0 k a0 a1 (bt a0 a1) false)) else (skerryref18_one.j0 k a0 a1 (bt a0 a1) false)))) else (none)) else (none)) = some (r1, r2, r3, r4, r5, r6, r7, r8) := h
 clear h
 by_cases c3 : 0 ≤ a1
 rotate_left
 ·
  rw [if_neg c3] at H
  exact absurd H (by simp)
 rw [if_pos c3] at H
 have c3b0 : decide (0 ≤ a1) = true := decide_eq_true c3
 clear c3
 by_cases c4 : a1 < (a0.size : Int)
 rotate_left
 ·
  rw [if_neg c4] at H
  exact absurd H (by simp)
 rw [if_pos c4] at H
 have c4b0 : decide (a1 < (a0.size : Int)) = true := decide_eq_true c4
 clear c4
 have HC6 := Aside0.mk H
 clear H
 go_enter Tryd.func22, Tryd.ntmps22
 go_upto_block 0 with (first | ((with_reducible refine gate_dst (N := 4) rfl ?_); (try (refine gate_guard (by rfl) ?_; dsimp only)); refine box_event ?hg (N := 4) ?hd (cs := #[.int .i64 0, .string (⟨#[]⟩ : ByteArray), .int .i64 0, .int .i64 0, .string (⟨#[]⟩ : ByteArray), .int .i64 0, .int .i64 0]) (t := 29) ?hr ?_; (case hd => rfl); (case hg => rfl); (case hr => first | (go_simp; done) | (go_simp; rfl)); intro gb275 hg w7 hbox hb; have BK275 := Aside0.mk (hbox); have GW275 := Aside0.mk ((by rw [hg]; exact (bZ_ (kwW HB)) : w.heap.size ≤ gb275)); replace HB := Aside0.mk (below_step (kwW HB) hb); have GE275 := GW275; clear hb hbox hg; have p5 : 0 ≤ (a1 : Int) := of_decide_eq_true (by first | (with_reducible assumption) | assumption); have q5 : a1 < (a0.size : Int) := of_decide_eq_true (by first | (with_reducible assumption) | assumption); have hx5 := bt_at a0 a1; replace p5 := eq_true p5; replace q5 := eq_true q5))
 (try simp only [Act.put, List.setIfInBounds_toArray, List.set_cons_zero, List.set_cons_succ])
 go_cut [] (fun wc => ∃ (kq : Nat) (x276000_5 : Int) (x276001_5 : ByteArray) (x276002_5 : Int) (x276003_5 : Int) (x276004_5 : ByteArray) (x276005_5 : Int) (x276006_5 : Int), Aside0 (skerryref18_one.j1 kq a0 a1 (bt a0 a1) = some (r1, r2, r3, r4, r5, r6, r7, r8)) ∧ Aside0 (kq ≤ k) ∧ Aside0 (wc.heap[gb275]? = some (.cells #[.int .i64 x276000_5, .string x276001_5, .int .i64 x276002_5, .int .i64 x276003_5, .string x276004_5, .int .i64 x276005_5, .int .i64 x276006_5] 29 (0, 0))) ∧ Aside0 (Below w.heap.size w wc))
 case first =>
  have H := HC6.out
  clear HC6
  replace H := Option.bind_eq_some_iff.mp H
  obtain ⟨t276, A80, H⟩ := H
  have A8 := Aside0.mk A80
  clear A80
  have HC9 := Aside0.mk H
  clear H
  go_upto_if 12 with (first | ((with_reducible refine gate_callee (f := 36) rfl ?_); refine goesL_ (some 14) rfl rfl Tryd.func36 (by kernel_rfl) rfl #[.int .u8 (bt a0 a1)] rfl (by (try simp only [mT_, mC_, mN_]); first | done | rfl) ?_; (with_reducible refine (skerryref18_digit.calls (bt a0 a1) t276 _ A8.out).mono ?_); rintro e w' ⟨rfl, ⟨nd, rfl⟩⟩; refine ⟨_, rfl, ?_⟩))
  (try simp only [Act.put, List.setIfInBounds_toArray, List.set_cons_zero, List.set_cons_succ])
  go_cut [12] (fun v12 wc => ∃ (kq : Nat) (x12_8 : Bool), v12 = .bool x12_8 ∧ Aside0 (skerryref18_one.j0 kq a0 a1 (bt a0 a1) x12_8 = some (r1, r2, r3, r4, r5, r6, r7, r8)) ∧ Aside0 (kq ≤ k) ∧ Aside0 (wc.heap[gb275]? = some (.cells #[.int .i64 0, .string (⟨#[]⟩ : ByteArray), .int .i64 0, .int .i64 0, .string (⟨#[]⟩ : ByteArray), .int .i64 0, .int .i64 0] 29 (0, 0))) ∧ Aside0 (Below w.heap.size w wc))
  case first =>
   have H := HC9.out
   clear HC9
   by_cases c10 : t276 = true
   ·
    subst c10
    have H1 : (skerryref18_one.j0 k a0 a1 (bt a0 a1) true) = some (r1, r2, r3, r4, r5, r6, r7, r8) := by rw [if_pos rfl] at H; exact H
    clear H
    have H := H1
    clear H1
    have H' := Aside0.mk H
    clear H
    go_wp2
    go_meet
    case rel => exact ⟨_, (true), (by first | rfl | (simp; done) | (simp [bne, *]; done)), H', ⟨by first | omega | exact Nat.le_refl _⟩, ⟨by (with_reducible repeat (first | refine blk_drewN ?_ _ | refine blk_drew ?_ | refine blk_alloc ?_ _)); exact BK275.out⟩, ⟨by repeat (first | (with_reducible first | exact HB.out | apply bA_ | apply bN_ | apply bD_ | refine bS_ ?_ GE275) | exact HB.out)⟩⟩
   ·
    replace c10 := Bool.eq_false_iff.mpr c10
    subst c10
    have H1 : (if (bt a0 a1) = 45 then (if (wrap64 (a1 + 1)) < (a0.size : Int) then (if 0 ≤ (wrap64 (a1 + 1)) then ((skerryref18_digit.f (bt a0 (wrap64 (a1 + 1)))).bind fun t277 => (skerryref18_one.j0 k a0 a1 (bt a0 a1) t277)) else (none)) else (skerryref18_one.j0 k a0 a1 (bt a0 a1) false)) else (skerryref18_one.j0 k a0 a1 (bt a0 a1) false)) = some (r1, r2, r3, r4, r5, r6, r7, r8) := by rw [if_neg (show ¬ (false = true) by decide)] at H; exact H
    clear H
    have H := H1
    clear H1
    by_cases c11 : (bt a0 a1) = 45
    rotate_left
    ·
     rw [if_neg c11] at H
     have c11b0 : ((bt a0 a1) == 45) = false := beq_eq_false_iff_ne.mpr c11
     have c11b1 : ((bt a0 a1) != 45) = true := bne_iff_ne.mpr c11
     (first | rw [c11b0] | (simp only [i64_w, i32_w]; rw [c11b0]) | skip)
     have H' := Aside0.mk H
     clear H
     go_wp2
     go_meet
     case rel => exact ⟨_, (false), (by first | rfl | (simp; done) | (simp [bne, *]; done)), H', ⟨by first | omega | exact Nat.le_refl _⟩, ⟨by (with_reducible repeat (first | refine blk_drewN ?_ _ | refine blk_drew ?_ | refine blk_alloc ?_ _)); exact BK275.out⟩, ⟨by repeat (first | (with_reducible first | exact HB.out | apply bA_ | apply bN_ | apply bD_ | refine bS_ ?_ GE275) | exact HB.out)⟩⟩
    rw [if_pos c11] at H
    have c11b0 : ((bt a0 a1) == 45) = true := beq_iff_eq.mpr c11
    have c11b1 : ((bt a0 a1) != 45) = false := bne_eq_false_iff_eq.mpr c11
    clear c11
    (first | rw [c11b0] | (simp only [i64_w, i32_w]; rw [c11b0]) | skip)
    by_cases c12 : (wrap64 (a1 + 1)) < (a0.size : Int)
    rotate_left
    ·
     rw [if_neg c12] at H
     have c12b0 : decide ((wrap64 (a1 + 1)) < (a0.size : Int)) = false := decide_eq_false c12
     clear c12
     have H' := Aside0.mk H
     clear H
     go_wp2
     go_meet
     case rel => exact ⟨_, (false), (by first | rfl | (simp; done) | (simp [bne, *]; done)), H', ⟨by first | omega | exact Nat.le_refl _⟩, ⟨by (with_reducible repeat (first | refine blk_drewN ?_ _ | refine blk_drew ?_ | refine blk_alloc ?_ _)); exact BK275.out⟩, ⟨by repeat (first | (with_reducible first | exact HB.out | apply bA_ | apply bN_ | apply bD_ | refine bS_ ?_ GE275) | exact HB.out)⟩⟩
    rw [if_pos c12] at H
    have c12b0 : decide ((wrap64 (a1 + 1)) < (a0.size : Int)) = true := decide_eq_true c12
    clear c12
    obtain ⟨ji13, hji13⟩ : ∃ j_ : Int, (wrap64 (a1 + 1)) = j_ := ⟨_, rfl⟩
    replace H : (if 0 ≤ (ji13) then ((skerryref18_digit.f (bt a0 (ji13))).bind fun t277 => (skerryref18_one.j0 k a0 a1 (bt a0 a1) t277)) else (none)) = some (r1, r2, r3, r4, r5, r6, r7, r8) := by first | (rw [hji13] at H; exact H) | (simp only [hji13] at H ⊢; exact H)
    (try rw [hji13] at c12b0)
    have hji13w : (IntKind.i64.wrap (a1 + 1)) = ji13 := (i64_w _).trans hji13
    by_cases c14 : 0 ≤ (ji13)
    rotate_left
    ·
     rw [if_neg c14] at H
     exact absurd H (by simp)
    rw [if_pos c14] at H
    have c14b0 : decide (0 ≤ (ji13)) = true := decide_eq_true c14
    clear c14
    replace H := Option.bind_eq_some_iff.mp H
    obtain ⟨t277, A160, H⟩ := H
    have A16 := Aside0.mk A160
    clear A160
    have H' := Aside0.mk H
    clear H
    have p15 : 0 ≤ ((ji13) : Int) := of_decide_eq_true (by first | (with_reducible assumption) | assumption)
    have q15 : (ji13) < (a0.size : Int) := of_decide_eq_true (by first | (with_reducible assumption) | assumption)
    have hx15 := bt_at a0 (ji13)
    replace p15 := eq_true p15
    replace q15 := eq_true q15
    go_wp2_with (first | (go_at_call 36; (with_reducible refine (skerryref18_digit.calls (bt a0 (ji13)) t277 _ A16.out).mono ?_); rintro e w' ⟨rfl, ⟨nd, rfl⟩⟩))
    go_meet
    case rel => exact ⟨_, (t277), (by first | rfl | (simp; done) | (simp [bne, *]; done)), H', ⟨by first | omega | exact Nat.le_refl _⟩, ⟨by (with_reducible repeat (first | refine blk_drewN ?_ _ | refine blk_drew ?_ | refine blk_alloc ?_ _)); exact BK275.out⟩, ⟨by repeat (first | (with_reducible first | exact HB.out | apply bA_ | apply bN_ | apply bD_ | refine bS_ ?_ GE275) | exact HB.out)⟩⟩
  case rest =>
   clear HC9
   try clear c1
   try clear p1
   try clear q1
   try clear hx1
   try clear c2
   try clear p2
   try clear c3
   try clear c3b0
   try clear c4
   try clear c4b0
   try clear p5
   try clear q5
   try clear hx5
   try clear p6
   try clear c10
   try clear c11
   try clear c11b0
   try clear c11b1
   try clear c12
   try clear c12b0
   try clear c14
   try clear c14b0
   try clear p15
   try clear q15
   try clear hx15
   try clear p15
   try clear p5
   try clear q15
   try clear q5
   obtain ⟨kq, x12_8, rfl, HA, HJ8, BK275, HB⟩ := hcut
   cases kq with
   | zero => exact absurd HA.out (by simp [skerryref18_one.j0])
   | succ kj8 =>
    have H := HA.out
    clear HA
    simp only [skerryref18_one.j0] at H
    by_cases c17 : x12_8 = true
    ·
     subst c17
     have H1 : ((skerryref18_number.f kj8 a0 a1).bind fun bt278 => (some (bt278.1, bt278.2.1, bt278.2.2.1, bt278.2.2.2.1, bt278.2.2.2.2.1, bt278.2.2.2.2.2.1, bt278.2.2.2.2.2.2.1, bt278.2.2.2.2.2.2.2))) = some (r1, r2, r3, r4, r5, r6, r7, r8) := by rw [if_pos rfl] at H; exact H
     clear H
     have H := H1
     clear H1
     replace H := Option.bind_eq_some_iff.mp H
     obtain ⟨⟨t278, t279, t280, t281, t282, t283, t284, t285⟩, A180, H⟩ := H
     have A18 := Aside0.mk A180
     clear A180
     simp only [Option.some.injEq, Prod.mk.injEq] at H
     obtain ⟨rfl, rfl, rfl, rfl, rfl, rfl, rfl, rfl⟩ := H
     go_wp2_with (first | ((with_reducible refine gate_callee (f := 37) rfl ?_); refine goesL_ (some 33) rfl rfl Tryd.func37 (by kernel_rfl) rfl #[.string a0, .int .i64 a1] rfl (by (try simp only [mT_, mC_, mN_]); first | done | rfl) ?_; (with_reducible refine (skerryref18_number.calls kj8 a0 a1 t278 t279 t280 t281 t282 t283 t284 t285 _ A18.out).mono ?_); rintro e w19 ⟨rfl, hb⟩; refine ⟨_, rfl, ?_⟩; replace BK275 := kB BK275 hb; replace HB := Aside0.mk (below_step (by repeat (first | (with_reducible first | exact HB.out | apply bA_ | apply bN_ | apply bD_ | refine bS_ ?_ GE275) | exact HB.out)) hb); (try clear hb); (try clear hb2); (try clear hk); (try clear hi); obtain ⟨hcz20_0, hcz20_1, hcz20_2, hcz20_3, hcz20_4, hcz20_5, hcz20_6, hfz20_0, hfz20_1, hfz20_2, hfz20_3, hfz20_4, hfz20_5, hfz20_6⟩ := czf7 BK275))
     refine bodyPost_ret (results_ct rfl _ _ gb275 29 #[.int .i64 t278, .string t279, .int .i64 t280, .int .i64 t281, .string t282, .int .i64 t283, .int .i64 t284] (0, 0) _ rfl (by (with_reducible repeat (first | refine blk_drewN ?_ _ | refine blk_drew ?_ | refine blk_alloc ?_ _)); exact bp7 (kbW BK275)) Tryd.underlying29 rfl (by kernel_rfl)) rfl ?_
     exact ⟨by first | rfl | (simp <;> rfl) | (simp [*] <;> rfl), by repeat (first | (with_reducible first | exact HB.out | apply bA_ | apply bN_ | apply bD_ | refine bS_ ?_ GE275) | exact HB.out)⟩
    ·
     replace c17 := Bool.eq_false_iff.mpr c17
     subst c17
     have H1 : (if (bt a0 a1) = 39 then ((skerryref18_quoted.f kj8 a0 a1).bind fun bt286 => (some (bt286.1, bt286.2.1, bt286.2.2.1, bt286.2.2.2.1, bt286.2.2.2.2.1, bt286.2.2.2.2.2.1, bt286.2.2.2.2.2.2.1, bt286.2.2.2.2.2.2.2))) else ((skerryref18_letter.f (bt a0 a1)).bind fun t294 => (if t294 = true then ((skerryref18_word.f kj8 a0 a1).bind fun bt295 => (some (bt295.1, bt295.2.1, bt295.2.2.1, bt295.2.2.2.1, bt295.2.2.2.2.1, bt295.2.2.2.2.2.1, bt295.2.2.2.2.2.2.1, bt295.2.2.2.2.2.2.2))) else (if (bt a0 a1) = 62 then (if (wrap64 (a1 + 1)) < (a0.size : Int) then (if 0 ≤ (wrap64 (a1 + 1)) then (if (bt a0 (wrap64 (a1 + 1))) = 61 then (some (1, (⟨#[62, 61]⟩ : ByteArray), 0, 0, (⟨#[]⟩ : ByteArray), a1, wrap64 (a1 + 2), (-1))) else (skerryref18_one.j1 kj8 a0 a1 (bt a0 a1))) else (none)) else (skerryref18_one.j1 kj8 a0 a1 (bt a0 a1))) else (skerryref18_one.j1 kj8 a0 a1 (bt a0 a1)))))) = some (r1, r2, r3, r4, r5, r6, r7, r8) := by rw [if_neg (show ¬ (false = true) by decide)] at H; exact H
     clear H
     have H := H1
     clear H1
     by_cases c21 : (bt a0 a1) = 39
     ·
      rw [if_pos c21] at H
      have c21b0 : ((bt a0 a1) == 39) = true := beq_iff_eq.mpr c21
      have c21b1 : ((bt a0 a1) != 39) = false := bne_eq_false_iff_eq.mpr c21
      clear c21
      replace H := Option.bind_eq_some_iff.mp H
      obtain ⟨⟨t286, t287, t288, t289, t290, t291, t292, t293⟩, A220, H⟩ := H
      have A22 := Aside0.mk A220
      clear A220
      simp only [Option.some.injEq, Prod.mk.injEq] at H
      obtain ⟨rfl, rfl, rfl, rfl, rfl, rfl, rfl, rfl⟩ := H
      go_wp2_with (first | ((with_reducible refine gate_callee (f := 38) rfl ?_); refine goesL_ (some 41) rfl rfl Tryd.func38 (by kernel_rfl) rfl #[.string a0, .int .i64 a1] rfl (by (try simp only [mT_, mC_, mN_]); first | done | rfl) ?_; (with_reducible refine (skerryref18_quoted.calls kj8 a0 a1 t286 t287 t288 t289 t290 t291 t292 t293 _ A22.out).mono ?_); rintro e w23 ⟨rfl, hb⟩; refine ⟨_, rfl, ?_⟩; replace BK275 := kB BK275 hb; replace HB := Aside0.mk (below_step (by repeat (first | (with_reducible first | exact HB.out | apply bA_ | apply bN_ | apply bD_ | refine bS_ ?_ GE275) | exact HB.out)) hb); (try clear hb); (try clear hb2); (try clear hk); (try clear hi); obtain ⟨hcz24_0, hcz24_1, hcz24_2, hcz24_3, hcz24_4, hcz24_5, hcz24_6, hfz24_0, hfz24_1, hfz24_2, hfz24_3, hfz24_4, hfz24_5, hfz24_6⟩ := czf7 BK275))
      refine bodyPost_ret (results_ct rfl _ _ gb275 29 #[.int .i64 t286, .string t287, .int .i64 t288, .int .i64 t289, .string t290, .int .i64 t291, .int .i64 t292] (0, 0) _ rfl (by (with_reducible repeat (first | refine blk_drewN ?_ _ | refine blk_drew ?_ | refine blk_alloc ?_ _)); exact bp7 (kbW BK275)) Tryd.underlying29 rfl (by kernel_rfl)) rfl ?_
      exact ⟨by first | rfl | (simp <;> rfl) | (simp [*] <;> rfl), by repeat (first | (with_reducible first | exact HB.out | apply bA_ | apply bN_ | apply bD_ | refine bS_ ?_ GE275) | exact HB.out)⟩
     ·
      rw [if_neg c21] at H
      have c21b0 : ((bt a0 a1) == 39) = false := beq_eq_false_iff_ne.mpr c21
      have c21b1 : ((bt a0 a1) != 39) = true := bne_iff_ne.mpr c21
      replace H := Option.bind_eq_some_iff.mp H
      obtain ⟨t294, A250, H⟩ := H
      have A25 := Aside0.mk A250
      clear A250
      by_cases c26 : t294 = true
      ·
       subst c26
       have H1 : ((skerryref18_word.f kj8 a0 a1).bind fun bt295 => (some (bt295.1, bt295.2.1, bt295.2.2.1, bt295.2.2.2.1, bt295.2.2.2.2.1, bt295.2.2.2.2.2.1, bt295.2.2.2.2.2.2.1, bt295.2.2.2.2.2.2.2))) = some (r1, r2, r3, r4, r5, r6, r7, r8) := by rw [if_pos rfl] at H; exact H
       clear H
       have H := H1
       clear H1
       replace H := Option.bind_eq_some_iff.mp H
       obtain ⟨⟨t295, t296, t297, t298, t299, t300, t301, t302⟩, A270, H⟩ := H
       have A27 := Aside0.mk A270
       clear A270
       simp only [Option.some.injEq, Prod.mk.injEq] at H
       obtain ⟨rfl, rfl, rfl, rfl, rfl, rfl, rfl, rfl⟩ := H
       go_wp2_with (first | ((with_reducible refine gate_callee (f := 39) rfl ?_); refine goesL_ (some 46) rfl rfl Tryd.func39 (by kernel_rfl) rfl #[.int .u8 (bt a0 a1)] rfl (by (try simp only [mT_, mC_, mN_]); first | done | rfl) ?_; (with_reducible refine (skerryref18_letter.calls (bt a0 a1) true _ A25.out).mono ?_); rintro e w' ⟨rfl, ⟨nd, rfl⟩⟩; refine ⟨_, rfl, ?_⟩; (try (rw [drewN_self wc]; generalize hq_ : World.drewN wc _ = wc; have n0_ : Aside0 (wc.heap[gb275]? = some (.cells #[.int .i64 0, .string (⟨#[]⟩ : ByteArray), .int .i64 0, .int .i64 0, .string (⟨#[]⟩ : ByteArray), .int .i64 0, .int .i64 0] 29 (0, 0))) := ⟨by rw [← hq_]; exact (kbW BK275)⟩; have n1_ : Aside0 (Below w.heap.size w wc) := ⟨by rw [← hq_]; exact (by repeat (first | (with_reducible first | exact HB.out | apply bA_ | apply bN_ | apply bD_ | refine bS_ ?_ GE275) | exact HB.out))⟩; clear BK275 HB hq_; have BK275 := n0_; have HB := n1_; clear n0_ n1_))) | ((with_reducible refine gate_callee (f := 40) rfl ?_); refine goesL_ (some 49) rfl rfl Tryd.func40 (by kernel_rfl) rfl #[.string a0, .int .i64 a1] rfl (by (try simp only [mT_, mC_, mN_]); first | done | rfl) ?_; (with_reducible refine (skerryref18_word.calls kj8 a0 a1 t295 t296 t297 t298 t299 t300 t301 t302 _ A27.out).mono ?_); rintro e w28 ⟨rfl, hb⟩; refine ⟨_, rfl, ?_⟩; replace BK275 := kB BK275 hb; replace HB := Aside0.mk (below_step (by repeat (first | (with_reducible first | exact HB.out | apply bA_ | apply bN_ | apply bD_ | refine bS_ ?_ GE275) | exact HB.out)) hb); (try clear hb); (try clear hb2); (try clear hk); (try clear hi); obtain ⟨hcz29_0, hcz29_1, hcz29_2, hcz29_3, hcz29_4, hcz29_5, hcz29_6, hfz29_0, hfz29_1, hfz29_2, hfz29_3, hfz29_4, hfz29_5, hfz29_6⟩ := czf7 BK275))
       refine bodyPost_ret (results_ct rfl _ _ gb275 29 #[.int .i64 t295, .string t296, .int .i64 t297, .int .i64 t298, .string t299, .int .i64 t300, .int .i64 t301] (0, 0) _ rfl (by (with_reducible repeat (first | refine blk_drewN ?_ _ | refine blk_drew ?_ | refine blk_alloc ?_ _)); exact bp7 (kbW BK275)) Tryd.underlying29 rfl (by kernel_rfl)) rfl ?_
       exact ⟨by first | rfl | (simp <;> rfl) | (simp [*] <;> rfl), by repeat (first | (with_reducible first | exact HB.out | apply bA_ | apply bN_ | apply bD_ | refine bS_ ?_ GE275) | exact HB.out)⟩
      ·
       replace c26 := Bool.eq_false_iff.mpr c26
       subst c26
       have H1 : (if (bt a0 a1) = 62 then (if (wrap64 (a1 + 1)) < (a0.size : Int) then (if 0 ≤ (wrap64 (a1 + 1)) then (if (bt a0 (wrap64 (a1 + 1))) = 61 then (some (1, (⟨#[62, 61]⟩ : ByteArray), 0, 0, (⟨#[]⟩ : ByteArray), a1, wrap64 (a1 + 2), (-1))) else (skerryref18_one.j1 kj8 a0 a1 (bt a0 a1))) else (none)) else (skerryref18_one.j1 kj8 a0 a1 (bt a0 a1))) else (skerryref18_one.j1 kj8 a0 a1 (bt a0 a1))) = some (r1, r2, r3, r4, r5, r6, r7, r8) := by rw [if_neg (show ¬ (false = true) by decide)] at H; exact H
       clear H
       have H := H1
       clear H1
       by_cases c30 : (bt a0 a1) = 62
       rotate_left
       ·
        rw [if_neg c30] at H
        have c30b0 : ((bt a0 a1) == 62) = false := beq_eq_false_iff_ne.mpr c30
        have c30b1 : ((bt a0 a1) != 62) = true := bne_iff_ne.mpr c30
        have H' := Aside0.mk H
        clear H
        go_wp2_with (first | ((with_reducible refine gate_callee (f := 39) rfl ?_); refine goesL_ (some 46) rfl rfl Tryd.func39 (by kernel_rfl) rfl #[.int .u8 (bt a0 a1)] rfl (by (try simp only [mT_, mC_, mN_]); first | done | rfl) ?_; (with_reducible refine (skerryref18_letter.calls (bt a0 a1) false _ A25.out).mono ?_); rintro e w' ⟨rfl, ⟨nd, rfl⟩⟩; refine ⟨_, rfl, ?_⟩))
        go_meet
        case rel => exact ⟨_, (0), ((⟨#[]⟩ : ByteArray)), (0), (0), ((⟨#[]⟩ : ByteArray)), (0), (0), H', ⟨by have := HJ8.out; first | omega | exact Nat.le_refl _⟩, ⟨by (with_reducible repeat (first | refine blk_drewN ?_ _ | refine blk_drew ?_ | refine blk_alloc ?_ _)); exact BK275.out⟩, ⟨by repeat (first | (with_reducible first | exact HB.out | apply bA_ | apply bN_ | apply bD_ | refine bS_ ?_ GE275) | exact HB.out)⟩⟩
       rw [if_pos c30] at H
       have c30b0 : ((bt a0 a1) == 62) = true := beq_iff_eq.mpr c30
       have c30b1 : ((bt a0 a1) != 62) = false := bne_eq_false_iff_eq.mpr c30
       clear c30
       by_cases c31 : (wrap64 (a1 + 1)) < (a0.size : Int)
       rotate_left
       ·
        rw [if_neg c31] at H
        have c31b0 : decide ((wrap64 (a1 + 1)) < (a0.size : Int)) = false := decide_eq_false c31
        clear c31
        have H' := Aside0.mk H
        clear H
        go_wp2_with (first | ((with_reducible refine gate_callee (f := 39) rfl ?_); refine goesL_ (some 46) rfl rfl Tryd.func39 (by kernel_rfl) rfl #[.int .u8 (bt a0 a1)] rfl (by (try simp only [mT_, mC_, mN_]); first | done | rfl) ?_; (with_reducible refine (skerryref18_letter.calls (bt a0 a1) false _ A25.out).mono ?_); rintro e w' ⟨rfl, ⟨nd, rfl⟩⟩; refine ⟨_, rfl, ?_⟩))
        go_meet
        case rel => exact ⟨_, (0), ((⟨#[]⟩ : ByteArray)), (0), (0), ((⟨#[]⟩ : ByteArray)), (0), (0), H', ⟨by have := HJ8.out; first | omega | exact Nat.le_refl _⟩, ⟨by (with_reducible repeat (first | refine blk_drewN ?_ _ | refine blk_drew ?_ | refine blk_alloc ?_ _)); exact BK275.out⟩, ⟨by repeat (first | (with_reducible first | exact HB.out | apply bA_ | apply bN_ | apply bD_ | refine bS_ ?_ GE275) | exact HB.out)⟩⟩
       rw [if_pos c31] at H
       have c31b0 : decide ((wrap64 (a1 + 1)) < (a0.size : Int)) = true := decide_eq_true c31
       clear c31
       obtain ⟨ji32, hji32⟩ : ∃ j_ : Int, (wrap64 (a1 + 1)) = j_ := ⟨_, rfl⟩
       replace H : (if 0 ≤ (ji32) then (if (bt a0 (ji32)) = 61 then (some (1, (⟨#[62, 61]⟩ : ByteArray), 0, 0, (⟨#[]⟩ : ByteArray), a1, wrap64 (a1 + 2), (-1))) else (skerryref18_one.j1 kj8 a0 a1 (bt a0 a1))) else (none)) = some (r1, r2, r3, r4, r5, r6, r7, r8) := by first | (rw [hji32] at H; exact H) | (simp only [hji32] at H ⊢; exact H)
       (try rw [hji32] at c31b0)
       (try rw [hji32] at A25)
       have hji32w : (IntKind.i64.wrap (a1 + 1)) = ji32 := (i64_w _).trans hji32
       (try rw [hji32] at hji13)
       (try rw [hji32] at hji13w)
       by_cases c33 : 0 ≤ (ji32)
       rotate_left
       ·
        rw [if_neg c33] at H
        exact absurd H (by simp)
       rw [if_pos c33] at H
       have c33b0 : decide (0 ≤ (ji32)) = true := decide_eq_true c33
       clear c33
       by_cases c35 : (bt a0 (ji32)) = 61
       rotate_left
       ·
        rw [if_neg c35] at H
        have c35b0 : ((bt a0 (ji32)) == 61) = false := beq_eq_false_iff_ne.mpr c35
        have c35b1 : ((bt a0 (ji32)) != 61) = true := bne_iff_ne.mpr c35
        have H' := Aside0.mk H
        clear H
        go_wp2_with (first | ((with_reducible refine gate_callee (f := 39) rfl ?_); refine goesL_ (some 46) rfl rfl Tryd.func39 (by kernel_rfl) rfl #[.int .u8 (bt a0 a1)] rfl (by (try simp only [mT_, mC_, mN_]); first | done | rfl) ?_; (with_reducible refine (skerryref18_letter.calls (bt a0 a1) false _ A25.out).mono ?_); rintro e w' ⟨rfl, ⟨nd, rfl⟩⟩; refine ⟨_, rfl, ?_⟩; have p34 : 0 ≤ ((ji32) : Int) := of_decide_eq_true (by first | (with_reducible assumption) | assumption); have q34 : (ji32) < (a0.size : Int) := of_decide_eq_true (by first | (with_reducible assumption) | assumption); have hx34 := bt_at a0 (ji32); replace p34 := eq_true p34; replace q34 := eq_true q34))
        go_meet
        case rel => exact ⟨_, (0), ((⟨#[]⟩ : ByteArray)), (0), (0), ((⟨#[]⟩ : ByteArray)), (0), (0), H', ⟨by have := HJ8.out; first | omega | exact Nat.le_refl _⟩, ⟨by (with_reducible repeat (first | refine blk_drewN ?_ _ | refine blk_drew ?_ | refine blk_alloc ?_ _)); exact BK275.out⟩, ⟨by repeat (first | (with_reducible first | exact HB.out | apply bA_ | apply bN_ | apply bD_ | refine bS_ ?_ GE275) | exact HB.out)⟩⟩
       rw [if_pos c35] at H
       have c35b0 : ((bt a0 (ji32)) == 61) = true := beq_iff_eq.mpr c35
       have c35b1 : ((bt a0 (ji32)) != 61) = false := bne_eq_false_iff_eq.mpr c35
       clear c35
       simp only [Option.some.injEq, Prod.mk.injEq] at H
       obtain ⟨rfl, rfl, rfl, rfl, rfl, rfl, rfl, rfl⟩ := H
       go_wp2_with (first | ((with_reducible refine gate_callee (f := 39) rfl ?_); refine goesL_ (some 46) rfl rfl Tryd.func39 (by kernel_rfl) rfl #[.int .u8 (bt a0 a1)] rfl (by (try simp only [mT_, mC_, mN_]); first | done | rfl) ?_; (with_reducible refine (skerryref18_letter.calls (bt a0 a1) false _ A25.out).mono ?_); rintro e w' ⟨rfl, ⟨nd, rfl⟩⟩; refine ⟨_, rfl, ?_⟩; (try (rw [drewN_self wc]; generalize hq_ : World.drewN wc _ = wc; have n0_ : Aside0 (wc.heap[gb275]? = some (.cells #[.int .i64 0, .string (⟨#[]⟩ : ByteArray), .int .i64 0, .int .i64 0, .string (⟨#[]⟩ : ByteArray), .int .i64 0, .int .i64 0] 29 (0, 0))) := ⟨by rw [← hq_]; exact (kbW BK275)⟩; have n1_ : Aside0 (Below w.heap.size w wc) := ⟨by rw [← hq_]; exact (by repeat (first | (with_reducible first | exact HB.out | apply bA_ | apply bN_ | apply bD_ | refine bS_ ?_ GE275) | exact HB.out))⟩; clear BK275 HB hq_; have BK275 := n0_; have HB := n1_; clear n0_ n1_)); have p34 : 0 ≤ ((ji32) : Int) := of_decide_eq_true (by first | (with_reducible assumption) | assumption); have q34 : (ji32) < (a0.size : Int) := of_decide_eq_true (by first | (with_reducible assumption) | assumption); have hx34 := bt_at a0 (ji32); replace p34 := eq_true p34; replace q34 := eq_true q34; obtain ⟨hcz36_0, hcz36_1, hcz36_2, hcz36_3, hcz36_4, hcz36_5, hcz36_6, hfz36_0, hfz36_1, hfz36_2, hfz36_3, hfz36_4, hfz36_5, hfz36_6⟩ := czf7 BK275))
       refine bodyPost_ret (results_ct rfl _ _ gb275 29 #[.int .i64 1, .string (⟨#[62, 61]⟩ : ByteArray), .int .i64 0, .int .i64 0, .string (⟨#[]⟩ : ByteArray), .int .i64 a1, .int .i64 (wrap64 (a1 + 2))] (0, 0) _ rfl (by (with_reducible repeat (first | refine blk_drewN ?_ _ | refine blk_drew ?_ | refine blk_alloc ?_ _)); exact bp7 (kbW BK275)) Tryd.underlying29 rfl (by kernel_rfl)) rfl ?_
       exact ⟨by first | rfl | (simp [errW_none, errW_some] <;> rfl) | (simp only [← hji32]; first | rfl | (simp [errW_none, errW_some] <;> rfl)) | (simp [*, errW_none, errW_some] <;> rfl), by repeat (first | (with_reducible first | exact HB.out | apply bA_ | apply bN_ | apply bD_ | refine bS_ ?_ GE275) | exact HB.out)⟩
 case rest =>
  clear HC6
  try clear c1
  try clear p1
  try clear q1
  try clear hx1
  try clear c2
  try clear p2
  try clear c3
  try clear c3b0
  try clear p3
  try clear q3
  try clear hx3
  try clear c4
  try clear c4b0
  try clear p5
  try clear q5
  try clear hx5
  try clear p6
  try clear c10
  try clear c11
  try clear c11b0
  try clear c11b1
  try clear c12
  try clear c12b0
  try clear c14
  try clear c14b0
  try clear p15
  try clear q15
  try clear hx15
  try clear c17
  try clear c21
  try clear c21b0
  try clear c21b1
  try clear c22
  try clear c26
  try clear c30
  try clear c30b0
  try clear c30b1
  try clear c31
  try clear c31b0
  try clear c33
  try clear c33b0
  try clear p34
  try clear q34
  try clear hx34
  try clear c35
  try clear c35b0
  try clear c35b1
  try clear c36
  try clear hcz20_0
  try clear hcz20_1
  try clear hcz20_2
  try clear hcz20_3
  try clear hcz20_4
  try clear hcz20_5
  try clear hcz20_6
  try clear hcz24_0
  try clear hcz24_1
  try clear hcz24_2
  try clear hcz24_3
  try clear hcz24_4
  try clear hcz24_5
  try clear hcz24_6
  try clear hcz29_0
  try clear hcz29_1
  try clear hcz29_2
  try clear hcz29_3
  try clear hcz29_4
  try clear hcz29_5
  try clear hcz29_6
  try clear hcz36_0
  try clear hcz36_1
  try clear hcz36_2
  try clear hcz36_3
  try clear hcz36_4
  try clear hcz36_5
  try clear hcz36_6
  try clear hfz20_0
  try clear hfz20_1
  try clear hfz20_2
  try clear hfz20_3
  try clear hfz20_4
  try clear hfz20_5
  try clear hfz20_6
  try clear hfz24_0
  try clear hfz24_1
  try clear hfz24_2
  try clear hfz24_3
  try clear hfz24_4
  try clear hfz24_5
  try clear hfz24_6
  try clear hfz29_0
  try clear hfz29_1
  try clear hfz29_2
  try clear hfz29_3
  try clear hfz29_4
  try clear hfz29_5
  try clear hfz29_6
  try clear hfz36_0
  try clear hfz36_1
  try clear hfz36_2
  try clear hfz36_3
  try clear hfz36_4
  try clear hfz36_5
  try clear hfz36_6
  try clear p1
  try clear p15
  try clear p2
  try clear p34
  try clear p5
  try clear p6
  try clear q1
  try clear q15
  try clear q34
  try clear q5
  obtain ⟨kq, x276000_5, x276001_5, x276002_5, x276003_5, x276004_5, x276005_5, x276006_5, HA, HJ5, BK275, HB⟩ := hcut
  cases kq with
  | zero => exact absurd HA.out (by simp [skerryref18_one.j1])
  | succ kj5 =>
   have H := HA.out
   clear HA
   simp only [skerryref18_one.j1] at H
   obtain ⟨y303, hy303⟩ : ∃ y_ : List Int, y_ = (([61, 60, 40, 41, 44, 42] : List Int)) := ⟨_, rfl⟩
   replace H : (skerryref18_one.l0 kj5 a0 a1 (bt a0 a1) y303 (y303.length : Int) 0) = some (r1, r2, r3, r4, r5, r6, r7, r8) := by first | (rw [hy303]; with_reducible exact H) | (have H2_ := (Option.bind_some _ _).symm.trans H; rw [hy303]; with_reducible exact H2_) | (have H2_ := (Option.bind_some _ _).symm.trans H; with_reducible exact H2_) | with_reducible exact H | (rw [hy303]; exact H) | exact H
   have Ny303 := Aside0.mk hy303
   clear hy303
   have kc := fun (w : World) (C : Array Value) (n c : Nat) => Lib.run_convert_bytes_const (P := Tryd.prog) w 58 5 C n c Tryd.underlying58 Tryd.underlying5
   have HBK := BK275
   have HGE := GE275
   have HBB := HB
   have hlt_ : gb275 < wc.heap.size := (Array.getElem?_eq_some_iff.1 HBK.out).1
   have HLT := Lib.hid hlt_
   have HY9 : Aside0 (skerryref18_one.l0 kj5 a0 a1 (bt a0 a1) [61, 60, 40, 41, 44, 42] 6 (0 : Nat) = some (r1, r2, r3, r4, r5, r6, r7, r8)) := ⟨by rw [Ny303.out] at H; exact H⟩
   clear H BK275 GE275 HB Ny303 hlt_
   go_wp2
   clear kc
   go_loopg [76] kj5 (fun kq v76 w' => ∃ i : Nat, v76 = .int .i64 i ∧ i ≤ 6 ∧ Aside0 (skerryref18_one.l0 kq a0 a1 (bt a0 a1) [61, 60, 40, 41, 44, 42] 6 i = some (r1, r2, r3, r4, r5, r6, r7, r8)) ∧ Aside0 (Below (wc.heap.size + 1) (wc.alloc (.cells #[.int .u8 61, .int .u8 60, .int .u8 40, .int .u8 41, .int .u8 44, .int .u8 42] 5 (6, 7))) w'))
   case atStart => exact ⟨0, rfl, Nat.zero_le _, HY9, ⟨Below.refl _ _⟩⟩
   case round =>
    obtain ⟨i, rfl, hi, HL, HW⟩ := hrel
    cases gk with
    | zero => exact absurd HL.out (by simp [skerryref18_one.l0])
    | succ kz =>
     have hlz : gb275 < wc.heap.size := HLT.out
     have hbk2 := (HW.out.block gb275 (by omega)).trans ((Below.heap_alloc wc (.cells #[.int .u8 61, .int .u8 60, .int .u8 40, .int .u8 41, .int .u8 44, .int .u8 42] 5 (6, 7)) gb275 hlz).trans HBK.out)
     have hrow := (HW.out.block wc.heap.size (by omega)).trans (heap_new_ wc (.cells #[.int .u8 61, .int .u8 60, .int .u8 40, .int .u8 41, .int .u8 44, .int .u8 42] 5 (6, 7)))
     have hz0 := cell_blk hbk2 0
     have hz1 := cell_blk hbk2 1
     have hz2 := cell_blk hbk2 2
     have hz3 := cell_blk hbk2 3
     have hz4 := cell_blk hbk2 4
     have hz5 := cell_blk hbk2 5
     have hz6 := cell_blk hbk2 6
     simp only [List.getElem?_toArray, List.getElem?_cons_zero, List.getElem?_cons_succ] at hz0 hz1 hz2 hz3 hz4 hz5 hz6
     have hfz := fun j => free_blk hbk2 j
     have hB3 : Below w.heap.size w wr := HBB.out.trans (((Below.refl _ wc).alloc (by omega) _).trans (HW.out.mono (by have := HBB.out.size; omega)) |>.mono HBB.out.size)
     have HBK2 := Lib.hid hbk2
     have HB3 := Lib.hid hB3
     have H := HL.out
     have hl9 : ∀ j y, ([61, 60, 40, 41, 44, 42] : List Int)[j]? = some y → wr.cell? ⟨wc.heap.size, j, none⟩ = some (.int .u8 y) := by
      intro j y hy
      rw [cell_blk hrow j]
      match j, hy with
      | 0, hy => cases hy; rfl
      | 1, hy => cases hy; rfl
      | 2, hy => cases hy; rfl
      | 3, hy => cases hy; rfl
      | 4, hy => cases hy; rfl
      | 5, hy => cases hy; rfl
     have HL9 := Lib.hid hl9
     clear HL hbk2 hrow hB3 hl9
     simp only [skerryref18_one.l0] at H
     by_cases hlt6 : i < 6
     rotate_left
     ·
      rw [if_neg (show ¬ (i : Int) < 6 by omega)] at H
      simp only [Option.some.injEq, Prod.mk.injEq] at H
      obtain ⟨rfl, rfl, rfl, rfl, rfl, rfl, rfl, rfl⟩ := H
      have hz_ : ¬ (i : Int) < 6 := by omega
      go_wp2
      refine bodyPost_ret (results_ct rfl _ _ gb275 29 #[.int .i64 0, .string (⟨#[]⟩ : ByteArray), .int .i64 0, .int .i64 0, .string (⟨#[]⟩ : ByteArray), .int .i64 0, .int .i64 0] (0, 0) _ rfl (tok_end HBK2.out _ _ _ _ _ _ _) Tryd.underlying29 rfl (by kernel_rfl)) rfl ?_
      exact ⟨rfl, tok_below HB3.out HGE.out _ _ _ _ _ _ _⟩
     rw [if_pos (show (i : Int) < 6 by omega), if_pos (show (0 : Int) ≤ (i : Int) by omega), if_pos (show (i : Int) < (([61, 60, 40, 41, 44, 42] : List Int).length : Int) by simp; omega)] at H
     obtain ⟨y, hy⟩ : ∃ y, ([61, 60, 40, 41, 44, 42] : List Int)[i]? = some y := ⟨_, List.getElem?_eq_getElem (by simpa using hlt6)⟩
     have hrd : rd [61, 60, 40, 41, 44, 42] (i : Int) = y := by unfold rd; rw [Int.toNat_natCast, List.getD_eq_getElem?_getD, hy]; rfl
     rw [hrd] at H
     have hcell := HL9.out i y hy
     have hz_ : (i : Int) < 6 := by omega
     clear hy hrd
     by_cases hcy : bt a0 a1 = y
     rotate_left
     ·
      rw [if_neg hcy] at H
      have b1 : ((bt a0 a1) == y) = false := beq_eq_false_iff_ne.2 hcy
      have HCY := Lib.hid hcy
      have H7 := Lib.hid H
      clear hcy H
      go_wp2
      go_roundg kz
      case measure => omega
      case rel => exact ⟨i + 1, by go_num, by omega, ⟨by have := H7.out; rw [show wrap64 ((i : Int) + 1) = ((i + 1 : Nat) : Int) by unfold wrap64; omega] at this; exact this⟩, HW⟩
     rw [if_pos hcy] at H
     by_cases g1 : 0 ≤ a1
     rotate_left
     ·
      rw [if_neg g1] at H; cases H
     rw [if_pos g1] at H
     by_cases g2 : a1 ≤ wrap64 (a1 + 1)
     rotate_left
     ·
      rw [if_neg g2] at H; cases H
     rw [if_pos g2] at H
     by_cases g3 : wrap64 (a1 + 1) ≤ (a0.size : Int)
     rotate_left
     ·
      rw [if_neg g3] at H; cases H
     rw [if_pos g3] at H
     simp only [Option.some.injEq, Prod.mk.injEq] at H
     obtain ⟨rfl, rfl, rfl, rfl, rfl, rfl, rfl, rfl⟩ := H
     have b1 : ((bt a0 a1) == y) = true := beq_iff_eq.2 hcy
     have HCY := Lib.hid hcy
     clear hcy
     go_wp2
     refine bodyPost_ret (results_ct rfl _ _ gb275 29 #[.int .i64 1, .string (a0.extract (a1 : Int).toNat ((wrap64 (a1 + 1)) : Int).toNat), .int .i64 0, .int .i64 0, .string (⟨#[]⟩ : ByteArray), .int .i64 a1, .int .i64 (wrap64 (a1 + 1))] (0, 0) _ rfl (tok_end HBK2.out _ _ _ _ _ _ _) Tryd.underlying29 rfl (by kernel_rfl)) rfl ?_
     exact ⟨rfl, tok_below HB3.out HGE.out _ _ _ _ _ _ _⟩
end Go.Proofs.YtfaogccfiklinaaDoor.Q
