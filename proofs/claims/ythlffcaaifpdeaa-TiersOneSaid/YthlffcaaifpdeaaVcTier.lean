/- The closures of tiers.Buckets, and the library's stable sort over its row of numbers. -/
import Derived.Test.YthlffcaaifpdeaaProg
import Derived.Test.YthlffcaaifpdeaaVcWMore
import Derived.Test.YthlffcaaifpdeaaVcSortS
import Derived.Test.YthlffcaaifpdeaaVcOrd
import Derived.WalkSpells
import Derived.Deep.DeepFit
import Derived.BigQuiet
import Derived.WalkLawsBesides
import Derived.Lib.Hide
import Derived.Outline
namespace Go.Proofs.Ythlffcaaifpdeaa.Srt
open Go Go.Shelf Go.RowKit Go.Lib Go.Sort Go.Proofs Go.Proofs.YthlffcaaifpdeaaW.PrintWords Go.Proofs.YthlffcaaifpdeaaW.PrintLast Go.Proofs.YthlffcaaifpdeaaW.PrintMore Go.Proofs.Ythlffcaaifpdeaa.Ord
set_option linter.unusedVariables false
set_option linter.unusedSimpArgs false
attribute [local go_sem] max2_int min2_int max_two min_two
theorem isNaN_i (a : Int) (w : World) : Calls Try.prog 21 #[.int .i64 a] w fun e w' => e = .returned (.bool false) ∧ w' = w := by
 go_enter Try.func21, Try.ntmps21
 go_wp2
 go_ret
 exact ⟨by simp, rfl⟩
theorem compare_i (a b : Int) (w : World) : Calls Try.prog 16 #[.int .i64 a, .int .i64 b] w fun e w' => e = .returned (.int .i64 (ci a b)) ∧ w' = w := by
 have H1 := Lib.hid (isNaN_i a w)
 have H2 := Lib.hid (isNaN_i b w)
 by_cases h1 : a < b
 ·
  have e : ci a b = -1 := by unfold ci; rw [if_pos h1]
  rw [e]
  go_enter Try.func16, Try.ntmps16
  go_wp2_with (first | (go_at_call 21; refine H1.out.mono ?_; rintro e w1 ⟨rfl, rfl⟩) | (go_at_call 21; refine H2.out.mono ?_; rintro e w1 ⟨rfl, rfl⟩))
  go_ret
  exact ⟨rfl, rfl⟩
 ·
  by_cases h2 : b < a
  ·
   have e : ci a b = 1 := by unfold ci; rw [if_neg h1]; first | rw [if_pos h2] | (rw [if_neg (by omega)])
   rw [e]
   go_enter Try.func16, Try.ntmps16
   go_wp2_with (first | (go_at_call 21; refine H1.out.mono ?_; rintro e w1 ⟨rfl, rfl⟩) | (go_at_call 21; refine H2.out.mono ?_; rintro e w1 ⟨rfl, rfl⟩))
   go_ret
   exact ⟨rfl, rfl⟩
  ·
   have e : ci a b = 0 := by unfold ci; rw [if_neg h1]; first | rw [if_neg h2] | (rw [if_pos (by omega)])
   rw [e]
   go_enter Try.func16, Try.ntmps16
   go_wp2_with (first | (go_at_call 21; refine H1.out.mono ?_; rintro e w1 ⟨rfl, rfl⟩) | (go_at_call 21; refine H2.out.mono ?_; rintro e w1 ⟨rfl, rfl⟩))
   go_ret
   exact ⟨rfl, rfl⟩
theorem ret_i_ {a b : Int} (h : a = b) : Ending.returned (.int .i64 a) = .returned (.int .i64 b) := by rw [h]
def sz (x : Int) : Int := if (if x < 0 then 0 else x) < 1099511627776 then (if x < 0 then 0 else x) else 1099511627776
theorem size_clo (gs : Nat) (A : Option Addr) (c : Nat) (l : List Int) (i : Nat) (hi : i < l.length) (W : World) (g1 : W.cell? ⟨gs, 0, none⟩ = some (.slice A l.length c)) (hC : (Kd.int .i64).C W A l.length l) :
  Calls Try.prog 13 #[.int .i64 i, .pointer (some ⟨gs, 0, none⟩)] W fun e w' => e = .returned (.int .i64 (sz l[i])) ∧ w' = W := by
 have hz : (i : Int) < (l.length : Int) := by omega
 obtain ⟨ad, e1, hcell⟩ := hC.2.2 (by omega)
 subst e1
 obtain ⟨cs, hc1, hc2, hc3⟩ := hcell i l[i] (List.getElem?_eq_getElem hi)
 obtain rfl : cs = [.int .i64 l[i]] := hc2
 have hv := hc3 0 _ rfl
 rw [show i * (Kd.int .i64).sz + 0 = i from Nat.mul_one i] at hv
 obtain ⟨y, hy⟩ : ∃ y, l[i] = y := ⟨_, rfl⟩
 rw [hy] at hv ⊢
 clear hc3 hcell hy hc1 hC
 unfold sz
 go_enter Try.func13, Try.ntmps13
 go_wp2
 all_goals go_ret
 all_goals exact ⟨ret_i_ (by omega), rfl⟩
theorem cmp_clo (gs gf : Nat) (A : Option Addr) (c : Nat) (l : List Int) (x y : Fin l.length) (W : World) (hs : gs < W.heap.size) (hf : gf < W.heap.size) (g1 : W.cell? ⟨gs, 0, none⟩ = some (.slice A l.length c)) (g2 : W.cell? ⟨gf, 0, none⟩ = some (.func (.func 13) #[] #[.pointer (some ⟨gs, 0, none⟩)])) (hC : (Kd.int .i64).C W A l.length l) :
  Calls Try.prog 15 (#[.int .i64 (x.val : Nat), .int .i64 (y.val : Nat)] ++ #[.pointer (some ⟨gf, 0, none⟩)]) W fun e w' => e = .returned (.int .i64 (ci (sz l[x.val]) (sz l[y.val]))) ∧ Below W.heap.size W w' := by
 obtain ⟨X, hX⟩ := x
 obtain ⟨Y, hY⟩ := y
 have H1 := Lib.hid (fun p : Srt.BW W => (show Calls Try.prog 13 #[.int .i64 (X : Nat), .pointer (some ⟨gs, 0, none⟩)] p.w' fun e w' => e = .returned (.int .i64 (sz l[X])) ∧ Below p.w'.heap.size p.w' w' from (size_clo gs A c l X hX p.w' ((p.h.cell (p := ⟨gs, 0, none⟩) hs).trans g1) (Kd.C_below hC p.h)).mono fun e w' ⟨h1, h2⟩ => ⟨h1, by rw [h2]; exact Below.refl _ _⟩))
 have H2 := Lib.hid (fun p : Srt.BW W => (show Calls Try.prog 13 #[.int .i64 (Y : Nat), .pointer (some ⟨gs, 0, none⟩)] p.w' fun e w' => e = .returned (.int .i64 (sz l[Y])) ∧ Below p.w'.heap.size p.w' w' from (size_clo gs A c l Y hY p.w' ((p.h.cell (p := ⟨gs, 0, none⟩) hs).trans g1) (Kd.C_below hC p.h)).mono fun e w' ⟨h1, h2⟩ => ⟨h1, by rw [h2]; exact Below.refl _ _⟩))
 have H3 := Lib.hid (fun p : Srt.BW W => (show Calls Try.prog 16 #[.int .i64 (sz l[X]), .int .i64 (sz l[Y])] p.w' fun e w' => e = .returned (.int .i64 (ci (sz l[X]) (sz l[Y]))) ∧ Below p.w'.heap.size p.w' w' from (compare_i (sz l[X]) (sz l[Y]) p.w').mono fun e w' ⟨h1, h2⟩ => ⟨h1, by rw [h2]; exact Below.refl _ _⟩))
 have q2 := fun p : Srt.BW W => (p.h.cell (p := ⟨gf, 0, none⟩) hf).trans g2
 have mixed : Try.prog.follows .mixedOrders = true := by kernel_rfl
 have eg : ∀ args w, (callFunc 13 args).run Try.prog w = .ok (.enter 13 args) w := enters_of Try.func13 (by kernel_rfl) rfl
 dsimp only
 generalize sz l[X] = a at H1 H3 ⊢
 generalize sz l[Y] = b at H2 H3 ⊢
 clear g1 g2 hC
 go_enter Try.func15, Try.ntmps15
 go_wp2_with fail
 refine Srt.wp_region_quiet_bw (by assumption) (by kernel_rfl) ?_
 quiet_step (fail)
 quiet_step (fail)
 quiet_step ((go_at_fn 13; refine Srt.Calls.bw_of (H1.out _)))
 quiet_step (fail)
 quiet_step (fail)
 quiet_step ((go_at_fn 13; refine Srt.Calls.bw_of (H2.out _)))
 quiet_step ((go_at_call 16; refine Srt.Calls.bw_of (H3.out _)))
 quiet_step (fail)
 refine wpQuiet_nil ?_
 rintro w3 ⟨p, rfl⟩
 go_wp2
 go_ret
 exact ⟨rfl, p.h⟩
end Go.Proofs.Ythlffcaaifpdeaa.Srt
