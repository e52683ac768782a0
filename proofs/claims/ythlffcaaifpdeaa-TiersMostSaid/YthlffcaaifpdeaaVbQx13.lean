/- Lemmas for this claim's walk: no condition of their own. -/
import Derived.Test.YthlffcaaifpdeaaVbJ15
import Derived.Test.YthlffcaaifpdeaaVbRbG
import Derived.BigQuiet
import Derived.BigRegion
import Derived.RegionTactic
import Derived.Deep.QuietTactic
import Derived.Test.YthlffcaaifpdeaaVbJ17
import Derived.Test.YthlffcaaifpdeaaVbQx12
namespace Go.Proofs.Ythlffcaaifpdeaa.Q
open Go.RowKit Go.Proofs.YthlffcaaifpdeaaW.PrintWords Go.Proofs.YthlffcaaifpdeaaW.PrintLast Go.Proofs.YthlffcaaifpdeaaW.PrintMore
attribute [local go_sem] max2_int min2_int max_two min_two max_three min_three max_four min_four
set_option linter.unusedVariables false
set_option linter.unusedSimpArgs false
def tiers_Choose.pick (m : Int) (bs : List (List Int)) : List Int := bs.foldl (fun best b => if m ≤ (b.length : Int) ∧ best.length < b.length then b else best) []
def tiers_Choose.f (l0 : List Int) (a1 : Int) : Option (List Int) := (tiers_Buckets.f l0).bind fun bs => if bs.length ≤ 1000000 ∧ (bs.all fun b => decide (b.length ≤ 1000000)) = true then some (tiers_Choose.pick (mx a1 2) bs) else none
theorem tiers_Choose.pick_snoc (m : Int) (bs : List (List Int)) (b : List Int) : tiers_Choose.pick m (bs ++ [b]) = if m ≤ (b.length : Int) ∧ (tiers_Choose.pick m bs).length < b.length then b else tiers_Choose.pick m bs := by unfold tiers_Choose.pick; rw [List.foldl_append]; rfl
theorem tiers_Choose.elem {w W : World} {v : Value} {bs : List (List Int)} (hB : Below w.heap.size w W) (h : Kd.S (Kd.slice 3 (Kd.int .i64)) 22 W w.heap.size (fun _ => True) v bs) (j : Nat) (hj : j < bs.length) :
  ∃ g c A1 c1, v = .slice (some ⟨g, 0, none⟩) bs.length c ∧ W.cell? ⟨g, j, none⟩ = some (.slice A1 bs[j].length c1) ∧ Kd.R (Kd.int .i64) 3 W w.heap.size (fun _ => True) (.slice A1 bs[j].length c1) bs[j] := by
 have hR := Kd.S_R h
 obtain ⟨g, c, e, h1, h2, cells, h3⟩ := Kd.R_form hR (by omega)
 subst e
 obtain ⟨cs, c1, c2, c3, c4⟩ := Kd.R_elem hR [] (j : Int) (by omega) (by omega)
 rw [Int.toNat_natCast] at c2 c3
 rw [List.getD_eq_getElem?_getD, List.getElem?_eq_getElem hj, Option.getD_some] at c2
 obtain ⟨u, rfl, hu⟩ := c2
 obtain ⟨A1, d1, rfl⟩ := Kd.R_slice hu
 have c5 := c3 0 _ rfl
 rw [show j * (Kd.slice 3 (Kd.int .i64)).sz + 0 = j from Nat.mul_one j] at c5
 exact ⟨g, c, A1, d1, rfl, c5, Kd.R_mono hu (fun _ _ => trivial)⟩
set_option maxHeartbeats 1000000 in
set_option maxRecDepth 100000 in
theorem tiers_Choose.calls (A0 : Option Addr) (c0 : Nat) (l0 : List Int) (a1 : Int) (r : List Int) (w : World) (hr0 : Kd.C (Kd.int .i64) w A0 l0.length l0) (hc0 : l0.length ≤ c0) (h : tiers_Choose.f l0 a1 = some r) :
  Calls Try.prog 11 #[.slice A0 l0.length c0, .int .i64 a1] w fun e w' => ∃ v0_ : Value, e = .returned (v0_) ∧ Kd.R (Kd.int .i64) 3 w' w.heap.size (fun _ => True) v0_ r ∧ Below w.heap.size w w' := by
 obtain ⟨bs, hb, h2⟩ := Option.bind_eq_some_iff.1 h
 split at h2
 case isFalse => cases h2
 rename_i hbl
 obtain ⟨hl, hall⟩ := hbl
 have HR := Lib.hid (Option.some.inj h2)
 have HALL := Lib.hid (fun b (hx : b ∈ bs) => show b.length ≤ 1000000 from of_decide_eq_true (List.all_eq_true.1 hall b hx))
 have HC := Lib.hid (tiers_Buckets.calls A0 c0 l0 bs w hr0 hc0 hb)
 clear h hb h2 hall hr0
 obtain ⟨m, hm⟩ : ∃ m, mx a1 2 = m := ⟨_, rfl⟩
 rw [hm] at HR
 have HM := Lib.hid hm
 have hm2 : (if a1 < 2 then 2 else a1) = m := by rw [← hm]; unfold mx; rfl
 clear hm
 go_enter Try.func11, Try.ntmps11
 go_wp2_with (go_at_call 8; (with_reducible refine HC.out.mono ?_); rintro e w1 ⟨v0, rfl, hs, hb⟩; obtain ⟨A, c, rfl⟩ := Kd.S_slice hs; have HS := Lib.hid hs; have HB := Lib.hid hb; clear hs hb)
 go_loopg [5, 11] bs.length (fun gk v5 v11 wr => ∃ j : Nat, v11 = .int .i64 j ∧ Aside0 (w1 = wr) ∧ Aside0 (j ≤ bs.length ∧ bs.length - j ≤ gk) ∧ ∃ (best : List Int) (A2 : Option Addr) (c2 : Nat), v5 = .slice A2 best.length c2 ∧ Aside0 (best = tiers_Choose.pick m (bs.take j) ∧ best.length ≤ 1000000) ∧ Aside0 (Kd.R (Kd.int .i64) 3 w1 w.heap.size (fun _ => True) (.slice A2 best.length c2) best))
 case atStart => exact ⟨0, rfl, ⟨rfl⟩, ⟨by omega, by omega⟩, [], none, 0, rfl, ⟨by simp [tiers_Choose.pick], by simp⟩, ⟨Kd.R_nil _ _ _ _ _⟩⟩
 case round =>
  obtain ⟨j, rfl, HW, HJ, best, A2, c2, rfl, HP, HR2⟩ := hrel
  obtain rfl := HW.out
  by_cases hj : j < bs.length
  rotate_left
  ·
   have hz : ¬ (j : Int) < (bs.length : Int) := by omega
   have he : j = bs.length := by have := HJ.out.1; omega
   have HP2 := Lib.hid (show best = r by rw [← HR.out, HP.out.1, he, List.take_length])
   clear HP HJ he
   go_wp2
   go_ret
   exact ⟨_, rfl, HP2.out ▸ HR2.out, HB.out⟩
  have hz : (j : Int) < (bs.length : Int) := by omega
  have hz0 : (0 : Int) ≤ (j : Int) := by omega
  obtain ⟨g, c', A1, d1, e1, hx0, hR1⟩ := tiers_Choose.elem HB.out HS.out j hj
  injection e1 with e2 e3 e4
  subst e2 e4
  have HR1 := Lib.hid hR1
  have hx : bs[j].length ≤ 1000000 := HALL.out _ (List.getElem_mem hj)
  have HP2 := Lib.hid (show tiers_Choose.pick m (bs.take (j + 1)) = if m ≤ (bs[j].length : Int) ∧ best.length < bs[j].length then bs[j] else best by rw [List.take_succ_eq_append_getElem hj, tiers_Choose.pick_snoc, HP.out.1])
  generalize bs[j] = b at hx0 HR1 hx HP2
  have hbl := HP.out.2
  clear hR1
  by_cases h1 : m ≤ (b.length : Int)
  rotate_left
  ·
   have HH := Lib.hid (show ¬ (m ≤ (b.length : Int) ∧ best.length < b.length) from fun h => h1 h.1)
   go_wp2
   go_roundg (bs.length - (j + 1))
   case measure => have := HJ.out; omega
   case rel => exact ⟨j + 1, by go_num, ⟨rfl⟩, ⟨by omega, Nat.le_refl _⟩, best, A2, c2, rfl, ⟨by rw [HP2.out, if_neg HH.out], hbl⟩, ⟨HR2.out⟩⟩
  by_cases h2 : best.length < b.length
  ·
   have HH := Lib.hid (And.intro h1 h2)
   go_wp2
   go_roundg (bs.length - (j + 1))
   case measure => have := HJ.out; omega
   case rel => exact ⟨j + 1, by go_num, ⟨rfl⟩, ⟨by omega, Nat.le_refl _⟩, b, A1, d1, rfl, ⟨by rw [HP2.out, if_pos HH.out], hx⟩, ⟨HR1.out⟩⟩
  ·
   have HH := Lib.hid (show ¬ (m ≤ (b.length : Int) ∧ best.length < b.length) from fun h => h2 h.2)
   have h3 : decide (best.length < b.length) = false := decide_eq_false h2
   go_wp2
   go_roundg (bs.length - (j + 1))
   case measure => have := HJ.out; omega
   case rel => exact ⟨j + 1, by go_num, ⟨rfl⟩, ⟨by omega, Nat.le_refl _⟩, best, A2, c2, rfl, ⟨by rw [HP2.out, if_neg HH.out], hbl⟩, ⟨HR2.out⟩⟩
def skerrylaw12_lives.f (k : Nat)  : Option (Bool) := (some (([10, 100, 12, 9] : List Int) : List Int)).bind fun y223 => ((tiers_Buckets.f y223).bind fun t226 => (if (t226.length : Int) = 2 then (if 0 < (t226.length : Int) then ((skerryref01_Ints.f k (rd_L1 t226 0) (([0, 2, 3] : List Int))).bind fun t233 => (if t233 = true then ((tiers_Choose.f y223 2).bind fun t234 => ((skerryref01_Ints.f k t234 (([0, 2, 3] : List Int))).bind fun t240 => (if t240 = true then ((tiers_Choose.f y223 4).bind fun t241 => (some ((t241.length : Int) == 0))) else (none)))) else (none))) else (none)) else (none)))
set_option maxHeartbeats 8000000 in
set_option maxRecDepth 100000 in
theorem skerrylaw12_lives.calls (k : Nat)  (r : Bool) (w : World) (h : skerrylaw12_lives.f k  = some r) :
  Calls Try.prog 7 #[] w fun e w' => e = .returned (.bool r) ∧ Below w.heap.size w w' := by
 have HB := Aside0.mk (Below.refl w.heap.size w)
 have H : ((some (([10, 100, 12, 9] : List Int) : List Int)).bind fun y223 => ((tiers_Buckets.f y223).bind fun t226 => (if (t226.length : Int) = 2 then (if 0 < (t226.length : Int) then ((skerryref01_Ints.f k (rd_L1 t226 0) (([0, 2, 3] : List Int))).bind fun t233 => (if t233 = true then ((tiers_Choose.f y223 2).bind fun t234 => ((skerryref01_Ints.f k t234 (([0, 2, 3] : List Int))).bind fun t240 => (if t240 = true then ((tiers_Choose.f y223 4).bind fun t241 => (some ((t241.length : Int) == 0))) else (none)))) else (none))) else (none)) else (none)))) = some r := h
 clear h
 obtain ⟨y223, hy223⟩ : ∃ y_ : List Int, y_ = (([10, 100, 12, 9] : List Int)) := ⟨_, rfl⟩
 replace H : ((tiers_Buckets.f y223).bind fun t226 => (if (t226.length : Int) = 2 then (if 0 < (t226.length : Int) then ((skerryref01_Ints.f k (rd_L1 t226 0) (([0, 2, 3] : List Int))).bind fun t233 => (if t233 = true then ((tiers_Choose.f y223 2).bind fun t234 => ((skerryref01_Ints.f k t234 (([0, 2, 3] : List Int))).bind fun t240 => (if t240 = true then ((tiers_Choose.f y223 4).bind fun t241 => (some ((t241.length : Int) == 0))) else (none)))) else (none))) else (none)) else (none))) = some r := by first | (rw [hy223]; with_reducible exact H) | (have H2_ := (Option.bind_some _ _).symm.trans H; rw [hy223]; with_reducible exact H2_) | (have H2_ := (Option.bind_some _ _).symm.trans H; with_reducible exact H2_) | with_reducible exact H | (rw [hy223]; exact H) | exact H
 have Ny223 := Aside0.mk hy223
 clear hy223
 replace H := Option.bind_eq_some_iff.mp H
 obtain ⟨t226, A10, H⟩ := H
 have A1 := Aside0.mk A10
 clear A10
 by_cases c2 : (t226.length : Int) = 2
 rotate_left
 ·
  rw [if_neg c2] at H
  exact absurd H (by simp)
 rw [if_pos c2] at H
 have c2b0 : ((t226.length : Int) == 2) = true := beq_iff_eq.mpr c2
 have c2b1 : ((t226.length : Int) != 2) = false := bne_eq_false_iff_eq.mpr c2
 clear c2
 by_cases c3 : 0 < (t226.length : Int)
 rotate_left
 ·
  rw [if_neg c3] at H
  exact absurd H (by simp)
 rw [if_pos c3] at H
 have c3b0 : decide (0 < (t226.length : Int)) = true := decide_eq_true c3
 have c3b1 : decide (0 < t226.length) = true := decide_eq_true (by omega)
 clear c3
 obtain ⟨y230, hy230⟩ : ∃ y_ : List Int, y_ = (([0, 2, 3] : List Int)) := ⟨_, rfl⟩
 replace H : ((skerryref01_Ints.f k (rd_L1 t226 0) y230).bind fun t233 => (if t233 = true then ((tiers_Choose.f y223 2).bind fun t234 => ((skerryref01_Ints.f k t234 (([0, 2, 3] : List Int))).bind fun t240 => (if t240 = true then ((tiers_Choose.f y223 4).bind fun t241 => (some ((t241.length : Int) == 0))) else (none)))) else (none))) = some r := by first | (rw [hy230]; with_reducible exact H) | (have H2_ := (Option.bind_some _ _).symm.trans H; rw [hy230]; with_reducible exact H2_) | (have H2_ := (Option.bind_some _ _).symm.trans H; with_reducible exact H2_) | with_reducible exact H | (rw [hy230]; exact H) | exact H
 have Ny230 := Aside0.mk hy230
 clear hy230
 replace H := Option.bind_eq_some_iff.mp H
 obtain ⟨t233, A40, H⟩ := H
 have A4 := Aside0.mk A40
 clear A40
 by_cases c5 : t233 = true
 rotate_left
 ·
  replace c5 := Bool.eq_false_iff.mpr c5
  subst c5
  have H1 : (none) = some r := by rw [if_neg (show ¬ (false = true) by decide)] at H; exact H
  clear H
  have H := H1
  clear H1
  exact absurd H (by simp)
 subst c5
 have H1 : ((tiers_Choose.f y223 2).bind fun t234 => ((skerryref01_Ints.f k t234 (([0, 2, 3] : List Int))).bind fun t240 => (if t240 = true then ((tiers_Choose.f y223 4).bind fun t241 => (some ((t241.length : Int) == 0))) else (none)))) = some r := by rw [if_pos rfl] at H; exact H
 clear H
 have H := H1
 clear H1
 replace H := Option.bind_eq_some_iff.mp H
 obtain ⟨t234, A60, H⟩ := H
 have A6 := Aside0.mk A60
 clear A60
 obtain ⟨y237, hy237⟩ : ∃ y_ : List Int, y_ = (([0, 2, 3] : List Int)) := ⟨_, rfl⟩
 replace H : ((skerryref01_Ints.f k t234 y237).bind fun t240 => (if t240 = true then ((tiers_Choose.f y223 4).bind fun t241 => (some ((t241.length : Int) == 0))) else (none))) = some r := by first | (rw [hy237]; with_reducible exact H) | (have H2_ := (Option.bind_some _ _).symm.trans H; rw [hy237]; with_reducible exact H2_) | (have H2_ := (Option.bind_some _ _).symm.trans H; with_reducible exact H2_) | with_reducible exact H | (rw [hy237]; exact H) | exact H
 have Ny237 := Aside0.mk hy237
 clear hy237
 replace H := Option.bind_eq_some_iff.mp H
 obtain ⟨t240, A70, H⟩ := H
 have A7 := Aside0.mk A70
 clear A70
 by_cases c8 : t240 = true
 rotate_left
 ·
  replace c8 := Bool.eq_false_iff.mpr c8
  subst c8
  have H1 : (none) = some r := by rw [if_neg (show ¬ (false = true) by decide)] at H; exact H
  clear H
  have H := H1
  clear H1
  exact absurd H (by simp)
 subst c8
 have H1 : ((tiers_Choose.f y223 4).bind fun t241 => (some ((t241.length : Int) == 0))) = some r := by rw [if_pos rfl] at H; exact H
 clear H
 have H := H1
 clear H1
 replace H := Option.bind_eq_some_iff.mp H
 obtain ⟨t241, A90, H⟩ := H
 have A9 := Aside0.mk A90
 clear A90
 obtain rfl := Option.some.inj H
 go_enter Try.func7, Try.ntmps7
 go_wp2_with (first | ((with_reducible refine gate_dst (N := 3) rfl ?_); (try (refine gate_guard (by rfl) ?_; dsimp only)); refine Kd.R_lit (Kd.int .i64) _ 3 ?hg (N := 3) ?hd (xs := ([10, 100, 12, 9] : List Int)) (inner := [.int .i64 10, .int .i64 100, .int .i64 12, .int .i64 9]) (ok := fun _ => True) (okp := fun _ => True) ?hr ?hp (fun _ hk => hk) trivial (Below.refl _ _) (Nat.le_refl _) (by simp) ?_; (case hd => rfl); (case hg => rfl); (case hr => first | (go_simp; done) | (go_simp; rfl)); (case hp => exact (Reps.one (show Kd.M (Kd.int .i64) _ _ _ 10 [.int .i64 10] from rfl) (Reps.one (show Kd.M (Kd.int .i64) _ _ _ 100 [.int .i64 100] from rfl) (Reps.one (show Kd.M (Kd.int .i64) _ _ _ 12 [.int .i64 12] from rfl) (Reps.one (show Kd.M (Kd.int .i64) _ _ _ 9 [.int .i64 9] from rfl) (Reps.none _ _)))))); intro v224 w10 ho11 hb hg_ hnew_; clear hg_ hnew_; (first | rw [← Ny223.out] at ho11 | (simp only [Int.reduceToNat] at ho11; rw [← Ny223.out] at ho11)); have HO225 := Aside0.mk (Kd.R_lower ho11 (bZ_ (kwW HB))); replace HB := Aside0.mk (below_step (kwW HB) hb); clear hb ho11; obtain ⟨Ao12, co12, eo12⟩ := Kd.R_slice HO225.out; subst eo12) | ((with_reducible refine gate_callee (f := 8) rfl ?_); refine goesL_ (some 5) rfl rfl Try.func8 (by kernel_rfl) rfl #[.slice Ao12 y223.length co12] rfl (by (try simp only [mT_, mC_, mN_]); first | done | rfl) ?_; (with_reducible refine (tiers_Buckets.calls _ _ y223 t226 _ ?side1 ?side2 A1.out).mono ?_); (case side1 => repeat (first | exact (Kd.R_reads' HO225.out).2.2 | (with_reducible refine Kd.C_alloc ?_ _) | (with_reducible refine Kd.C_drewN ?_ _) | (with_reducible refine Kd.C_drew ?_))); (case side2 => exact (Kd.R_reads' HO225.out).2.1); rintro e w13 ⟨v227, rfl, ho0, hb⟩; refine ⟨_, rfl, ?_⟩; have HO228 := Aside0.mk (Kd.S_lower (Kd.S_new' ho0 (Kd.R_lt (krW HO225))) (bZ_ (kwW HB))); replace HO225 := kR HO225 hb; replace HB := Aside0.mk (below_step (kwW HB) hb); (try clear hb); (try clear hb2); (try clear hk); (try clear hi); (try clear ho0); obtain ⟨Ao14, co14, eo14⟩ := Kd.S_slice HO228.out; subst eo14; have p229 : 0 ≤ (0 : Int) := (by omega); have q229 : 0 < (t226.length : Int) := of_decide_eq_true (by first | (with_reducible assumption) | assumption); obtain ⟨ad229, A229_0, c229_0, e229, hx229_0, hl229_0, hi229_0⟩ := at_L1 (Kd.S_reads' HO228.out).2.2 0 p229 q229; cases e229; obtain ⟨ce229, hce229, hMe229, hcc229⟩ := Kd.S_get HO228.out [] 0 p229 (by first | exact q229 | exact of_decide_eq_true (by first | (with_reducible assumption) | assumption) | (have e_ := (Kd.S_reads' HO228.out).1; omega)); obtain ⟨ve229_0, rfl, ge229_0⟩ := hMe229; have hv229_0 := hcc229 0 _ rfl; rw [Nat.add_zero, show ((Kd.slice 3 (Kd.int .i64))).sz = 1 from rfl, Nat.mul_one] at hv229_0; replace hv229_0 := Option.some.inj (hv229_0.symm.trans hx229_0); rw [hv229_0] at ge229_0; have HL229_0 := Aside0.mk (show Kd.R (Kd.int .i64) 3 _ _ _ _ (rd_L1 t226 0) from ge229_0); clear hv229_0 ge229_0; clear hcc229 hce229; have qi229 : (0 < t226.length) = True := eq_true (by omega); (try rw [show ((0 : Int)).toNat = 0 from rfl] at hx229_0); (try rw [Addr.add_zero'] at hx229_0); have HR229_0 := Aside0.mk hi229_0; have HC229_0 := Aside0.mk hl229_0; clear hi229_0 hl229_0; replace p229 := eq_true p229; replace q229 := eq_true q229) | ((with_reducible refine gate_dst (N := 13) rfl ?_); (try (refine gate_guard (by rfl) ?_; dsimp only)); refine Kd.R_lit (Kd.int .i64) _ 3 ?hg (N := 13) ?hd (xs := ([0, 2, 3] : List Int)) (inner := [.int .i64 0, .int .i64 2, .int .i64 3]) (ok := fun _ => True) (okp := fun _ => True) ?hr ?hp (fun _ hk => hk) trivial (Below.refl _ _) (Nat.le_refl _) (by simp) ?_; (case hd => rfl); (case hg => rfl); (case hr => first | (go_simp; done) | (go_simp; rfl)); (case hp => exact (Reps.one (show Kd.M (Kd.int .i64) _ _ _ 0 [.int .i64 0] from rfl) (Reps.one (show Kd.M (Kd.int .i64) _ _ _ 2 [.int .i64 2] from rfl) (Reps.one (show Kd.M (Kd.int .i64) _ _ _ 3 [.int .i64 3] from rfl) (Reps.none _ _))))); intro v231 w15 ho16 hb hg_ hnew_; clear hg_ hnew_; (first | rw [← Ny230.out] at ho16 | (simp only [Int.reduceToNat] at ho16; rw [← Ny230.out] at ho16)); replace HO228 := Aside0.mk (Kd.S_elder' (by (with_reducible repeat (first | apply Kd.S_alloc | apply Kd.S_drewN | apply Kd.S_drew)); exact HO228.out) (Kd.R_base ho16) hb); have HO232 := Aside0.mk (Kd.R_lower (Kd.R_new' (Kd.R_new' ho16 (Kd.R_lt (krW HO225))) (Kd.R_lt (krW HL229_0))) (bZ_ (kwW HB))); replace HO225 := Aside0.mk (Kd.R_elder' (krW HO225) (Kd.R_base ho16) hb); replace HL229_0 := Aside0.mk (Kd.R_elder' (krW HL229_0) (Kd.R_base ho16) hb); replace HR229_0 := Aside0.mk (Kd.C_below (by repeat (first | (with_reducible exact HR229_0.out) | (with_reducible refine Kd.C_alloc ?_ _) | (with_reducible refine Kd.C_drewN ?_ _) | (with_reducible refine Kd.C_drew ?_) | exact HR229_0.out)) hb); replace HB := Aside0.mk (below_step (kwW HB) hb); clear hb ho16; obtain ⟨Ao17, co17, eo17⟩ := Kd.R_slice HO232.out; subst eo17) | (go_at_call 10; (with_reducible refine (skerryref01_Ints.calls k _ _ (rd_L1 t226 0) _ _ y230 true _ ?side1 ?side2 ?side3 ?side4 A4.out).mono ?_); (case side1 => repeat (first | exact (by repeat (first | (with_reducible exact HR229_0.out) | (with_reducible refine Kd.C_alloc ?_ _) | (with_reducible refine Kd.C_drewN ?_ _) | (with_reducible refine Kd.C_drew ?_) | exact HR229_0.out)) | (with_reducible refine Kd.C_alloc ?_ _) | (with_reducible refine Kd.C_drewN ?_ _) | (with_reducible refine Kd.C_drew ?_))); (case side2 => exact HC229_0.out); (case side3 => repeat (first | exact (Kd.R_reads' HO232.out).2.2 | (with_reducible refine Kd.C_alloc ?_ _) | (with_reducible refine Kd.C_drewN ?_ _) | (with_reducible refine Kd.C_drew ?_))); (case side4 => exact (Kd.R_reads' HO232.out).2.1); rintro e w' ⟨rfl, ⟨nd, rfl⟩⟩) | (go_at_call 11; (with_reducible refine (tiers_Choose.calls _ _ y223 2 t234 _ ?side1 ?side2 A6.out).mono ?_); (case side1 => repeat (first | exact (Kd.R_reads' HO225.out).2.2 | (with_reducible refine Kd.C_alloc ?_ _) | (with_reducible refine Kd.C_drewN ?_ _) | (with_reducible refine Kd.C_drew ?_))); (case side2 => exact (Kd.R_reads' HO225.out).2.1); rintro e w18 ⟨v235, rfl, ho0, hb⟩; replace HO228 := Aside0.mk (Kd.S_elder' (by (with_reducible repeat (first | apply Kd.S_alloc | apply Kd.S_drewN | apply Kd.S_drew)); exact HO228.out) (Kd.R_base ho0) hb); have HO236 := Aside0.mk (Kd.R_lower (Kd.R_new' (Kd.R_new' (Kd.R_new' ho0 (Kd.R_lt (krW HO225))) (Kd.R_lt (krW HL229_0))) (Kd.R_lt (krW HO232))) (bZ_ (kwW HB))); replace HO225 := Aside0.mk (Kd.R_elder' (krW HO225) (Kd.R_base ho0) hb); replace HL229_0 := Aside0.mk (Kd.R_elder' (krW HL229_0) (Kd.R_base ho0) hb); replace HO232 := Aside0.mk (Kd.R_elder' (krW HO232) (Kd.R_base ho0) hb); replace HR229_0 := Aside0.mk (Kd.C_below (by repeat (first | (with_reducible exact HR229_0.out) | (with_reducible refine Kd.C_alloc ?_ _) | (with_reducible refine Kd.C_drewN ?_ _) | (with_reducible refine Kd.C_drew ?_) | exact HR229_0.out)) hb); replace HB := Aside0.mk (below_step (kwW HB) hb); (try clear hb); (try clear hb2); (try clear hk); (try clear hi); (try clear ho0)) | ((with_reducible refine gate_dst (N := 19) rfl ?_); (try (refine gate_guard (by rfl) ?_; dsimp only)); refine Kd.R_lit (Kd.int .i64) _ 3 ?hg (N := 19) ?hd (xs := ([0, 2, 3] : List Int)) (inner := [.int .i64 0, .int .i64 2, .int .i64 3]) (ok := fun _ => True) (okp := fun _ => True) ?hr ?hp (fun _ hk => hk) trivial (Below.refl _ _) (Nat.le_refl _) (by simp) ?_; (case hd => rfl); (case hg => rfl); (case hr => first | (go_simp; done) | (go_simp; rfl)); (case hp => exact (Reps.one (show Kd.M (Kd.int .i64) _ _ _ 0 [.int .i64 0] from rfl) (Reps.one (show Kd.M (Kd.int .i64) _ _ _ 2 [.int .i64 2] from rfl) (Reps.one (show Kd.M (Kd.int .i64) _ _ _ 3 [.int .i64 3] from rfl) (Reps.none _ _))))); intro v238 w19 ho20 hb hg_ hnew_; clear hg_ hnew_; (first | rw [← Ny237.out] at ho20 | (simp only [Int.reduceToNat] at ho20; rw [← Ny237.out] at ho20)); replace HO228 := Aside0.mk (Kd.S_elder' (by (with_reducible repeat (first | apply Kd.S_alloc | apply Kd.S_drewN | apply Kd.S_drew)); exact HO228.out) (Kd.R_base ho20) hb); have HO239 := Aside0.mk (Kd.R_lower (Kd.R_new' (Kd.R_new' (Kd.R_new' (Kd.R_new' ho20 (Kd.R_lt (krW HO225))) (Kd.R_lt (krW HL229_0))) (Kd.R_lt (krW HO232))) (Kd.R_lt (krW HO236))) (bZ_ (kwW HB))); replace HO225 := Aside0.mk (Kd.R_elder' (krW HO225) (Kd.R_base ho20) hb); replace HL229_0 := Aside0.mk (Kd.R_elder' (krW HL229_0) (Kd.R_base ho20) hb); replace HO232 := Aside0.mk (Kd.R_elder' (krW HO232) (Kd.R_base ho20) hb); replace HO236 := Aside0.mk (Kd.R_elder' (krW HO236) (Kd.R_base ho20) hb); replace HR229_0 := Aside0.mk (Kd.C_below (by repeat (first | (with_reducible exact HR229_0.out) | (with_reducible refine Kd.C_alloc ?_ _) | (with_reducible refine Kd.C_drewN ?_ _) | (with_reducible refine Kd.C_drew ?_) | exact HR229_0.out)) hb); replace HB := Aside0.mk (below_step (kwW HB) hb); clear hb ho20; obtain ⟨Ao21, co21, eo21⟩ := Kd.R_slice HO236.out; subst eo21; obtain ⟨Ao22, co22, eo22⟩ := Kd.R_slice HO239.out; subst eo22) | (go_at_call 10; (with_reducible refine (skerryref01_Ints.calls k _ _ t234 _ _ y237 true _ ?side1 ?side2 ?side3 ?side4 A7.out).mono ?_); (case side1 => repeat (first | exact (Kd.R_reads' HO236.out).2.2 | (with_reducible refine Kd.C_alloc ?_ _) | (with_reducible refine Kd.C_drewN ?_ _) | (with_reducible refine Kd.C_drew ?_))); (case side2 => exact (Kd.R_reads' HO236.out).2.1); (case side3 => repeat (first | exact (Kd.R_reads' HO239.out).2.2 | (with_reducible refine Kd.C_alloc ?_ _) | (with_reducible refine Kd.C_drewN ?_ _) | (with_reducible refine Kd.C_drew ?_))); (case side4 => exact (Kd.R_reads' HO239.out).2.1); rintro e w' ⟨rfl, ⟨nd, rfl⟩⟩) | (go_at_call 11; (with_reducible refine (tiers_Choose.calls _ _ y223 4 t241 _ ?side1 ?side2 A9.out).mono ?_); (case side1 => repeat (first | exact (Kd.R_reads' HO225.out).2.2 | (with_reducible refine Kd.C_alloc ?_ _) | (with_reducible refine Kd.C_drewN ?_ _) | (with_reducible refine Kd.C_drew ?_))); (case side2 => exact (Kd.R_reads' HO225.out).2.1); rintro e w23 ⟨v242, rfl, ho0, hb⟩; replace HO228 := Aside0.mk (Kd.S_elder' (by (with_reducible repeat (first | apply Kd.S_alloc | apply Kd.S_drewN | apply Kd.S_drew)); exact HO228.out) (Kd.R_base ho0) hb); have HO243 := Aside0.mk (Kd.R_lower (Kd.R_new' (Kd.R_new' (Kd.R_new' (Kd.R_new' (Kd.R_new' ho0 (Kd.R_lt (krW HO225))) (Kd.R_lt (krW HL229_0))) (Kd.R_lt (krW HO232))) (Kd.R_lt (krW HO236))) (Kd.R_lt (krW HO239))) (bZ_ (kwW HB))); replace HO225 := Aside0.mk (Kd.R_elder' (krW HO225) (Kd.R_base ho0) hb); replace HL229_0 := Aside0.mk (Kd.R_elder' (krW HL229_0) (Kd.R_base ho0) hb); replace HO232 := Aside0.mk (Kd.R_elder' (krW HO232) (Kd.R_base ho0) hb); replace HO236 := Aside0.mk (Kd.R_elder' (krW HO236) (Kd.R_base ho0) hb); replace HO239 := Aside0.mk (Kd.R_elder' (krW HO239) (Kd.R_base ho0) hb); replace HR229_0 := Aside0.mk (Kd.C_below (by repeat (first | (with_reducible exact HR229_0.out) | (with_reducible refine Kd.C_alloc ?_ _) | (with_reducible refine Kd.C_drewN ?_ _) | (with_reducible refine Kd.C_drew ?_) | exact HR229_0.out)) hb); replace HB := Aside0.mk (below_step (kwW HB) hb); (try clear hb); (try clear hb2); (try clear hk); (try clear hi); (try clear ho0); obtain ⟨Ao24, co24, eo24⟩ := Kd.R_slice HO243.out; subst eo24))
 go_ret
 exact ⟨by first | rfl | (simp <;> rfl) | (simp [*] <;> rfl), kwW HB⟩
end Go.Proofs.Ythlffcaaifpdeaa.Q
