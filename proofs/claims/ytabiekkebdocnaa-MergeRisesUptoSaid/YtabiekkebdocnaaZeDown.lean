/- Lemmas for this claim's walk: no condition of their own. -/
import Derived.Test.YtabiekkebdocnaaZeQx23
import Derived.Test.YtabiekkebdocnaaZeJ32
import Derived.Test.YtabiekkebdocnaaZeJ0
import Derived.Deep.RegionHeld3
import Derived.BigQuiet
import Derived.Deep.MidRow
import Derived.WalkLawsBesides
import Derived.WalkSpells
import Derived.Lib.Hide
import Derived.Deep.DeepFit
import Derived.Outline
namespace Go.Proofs.Ytabiekkebdocnaa.Q
open Go.RowKit Go.Proofs.YtabiekkebdocnaaW.PrintWords Go.Proofs.YtabiekkebdocnaaW.PrintLast Go.Proofs.YtabiekkebdocnaaW.PrintMore
attribute [local go_sem] max2_int min2_int max_two min_two max_three min_three max_four min_four
set_option linter.unusedVariables false
set_option linter.unusedSimpArgs false
open Go.Lib Go.Proofs.Ytabiekkebdocnaa.Hp
theorem bef_calls {q : Nat → Prop} {lt : It → It → Bool} (hlt : Lt lt) {a b : It} {w : World} (ha : Src q w a ∧ a.l ≠ []) (hb : Src q w b ∧ b.l ≠ []) (p : Srt.BW w) :
  Calls Try.prog 58 #[.agg #[.slice a.A a.l.length a.cap, .int .i64 a.n], .agg #[.slice b.A b.l.length b.cap, .int .i64 b.n]] p.w' fun e w' => e = .returned (.bool (lt a b)) ∧ Below p.w'.heap.size p.w' w' := by
 obtain ⟨k, hk⟩ := hlt a b ha.2 hb.2
 exact merge_source_before.calls k a.A a.cap a.l a.n b.A b.cap b.l b.n _ p.w' (Kd.C_below ha.1.c p.h) ha.1.cap (Kd.C_below hb.1.c p.h) hb.1.cap hk
theorem it_quiet {w : World} {base g n cap : Nat} {ok : Nat → Prop} {xs : List It} (h : Kd.R kIt 59 w base ok (.slice (some ⟨g, 0, none⟩) n cap) xs) (i : Nat) (hi : i < xs.length) (o : Nat) (ho : o = i * 2) (p : Srt.BW w) :
  p.w'.cell? ⟨g, o, none⟩ = some (.slice (xs.getD i It.z).A (xs.getD i It.z).l.length (xs.getD i It.z).cap) ∧ p.w'.cell? ⟨g, o + 1, none⟩ = some (.int .i64 (xs.getD i It.z).n) := by
 subst ho
 obtain ⟨h1, h2, _⟩ := it_cells h i hi
 have hg := Kd.R_lt h g rfl
 exact ⟨(p.h.cell (p := ⟨g, i * 2, none⟩) hg).trans h1, (p.h.cell (p := ⟨g, i * 2 + 1, none⟩) hg).trans h2⟩
theorem getD_mem_ {xs : List It} {i : Nat} (hi : i < xs.length) : xs.getD i It.z ∈ xs := by
 rw [List.getD_eq_getElem?_getD, List.getElem?_eq_getElem hi]; exact List.getElem_mem hi
set_option maxHeartbeats 2000000 in
set_option maxRecDepth 100000 in
theorem down_calls {q : Nat → Prop} {lt : It → It → Bool} (hlt : Lt lt) (base g n cap : Nat) (ok : Nat → Prop) (xs : List It) (i : Nat) (w : World) (hR : Kd.R kIt 59 w base ok (.slice (some ⟨g, 0, none⟩) n cap) xs)
  (hS : ∀ t ∈ xs, Src q w t ∧ t.l ≠ []) (hi : i < xs.length) (hlen : xs.length ≤ 1000000) :
  Calls Try.prog 46 #[.slice (some ⟨g, 0, none⟩) n cap, .int .i64 i] w fun e w' => e = .returned (.tuple #[]) ∧ Kd.R kIt 59 w' base ok (.slice (some ⟨g, 0, none⟩) n cap) (dn lt It.z xs i) ∧ w.grownBy w' (some g) := by
 have hn : n = xs.length := (Kd.R_reads' hR).1
 have HLT := Lib.hid hlt
 have HR0 := Lib.hid hR
 have HS0 := Lib.hid hS
 have HI0 := Lib.hid (And.intro hn (And.intro hi hlen))
 clear hR hS hlt hi hlen hn
 go_enter Try.func46, Try.ntmps46
 go_wp2_with fail
 go_loopg [1, 4] n (fun gk v1 v4 wr => ∃ (j : Nat) (ys : List It), v1 = .int .i64 j ∧ Aside0 (ys.length = n ∧ j < n ∧ n ≤ 1000000 ∧ ∃ f, f ≤ gk ∧ n ≤ f + j ∧ down lt It.z f ys j = dn lt It.z xs i) ∧ Aside0 (Kd.R kIt 59 wr base ok (.slice (some ⟨g, 0, none⟩) n cap) ys) ∧ Aside0 (w.grownBy wr (some g)) ∧ Aside0 (∀ t ∈ ys, Src q w t ∧ t.l ≠ []))
 case atStart => exact ⟨i, xs, rfl, ⟨HI0.out.1.symm, by have := HI0.out; omega, by have := HI0.out; omega, xs.length - i, by have := HI0.out; omega, by have := HI0.out; omega, rfl⟩, ⟨HR0.out⟩, ⟨grown_refl _ _⟩, ⟨HS0.out⟩⟩
 case round =>
  obtain ⟨j, ys, rfl, HJ, HR, HG, HS⟩ := hrel
  have hj := HJ.out.2.1
  have hn := HJ.out.2.2.1
  by_cases h1 : 2 * j + 1 < n
  ·
   have q1 : ¬ ((n : Int) ≤ 2 * (j : Int) + 1) := by omega
   go_upto_region 2 with fail
   go_cut [4, 28] (fun v4 v28 wc => v4 = .int .i64 (2 * (j : Int) + 1) ∧ (∃ b : Bool, v28 = .bool b ∧ Aside0 (kid lt It.z ys j = if b = true then 2 * j + 2 else 2 * j + 1)) ∧ Aside0 (Below wr.heap.size wr wc))
   case first =>
    by_cases h2 : 2 * j + 2 < n
    ·
     have HW := Lib.hid (show IntKind.i64.wrap (2 * (j : Int) + 1 + 1) = 2 * (j : Int) + 2 by rw [i64_w]; unfold wrap64; omega)
     have q2 : 2 * (j : Int) + 2 < (n : Int) := by omega
     have q3 : (0 : Int) ≤ 2 * (j : Int) + 2 := by omega
     have q4 : 2 * (j : Int) + 1 < (n : Int) := by omega
     have q5 : (0 : Int) ≤ 2 * (j : Int) + 1 := by omega
     have hl := HJ.out.1
     have c1 := it_quiet HR.out (2 * j + 1) (by omega) ((2 * (j : Int) + 1).toNat * 2) (by omega)
     have c2 := it_quiet HR.out (2 * j + 2) (by omega) ((2 * (j : Int) + 2).toNat * 2) (by omega)
     have m1 := getD_mem_ (xs := ys) (i := 2 * j + 1) (by omega)
     have m2 := getD_mem_ (xs := ys) (i := 2 * j + 2) (by omega)
     have hk : kid lt It.z ys j = if lt (ys.getD (2 * j + 2) It.z) (ys.getD (2 * j + 1) It.z) = true then 2 * j + 2 else 2 * j + 1 := by unfold kid; simp only [show 2 * j + 2 < ys.length by omega, true_and]
     have HC := Lib.hid (bef_calls HLT.out ⟨(HS.out _ m2).1.grown HR0.out HG.out, (HS.out _ m2).2⟩ ⟨(HS.out _ m1).1.grown HR0.out HG.out, (HS.out _ m1).2⟩)
     generalize ys.getD (2 * j + 1) It.z = t1 at c1 hk HC
     generalize ys.getD (2 * j + 2) It.z = t2 at c2 hk HC
     have HK := Lib.hid hk
     have c11 := fun p => (c1 p).1
     have c12 := fun p => (c1 p).2
     have c21 := fun p => (c2 p).1
     have c22 := fun p => (c2 p).2
     clear m1 m2 hk c1 c2
     have mixed : Try.prog.follows .mixedOrders = true := by kernel_rfl
     refine Srt.wp_region_quiet_bw (by assumption) (by kernel_rfl) ?_
     repeat (quiet_step (fail))
     rw [HW.out, show decide (2 * (j : Int) + 2 < (n : Int)) = true from decide_eq_true q2]
     quiet_step (fail)
     quiet_step (fail)
     quiet_step (fail)
     rw [HW.out]
     repeat (quiet_step ((go_at_call 58; refine Srt.Calls.bw_of (HC.out _))))
     refine wpQuiet_nil ?_
     rintro w3 ⟨p, rfl⟩
     go_wp2_with fail
     go_meet
     case rel => exact ⟨rfl, ⟨_, rfl, ⟨HK.out⟩⟩, ⟨p.h⟩⟩
    ·
     have HW := Lib.hid (show IntKind.i64.wrap (2 * (j : Int) + 1 + 1) = 2 * (j : Int) + 2 by rw [i64_w]; unfold wrap64; omega)
     have q2 : ¬ 2 * (j : Int) + 2 < (n : Int) := by omega
     have HK := Lib.hid (show kid lt It.z ys j = 2 * j + 1 by unfold kid; rw [if_neg (by have := HJ.out.1; omega)])
     have mixed : Try.prog.follows .mixedOrders = true := by kernel_rfl
     refine Srt.wp_region_quiet_bw (by assumption) (by kernel_rfl) ?_
     repeat (quiet_step (fail))
     rw [HW.out, show decide (2 * (j : Int) + 2 < (n : Int)) = false from decide_eq_false q2]
     repeat go_big_quiet_skip
     quiet_step (fail)
     refine wpQuiet_nil ?_
     rintro w3 ⟨p, rfl⟩
     go_wp2_with fail
     go_meet
     case rel => exact ⟨rfl, ⟨false, rfl, ⟨HK.out⟩⟩, ⟨p.h⟩⟩
   case rest =>
    obtain ⟨rfl, ⟨b, rfl, HK⟩, HB⟩ := hcut
    have hk2 := kid_lt (lt := lt) (d := It.z) ys (i := j) (by have := HJ.out.1; omega)
    obtain ⟨k, ek⟩ : ∃ k, kid lt It.z ys j = k := ⟨_, rfl⟩
    rw [ek] at hk2
    have EK := Lib.hid ek
    have HK2 := Lib.hid hk2
    have hkn : k < n := by have := hk2.1; have := HJ.out.1; omega
    clear ek hk2
    have HB0 := Lib.hid HB.out
    go_upto_if 28 with fail
    go_cut [4] (fun v4 wd => v4 = .int .i64 (k : Nat) ∧ Aside0 (Below wr.heap.size wr wd))
    case first =>
     have hkk := HK.out
     rw [EK.out] at hkk
     have HKK := Lib.hid hkk
     clear hkk
     cases b
     ·
      go_wp2_with fail
      go_meet
      case rel => exact ⟨by have h9 : k = 2 * j + 1 := (by simpa using HKK.out); exact congrArg _ (by omega), ⟨HB0.out⟩⟩
     ·
      go_wp2_with fail
      go_meet
      case rel => exact ⟨by have h9 : k = 2 * j + 2 := (by simpa using HKK.out); exact congrArg _ (by omega), ⟨HB0.out⟩⟩
    case rest =>
     clear HB HB0 HK
     obtain ⟨rfl, HB⟩ := hcut
     have q2 : (k : Int) < (n : Int) := by omega
     have q3 : (0 : Int) ≤ (k : Int) := by omega
     have q4 : (j : Int) < (n : Int) := by omega
     have q5 : (0 : Int) ≤ (j : Int) := by omega
     have hl := HJ.out.1
     have HRc := Lib.hid (Kd.R_below HR.out HB.out)
     have HGc := Lib.hid (grown_below HG.out HB.out)
     have HSc := Lib.hid (fun t ht => And.intro ((HS.out t ht).1.grown HR0.out HGc.out) (HS.out t ht).2)
     clear HR HG
     go_upto_region 4 with fail
     go_cut [40] (fun v40 we => v40 = .bool (!lt (ys.getD k It.z) (ys.getD j It.z)) ∧ Aside0 (Below wc.heap.size wc we))
     case first =>
      have c1 := it_quiet HRc.out k (by omega) (k * 2) rfl
      have c2 := it_quiet HRc.out j (by omega) (j * 2) rfl
      have m1 := getD_mem_ (xs := ys) (i := k) (by omega)
      have m2 := getD_mem_ (xs := ys) (i := j) (by omega)
      have HC := Lib.hid (bef_calls HLT.out (HSc.out _ m1) (HSc.out _ m2))
      obtain ⟨t1, e1⟩ : ∃ t, ys.getD k It.z = t := ⟨_, rfl⟩
      obtain ⟨t2, e2⟩ : ∃ t, ys.getD j It.z = t := ⟨_, rfl⟩
      rw [e1] at c1
      rw [e2] at c2
      rw [e1, e2] at HC
      have HE := Lib.hid (And.intro e1 e2)
      have c11 := fun p => (c1 p).1
      have c12 := fun p => (c1 p).2
      have c21 := fun p => (c2 p).1
      have c22 := fun p => (c2 p).2
      clear m1 m2 c1 c2 e1 e2
      have mixed : Try.prog.follows .mixedOrders = true := by kernel_rfl
      refine Srt.wp_region_quiet_bw (by assumption) (by kernel_rfl) ?_
      repeat (quiet_step ((go_at_call 58; refine Srt.Calls.bw_of (HC.out _))))
      refine wpQuiet_nil ?_
      rintro w3 ⟨p, rfl⟩
      go_wp2_with fail
      go_meet
      case rel => exact ⟨by rw [HE.out.1, HE.out.2], ⟨p.h⟩⟩
     case rest =>
      obtain ⟨rfl, HBe⟩ := hcut
      have HRe := Lib.hid (Kd.R_below HRc.out HBe.out)
      have HGe := Lib.hid (grown_below HGc.out HBe.out)
      clear HRc HGc HSc HB HBe
      obtain ⟨b, eb⟩ : ∃ b, lt (ys.getD k It.z) (ys.getD j It.z) = b := ⟨_, rfl⟩
      rw [eb]
      have HEB := Lib.hid eb
      clear eb
      have HD := Lib.hid (show ∀ f, n ≤ f + j → down lt It.z f ys j = if b = true then down lt It.z (f - 1) (swp It.z ys j k) k else ys from fun f hf => by
       obtain ⟨f, rfl⟩ : ∃ f', f = f' + 1 := ⟨f - 1, by omega⟩
       rw [down, if_neg (by omega), EK.out, HEB.out]; rfl)
      cases b
      ·
       go_wp2_with fail
       refine bodyPost_ret (results_none rfl _ _ _) rfl ?_
       obtain ⟨f, hf1, hf2, hf3⟩ := HJ.out.2.2.2
       exact ⟨rfl, by rw [← hf3, HD.out f hf2, if_neg (by decide)]; exact HRe.out, HGe.out⟩
      ·
       go_upto_region 5 with fail
       obtain ⟨c11, c12, cf⟩ := it_cells HRe.out k (by omega)
       obtain ⟨c21, c22, -⟩ := it_cells HRe.out j (by omega)
       have f1 := cf (k * 2)
       have f2 := cf (k * 2 + 1)
       have f3 := cf (j * 2)
       have f4 := cf (j * 2 + 1)
       have n1 : k * 2 ≠ j * 2 := by have := HK2.out; omega
       have n2 : k * 2 + 1 ≠ j * 2 := by omega
       have n3 : k * 2 ≠ j * 2 + 1 := by omega
       have n4 : k * 2 + 1 ≠ j * 2 + 1 := by have := HK2.out; omega
       obtain ⟨t1, e1⟩ : ∃ t, ys.getD k It.z = t := ⟨_, rfl⟩
       obtain ⟨t2, e2⟩ : ∃ t, ys.getD j It.z = t := ⟨_, rfl⟩
       rw [e1] at c11 c12
       rw [e2] at c21 c22
       have HE := Lib.hid (And.intro e1 e2)
       clear e1 e2 cf
       go_region
       clear c11 c12 c21 c22 f1 f2 f3 f4 n1 n2 n3 n4
       have hp1 := it_put HRe.out j (by omega) t1
       have hp2 := it_put hp1 k (by rw [List.length_set]; omega) t2
       have hsw : (ys.set j t1).set k t2 = swp It.z ys j k := by rw [← HE.out.1, ← HE.out.2]; rfl
       rw [hsw] at hp2
       have HP := Lib.hid (Kd.R_drew hp2)
       have HG2 := Lib.hid (grown_below (grown_set (grown_set (grown_set (grown_set HGe.out (p := ⟨g, j * 2, none⟩) (.inr rfl) (.slice t1.A t1.l.length t1.cap)) (p := ⟨g, j * 2 + 1, none⟩) (.inr rfl) (.int .i64 t1.n)) (p := ⟨g, k * 2, none⟩) (.inr rfl) (.slice t2.A t2.l.length t2.cap)) (p := ⟨g, k * 2 + 1, none⟩) (.inr rfl) (.int .i64 t2.n)) (below_drew (Below.refl _ _)))
       clear hp1 hp2 hsw
       go_wp2_with fail
       go_roundg (gk - 1)
       case measure => obtain ⟨f, hf1, hf2, hf3⟩ := HJ.out.2.2.2; omega
       case rel =>
        obtain ⟨f, hf1, hf2, hf3⟩ := HJ.out.2.2.2
        refine ⟨k, swp It.z ys j k, rfl, ⟨by rw [swp_len]; exact hl, hkn, hn, f - 1, by omega, by have := HK2.out; omega, ?_⟩, ⟨HP.out⟩, ⟨HG2.out⟩, ⟨fun t ht => HS.out t ((swp_perm ys (by omega) (by omega)).mem_iff.1 ht)⟩⟩
        rw [← hf3, HD.out f hf2, if_pos trivial]
  ·
   have q1 : ((n : Int) ≤ 2 * (j : Int) + 1) := by omega
   go_wp2_with fail
   refine bodyPost_ret (results_none rfl _ _ _) rfl ?_
   obtain ⟨f, hf1, hf2, hf3⟩ := HJ.out.2.2.2
   have h3 : down lt It.z f ys j = ys := by
    cases f with
    | zero => rfl
    | succ f => unfold down; rw [if_pos (by have := HJ.out.1; omega)]
   exact ⟨rfl, by rw [← hf3, h3]; exact HR.out, HG.out⟩
end Go.Proofs.Ytabiekkebdocnaa.Q
