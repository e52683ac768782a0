/- Murmur's Sum, walked. -/
import Derived.Test.YtafhnjlihhfoaaaUdMurA
namespace Go.Proofs.Ytafhnjlihhfoaaa.Mur
open Go.RowKit Go.Proofs.YtafhnjlihhfoaaaW.PrintWords Go.Proofs.YtafhnjlihhfoaaaW.PrintLast Go.Proofs.YtafhnjlihhfoaaaW.PrintMore
attribute [local go_sem] max2_int min2_int max_two min_two max_three min_three max_four min_four
set_option linter.unusedVariables false
set_option linter.unusedSimpArgs false
set_option maxHeartbeats 4000000 in
set_option maxRecDepth 1000000 in
theorem mur_sum (A0 : Option Addr) (c0 : Nat) (l0 : List Int) (a1 : Int) (r1 : Int) (r2 : Int) (w : World) (hr0 : Kd.C (Kd.int .u8) w A0 l0.length l0) (hc0 : l0.length ≤ c0) (hh : sumN l0 a1 = (r1, r2)) :
  Calls Try.prog 30 #[.slice A0 l0.length c0, .int .u64 a1] w fun e w' => e = .returned (.tuple #[.int .u64 r1, .int .u64 r2]) ∧ Below w.heap.size w w' := by
 have hmx : Try.prog.follows .mixedOrders = true := by kernel_rfl
 have HN := Lib.hid hh
 have HR := Lib.hid hr0
 have hm := hr0.2.1
 clear hh hr0
 go_enter Try.func30, Try.ntmps30
 go_wp2
 go_step3
 go_wp2
 go_step3
 go_wp2
 go_loopg [8] (l0.length + 1) (fun g1 v8 wr => ∃ (A : Option Addr) (c : Nat) (l : List Int) (h g : Int), v8 = .slice A l.length c ∧ l.length ≤ c ∧ l.length < g1 ∧ l.length ≤ 9223372036854775807 ∧ Hid (Kd.C (Kd.int .u8) w A l.length l) ∧ Hid (sumL g1 l h g = sumL (l0.length + 1) l0 a1 a1) ∧ Hid (H2 w wr h g))
 case atStart => exact ⟨A0, c0, l0, a1, a1, rfl, hc0, Nat.lt_succ_self _, hm, HR.out, rfl, H2.start w a1 a1⟩
 case round =>
  obtain ⟨A, c, l, hv, g, rfl, hc, hlt, hml, HC, HS, HW⟩ := hrel
  cases gk with
  | zero => omega
  | succ gk =>
  have c1 := HW.out.c1
  have c2 := HW.out.c2
  have f1 := HW.out.f1
  have f2 := HW.out.f2
  by_cases h16 : l.length < 16
  ·
   have h16z : (l.length : Int) < 16 := by omega
   have HT := Lib.hid (show sumL (gk + 1) l hv g = (if 0 < l.length then Go.bits .xor .u64 hv (lowN l) else hv, if 8 < l.length then Go.bits .xor .u64 g (highN (l.drop 8)) else g) by rw [sumL, if_pos h16])
   go_upto_if 41 with fail
   go_cut [] (fun wx => ∃ g2 : Int, Hid (g2 = if 8 < l.length then Go.bits .xor .u64 g (highN (l.drop 8)) else g) ∧ Hid (H2 w wx hv g2))
   case first =>
    by_cases h8 : 8 < l.length
    ·
     as_aux_lemma =>
      have h8z : (8 : Int) < (l.length : Int) := by omega
      obtain ⟨A8, hr8, hC8, hl8⟩ := mur_drop A c l 8 (by omega) hc
      have h8w : 8 ≤ (l.length : Int) := by omega
      have h16q : (l.length : Int) < 16 := by omega
      have q8 : (Instr.slice 55 (.slice A l.length c) (some (.int .i64 8)) none none).run Try.prog w = .ok (.slice (if c = 8 then A else Option.map (fun x => { block := x.block, off := x.off + 8 }) A) (l.length - 8) (c - 8)) w := by go_simp
      have eA8 : A8 = (if c = 8 then A else Option.map (fun x => { block := x.block, off := x.off + 8 }) A) := by
       have := (hr8 w).symm.trans q8
       injection this with e1 _
       injection e1
      clear q8 hr8
      have HC8 := Lib.hid (hC8 w HC.out)
      have e8 : (l.drop 8).length = l.length - 8 := List.length_drop
      have E8 := Lib.hid e8
      have EA8 := Lib.hid eA8
      have HL8 := Lib.hid hl8
      have hc8 : ¬ c = 8 := by omega
      clear hC8 hl8 e8 eA8
      go_wp2_with fail
      clear c1 c2 f1 f2
      have HH2 := Lib.hid HW.out.drew
      have c1 := HH2.out.c1
      have c2 := HH2.out.c2
      have f1 := HH2.out.f1
      have f2 := HH2.out.f2
      have CH := Lib.hid (mur_high A8 (c - 8) (l.drop 8) wr.drew (Kd.C_below HC8.out HH2.out.below) HL8.out)
      rw [EA8.out, E8.out, if_neg hc8] at CH
      go_still_tail 5, hmx
      repeat still_step
      still_call CH.out
      repeat still_step
      refine wpStill_nil ?_
      change wpList _ _ _ _ _ wr.drew
      generalize wr.drew = wh at HH2 c1 c2 f1 f2 ⊢
      clear CH
      go_wp2_with fail
      have HY := Lib.hid (HH2.out.set2 (Go.bits .xor .u64 g (highN (l.drop 8))))
      generalize (wh.setCell ⟨w.heap.size + 1, 0, none⟩ (.int .u64 (Go.bits .xor .u64 g (highN (l.drop 8))))) = wy at HY ⊢
      go_meet
      case rel => exact ⟨_, Lib.hid (by rw [if_pos h8]), HY⟩
    ·
     as_aux_lemma =>
      have h8z : ¬ (8 : Int) < (l.length : Int) := by omega
      go_wp2_with fail
      go_meet
      case rel => exact ⟨_, Lib.hid (by rw [if_neg h8]), HW⟩
   case rest =>
    clear c1 c2 f1 f2 HW
    obtain ⟨g2, HG2, HW⟩ := hcut
    have c1 := HW.out.c1
    have c2 := HW.out.c2
    have f1 := HW.out.f1
    have f2 := HW.out.f2
    go_upto_if 49 with fail
    go_cut [] (fun wx => ∃ h2 : Int, Hid (h2 = if 0 < l.length then Go.bits .xor .u64 hv (lowN l) else hv) ∧ Hid (H2 w wx h2 g2))
    case first =>
     by_cases h0 : 0 < l.length
     ·
      as_aux_lemma =>
       have h0z : (0 : Int) < (l.length : Int) := by omega
       go_wp2_with fail
       have CL := Lib.hid (mur_low A c l wc.drew (Kd.C_below HC.out HW.out.drew.below) hc)
       clear c1 c2 f1 f2
       have HL := Lib.hid HW.out.drew
       have c1 := HL.out.c1
       have c2 := HL.out.c2
       have f1 := HL.out.f1
       have f2 := HL.out.f2
       go_still_tail 4, hmx
       still_call CL.out
       repeat still_step
       refine wpStill_nil ?_
       change wpList _ _ _ _ _ wc.drew
       generalize wc.drew = wl at HL c1 c2 f1 f2 ⊢
       clear CL
       go_wp2_with fail
       have HX := Lib.hid (HL.out.set1 (Go.bits .xor .u64 hv (lowN l)))
       generalize (wl.setCell ⟨w.heap.size, 0, none⟩ (.int .u64 (Go.bits .xor .u64 hv (lowN l)))) = wx at HX ⊢
       go_meet
       case rel => exact ⟨_, Lib.hid (by rw [if_pos h0]), HX⟩
     ·
      as_aux_lemma =>
       have h0z : ¬ (0 : Int) < (l.length : Int) := by omega
       go_wp2_with fail
       go_meet
       case rel => exact ⟨_, Lib.hid (by rw [if_neg h0]), HW⟩
    case rest =>
     clear c1 c2 f1 f2 HW
     obtain ⟨h2, HH2, HX⟩ := hcut
     have c1 := HX.out.c1
     have c2 := HX.out.c2
     have f1 := HX.out.f1
     have f2 := HX.out.f2
     as_aux_lemma =>
      have FIN := Lib.hid (show sumF (l0.length : Int) h2 g2 = (r1, r2) by
       have h1 := HN.out
       unfold sumN at h1
       rw [← HS.out, HT.out, ← HH2.out, ← HG2.out] at h1
       exact h1)
      go_wp2_with fail
      go_region
      go_wp2_with fail
      refine (mur_add w _ _ _ (by with_reducible exact ((HX.out.set1 _).set2 _).drew)).mono ?_
      rintro e w3 ⟨rfl, H3⟩
      clear c1 c2 f1 f2
      have HW3 := Lib.hid H3
      have c1 := H3.c1
      have c2 := H3.c2
      have f1 := H3.f1
      have f2 := H3.f2
      clear H3
      go_wp2_with fail
      go_region_with (first | (go_at_call 57; refine (mur_mix _ _).mono ?_; rintro e w' ⟨rfl, rfl⟩))
      all_goals (go_wp2_with fail)
      all_goals
       refine (mur_add w _ _ _ (by with_reducible exact ((HW3.out.set1 _).set2 _).drew)).mono ?_
       rintro e w5 ⟨rfl, H5⟩
       clear c1 c2 f1 f2
       have HW5 := Lib.hid H5
       have c1 := H5.c1
       have c2 := H5.c2
       clear H5
       go_wp2_with fail
       go_quiet (fail)
       go_wp2
       rw [Exit.noGoto_ret]
       go_ret2
       exact ⟨ret2_ (sumF_inj FIN.out), pw_below_drewN HW5.out.below _⟩
  ·
   as_aux_lemma =>
    have h16z : ¬ (l.length : Int) < 16 := by omega
    have h8 : 8 ≤ l.length := by omega
    have h8z : 8 ≤ (l.length : Int) := by omega
    have h16y : 16 ≤ (l.length : Int) := by omega
    obtain ⟨A8, hr8, hC8, hl8⟩ := mur_drop A c l 8 h8 hc
    obtain ⟨A16, hr16, hC16, hl16⟩ := mur_drop A c l 16 (by omega) hc
    have q8 : (Instr.slice 55 (.slice A l.length c) (some (.int .i64 8)) none none).run Try.prog w = .ok (.slice (if c = 8 then A else Option.map (fun x => { block := x.block, off := x.off + 8 }) A) (l.length - 8) (c - 8)) w := by go_simp
    have eA8 : A8 = (if c = 8 then A else Option.map (fun x => { block := x.block, off := x.off + 8 }) A) := by
     have := (hr8 w).symm.trans q8
     injection this with e1 _
     injection e1
    clear q8 hr8
    have q16 : (Instr.slice 55 (.slice A l.length c) (some (.int .i64 16)) none none).run Try.prog w = .ok (.slice (if c = 16 then A else Option.map (fun x => { block := x.block, off := x.off + 16 }) A) (l.length - 16) (c - 16)) w := by go_simp
    have eA16 : A16 = (if c = 16 then A else Option.map (fun x => { block := x.block, off := x.off + 16 }) A) := by
     have := (hr16 w).symm.trans q16
     injection this with e1 _
     injection e1
    clear q16 hr16
    have HC8 := Lib.hid (hC8 w HC.out)
    have HC16 := Lib.hid (hC16 w HC.out)
    have e8 : (l.drop 8).length = l.length - 8 := List.length_drop
    have e16 : (l.drop 16).length = l.length - 16 := List.length_drop
    have E8 := Lib.hid e8
    have EA8 := Lib.hid eA8
    have EA16 := Lib.hid eA16
    have E16 := Lib.hid e16
    have hl16' : (l.drop 16).length ≤ c - 16 := hl16
    have HL8 := Lib.hid hl8
    clear hC8 hC16 hl8 hl16 e8 e16 eA8 eA16
    go_wp2_with fail
    have HW2 := Lib.hid HW.out.drew
    clear c1 c2 f1 f2
    have c1 := HW2.out.c1
    have c2 := HW2.out.c2
    have f1 := HW2.out.f1
    have f2 := HW2.out.f2
    have CL := Lib.hid (mur_low A c l wr.drew (Kd.C_below HC.out HW2.out.below) hc)
    go_still_tail 9, hmx
    still_call CL.out
    repeat still_step
    still_call (mur_rot27 _ _)
    repeat still_step
    refine wpStill_nil ?_
    change wpList _ _ _ _ _ wr.drew
    generalize wr.drew = w2 at HW2 c1 c2 f1 f2 ⊢
    clear CL
    go_wp2_with fail
    generalize eh : IntKind.u64.wrap (IntKind.u64.wrap (IntKind.u64.wrap (rotN (Go.bits .xor .u64 hv (lowN l)) 27 + g) * 5) + 1390208809) = h1
    have HW3 := Lib.hid (HW2.out.set1 h1).drew
    have EH := Lib.hid eh
    clear c1 c2 f1 f2 eh
    have c1 := HW3.out.c1
    have c2 := HW3.out.c2
    have f1 := HW3.out.f1
    have f2 := HW3.out.f2
    have CH := Lib.hid (mur_high A8 (c - 8) (l.drop 8) _ (Kd.C_below HC8.out HW3.out.below) HL8.out)
    rw [EA8.out, E8.out] at CH
    generalize hw3 : (w2.setCell ⟨w.heap.size, 0, none⟩ (.int .u64 h1)) = w3 at HW3 c1 c2 f1 f2 CH ⊢
    go_still_tail 10, hmx
    still_call CH.out
    repeat still_step
    still_call (mur_rot31 _ _)
    repeat still_step
    refine wpStill_nil ?_
    change wpList _ _ _ _ _ w3.drew
    clear hw3
    generalize w3.drew = w4 at HW3 c1 c2 f1 f2 ⊢
    clear CH
    have eg0 : ∃ g1, IntKind.u64.wrap (IntKind.u64.wrap (IntKind.u64.wrap (rotN (Go.bits .xor .u64 g (highN (l.drop 8))) 31 + h1) * 5) + 944331445) = g1 := ⟨_, rfl⟩
    obtain ⟨g1, eg⟩ := eg0
    have EG := Lib.hid eg
    have HW4 := Lib.hid (HW3.out.set2 g1)
    by_cases hc16 : c = 16
    ·
     have EC := Lib.hid hc16
     clear eg
     go_wp2_with fail
     rw [EG.out]
     generalize (w4.setCell ⟨w.heap.size + 1, 0, none⟩ (.int .u64 g1)) = w5 at HW4 ⊢
     clear c1 c2 f1 f2
     go_roundg gk
     case measure => omega
     case rel =>
      refine ⟨A16, c - 16, l.drop 16, h1, g1, by rw [EA16.out, E16.out, if_pos EC.out]; simp [EC.out], hl16', by rw [E16.out]; omega, by rw [E16.out]; omega, HC16, ?_, HW4⟩
      show _ = _
      rw [← HS.out]
      conv => rhs; rw [sumL]
      rw [if_neg h16]
      simp only [EH.out, EG.out]
    ·
     have EC := Lib.hid hc16
     clear eg
     go_wp2_with fail
     rw [EG.out]
     generalize (w4.setCell ⟨w.heap.size + 1, 0, none⟩ (.int .u64 g1)) = w5 at HW4 ⊢
     clear c1 c2 f1 f2
     go_roundg gk
     case measure => omega
     case rel =>
      refine ⟨A16, c - 16, l.drop 16, h1, g1, by rw [EA16.out, E16.out, if_neg EC.out], hl16', by rw [E16.out]; omega, by rw [E16.out]; omega, HC16, ?_, HW4⟩
      show _ = _
      rw [← HS.out]
      conv => rhs; rw [sumL]
      rw [if_neg h16]
      simp only [EH.out, EG.out]
end Go.Proofs.Ytafhnjlihhfoaaa.Mur
