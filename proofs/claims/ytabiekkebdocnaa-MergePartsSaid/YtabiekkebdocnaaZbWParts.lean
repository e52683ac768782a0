/- Lemmas for this claim's walk: no condition of their own. -/
import Derived.Test.YtabiekkebdocnaaZbJ41
import Derived.Deep.MidRow
import Derived.WalkLawsBesides
import Derived.WalkSpells
import Derived.Lib.Hide
import Derived.Deep.DeepFit
import Derived.Outline
namespace Go.Proofs.Ytabiekkebdocnaa.Q
open Go.RowKit Go.Proofs.YtabiekkebdocnaaW.PrintWords Go.Proofs.YtabiekkebdocnaaW.PrintLast Go.Proofs.YtabiekkebdocnaaW.PrintMore
attribute [local go_sem] max2_int min2_int max_two min_two max_three min_three max_four min_four
set_option linter.unusedVariables false
set_option linter.unusedSimpArgs false
open Go.Lib Go.Proofs.Ytabiekkebdocnaa.Hp Go.Proofs.Ytabiekkebdocnaa.Pl Go.Proofs.Ytabiekkebdocnaa.Rh Go.Proofs.Ytabiekkebdocnaa.Ord Go.Proofs.Ytabiekkebdocnaa.Nm Go.Proofs.Ytabiekkebdocnaa.Opn
theorem few1_calls {l0 : List Cl} (h0 : In l0) : ∃ r : Bool, ∀ (A0 : Option Addr) (c0 : Nat) (w : World), Kd.C k39 w A0 l0.length l0 → l0.length ≤ c0 → Calls Try.prog 9 #[.slice (some ⟨w.heap.size, 0, none⟩) 1 1] (w.alloc (.cells #[.slice A0 l0.length c0] 25)) fun e w' => e = .returned (.bool r) ∧ Below w.heap.size w w' := by
 obtain ⟨r, hr, -⟩ := few_f [l0] (fun l hl c hc => by
   obtain rfl := List.mem_singleton.1 hl; exact WC.fine (h0.wc c hc)) (fun l hl => by
   obtain rfl := List.mem_singleton.1 hl; exact h0.len) (by simp) 1256584717422 (fun l hl => by
   obtain rfl := List.mem_singleton.1 hl; have := h0.len; omega) 1256584717425 (by simp)
 refine ⟨r, fun A0 c0 w hC0 hc0 => (skerrylaw10_few.calls _ (some ⟨w.heap.size, 0, none⟩) 1 [l0] r _ (C_one hC0 hc0) (Nat.le_refl 1) hr).mono ?_⟩
 rintro e w' ⟨rfl, hb⟩
 exact ⟨rfl, below_then (below_alloc (Below.refl _ _) _) (by simp) hb⟩
theorem all1_calls {l : List Cl} (hl : l.length ≤ 1256584717421) (A0 : Option Addr) (c0 : Nat) (w : World) (hC0 : Kd.C k39 w A0 l.length l) (hc0 : l.length ≤ c0) :
  Calls Try.prog 15 #[.slice (some ⟨w.heap.size, 0, none⟩) 1 1] (w.alloc (.cells #[.slice A0 l.length c0] 25)) fun e w' => ∃ v : Value, e = .returned v ∧ Kd.R k39 39 w' w.heap.size (fun _ => True) v (normC l) ∧ Below w.heap.size w w' := by
 refine (all_calls (N := normC) (one_ok hl) (some ⟨w.heap.size, 0, none⟩) 1 _ (C_one hC0 hc0) (Nat.le_refl 1)).mono ?_
 rintro e w' ⟨v, rfl, ho, hb⟩
 rw [List.flatMap_cons, List.flatMap_nil, List.append_nil, norm2] at ho
 exact ⟨v, rfl, Kd.R_lower ho (by simp), below_then (below_alloc (Below.refl _ _) _) (by simp) hb⟩
theorem cl_cells {W : World} {A : Option Addr} {M : List Cl} (h : Kd.C k39 W A M.length M) (i : Nat) (hi : i < M.length) : ∃ ad, A = some ad ∧ W.cell? (ad.add (i * 10)) = some (.string (M.getD i z39).f0.f0) ∧ W.cell? ⟨(ad.add (i * 10)).block, (ad.add (i * 10)).off + 1, none⟩ = some (.string (M.getD i z39).f0.f1) ∧ W.cell? ⟨(ad.add (i * 10)).block, (ad.add (i * 10)).off + 2, none⟩ = some (.int .i64 (M.getD i z39).f0.f2) ∧ W.cell? ⟨(ad.add (i * 10)).block, (ad.add (i * 10)).off + 3, none⟩ = some (.string (M.getD i z39).f0.f3) ∧ W.cell? ⟨(ad.add (i * 10)).block, (ad.add (i * 10)).off + 4, none⟩ = some (.int .i64 (M.getD i z39).f1.f0) ∧ W.cell? ⟨(ad.add (i * 10)).block, (ad.add (i * 10)).off + 5, none⟩ = some (.bool (M.getD i z39).f1.f1) ∧ W.cell? ⟨(ad.add (i * 10)).block, (ad.add (i * 10)).off + 6, none⟩ = some (.int .i64 (M.getD i z39).f1.f2) ∧ W.cell? ⟨(ad.add (i * 10)).block, (ad.add (i * 10)).off + 7, none⟩ = some (.int .i64 (M.getD i z39).f1.f3.f0) ∧ W.cell? ⟨(ad.add (i * 10)).block, (ad.add (i * 10)).off + 8, none⟩ = some (.int .i64 (M.getD i z39).f1.f3.f1) ∧ W.cell? ⟨(ad.add (i * 10)).block, (ad.add (i * 10)).off + 9, none⟩ = some (.string (M.getD i z39).f1.f3.f2) := by
 have h1 := at_T39 h (i : Int) (by omega) (by omega)
 unfold rd_T39 at h1
 rw [Int.toNat_natCast] at h1
 exact h1
set_option maxHeartbeats 4000000 in
set_option maxRecDepth 100000 in
theorem walkParts (A0 : Option Addr) (c0 : Nat) (l0 : List Cl) (b : Bool) (w : World) (hr0 : Kd.C k39 w A0 l0.length l0) (hc0 : l0.length ≤ c0) (h : In l0 ∧ b = true) :
  Calls Try.prog 6 #[.slice A0 l0.length c0] w fun e w' => e = .returned (.bool b) ∧ Below w.heap.size w w' := by
 obtain ⟨h0, rfl⟩ := h
 obtain ⟨r, hfew⟩ := few1_calls h0
 have HFEW := Lib.hid (show Calls Try.prog 9 #[.slice (some ⟨w.heap.size, 0, none⟩) 1 1] (w.alloc (.cells #[.slice A0 l0.length c0] 25)) _ from hfew A0 c0 w hr0 hc0)
 have HLV := Lib.hid lives_calls
 have HALL := Lib.hid (fun (W : World) (hw : Below w.heap.size w W) => all1_calls h0.len A0 c0 W (Kd.C_below hr0 hw) hc0)
 have HPT := Lib.hid (fun (W : World) (hw : Below w.heap.size w W) (k0 k1 : ByteArray) => part_calls h0.len k0 k1 A0 c0 W (Kd.C_below hr0 hw) hc0)
 have hML : (normC l0).length ≤ 1256584717421 := Nat.le_trans (norm_len (c := cmpK) (key := keyC) (jn := joinC) l0) h0.len
 have hMI : Inc cmpK keyC (normC l0) := norm_inc cmpK_cmp joinC_key l0
 obtain ⟨M, hM⟩ : ∃ M, normC l0 = M := ⟨_, rfl⟩
 rw [hM] at HALL HPT hML hMI
 have HM := Lib.hid (And.intro hML hMI)
 clear hr0 hc0 h0 hfew hM hML hMI
 go_enter Try.func6, Try.ntmps6
 go_upto_region 1 with fail
 go_cut [11] (fun v11 wc => v11 = .bool (!r) ∧ Aside0 (Below w.heap.size w wc))
 case first =>
  go_wp2_with (go_at_call 9; (with_reducible refine HFEW.out.mono ?_); rintro e w1 ⟨rfl, hb⟩; have HB1 := Lib.hid hb; clear hb)
  go_meet
  case rel => exact ⟨rfl, ⟨HB1.out⟩⟩
 case rest =>
  obtain ⟨rfl, HB⟩ := hcut
  cases r
  ·
   go_wp2_with (go_at_call 10; (with_reducible refine (HLV.out _).mono ?_); rintro e w1 ⟨rfl, hb⟩; have HB1 := Lib.hid (below_step HB.out hb); clear hb)
   go_ret
   exact ⟨rfl, HB1.out⟩
  ·
   go_upto_region 3 with fail
   go_cut [3] (fun v3 wd => ∃ (A3 : Option Addr) (c3 : Nat), v3 = .slice A3 M.length c3 ∧ Aside0 (M.length ≤ c3 ∧ Kd.C k39 wd A3 M.length M) ∧ Aside0 (Below w.heap.size w wd))
   case first =>
    go_wp2_with (go_at_call 15; (with_reducible refine (HALL.out _ HB.out).mono ?_); rintro e w1 ⟨v1, rfl, ho, hb⟩; obtain ⟨A7, c7, rfl, h7, hC7⟩ := Kd.R_reads ho; have HB1 := Lib.hid (below_step HB.out hb); have HC7 := Lib.hid (And.intro h7 hC7); clear hb ho h7 hC7)
    go_meet
    case rel => exact ⟨A7, c7, rfl, ⟨HC7.out⟩, ⟨HB1.out⟩⟩
   case rest =>
    clear HB
    obtain ⟨A3, c3, rfl, HC, HB⟩ := hcut
    obtain ⟨w3, hw3⟩ : ∃ w3, wc = w3 := ⟨_, rfl⟩
    rw [hw3] at HC HB ⊢
    clear hw3
    have qM : (M.length : Int) ≤ 1256584717421 := by have := HM.out.1; omega
    go_wp2_with fail
    go_loopg [4, 18] M.length (fun gk v4 v18 wr => ∃ i : Nat, v4 = .int .i64 (nAt M i) ∧ v18 = .int .i64 i ∧ Aside0 (i ≤ M.length ∧ M.length - i ≤ gk) ∧ Aside0 (Below w3.heap.size w3 wr))
    case atStart => exact ⟨0, rfl, rfl, ⟨by omega, by omega⟩, ⟨Below.refl _ _⟩⟩
    case round =>
     obtain ⟨i, rfl, rfl, HI, HBr⟩ := hrel
     by_cases hi : i < M.length
     ·
      have q1 : (i : Int) < (M.length : Int) := by omega
      have q0 : (0 : Int) ≤ (i : Int) := by omega
      obtain ⟨c, ec⟩ : ∃ c, M.getD i z39 = c := ⟨_, rfl⟩
      have HEC := Lib.hid ec
      go_upto_region 7 with fail
      go_cut [5, 6] (fun v5 v6 wd => ∃ b6 : Nat, v5 = .int .i64 i ∧ v6 = .pointer (some ⟨b6, 0, none⟩) ∧ Aside0 (wd.heap[b6]? = some (.cells (cellL c).toArray 39 (0, 0))) ∧ Aside0 (Below w3.heap.size w3 wd))
      case first =>
       obtain ⟨ad, hA, d⟩ := cl_cells (Kd.C_below HC.out.2 HBr.out) i hi
       rw [ec] at d
       obtain ⟨d0, d1, d2, d3, d4, d5, d6, d7, d8, d9⟩ := d
       subst hA
       clear ec
       go_wp2_with fail
       go_meet
       case rel => exact ⟨wr.heap.size, rfl, rfl, ⟨heap_new_ wr _⟩, ⟨below_alloc HBr.out _⟩⟩
      case rest =>
       clear HBr ec
       obtain ⟨b6, rfl, rfl, HK, HBd⟩ := hcut
       go_upto_region 8 with fail
       go_cut [50] (fun v50 we => ∃ bb : Bool, v50 = .bool bb ∧ Aside0 ((bb = true ↔ 0 < i ∧ sameP (M.getD (i - 1) z39) c = true)) ∧ Aside0 (Below wc.heap.size wc we))
       case first =>
        have e0 := (blk_cell HK.out 0).trans (show _ = some (Value.string c.f0.f0) from rfl)
        have e1 := (blk_cell HK.out 1).trans (show _ = some (Value.string c.f0.f1) from rfl)
        cases i with
        | zero =>
         have q2 : ¬ (0 : Int) < ((0 : Nat) : Int) := by omega
         go_quiet (fail)
         go_wp2_with fail
         go_meet
         case rel => exact ⟨false, rfl, ⟨by simp⟩, ⟨pw_below_drewN (Below.refl _ _) _⟩⟩
        | succ j =>
         obtain ⟨ad, hA, d⟩ := cl_cells (Kd.C_below HC.out.2 HBd.out) j (by omega)
         obtain ⟨p, ep⟩ : ∃ p, M.getD j z39 = p := ⟨_, rfl⟩
         rw [ep] at d
         obtain ⟨d0, d1, -⟩ := d
         subst hA
         have HEP := Lib.hid ep
         have q2 : (0 : Int) < ((j + 1 : Nat) : Int) := by omega
         have q3 : (((j + 1 : Nat) : Int) - 1) = (j : Int) := by omega
         have q4 : (0 : Int) ≤ (j : Int) := by omega
         have q5 : (j : Int) < (M.length : Int) := by omega
         have q6 : ((j + 1 : Nat) : Int) ≤ 1256584717421 := by omega
         have q7 : IntKind.i64.wrap (((j + 1 : Nat) : Int) - 1) = (j : Int) := by rw [i64_w]; unfold wrap64; omega
         clear ep
         have HSA := Lib.hid (show (sameP p c = true) ↔ ((p.f0.f0.toList == c.f0.f0.toList) = true ∧ (p.f0.f1.toList == c.f0.f1.toList) = true) by
          rw [sameP_iff, beq_iff_eq, beq_iff_eq]
          exact ⟨fun h => ⟨h.1.symm, h.2.symm⟩, fun h => ⟨h.1.symm, h.2.symm⟩⟩)
         cases hs : (p.f0.f0.toList == c.f0.f0.toList)
         ·
          have HS := Lib.hid hs
          go_quiet (fail)
          go_wp2_with fail
          go_meet
          case rel => exact ⟨false, rfl, ⟨by rw [Nat.add_sub_cancel, HEP.out, HSA.out, HS.out]; simp⟩, ⟨pw_below_drewN (Below.refl _ _) _⟩⟩
         ·
          obtain ⟨bb, hbb⟩ : ∃ bb, (p.f0.f1.toList == c.f0.f1.toList) = bb := ⟨_, rfl⟩
          have HS := Lib.hid (And.intro hs hbb)
          go_quiet (fail)
          go_wp2_with fail
          go_meet
          case rel => exact ⟨_, rfl, ⟨by rw [Nat.add_sub_cancel, HEP.out, HSA.out, HS.out.1, HS.out.2]; simp⟩, ⟨pw_below_drewN (Below.refl _ _) _⟩⟩
       case rest =>
        obtain ⟨bb, rfl, HBB, HBe⟩ := hcut
        have HK2 := Lib.hid (blk_below HK.out HBe.out)
        have HB2 := Lib.hid (below_step HBd.out HBe.out)
        clear HK HBd HBe
        cases bb
        ·
         have hf : i = 0 ∨ ¬ sameP (M.getD (i - 1) z39) (M.getD i z39) = true := by
          rcases Nat.eq_zero_or_pos i with h | h
          ·
           exact .inl h
          ·
           right
           intro h2
           rw [HEC.out] at h2
           have := HBB.out.2 ⟨h, h2⟩
           cases this
         obtain ⟨hpa, hna⟩ := part_at HM.out.2 hi hf
         rw [HEC.out] at hpa
         have hn1 := nAt_le M (i + 1) (by omega)
         rw [hna]
         obtain ⟨P, hP⟩ : ∃ P, M.filter (sameP c) = P := ⟨_, rfl⟩
         rw [hP] at hpa
         have hPl : P.length = nAt M (i + 1) - i := by rw [hpa, List.length_take, List.length_drop]; omega
         have HP := Lib.hid (And.intro hP (And.intro hpa hPl))
         have HN1 := Lib.hid hn1
         clear hpa hna hP hn1 hf hPl
         go_upto_region 9 with fail
         go_cut [7] (fun v7 we => ∃ (A7 : Option Addr) (c7 : Nat), v7 = .slice A7 P.length c7 ∧ Aside0 (P.length ≤ c7 ∧ Kd.C k39 we A7 P.length P) ∧ Aside0 (Below w3.heap.size w3 we))
         case first =>
          have e0 := (blk_cell HK2.out 0).trans (show _ = some (Value.string c.f0.f0) from rfl)
          have e1 := (blk_cell HK2.out 1).trans (show _ = some (Value.string c.f0.f1) from rfl)
          go_wp2_with (go_at_call 21; (with_reducible refine (HPT.out _ (below_step HB.out HB2.out) c.f0.f0 c.f0.f1).mono ?_); rintro e w7 ⟨v7, rfl, ho, hb⟩; have ho' : Kd.R k39 39 w7 wc.heap.size (fun _ => True) v7 P := HP.out.1 ▸ ho; obtain ⟨A7, c7, rfl, h7, hC7⟩ := Kd.R_reads ho'; have HB7 := Lib.hid (below_step HB2.out hb); have HC7 := Lib.hid (And.intro h7 hC7); clear hb ho ho' h7 hC7)
          go_meet
          case rel => exact ⟨A7, c7, rfl, ⟨HC7.out⟩, ⟨HB7.out⟩⟩
         case rest =>
          clear HK2 HB2
          obtain ⟨A7, c7, rfl, HC7, HB7⟩ := hcut
          have q2 : (i : Int) + (P.length : Int) ≤ (M.length : Int) := by have := HP.out.2.2; have := HN1.out; omega
          have q3 : ¬ (M.length : Int) < (i : Int) + (P.length : Int) := by omega
          have q4 : (i : Int) ≤ (i : Int) + (P.length : Int) := by omega
          have q5 : (i : Int) + (P.length : Int) ≤ (c3 : Int) := by have := HC.out.1; omega
          have hci : ¬ c3 = i := by have := HC.out.1; omega
          have hseg : Kd.C k39 w3 (A3.map (·.add (i * 10))) P.length P := by
           have h1 := Kd.C_drop (m := i) (c := c3) HC.out.2 (by omega) HC.out.1
           rw [if_neg hci] at h1
           have h2 := Kd.C_take (m := nAt M (i + 1) - i) h1 (by rw [List.length_drop]; have := HN1.out; omega)
           rw [← HP.out.2.1] at h2
           exact h2
          have HSEG := Lib.hid hseg
          have HLK := Lib.hid (fun (W : World) (c9 : Nat) (h9 : P.length ≤ c9) (hw : Below w3.heap.size w3 W) (h7 : Kd.C k39 W A7 P.length P) => like_calls (l := P) (by have := HP.out.2.2; have := HN1.out; have := HM.out.1; omega) A7 c7 (A3.map (·.add (i * 10))) c9 W h7 HC7.out.1 (Kd.C_below HSEG.out hw) h9)
          clear hseg
          have h9 : P.length ≤ c3 - i := by omega
          have H9 := Lib.hid h9
          clear h9
          go_wp2_with (go_at_call 14; (refine (HLK.out wc (c3 - i) H9.out HB7.out HC7.out.2).mono ?_); rintro e w8 ⟨rfl, hb⟩; have HB8 := Lib.hid (below_step HB7.out hb); clear hb)
          go_roundg (M.length - (i + 1))
          case measure => have := HI.out; omega
          case rel => exact ⟨i + 1, congrArg _ (by have := HP.out.2.2; have := HN1.out; omega), by go_num, ⟨by omega, Nat.le_refl _⟩, ⟨HB8.out⟩⟩
        ·
         obtain ⟨h1, h2⟩ := HBB.out.1 rfl
         have hns : nAt M i = nAt M (i + 1) := by
          obtain ⟨j, rfl⟩ : ∃ j, i = j + 1 := ⟨i - 1, by omega⟩
          rw [Nat.add_sub_cancel] at h2
          exact nAt_same hi (by rw [HEC.out]; exact h2)
         have HNS := Lib.hid hns
         clear h1 h2 hns
         go_wp2_with fail
         go_roundg (M.length - (i + 1))
         case measure => have := HI.out; omega
         case rel => exact ⟨i + 1, by rw [HNS.out], by go_num, ⟨by omega, Nat.le_refl _⟩, ⟨HB2.out⟩⟩
     ·
      have q1 : ¬ (i : Int) < (M.length : Int) := by omega
      have he : nAt M i = M.length := by
       have h1 := nAt_le M i HI.out.1
       have := HI.out.1
       omega
      rw [he]
      have q2 : ((M.length : Int) == (M.length : Int)) = true := by simp
      go_wp2_with (go_at_call 10; (with_reducible refine (HLV.out _).mono ?_); rintro e w1 ⟨rfl, hb⟩; have HB1 := Lib.hid (below_step (below_step HB.out HBr.out) hb); clear hb)
      go_ret
      exact ⟨rfl, HB1.out⟩
end Go.Proofs.Ytabiekkebdocnaa.Q
