/- skerryref12.Buckets, walked. -/
import Derived.Test.YthlffcaaifpdeaaVaRbG
import Derived.BigQuiet
import Derived.BigRegion
import Derived.RegionTactic
import Derived.Deep.QuietTactic
namespace Go.Proofs.Ythlffcaaifpdeaa.Srt
open Go Go.Shelf Go.RowKit Go.Lib Go.Sort Go.Proofs Go.Proofs.YthlffcaaifpdeaaW.PrintWords Go.Proofs.YthlffcaaifpdeaaW.PrintLast Go.Proofs.YthlffcaaifpdeaaW.PrintMore Go.Proofs.Ythlffcaaifpdeaa.Ord
set_option linter.unusedVariables false
set_option linter.unusedSimpArgs false
set_option maxRecDepth 100000 in
set_option maxHeartbeats 1000000 in
theorem rb_calls (A : Option Addr) (c : Nat) (l : List Int) (w : World) (hC : (Kd.int .i64).C w A l.length l) (hN : l.length ≤ 1000000) :
  Calls Try.prog 9 #[.slice A l.length c] w fun e w' => ∃ v : Value, e = .returned v ∧ Kd.S (Kd.slice 3 (Kd.int .i64)) 22 w' w.heap.size (fun _ => True) v (((bkAt (ssF l) l.length).cuts).map fun x => srt (rowOf l x)) ∧ Below w.heap.size w w' := by
 have HC := Lib.hid hC
 clear hC
 go_enter Try.func9, Try.ntmps9
 go_wp2_with fail
 go_loopg [3, 18] l.length (fun gk v3 v18 wr => ∃ i : Nat, v18 = .int .i64 i ∧ ∃ A3 c3, v3 = .slice A3 i c3 ∧ Aside0 (i ≤ l.length ∧ l.length - i ≤ gk) ∧ Aside0 (OR w wr (.slice A3 i c3) (nums (insF l i))))
 case atStart => exact ⟨0, rfl, none, 0, rfl, ⟨by omega, by omega⟩, ⟨⟨Kd.R_nil _ _ _ _ _, Below.refl _ _⟩⟩⟩
 case round =>
  obtain ⟨i, rfl, A3, c3, rfl, HI, HO⟩ := hrel
  by_cases hi : i < l.length
  ·
   have hz : (i : Int) < (l.length : Int) := by omega
   have hz0 : (0 : Int) ≤ (i : Int) := by omega
   have HLn := Lib.hid (insF_len l i (Nat.le_of_lt hi))
   have HSu := Lib.hid (insF_succ l i hi)
   have HSo := Lib.hid (insF_sorted l i)
   generalize insF l i = s at HO HLn HSu HSo
   go_upto_region 7 with ((with_reducible refine gate_builtin (b := .append) (xs := #[.tmp 23, .tmp 25]) rfl ?_); at_builtin; go_loud (refine Kd.R_append (Kd.int .i64) (w0 := w) w.heap.size rfl (.tmp 23) (.tmp 25) 22 3 (.int .i64 0) 8 rfl Try.underlying22 info3 rfl (by decide) (by omega) (.slice A3 i c3) (nums s) (i : Int) [.int .i64 (i : Int)] (fun _ => True) (fun _ => False) rfl rfl rfl (fun _ hk => hk.elim) (fun _ _ => trivial) HO.out.ro HO.out.bel HO.out.bel.size ?aL ?_); (case aL => unfold nums; rw [List.length_map, HLn.out]; omega); intro v1 w1 ho hb hg hat; have HO1 := Lib.hid (OR.mk ho hb); clear ho hb hg hat)
   obtain ⟨g, cap, rfl⟩ := HO1.out.form (n := i) (by unfold nums; simp [HLn.out])
   rw [midL_start, HLn.out] at HO1
   clear HO
   go_loopg [5] i (fun gk v5 wr => ∃ (k : Nat) (y : Int), v5 = .int .i64 k ∧ Aside0 (k ≤ i ∧ k ≤ gk ∧ ∀ t ∈ s.drop k, ltOf (cfS l) ⟨i, hi⟩ t = true) ∧ Aside0 (OR w wr (.slice (some ⟨g, 0, none⟩) (i + 1) cap) (midL s k y)))
   case atStart => exact ⟨i, _, rfl, ⟨Nat.le_refl _, Nat.le_refl _, fun t ht => by rw [List.drop_of_length_le (by rw [HLn.out]; exact Nat.le_refl _)] at ht; cases ht⟩, ⟨HO1.out⟩⟩
   case round =>
    obtain ⟨k, y, rfl, HK, HO⟩ := hrel
    clear HO1
    rcases Nat.eq_zero_or_pos k with hk0 | hk0
    ·
     subst hk0
     have hfz := (HO.out.cell 0 (by omega))
     have hf1 := hfz.1
     have hf2 := hfz.2
     clear hfz
     go_wp2_with fail
     go_quiet (fail)
     go_wp2
     go_roundg (l.length - (i + 1))
     case measure => have := HI.out; omega
     case rel =>
      have hq := (HO.out.drewN nq).last hi HSu.out HSo.out HLn.out 0 (by omega) HK.out.2.2 (fun h => absurd h (by omega))
      exact ⟨i + 1, by go_num, _, _, rfl, ⟨by omega, Nat.le_refl _⟩, ⟨hq⟩⟩
    ·
     obtain ⟨k, rfl⟩ : ∃ m, k = m + 1 := ⟨k - 1, by omega⟩
     have hks : k < s.length := by have := HK.out.1; have := HLn.out; omega
     have hkp : (0 : Int) < ((k + 1 : Nat) : Int) := by omega
     have hki : k < i := by have := HK.out.1; omega
     have hkc := (HO.out.cell k (by have := HLn.out; omega)).1
     rw [midL_at s k y hks] at hkc
     obtain ⟨ad, eA, hxi⟩ := in_cell HC.out HO.out.bel i hi
     obtain ⟨ad', eA', hxk⟩ := in_cell HC.out HO.out.bel s[k].val s[k].isLt
     rw [eA] at eA'
     injection eA' with eA'
     subst eA' eA
     have HLT := Lib.hid (ltS l ⟨i, hi⟩ s[k])
     have HS1 := Lib.hid (rsize_call (l[i]))
     have HS2 := Lib.hid (rsize_call (l[s[k].val]))
     dsimp only at HLT
     have HSH := Lib.hid (midL_shift s k y hks)
     have hfz := (HO.out.cell (k + 1) (by have := HK.out.1; omega))
     have hf1 := hfz.1
     have hf2 := hfz.2
     clear hfz HS1 HS2
     generalize l[i] = xi at hxi HLT
     generalize l[s[k].val] = xk at hxk HLT
     have hpl := s[k].isLt
     generalize s[k].val = p at hkc hxk HSH hpl
     by_cases hlt : sz xi < sz xk
     ·
      have HLT2 := Lib.hid (HLT.out.trans (decide_eq_true hlt))
      clear HLT
      have hw0 : IntKind.i64.wrap (k : Int) = (k : Int) := IntWalk.i64_in _ (by omega)
      have hw1 : (0 : Int) ≤ (k : Int) ∧ (k : Int) < (i : Int) + 1 := by omega
      have hw2 : (0 : Int) ≤ (p : Int) ∧ (p : Int) < (l.length : Int) := by omega
      go_wp2_with fail
      go_quiet ((go_at_call 19; exact Calls.quiet_of_same (rsize_call _ _)))
      clear hw0 hw1 hw2
      go_wp2
      go_roundg k
      case measure => have := HK.out; omega
      case rel =>
       refine ⟨k, p, rfl, ⟨Nat.le_of_lt hki, Nat.le_refl _, fun t ht => ?_⟩, ⟨by have := (HO.out.drewN nq).put (k + 1) (p : Int); rw [HSH.out] at this; exact this⟩⟩
       rw [List.drop_eq_getElem_cons hks] at ht
       rcases List.mem_cons.1 ht with e | ht
       ·
        rw [e]; exact HLT2.out
       ·
        exact HK.out.2.2 t ht
     ·
      have HLT2 := Lib.hid (HLT.out.trans (decide_eq_false hlt))
      clear HLT
      have hlt2 : decide (sz xi < sz xk) = false := decide_eq_false hlt
      have hw0 : IntKind.i64.wrap (k : Int) = (k : Int) := IntWalk.i64_in _ (by omega)
      have hw1 : (0 : Int) ≤ (k : Int) ∧ (k : Int) < (i : Int) + 1 := by omega
      have hw2 : (0 : Int) ≤ (p : Int) ∧ (p : Int) < (l.length : Int) := by omega
      go_wp2_with fail
      go_quiet ((go_at_call 19; exact Calls.quiet_of_same (rsize_call _ _)))
      clear hw0 hw1 hw2
      go_wp2
      go_roundg (l.length - (i + 1))
      case measure => have := HI.out; omega
      case rel =>
       have hq := (HO.out.drewN nq).last hi HSu.out HSo.out HLn.out (k + 1) (by omega) HK.out.2.2 (fun _ => HLT2.out)
       exact ⟨i + 1, by go_num, _, _, rfl, ⟨by omega, Nat.le_refl _⟩, ⟨hq⟩⟩
  ·
   have hz : ¬ (i : Int) < (l.length : Int) := by omega
   obtain rfl : i = l.length := by have := HI.out.1; omega
   rw [insF_full] at HO
   go_wp2_with fail
   go_loopg [6, 7, 63] l.length (fun gk v6 v7 v63 wr => ∃ (j : Nat) (A6 : Option Addr) (c6 : Nat), v63 = .int .i64 j ∧ v6 = .slice A6 (bkAt (ssF l) j).cuts.length c6 ∧ v7 = .int .i64 (bkAt (ssF l) j).sum ∧ Aside0 (j ≤ l.length ∧ l.length - j ≤ gk) ∧ Aside0 (GS w wr (.slice A3 l.length c3) (nums (orderF l)) (.slice A6 (bkAt (ssF l) j).cuts.length c6) ((bkAt (ssF l) j).cuts.map (rowOf l))))
   case atStart => exact ⟨0, none, 0, rfl, rfl, rfl, ⟨by omega, by omega⟩, ⟨⟨Kd.R_mono (Kd.R_tight rfl HO.out.ro) (fun k hk => hk), Kd.S_nil _ _ _ _ _, HO.out.bel⟩⟩⟩
   case round =>
    obtain ⟨j, A6, c6, rfl, rfl, rfl, HJ, HG⟩ := hrel
    clear HO HI hz hi
    have HBI := Lib.hid (BI.at_ (ssF l) (ssF_range l) j (by rw [ssF_len]; exact HJ.out.1))
    by_cases hj : j < l.length
    ·
     have hz : (j : Int) < (l.length : Int) := by omega
     have hz0 : (0 : Int) ≤ (j : Int) := by omega
     have hon : (nums (orderF l)).length = l.length := by unfold nums; rw [List.length_map, orderF_len]
     obtain ⟨g3, cap3, e3, -⟩ := Kd.R_form HG.out.ro (by omega)
     rw [hon] at e3
     injection e3 with e4 e5 e6
     subst e4 e6
     obtain ⟨T, hT, eT, eS⟩ := ord_at l j hj
     have hcl := Kd.R_celln (d := (0 : Int)) HG.out.ro (j : Int) hz0 (by omega)
     rw [Int.toNat_natCast, eT] at hcl
     obtain ⟨hc1, -⟩ := hcl
     obtain ⟨ad, eA, hxT⟩ := in_cell HC.out HG.out.bel T hT
     subst eA
     have HLA := Lib.hid (fun h => bk_lastq (ssF l) j h)
     have HROW := Lib.hid (fun b (hb : b ≤ j) => eT ▸ row_snoc l b j hb hj)
     have HONE := Lib.hid (eT ▸ row_one l j hj)
     have HS := Lib.hid (sz_range l[T])
     have HST := Lib.hid (show bkAt (ssF l) (j + 1) = bkStep j (sz l[T]) (bkAt (ssF l) j) by rw [bkAt, eS])
     generalize l[T] = xT at *
     have HRS := Lib.hid (rsize_call xT)
     generalize sz xT = s at HRS HS HST
     clear eT eS hon
     generalize bkAt (ssF l) j = b at HG HBI HST HLA
     have hs := HS.out
     have hb := HBI.out.le
     have hbn : b.cuts.length ≤ 1000000 := by have := HBI.out.n; omega
     rcases Nat.eq_zero_or_pos j with hj0 | hj0
     ·
      have hc0 : b.cuts.length = 0 := by have := HBI.out.n; omega
      have HN := Lib.hid (show bkNew j s b from Or.inl hj0)
      rw [hc0] at HG ⊢
      have HC0 := Lib.hid hc0
      clear hj0 hc0
      go_upto_region 18 with (go_at_call 19; (with_reducible refine (HRS.out _).mono ?_); rintro e w1 ⟨rfl, hw1⟩; obtain rfl : wr = w1 := hw1.symm)
      go_upto_region 22 with fail
      have HNR := Lib.hid (HG.out.newrow (T : Int))
      have HAG := Lib.hid (HG.out.below (below_alloc (Below.refl _ _) (.cells #[.int .i64 (T : Int)] 3)))
      go_upto_region 23 with ((with_reducible refine gate_builtin (b := .append) (xs := #[.tmp 106, .tmp 109]) rfl ?_); at_builtin; go_loud (refine Kd.S_append kRow (w0 := w) w.heap.size rfl (.tmp 106) (.tmp 109) 24 22 (.slice none 0 0) 24 rfl Try.underlying24 info_s rfl Nat.one_pos (by omega) (.slice A6 0 c6) (b.cuts.map (rowOf l)) [(T : Int)] [.slice (some ⟨wr.heap.size, 0, none⟩) 1 1] (fun k => some k ≠ (Value.slice (some ⟨g3, 0, none⟩) l.length c3).ownBlock) (fun k => k = wr.heap.size) rfl (by first | (go_simp; done) | (go_simp; rfl)) HNR.out.1 HNR.out.2.1 HNR.out.2.2.1 HNR.out.2.2.2.1 HNR.out.2.2.2.2 HNR.out.2.2.2.2.size ?aL ?_); (case aL => rw [List.length_map]; have := HC0.out; omega); intro v1 w1 ho hb2 hg hat; have HG1 := Lib.hid (HAG.out.grown hg hb2 ho); clear ho hb2 hg hat)
      obtain ⟨A7, c7, rfl⟩ := Kd.S_slice HG1.out.out
      go_wp2_with fail
      go_roundg (l.length - (j + 1))
      case measure => have := HJ.out; omega
      case rel =>
       have eb : bkAt (ssF l) (j + 1) = ⟨b.cuts ++ [(j, 1)], j, s⟩ := by rw [HST.out, bkStep, if_pos HN.out]
       have er : b.cuts.map (rowOf l) ++ [[(T : Int)]] = (b.cuts ++ [(j, 1)]).map (rowOf l) := by rw [List.map_append, List.map_singleton, HONE.out]
       have hq := HG1.out
       rw [er] at hq
       exact ⟨j + 1, A7, c7, by go_num, by rw [eb]; simp, by rw [eb], ⟨by omega, Nat.le_refl _⟩, ⟨by rw [eb]; rw [er, List.length_map] at HG1; exact HG1.out⟩⟩
     ·
      obtain ⟨hbj, m, hm, hlast⟩ := HLA.out hj0
      have hmb : m ≤ 1000000 := by omega
      have x2 := HBI.out.s0
      have x3 := HBI.out.s1
      rw [hm] at HG ⊢
      obtain ⟨g6, cap6, e6, -⟩ := Kd.R_form (Kd.S_R HG.out.out) (by rw [List.length_map]; omega)
      injection e6 with e7 e8 e9
      subst e7 e9
      clear e8
      have hml : m < (b.cuts.map (rowOf l)).length := by rw [List.length_map]; omega
      obtain ⟨oki, A1, d1, -, hx0, hx1, hg6, hne, hrow, -, hst⟩ := HG.out.lend m hml
      have er : (b.cuts.map (rowOf l))[m] = rowOf l (b.beg, j - b.beg) := by
       have h1 := List.getElem?_eq_getElem hml
       rw [List.getElem?_map, hlast] at h1
       exact (Option.some.inj h1).symm
      rw [er] at hx0 hne hrow hst
      have hlen := row_len l (b.beg, j - b.beg) (by dsimp only; omega)
      dsimp only at hlen
      obtain ⟨row, HRO⟩ : ∃ row, Hid (rowOf l (b.beg, j - b.beg) = row) := ⟨_, Lib.hid rfl⟩
      rw [HRO.out] at hx0 hne hrow hst hlen
      obtain ⟨q, hq⟩ : ∃ q, row.length = q := ⟨_, rfl⟩
      rw [hq] at hx0 hne hrow hst hlen
      have HQ := Lib.hid hq
      have hqz : (q : Int) = (j : Int) - (b.beg : Int) := by omega
      have hq1 : 1 ≤ q := by omega
      have HQZ := Lib.hid hqz
      have HRW := Lib.hid hrow
      have HSTO := Lib.hid hst
      have HNE := Lib.hid (show some g6 ≠ (Value.slice A1 q d1).ownBlock from fun e => hne g6 e.symm rfl)
      have HM := Lib.hid hm
      rw [hm] at hbn
      clear hq hlen hrow hst er hlast hne hqz hm hml
      obtain ⟨Q, hQ⟩ : ∃ Q, b.sum / (q : Int) = Q := ⟨_, rfl⟩
      have q0 : 0 ≤ Q := by rw [← hQ]; exact Int.ediv_nonneg x2 (by omega)
      have q1 : Q ≤ b.sum := by rw [← hQ]; exact Int.ediv_le_self _ x2
      have HNW := Lib.hid (show bkNew j s b ↔ (4 < s ∧ 2 * Q < s) by unfold bkNew; rw [← HQZ.out, hQ]; exact ⟨fun h => h.elim (fun h => absurd h (by omega)) id, Or.inr⟩)
      have hq2 : (1 : Int) ≤ (q : Int) := by omega
      go_upto_region 18 with (go_at_call 19; (with_reducible refine (HRS.out _).mono ?_); rintro e w1 ⟨rfl, hw1⟩; obtain rfl : wr = w1 := hw1.symm)
      by_cases h4 : 4 < s
      ·
       by_cases h5 : 2 * Q < s
       ·
        have HN := Lib.hid (HNW.out.2 ⟨h4, h5⟩)
        go_upto_region 22 with fail
        have HNR := Lib.hid (HG.out.newrow (T : Int))
        have HAG := Lib.hid (HG.out.below (below_alloc (Below.refl _ _) (.cells #[.int .i64 (T : Int)] 3)))
        go_upto_region 23 with ((with_reducible refine gate_builtin (b := .append) (xs := #[.tmp 106, .tmp 109]) rfl ?_); at_builtin; go_loud (refine Kd.S_append kRow (w0 := w) w.heap.size rfl (.tmp 106) (.tmp 109) 24 22 (.slice none 0 0) 24 rfl Try.underlying24 info_s rfl Nat.one_pos (by omega) (.slice (some ⟨g6, 0, none⟩) (m + 1) c6) (b.cuts.map (rowOf l)) [(T : Int)] [.slice (some ⟨wr.heap.size, 0, none⟩) 1 1] (fun k => some k ≠ (Value.slice (some ⟨g3, 0, none⟩) l.length c3).ownBlock) (fun k => k = wr.heap.size) rfl (by first | (go_simp; done) | (go_simp; rfl)) HNR.out.1 HNR.out.2.1 HNR.out.2.2.1 HNR.out.2.2.2.1 HNR.out.2.2.2.2 HNR.out.2.2.2.2.size ?aL ?_); (case aL => rw [List.length_map]; have := HM.out; omega); intro v1 w1 ho hb2 hg hat; have HG1 := Lib.hid (HAG.out.grown hg hb2 ho); clear ho hb2 hg hat)
        obtain ⟨A7, c7, rfl⟩ := Kd.S_slice HG1.out.out
        go_wp2_with fail
        go_roundg (l.length - (j + 1))
        case measure => have := HJ.out; omega
        case rel =>
         have eb : bkAt (ssF l) (j + 1) = ⟨b.cuts ++ [(j, 1)], j, s⟩ := by rw [HST.out, bkStep, if_pos HN.out]
         have er : b.cuts.map (rowOf l) ++ [[(T : Int)]] = (b.cuts ++ [(j, 1)]).map (rowOf l) := by rw [List.map_append, List.map_singleton, HONE.out]
         have hq := HG1.out
         rw [er] at hq
         exact ⟨j + 1, A7, c7, by go_num, by rw [eb]; simp, by rw [eb], ⟨by omega, Nat.le_refl _⟩, ⟨by rw [eb]; rw [er, List.length_map] at HG1; exact HG1.out⟩⟩
       ·
        have hn := fun h => h5 (HNW.out.1 h).2
        have HN := Lib.hid hn
        clear hn
        go_upto_region 20 with fail
        go_wp2_with ((with_reducible refine gate_builtin (b := .append) (xs := #[.tmp 98, .tmp 100]) rfl ?_); at_builtin; go_loud (refine Kd.R_append (Kd.int .i64) (w0 := w) w.heap.size rfl (.tmp 98) (.tmp 100) 22 3 (.int .i64 0) 8 rfl Try.underlying22 info3 rfl (by decide) (by omega) (.slice A1 q d1) row (T : Int) [.int .i64 (T : Int)] (fun k => oki k ∨ wr.heap.size ≤ k) (fun _ => False) rfl rfl rfl (fun _ hk => hk.elim) (fun _ hk => Or.inr hk) (Kd.R_mono HRW.out (fun _ hk => Or.inl hk)) HG.out.bel HG.out.bel.size ?aL ?_); (case aL => rw [HQ.out]; have := HQZ.out; omega); intro v1 w1 ho hb2 hg hat; obtain ⟨B1, d2, rfl⟩ := Kd.R_slice ho; have y0 := (hg.cell_far ⟨g6, m, none⟩ hg6 HNE.out).trans hx0; have y1 := (hg.frozen_far ⟨g6, m, none⟩ hg6 HNE.out).trans hx1; have HG1 := Lib.hid (HSTO.out w1 _ _ hg hb2 ho); clear ho hb2 hg hat)
        go_roundg (l.length - (j + 1))
        case measure => have := HJ.out; omega
        case rel =>
         have eb : bkAt (ssF l) (j + 1) = ⟨b.cuts.set m (b.beg, j + 1 - b.beg), b.beg, b.sum + s⟩ := by rw [HST.out, bkStep, if_neg HN.out, HM.out, Nat.add_sub_cancel]
         have hq := HG1.out
         have hlen2 : (rowOf l (b.beg, j + 1 - b.beg)).length = row.length + 1 := by rw [HROW.out b.beg hb, HRO.out]; simp
         rw [← HRO.out, ← HROW.out b.beg hb, ← List.map_set, hlen2] at hq
         exact ⟨j + 1, _, _, by go_num, by rw [eb, List.length_set, HM.out], by rw [eb], ⟨by omega, Nat.le_refl _⟩, ⟨by rw [eb, List.length_set, HM.out]; exact hq⟩⟩
      ·
       have hn := fun h => h4 (HNW.out.1 h).1
       by_cases h5 : 2 * Q < s
       ·
        have HN := Lib.hid hn
        clear hn
        go_upto_region 20 with fail
        go_wp2_with ((with_reducible refine gate_builtin (b := .append) (xs := #[.tmp 98, .tmp 100]) rfl ?_); at_builtin; go_loud (refine Kd.R_append (Kd.int .i64) (w0 := w) w.heap.size rfl (.tmp 98) (.tmp 100) 22 3 (.int .i64 0) 8 rfl Try.underlying22 info3 rfl (by decide) (by omega) (.slice A1 q d1) row (T : Int) [.int .i64 (T : Int)] (fun k => oki k ∨ wr.heap.size ≤ k) (fun _ => False) rfl rfl rfl (fun _ hk => hk.elim) (fun _ hk => Or.inr hk) (Kd.R_mono HRW.out (fun _ hk => Or.inl hk)) HG.out.bel HG.out.bel.size ?aL ?_); (case aL => rw [HQ.out]; have := HQZ.out; omega); intro v1 w1 ho hb2 hg hat; obtain ⟨B1, d2, rfl⟩ := Kd.R_slice ho; have y0 := (hg.cell_far ⟨g6, m, none⟩ hg6 HNE.out).trans hx0; have y1 := (hg.frozen_far ⟨g6, m, none⟩ hg6 HNE.out).trans hx1; have HG1 := Lib.hid (HSTO.out w1 _ _ hg hb2 ho); clear ho hb2 hg hat)
        go_roundg (l.length - (j + 1))
        case measure => have := HJ.out; omega
        case rel =>
         have eb : bkAt (ssF l) (j + 1) = ⟨b.cuts.set m (b.beg, j + 1 - b.beg), b.beg, b.sum + s⟩ := by rw [HST.out, bkStep, if_neg HN.out, HM.out, Nat.add_sub_cancel]
         have hq := HG1.out
         have hlen2 : (rowOf l (b.beg, j + 1 - b.beg)).length = row.length + 1 := by rw [HROW.out b.beg hb, HRO.out]; simp
         rw [← HRO.out, ← HROW.out b.beg hb, ← List.map_set, hlen2] at hq
         exact ⟨j + 1, _, _, by go_num, by rw [eb, List.length_set, HM.out], by rw [eb], ⟨by omega, Nat.le_refl _⟩, ⟨by rw [eb, List.length_set, HM.out]; exact hq⟩⟩
       ·
        have HN := Lib.hid hn
        clear hn
        go_upto_region 20 with fail
        go_wp2_with ((with_reducible refine gate_builtin (b := .append) (xs := #[.tmp 98, .tmp 100]) rfl ?_); at_builtin; go_loud (refine Kd.R_append (Kd.int .i64) (w0 := w) w.heap.size rfl (.tmp 98) (.tmp 100) 22 3 (.int .i64 0) 8 rfl Try.underlying22 info3 rfl (by decide) (by omega) (.slice A1 q d1) row (T : Int) [.int .i64 (T : Int)] (fun k => oki k ∨ wr.heap.size ≤ k) (fun _ => False) rfl rfl rfl (fun _ hk => hk.elim) (fun _ hk => Or.inr hk) (Kd.R_mono HRW.out (fun _ hk => Or.inl hk)) HG.out.bel HG.out.bel.size ?aL ?_); (case aL => rw [HQ.out]; have := HQZ.out; omega); intro v1 w1 ho hb2 hg hat; obtain ⟨B1, d2, rfl⟩ := Kd.R_slice ho; have y0 := (hg.cell_far ⟨g6, m, none⟩ hg6 HNE.out).trans hx0; have y1 := (hg.frozen_far ⟨g6, m, none⟩ hg6 HNE.out).trans hx1; have HG1 := Lib.hid (HSTO.out w1 _ _ hg hb2 ho); clear ho hb2 hg hat)
        go_roundg (l.length - (j + 1))
        case measure => have := HJ.out; omega
        case rel =>
         have eb : bkAt (ssF l) (j + 1) = ⟨b.cuts.set m (b.beg, j + 1 - b.beg), b.beg, b.sum + s⟩ := by rw [HST.out, bkStep, if_neg HN.out, HM.out, Nat.add_sub_cancel]
         have hq := HG1.out
         have hlen2 : (rowOf l (b.beg, j + 1 - b.beg)).length = row.length + 1 := by rw [HROW.out b.beg hb, HRO.out]; simp
         rw [← HRO.out, ← HROW.out b.beg hb, ← List.map_set, hlen2] at hq
         exact ⟨j + 1, _, _, by go_num, by rw [eb, List.length_set, HM.out], by rw [eb], ⟨by omega, Nat.le_refl _⟩, ⟨by rw [eb, List.length_set, HM.out]; exact hq⟩⟩
    ·
     have hz : ¬ (j : Int) < (l.length : Int) := by omega
     obtain rfl : j = l.length := by have := HJ.out.1; omega
     have hbn : (bkAt (ssF l) l.length).cuts.length ≤ 1000000 := by have := HBI.out.n; omega
     obtain ⟨rows, HR⟩ : ∃ rows, Hid ((bkAt (ssF l) l.length).cuts.map (rowOf l) = rows) := ⟨_, Lib.hid rfl⟩
     have hl1 : (bkAt (ssF l) l.length).cuts.length = rows.length := by rw [← HR.out, List.length_map]
     have HRL := Lib.hid (fun (r : List Int) (hr : r ∈ rows) => show r.length ≤ 1000000 by
      rw [← HR.out] at hr
      obtain ⟨x, hx, rfl⟩ := List.mem_map.1 hr
      have := (cuts_in (ssF l) l.length (by rw [ssF_len]; exact Nat.le_refl _)).2 x hx
      rw [row_len l x this]; omega)
     rw [HR.out, hl1] at HG
     rw [hl1] at hbn ⊢
     clear hl1 HBI HJ hz hj
     go_wp2_with fail
     go_loopg [13, 14, 15, 115] rows.length (fun gk v13 v14 v15 v115 wr => ∃ q : Nat, v115 = .int .i64 q ∧ Aside0 (q ≤ rows.length ∧ rows.length - q ≤ gk) ∧ Aside0 (GS w wr (.slice A3 l.length c3) (nums (orderF l)) (.slice A6 rows.length c6) (sortedL rows q)))
     case atStart => exact ⟨0, rfl, ⟨by omega, by omega⟩, ⟨by rw [sortedL_zero]; exact HG.out⟩⟩
     case round =>
      obtain ⟨q, rfl, HQ, HG⟩ := hrel
      obtain ⟨wo, rfl⟩ : ∃ wo : World, wo = wr := ⟨_, rfl⟩
      by_cases hq : q < rows.length
      ·
       have hz : (q : Int) < (rows.length : Int) := by omega
       have hz0 : (0 : Int) ≤ (q : Int) := by omega
       obtain ⟨g6, cap6, e6, -⟩ := Kd.R_form (Kd.S_R HG.out.out) (by rw [sortedL_len]; omega)
       injection e6 with e7 e8 e9
       subst e7 e9
       clear e8
       obtain ⟨oki, A1, d1, -, hx0, hx1, hg6, hne, hrow, hin, -⟩ := HG.out.lend q (by rw [sortedL_len]; exact hq)
       rw [sortedL_at rows q hq] at hx0 hne hrow hin
       have hrl : rows[q].length ≤ 1000000 := HRL.out _ (List.getElem_mem hq)
       have HSE := Lib.hid (sortedL_set rows q hq)
       generalize rows[q] = row at hx0 hne hrow hin hrl HSE
       have HIN := Lib.hid hin
       have HROW := Lib.hid hrow
       clear hne hrow hin hx1
       go_upto_region 28 with fail
       go_wp2_with fail
       go_loopg [14, 15, 121] row.length (fun gk v14 v15 v121 wr => ∃ (i : Nat) (cur : List Int), v121 = .int .i64 i ∧ Aside0 (i ≤ row.length ∧ row.length - i ≤ gk ∧ cur.Perm row ∧ (cur.take i).Pairwise (· ≤ ·)) ∧ Aside0 (IS w wo wr oki (.slice A1 row.length d1) cur))
       case atStart => exact ⟨0, row, rfl, ⟨Nat.zero_le _, by omega, List.Perm.refl _, by simp⟩, ⟨⟨grown_of_below (Below.refl _ _) _, HG.out.bel, HROW.out⟩⟩⟩
       case round =>
        obtain ⟨i, cur, rfl, HI, HS⟩ := hrel
        by_cases hi : i < row.length
        ·
         have hz : (i : Int) < (row.length : Int) := by omega
         have HCL := Lib.hid (show cur.length = row.length from HI.out.2.2.1.length_eq)
         have hs1 : (cur.take i).length = i := by rw [List.length_take, HCL.out]; omega
         obtain ⟨g7, cap7, e7, -⟩ := Kd.R_form HS.out.ro (by rw [HCL.out]; omega)
         injection e7 with e8 e9 e10
         subst e8 e10
         clear e9
         have HP := Lib.hid (show ∀ k, (goL (cur.take i) (cur[i]'(by rw [HCL.out]; exact hi)) (cur.drop (i + 1)) k).Perm row from fun k => (goL_perm _ _ _ k).trans (by
          have h1 := goL_start cur i (by rw [HCL.out]; exact hi)
          have h2 := goL_perm (cur.take i) (cur[i]'(by rw [HCL.out]; exact hi)) (cur.drop (i + 1)) i
          rw [h1] at h2
          exact h2.symm.trans HI.out.2.2.1))
         have HSO := Lib.hid HI.out.2.2.2
         have HS0 := HS.out
         rw [← goL_start cur i (by rw [HCL.out]; exact hi)] at HS0
         have HS1 := Lib.hid HS0
         have HUL := Lib.hid (show (cur.drop (i + 1)).length = row.length - (i + 1) by rw [List.length_drop, HCL.out])
         have HMI := Lib.hid HI.out.2.1
         clear HS0 HS
         generalize cur[i]'(by rw [HCL.out]; exact hi) = x at HP HS1
         generalize cur.take i = s at HP HSO HS1 hs1
         generalize cur.drop (i + 1) = u at HP HS1 HUL
         have HL := Lib.hid hs1
         clear hs1 HI HCL
         go_wp2_with fail
         go_loopg [15] i (fun gk v15 wr => ∃ k : Nat, v15 = .int .i64 k ∧ Aside0 (k ≤ i ∧ k ≤ gk ∧ ∀ t ∈ s.drop k, x < t) ∧ Aside0 (IS w wo wr oki (.slice (some ⟨g7, 0, none⟩) row.length d1) (goL s x u k)))
         case atStart => exact ⟨i, rfl, ⟨Nat.le_refl _, Nat.le_refl _, fun t ht => by rw [List.drop_of_length_le (by rw [HL.out]; exact Nat.le_refl _)] at ht; cases ht⟩, ⟨HS1.out⟩⟩
         case round =>
          obtain ⟨k, rfl, HK, HT⟩ := hrel
          clear HS1
          rcases Nat.eq_zero_or_pos k with hk0 | hk0
          ·
           subst hk0
           go_wp2_with fail
           go_quiet (fail)
           go_wp2
           go_roundg (row.length - (i + 1))
           case measure => have := HMI.out; omega
           case rel =>
            refine ⟨i + 1, goL s x u 0, by go_num, ⟨by omega, Nat.le_refl _, HP.out 0, ?_⟩, ⟨HT.out.drewN nq⟩⟩
            have h1 := goL_sorted s x u 0 (by rw [HL.out]; omega) HSO.out HK.out.2.2 (fun h => absurd h (by omega))
            rw [HL.out] at h1
            exact h1
          ·
           obtain ⟨k, rfl⟩ : ∃ m, k = m + 1 := ⟨k - 1, by omega⟩
           have hki : k < i := by have := HK.out.1; omega
           have hks : k < s.length := by rw [HL.out]; exact hki
           have hkp : (0 : Int) < ((k + 1 : Nat) : Int) := by omega
           have hc0 := HT.out.cell k (by omega)
           have hc1 := HT.out.cell (k + 1) (by omega)
           rw [goL_before s x u k hks] at hc0
           rw [goL_at s x u (k + 1) (by omega)] at hc1
           obtain ⟨a0, a1⟩ := hc0
           obtain ⟨b0, b1⟩ := hc1
           have HSW := Lib.hid (goL_swap s x u k hks)
           have HSW' := Lib.hid (goL_swap' s x u k hks)
           have HDR := Lib.hid (List.drop_eq_getElem_cons hks)
           have HPR := Lib.hid (show s[k + 1 - 1]'(by omega) = s[k] from rfl)
           generalize s[k] = y at a0 HSW HSW' HDR HPR
           have hw0 : IntKind.i64.wrap (k : Int) = (k : Int) := IntWalk.i64_in _ (by omega)
           have hw1 : (0 : Int) ≤ (k : Int) ∧ (k : Int) < (row.length : Int) := by omega
           have hw2 : (0 : Int) ≤ (k : Int) + 1 ∧ (k : Int) + 1 < (row.length : Int) := by omega
           by_cases hlt : x < y
           ·
            go_wp2_with fail
            go_quiet (fail)
            clear hw0 hw1 hw2
            go_wp2_with fail
            have HT1 := Lib.hid (HT.out.drewN nq)
            have a0' : (wr.drewN nq).cell? ⟨g7, k, none⟩ = some (.int .i64 y) := a0
            have a1' : (wr.drewN nq).frozen? ⟨g7, k, none⟩ = false := a1
            have b0' : (wr.drewN nq).cell? ⟨g7, k + 1, none⟩ = some (.int .i64 x) := b0
            have b1' : (wr.drewN nq).frozen? ⟨g7, k + 1, none⟩ = false := b1
            clear a0 a1 b0 b1 hx0
            generalize wr.drewN nq = W at a0' a1' b0' b1' HT1 ⊢
            go_region
            all_goals go_wp2
            go_roundg k
            case measure => have := HK.out; omega
            case rel =>
             have hq := ((HT1.out.put k x).put (k + 1) y).drew
             rw [HSW.out] at hq
             refine ⟨k, rfl, ⟨Nat.le_of_lt hki, Nat.le_refl _, fun t ht => ?_⟩, ⟨hq⟩⟩
             rw [HDR.out] at ht
             rcases List.mem_cons.1 ht with e | ht
             ·
              rw [e]; exact hlt
             ·
              exact HK.out.2.2 t ht
           ·
            have hlt2 : decide (x < y) = false := decide_eq_false hlt
            have HLE := Lib.hid (show y ≤ x by omega)
            go_wp2_with fail
            go_quiet (fail)
            clear hw0 hw1 hw2
            go_wp2
            go_roundg (row.length - (i + 1))
            case measure => have := HMI.out; omega
            case rel =>
             refine ⟨i + 1, goL s x u (k + 1), by go_num, ⟨by omega, Nat.le_refl _, HP.out (k + 1), ?_⟩, ⟨HT.out.drewN nq⟩⟩
             have h1 := goL_sorted s x u (k + 1) (by rw [HL.out]; omega) HSO.out HK.out.2.2 (fun h => by rw [HPR.out]; exact HLE.out)
             rw [HL.out] at h1
             exact h1
        ·
         have hz : ¬ (i : Int) < (row.length : Int) := by omega
         obtain rfl : i = row.length := by have := HI.out.1; omega
         have hcur : cur = srt row := srt_eq HI.out.2.2.1 (by have h := HI.out.2.2.2; rwa [List.take_of_length_le (by rw [HI.out.2.2.1.length_eq]; exact Nat.le_refl _)] at h)
         rw [hcur] at HS
         have HGN := Lib.hid (HIN.out _ _ HS.out.hg HS.out.bel HS.out.ro)
         clear hcur HS
         go_wp2_with fail
         go_roundg (rows.length - (q + 1))
         case measure => have := HQ.out; omega
         case rel => exact ⟨q + 1, by go_num, ⟨by omega, Nat.le_refl _⟩, ⟨by rw [← HSE.out]; exact HGN.out⟩⟩
      ·
       have hz : ¬ (q : Int) < (rows.length : Int) := by omega
       obtain rfl : q = rows.length := by have := HQ.out.1; omega
       have e : rows.map srt = (bkAt (ssF l) l.length).cuts.map (fun x => srt (rowOf l x)) := by rw [← HR.out, List.map_map]; rfl
       rw [sortedL_full, e] at HG
       clear e
       go_wp2_with fail
       go_ret
       exact ⟨_, rfl, Kd.S_mono HG.out.out (fun _ _ => trivial), HG.out.bel⟩
end Go.Proofs.Ythlffcaaifpdeaa.Srt
