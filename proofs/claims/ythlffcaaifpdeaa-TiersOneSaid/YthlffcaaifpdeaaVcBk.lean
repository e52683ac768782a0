/- tiers.Buckets, walked. -/
import Derived.Test.YthlffcaaifpdeaaVcBkL
namespace Go.Proofs.Ythlffcaaifpdeaa.Srt
open Go Go.Shelf Go.RowKit Go.Lib Go.Sort Go.Proofs Go.Proofs.YthlffcaaifpdeaaW.PrintWords Go.Proofs.YthlffcaaifpdeaaW.PrintLast Go.Proofs.YthlffcaaifpdeaaW.PrintMore Go.Proofs.Ythlffcaaifpdeaa.Ord
set_option linter.unusedVariables false
set_option linter.unusedSimpArgs false
set_option maxRecDepth 100000 in
set_option maxHeartbeats 1000000 in
theorem bk_calls (A : Option Addr) (c : Nat) (l : List Int) (w : World) (hC : (Kd.int .i64).C w A l.length l) (hN : l.length ≤ 1000000) :
  Calls Try.prog 8 #[.slice A l.length c] w fun e w' => ∃ v : Value, e = .returned v ∧ Kd.S (Kd.slice 3 (Kd.int .i64)) 22 w' w.heap.size (fun _ => True) v (((bkAt (ssF l) l.length).cuts).map fun x => srt (rowOf l x)) ∧ Below w.heap.size w w' := by
 have HC := Lib.hid hC
 have k0 : (0 : Int) ≤ (l.length : Int) := by omega
 have k1 : l.length ≤ 1000000 := by omega
 clear hC
 have hst := fun (fn : Fn) (p q : Array Value) (a : Addr) (m : Mode) (w : World) => run_store Try.prog w a (.func fn p q) m rfl
 go_enter Try.func8, Try.ntmps8
 go_upto_region 2 with fail
 go_cut [4] (fun v4 wc => ∃ g cap : Nat, v4 = .slice (some ⟨g, 0, none⟩) l.length cap ∧ Aside0 (l.length ≤ cap) ∧ Aside0 (Bx w A l.length c wc) ∧ Aside0 (Kd.R (Kd.int .i64) 3 wc w.heap.size (fun _ => True) (.slice (some ⟨g, 0, none⟩) l.length cap) (List.replicate l.length 0)) ∧ Aside0 (w.heap.size + 2 ≤ g))
 case first =>
  clear hst
  have hl0 : (w.alloc (.cells #[.slice A l.length c] 22)).heap.size = w.heap.size + 1 := by simp
  go_wp2_with ((with_reducible refine gate_dst (N := 17) rfl ?_); refine Kd.R_make (Kd.int .i64) (w0 := w) w.heap.size 3 rfl (N := 17) rfl 22 _ _ rfl (l.length : Int) rfl rfl Try.underlying22 (.int .i64 0) 8 info3 rfl (by decide) (by omega) 0 (ok := fun _ => True) (okp := fun _ => True) rfl (fun _ hk => hk) trivial (by omega) (by omega) ?aB ?aC ?_; (case aB => exact ((Below.refl _ w).alloc (Nat.le_refl _) _).alloc (by simp) _); (case aC => simp; omega); intro v1 w1 ho hb hg_ hn_; have HO := Lib.hid ho; have HB := Lib.hid hb; have HG := Lib.hid hg_; have HN := Lib.hid hn_; clear ho hb hg_ hn_)
  go_meet
  case rel =>
   obtain ⟨B, cap, e⟩ := Kd.R_slice HO.out
   subst e
   obtain ⟨b, hb1, hb2⟩ := HN.out
   have ho := HO.out
   obtain ⟨g, eg⟩ : ∃ g, B = some ⟨g, 0, none⟩ := by
    cases B with
    | none => simp [Value.ownBlock] at hb1
    | some ad => obtain ⟨g, eg⟩ := Kd.R_head ho; exact ⟨g, by rw [eg]⟩
   subst eg
   have e0 : (List.replicate ((l.length : Nat) : Int).toNat (0 : Int)).length = l.length := by simp
   refine ⟨g, cap, ?_, ⟨?_⟩, ⟨⟨HB.out, ?_, ?_⟩⟩, ⟨?_⟩, ⟨?_⟩⟩
   ·
    rw [e0]
   ·
    have := Kd.R_reads ho; obtain ⟨A', c', hv, hc, _⟩ := this; injection hv with _ _ h3; rw [e0] at hc; omega
   ·
    exact (HG.out.block w.heap.size (by simp; omega) (by simp)).trans ((Below.heap_alloc _ _ w.heap.size (by simp)).trans (World.alloc_heap_new w _))
   ·
    exact (HG.out.block (w.heap.size + 1) (by simp) (by simp)).trans (by have := World.alloc_heap_new (w.alloc (.cells #[.slice A l.length c] 22)) (.cells #[.func (.func 13) #[] #[.pointer (some ⟨w.heap.size, 0, none⟩)]] 33); rwa [World.size_alloc] at this)
   ·
    have h2 := ho; rw [e0] at h2; simpa using h2
   ·
    have : g = b := by simpa [Value.ownBlock] using hb1
    subst this; simpa using hb2
 case rest =>
  obtain ⟨g, cap, rfl, HC1, HBx, HR, HG⟩ := hcut
  have hbs := (blk_cell HBx.out.s 0).trans (show _ = some _ from rfl)
  go_wp2
  go_loopg [5, 20] l.length (fun gk v5 v20 wr => ∃ i : Nat, v20 = .int .i64 i ∧ Aside0 (i ≤ l.length ∧ l.length - i ≤ gk) ∧ Aside0 (OS w A l.length c g cap i wr))
  case atStart => exact ⟨0, rfl, ⟨by omega, by omega⟩, ⟨⟨HBx.out, by rw [ups_zero]; exact HR.out, HG.out⟩⟩⟩
  case round =>
   obtain ⟨i, rfl, HI, HO⟩ := hrel
   clear hbs HBx HR
   by_cases hi : i < l.length
   ·
    have hz : (i : Int) < (l.length : Int) := by omega
    have hz0 : (0 : Int) ≤ (i : Int) := by omega
    have hcl := Kd.R_celln (d := (0 : Int)) HO.out.ro (i : Int) hz0 (by omega)
    rw [Int.toNat_natCast] at hcl
    obtain ⟨hc1, hc2⟩ := hcl
    go_wp2
    go_roundg (l.length - (i + 1))
    case measure => have := HI.out; omega
    case rel => exact ⟨i + 1, by go_num, ⟨by omega, Nat.le_refl _⟩, ⟨HO.out.put hi⟩⟩
   ·
    have hz : ¬ (i : Int) < (l.length : Int) := by omega
    have he : i = l.length := by have := HI.out.1; omega
    have HO2 := Aside0.mk (he ▸ HO.out : OS w A l.length c g cap l.length wr)
    clear HO HI he
    go_wp2_with (go_at_call 14; (with_reducible refine (sort_step HO2.out HC.out k1).mono ?_); rintro e w1 ⟨rfl, hp⟩; have HP := Lib.hid hp; clear hp)
    go_loopg [6, 7, 8, 33] l.length (fun gk v6 v7 v8 v33 wr => ∃ i : Nat, v33 = .int .i64 i ∧ v7 = .int .i64 (((bkAt (ssF l) i).beg : Nat) : Int) ∧ v8 = .int .i64 (bkAt (ssF l) i).sum ∧ Aside0 (i ≤ l.length ∧ l.length - i ≤ gk) ∧ Aside0 (LS w A l c g cap v6 (bkAt (ssF l) i).cuts wr))
    case atStart => exact ⟨0, rfl, rfl, rfl, ⟨by omega, by omega⟩, ⟨HP.out, Kd.R_nil _ _ _ _ _⟩⟩
    case round =>
     obtain ⟨i, rfl, rfl, rfl, HI, HL⟩ := hrel
     clear HP HO2
     have HBI := Lib.hid (BI.at_ (ssF l) (ssF_range l) i (by rw [ssF_len]; exact HI.out.1))
     by_cases hi : i < l.length
     ·
      have hz : (i : Int) < (l.length : Int) := by omega
      have hz0 : (0 : Int) ≤ (i : Int) := by omega
      obtain ⟨T, hT, eT, eS⟩ := ord_at l i hi
      have hcl := Kd.R_celln (d := (0 : Int)) HL.out.ps.ro (i : Int) hz0 (by omega)
      rw [Int.toNat_natCast, eT] at hcl
      obtain ⟨hc1, hc2⟩ := hcl
      have hf1 := (blk_cell HL.out.ps.bx.f 0).trans (show _ = some _ from rfl)
      have HSZ := Lib.hid (size_clo w.heap.size A c l T hT wr ((blk_cell HL.out.ps.bx.s 0).trans rfl) (Kd.C_below HC.out HL.out.ps.bx.b))
      have HS := Lib.hid (sz_range l[T])
      have HST := Lib.hid (show bkAt (ssF l) (i + 1) = bkStep i (sz l[T]) (bkAt (ssF l) i) by rw [bkAt, eS])
      generalize sz l[T] = s at HSZ HS HST
      clear eT eS
      generalize bkAt (ssF l) i = b at HL HBI HST
      have hs := HS.out
      have hb := HBI.out.le
      have eg : ∀ args w, (callFunc 13 args).run Try.prog w = .ok (.enter 13 args) w := enters_of Try.func13 (by kernel_rfl) rfl
      go_upto_region 15 with (go_at_fn 13; (with_reducible refine HSZ.out.mono ?_); rintro e w1 ⟨rfl, hw1⟩; obtain rfl : wr = w1 := hw1.symm)
      go_cut [56] (fun v56 wx => Aside0 (wr = wx) ∧ v56 = .bool (decide (bkNew i s b)))
      case first =>
       by_cases h0 : i = 0
       ·
        subst h0
        have e1 : decide (bkNew 0 s b) = true := decide_eq_true (Or.inl rfl)
        go_wp2
        go_meet
        case rel => exact ⟨⟨rfl⟩, by rw [e1]⟩
       ·
        have hne : ((i : Int) == 0) = false := by simpa using h0
        obtain ⟨x1, -⟩ := HBI.out.lt (by omega)
        have x2 := HBI.out.s0
        have x3 := HBI.out.s1
        have x4 : (1 : Int) ≤ (i : Int) - (b.beg : Int) := by omega
        obtain ⟨q, hq⟩ : ∃ q, b.sum / ((i : Int) - (b.beg : Int)) = q := ⟨_, rfl⟩
        have q0 : 0 ≤ q := by rw [← hq]; exact Int.ediv_nonneg x2 (by omega)
        have q1 : q ≤ b.sum := by rw [← hq]; exact Int.ediv_le_self _ x2
        have e1 : decide (bkNew i s b) = (decide (4 < s) && decide (2 * q < s)) := by
         rw [← hq, ← Bool.decide_and]; unfold bkNew; exact decide_eq_decide.2 ⟨fun h => h.elim (fun h => absurd h h0) id, Or.inr⟩
        by_cases h4 : 4 < s
        ·
         by_cases h5 : 2 * q < s
         ·
          go_wp2
          go_meet
          case rel => exact ⟨⟨rfl⟩, by rw [e1, decide_eq_true h4, decide_eq_true h5]; rfl⟩
         ·
          go_wp2
          go_meet
          case rel => exact ⟨⟨rfl⟩, by rw [e1, decide_eq_true h4, decide_eq_false (by omega : ¬ 2 * q < s)]; rfl⟩
        ·
         go_wp2
         go_meet
         case rel => exact ⟨⟨rfl⟩, by rw [e1, decide_eq_false (by omega : ¬ 4 < s)]; rfl⟩
      case rest => 
       obtain ⟨EW, rfl⟩ := hcut
       obtain rfl := EW.out
       by_cases hn : bkNew i s b
       ·
        rw [decide_eq_true hn]
        have HN := Lib.hid hn
        have hcap := HC1.out
        have hbl : b.cuts.length ≤ 1000000 := by have := HBI.out.n; omega
        have hgl : g < wr.heap.size := Kd.R_lt HL.out.ps.ro g (by simp [Value.ownBlock])
        go_upto_region 18 with ((with_reducible refine gate_builtin (b := .append) (xs := #[.tmp 58, .tmp 64]) rfl ?_); at_builtin; go_loud (refine Kd.R_append (kCut g) (w0 := w) w.heap.size rfl (.tmp 58) (.tmp 64) 24 22 (.slice none 0 0) 24 rfl Try.underlying24 info_s rfl Nat.one_pos (by omega) u6 b.cuts (0, 0) [.slice (some ⟨g, 0, none⟩) 0 0] (fun k => k ≠ g ∧ w.heap.size + 2 ≤ k) (fun _ => False) rfl rfl rfl (fun _ hk => hk.elim) ?aF HL.out.out HL.out.ps.bx.b HL.out.ps.bx.b.size ?aL ?_); (case aF => exact fun k hk => ⟨by omega, by have := HL.out.ps.hg; omega⟩); (case aL => have := HBI.out.n; omega); intro v1 w1 ho hb hg hat; have HL1 := Lib.hid (HL.out.grown ho hb hg); clear ho hb hg hat)
        obtain ⟨g6, cap6, x0, ev, hx0, hx1⟩ := HL1.out.form (m := b.cuts.length) (by simp)
        subst ev
        go_wp2_with fail
        go_roundg (l.length - (i + 1))
        case measure => have := HI.out; omega
        case rel =>
         have eb : bkAt (ssF l) (i + 1) = ⟨b.cuts ++ [(i, 1)], i, s⟩ := by rw [HST.out, bkStep, if_pos HN.out]
         have hp := HL1.out.put b.cuts.length (i, 1)
         have ec : (b.cuts ++ [(0, 0)]).set b.cuts.length (i, 1) = b.cuts ++ [(i, 1)] := by simp
         rw [ec] at hp
         exact ⟨i + 1, by go_num, by rw [eb], by rw [eb], ⟨by omega, Nat.le_refl _⟩, ⟨by rw [eb]; exact hp⟩⟩
       ·
        rw [decide_eq_false hn]
        have HN := Lib.hid hn
        have hi0 : 0 < i := Nat.pos_of_ne_zero fun e => hn (.inl e)
        clear hn
        obtain ⟨y1, y2⟩ := HBI.out.lt hi0
        have x2 := HBI.out.s0
        have x3 := HBI.out.s1
        obtain ⟨m, hm⟩ : ∃ m, b.cuts.length = m + 1 := ⟨b.cuts.length - 1, by omega⟩
        have hmb : m ≤ 1000000 := by have := HBI.out.n; omega
        have hcap := HC1.out
        obtain ⟨g6, cap6, x0, ev, hx0, hx1⟩ := HL.out.form hm
        subst ev
        have HM := Lib.hid hm
        clear hm y2
        go_wp2_with fail
        go_roundg (l.length - (i + 1))
        case measure => have := HI.out; omega
        case rel =>
         have eb : bkAt (ssF l) (i + 1) = ⟨b.cuts.set m (b.beg, i + 1 - b.beg), b.beg, b.sum + s⟩ := by rw [HST.out, bkStep, if_neg HN.out, HM.out, Nat.add_sub_cancel]
         exact ⟨i + 1, by go_num, by rw [eb], by rw [eb], ⟨by omega, Nat.le_refl _⟩, ⟨by rw [eb]; exact HL.out.put m (b.beg, i + 1 - b.beg)⟩⟩
     ·
      have hz : ¬ (i : Int) < (l.length : Int) := by omega
      have he : i = l.length := by have := HI.out.1; omega
      have HL2 := Aside0.mk (he ▸ HL.out : LS w A l c g cap u6 (bkAt (ssF l) l.length).cuts wr)
      have HB2 := Lib.hid (he ▸ HBI.out : BI l.length (bkAt (ssF l) l.length))
      clear HL HBI HI he
      obtain ⟨A6, cap6, rfl⟩ := Kd.R_slice HL2.out.out
      obtain ⟨cuts, hcuts⟩ : ∃ cuts, (bkAt (ssF l) l.length).cuts = cuts := ⟨_, rfl⟩
      rw [hcuts] at HL2 ⊢
      have HCI := Lib.hid (fun (j : Nat) (hj : j < cuts.length) => show cuts[j].1 + cuts[j].2 ≤ l.length from (cuts_in (ssF l) l.length (by rw [ssF_len]; exact Nat.le_refl _)).2 _ (by rw [hcuts]; exact List.getElem_mem hj))
      have HCU := Lib.hid hcuts
      have HLE : cuts.length ≤ 1000000 := by have := HB2.out.n; rw [hcuts] at this; omega
      clear hcuts
      go_wp2_with fail
      go_loopg [84] cuts.length (fun gk v84 wx => ∃ j : Nat, v84 = .int .i64 j ∧ Aside0 (j ≤ cuts.length ∧ cuts.length - j ≤ gk) ∧ Aside0 (FS w A l c g cap (.slice A6 cuts.length cap6) cuts j wx))
      case atStart => exact ⟨0, rfl, ⟨by omega, by omega⟩, ⟨FS.start HL2.out⟩⟩
      case round =>
       obtain ⟨j, rfl, HJ, HF⟩ := hrel
       clear HL2
       by_cases hj : j < cuts.length
       ·
        have hz : (j : Int) < (cuts.length : Int) := by omega
        obtain ⟨g6, e6, hg6, hx0, hx1, hrC, hrl⟩ := HF.out.entry hj (HCI.out j hj)
        subst e6
        have HRC := Lib.hid hrC
        have HRL := Lib.hid hrl
        have HPUT := Lib.hid (fun (W2 : World) (v1 : Value) (n1 : Nat) => HF.out.put (W2 := W2) (v1 := v1) (n1 := n1) hj)
        have HLR := Lib.hid (show (rowOf l cuts[j]).length ≤ 1000000 by rw [hrl]; have := HCI.out j hj; omega)
        generalize rowOf l cuts[j] = zs at HRC HRL HPUT HLR
        generalize cuts[j] = x at hx0 HRC HRL
        obtain ⟨x1, x2⟩ := x
        dsimp only at hx0 HRC HRL
        clear hrC hrl
        obtain rfl : x2 = zs.length := HRL.out.symm
        have HSO := Lib.hid (sorted_call wr.heap.size (some ⟨g, x1, none⟩) zs.length zs (wr.alloc (.cells #[.slice (some ⟨g, x1, none⟩) zs.length zs.length] 22)) (by simp) ((blk_cell (blk_new _ _) 0).trans rfl) (Kd.C_below HRC.out (below_alloc (Below.refl _ _) _)) (by have := HLR.out; omega))
        have HAL := Lib.hid (below_alloc (Below.refl _ wr) (.cells #[.slice (some ⟨g, x1, none⟩) zs.length zs.length] 22))
        have HX := Lib.hid (And.intro hx0 hx1)
        go_wp2_with (first | (go_at_call 18; (with_reducible refine (values_call _ _ _ _).mono ?_); rintro e w1 ⟨rfl, rfl⟩) | (go_at_call 17; (with_reducible refine HSO.out.mono ?_); rintro e w2 ⟨v1, rfl, ho, hb⟩; obtain ⟨B1, cp1, rfl⟩ := own_slice ho; have HO2 := Lib.hid (own_less ho HAL.out.size); have hb2 := below_step HAL.out hb; have HB3 := Lib.hid hb2; have y0 := pw_cell_below hb2 HX.out.1; have y1 := (hb2.frozen (p := ⟨g6, j, none⟩) hg6).trans HX.out.2; clear ho hb hb2))
        go_roundg (cuts.length - (j + 1))
        case measure => have := HJ.out; omega
        case rel => exact ⟨j + 1, by go_num, ⟨by omega, Nat.le_refl _⟩, ⟨HPUT.out _ _ _ HB3.out HO2.out⟩⟩
       ·
        have hz : ¬ (j : Int) < (cuts.length : Int) := by omega
        have he : j = cuts.length := by have := HJ.out.1; omega
        have HF2 := Lib.hid (show FS w A l c g cap (.slice A6 cuts.length cap6) cuts cuts.length _ from he ▸ HF.out)
        clear HF he HJ
        go_wp2_with fail
        go_ret
        exact ⟨_, rfl, by rw [HCU.out]; exact HF2.out.done, HF2.out.ps.bx.b⟩
end Go.Proofs.Ythlffcaaifpdeaa.Srt
