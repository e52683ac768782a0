/- Lemmas for this claim's walk: no condition of their own. -/
import Derived.Test.YtlffkbcaphhldaaFaQx4
import Derived.Test.YtlffkbcaphhldaaFaQx13
import Derived.Test.YtlffkbcaphhldaaFaSkLv
import Derived.Test.YtlffkbcaphhldaaFaGath
import Derived.Deep.MidRow
import Derived.WalkLawsBesides
import Derived.WalkSpells
import Derived.Lib.Hide
import Derived.Deep.DeepFit
import Derived.Outline
namespace Go.Proofs.Ytlffkbcaphhldaa.Q
open Go.RowKit Go.Proofs.YtlffkbcaphhldaaW.PrintWords Go.Proofs.YtlffkbcaphhldaaW.PrintLast Go.Proofs.YtlffkbcaphhldaaW.PrintMore
attribute [local go_sem] max2_int min2_int max_two min_two max_three min_three max_four min_four
set_option linter.unusedVariables false
set_option linter.unusedSimpArgs false
open Go.Lib Go.Proofs.Ytlffkbcaphhldaa.Sk Go.Proofs.Ytlffkbcaphhldaa.Pl Go.Proofs.Ytlffkbcaphhldaa.Ord Go.Proofs.Ytlffkbcaphhldaa.Nm Go.Proofs.Ytlffkbcaphhldaa.Rh
attribute [local go_sem] Oper.semAt_some
attribute [local go_sem high] eqA31 eqA35
structure InC (xs : List Cl) : Prop where
 fine : ∀ c ∈ xs, FineC c
 len : xs.length ≤ 1256584717421
theorem weigh_calls {xs : List Cl} (h : InC xs) : ∃ r : Nat, (r ≤ 200 → xs.length ≤ 200) ∧ ∀ (A : Option Addr) (c : Nat) (W : World), k37.C W A xs.length xs → xs.length ≤ c →
  Calls Try.prog 8 #[.slice A xs.length c, .int .i64 200] W fun e w' => e = .returned (.int .i64 (r : Int)) ∧ Below W.heap.size W w' := by
 obtain ⟨r, e, h2⟩ := weigh_f 200 (by omega) xs h.fine (Nat.le_trans h.len (by omega)) (xs.length + 1) (by omega)
 exact ⟨r, fun hr => by rcases h2 with h2 | ⟨h2, -⟩ <;> omega, fun A c W hC hc => skerrylaw06_weigh.calls (xs.length + 1) A c xs 200 r W hC hc e⟩
theorem fin_ofD {xs : List Cl} {i : Nat} (hi : i < xs.length) : xs.getD i z37 = xs[i] := by rw [List.getD_eq_getElem?_getD, List.getElem?_eq_getElem hi]; rfl
structure GS (w : World) (k : Ky) (base l g8 : Nat) (lv : List Int) (C : List Cl) (H : List Int) (v : S35) (W : World) : Prop where
 isl : ∃ own, IsL W base l lv C H own ∧ ¬ own g8
 b5 : W.heap[w.heap.size]? = some (.cells (ka k) 31 (0, 0))
 b8 : W.heap[g8]? = some (.cells (va v) 35 (0, 0))
 bel : Below w.heap.size w W
 lt : w.heap.size < base ∧ base ≤ g8
theorem GS.below {w : World} {k : Ky} {base l g8 : Nat} {lv : List Int} {C : List Cl} {H : List Int} {v : S35} {A B : World} (h : GS w k base l g8 lv C H v A) (hb : Below A.heap.size A B) : GS w k base l g8 lv C H v B := by
 obtain ⟨⟨own, h1, h2⟩, h3, h4, h5, h6⟩ := h
 exact ⟨⟨own, h1.below hb, h2⟩, blk_below h3 hb, blk_below h4 hb, below_step h5 hb, h6⟩
theorem gs_put {w : World} {k : Ky} {base l g8 : Nat} {lv : List Int} {C : List Cl} {H : List Int} {v : S35} {A : World} (h : GS w k base l g8 lv C H v A) (x : Cl) (hC : C.length < 1000) (hlv : lv.length ≤ 1000000) (W : World) (hW : Below A.heap.size A W) :
  Calls Try.prog 11 #[.pointer (some ⟨l, 0, none⟩), .agg (ca x)] W fun e w' => e = .returned (.int .i64 (if goodB x = true then 0 else 2)) ∧ GS w k base l g8 lv (stp lv (C, H) x).1 (stp lv (C, H) x).2 v w' ∧ ∀ q, A.heap.size ≤ q → q < W.heap.size → w'.heap[q]? = W.heap[q]? := by
 by_cases hg : goodB x = true
 ·
  rw [if_pos hg]
  obtain ⟨⟨own, h1, h2⟩, h3, h4, h5, h6⟩ := h
  have hge := h1.ge
  refine (isl_put (h1.below hW) x hg hC hlv).mono ?_
  rintro e w1 ⟨rfl, own', hl, hch, ho⟩
  have h4' := blk_below h4 hW
  refine ⟨rfl, ⟨⟨own', by unfold stp; rw [if_pos hg]; exact hl, fun hq => ?_⟩, hch.blk (blk_below h3 hW) fun hq => by have := (hge _ hq).1; omega, hch.blk h4' h2, hch.to_below (below_step h5 hW) fun q hq => by have := (hge _ hq).1; omega, h6⟩, fun q hq1 hq2 => hch.same q hq2 fun ho2 => by have := (hge _ ho2).2; omega⟩
  rcases ho _ hq with hq | hq
  ·
   exact h2 hq
  ·
   have := blk_lt h4'; omega
 ·
  rw [if_neg hg]
  obtain ⟨⟨own, h1, h2⟩, -⟩ := id h
  refine (isl_bad (h1.below hW) x (by simpa using hg)).mono ?_
  rintro e w1 ⟨rfl, hb⟩
  refine ⟨rfl, ?_, fun q _ hq2 => hb.block q hq2⟩
  have : stp lv (C, H) x = (C, H) := by unfold stp; rw [if_neg hg]
  rw [this]
  exact h.below (below_step hW hb)
theorem va_ver (v u : S35) : ((((((va v).setIfInBounds 0 (.int .i64 u.f0)).setIfInBounds 1 (.bool u.f1)).setIfInBounds 2 (.int .i64 u.f2)).setIfInBounds 3 (.int .i64 u.f3.f0)).setIfInBounds 4 (.int .i64 u.f3.f1)).setIfInBounds 5 (.string u.f3.f2) = va u := by
 simp [va]
def setv8 (W : World) (q : Nat) (v : S35) : World := (((((W.setCell ⟨q, 0, none⟩ (.int .i64 v.f0)).setCell ⟨q, 1, none⟩ (.bool v.f1)).setCell ⟨q, 2, none⟩ (.int .i64 v.f2)).setCell ⟨q, 3, none⟩ (.int .i64 v.f3.f0)).setCell ⟨q, 4, none⟩ (.int .i64 v.f3.f1)).setCell ⟨q, 5, none⟩ (.string v.f3.f2)
theorem setv8_blk {W : World} {q : Nat} {v : S35} (hb : W.heap[q]? = some (.cells (va v) 35 (0, 0))) (u : S35) : (setv8 W q u).heap[q]? = some (.cells (va u) 35 (0, 0)) := by
 rw [← va_ver v u]
 exact blk_set (blk_set (blk_set (blk_set (blk_set (blk_set hb 0 _) 1 _) 2 _) 3 _) 4 _) 5 _
theorem setv8_ch {W : World} (q : Nat) (v : S35) : Ch (fun k => k = q) W (setv8 W q v) := by
 have e : (fun k => k = q) q := rfl
 exact ((((((Ch.refl (fun k => k = q) W).set (.inl e) _).set (.inl e) _).set (.inl e) _).set (.inl e) _).set (.inl e) _).set (.inl e) _
theorem GS.setv {w : World} {k : Ky} {base l g8 : Nat} {lv : List Int} {C : List Cl} {H : List Int} {v : S35} {A : World} (h : GS w k base l g8 lv C H v A) (u : S35) : GS w k base l g8 lv C H u (setv8 A g8 u) := by
 obtain ⟨⟨own, h1, h2⟩, h3, h4, h5, h6⟩ := h
 have hc := setv8_ch (W := A) g8 u
 exact ⟨⟨own, h1.ch hc fun q hq e => h2 (e ▸ hq), h2⟩, hc.blk h3 fun e => by omega, setv8_blk h4 u, hc.to_below h5 fun q e => by have : q = g8 := e; omega, h6⟩
set_option maxHeartbeats 4000000 in
set_option maxRecDepth 100000 in
theorem walkGets (A0 : Option Addr) (c0 : Nat) (lv : List Int) (A1 : Option Addr) (c1 : Nat) (xs : List Cl) (k0 k1 : ByteArray) (k2 : Int) (k3 : ByteArray) (b : Bool) (w : World) (hr0 : (Kd.int .i64).C w A0 lv.length lv) (hc0 : lv.length ≤ c0) (hr1 : k37.C w A1 xs.length xs) (hc1 : xs.length ≤ c1) (h : InC xs ∧ b = true) :
  Calls Try.prog 4 #[.slice A0 lv.length c0, .slice A1 xs.length c1, .agg #[.string k0, .string k1, .int .i64 k2, .string k3]] w fun e w' => e = .returned (.bool b) ∧ Below w.heap.size w w' := by
 obtain ⟨h0, rfl⟩ := h
 obtain ⟨k, hk⟩ : ∃ k : Ky, k = ⟨k0, k1, k2, k3⟩ := ⟨_, rfl⟩
 obtain ⟨r, hr, hwe⟩ := weigh_calls h0
 have HWE := Lib.hid (fun (W : World) (hW : Below w.heap.size w W) => hwe A1 c1 W (Kd.C_below hr1 hW) hc1)
 have HLV := Lib.hid lives_calls
 have HR := Lib.hid hr
 have HR0 := Lib.hid (fun (W : World) (hW : Below w.heap.size w W) => Kd.C_below hr0 hW)
 have HR1 := Lib.hid (fun (W : World) (hW : Below w.heap.size w W) => Kd.C_below hr1 hW)
 have hml := hr0.2.1
 have HC0 := Lib.hid hc0
 have HC1 := Lib.hid hc1
 have HK := Lib.hid hk
 clear hr0 hr1 hwe hr hc0 hc1 h0
 obtain rfl : k0 = k.f0 := by rw [hk]
 obtain rfl : k1 = k.f1 := by rw [hk]
 obtain rfl : k2 = k.f2 := by rw [hk]
 obtain rfl : k3 = k.f3 := by rw [hk]
 clear hk HK
 go_enter Try.func4, Try.ntmps4
 go_upto_region 1 with fail
 by_cases hbig : 200 < r ∨ 1000 < lv.length
 ·
  have hq : (200 : Int) < (r : Int) ∨ ¬ (200 : Int) < (r : Int) ∧ (1000 : Int) < (lv.length : Int) := by omega
  rcases hq with hq | ⟨hq, hq2⟩
  all_goals
   clear hbig
   go_wp2_with (first | (go_at_call 8; (with_reducible refine (HWE.out _ (below_alloc (Below.refl _ _) _)).mono ?_); rintro e w1 ⟨rfl, hb⟩; have HB1 := Lib.hid (below_step (below_alloc (Below.refl w.heap.size w) _) hb); clear hb) | (go_at_call 9; (with_reducible refine (HLV.out _).mono ?_); rintro e w2 ⟨rfl, hb⟩; have HB2 := Lib.hid (below_step HB1.out hb); clear hb))
   go_ret
   exact ⟨rfl, HB2.out⟩
 ·
  have hq : ¬ (200 : Int) < (r : Int) := by omega
  have hq2 : ¬ (1000 : Int) < (lv.length : Int) := by omega
  have hx200 : xs.length ≤ 200 := HR.out (by omega)
  have hlv : lv.length ≤ 1000 := by omega
  clear hbig HR
  go_upto_region 8 with (first | (go_at_call 8; (with_reducible refine (HWE.out _ (below_alloc (Below.refl _ _) _)).mono ?_); rintro e w1 ⟨rfl, hb⟩; have HB1 := Lib.hid (below_step (below_alloc (Below.refl w.heap.size w) _) hb); have HK1 := Lib.hid (blk_below (heap_new_ w (.cells (ka k) 31)) hb); clear hb) | (go_at_call 10; (with_reducible refine (isl_new A0 c0 lv _ (HR0.out _ HB1.out) HC0.out (by omega)).mono ?_); rintro e w2 ⟨l, own, rfl, hl, hb⟩; have HL := Lib.hid hl; have HB2 := Lib.hid (below_step HB1.out hb); have HK2 := Lib.hid (blk_below HK1.out hb); clear hl hb))
  have HGS := Lib.hid (show GS w k w1.heap.size l w2.heap.size lv [] [] z35 (w2.alloc (.cells #[.int .i64 0, .bool false, .int .i64 0, .int .i64 0, .int .i64 0, .string ⟨#[]⟩] 35)) from
   ⟨⟨own, HL.out.below (below_alloc (Below.refl _ _) _), fun hq => by have := (HL.out.ge _ hq).2; omega⟩, blk_alloc HK2.out _, heap_new_ w2 _, below_alloc HB2.out _, by have := blk_lt HK1.out; exact this, by obtain ⟨T, A, c, h1, -⟩ := HL.out; exact Nat.le_trans h1.hb (Nat.le_of_lt (blk_lt h1.box))⟩)
  have hxz : (xs.length : Int) ≤ 200 := by omega
  go_wp2_with fail
  go_loopg [9, 11, 34] xs.length (fun gj v9 v11 v34 wr => ∃ i : Nat, v34 = .int .i64 i ∧ v9 = .bool (gv k (Ps lv (xs.take i)).1).2 ∧ Aside0 (i ≤ xs.length ∧ xs.length - i ≤ gj) ∧ Aside0 (GS w k w1.heap.size l w2.heap.size lv (Ps lv (xs.take i)).1 (Ps lv (xs.take i)).2 (gv k (Ps lv (xs.take i)).1).1 wr))
  case atStart => exact ⟨0, rfl, rfl, ⟨Nat.zero_le _, by omega⟩, ⟨HGS.out⟩⟩
  case round =>
   clear HGS HL HB1 HK1 HB2 HK2
   obtain ⟨i, rfl, rfl, HI, HG⟩ := hrel
   by_cases hil : i < xs.length
   ·
    have q1 : (i : Int) < (xs.length : Int) := by omega
    have q0 : (0 : Int) ≤ (i : Int) := by omega
    obtain ⟨ad, rfl, d⟩ := cl_cells (HR1.out wr HG.out.bel) i hil
    have HPS := Lib.hid (Ps_snoc lv hil)
    obtain ⟨x, hx⟩ : ∃ x, xs[i] = x := ⟨_, rfl⟩
    rw [show xs.getD i z37 = x by rw [fin_ofD hil, hx]] at d
    rw [hx] at HPS
    obtain ⟨d0, d1, d2, d3, d4, d5, d6, d7, d8, d9⟩ := d
    have hC1 : (Ps lv (xs.take i)).1.length < 1000 := by
     have h1 := Ps_len lv (xs.take i)
     rw [List.length_take] at h1
     omega
    have HINC := Lib.hid (Ps_inc lv (xs.take i))
    obtain ⟨P, hP⟩ : ∃ P, Ps lv (xs.take i) = P := ⟨_, rfl⟩
    rw [hP] at hC1 HPS HG HINC ⊢
    have HC := Lib.hid hC1
    have HGV := Lib.hid (gv_add HINC.out k x)
    obtain ⟨vb, hvb⟩ : ∃ vb, gv k P.1 = vb := ⟨_, rfl⟩
    rw [hvb] at HG HGV ⊢
    have HGV0 := Lib.hid hvb
    clear hx hC1 hP hvb
    go_upto_region 11 with fail
    obtain ⟨w4, hw4⟩ : ∃ w4, wr.alloc (.cells (ca x) 37) = w4 := ⟨_, rfl⟩
    have HX := Lib.hid (show w4.heap[wr.heap.size]? = some (.cells (ca x) 37 (0, 0)) from hw4 ▸ heap_new_ wr _)
    have HB4 := Lib.hid (show Below wr.heap.size wr w4 from hw4 ▸ below_alloc (Below.refl _ _) _)
    have HPT := Lib.hid (gs_put HG.out x HC.out (by omega) w4 HB4.out)
    rw [hw4]
    obtain ⟨gx, hgx⟩ : ∃ gx, wr.heap.size = gx := ⟨_, rfl⟩
    rw [hgx] at HX HPT ⊢
    have HGX := Lib.hid (Nat.le_of_eq hgx)
    clear hw4 hgx d0 d1 d2 d3 d4 d5 d6 d7 d8 d9
    go_cut [34, 47] from 34 to 55 (fun v34 v47 wd => v34 = .int .i64 i ∧ v47 = .bool (!(goodB x && decide (cmpK x.f0 k = 0))) ∧ Aside0 (GS w k w1.heap.size l w2.heap.size lv (stp lv P x).1 (stp lv P x).2 vb.1 wd) ∧ Aside0 (wd.heap[gx]? = some (.cells (ca x) 37 (0, 0))))
    case first =>
     have e0 := (blk_cell HX.out 0).trans (show _ = some (Value.string x.f0.f0) from rfl)
     have e1 := (blk_cell HX.out 1).trans (show _ = some (Value.string x.f0.f1) from rfl)
     have e2 := (blk_cell HX.out 2).trans (show _ = some (Value.int .i64 x.f0.f2) from rfl)
     have e3 := (blk_cell HX.out 3).trans (show _ = some (Value.string x.f0.f3) from rfl)
     have e4 := (blk_cell HX.out 4).trans (show _ = some (Value.int .i64 x.f1.f0) from rfl)
     have e5 := (blk_cell HX.out 5).trans (show _ = some (Value.bool x.f1.f1) from rfl)
     have e6 := (blk_cell HX.out 6).trans (show _ = some (Value.int .i64 x.f1.f2) from rfl)
     have e7 := (blk_cell HX.out 7).trans (show _ = some (Value.int .i64 x.f1.f3.f0) from rfl)
     have e8 := (blk_cell HX.out 8).trans (show _ = some (Value.int .i64 x.f1.f3.f1) from rfl)
     have e9 := (blk_cell HX.out 9).trans (show _ = some (Value.string x.f1.f3.f2) from rfl)
     by_cases hg : goodB x = true
     ·
      rw [if_pos hg] at HPT
      have HD := Lib.hid (show (x.f0.f0.toList == k.f0.toList && (x.f0.f1.toList == k.f1.toList && (x.f0.f2 == k.f2 && x.f0.f3.toList == k.f3.toList))) = (goodB x && decide (cmpK x.f0 k = 0)) by rw [keyB_cmp, hg, Bool.true_and]; rfl)
      clear hg
      go_wp2_with ((go_at_call 11; (with_reducible refine HPT.out.mono ?_); rintro e w5 ⟨rfl, hG, hq⟩; have HG5 := Lib.hid hG; have hx5 := (hq gx (Nat.le_refl _) (blk_lt HX.out)).trans HX.out; have HX5 := Lib.hid hx5; have k0 := (blk_cell hx5 0).trans (show _ = some (Value.string x.f0.f0) from rfl); have k1 := (blk_cell hx5 1).trans (show _ = some (Value.string x.f0.f1) from rfl); have k2 := (blk_cell hx5 2).trans (show _ = some (Value.int .i64 x.f0.f2) from rfl); have k3 := (blk_cell hx5 3).trans (show _ = some (Value.string x.f0.f3) from rfl); have y0 := (blk_cell hG.b5 0).trans (show _ = some (Value.string k.f0) from rfl); have y1 := (blk_cell hG.b5 1).trans (show _ = some (Value.string k.f1) from rfl); have y2 := (blk_cell hG.b5 2).trans (show _ = some (Value.int .i64 k.f2) from rfl); have y3 := (blk_cell hG.b5 3).trans (show _ = some (Value.string k.f3) from rfl); clear hG hq hx5))
      go_meet
      case rel => exact ⟨rfl, by rw [← HD.out]; simp only [Bool.not_and], ⟨HG5.out⟩, ⟨HX5.out⟩⟩
     ·
      rw [if_neg hg] at HPT
      have HD := Lib.hid (show false = (goodB x && decide (cmpK x.f0 k = 0)) by rw [show goodB x = false by simpa using hg, Bool.false_and])
      clear hg
      go_wp2_with ((go_at_call 11; (with_reducible refine HPT.out.mono ?_); rintro e w5 ⟨rfl, hG, hq⟩; have HG5 := Lib.hid hG; have hx5 := (hq gx (Nat.le_refl _) (blk_lt HX.out)).trans HX.out; have HX5 := Lib.hid hx5; have k0 := (blk_cell hx5 0).trans (show _ = some (Value.string x.f0.f0) from rfl); have k1 := (blk_cell hx5 1).trans (show _ = some (Value.string x.f0.f1) from rfl); have k2 := (blk_cell hx5 2).trans (show _ = some (Value.int .i64 x.f0.f2) from rfl); have k3 := (blk_cell hx5 3).trans (show _ = some (Value.string x.f0.f3) from rfl); have y0 := (blk_cell hG.b5 0).trans (show _ = some (Value.string k.f0) from rfl); have y1 := (blk_cell hG.b5 1).trans (show _ = some (Value.string k.f1) from rfl); have y2 := (blk_cell hG.b5 2).trans (show _ = some (Value.int .i64 k.f2) from rfl); have y3 := (blk_cell hG.b5 3).trans (show _ = some (Value.string k.f3) from rfl); clear hG hq hx5))
      go_meet
      case rel => exact ⟨rfl, by rw [← HD.out]; rfl, ⟨HG5.out⟩, ⟨HX5.out⟩⟩
    case rest =>
     clear HG HX HB4 HPT
     obtain ⟨rfl, rfl, HG, HX⟩ := hcut
     obtain ⟨w6, hw6⟩ : ∃ w6, wc = w6 := ⟨_, rfl⟩
     rw [hw6] at HG HX ⊢
     clear hw6
     have hb8 := HG.out.b8
     have f8 := fun j => blk_frozen hb8 j
     have c0 := (blk_cell hb8 0).trans (show _ = some (Value.int .i64 vb.1.f0) from rfl)
     have c1 := (blk_cell hb8 1).trans (show _ = some (Value.bool vb.1.f1) from rfl)
     have c2 := (blk_cell hb8 2).trans (show _ = some (Value.int .i64 vb.1.f2) from rfl)
     have c3 := (blk_cell hb8 3).trans (show _ = some (Value.int .i64 vb.1.f3.f0) from rfl)
     have c4 := (blk_cell hb8 4).trans (show _ = some (Value.int .i64 vb.1.f3.f1) from rfl)
     have c5 := (blk_cell hb8 5).trans (show _ = some (Value.string vb.1.f3.f2) from rfl)
     have x0 := (blk_cell HX.out 4).trans (show _ = some (Value.int .i64 x.f1.f0) from rfl)
     have x1 := (blk_cell HX.out 5).trans (show _ = some (Value.bool x.f1.f1) from rfl)
     have x2 := (blk_cell HX.out 6).trans (show _ = some (Value.int .i64 x.f1.f2) from rfl)
     have x3 := (blk_cell HX.out 7).trans (show _ = some (Value.int .i64 x.f1.f3.f0) from rfl)
     have x4 := (blk_cell HX.out 8).trans (show _ = some (Value.int .i64 x.f1.f3.f1) from rfl)
     have x5 := (blk_cell HX.out 9).trans (show _ = some (Value.string x.f1.f3.f2) from rfl)
     clear hb8
     by_cases hc : goodB x = true ∧ cmpK x.f0 k = 0
     ·
      rw [show (goodB x && decide (cmpK x.f0 k = 0)) = true by rw [hc.1, decide_eq_true hc.2]; rfl]
      have HV := Lib.hid (show gv k (stp lv P x).1 = (if vb.2 = true then joinV vb.1 x.f1 else x.f1, true) by unfold stp; rw [if_pos hc.1]; show gv k (add cmpK keyC joinC x P.1) = _; rw [HGV.out, if_pos hc.2])
      clear hc
      obtain ⟨vv, vt⟩ := vb
      cases vt
      ·
       have HGn := Lib.hid (HG.out.setv x.f1)
       have HVn := Lib.hid (show gv k (stp lv P x).1 = (x.f1, true) from HV.out)
       clear HV
       go_wp2_with fail
       go_roundg (xs.length - (i + 1))
       case measure => have := HI.out; omega
       case rel => exact ⟨i + 1, by go_num, by rw [HPS.out, HVn.out], ⟨by omega, Nat.le_refl _⟩, ⟨by rw [HPS.out, HVn.out]; exact HGn.out⟩⟩
      ·
       have HGn := Lib.hid (HG.out.setv (joinV vv x.f1))
       have HVn := Lib.hid (show gv k (stp lv P x).1 = (joinV vv x.f1, true) from HV.out)
       clear HV
       have HJ := Lib.hid (fun W => skerryref05_Join.calls vv.f0 vv.f1 vv.f2 vv.f3.f0 vv.f3.f1 vv.f3.f2 x.f1.f0 x.f1.f1 x.f1.f2 x.f1.f3.f0 x.f1.f3.f1 x.f1.f3.f2 _ _ _ _ _ _ W (rjoin_f _ _ _ _ _ _ _ _ _ _ _ _))
       obtain ⟨z, hz⟩ : ∃ z, joinV ⟨vv.f0, vv.f1, vv.f2, ⟨vv.f3.f0, vv.f3.f1, vv.f3.f2⟩⟩ ⟨x.f1.f0, x.f1.f1, x.f1.f2, ⟨x.f1.f3.f0, x.f1.f3.f1, x.f1.f3.f2⟩⟩ = z := ⟨_, rfl⟩
       rw [hz] at HJ
       have HZ := Lib.hid (show joinV vv x.f1 = z from hz)
       clear hz HGn
       go_wp2_with (go_at_call 17; (with_reducible refine (HJ.out _).mono ?_); rintro e w9 ⟨rfl, hb⟩; have HGj := Lib.hid ((HG.out.below hb).setv z); have hb8 := (HG.out.below hb).b8; have g8 := fun j => blk_frozen hb8 j; have l0 := (blk_cell hb8 0).trans (show _ = some (Value.int .i64 vv.f0) from rfl); have l1 := (blk_cell hb8 1).trans (show _ = some (Value.bool vv.f1) from rfl); have l2 := (blk_cell hb8 2).trans (show _ = some (Value.int .i64 vv.f2) from rfl); have l3 := (blk_cell hb8 3).trans (show _ = some (Value.int .i64 vv.f3.f0) from rfl); have l4 := (blk_cell hb8 4).trans (show _ = some (Value.int .i64 vv.f3.f1) from rfl); have l5 := (blk_cell hb8 5).trans (show _ = some (Value.string vv.f3.f2) from rfl); clear hb8 hb)
       go_roundg (xs.length - (i + 1))
       case measure => have := HI.out; omega
       case rel => exact ⟨i + 1, by go_num, by rw [HPS.out, HVn.out], ⟨by omega, Nat.le_refl _⟩, ⟨by rw [HPS.out, HVn.out, HZ.out]; exact HGj.out⟩⟩
     ·
      rw [show (goodB x && decide (cmpK x.f0 k = 0)) = false by cases h1 : goodB x <;> simp_all]
      have HV := Lib.hid (show gv k (stp lv P x).1 = vb by
       by_cases h1 : goodB x = true
       ·
        unfold stp; rw [if_pos h1]; show gv k (add cmpK keyC joinC x P.1) = _; rw [HGV.out, if_neg fun h => hc ⟨h1, h⟩]
       ·
        unfold stp; rw [if_neg h1]; exact HGV0.out)
      clear hc
      go_wp2_with fail
      go_roundg (xs.length - (i + 1))
      case measure => have := HI.out; omega
      case rel => exact ⟨i + 1, by go_num, by rw [HPS.out, HV.out], ⟨by omega, Nat.le_refl _⟩, ⟨by rw [HPS.out, HV.out]; exact HG.out⟩⟩
   ·
    obtain rfl : i = xs.length := by have := HI.out; omega
    have q1 : ¬ ((xs.length : Nat) : Int) < (xs.length : Int) := by omega
    have hC1 : (Ps lv xs).1.length < 1000 := by have := Ps_len lv xs; omega
    have HHO := Lib.hid (Ps_his lv xs)
    rw [List.take_of_length_le (Nat.le_refl _)] at HG ⊢
    obtain ⟨P, hP⟩ : ∃ P, Ps lv xs = P := ⟨_, rfl⟩
    rw [hP] at hC1 HG HHO ⊢
    have HCP := Lib.hid hC1
    obtain ⟨vb, hvb⟩ : ∃ vb, gv k P.1 = vb := ⟨_, rfl⟩
    rw [hvb] at HG ⊢
    have HGE := Lib.hid (show ∀ (W : World), Below wr.heap.size wr W → Calls Try.prog 13 #[.pointer (some ⟨l, 0, none⟩), .agg #[.string k.f0, .string k.f1, .int .i64 k.f2, .string k.f3]] W fun e w' => e = .returned (.tuple #[.agg (va vb.1), .bool vb.2]) ∧ Below W.heap.size W w' from fun W hW => by
     obtain ⟨own, h1, -⟩ := (HG.out.below hW).isl
     rw [← hvb]; exact isl_get h1 k)
    have HHI := Lib.hid (show ∀ (W : World), Below wr.heap.size wr W → Calls Try.prog 18 #[.pointer (some ⟨l, 0, none⟩)] W fun e w' => ∃ (A : Option Addr) (c : Nat), e = .returned (.slice A P.2.length c) ∧ (P.2.length ≤ c ∧ (Kd.int .i64).C w' A P.2.length P.2) ∧ Below W.heap.size W w' from fun W hW => by
     obtain ⟨own, h1, -⟩ := (HG.out.below hW).isl
     refine (isl_his h1 HCP.out).mono ?_
     rintro e w1 ⟨v, rfl, hr, hb⟩
     obtain ⟨A, c, rfl, hc, hC⟩ := Kd.R_reads hr
     exact ⟨A, c, rfl, ⟨hc, hC⟩, hb⟩)
    have HPL := Lib.hid (show P.2.length ≤ 200 by
     obtain ⟨own, h1, -⟩ := HG.out.isl
     rw [h1.hlen, ← hP]; have := Ps_len lv xs; omega)
    have y0 := (blk_cell HG.out.b5 0).trans (show _ = some (Value.string k.f0) from rfl)
    have y1 := (blk_cell HG.out.b5 1).trans (show _ = some (Value.string k.f1) from rfl)
    have y2 := (blk_cell HG.out.b5 2).trans (show _ = some (Value.int .i64 k.f2) from rfl)
    have y3 := (blk_cell HG.out.b5 3).trans (show _ = some (Value.string k.f3) from rfl)
    clear hC1 hP hvb
    go_upto_region 18 with (first | (go_at_call 13; (with_reducible refine (HGE.out _ (Below.refl _ _)).mono ?_); rintro e w7 ⟨rfl, hb⟩; have HB7 := Lib.hid hb; clear hb) | (go_at_call 18; (with_reducible refine (HHI.out _ (below_alloc HB7.out _)).mono ?_); rintro e w8 ⟨A8, c8, rfl, hC8, hb⟩; have HC8 := Lib.hid hC8; have HB8 := Lib.hid (below_step (below_alloc HB7.out _) hb); have HX8 := Lib.hid (blk_below (heap_new_ w7 _) hb); clear hC8 hb))
    clear y0 y1 y2 y3
    have hpl := HPL.out
    have hlz : (lv.length : Int) ≤ 1000 := by omega
    have hpz : (P.2.length : Int) ≤ 200 := by omega
    go_loopg [15, 16, 18, 65] P.2.length (fun gj v15 v16 v18 v65 wq => ∃ j : Nat, v65 = .int .i64 j ∧ Aside0 (j ≤ P.2.length ∧ P.2.length - j ≤ gj) ∧ Aside0 (Below w8.heap.size w8 wq))
    case atStart => exact ⟨0, rfl, ⟨Nat.zero_le _, by omega⟩, ⟨Below.refl _ _⟩⟩
    case round =>
     obtain ⟨j, rfl, HJ, HW⟩ := hrel
     by_cases hjl : j < P.2.length
     ·
      have p1 : (j : Int) < (P.2.length : Int) := by omega
      have p0 : (0 : Int) ≤ (j : Int) := by omega
      obtain ⟨ad8, rfl, hx8⟩ := Kd.at_int (Kd.C_below HC8.out.2 HW.out) (j : Int) p0 p1
      rw [show rd P.2 (j : Int) = P.2[j] by unfold rd; simp [List.getD_eq_getElem?_getD, List.getElem?_eq_getElem hjl], Int.toNat_natCast] at hx8
      have hok := HHO.out _ (List.getElem_mem hjl)
      obtain ⟨h, hh⟩ : ∃ h, P.2[j] = h := ⟨_, rfl⟩
      rw [hh] at hok hx8
      have HOK := Lib.hid hok
      have HJL := Lib.hid hjl
      have n1 : ¬ h < 1 := by have := hok.2.1; omega
      have n8 : ¬ (8 : Int) < h := by have := hok.2.2; omega
      clear hh hok hjl
      go_upto_region 20 with fail
      go_cut [15, 16, 65] from 65 to 98 (fun v15 v16 v65 wd => v15 = .int .i64 h ∧ v16 = .bool (h == 1 || h == 8) ∧ v65 = .int .i64 j ∧ Aside0 (Below w8.heap.size w8 wd))
      case first =>
       by_cases h1 : h = 1
       ·
        have e1 : (h == 1) = true := by simp [h1]
        have HE := Lib.hid e1
        clear h1
        go_wp2_with fail
        go_meet
        case rel => exact ⟨rfl, by rw [HE.out]; rfl, rfl, ⟨HW.out⟩⟩
       ·
        by_cases h2 : h = 8
        ·
         have e1 : (h == 1) = false := by simp [h1]
         have e2 : (h == 8) = true := by simp [h2]
         have HE := Lib.hid (And.intro e1 e2)
         clear h1 h2
         go_wp2_with fail
         go_meet
         case rel => exact ⟨rfl, by rw [HE.out.1, HE.out.2]; rfl, rfl, ⟨HW.out⟩⟩
        ·
         have e1 : (h == 1) = false := by simp [h1]
         have e2 : (h == 8) = false := by simp [h2]
         have HE := Lib.hid (And.intro e1 e2)
         clear h1 h2
         go_wp2_with fail
         go_meet
         case rel => exact ⟨rfl, by rw [HE.out.1, HE.out.2]; rfl, rfl, ⟨HW.out⟩⟩
      case rest =>
       clear HW hx8
       obtain ⟨rfl, rfl, rfl, HW⟩ := hcut
       obtain ⟨b0, hb0⟩ : ∃ b0, (h == 1 || h == 8) = b0 := ⟨_, rfl⟩
       have HALLB := Lib.hid (show (b0 || lv.any fun x => x == h) = true by
        rw [← hb0]
        rcases HOK.out.1 with h1 | h1 | h1
        ·
         subst h1; rfl
        ·
         subst h1; rfl
        ·
         rw [show (lv.any fun x => x == h) = true from List.any_eq_true.2 ⟨h, h1, by simp⟩, Bool.or_true])
       rw [hb0]
       clear hb0
       go_wp2_with fail
       go_loopg [16, 18, 77] lv.length (fun gl v16 v18 v77 wz => ∃ a : Nat, v77 = .int .i64 a ∧ v16 = .bool (b0 || (lv.take a).any fun x => x == h) ∧ Aside0 (a ≤ lv.length ∧ lv.length - a ≤ gl) ∧ Aside0 (Below w8.heap.size w8 wz))
       case atStart => exact ⟨0, rfl, by simp, ⟨Nat.zero_le _, by omega⟩, ⟨HW.out⟩⟩
       case round =>
        clear HW
        obtain ⟨a, rfl, rfl, HA, HW⟩ := hrel
        by_cases hal : a < lv.length
        ·
         have r1 : (a : Int) < (lv.length : Int) := by omega
         have r0 : (0 : Int) ≤ (a : Int) := by omega
         have hbw := below_step (below_step HG.out.bel HB8.out) HW.out
         obtain ⟨ad9, e9, hx9⟩ := Kd.at_int (HR0.out _ hbw) (a : Int) r0 r1
         rw [show rd lv (a : Int) = lv[a] by unfold rd; simp [List.getD_eq_getElem?_getD, List.getElem?_eq_getElem hal], Int.toNat_natCast] at hx9
         have HAS := Lib.hid (show ((lv.take (a + 1)).any fun x => x == h) = (((lv.take a).any fun x => x == h) || (lv[a] == h)) by
          rw [List.take_succ_eq_append_getElem hal, List.any_append]; simp)
         obtain ⟨y, hy⟩ : ∃ y, lv[a] = y := ⟨_, rfl⟩
         rw [hy] at hx9 HAS
         obtain ⟨vc, hvc⟩ : ∃ vc, (b0 || (lv.take a).any fun x => x == h) = vc := ⟨_, rfl⟩
         have HVC := Lib.hid hvc
         rw [hvc]
         subst e9
         clear hy hvc hbw hal
         cases vc
         ·
          by_cases hyh : y = h
          ·
           have f1 : (y == h) = true := by simp [hyh]
           have HF := Lib.hid f1
           clear hyh
           go_wp2_with fail
           go_roundg (lv.length - (a + 1))
           case measure => have := HA.out; omega
           case rel => exact ⟨a + 1, by go_num, by rw [HAS.out, ← Bool.or_assoc, HVC.out, HF.out]; rfl, ⟨by omega, Nat.le_refl _⟩, ⟨HW.out⟩⟩
          ·
           have f1 : (y == h) = false := by simp [hyh]
           have HF := Lib.hid f1
           clear hyh
           go_wp2_with fail
           go_roundg (lv.length - (a + 1))
           case measure => have := HA.out; omega
           case rel => exact ⟨a + 1, by go_num, by rw [HAS.out, ← Bool.or_assoc, HVC.out, HF.out]; rfl, ⟨by omega, Nat.le_refl _⟩, ⟨HW.out⟩⟩
         ·
          go_wp2_with fail
          go_roundg (lv.length - (a + 1))
          case measure => have := HA.out; omega
          case rel => exact ⟨a + 1, by go_num, by rw [HAS.out, ← Bool.or_assoc, HVC.out]; rfl, ⟨by omega, Nat.le_refl _⟩, ⟨HW.out⟩⟩
        ·
         obtain rfl : a = lv.length := by have := HA.out; omega
         have r1 : ¬ ((lv.length : Nat) : Int) < (lv.length : Int) := by omega
         rw [List.take_of_length_le (Nat.le_refl _), HALLB.out]
         go_wp2_with fail
         go_roundg (P.2.length - (j + 1))
         case measure => have := HJ.out; have := HJL.out; omega
         case rel => exact ⟨j + 1, by go_num, ⟨HJL.out, Nat.le_refl _⟩, ⟨HW.out⟩⟩
     ·
      obtain rfl : j = P.2.length := by have := HJ.out; omega
      have p1 : ¬ ((P.2.length : Nat) : Int) < (P.2.length : Int) := by omega
      have a0 := (blk_cell (blk_below HX8.out HW.out) 0).trans (show _ = some (Value.int .i64 vb.1.f0) from rfl)
      have b0 := (blk_cell (HG.out.below (below_step HB8.out HW.out)).b8 0).trans (show _ = some (Value.int .i64 vb.1.f0) from rfl)
      have a1 := (blk_cell (blk_below HX8.out HW.out) 1).trans (show _ = some (Value.bool vb.1.f1) from rfl)
      have b1 := (blk_cell (HG.out.below (below_step HB8.out HW.out)).b8 1).trans (show _ = some (Value.bool vb.1.f1) from rfl)
      have a2 := (blk_cell (blk_below HX8.out HW.out) 2).trans (show _ = some (Value.int .i64 vb.1.f2) from rfl)
      have b2 := (blk_cell (HG.out.below (below_step HB8.out HW.out)).b8 2).trans (show _ = some (Value.int .i64 vb.1.f2) from rfl)
      have a3 := (blk_cell (blk_below HX8.out HW.out) 3).trans (show _ = some (Value.int .i64 vb.1.f3.f0) from rfl)
      have b3 := (blk_cell (HG.out.below (below_step HB8.out HW.out)).b8 3).trans (show _ = some (Value.int .i64 vb.1.f3.f0) from rfl)
      have a4 := (blk_cell (blk_below HX8.out HW.out) 4).trans (show _ = some (Value.int .i64 vb.1.f3.f1) from rfl)
      have b4 := (blk_cell (HG.out.below (below_step HB8.out HW.out)).b8 4).trans (show _ = some (Value.int .i64 vb.1.f3.f1) from rfl)
      have a5 := (blk_cell (blk_below HX8.out HW.out) 5).trans (show _ = some (Value.string vb.1.f3.f2) from rfl)
      have b5 := (blk_cell (HG.out.below (below_step HB8.out HW.out)).b8 5).trans (show _ = some (Value.string vb.1.f3.f2) from rfl)
      obtain ⟨v1, v2⟩ := vb
      have HBW := Lib.hid (below_step (below_step HG.out.bel HB8.out) HW.out)
      clear hjl
      go_wp2_with (go_at_call 9; (with_reducible refine (HLV.out _).mono ?_); rintro e w10 ⟨rfl, hb⟩; have HB10 := Lib.hid (below_step HBW.out hb); clear hb)
      go_ret
      exact ⟨rfl, HB10.out⟩
end Go.Proofs.Ytlffkbcaphhldaa.Q
