/- Lemmas for this claim's walk: no condition of their own. -/
import Derived.Test.YtlffkbcaphhldaaFbQx6
import Derived.Test.YtlffkbcaphhldaaFbQx9
import Derived.Test.YtlffkbcaphhldaaFbQx11
import Derived.Test.YtlffkbcaphhldaaFbQx0
import Derived.Test.YtlffkbcaphhldaaFbJ12
import Derived.Test.YtlffkbcaphhldaaFbSkA
import Derived.Test.YtlffkbcaphhldaaFbAhead
import Derived.BigQuiet
import Derived.Deep.QuietTactic
import Derived.Deep.MidRow
import Derived.WalkLawsBesides
import Derived.WalkSpells
import Derived.Lib.Hide
import Derived.Deep.DeepFit
import Derived.Outline
namespace Go.Proofs.Ytlffkbcaphhldaa.Q
open Go.RowKit Go.Proofs.YtlffkbcaphhldaaW.PrintWords Go.Proofs.YtlffkbcaphhldaaW.PrintLast Go.Proofs.YtlffkbcaphhldaaW.PrintMore
attribute [local go_sem] max2_int min2_int max_two min_two max_three min_three max_four min_four
set_option linter.unusedVariables false
set_option linter.unusedSimpArgs false
open Go.Lib Go.Proofs.Ytlffkbcaphhldaa.Sk Go.Proofs.Ytlffkbcaphhldaa.Pl Go.Proofs.Ytlffkbcaphhldaa.Ord Go.Proofs.Ytlffkbcaphhldaa.Nm
attribute [local go_sem high] eqA31
abbrev va (v : S35) : Array Value := #[.int .i64 v.f0, .bool v.f1, .int .i64 v.f2, .int .i64 v.f3.f0, .int .i64 v.f3.f1, .string v.f3.f2]
theorem ahead_first (l : Nat) (T : List Tw) (k : Ky) (u1 u2 : Value) (w : World) (hb : w.heap[l]? = some (.cells #[.pointer (some ⟨(tg T 0).b, 0, none⟩), u1, u2] 67 (0, 0))) (hM : Mem w T) (hU : Up T) :
  Calls Try.prog 30 #[.pointer (some ⟨l, 0, none⟩), .agg #[.string k.f0, .string k.f1, .int .i64 k.f2, .string k.f3]] w fun e w' => (∃ p1 p2 p3 p4 p5 p6 p7 : Value, e = .returned (.agg #[.pointer (some ⟨(tg T (Sk.below T k)).b, 0, none⟩), p1, p2, p3, p4, p5, p6, p7])) ∧ Below w.heap.size w w' := by
 refine (ahead_calls l T k u1 u2 (.int .i64 0) w hb hM hU).mono ?_
 rintro e w1 ⟨rfl, hb⟩
 refine ⟨⟨_, _, _, _, _, _, _, congrArg (fun z => Ending.returned (Value.agg #[pw (some (tg T z).b), _, _, _, _, _, _, _])) (spot_zero (T := T) (Sk.below T k) fun p hp => (hM.hi p ?_).1)⟩, hb⟩
 have := below_le T k
 have := hM.len
 omega
theorem idx8 (p0 p1 p2 p3 p4 p5 p6 p7 : Value) (w : World) : (Instr.index 70 (.agg #[p0, p1, p2, p3, p4, p5, p6, p7]) (.int .i64 0)).run Try.prog w = .ok p0 w := by kernel_rfl
attribute [local go_sem high] idx8
noncomputable def getT (T : List Tw) (k : Ky) : S35 × Bool := open Classical in if hasT T k then ((tg T (Sk.below T k + 1)).c.f1, true) else (z35, false)
set_option maxHeartbeats 2000000 in
set_option maxRecDepth 100000 in
theorem get_calls (base l : Nat) (T : List Tw) (A : Option Addr) (c : Nat) (lv : List Int) (k : Ky) (w : World) (h : SL w base l T A c lv) :
  Calls Try.prog 13 #[.pointer (some ⟨l, 0, none⟩), .agg #[.string k.f0, .string k.f1, .int .i64 k.f2, .string k.f3]] w fun e w' => e = .returned (.tuple #[.agg (va (getT T k).1), .bool (getT T k).2]) ∧ Below w.heap.size w w' := by
 have HS := Lib.hid h
 have hb2 : Below w.heap.size w ((w.alloc (.cells #[.string k.f0, .string k.f1, .int .i64 k.f2, .string k.f3] 31)).alloc (.cells #[.int .i64 0, .bool false, .int .i64 0, .int .i64 0, .int .i64 0, .string ⟨#[]⟩] 35)) := below_alloc (below_alloc (Below.refl _ _) _) _
 have HM := Lib.hid (made_yes l _ _ _ _ (h.below hb2).box)
 have HA := Lib.hid (ahead_first l T k _ _ _ (h.below hb2).box (h.below hb2).mem h.up)
 obtain ⟨m, hm⟩ : ∃ m, Sk.below T k = m := ⟨_, rfl⟩
 have HMT := Lib.hid (show m < T.length by have := below_le T k; have := h.mem.len; omega)
 rw [hm] at HA
 have HME := Lib.hid hm
 have HB0 := Lib.hid hb2
 have HB4 := Lib.hid (show ((w.alloc (.cells #[.string k.f0, .string k.f1, .int .i64 k.f2, .string k.f3] 31)).alloc (.cells #[.int .i64 0, .bool false, .int .i64 0, .int .i64 0, .int .i64 0, .string ⟨#[]⟩] 35)).heap[w.heap.size + 1]? = some (.cells #[.int .i64 0, .bool false, .int .i64 0, .int .i64 0, .int .i64 0, .string ⟨#[]⟩] 35 (0, 0)) from by
  have h := heap_new_ (w.alloc (.cells #[.string k.f0, .string k.f1, .int .i64 k.f2, .string k.f3] 31)) (.cells #[.int .i64 0, .bool false, .int .i64 0, .int .i64 0, .int .i64 0, .string ⟨#[]⟩] 35)
  simp only [World.size_alloc] at h
  exact h)
 have HB3 := Lib.hid (blk_alloc (heap_new_ w (.cells #[.string k.f0, .string k.f1, .int .i64 k.f2, .string k.f3] 31)) (.cells #[.int .i64 0, .bool false, .int .i64 0, .int .i64 0, .int .i64 0, .string ⟨#[]⟩] 35))
 clear h hm hb2
 go_enter Try.func13, Try.ntmps13
 go_upto_region 4 with (first | (go_at_call 28; (with_reducible refine HM.out.mono ?_); rintro e w1 ⟨rfl, rfl⟩) | (go_at_call 30; (with_reducible refine HA.out.mono ?_); rintro e w2 ⟨⟨p1, p2, p3, p4, p5, p6, p7, rfl⟩, hb⟩; have HB2 := Lib.hid (below_step HB0.out hb); have HK3 := Lib.hid (blk_below HB3.out hb); have HK4 := Lib.hid (blk_below HB4.out hb); have cn := (blk_cell ((HS.out.below HB2.out).mem.blk m HMT.out) 11).trans (show _ = some (pw (lk' T m (tg T m).h 0)) from rfl); rw [HS.out.mem.next0 HMT.out] at cn; have HCN := Lib.hid cn; clear hb))
 clear cn
 obtain ⟨w5, hw5⟩ : ∃ w5, w2 = w5 := ⟨_, rfl⟩
 rw [hw5] at HB2 HK3 HK4 HCN ⊢
 clear hw5
 have HT := Lib.hid (HS.out.below HB2.out)
 go_cut [6, 29] (fun v6 v29 wd => v6 = pw (if m + 1 < T.length then some (tg T (m + 1)).b else none) ∧ v29 = .bool (!decide (m + 1 < T.length ∧ cmpK (tg T (m + 1)).c.f0 k = 0)) ∧ Aside0 (Below w5.heap.size w5 wd))
 case first =>
  by_cases hm1 : m + 1 < T.length
  ·
   rw [if_pos hm1]
   have hb1 := HT.out.mem.blk (m + 1) hm1
   have k0 := fun (P : Srt.BW w5) => (blk_cell (blk_below hb1 P.h) 0).trans (show _ = some (Value.string (tg T (m + 1)).c.f0.f0) from rfl)
   have k1 := fun (P : Srt.BW w5) => (blk_cell (blk_below hb1 P.h) 1).trans (show _ = some (Value.string (tg T (m + 1)).c.f0.f1) from rfl)
   have k2 := fun (P : Srt.BW w5) => (blk_cell (blk_below hb1 P.h) 2).trans (show _ = some (Value.int .i64 (tg T (m + 1)).c.f0.f2) from rfl)
   have k3 := fun (P : Srt.BW w5) => (blk_cell (blk_below hb1 P.h) 3).trans (show _ = some (Value.string (tg T (m + 1)).c.f0.f3) from rfl)
   have y0 := fun (P : Srt.BW w5) => (blk_cell (blk_below HK3.out P.h) 0).trans (show _ = some (Value.string k.f0) from rfl)
   have y1 := fun (P : Srt.BW w5) => (blk_cell (blk_below HK3.out P.h) 1).trans (show _ = some (Value.string k.f1) from rfl)
   have y2 := fun (P : Srt.BW w5) => (blk_cell (blk_below HK3.out P.h) 2).trans (show _ = some (Value.int .i64 k.f2) from rfl)
   have y3 := fun (P : Srt.BW w5) => (blk_cell (blk_below HK3.out P.h) 3).trans (show _ = some (Value.string k.f3) from rfl)
   have HD := Lib.hid (show ((tg T (m + 1)).c.f0.f0.toList == k.f0.toList && ((tg T (m + 1)).c.f0.f1.toList == k.f1.toList && ((tg T (m + 1)).c.f0.f2 == k.f2 && (tg T (m + 1)).c.f0.f3.toList == k.f3.toList))) = decide (m + 1 < T.length ∧ cmpK (tg T (m + 1)).c.f0 k = 0) by
    rw [keyB_cmp]; simp only [hm1, true_and]; rfl)
   clear hb1
   have mixed : Try.prog.follows .mixedOrders = true := by kernel_rfl
   simp only [pw, Option.map_some]
   obtain ⟨q, hq⟩ : ∃ q, (tg T (m + 1)).b = q := ⟨_, rfl⟩
   rw [hq] at k0 k1 k2 k3 ⊢
   have HQ := Lib.hid (And.intro hm1 hq)
   clear hq hm1
   refine Srt.wp_region_quiet_bw (by assumption) (by kernel_rfl) ?_
   repeat (quiet_step (fail))
   refine wpQuiet_nil ?_
   rintro w3 ⟨P, rfl⟩
   go_wp2_with fail
   go_meet
   case rel => exact ⟨by rw [if_pos HQ.out.1, HQ.out.2]; rfl, by rw [← HD.out]; simp only [Bool.not_and], ⟨P.h⟩⟩
  ·
   rw [if_neg hm1]
   have HD := Lib.hid (show false = decide (m + 1 < T.length ∧ cmpK (tg T (m + 1)).c.f0 k = 0) from (decide_eq_false fun h => hm1 h.1).symm)
   have HQ := Lib.hid (show pw none = pw (if m + 1 < T.length then some (tg T (m + 1)).b else none) by rw [if_neg hm1])
   clear hm1
   have mixed : Try.prog.follows .mixedOrders = true := by kernel_rfl
   simp only [pw, Option.map_none]
   refine Srt.wp_region_quiet_bw (by assumption) (by kernel_rfl) ?_
   quiet_step (fail)
   quiet_step (fail)
   quiet_step (fail)
   repeat go_big_quiet_skip
   quiet_step (fail)
   refine wpQuiet_nil ?_
   rintro w3 ⟨P, rfl⟩
   go_wp2_with fail
   go_meet
   case rel => exact ⟨HQ.out, by rw [← HD.out]; rfl, ⟨P.h⟩⟩
 case rest =>
  obtain ⟨rfl, rfl, HBd⟩ := hcut
  have HTd := Lib.hid (HT.out.below HBd.out)
  have HBe := Lib.hid (below_step HB2.out HBd.out)
  have hk4 := blk_below HK4.out HBd.out
  have f4 := fun j => blk_frozen hk4 j
  have c40 := (blk_cell hk4 0).trans (show _ = some (Value.int .i64 0) from rfl)
  have c41 := (blk_cell hk4 1).trans (show _ = some (Value.bool false) from rfl)
  have c42 := (blk_cell hk4 2).trans (show _ = some (Value.int .i64 0) from rfl)
  have c43 := (blk_cell hk4 3).trans (show _ = some (Value.int .i64 0) from rfl)
  have c44 := (blk_cell hk4 4).trans (show _ = some (Value.int .i64 0) from rfl)
  have c45 := (blk_cell hk4 5).trans (show _ = some (Value.string ⟨#[]⟩) from rfl)
  clear hk4
  by_cases hh : m + 1 < T.length ∧ cmpK (tg T (m + 1)).c.f0 k = 0
  ·
   rw [decide_eq_true hh, if_pos hh.1]
   simp only [Bool.not_true]
   have HG := Lib.hid (show getT T k = ((tg T (m + 1)).c.f1, true) by unfold getT; rw [HME.out, if_pos (show hasT T k by unfold hasT; rw [HME.out]; exact hh)])
   have hb1 := HTd.out.mem.blk (m + 1) hh.1
   clear hh
   simp only [pw, Option.map_some]
   obtain ⟨y, hy⟩ : ∃ y, (tg T (m + 1)).c = y := ⟨_, rfl⟩
   rw [hy] at hb1 HG
   have k0 := (blk_cell hb1 4).trans (show _ = some (Value.int .i64 y.f1.f0) from rfl)
   have k1 := (blk_cell hb1 5).trans (show _ = some (Value.bool y.f1.f1) from rfl)
   have k2 := (blk_cell hb1 6).trans (show _ = some (Value.int .i64 y.f1.f2) from rfl)
   have k3 := (blk_cell hb1 7).trans (show _ = some (Value.int .i64 y.f1.f3.f0) from rfl)
   have k4 := (blk_cell hb1 8).trans (show _ = some (Value.int .i64 y.f1.f3.f1) from rfl)
   have k5 := (blk_cell hb1 9).trans (show _ = some (Value.string y.f1.f3.f2) from rfl)
   clear hb1 hy
   go_wp2_with fail
   clear k0 k1 k2 k3 k4 k5
   rw [HG.out]
   have hlt : w.heap.size ≤ w.heap.size + 1 := by omega
   exact bodyPost_ret (v := .tuple #[.agg (va y.f1), .bool true]) (by simp [results, Try.results13, go_sem, f4, c40, c41, c42, c43, c44, c45]) rfl ⟨rfl, below_set (below_set (below_set (below_set (below_set (below_set HBe.out hlt) hlt) hlt) hlt) hlt) hlt⟩
  ·
   rw [decide_eq_false hh]
   simp only [Bool.not_false]
   obtain ⟨q6, hq6⟩ : ∃ q6, pw (if m + 1 < T.length then some (tg T (m + 1)).b else none) = q6 := ⟨_, rfl⟩
   rw [hq6]
   clear hq6
   have HG := Lib.hid (show getT T k = (z35, false) by unfold getT; rw [if_neg (show ¬ hasT T k by unfold hasT; rw [HME.out]; exact hh)])
   clear hh
   go_wp2_with fail
   rw [HG.out]
   have hlt : w.heap.size ≤ w.heap.size + 1 := by omega
   exact bodyPost_ret (v := .tuple #[.agg (va z35), .bool false]) (by simp [results, Try.results13, go_sem, f4, c40, c41, c42, c43, c44, c45]; exact ⟨rfl, rfl, rfl, rfl, rfl, rfl⟩) rfl ⟨rfl, below_set (below_set (below_set (below_set (below_set (below_set HBe.out hlt) hlt) hlt) hlt) hlt) hlt⟩
end Go.Proofs.Ytlffkbcaphhldaa.Q
