/- Lemmas for this claim's walk: no condition of their own. -/
import Derived.Test.YtlffkbcaphhldaaFdQx6
import Derived.Test.YtlffkbcaphhldaaFdQx9
import Derived.Test.YtlffkbcaphhldaaFdQx11
import Derived.Test.YtlffkbcaphhldaaFdQx0
import Derived.Test.YtlffkbcaphhldaaFdJ10
import Derived.Test.YtlffkbcaphhldaaFdSkA
import Derived.Test.YtlffkbcaphhldaaFdAhead
import Derived.Test.YtlffkbcaphhldaaFdJ33
import Derived.BigQuiet
import Derived.BigRegion
import Derived.RegionTactic
import Derived.Deep.QuietTactic
import Derived.Deep.MidRow
import Derived.WalkLawsBesides
import Derived.WalkSpells
import Derived.Lib.Hide
import Derived.Deep.DeepFit
import Derived.Outline
namespace Go.Proofs.Ytlffkbcaphhldaa.Q
open Go.RowKit Go.Proofs.YtlffkbcaphhldaaW.PrintWords Go.Proofs.YtlffkbcaphhldaaW.PrintLast Go.Proofs.YtlffkbcaphhldaaW.PrintMore
attribute [local go_sem] max2_int min2_int max_two min_two max_three min_three max_four min_four
set_option linter.unusedVariables false
set_option linter.unusedSimpArgs false
open Go.Lib Go.Proofs.Ytlffkbcaphhldaa.Sk Go.Proofs.Ytlffkbcaphhldaa.Pl Go.Proofs.Ytlffkbcaphhldaa.Ord Go.Proofs.Ytlffkbcaphhldaa.Nm
attribute [local go_sem high] eqA31
abbrev ca (x : Cl) : Array Value := #[.string x.f0.f0, .string x.f0.f1, .int .i64 x.f0.f2, .string x.f0.f3, .int .i64 x.f1.f0, .bool x.f1.f1, .int .i64 x.f1.f2, .int .i64 x.f1.f3.f0, .int .i64 x.f1.f3.f1, .string x.f1.f3.f2]
set_option maxHeartbeats 1000000 in
set_option maxRecDepth 100000 in
theorem put_bad (base l : Nat) (T : List Tw) (A : Option Addr) (c : Nat) (lv : List Int) (x : Cl) (w : World) (h : SL w base l T A c lv) (hg : goodB x = false) :
  Calls Try.prog 11 #[.pointer (some ⟨l, 0, none⟩), .agg (ca x)] w fun e w' => e = .returned (.int .i64 2) ∧ Below w.heap.size w w' := by
 have HM := Lib.hid (made_yes l _ _ _ _ (blk_alloc h.box (.cells (ca x) 37)))
 have HG := Lib.hid (fun W => cell_Good.calls _ _ _ _ _ _ _ _ _ _ _ W (good_f x))
 rw [hg] at HG
 clear h hg
 go_enter Try.func11, Try.ntmps11
 go_wp2_with (first | (go_at_call 28; (with_reducible refine HM.out.mono ?_); rintro e w1 ⟨rfl, rfl⟩) | (go_at_call 29; (with_reducible refine (HG.out _).mono ?_); rintro e w1 ⟨rfl, hb⟩; have HB := Lib.hid hb; clear hb))
 go_ret
 exact ⟨rfl, below_step (below_alloc (Below.refl _ _) _) HB.out⟩
structure PSt (w : World) (x : Cl) (T : List Tw) (m g5 : Nat) (W : World) : Prop where
 b3 : W.heap[w.heap.size]? = some (.cells (ca x) 37 (0, 0))
 b5 : W.heap[g5]? = some (.cells (pa T m) 70 (0, 0))
 lt : w.heap.size < g5
 bel : Below w.heap.size w W
theorem PSt.below {w : World} {x : Cl} {T : List Tw} {m g5 : Nat} {W W' : World} (h : PSt w x T m g5 W) (hb : Below W.heap.size W W') : PSt w x T m g5 W' := ⟨blk_below h.b3 hb, blk_below h.b5 hb, h.lt, below_step h.bel hb⟩
theorem there8 (W : World) (T : List Tw) (m : Nat) : (W.alloc (.cells #[.pointer none, .pointer none, .pointer none, .pointer none, .pointer none, .pointer none, .pointer none, .pointer none] 70)).there W.heap.size 0 (pa T m).size := fun j hj => by
 have hj : j < 8 := hj
 have hb := heap_new_ W (.cells #[.pointer none, .pointer none, .pointer none, .pointer none, .pointer none, .pointer none, .pointer none, .pointer none] 70)
 rw [Nat.zero_add]
 refine ⟨?_, blk_frozen hb j⟩
 rw [blk_cell hb j]
 obtain rfl | rfl | rfl | rfl | rfl | rfl | rfl | rfl : j = 0 ∨ j = 1 ∨ j = 2 ∨ j = 3 ∨ j = 4 ∨ j = 5 ∨ j = 6 ∨ j = 7 := by omega
 all_goals rfl
theorem put8 (W : World) (T : List Tw) (m : Nat) : ((W.alloc (.cells #[.pointer none, .pointer none, .pointer none, .pointer none, .pointer none, .pointer none, .pointer none, .pointer none] 70)).setCells W.heap.size 0 (pa T m).toList).heap[W.heap.size]? = some (.cells (pa T m) 70 (0, 0)) := by
 exact blk_setCells (pa T m).toList [] (List.replicate 8 (.pointer none)) _ (heap_new_ W _) rfl
theorem below8 (W : World) (T : List Tw) (m : Nat) : Below W.heap.size W ((W.alloc (.cells #[.pointer none, .pointer none, .pointer none, .pointer none, .pointer none, .pointer none, .pointer none, .pointer none] 70)).setCells W.heap.size 0 (pa T m).toList) := below_setCells (below_alloc (Below.refl _ _) _) (Nat.le_refl _)
structure Lk (w : World) (base l g5 : Nat) (T : List Tw) (A : Option Addr) (c : Nat) (lv : List Int) (m : Nat) (x : Cl) (b h i : Nat) (W : World) : Prop where
 part : Part W T m x b h i
 b5 : W.heap[g5]? = some (.cells (pa T m) 70 (0, 0))
 box : W.heap[l]? = some (.cells #[.pointer (some ⟨(tg T 0).b, 0, none⟩), .slice A lv.length c, .int .i64 ((T.length - 1 : Nat) : Int)] 67 (0, 0))
 lvr : Kd.R (Kd.int .i64) 3 W base (fun _ => True) (.slice A lv.length c) lv
 ch : Ch (Sk.Own l T A) w W
theorem Lk.step {w : World} {base l g5 : Nat} {T : List Tw} {A : Option Addr} {c : Nat} {lv : List Int} {m : Nat} {x : Cl} {b h i : Nat} {W : World} (H : Lk w base l g5 T A c lv m x b h i W) (hm : m < T.length) (hi : i < 8) (hne : ∀ p, p < T.length → (tg T p).b ≠ b) (nd : ∀ p q, p < T.length → q < T.length → (tg T p).b = (tg T q).b → p = q) (hwb : w.heap.size ≤ b) :
  Lk w base l g5 T A c lv m x b h (i + 1) ((W.setCell ⟨b, 11 + i, none⟩ (pw (fst i (T.drop (m + 1))))).drew.setCell ⟨(tg T (spot T i m)).b, 11 + i, none⟩ (pw (some b))) := by
 have hs : spot T i m < T.length := by have := spot_le T i m; omega
 have P := H.part.step hm hi hne nd
 have hb1 := blk_set H.part.nw (11 + i) (pw (fst i (T.drop (m + 1))))
 have hb2 := blk_far (H.part.lo _ hs) (p := ⟨b, 11 + i, none⟩) (hne _ hs) (pw (fst i (T.drop (m + 1))))
 refine ⟨⟨fun p hp => P.lo p hp, P.nw⟩, ?_, ?_, ?_, ?_⟩
 ·
  exact blk_far (blk_drew (blk_far H.b5 (p := ⟨b, 11 + i, none⟩) (blk_ne H.b5 H.part.nw (by decide)) _)) (p := ⟨(tg T (spot T i m)).b, 11 + i, none⟩) (blk_ne H.b5 (H.part.lo _ hs) (by decide)) _
 ·
  exact blk_far (blk_drew (blk_far H.box (p := ⟨b, 11 + i, none⟩) (blk_ne H.box H.part.nw (by decide)) _)) (p := ⟨(tg T (spot T i m)).b, 11 + i, none⟩) (blk_ne H.box (H.part.lo _ hs) (by decide)) _
 ·
  exact lv_set (Kd.R_drew (lv_set H.lvr H.part.nw (by decide) _ _)) (blk_drew hb2) (by decide) _ _
 ·
  refine Ch.set (W := (W.setCell ⟨b, 11 + i, none⟩ (pw (fst i (T.drop (m + 1))))).drew) ?_ (.inl (.inr (.inl ⟨_, hs, rfl⟩))) _
  exact (H.ch.set (.inr hwb) _).below (below_drew (Below.refl _ _))
set_option maxHeartbeats 2000000 in
set_option maxRecDepth 100000 in
theorem put_good (base l : Nat) (T : List Tw) (A : Option Addr) (c : Nat) (lv : List Int) (x : Cl) (w : World) (h : SL w base l T A c lv) (hg : goodB x = true) (hT : T.length ≤ 1000) (hlv : lv.length ≤ 1000000) :
  Calls Try.prog 11 #[.pointer (some ⟨l, 0, none⟩), .agg (ca x)] w fun e w' => e = .returned (.int .i64 0) ∧ ∃ b, SL w' base l (putT T lv x b) A c lv ∧ Ch (Sk.Own l T A) w w' ∧ (∀ k, Sk.Own l (putT T lv x b) A k → Sk.Own l T A k ∨ w.heap.size ≤ k) := by
 have HS := Lib.hid h
 have HM := Lib.hid (made_yes l _ _ _ _ (blk_alloc h.box (.cells (ca x) 37)))
 have HG := Lib.hid (fun W => cell_Good.calls _ _ _ _ _ _ _ _ _ _ _ W (good_f x))
 rw [hg] at HG
 have HA := Lib.hid (fun (W : World) (hW : Below w.heap.size w W) => ahead_calls l T x.f0 _ _ (.int .i64 0) W (h.below hW).box (h.below hW).mem h.up)
 obtain ⟨m, hm⟩ : ∃ m, Sk.below T x.f0 = m := ⟨_, rfl⟩
 have HMT := Lib.hid (show m < T.length by have := below_le T x.f0; have := h.mem.len; omega)
 rw [hm] at HA
 have HME := Lib.hid hm
 have k0 := (blk_cell (heap_new_ w (.cells (ca x) 37)) 0).trans (show _ = some (Value.string x.f0.f0) from rfl)
 clear h hg hm k0
 go_enter Try.func11, Try.ntmps11
 go_upto_region 5 with (first | (go_at_call 28; (with_reducible refine HM.out.mono ?_); rintro e w1 ⟨rfl, rfl⟩) | (go_at_call 29; (with_reducible refine (HG.out _).mono ?_); rintro e w1 ⟨rfl, hb⟩; have HB := Lib.hid (below_step (below_alloc (Below.refl w.heap.size w) (.cells (ca x) 37)) hb); have HK := Lib.hid (blk_below (heap_new_ w (.cells (ca x) 37)) hb); clear hb))
 go_cut [5] (fun v5 wc => ∃ g5 : Nat, v5 = .pointer (some ⟨g5, 0, none⟩) ∧ Aside0 (PSt w x T m g5 wc))
 case first =>
  have k0 := (blk_cell HK.out 0).trans (show _ = some (Value.string x.f0.f0) from rfl)
  have k1 := (blk_cell HK.out 1).trans (show _ = some (Value.string x.f0.f1) from rfl)
  have k2 := (blk_cell HK.out 2).trans (show _ = some (Value.int .i64 x.f0.f2) from rfl)
  have k3 := (blk_cell HK.out 3).trans (show _ = some (Value.string x.f0.f3) from rfl)
  have hi70 : (Try.prog.info? 70).map (·.size) = some (pa T m).size := by kernel_rfl
  go_wp2_with (first | (go_at_call 30; (with_reducible refine (HA.out _ HB.out).mono ?_); rintro e w2 ⟨rfl, hb⟩; have HB2 := Lib.hid (below_step HB.out hb); have HK2 := Lib.hid (blk_below HK.out hb); clear hb) | (refine wpList_store_mid (by rfl) 70 _ _ (by rfl) w2.heap.size 0 (pa T m) (by rfl) (by rfl) (there8 w2 T m) hi70 (pa_one T m) ?_))
  go_meet
  case rel => exact ⟨_, rfl, ⟨blk_below HK2.out (below8 _ _ _), put8 _ _ _, by have := blk_lt HK2.out; omega, below_step HB2.out (below8 _ _ _)⟩⟩
 case rest =>
  clear HM HG HA HB HK
  obtain ⟨g5, rfl, HP⟩ := hcut
  obtain ⟨w5, hw5⟩ : ∃ w5, wc = w5 := ⟨_, rfl⟩
  rw [hw5] at HP ⊢
  clear hw5
  have HT := Lib.hid (HS.out.below HP.out.bel)
  have c0 := (blk_cell HP.out.b5 0).trans (show _ = some (pw (some (tg T (spot T 0 m)).b)) from rfl)
  rw [spot_zero m fun p hp => (HT.out.mem.hi p (by have := HMT.out; omega)).1] at c0
  simp only [pw, Option.map_some] at c0
  have cn := (blk_cell (HT.out.mem.blk m HMT.out) 11).trans (show _ = some (pw (lk' T m (tg T m).h 0)) from rfl)
  rw [HT.out.mem.next0 HMT.out] at cn
  go_upto_region 7 with fail
  go_cut [6, 38] (fun v6 v38 wd => v6 = pw (if m + 1 < T.length then some (tg T (m + 1)).b else none) ∧ v38 = .bool (decide (m + 1 < T.length ∧ cmpK (tg T (m + 1)).c.f0 x.f0 = 0)) ∧ Aside0 (Below w5.heap.size w5 wd))
  case first =>
   by_cases hm1 : m + 1 < T.length
   ·
    rw [if_pos hm1]
    have hb1 := HT.out.mem.blk (m + 1) hm1
    have k0 := fun (P : Srt.BW w5) => (blk_cell (blk_below hb1 P.h) 0).trans (show _ = some (Value.string (tg T (m + 1)).c.f0.f0) from rfl)
    have k1 := fun (P : Srt.BW w5) => (blk_cell (blk_below hb1 P.h) 1).trans (show _ = some (Value.string (tg T (m + 1)).c.f0.f1) from rfl)
    have k2 := fun (P : Srt.BW w5) => (blk_cell (blk_below hb1 P.h) 2).trans (show _ = some (Value.int .i64 (tg T (m + 1)).c.f0.f2) from rfl)
    have k3 := fun (P : Srt.BW w5) => (blk_cell (blk_below hb1 P.h) 3).trans (show _ = some (Value.string (tg T (m + 1)).c.f0.f3) from rfl)
    have y0 := fun (P : Srt.BW w5) => (blk_cell (blk_below HP.out.b3 P.h) 0).trans (show _ = some (Value.string x.f0.f0) from rfl)
    have y1 := fun (P : Srt.BW w5) => (blk_cell (blk_below HP.out.b3 P.h) 1).trans (show _ = some (Value.string x.f0.f1) from rfl)
    have y2 := fun (P : Srt.BW w5) => (blk_cell (blk_below HP.out.b3 P.h) 2).trans (show _ = some (Value.int .i64 x.f0.f2) from rfl)
    have y3 := fun (P : Srt.BW w5) => (blk_cell (blk_below HP.out.b3 P.h) 3).trans (show _ = some (Value.string x.f0.f3) from rfl)
    have HD := Lib.hid (show ((tg T (m + 1)).c.f0.f0.toList == x.f0.f0.toList && ((tg T (m + 1)).c.f0.f1.toList == x.f0.f1.toList && ((tg T (m + 1)).c.f0.f2 == x.f0.f2 && (tg T (m + 1)).c.f0.f3.toList == x.f0.f3.toList))) = decide (m + 1 < T.length ∧ cmpK (tg T (m + 1)).c.f0 x.f0 = 0) by
     rw [keyB_cmp]; simp only [hm1, true_and]; rfl)
    clear hb1
    have mixed : Try.prog.follows .mixedOrders = true := by kernel_rfl
    simp only [pw, Option.map_some]
    obtain ⟨q, hq⟩ : ∃ q, (tg T (m + 1)).b = q := ⟨_, rfl⟩
    rw [hq] at k0 k1 k2 k3 ⊢
    have HQ := Lib.hid (And.intro hm1 hq)
    clear hq hm1
    refine Srt.wp_region_quiet_bw (by assumption) (by kernel_rfl) ?_
    repeat (quiet_step (fail))
    refine wpQuiet_nil ?_
    rintro w3 ⟨P, rfl⟩
    go_wp2_with fail
    go_meet
    case rel => exact ⟨by rw [if_pos HQ.out.1, HQ.out.2]; rfl, by rw [← HD.out], ⟨P.h⟩⟩
   ·
    rw [if_neg hm1]
    have HD := Lib.hid (show false = decide (m + 1 < T.length ∧ cmpK (tg T (m + 1)).c.f0 x.f0 = 0) from (decide_eq_false fun h => hm1 h.1).symm)
    have HQ := Lib.hid (show pw none = pw (if m + 1 < T.length then some (tg T (m + 1)).b else none) by rw [if_neg hm1])
    clear hm1
    have mixed : Try.prog.follows .mixedOrders = true := by kernel_rfl
    simp only [pw, Option.map_none]
    refine Srt.wp_region_quiet_bw (by assumption) (by kernel_rfl) ?_
    quiet_step (fail)
    quiet_step (fail)
    quiet_step (fail)
    repeat go_big_quiet_skip
    quiet_step (fail)
    refine wpQuiet_nil ?_
    rintro w3 ⟨P, rfl⟩
    go_wp2_with fail
    go_meet
    case rel => exact ⟨HQ.out, by rw [← HD.out], ⟨P.h⟩⟩
  case rest =>
   clear c0 cn
   obtain ⟨rfl, rfl, HBd⟩ := hcut
   have HPd := Lib.hid (HP.out.below HBd.out)
   have HTd := Lib.hid (HS.out.below HPd.out.bel)
   clear HP HT HBd
   obtain ⟨w6, hw6⟩ : ∃ w6, wc = w6 := ⟨_, rfl⟩
   rw [hw6] at HPd HTd ⊢
   clear hw6
   by_cases hh : m + 1 < T.length ∧ cmpK (tg T (m + 1)).c.f0 x.f0 = 0
   ·
    rw [decide_eq_true hh, if_pos hh.1]
    simp only [pw, Option.map_some]
    have hb1 := HTd.out.mem.blk (m + 1) hh.1
    have HH := Lib.hid hh
    clear hh
    obtain ⟨q, hq⟩ : ∃ q, (tg T (m + 1)).b = q := ⟨_, rfl⟩
    obtain ⟨y, hy⟩ : ∃ y, (tg T (m + 1)).c = y := ⟨_, rfl⟩
    rw [hq, hy] at hb1
    rw [hq]
    have HQ := Lib.hid (And.intro hq hy)
    have HB1 := Lib.hid hb1
    have k0 := (blk_cell hb1 4).trans (show _ = some (Value.int .i64 y.f1.f0) from rfl)
    have k1 := (blk_cell hb1 5).trans (show _ = some (Value.bool y.f1.f1) from rfl)
    have k2 := (blk_cell hb1 6).trans (show _ = some (Value.int .i64 y.f1.f2) from rfl)
    have k3 := (blk_cell hb1 7).trans (show _ = some (Value.int .i64 y.f1.f3.f0) from rfl)
    have k4 := (blk_cell hb1 8).trans (show _ = some (Value.int .i64 y.f1.f3.f1) from rfl)
    have k5 := (blk_cell hb1 9).trans (show _ = some (Value.string y.f1.f3.f2) from rfl)
    have x0 := (blk_cell HPd.out.b3 4).trans (show _ = some (Value.int .i64 x.f1.f0) from rfl)
    have x1 := (blk_cell HPd.out.b3 5).trans (show _ = some (Value.bool x.f1.f1) from rfl)
    have x2 := (blk_cell HPd.out.b3 6).trans (show _ = some (Value.int .i64 x.f1.f2) from rfl)
    have x3 := (blk_cell HPd.out.b3 7).trans (show _ = some (Value.int .i64 x.f1.f3.f0) from rfl)
    have x4 := (blk_cell HPd.out.b3 8).trans (show _ = some (Value.int .i64 x.f1.f3.f1) from rfl)
    have x5 := (blk_cell HPd.out.b3 9).trans (show _ = some (Value.string x.f1.f3.f2) from rfl)
    have HJ := Lib.hid (fun W => cell_Join.calls 5 y.f1.f0 y.f1.f1 y.f1.f2 y.f1.f3.f0 y.f1.f3.f1 y.f1.f3.f2 x.f1.f0 x.f1.f1 x.f1.f2 x.f1.f3.f0 x.f1.f3.f1 x.f1.f3.f2 _ _ _ _ _ _ W (join_f 5 (Nat.le_refl _) _ _ _ _ _ _ _ _ _ _ _ _))
    obtain ⟨z, hz⟩ : ∃ z, joinV ⟨y.f1.f0, y.f1.f1, y.f1.f2, ⟨y.f1.f3.f0, y.f1.f3.f1, y.f1.f3.f2⟩⟩ ⟨x.f1.f0, x.f1.f1, x.f1.f2, ⟨x.f1.f3.f0, x.f1.f3.f1, x.f1.f3.f2⟩⟩ = z := ⟨_, rfl⟩
    rw [hz] at HJ
    have HZ := Lib.hid hz
    clear hq hy hb1 hz
    go_upto_region 8 with fail
    go_region_with ((go_at_call 31; (with_reducible refine (HJ.out _).mono ?_); rintro e w9 ⟨rfl, hb⟩; have hb := below_step (below_drew (Below.refl w6.heap.size w6)) hb; have HB9 := Lib.hid hb; have fz := fun j => blk_frozen (blk_below HB1.out hb) j; have l0 := (blk_cell (blk_below HB1.out hb) 4).trans (show _ = some (Value.int .i64 y.f1.f0) from rfl); have l1 := (blk_cell (blk_below HB1.out hb) 5).trans (show _ = some (Value.bool y.f1.f1) from rfl); have l2 := (blk_cell (blk_below HB1.out hb) 6).trans (show _ = some (Value.int .i64 y.f1.f2) from rfl); have l3 := (blk_cell (blk_below HB1.out hb) 7).trans (show _ = some (Value.int .i64 y.f1.f3.f0) from rfl); have l4 := (blk_cell (blk_below HB1.out hb) 8).trans (show _ = some (Value.int .i64 y.f1.f3.f1) from rfl); have l5 := (blk_cell (blk_below HB1.out hb) 9).trans (show _ = some (Value.string y.f1.f3.f2) from rfl); clear hb))
    all_goals
     clear k0 k1 k2 k3 k4 k5 x0 x1 x2 x3 x4 x5 fz l0 l1 l2 l3 l4 l5
     obtain ⟨W9, hW9⟩ : ∃ W9, setV w9 q z = W9 := ⟨_, rfl⟩
     rw [show ((((((w9.setCell { block := q, off := 4 } (Value.int IntKind.i64 z.f0)).setCell { block := q, off := 5 } (Value.bool z.f1)).setCell { block := q, off := 6 } (Value.int IntKind.i64 z.f2)).setCell { block := q, off := 7 } (Value.int IntKind.i64 z.f3.f0)).setCell { block := q, off := 8 } (Value.int IntKind.i64 z.f3.f1)).setCell { block := q, off := 9 } (Value.string z.f3.f2)) = W9 from hW9]
     have HW9 := Lib.hid hW9
     clear hW9
     go_wp2_with fail
     go_ret
     have hm1 := HH.out.1
     have hb9 := below_step HPd.out.bel HB9.out
     have hs := (HS.out.below hb9).set_ver (Nat.succ_pos m) hm1 z
     have hx : putT T lv x 0 = setT T (m + 1) ⟨(tg T (m + 1)).c.f0, z⟩ := by
      unfold putT
      rw [HME.out, if_pos (show hasT T x.f0 by unfold hasT; rw [HME.out]; exact HH.out), ← HZ.out, ← HQ.out.2]
      rfl
     rw [HQ.out.1, HW9.out] at hs
     refine ⟨rfl, 0, by rw [hx]; exact hs, ?_, fun k hk => ?_⟩
     ·
      have h1 : Ch (fun k => k = q) w9 W9 := HW9.out ▸ setV_ch q z
      exact (Ch.of_below (Sk.Own l T A) hb9).then_ h1 fun i hi => .inl (.inr (.inl ⟨m + 1, hm1, HQ.out.1.trans hi.symm⟩))
     ·
      rw [hx] at hk
      exact .inl (own_set hm1 hk)
   ·
    rw [decide_eq_false hh]
    have HH := Lib.hid hh
    clear hh
    have hpw : ∃ q6, pw (if m + 1 < T.length then some (tg T (m + 1)).b else none) = q6 := ⟨_, rfl⟩
    obtain ⟨q6, hq6⟩ := hpw
    rw [hq6]
    clear hq6
    obtain ⟨h, hh⟩ : ∃ h : Nat, htv lv (T.length - 1) = (h : Int) := ⟨(htv lv (T.length - 1)).toNat, by have := htv_bd lv (T.length - 1); omega⟩
    have HBD := Lib.hid (show 1 ≤ h ∧ h ≤ 8 by have := htv_bd lv (T.length - 1); omega)
    have hrd := Kd.R_reads' HTd.out.lvr
    have HHT := Lib.hid (fun (W : World) (hW : Below w6.heap.size w6 W) => height_calls l (T.length - 1) c _ A lv W (HTd.out.below hW).box (Kd.C_below hrd.2.2 hW) (by omega) hlv)
    rw [hh] at HHT
    have HHE := Lib.hid hh
    have x0 := (blk_cell HPd.out.b3 0).trans (show _ = some (Value.string x.f0.f0) from rfl)
    have x1 := (blk_cell HPd.out.b3 1).trans (show _ = some (Value.string x.f0.f1) from rfl)
    have x2 := (blk_cell HPd.out.b3 2).trans (show _ = some (Value.int .i64 x.f0.f2) from rfl)
    have x3 := (blk_cell HPd.out.b3 3).trans (show _ = some (Value.string x.f0.f3) from rfl)
    have x4 := (blk_cell HPd.out.b3 4).trans (show _ = some (Value.int .i64 x.f1.f0) from rfl)
    have x5 := (blk_cell HPd.out.b3 5).trans (show _ = some (Value.bool x.f1.f1) from rfl)
    have x6 := (blk_cell HPd.out.b3 6).trans (show _ = some (Value.int .i64 x.f1.f2) from rfl)
    have x7 := (blk_cell HPd.out.b3 7).trans (show _ = some (Value.int .i64 x.f1.f3.f0) from rfl)
    have x8 := (blk_cell HPd.out.b3 8).trans (show _ = some (Value.int .i64 x.f1.f3.f1) from rfl)
    have x9 := (blk_cell HPd.out.b3 9).trans (show _ = some (Value.string x.f1.f3.f2) from rfl)
    clear hrd hh
    go_upto_region 10 with fail
    go_cut [7] (fun v7 wd => ∃ b : Nat, v7 = .pointer (some ⟨b, 0, none⟩) ∧ Aside0 (wd.heap[b]? = some (.cells (twr x h fun _ => none) 72 (0, 0)) ∧ w6.heap.size ≤ b) ∧ Aside0 (Below w6.heap.size w6 wd))
    case first =>
     go_region_with ((go_at_call 32; (with_reducible refine (HHT.out _ (below_drew (Below.refl _ _))).mono ?_); rintro e w9 ⟨rfl, hb⟩; have hb := below_step (below_drew (Below.refl w6.heap.size w6)) hb; have HB9 := Lib.hid hb; have y0 := (blk_cell (blk_below HPd.out.b3 hb) 0).trans (show _ = some (Value.string x.f0.f0) from rfl); have y1 := (blk_cell (blk_below HPd.out.b3 hb) 1).trans (show _ = some (Value.string x.f0.f1) from rfl); have y2 := (blk_cell (blk_below HPd.out.b3 hb) 2).trans (show _ = some (Value.int .i64 x.f0.f2) from rfl); have y3 := (blk_cell (blk_below HPd.out.b3 hb) 3).trans (show _ = some (Value.string x.f0.f3) from rfl); have y4 := (blk_cell (blk_below HPd.out.b3 hb) 4).trans (show _ = some (Value.int .i64 x.f1.f0) from rfl); have y5 := (blk_cell (blk_below HPd.out.b3 hb) 5).trans (show _ = some (Value.bool x.f1.f1) from rfl); have y6 := (blk_cell (blk_below HPd.out.b3 hb) 6).trans (show _ = some (Value.int .i64 x.f1.f2) from rfl); have y7 := (blk_cell (blk_below HPd.out.b3 hb) 7).trans (show _ = some (Value.int .i64 x.f1.f3.f0) from rfl); have y8 := (blk_cell (blk_below HPd.out.b3 hb) 8).trans (show _ = some (Value.int .i64 x.f1.f3.f1) from rfl); have y9 := (blk_cell (blk_below HPd.out.b3 hb) 9).trans (show _ = some (Value.string x.f1.f3.f2) from rfl); clear hb))
     all_goals
      go_wp2_with fail
      go_meet
      case rel => exact ⟨w9.heap.size, rfl, ⟨heap_new_ _ _, HB9.out.size⟩, ⟨below_alloc HB9.out _⟩⟩
    case rest =>
     clear x0 x1 x2 x3 x4 x5 x6 x7 x8 x9
     obtain ⟨b, rfl, HN, HBd⟩ := hcut
     have HPe := Lib.hid (HPd.out.below HBd.out)
     have HTe := Lib.hid (HTd.out.below HBd.out)
     have HLk := Lib.hid (show Lk w base l g5 T A c lv m x b h 0 wc from ⟨⟨fun p hp => by simpa using HTe.out.mem.blk p hp, by simpa using HN.out.1⟩, HPe.out.b5, HTe.out.box, HTe.out.lvr, Ch.of_below _ HPe.out.bel⟩)
     have ch := (blk_cell HN.out.1 10).trans (show _ = some (Value.int .i64 (h : Int)) from rfl)
     go_wp2_with fail
     have hh8 : h ≤ 8 := HBD.out.2
     clear ch
     go_loopg [8, 60] h (fun gk v8 v60 wr => ∃ i : Nat, v60 = .int .i64 i ∧ i ≤ h ∧ h - i ≤ gk ∧ Aside0 (Lk w base l g5 T A c lv m x b h i wr))
     case atStart => exact ⟨0, rfl, Nat.zero_le _, by omega, ⟨HLk.out⟩⟩
     case round =>
      obtain ⟨i, rfl, hi, hgi, HL⟩ := hrel
      by_cases hih : i < h
      ·
       have hi8 : i < 8 := by omega
       have qz : (i : Int) < (h : Int) := by omega
       have q0 : (0 : Int) ≤ (i : Int) := by omega
       have q8 : (i : Int) < 8 := by omega
       have hsp := spot_le T i m
       have hsT : spot T i m < T.length := by have := HMT.out; omega
       have cp := (blk_cell HL.out.b5 i).trans (pa_get T m i hi8)
       have cl := (blk_cell (HL.out.part.lo _ hsT) (11 + i)).trans (twr_next _ _ _ i hi8)
       have hcl : (if i < i ∧ spot T i m = spot T i m then some b else lk' T (spot T i m) (tg T (spot T i m)).h i) = fst i (T.drop (m + 1)) := by
        rw [if_neg (fun h => Nat.lt_irrefl _ h.1)]
        exact lk_spot HMT.out (by rw [HTd.out.mem.h0]; exact hi8)
       rw [hcl] at cl
       have cb := (blk_cell HL.out.part.nw (11 + i)).trans (twr_next _ _ _ i hi8)
       have fb := blk_frozen HL.out.part.nw (11 + i)
       have fs := blk_frozen (HL.out.part.lo _ hsT) (11 + i)
       have hne : ∀ p, p < T.length → (tg T p).b ≠ b := fun p hp e => by
        have h1 := blk_lt (HTd.out.mem.blk p hp)
        have h2 := HN.out.2
        omega
       have HNE := Lib.hid hne
       have hnb : (tg T (spot T i m)).b ≠ b := hne _ hsT
       have hg5 : g5 ≠ b := by
        have h1 := blk_lt HPd.out.b5
        have h2 := HN.out.2
        omega
       clear hne hcl hsp
       obtain ⟨s, hs⟩ : ∃ s, spot T i m = s := ⟨_, rfl⟩
       rw [hs] at cp cl fs hnb hsT
       have HSp := Lib.hid hs
       obtain ⟨sb, hsb⟩ : ∃ sb, (tg T s).b = sb := ⟨_, rfl⟩
       rw [hsb] at cp cl fs hnb
       have HSb := Lib.hid hsb
       simp only [pw, Option.map_some] at cp
       obtain ⟨vp, hvl⟩ : ∃ vp, pw (fst i (T.drop (m + 1))) = .pointer vp := ⟨_, rfl⟩
       rw [hvl] at cl
       have HVl := Lib.hid hvl
       clear hs hsb hvl
       go_upto_region 14 with fail
       go_region
       go_upto_region 15 with fail
       have hwb := Lib.hid (show w.heap.size ≤ b from Nat.le_trans HPd.out.bel.size HN.out.2)
       have HLn := Lib.hid (HL.out.step HMT.out hi8 HNE.out HTd.out.mem.nd hwb.out)
       rw [HSp.out, HSb.out, HVl.out] at HLn
       have hb5 := blk_drew (blk_far HL.out.b5 (p := ⟨b, 11 + i, none⟩) hg5 (.pointer vp))
       have hls := HL.out.part.lo s hsT
       rw [HSb.out] at hls
       have hbs := blk_drew (blk_far hls (p := ⟨b, 11 + i, none⟩) hnb (.pointer vp))
       obtain ⟨w7, hw7⟩ : ∃ w7, (wr.setCell { block := b, off := 11 + i } (Value.pointer vp)).drew = w7 := ⟨_, rfl⟩
       rw [hw7] at hb5 hbs HLn ⊢
       have cp7 := (blk_cell hb5 i).trans (pa_get T m i hi8)
       rw [HSp.out, HSb.out] at cp7
       simp only [pw, Option.map_some] at cp7
       have cs7 := (blk_cell hbs (11 + i)).trans (twr_next _ _ _ i hi8)
       have fs7 := blk_frozen hbs (11 + i)
       simp only [pw, Option.map_some] at HLn
       clear hb5 hls hbs cp cl cb fb fs hnb hg5 hw7
       go_wp2_with fail
       go_roundg (h - (i + 1))
       case measure => omega
       case rel => exact ⟨i + 1, by go_num, by omega, Nat.le_refl _, ⟨HLn.out⟩⟩
      ·
       obtain rfl : i = h := by omega
       have hiz : ¬ (i : Int) < (i : Int) := by omega
       obtain ⟨n, hn⟩ : ∃ n, T.length - 1 = n := ⟨_, rfl⟩
       have hbx := HL.out.box
       rw [hn] at hbx
       have cb := (blk_cell hbx 2).trans (show _ = some (Value.int .i64 (n : Int)) from rfl)
       have fb := blk_frozen hbx 2
       have hn1 : n ≤ 1000 := by omega
       have HX := Lib.hid hbx
       have HNn := Lib.hid hn
       clear hn hbx
       go_wp2_with fail
       go_ret
       have hne : ∀ p, p < T.length → (tg T p).b ≠ b := fun p hp e => by
        have h1 := blk_lt (HTd.out.mem.blk p hp)
        have h2 := HN.out.2
        omega
       have hwb : w.heap.size ≤ b := Nat.le_trans HPd.out.bel.size HN.out.2
       have hMem := HL.out.part.done HTd.out.mem HMT.out HBD.out hne
       have hput : putT T lv x b = ins T m ⟨b, x, i⟩ := by
        unfold putT
        rw [HME.out, if_neg (show ¬ hasT T x.f0 by unfold hasT; rw [HME.out]; exact HH.out), HHE.out]
        rfl
       have hup := put_up HS.out.up HS.out.mem.len lv x b
       have hbb : base ≤ b := Nat.le_trans (Nat.le_trans HS.out.hb (Nat.le_of_lt (blk_lt HS.out.box))) hwb
       refine ⟨rfl, b, ?_, ?_, fun k hk => ?_⟩
       ·
        rw [hput] at hup ⊢
        exact HTd.out.of_ins hMem hup HMT.out HNn.out HX.out HL.out.lvr hbb
       ·
        exact HL.out.ch.set (.inl (.inl rfl)) _
       ·
        rw [hput] at hk
        rcases own_ins HMT.out hk with h1 | rfl
        ·
         exact .inl h1
        ·
         exact .inr hwb
end Go.Proofs.Ytlffkbcaphhldaa.Q
