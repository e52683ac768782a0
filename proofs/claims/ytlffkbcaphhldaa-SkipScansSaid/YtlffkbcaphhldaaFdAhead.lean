/- Lemmas for this claim's walk: no condition of their own. -/
import Derived.Test.YtlffkbcaphhldaaFdQx9
import Derived.Test.YtlffkbcaphhldaaFdSL
import Derived.Test.YtlffkbcaphhldaaFdJ0
import Derived.BigQuiet
import Derived.Deep.QuietTactic
import Derived.Deep.RegionHeld3
import Derived.Deep.MidRow
import Derived.WalkLawsBesides
import Derived.WalkSpells
import Derived.Lib.Hide
import Derived.Deep.DeepFit
import Derived.Outline
namespace Go.Proofs.Ytlffkbcaphhldaa.Q
open Go.RowKit Go.Proofs.YtlffkbcaphhldaaW.PrintWords Go.Proofs.YtlffkbcaphhldaaW.PrintLast Go.Proofs.YtlffkbcaphhldaaW.PrintMore
attribute [local go_sem] max2_int min2_int max_two min_two max_three min_three max_four min_four
set_option linter.unusedVariables false
set_option linter.unusedSimpArgs false
open Go.Lib Go.Proofs.Ytlffkbcaphhldaa.Sk Go.Proofs.Ytlffkbcaphhldaa.Pl Go.Proofs.Ytlffkbcaphhldaa.Ord Go.Proofs.Ytlffkbcaphhldaa.Nm
def oc (T : List Tw) (m r j : Nat) : Value := if r ≤ j then pw (some (tg T (spot T j m)).b) else .pointer none
def o8 (T : List Tw) (m r : Nat) : Array Value := #[oc T m r 0, oc T m r 1, oc T m r 2, oc T m r 3, oc T m r 4, oc T m r 5, oc T m r 6, oc T m r 7]
def pa (T : List Tw) (m : Nat) : Array Value := #[pw (some (tg T (spot T 0 m)).b), pw (some (tg T (spot T 1 m)).b), pw (some (tg T (spot T 2 m)).b), pw (some (tg T (spot T 3 m)).b), pw (some (tg T (spot T 4 m)).b), pw (some (tg T (spot T 5 m)).b), pw (some (tg T (spot T 6 m)).b), pw (some (tg T (spot T 7 m)).b)]
theorem o8_put (T : List Tw) (m i : Nat) (hi : i < 8) : (o8 T m (i + 1)).setIfInBounds i (pw (some (tg T (spot T i m)).b)) = o8 T m i := by
 obtain rfl | rfl | rfl | rfl | rfl | rfl | rfl | rfl : i = 0 ∨ i = 1 ∨ i = 2 ∨ i = 3 ∨ i = 4 ∨ i = 5 ∨ i = 6 ∨ i = 7 := by omega
 all_goals rfl
theorem o8_get (T : List Tw) (m i : Nat) (hi : i < 8) : (o8 T m (i + 1))[i]? = some (oc T m (i + 1) i) := by
 obtain rfl | rfl | rfl | rfl | rfl | rfl | rfl | rfl : i = 0 ∨ i = 1 ∨ i = 2 ∨ i = 3 ∨ i = 4 ∨ i = 5 ∨ i = 6 ∨ i = 7 := by omega
 all_goals rfl
theorem pa_get (T : List Tw) (m i : Nat) (hi : i < 8) : (pa T m)[i]? = some (pw (some (tg T (spot T i m)).b)) := by
 obtain rfl | rfl | rfl | rfl | rfl | rfl | rfl | rfl : i = 0 ∨ i = 1 ∨ i = 2 ∨ i = 3 ∨ i = 4 ∨ i = 5 ∨ i = 6 ∨ i = 7 := by omega
 all_goals rfl
theorem pa_one (T : List Tw) (m : Nat) : (pa T m).all (·.oneCell') = true := all_oneCell_toArray (cs := (pa T m).toList) (fun v hv => by
 simp only [pa, List.mem_cons, List.not_mem_nil, or_false] at hv
 rcases hv with rfl | rfl | rfl | rfl | rfl | rfl | rfl | rfl <;> rfl)
structure ASk (w : World) (k : Ky) (T : List Tw) (m r : Nat) (W : World) : Prop where
 b3 : W.heap[w.heap.size]? = some (.cells #[.string k.f0, .string k.f1, .int .i64 k.f2, .string k.f3] 31 (0, 0))
 b4 : W.heap[w.heap.size + 1]? = some (.cells #[.pointer none, .pointer none, .pointer none, .pointer none, .pointer none, .pointer none, .pointer none, .pointer none] 70 (0, 0))
 b5 : W.heap[w.heap.size + 1 + 1]? = some (.cells (o8 T m r) 70 (0, 0))
 bel : Below w.heap.size w W
theorem ASk.below {w : World} {k : Ky} {T : List Tw} {m r : Nat} {W W' : World} (h : ASk w k T m r W) (hb : Below W.heap.size W W') : ASk w k T m r W' := ⟨blk_below h.b3 hb, blk_below h.b4 hb, blk_below h.b5 hb, below_step h.bel hb⟩
theorem ASk.put {w : World} {k : Ky} {T : List Tw} {m i : Nat} {W : World} (h : ASk w k T m (i + 1) W) (hi : i < 8) : ASk w k T m i (W.setCell ⟨w.heap.size + 1 + 1, i, none⟩ (pw (some (tg T (spot T i m)).b))) :=
 ⟨blk_far h.b3 (by simp; omega) _, blk_far h.b4 (by simp) _, blk_put h.b5 i _ (o8_put T m i hi), below_set h.bel (by omega)⟩
set_option maxHeartbeats 2000000 in
set_option maxRecDepth 100000 in
theorem ahead_calls (l : Nat) (T : List Tw) (k : Ky) (u1 u2 u3 : Value) (w : World) (hb : w.heap[l]? = some (.cells #[.pointer (some ⟨(tg T 0).b, 0, none⟩), u1, u2] 67 (0, 0))) (hM : Mem w T) (hU : Up T) :
  Calls Try.prog 30 #[.pointer (some ⟨l, 0, none⟩), .agg #[.string k.f0, .string k.f1, .int .i64 k.f2, .string k.f3]] w fun e w' => e = .returned (.agg (pa T (Sk.below T k))) ∧ Below w.heap.size w w' := by
 have HM := Lib.hid hM
 have HU := Lib.hid hU
 have c0 := fun o o' o'' => (blk_cell (blk_alloc (blk_alloc (blk_alloc hb o) o') o'') 0).trans (show _ = some (Value.pointer (some ⟨(tg T 0).b, 0, none⟩)) from rfl)
 obtain ⟨m, hm⟩ : ∃ m, Sk.below T k = m := ⟨_, rfl⟩
 have HB := Lib.hid (show m < T.length by have := below_le T k; have := hM.len; omega)
 have HI := Lib.hid (show ∀ p, 0 < p → p < T.length → (cmpK (tg T p).c.f0 k < 0 ↔ p ≤ m) from fun p h1 h2 => hm ▸ below_iff hU k h1 h2)
 rw [hm]
 have hlt := blk_lt hb
 clear hb hM hU hm
 go_enter Try.func30, Try.ntmps30
 go_upto_region 3 with fail
 clear c0 hlt
 go_wp2_with fail
 go_loopg [6, 7] 8 (fun gk v6 v7 wr => ∃ (r p : Nat) (x : Int), v7 = .int .i64 x ∧ v6 = .pointer (some ⟨(tg T p).b, 0, none⟩) ∧ Aside0 (x = (r : Int) - 1 ∧ r ≤ 8 ∧ r ≤ gk ∧ p ≤ m ∧ r ≤ (tg T p).h) ∧ Aside0 (ASk w k T m r wr))
 case atStart =>
  refine ⟨8, 0, 7, rfl, rfl, ⟨by omega, by omega, by omega, by omega, by rw [HM.out.h0]; omega⟩, ⟨?_, ?_, ?_, ?_⟩⟩
  ·
   exact blk_alloc (blk_alloc (heap_new_ w _) _) _
  ·
   have h := heap_new_ (w.alloc (.cells #[.string k.f0, .string k.f1, .int .i64 k.f2, .string k.f3] 31)) (.cells #[.pointer none, .pointer none, .pointer none, .pointer none, .pointer none, .pointer none, .pointer none, .pointer none] 70)
   simp only [World.size_alloc] at h
   exact blk_alloc h _
  ·
   have h := heap_new_ ((w.alloc (.cells #[.string k.f0, .string k.f1, .int .i64 k.f2, .string k.f3] 31)).alloc (.cells #[.pointer none, .pointer none, .pointer none, .pointer none, .pointer none, .pointer none, .pointer none, .pointer none] 70)) (.cells #[.pointer none, .pointer none, .pointer none, .pointer none, .pointer none, .pointer none, .pointer none, .pointer none] 70)
   simp only [World.size_alloc] at h
   exact h
  ·
   exact below_alloc (below_alloc (below_alloc (Below.refl _ _) _) _) _
 case round =>
  obtain ⟨r, p, x, rfl, rfl, HX, HA⟩ := hrel
  cases r with
  | zero =>
   --[zero
   obtain rfl : x = -1 := by have := HX.out.1; omega
   have e0 := (blk_cell HA.out.b5 0).trans (show _ = some (pw (some (tg T (spot T 0 m)).b)) from rfl)
   have e1 := (blk_cell HA.out.b5 1).trans (show _ = some (pw (some (tg T (spot T 1 m)).b)) from rfl)
   have e2 := (blk_cell HA.out.b5 2).trans (show _ = some (pw (some (tg T (spot T 2 m)).b)) from rfl)
   have e3 := (blk_cell HA.out.b5 3).trans (show _ = some (pw (some (tg T (spot T 3 m)).b)) from rfl)
   have e4 := (blk_cell HA.out.b5 4).trans (show _ = some (pw (some (tg T (spot T 4 m)).b)) from rfl)
   have e5 := (blk_cell HA.out.b5 5).trans (show _ = some (pw (some (tg T (spot T 5 m)).b)) from rfl)
   have e6 := (blk_cell HA.out.b5 6).trans (show _ = some (pw (some (tg T (spot T 6 m)).b)) from rfl)
   have e7 := (blk_cell HA.out.b5 7).trans (show _ = some (pw (some (tg T (spot T 7 m)).b)) from rfl)
   have ht := Lib.hid (show wr.there (w.heap.size + 1) 0 (pa T m).size from fun j hj => by
    have hj : j < 8 := hj
    rw [Nat.zero_add]
    refine ⟨?_, blk_frozen HA.out.b4 j⟩
    rw [blk_cell HA.out.b4 j]
    obtain rfl | rfl | rfl | rfl | rfl | rfl | rfl | rfl : j = 0 ∨ j = 1 ∨ j = 2 ∨ j = 3 ∨ j = 4 ∨ j = 5 ∨ j = 6 ∨ j = 7 := by omega
    all_goals rfl)
   have HB4 := Lib.hid (show (wr.setCells (w.heap.size + 1) 0 (pa T m).toList).heap[w.heap.size + 1]? = some (.cells (pa T m) 70 (0, 0)) from blk_setCells (pa T m).toList [] (List.replicate 8 (.pointer none)) _ HA.out.b4 rfl)
   have hi70 : (Try.prog.info? 70).map (·.size) = some (pa T m).size := by kernel_rfl
   go_wp2_with (refine wpList_store_mid (by rfl) 70 _ _ (by rfl) (w.heap.size + 1) 0 (pa T m) (by rfl) (by rfl) ht.out hi70 (pa_one T m) ?_)
   have HBW := Lib.hid (show Below w.heap.size w (wr.setCells (w.heap.size + 1) 0 (pa T m).toList) from below_setCells HA.out.bel (by omega))
   obtain ⟨w9, hw9⟩ : ∃ w9, wr.setCells (w.heap.size + 1) 0 (pa T m).toList = w9 := ⟨_, rfl⟩
   rw [hw9] at HB4 HBW ⊢
   clear hw9
   have g0 := (blk_cell HB4.out 0).trans (show _ = some (pw (some (tg T (spot T 0 m)).b)) from rfl)
   have g1 := (blk_cell HB4.out 1).trans (show _ = some (pw (some (tg T (spot T 1 m)).b)) from rfl)
   have g2 := (blk_cell HB4.out 2).trans (show _ = some (pw (some (tg T (spot T 2 m)).b)) from rfl)
   have g3 := (blk_cell HB4.out 3).trans (show _ = some (pw (some (tg T (spot T 3 m)).b)) from rfl)
   have g4 := (blk_cell HB4.out 4).trans (show _ = some (pw (some (tg T (spot T 4 m)).b)) from rfl)
   have g5 := (blk_cell HB4.out 5).trans (show _ = some (pw (some (tg T (spot T 5 m)).b)) from rfl)
   have g6 := (blk_cell HB4.out 6).trans (show _ = some (pw (some (tg T (spot T 6 m)).b)) from rfl)
   have g7 := (blk_cell HB4.out 7).trans (show _ = some (pw (some (tg T (spot T 7 m)).b)) from rfl)
   exact bodyPost_ret (v := .agg (pa T m)) (by simp [results, Try.results30, go_sem, g0, g1, g2, g3, g4, g5, g6, g7, pa]) rfl ⟨rfl, HBW.out⟩
   --]zero
  | succ i =>
   obtain rfl : x = (i : Int) := by have := HX.out.1; omega
   have hi8 : i < 8 := by have := HX.out.2.1; omega
   have hx0 : (0 : Int) ≤ (i : Int) := by omega
   have hx8 : (i : Int) < 8 := by omega
   obtain ⟨wo, hwo⟩ : ∃ wo, wr = wo := ⟨_, rfl⟩
   rw [hwo] at HA ⊢
   clear hwo
   go_wp2_with fail
   go_loopg [6] T.length (fun gj v6 wq => ∃ p : Nat, v6 = .pointer (some ⟨(tg T p).b, 0, none⟩) ∧ Aside0 (p ≤ m ∧ T.length - p ≤ gj ∧ i < (tg T p).h) ∧ Aside0 (ASk w k T m (i + 1) wq))
   case atStart => exact ⟨p, rfl, ⟨HX.out.2.2.2.1, by omega, HX.out.2.2.2.2⟩, ⟨HA.out⟩⟩
   case round =>
    have hgi := HX.out.2.2.1
    clear HX HA
    obtain ⟨p, rfl, HP, HA⟩ := hrel
    have hpm := HP.out.1
    have hpT : p < T.length := by have := HB.out; omega
    have HN := Lib.hid (fst_cases T i p)
    have HC := Lib.hid (fun (q : Nat) (hq : q < T.length) => (HM.out.below HA.out.bel).blk q hq)
    rcases HN.out with ⟨hn1, hn2⟩ | ⟨q, hq1, hq2, hq3, hq4, hq5⟩
    ·
     have hv : lk' T p (tg T p).h i = none := by unfold lk'; rw [if_pos HP.out.2.2, hn1]
     have cn := fun (P : Srt.BW wr) => ((blk_cell (blk_below (HC.out p hpT) P.h) (11 + i)).trans (twr_next _ _ _ i hi8)).trans (show _ = some (Value.pointer none) by rw [hv]; rfl)
     have HS := Lib.hid (show spot T i m = p from spot_eq HP.out.2.2 m hpm fun q h1 h2 => hn2 q h1 (by have := HB.out; omega))
     clear hv hn1 hn2
     have mixed : Try.prog.follows .mixedOrders = true := by kernel_rfl
     go_upto_region 6 with fail
     refine Srt.wp_region_quiet_bw (by assumption) (by kernel_rfl) ?_
     quiet_step (fail)
     quiet_step (fail)
     quiet_step (fail)
     quiet_step (fail)
     quiet_step (fail)
     quiet_step (fail)
     quiet_step (fail)
     quiet_step (fail)
     repeat go_big_quiet_skip
     quiet_step (fail)
     refine wpQuiet_nil ?_
     rintro w3 ⟨P, rfl⟩
     have fz := blk_frozen (HA.out.below P.h).b5 i
     have cz := (blk_cell (HA.out.below P.h).b5 i).trans (o8_get T m i hi8)
     have HPU := Lib.hid (show ASk w k T m i (P.w'.setCell ⟨w.heap.size + 1 + 1, i, none⟩ (.pointer (some ⟨(tg T p).b, 0, none⟩))) from by
      have h := (HA.out.below P.h).put hi8
      rw [HS.out] at h
      exact h)
     clear cn
     go_wp2_with fail
     go_roundg i
     case measure => omega
     case rel => exact ⟨i, p, (i : Int) - 1, by go_num, rfl, ⟨by omega, by omega, Nat.le_refl _, hpm, by have := HP.out.2.2; omega⟩, ⟨HPU.out⟩⟩
    ·
     have hv : lk' T p (tg T p).h i = some (tg T q).b := by unfold lk'; rw [if_pos HP.out.2.2, hq5]
     have cn := fun (P : Srt.BW wr) => ((blk_cell (blk_below (HC.out p hpT) P.h) (11 + i)).trans (twr_next _ _ _ i hi8)).trans (show _ = some (Value.pointer (some ⟨(tg T q).b, 0, none⟩)) by rw [hv]; rfl)
     have k0 := fun (P : Srt.BW wr) => (blk_cell (blk_below (HC.out q hq2) P.h) 0).trans (show _ = some (Value.string (tg T q).c.f0.f0) from rfl)
     have k1 := fun (P : Srt.BW wr) => (blk_cell (blk_below (HC.out q hq2) P.h) 1).trans (show _ = some (Value.string (tg T q).c.f0.f1) from rfl)
     have k2 := fun (P : Srt.BW wr) => (blk_cell (blk_below (HC.out q hq2) P.h) 2).trans (show _ = some (Value.int .i64 (tg T q).c.f0.f2) from rfl)
     have k3 := fun (P : Srt.BW wr) => (blk_cell (blk_below (HC.out q hq2) P.h) 3).trans (show _ = some (Value.string (tg T q).c.f0.f3) from rfl)
     have y0 := fun (P : Srt.BW wr) => (blk_cell (blk_below HA.out.b3 P.h) 0).trans (show _ = some (Value.string k.f0) from rfl)
     have y1 := fun (P : Srt.BW wr) => (blk_cell (blk_below HA.out.b3 P.h) 1).trans (show _ = some (Value.string k.f1) from rfl)
     have y2 := fun (P : Srt.BW wr) => (blk_cell (blk_below HA.out.b3 P.h) 2).trans (show _ = some (Value.int .i64 k.f2) from rfl)
     have y3 := fun (P : Srt.BW wr) => (blk_cell (blk_below HA.out.b3 P.h) 3).trans (show _ = some (Value.string k.f3) from rfl)
     have HK := Lib.hid (fun (P : Srt.BW wr) => key_Cmp.calls 6 (tg T q).c.f0.f0 (tg T q).c.f0.f1 (tg T q).c.f0.f2 (tg T q).c.f0.f3 k.f0 k.f1 k.f2 k.f3 (cmpK (tg T q).c.f0 k) P.w' (key_Cmp_f 6 (Nat.le_refl _) (tg T q).c.f0 k))
     have HQ := Lib.hid (And.intro hq1 (And.intro hq2 (And.intro hq3 hq4)))
     have HQM := Lib.hid (HI.out q (by omega) hq2)
     clear hv hq1 hq2 hq3 hq4 hq5
     obtain ⟨d, hd⟩ : ∃ d, cmpK (tg T q).c.f0 k = d := ⟨_, rfl⟩
     rw [hd] at HK HQM
     clear hd
     have mixed : Try.prog.follows .mixedOrders = true := by kernel_rfl
     go_upto_region 6 with fail
     go_cut [37] from 16 to 43 (fun v37 wc => v37 = .bool (decide (d < 0)) ∧ Aside0 (Below wr.heap.size wr wc))
     case first =>
      refine Srt.wp_region_quiet_bw (by assumption) (by kernel_rfl) ?_
      repeat (quiet_step ((go_at_call 37; refine Srt.Calls.bw_of (HK.out _))))
      refine wpQuiet_nil ?_
      rintro w3 ⟨P, rfl⟩
      go_wp2_with fail
      go_meet
      case rel => exact ⟨rfl, ⟨P.h⟩⟩
     case rest =>
      obtain ⟨rfl, HB1⟩ := hcut
      clear k0 k1 k2 k3 y0 y1 y2 y3
      by_cases hd : d < 0
      ·
       have hqm := Lib.hid (HQM.out.1 hd)
       have cn1 : wc.cell? ⟨(tg T p).b, 11 + i, none⟩ = some (Value.pointer (some ⟨(tg T q).b, 0, none⟩)) := cn ⟨wc, HB1.out⟩
       have hd2 : decide (d < 0) = true := decide_eq_true hd
       rw [hd2]
       clear cn hd2 hd
       go_wp2_with fail
       go_roundg (T.length - q)
       case measure => have := HQ.out.1; have := HQ.out.2.1; have := HP.out.2.1; omega
       case rel => exact ⟨q, rfl, ⟨hqm.out, Nat.le_refl _, HQ.out.2.2.1⟩, ⟨HA.out.below HB1.out⟩⟩
      ·
       have hqm := Lib.hid (fun h => hd (HQM.out.2 h))
       have HS := Lib.hid (show spot T i m = p from spot_eq HP.out.2.2 m hpm fun r h1 h2 => HQ.out.2.2.2 r h1 (by have h3 : ¬ q ≤ m := hqm.out; omega))
       have hd2 : decide (d < 0) = false := decide_eq_false hd
       rw [hd2]
       have fz := blk_frozen (HA.out.below HB1.out).b5 i
       have cz := (blk_cell (HA.out.below HB1.out).b5 i).trans (o8_get T m i hi8)
       have HPU := Lib.hid (show ASk w k T m i (wc.setCell ⟨w.heap.size + 1 + 1, i, none⟩ (.pointer (some ⟨(tg T p).b, 0, none⟩))) from by
        have h := (HA.out.below HB1.out).put hi8
        rw [HS.out] at h
        exact h)
       clear cn hd2 hd
       go_wp2_with fail
       go_roundg i
       case measure => omega
       case rel => exact ⟨i, p, (i : Int) - 1, by go_num, rfl, ⟨by omega, by omega, Nat.le_refl _, hpm, by have := HP.out.2.2; omega⟩, ⟨HPU.out⟩⟩
end Go.Proofs.Ytlffkbcaphhldaa.Q
