/- Lemmas for this claim's walk: no condition of their own. -/
import Derived.Test.YtlffkbcaphhldaaFdSkAll
import Derived.Deep.MidRow
import Derived.WalkLawsBesides
import Derived.WalkSpells
import Derived.Lib.Hide
import Derived.Deep.DeepFit
import Derived.Outline
namespace Go.Proofs.Ytlffkbcaphhldaa.Q
open Go.RowKit Go.Proofs.YtlffkbcaphhldaaW.PrintWords Go.Proofs.YtlffkbcaphhldaaW.PrintLast Go.Proofs.YtlffkbcaphhldaaW.PrintMore
attribute [local go_sem] max2_int min2_int max_two min_two max_three min_three max_four min_four
set_option linter.unusedVariables false
set_option linter.unusedSimpArgs false
open Go.Lib Go.Proofs.Ytlffkbcaphhldaa.Sk Go.Proofs.Ytlffkbcaphhldaa.Pl Go.Proofs.Ytlffkbcaphhldaa.Ord Go.Proofs.Ytlffkbcaphhldaa.Nm Go.Proofs.Ytlffkbcaphhldaa.Rh
attribute [local go_sem] Oper.semAt_some
set_option maxHeartbeats 2000000 in
set_option maxRecDepth 100000 in
theorem his_calls (base l : Nat) (T : List Tw) (A : Option Addr) (c : Nat) (lv : List Int) (w : World) (h : SL w base l T A c lv) (hT : T.length ≤ 1000) :
  Calls Try.prog 18 #[.pointer (some ⟨l, 0, none⟩)] w fun e w' => ∃ v : Value, e = .returned v ∧ Kd.R (Kd.int .i64) 3 w' w.heap.size (fun _ => True) v (hisT T) ∧ Below w.heap.size w w' := by
 have HS := Lib.hid h
 have hbw : Below w.heap.size w (w.alloc (.cells #[.slice none 0 0] 22)) := below_alloc (Below.refl _ _) _
 have HM := Lib.hid (made_yes l _ _ _ _ (h.below hbw).box)
 have c0 := (blk_cell (h.below hbw).box 0).trans (show _ = some (Value.pointer (some ⟨(tg T 0).b, 0, none⟩)) from rfl)
 have cn := (blk_cell ((h.below hbw).mem.blk 0 h.mem.len) 11).trans (show _ = some (pw (lk' T 0 (tg T 0).h 0)) from rfl)
 rw [show lk' T 0 (tg T 0).h 0 = nx T 0 from h.mem.next0 h.mem.len] at cn
 obtain ⟨vp, hvp⟩ : ∃ vp, pw (nx T 0) = .pointer vp := ⟨_, rfl⟩
 rw [hvp] at cn
 have HVP := Lib.hid hvp
 clear h hvp hbw
 refine (callsIn_wide (n := 6)).1 ?_
 refine callsIn_of_wp_marks Try.func18 rfl trivial ?_ rfl
 simp only [Try.ntmps18, List.size_toArray, List.length_cons, List.length_nil, Nat.reduceAdd, Nat.reduceSub, Array.replicate_succ, Array.replicate_zero, List.push_toArray, List.append_toArray, List.nil_append, List.cons_append]
 refine (wpIn_wide (n := 6)).2 ?_
 go_wp2_with (first | (go_at_call 28; (with_reducible refine HM.out.mono ?_); rintro e w1 ⟨rfl, rfl⟩) | (go_at_call 34; (with_reducible refine (towers_calls _ _).mono ?_); rintro e w1 ⟨rfl, rfl⟩))
 clear c0 cn
 obtain ⟨w2, hw2⟩ : ∃ w2, (w.alloc (.cells #[.slice none 0 0] 22)).alloc (.cells #[.pointer vp] 65) = w2 := ⟨_, rfl⟩
 have hb2 : Below w.heap.size w w2 := hw2 ▸ below_alloc (below_alloc (Below.refl _ _) _) _
 have hs2 : w2.heap.size = w.heap.size + 2 := by rw [← hw2]; simp
 have hB : w2.heap[w.heap.size + 1]? = some (.cells #[pw (nx T 0)] 65 (0, 0)) := by
  have h := heap_new_ (w.alloc (.cells #[.slice none 0 0] 22)) (.cells #[.pointer vp] 65)
  simp only [World.size_alloc] at h
  rw [HVP.out, ← hw2]; exact h
 have hbx : w2.heap[w.heap.size]? = some (.cells #[.slice none 0 0] 22 (0, 0)) := by
  rw [← hw2]; exact blk_alloc (heap_new_ w _) _
 have hTb : ∀ q, q < T.length → (tg T q).b < w.heap.size := fun q hq => blk_lt (HS.out.mem.blk q hq)
 have HTb := Lib.hid hTb
 have hseq := towers_seq 5 (by omega) T 0 (w.heap.size + 1) w.heap.size w2 (HS.out.below hb2).mem hB hTb (by omega) HS.out.mem.len
 have hI0 : OutB (Kd.int .i64) 3 22 w w.heap.size w2 [] ∧ Mem w2 T := ⟨⟨⟨_, hbx, Kd.R_nil _ _ _ _ _⟩, hb2, Nat.le_refl _⟩, (HS.out.below hb2).mem⟩
 have hn1 : w.heap.size ≤ w2.heap.size := by omega
 have HN1 := Lib.hid hn1
 rw [hw2]
 clear hw2 hb2 hs2 hB hbx hTb
 refine (wpIn_wide (n := 6)).1 ?_
 obtain ⟨b0, hb0⟩ : ∃ b0, (tg T 0).b = b0 := ⟨_, rfl⟩
 rw [hb0]
 clear hb0
 refine wpIn_range_h rfl (by omega) (gf := 43) (lb := #[.pointer (some ⟨w.heap.size + 1, 0, none⟩)]) rfl trivial (Go.Proofs.enters_of Try.func43 (by kernel_rfl) rfl) hn1 hseq (fun _ => rfl)
  (fun pre W => OutB (Kd.int .i64) 3 22 w w.heap.size W (pre.map fun t => (t.h : Int)) ∧ Mem W T) (fun _ _ _ => False) (fun _ _ _ h hm => ⟨OutB.mvb rfl (by decide) (by decide) (Nat.le_refl _) HN1.out h.1 hm, Mem.mvb h.2 HTb.out HN1.out hm⟩) (fun _ _ _ _ h _ => h) hI0
  (fun pre x a' W => (OutB (Kd.int .i64) 3 22 w w.heap.size W (pre.map fun t => (t.h : Int)) ∧ Mem W T) ∧ a' = { tmps := #[.pointer (some ⟨l, 0, none⟩), undef, .slice none 0 0, .pointer (some ⟨w.heap.size, 0, none⟩), .pointer (some ⟨x.b, 0, none⟩), .pointer (some ⟨l, 0, none⟩), .bool true, .pointer (some ⟨l, 0, none⟩), .pointer (some ⟨l, 0, none⟩), .pointer (some ⟨l, 0, none⟩), .pointer (some ⟨b0, 0, none⟩), .pointer (some ⟨b0, 0, none⟩), .pointer (some ⟨b0, 11, none⟩), .pointer (some ⟨b0, 11, none⟩), .pointer vp, .func (.func 43) #[] #[.pointer (some ⟨w.heap.size + 1, 0, none⟩)], .pointer (some ⟨x.b, 0, none⟩), undef, undef, undef, undef, undef, undef, undef, undef], defers := [] })
  (fun pre x a' V C h hm => ⟨⟨OutB.mvb rfl (by decide) (by decide) (Nat.le_refl _) HN1.out h.1.1 hm, Mem.mvb h.1.2 HTb.out HN1.out hm⟩, h.2⟩) ?assign ?body ?done ?stop
 case assign =>
  intro l pre x W K hI _ hK
  gi_wp2
  exact hK _ _ (KO.of (KeepsOthers.below (Below.refl _ _))) (Kp.below (Below.refl _ _)) ⟨hI, rfl⟩
 case body =>
  rintro l pre x a' W ⟨⟨hI, hMW⟩, rfl⟩ hpre
  have hlen := hpre.length_le
  have hx : x = tg T (pre.length + 1) ∧ pre.length + 1 < T.length := by
   rw [List.length_append, List.length_singleton, List.length_drop] at hlen
   refine ⟨?_, by omega⟩
   obtain ⟨r, hr⟩ := hpre
   have h1 : (pre ++ [x] ++ r)[pre.length]? = some x := by simp
   rw [hr, List.getElem?_drop, show 0 + 1 + pre.length = pre.length + 1 by omega, tg_lt (by omega)] at h1
   injection h1 with h1; exact h1.symm
  have hbk := hMW.blk _ hx.2
  rw [← hx.1] at hbk
  obtain ⟨v, hv, hR⟩ := hI.box
  obtain ⟨Av, cv, rfl⟩ := Kd.R_slice hR
  have hos0 : (pre.map fun t => (t.h : Int)).length ≤ 1000 := by rw [List.length_map]; omega
  obtain ⟨os, hos⟩ : ∃ os, (pre.map fun t => (t.h : Int)) = os := ⟨_, rfl⟩
  rw [hos] at hR hI hos0 hv
  have HOS := Lib.hid hos
  have HR := Lib.hid hR
  have HV := Lib.hid hv
  have HI := Lib.hid hI
  have HMW := Lib.hid hMW
  have HLN := Lib.hid (show (os.length + 1) * 8 ≤ 140737488355328 by omega)
  have cb := (blk_cell hv 0).trans (show _ = some (Value.slice Av os.length cv) from rfl)
  have fb := blk_frozen hv 0
  have d0 := (blk_cell hbk 10).trans (show _ = some (Value.int .i64 (x.h : Int)) from rfl)
  have cbB := fun o => (blk_cell (blk_alloc hv o) 0).trans (show _ = some (Value.slice Av os.length cv) from rfl)
  have cbA := fun o => (blk_cell (blk_alloc (blk_drew hv) o) 0).trans (show _ = some (Value.slice Av os.length cv) from rfl)
  clear hR hI hos0 hv hos hMW hbk hx hlen
  gi_wp2
  refine wpIn_region_any (by kernel_rfl) ?_
  (try change wpAnyIn _ _ _ _ _ _ _ _ _ (World.drew _))
  repeat (any_goals (first
   | (refine wpAnyIn_ready (rs := [0, 1]) ?_ ?_ ?_; decide +kernel; decide)
   | (refine wpAnyIn_ready (rs := [0, 2]) ?_ ?_ ?_; decide +kernel; decide)
   | (refine wpAnyIn_ready (rs := [0, 3]) ?_ ?_ ?_; decide +kernel; decide)
   | (refine wpAnyIn_ready (rs := [0, 4]) ?_ ?_ ?_; decide +kernel; decide)
   | (refine wpAnyIn_ready (rs := [0, 5]) ?_ ?_ ?_; decide +kernel; decide)
   | (refine wpAnyIn_ready (rs := [0]) ?_ ?_ ?_; decide +kernel; decide)
   | (refine wpAnyIn_ready (rs := [1]) ?_ ?_ ?_; decide +kernel; decide)
   | (refine wpAnyIn_ready (rs := [2]) ?_ ?_ ?_; decide +kernel; decide)
   | (refine wpAnyIn_ready (rs := [3]) ?_ ?_ ?_; decide +kernel; decide)
   | (refine wpAnyIn_ready (rs := [4]) ?_ ?_ ?_; decide +kernel; decide)
   | (refine wpAnyIn_ready (rs := [5]) ?_ ?_ ?_; decide +kernel; decide)
   | (refine wpAnyIn_ready (rs := [7]) ?_ ?_ ?_; decide +kernel; decide)
   | (refine wpAnyIn_done ?_ ?_ _; decide +kernel)
   | (exact AllReadyIn.nil)
   | (refine AllReadyIn.cons rfl (fun K hK => ?_) ?_)
   | (go_simp; refine hK _ _ ?_; clear hK K)))
  all_goals
   refine wpAnyIn_ready (rs := [6]) ?_ ?_ ?_
   decide +kernel
   decide
   refine AllReadyIn.cons rfl (fun K hK => ?_) AllReadyIn.nil
   refine R_append_stepIn (Kd.int .i64) (w0 := w) w.heap.size (by rfl) (.tmp 17) (.tmp 22) 22 3 _ 8 (by rfl) Try.underlying22 info3 (by rfl) (by decide) (by omega) (.slice Av os.length cv) os (x.h : Int) [.int .i64 (x.h : Int)] (fun _ => True) (fun _ => False) (by rfl) (by rfl) (by rfl) (fun _ hk => hk.elim) (fun _ _ => trivial) (Kd.R_drew HR.out) (below_drew HI.out.bel) (below_size (below_drew HI.out.bel)) HLN.out ?_
   intro v1 w1 ho hb1 hg1 _
   obtain ⟨A7, c7, rfl⟩ := Kd.R_slice ho
   have HO := Lib.hid ho
   have HB1 := Lib.hid hb1
   have HG1 := Lib.hid hg1
   have cb1 := (blk_cell (blk_grown (blk_drew HV.out) hg1 (Kd.R_ne (Kd.R_drew HR.out) (blk_drew HV.out) (by decide))) 0).trans (show _ = some (Value.slice Av os.length cv) from rfl)
   have fb1 := blk_frozen (blk_grown (blk_drew HV.out) hg1 (Kd.R_ne (Kd.R_drew HR.out) (blk_drew HV.out) (by decide))) 0
   clear ho hb1 hg1
   refine hK _ _ ?_
   clear hK K
   refine wpAnyIn_ready (rs := [7]) ?_ ?_ ?_
   decide +kernel
   decide
   refine AllReadyIn.cons rfl (fun K hK => ?_) AllReadyIn.nil
   go_simp
   refine hK _ _ ?_
   clear hK K
   refine wpAnyIn_done ?_ ?_ _
   decide +kernel
   gi_wp2
   refine ⟨?_, ?_, ?_, ?_⟩
   ·
    exact KO.of (((KeepsOthers.below (below_drew (Below.refl _ _))).trans (KeepsOthers.grown (Kd.R_drew HR.out) HG1.out)).trans (KeepsOthers.setCell _ _ _))
   ·
    exact (Kp.below (below_drew (Below.refl _ _))).trans (Kp.put (d := Kd.int .i64) (by decide) (by decide) (Kd.R_drew HR.out) (Nat.le_refl _) (blk_drew HV.out) HG1.out (Nat.le_refl _))
   ·
    show OutB (Kd.int .i64) 3 22 w w.heap.size _ ((pre ++ [x]).map fun t => (t.h : Int))
    rw [List.map_append, List.map_cons, List.map_nil, HOS.out]
    have ho := HO.out
    rw [show (os ++ [(x.h : Int)]).length = os.length + 1 by rw [List.length_append, List.length_singleton]] at ho
    exact OutB.put rfl (by decide) (HI.out.below (below_drew (Below.refl _ _))) (blk_drew HV.out) (Kd.R_drew HR.out) ho HB1.out HG1.out
   ·
    exact Mem.kp (Mem.kp HMW.out HTb.out (Kp.below (n0 := 0) (below_drew (Below.refl _ _)))) HTb.out (Kp.put (d := Kd.int .i64) (by decide) (by decide) (Kd.R_drew HR.out) (Nat.le_refl _) (blk_drew HV.out) HG1.out (Nat.le_refl _))
 case done =>
  rintro D W hD ⟨hI, hMW⟩ hK
  obtain ⟨v, hv, hR⟩ := hI.box
  have cb := (blk_cell hv 0).trans (show _ = some v from rfl)
  have HI := Lib.hid hI
  have HR := Lib.hid hR
  have HK := Lib.hid hK
  clear hv hR hI hMW hseq hI0
  go_wp2_with fail
  refine ⟨by simp, .inl ⟨_, _, rfl, run_takeDeferred HK.out, ?_⟩⟩
  have hb1 : Below w.heap.size w (W.putObj D (.deferred none)) := HI.out.bel.trans (belowK_b (w := w) (Nat.le_refl _) W D _ _ (Nat.le_trans HN1.out hD) HK.out rfl rfl)
  refine ⟨_, ?_, ⟨v, rfl, ?_, hb1⟩⟩
  ·
   simp [results, Try.f18, go_sem]
  ·
   refine Kd.R_mono (Kd.R_move (Kd.R_bound HR.out) fun k hk => ?_) (fun _ _ => trivial)
   obtain ⟨-, -, -, q, -, cells, h4⟩ := hk
   exact World.putObj_heap_other (fun e => by subst e; rw [HK.out] at h4; cases h4)
 case stop =>
  rintro D c pre W _ _ h
  exact h.elim
end Go.Proofs.Ytlffkbcaphhldaa.Q
