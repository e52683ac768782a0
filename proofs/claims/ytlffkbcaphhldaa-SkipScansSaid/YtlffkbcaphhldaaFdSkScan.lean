/- Lemmas for this claim's walk: no condition of their own. -/
import Derived.Test.YtlffkbcaphhldaaFdQx9
import Derived.Test.YtlffkbcaphhldaaFdSkAll
import Derived.Test.YtlffkbcaphhldaaFdJ33
import Derived.Test.YtlffkbcaphhldaaFdJ22
import Derived.Deep.MidRow
import Derived.WalkLawsBesides
import Derived.WalkSpells
import Derived.Lib.Hide
import Derived.Deep.DeepFit
import Derived.Outline
namespace Go.Proofs.Ytlffkbcaphhldaa.Q
open Go.RowKit Go.Proofs.YtlffkbcaphhldaaW.PrintWords Go.Proofs.YtlffkbcaphhldaaW.PrintLast Go.Proofs.YtlffkbcaphhldaaW.PrintMore
attribute [local go_sem] max2_int min2_int max_two min_two max_three min_three max_four min_four
set_option linter.unusedVariables false
set_option linter.unusedSimpArgs false
open Go.Lib Go.Proofs.Ytlffkbcaphhldaa.Sk Go.Proofs.Ytlffkbcaphhldaa.Pl Go.Proofs.Ytlffkbcaphhldaa.Ord Go.Proofs.Ytlffkbcaphhldaa.Nm Go.Proofs.Ytlffkbcaphhldaa.Rh
attribute [local go_sem] Oper.semAt_some
attribute [local go_sem high] idx8
def scanT (T : List Tw) (f u : Ky) : List Cl := (((T.drop (Sk.below T f + 1)).takeWhile fun t => decide (cmpK t.c.f0 u < 0))).map (·.c)
theorem values_calls (v : Value) (A : Option Addr) (n c : Nat) (hv : v = .slice A n c) (w : World) : Calls Try.prog 38 #[v] w fun e w' => e = .returned (.func (.func 48) #[] #[.pointer (some ⟨w.heap.size, 0, none⟩)]) ∧ w.alloc (.cells #[v] 23) = w' := by
 subst hv
 go_enter Try.func38, Try.ntmps38
 go_wp2
 go_ret
 exact ⟨rfl, rfl⟩
abbrev ka (k : Ky) : Array Value := #[.string k.f0, .string k.f1, .int .i64 k.f2, .string k.f3]
structure SI (w : World) (T : List Tw) (u : Ky) (pre : List Tw) (W : World) : Prop where
 out : OutB k37 37 23 w (w.heap.size + 1 + 1) W (pre.map (·.c))
 mem : Mem W T
 ub : W.heap[w.heap.size + 1]? = some (.cells (ka u) 31 (0, 0))
 lt : ∀ y ∈ pre, cmpK y.c.f0 u < 0
theorem SI.mvb {w : World} {T : List Tw} {u : Ky} {pre : List Tw} {A C : World} {B : Nat} (h : SI w T u pre A) (h1 : ∀ q, q < T.length → (tg T q).b < w.heap.size) (hB : w.heap.size ≤ B) (hm : MvB 65 w.heap.size B A C) : SI w T u pre C :=
 ⟨OutB.mvb rfl (by decide) (by decide) (Nat.le_refl _) hB h.out hm, Mem.mvb h.mem h1 hB hm, (hm.same _ (blk_lt h.ub) (.inr (typed_ne h.ub (by decide))) (.inr ⟨_, h.ub, rfl⟩)).trans h.ub, h.lt⟩
theorem SI.below {w : World} {T : List Tw} {u : Ky} {pre : List Tw} {A C : World} (h : SI w T u pre A) (hb : Below A.heap.size A C) : SI w T u pre C := ⟨h.out.below hb, h.mem.below hb, blk_below h.ub hb, h.lt⟩
theorem takeW_all {α : Type} (p : α → Bool) : ∀ l : List α, (∀ y ∈ l, p y = true) → l.takeWhile p = l
 | [], _ => rfl
 | x :: l, h => by rw [List.takeWhile_cons, if_pos (h x List.mem_cons_self), takeW_all p l fun y hy => h y (List.mem_cons_of_mem _ hy)]
theorem takeW_stop {α : Type} (p : α → Bool) (x : α) (r : List α) (hx : p x = false) : ∀ l : List α, (∀ y ∈ l, p y = true) → (l ++ x :: r).takeWhile p = l
 | [], _ => by rw [List.nil_append, List.takeWhile_cons, if_neg (by simp [hx])]
 | y :: l, h => by rw [List.cons_append, List.takeWhile_cons, if_pos (h y List.mem_cons_self), takeW_stop p x r hx l fun z hz => h z (List.mem_cons_of_mem _ hz)]
theorem scan_end {w W : World} {D : Nat} {v : Value} {l : List Cl} (hb : Below w.heap.size w W) (hD : w.heap.size ≤ D) (hK : W.heap[D]? = some (.deferred (some []))) (hR : Kd.R k37 37 W w.heap.size (fun _ => True) v l) :
  ((W.alloc (.cells #[v] 23)).putObj D (.deferred none)).heap[W.heap.size]? = some (.cells #[v] 23 (0, 0)) ∧ w.heap.size ≤ W.heap.size ∧ Kd.R k37 37 ((W.alloc (.cells #[v] 23)).putObj D (.deferred none)) w.heap.size (fun _ => True) v l ∧ Below w.heap.size w ((W.alloc (.cells #[v] 23)).putObj D (.deferred none)) := by
 have hK1 := blk_alloc hK (.cells #[v] 23)
 have hlt := blk_lt hK
 have hR1 := Kd.R_alloc hR (.cells #[v] 23)
 refine ⟨(World.putObj_heap_other (by omega)).trans (heap_new_ W _), hb.size, ?_, (below_alloc hb _).trans (belowK_b (w := w) (Nat.le_refl _) _ D _ _ hD hK1 rfl rfl)⟩
 refine Kd.R_mono (Kd.R_move (Kd.R_bound hR1) fun k hk => ?_) (fun _ _ => trivial)
 obtain ⟨-, -, -, q, -, cells, h4⟩ := hk
 exact World.putObj_heap_other (fun e => by subst e; rw [hK1] at h4; cases h4)
set_option maxHeartbeats 4000000 in
set_option maxRecDepth 100000 in
theorem scan_calls (base l0 : Nat) (T : List Tw) (A : Option Addr) (c : Nat) (lv : List Int) (f u : Ky) (w : World) (h : SL w base l0 T A c lv) (hT : T.length ≤ 1000) :
  Calls Try.prog 21 #[.pointer (some ⟨l0, 0, none⟩), .agg (ka f), .agg (ka u)] w fun e w' => ∃ (B : Nat) (v : Value), e = .returned (.func (.func 48) #[] #[.pointer (some ⟨B, 0, none⟩)]) ∧ w'.heap[B]? = some (.cells #[v] 23 (0, 0)) ∧ w.heap.size ≤ B ∧ Kd.R k37 37 w' w.heap.size (fun _ => True) v (scanT T f u) ∧ Below w.heap.size w w' := by
 have HS := Lib.hid h
 have hb3 : Below w.heap.size w (((w.alloc (.cells (ka f) 31)).alloc (.cells (ka u) 31)).alloc (.cells #[.slice none 0 0] 23)) := below_alloc (below_alloc (below_alloc (Below.refl _ _) _) _) _
 have HB3 := Lib.hid hb3
 have HM := Lib.hid (made_yes l0 _ _ _ _ (h.below hb3).box)
 have HA := Lib.hid (ahead_first l0 T f _ _ _ (h.below hb3).box (h.below hb3).mem h.up)
 obtain ⟨m, hm⟩ : ∃ m, Sk.below T f = m := ⟨_, rfl⟩
 have HMT := Lib.hid (show m < T.length by have := below_le T f; have := h.mem.len; omega)
 rw [hm] at HA
 have HME := Lib.hid hm
 have HU := Lib.hid (show (((w.alloc (.cells (ka f) 31)).alloc (.cells (ka u) 31)).alloc (.cells #[.slice none 0 0] 23)).heap[w.heap.size + 1]? = some (.cells (ka u) 31 (0, 0)) from by
  have h := heap_new_ (w.alloc (.cells (ka f) 31)) (.cells (ka u) 31)
  simp only [World.size_alloc] at h
  exact blk_alloc h _)
 have HO := Lib.hid (show (((w.alloc (.cells (ka f) 31)).alloc (.cells (ka u) 31)).alloc (.cells #[.slice none 0 0] 23)).heap[w.heap.size + 1 + 1]? = some (.cells #[.slice none 0 0] 23 (0, 0)) from by
  have h := heap_new_ ((w.alloc (.cells (ka f) 31)).alloc (.cells (ka u) 31)) (.cells #[.slice none 0 0] 23)
  simp only [World.size_alloc] at h
  exact h)
 clear h hm hb3
 refine (callsIn_wide (n := 6)).1 ?_
 refine callsIn_of_wp_marks Try.func21 rfl trivial ?_ rfl
 simp only [Try.ntmps21, List.size_toArray, List.length_cons, List.length_nil, Nat.reduceAdd, Nat.reduceSub, Array.replicate_succ, Array.replicate_zero, List.push_toArray, List.append_toArray, List.nil_append, List.cons_append]
 refine (wpIn_wide (n := 6)).2 ?_
 go_wp2_with (first | (go_at_call 28; (with_reducible refine HM.out.mono ?_); rintro e w1 ⟨rfl, rfl⟩) | (go_at_call 30; (with_reducible refine HA.out.mono ?_); rintro e w2 ⟨⟨p1, p2, p3, p4, p5, p6, p7, rfl⟩, hb⟩; have HB2 := Lib.hid (below_step HB3.out hb); have HU2 := Lib.hid (blk_below HU.out hb); have HO2 := Lib.hid (blk_below HO.out hb); have cn := (blk_cell ((HS.out.below HB2.out).mem.blk m HMT.out) 11).trans (show _ = some (pw (lk' T m (tg T m).h 0)) from rfl); rw [show lk' T m (tg T m).h 0 = nx T m from HS.out.mem.next0 HMT.out] at cn; obtain ⟨vp, hvp⟩ : ∃ vp, pw (nx T m) = .pointer vp := ⟨_, rfl⟩; rw [hvp] at cn; have HVP := Lib.hid hvp; clear hb hvp) | (go_at_call 34; (with_reducible refine (towers_calls _ _).mono ?_); rintro e w3 ⟨rfl, rfl⟩))
 clear cn
 obtain ⟨w3, hw3⟩ : ∃ w3, w2.alloc (.cells #[.pointer vp] 65) = w3 := ⟨_, rfl⟩
 have hb23 : Below w2.heap.size w2 w3 := hw3 ▸ below_alloc (Below.refl _ _) _
 have hb03 := below_step HB2.out hb23
 have hs3 : w3.heap.size = w2.heap.size + 1 := by rw [← hw3]; simp
 have hB : w3.heap[w2.heap.size]? = some (.cells #[pw (nx T m)] 65 (0, 0)) := by
  rw [HVP.out, ← hw3]; exact heap_new_ w2 _
 have hTb : ∀ q, q < T.length → (tg T q).b < w.heap.size := fun q hq => blk_lt (HS.out.mem.blk q hq)
 have HTb := Lib.hid hTb
 have hle := HB2.out.size
 have hseq := towers_seq 5 (by omega) T m w2.heap.size w.heap.size w3 (HS.out.below hb03).mem hB hTb hle HMT.out
 have hI0 : SI w T u [] w3 := ⟨⟨⟨_, blk_below HO2.out hb23, Kd.R_nil _ _ _ _ _⟩, hb03, by omega⟩, (HS.out.below hb03).mem, blk_below HU2.out hb23, by simp⟩
 have hn1 : w.heap.size ≤ w3.heap.size := by omega
 have HN1 := Lib.hid hn1
 rw [hw3]
 obtain ⟨B, hB0⟩ : ∃ B, w2.heap.size = B := ⟨_, rfl⟩
 rw [hB0] at hseq ⊢
 clear hw3 hb23 hb03 hs3 hB hTb hle hB0
 refine (wpIn_wide (n := 6)).1 ?_
 obtain ⟨b0, hb0⟩ : ∃ b0, (tg T m).b = b0 := ⟨_, rfl⟩
 rw [hb0]
 clear hb0
 refine wpIn_range_h rfl (by omega) (gf := 43) (lb := #[.pointer (some ⟨B, 0, none⟩)]) rfl trivial (Go.Proofs.enters_of Try.func43 (by kernel_rfl) rfl) hn1 hseq (fun _ => rfl)
  (fun pre W => SI w T u pre W) (fun cd pre W => cd = .exit 0 ∧ ∃ pre0 x, pre = pre0 ++ [x] ∧ SI w T u pre0 W ∧ ¬ cmpK x.c.f0 u < 0) (fun _ _ _ h hm => h.mvb HTb.out HN1.out hm) (fun _ _ _ _ h hm => by obtain ⟨h1, p0, x, h2, h3, h4⟩ := h; exact ⟨h1, p0, x, h2, h3.mvb HTb.out HN1.out hm, h4⟩) hI0
  (fun pre x a' W => SI w T u pre W ∧ a' = { tmps := #[.pointer (some ⟨l0, 0, none⟩), .agg (ka f), .agg (ka u), undef, .pointer (some ⟨w.heap.size, 0, none⟩), .pointer (some ⟨w.heap.size + 1, 0, none⟩), .nilFunc, .pointer (some ⟨w.heap.size + 1 + 1, 0, none⟩), .pointer (some ⟨x.b, 0, none⟩), .pointer (some ⟨l0, 0, none⟩), .bool true, .pointer (some ⟨l0, 0, none⟩), .agg #[.string f.f0, .string f.f1, .int .i64 f.f2, .string f.f3], .agg #[.pointer (some ⟨b0, 0, none⟩), p1, p2, p3, p4, p5, p6, p7], .pointer (some ⟨b0, 0, none⟩), .pointer (some ⟨b0, 0, none⟩), .pointer (some ⟨b0, 11, none⟩), .pointer (some ⟨b0, 11, none⟩), .pointer vp, .func (.func 43) #[] #[.pointer (some ⟨B, 0, none⟩)], .pointer (some ⟨x.b, 0, none⟩), undef, undef, undef, undef, undef, undef, undef, undef, undef, undef, undef, undef, undef, undef, undef, undef, undef], defers := [] })
  (fun pre x a' V C h hm => ⟨h.1.mvb HTb.out HN1.out hm, h.2⟩) ?assign ?body ?done ?stop
 case assign =>
  intro l pre x W K hI _ hK
  gi_wp2
  exact hK _ _ (KO.of (KeepsOthers.below (Below.refl _ _))) (Kp.below (Below.refl _ _)) ⟨hI, rfl⟩
 case body =>
  rintro l pre x a' W ⟨hI, rfl⟩ hpre
  have hlen := hpre.length_le
  have hx : x = tg T (m + pre.length + 1) ∧ m + pre.length + 1 < T.length := by
   rw [List.length_append, List.length_singleton, List.length_drop] at hlen
   refine ⟨?_, by omega⟩
   obtain ⟨r, hr⟩ := hpre
   have h1 : (pre ++ [x] ++ r)[pre.length]? = some x := by simp
   rw [hr, List.getElem?_drop, show m + 1 + pre.length = m + pre.length + 1 by omega, tg_lt (by omega)] at h1
   injection h1 with h1; exact h1.symm
  have hbk := hI.mem.blk _ hx.2
  rw [← hx.1] at hbk
  have hos0 : (pre.map (·.c)).length ≤ 1000 := by rw [List.length_map]; omega
  have HI := Lib.hid hI
  have HBK := Lib.hid hbk
  have k0 := (blk_cell hbk 0).trans (show _ = some (Value.string x.c.f0.f0) from rfl)
  have k1 := (blk_cell hbk 1).trans (show _ = some (Value.string x.c.f0.f1) from rfl)
  have k2 := (blk_cell hbk 2).trans (show _ = some (Value.int .i64 x.c.f0.f2) from rfl)
  have k3 := (blk_cell hbk 3).trans (show _ = some (Value.string x.c.f0.f3) from rfl)
  have y0 := (blk_cell hI.ub 0).trans (show _ = some (Value.string u.f0) from rfl)
  have y1 := (blk_cell hI.ub 1).trans (show _ = some (Value.string u.f1) from rfl)
  have y2 := (blk_cell hI.ub 2).trans (show _ = some (Value.int .i64 u.f2) from rfl)
  have y3 := (blk_cell hI.ub 3).trans (show _ = some (Value.string u.f3) from rfl)
  have HK := Lib.hid (fun W => (callsIn_wide (n := 3)).2 (key_Cmp.calls 6 x.c.f0.f0 x.c.f0.f1 x.c.f0.f2 x.c.f0.f3 u.f0 u.f1 u.f2 u.f3 (cmpK x.c.f0 u) W (key_Cmp_f 6 (Nat.le_refl _) x.c.f0 u)))
  obtain ⟨d, hd⟩ : ∃ d, cmpK x.c.f0 u = d := ⟨_, rfl⟩
  rw [hd] at HK
  have HD := Lib.hid hd
  have HOS0 := Lib.hid hos0
  clear hI hbk hx hlen hos0 hd
  gi_wp2
  refine wpIn_mono (Q := fun e1 a1 W1 => e1 = .normal ∧ (∃ v21 v22 v23 v24 v25 v26 v27, a1 = { tmps := #[.pointer (some ⟨l0, 0, none⟩), .agg (ka f), .agg (ka u), undef, .pointer (some ⟨w.heap.size, 0, none⟩), .pointer (some ⟨w.heap.size + 1, 0, none⟩), .nilFunc, .pointer (some ⟨w.heap.size + 1 + 1, 0, none⟩), .pointer (some ⟨x.b, 0, none⟩), .pointer (some ⟨l0, 0, none⟩), .bool true, .pointer (some ⟨l0, 0, none⟩), .agg #[.string f.f0, .string f.f1, .int .i64 f.f2, .string f.f3], .agg #[.pointer (some ⟨b0, 0, none⟩), p1, p2, p3, p4, p5, p6, p7], .pointer (some ⟨b0, 0, none⟩), .pointer (some ⟨b0, 0, none⟩), .pointer (some ⟨b0, 11, none⟩), .pointer (some ⟨b0, 11, none⟩), .pointer vp, .func (.func 43) #[] #[.pointer (some ⟨B, 0, none⟩)], .pointer (some ⟨x.b, 0, none⟩), v21, v22, v23, v24, v25, v26, v27, .bool (decide (0 ≤ d)), undef, undef, undef, undef, undef, undef, undef, undef, undef], defers := [] }) ∧ Below W.heap.size W W1) ?_ ?_
  rotate_left
  ·
   rintro e1 a1 W1 ⟨rfl, ⟨v21, v22, v23, v24, v25, v26, v27, rfl⟩, hb1⟩
   have HB1 := Lib.hid hb1
   have HI1 := Lib.hid (HI.out.below hb1)
   by_cases hdd : d < 0
   ·
    rw [show decide (0 ≤ d) = false from decide_eq_false (by omega)]
    have hbk1 := blk_below HBK.out hb1
    have HDD := Lib.hid hdd
    obtain ⟨v, hv, hR⟩ := HI1.out.out.box
    obtain ⟨Av, cv, rfl⟩ := Kd.R_slice hR
    have hos0 := HOS0.out
    obtain ⟨os, hos⟩ : ∃ os, pre.map (·.c) = os := ⟨_, rfl⟩
    rw [hos] at hR hos0 hv
    have HOS := Lib.hid hos
    have HR := Lib.hid hR
    have HV := Lib.hid hv
    have HLN := Lib.hid (show (os.length + 1) * 112 ≤ 140737488355328 by omega)
    have cb := (blk_cell hv 0).trans (show _ = some (Value.slice Av os.length cv) from rfl)
    have fb := blk_frozen hv 0
    have d0 := (blk_cell hbk1 0).trans (show _ = some (Value.string x.c.f0.f0) from rfl)
    have d1 := (blk_cell hbk1 1).trans (show _ = some (Value.string x.c.f0.f1) from rfl)
    have d2 := (blk_cell hbk1 2).trans (show _ = some (Value.int .i64 x.c.f0.f2) from rfl)
    have d3 := (blk_cell hbk1 3).trans (show _ = some (Value.string x.c.f0.f3) from rfl)
    have d4 := (blk_cell hbk1 4).trans (show _ = some (Value.int .i64 x.c.f1.f0) from rfl)
    have d5 := (blk_cell hbk1 5).trans (show _ = some (Value.bool x.c.f1.f1) from rfl)
    have d6 := (blk_cell hbk1 6).trans (show _ = some (Value.int .i64 x.c.f1.f2) from rfl)
    have d7 := (blk_cell hbk1 7).trans (show _ = some (Value.int .i64 x.c.f1.f3.f0) from rfl)
    have d8 := (blk_cell hbk1 8).trans (show _ = some (Value.int .i64 x.c.f1.f3.f1) from rfl)
    have d9 := (blk_cell hbk1 9).trans (show _ = some (Value.string x.c.f1.f3.f2) from rfl)
    have cbB := fun o => (blk_cell (blk_alloc hv o) 0).trans (show _ = some (Value.slice Av os.length cv) from rfl)
    have cbA := fun o => (blk_cell (blk_alloc (blk_drew hv) o) 0).trans (show _ = some (Value.slice Av os.length cv) from rfl)
    clear hR hos0 hv hos hbk1 hdd hb1 k0 k1 k2 k3 y0 y1 y2 y3
    gi_wp2
    refine wpIn_region_any (by kernel_rfl) ?_
    (try change wpAnyIn _ _ _ _ _ _ _ _ _ (World.drew _))
    repeat (any_goals (first
     | (refine wpAnyIn_ready (rs := [0, 1]) ?_ ?_ ?_; decide +kernel; decide)
     | (refine wpAnyIn_ready (rs := [0, 2]) ?_ ?_ ?_; decide +kernel; decide)
     | (refine wpAnyIn_ready (rs := [0, 3]) ?_ ?_ ?_; decide +kernel; decide)
     | (refine wpAnyIn_ready (rs := [0, 4]) ?_ ?_ ?_; decide +kernel; decide)
     | (refine wpAnyIn_ready (rs := [0, 5]) ?_ ?_ ?_; decide +kernel; decide)
     | (refine wpAnyIn_ready (rs := [0]) ?_ ?_ ?_; decide +kernel; decide)
     | (refine wpAnyIn_ready (rs := [1]) ?_ ?_ ?_; decide +kernel; decide)
     | (refine wpAnyIn_ready (rs := [2]) ?_ ?_ ?_; decide +kernel; decide)
     | (refine wpAnyIn_ready (rs := [3]) ?_ ?_ ?_; decide +kernel; decide)
     | (refine wpAnyIn_ready (rs := [4]) ?_ ?_ ?_; decide +kernel; decide)
     | (refine wpAnyIn_ready (rs := [5]) ?_ ?_ ?_; decide +kernel; decide)
     | (refine wpAnyIn_ready (rs := [7]) ?_ ?_ ?_; decide +kernel; decide)
     | (refine wpAnyIn_done ?_ ?_ _; decide +kernel)
     | (exact AllReadyIn.nil)
     | (refine AllReadyIn.cons rfl (fun K hK => ?_) ?_)
     | (go_simp; refine hK _ _ ?_; clear hK K)))
    all_goals
     refine wpAnyIn_ready (rs := [6]) ?_ ?_ ?_
     decide +kernel
     decide
     refine AllReadyIn.cons rfl (fun K hK => ?_) AllReadyIn.nil
     refine R_append_stepIn k37 (w0 := w) w.heap.size (by rfl) (.tmp 29) (.tmp 34) 23 37 _ 112 (by rfl) Try.underlying23 info37 (by rfl) (by decide) (by omega) (.slice Av os.length cv) os x.c [.string x.c.f0.f0, .string x.c.f0.f1, .int .i64 x.c.f0.f2, .string x.c.f0.f3, .int .i64 x.c.f1.f0, .bool x.c.f1.f1, .int .i64 x.c.f1.f2, .int .i64 x.c.f1.f3.f0, .int .i64 x.c.f1.f3.f1, .string x.c.f1.f3.f2] (fun _ => True) (fun _ => False) (by rfl) (by rfl) (k37_mkM _ _ _ _) (fun _ hk => hk.elim) (fun _ _ => trivial) (Kd.R_drew HR.out) (below_drew HI1.out.out.bel) (below_size (below_drew HI1.out.out.bel)) HLN.out ?_
     intro v1 w1 ho hb1 hg1 _
     obtain ⟨A7, c7, rfl⟩ := Kd.R_slice ho
     have HO := Lib.hid ho
     have HBw := Lib.hid hb1
     have HG1 := Lib.hid hg1
     have cb1 := (blk_cell (blk_grown (blk_drew HV.out) hg1 (Kd.R_ne (Kd.R_drew HR.out) (blk_drew HV.out) (by decide))) 0).trans (show _ = some (Value.slice Av os.length cv) from rfl)
     have fb1 := blk_frozen (blk_grown (blk_drew HV.out) hg1 (Kd.R_ne (Kd.R_drew HR.out) (blk_drew HV.out) (by decide))) 0
     clear ho hb1 hg1
     refine hK _ _ ?_
     clear hK K
     refine wpAnyIn_ready (rs := [7]) ?_ ?_ ?_
     decide +kernel
     decide
     refine AllReadyIn.cons rfl (fun K hK => ?_) AllReadyIn.nil
     go_simp
     refine hK _ _ ?_
     clear hK K
     refine wpAnyIn_done ?_ ?_ _
     decide +kernel
     gi_wp2
     have hg := HG1.out
     have hkp : Kp 65 0 w.heap.size W (w1.setCell ⟨w.heap.size + 1 + 1, 0, none⟩ (.slice A7 (os.length + 1) c7)) := (Kp.below (n0 := 0) (HB1.out.trans (below_drew (Below.refl _ _)))).trans (Kp.put (d := k37) (by decide) (by decide) (Kd.R_drew HR.out) (Nat.le_refl _) (blk_drew HV.out) hg (by omega))
     refine ⟨?_, hkp, ?_⟩
     ·
      exact KO.of ((((KeepsOthers.below HB1.out).trans (KeepsOthers.below (below_drew (Below.refl _ _)))).trans (KeepsOthers.grown (Kd.R_drew HR.out) hg)).trans (KeepsOthers.setCell _ _ _))
     ·
      have ho := HO.out
      rw [show (os ++ [x.c]).length = os.length + 1 by rw [List.length_append, List.length_singleton]] at ho
      refine ⟨?_, Mem.kp HI.out.mem HTb.out hkp, ?_, ?_⟩
      ·
       rw [List.map_append, List.map_cons, List.map_nil, HOS.out]
       have h0 := HI1.out.out.below (below_drew (Below.refl _ _))
       rw [HOS.out] at h0
       exact OutB.put rfl (by decide) h0 (blk_drew HV.out) (Kd.R_drew HR.out) ho HBw.out hg
      ·
       refine blk_far (blk_grown (blk_drew HI1.out.ub) hg (Kd.R_ne (Kd.R_drew HR.out) (blk_drew HI1.out.ub) (by decide))) (p := ⟨w.heap.size + 1 + 1, 0, none⟩) (by simp) _
      ·
       intro y hy
       rcases List.mem_append.1 hy with hy | hy
       ·
        exact HI.out.lt y hy
       ·
        rw [List.mem_singleton] at hy; subst hy; rw [HD.out]; exact HDD.out
   ·
    rw [show decide (0 ≤ d) = true from decide_eq_true (by omega)]
    have HDD := Lib.hid hdd
    clear hdd k0 k1 k2 k3 y0 y1 y2 y3
    gi_wp2
    exact ⟨KO.of (KeepsOthers.below HB1.out), rfl, pre, x, rfl, HI1.out, by rw [HD.out]; exact HDD.out⟩
  refine wpIn_region_any (by kernel_rfl) ?_
  (try change wpAnyIn _ _ _ _ _ _ _ _ _ (World.drew _))
  repeat (any_goals (first
   | (refine wpAnyIn_ready (rs := [0, 5]) ?_ ?_ ?_; decide +kernel; decide)
   | (refine wpAnyIn_ready (rs := [1, 5]) ?_ ?_ ?_; decide +kernel; decide)
   | (refine wpAnyIn_ready (rs := [2, 5]) ?_ ?_ ?_; decide +kernel; decide)
   | (refine wpAnyIn_ready (rs := [3, 5]) ?_ ?_ ?_; decide +kernel; decide)
   | (refine wpAnyIn_ready (rs := [4, 5]) ?_ ?_ ?_; decide +kernel; decide)
   | (refine wpAnyIn_ready (rs := [0]) ?_ ?_ ?_; decide +kernel; decide)
   | (refine wpAnyIn_ready (rs := [1]) ?_ ?_ ?_; decide +kernel; decide)
   | (refine wpAnyIn_ready (rs := [2]) ?_ ?_ ?_; decide +kernel; decide)
   | (refine wpAnyIn_ready (rs := [3]) ?_ ?_ ?_; decide +kernel; decide)
   | (refine wpAnyIn_ready (rs := [4]) ?_ ?_ ?_; decide +kernel; decide)
   | (refine wpAnyIn_ready (rs := [5]) ?_ ?_ ?_; decide +kernel; decide)
   | (refine wpAnyIn_ready (rs := [7]) ?_ ?_ ?_; decide +kernel; decide)
   | (refine wpAnyIn_done ?_ ?_ _; decide +kernel)
   | (exact AllReadyIn.nil)
   | (refine AllReadyIn.cons rfl (fun K hK => ?_) ?_)
   | (go_simp; refine hK _ _ ?_; clear hK K)))
  all_goals
   refine wpAnyIn_ready (rs := [6]) ?_ ?_ ?_
   decide +kernel
   decide
   refine AllReadyIn.cons rfl (fun K hK => ?_) AllReadyIn.nil
   go_simp
   refine ⟨trivial, (CallsIn.inRound l (HK.out _)).mono ?_⟩
   rintro e w9 ⟨rfl, hb⟩
   have hb := below_step (below_drew (Below.refl W.heap.size W)) hb
   have HB9 := Lib.hid hb
   clear hb
   refine hK _ _ ?_
   clear hK K
   refine wpAnyIn_ready (rs := [7]) ?_ ?_ ?_
   decide +kernel
   decide
   refine AllReadyIn.cons rfl (fun K hK => ?_) AllReadyIn.nil
   go_simp
   refine hK _ _ ?_
   clear hK K
   refine wpAnyIn_done ?_ ?_ _
   decide +kernel
   exact ⟨rfl, ⟨_, _, _, _, _, _, _, rfl⟩, HB9.out⟩
 case done =>
  rintro D W hD hI hK
  obtain ⟨v, hv, hR⟩ := hI.out.box
  have hs : (T.drop (m + 1)).map (·.c) = scanT T f u := by
   unfold scanT
   rw [HME.out, takeW_all _ _ fun y hy => decide_eq_true (hI.lt y hy)]
  rw [hs] at hR
  obtain ⟨Av, cv, rfl⟩ := Kd.R_slice hR
  obtain ⟨ns, hns⟩ : ∃ ns, (scanT T f u).length = ns := ⟨_, rfl⟩
  rw [hns] at hv hR
  have cb := (blk_cell hv 0).trans (show _ = some (Value.slice Av ns cv) from rfl)
  have HE := Lib.hid (scan_end hI.out.bel (Nat.le_trans HN1.out hD) hK hR)
  have HKd := Lib.hid (blk_alloc hK (.cells #[.slice Av ns cv] 23))
  clear hI hv hR hs hK hns hseq hI0
  go_wp2_with (go_at_call 38; (with_reducible refine (values_calls _ Av ns cv rfl _).mono ?_); rintro e w9 ⟨rfl, rfl⟩)
  refine ⟨by simp, .inl ⟨_, _, rfl, run_takeDeferred HKd.out, ?_⟩⟩
  refine ⟨_, ?_, ⟨W.heap.size, _, rfl, HE.out.1, HE.out.2.1, HE.out.2.2.1, HE.out.2.2.2⟩⟩
  simp [results, Try.f21, go_sem]
 case stop =>
  rintro D cd pre W hD hpre ⟨rfl, pre0, x, rfl, hI, hxu⟩ hK
  obtain ⟨v, hv, hR⟩ := hI.out.box
  have hs : (pre0).map (·.c) = scanT T f u := by
   obtain ⟨r, hr⟩ := hpre
   unfold scanT
   rw [HME.out, ← hr, List.append_assoc, List.singleton_append, takeW_stop _ x r (decide_eq_false hxu) pre0 fun y hy => decide_eq_true (hI.lt y hy)]
  rw [hs] at hR
  obtain ⟨Av, cv, rfl⟩ := Kd.R_slice hR
  obtain ⟨ns, hns⟩ : ∃ ns, (scanT T f u).length = ns := ⟨_, rfl⟩
  rw [hns] at hv hR
  have cb := (blk_cell hv 0).trans (show _ = some (Value.slice Av ns cv) from rfl)
  have HE := Lib.hid (scan_end hI.out.bel (Nat.le_trans HN1.out hD) hK hR)
  have HKd := Lib.hid (blk_alloc hK (.cells #[.slice Av ns cv] 23))
  clear hI hv hR hs hK hns hseq hI0
  refine (wpIn_wide (n := 6)).2 ?_
  go_wp2_with (go_at_call 38; (with_reducible refine (values_calls _ Av ns cv rfl _).mono ?_); rintro e w9 ⟨rfl, rfl⟩)
  refine ⟨by simp, .inl ⟨_, _, rfl, run_takeDeferred HKd.out, ?_⟩⟩
  refine ⟨_, ?_, ⟨W.heap.size, _, rfl, HE.out.1, HE.out.2.1, HE.out.2.2.1, HE.out.2.2.2⟩⟩
  simp [results, Try.f21, go_sem]
end Go.Proofs.Ytlffkbcaphhldaa.Q
