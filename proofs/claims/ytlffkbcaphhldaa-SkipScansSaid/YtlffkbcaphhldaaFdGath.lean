/- Lemmas for this claim's walk: no condition of their own. -/
import Derived.Test.YtlffkbcaphhldaaFdValS
import Derived.Test.YtlffkbcaphhldaaFdJ4
import Derived.Deep.MidRow
import Derived.WalkLawsBesides
import Derived.WalkSpells
import Derived.Lib.Hide
import Derived.Deep.DeepFit
import Derived.Outline
namespace Go.Proofs.Ytlffkbcaphhldaa.Q
open Go.RowKit Go.Proofs.YtlffkbcaphhldaaW.PrintWords Go.Proofs.YtlffkbcaphhldaaW.PrintLast Go.Proofs.YtlffkbcaphhldaaW.PrintMore
attribute [local go_sem] max2_int min2_int max_two min_two max_three min_three max_four min_four
set_option linter.unusedVariables false
set_option linter.unusedSimpArgs false
open Go.Lib Go.Proofs.Ytlffkbcaphhldaa.Sk Go.Proofs.Ytlffkbcaphhldaa.Pl Go.Proofs.Ytlffkbcaphhldaa.Ord Go.Proofs.Ytlffkbcaphhldaa.Nm Go.Proofs.Ytlffkbcaphhldaa.Rh
attribute [local go_sem] Oper.semAt_some
theorem eqF (d : Nat) (w : World) (f : Fn) (x y : Array Value) : (Op.equalIn (d + 1) 53 (.func f x y) .nilFunc).run Try.prog w = .ok false w := by
 have h := Try.underlying53
 unfold Op.equalIn
 simp [go_sem, h]
theorem eqFn (w : World) (f : Fn) (x y : Array Value) : (binOp .eql 53 (.func f x y) .nilFunc).run Try.prog w = .ok (.bool false) w := by
 simp only [binOp]
 simp [Op.equal, Op.maxDepth, eqF 9999]
attribute [local go_sem high] eqFn
def gathL (stop : Int) (l : List Cl) : List Cl := if 0 ≤ stop ∧ stop < l.length then l.take stop.toNat else l
structure GI (w : World) (n1 : Nat) (stop : Int) (pre : List Cl) (W : World) : Prop where
 box : ∃ v, W.heap[w.heap.size + 1 + 1 + 1]? = some (.cells #[v] 23 (0, 0)) ∧ Kd.R k37 37 W w.heap.size (fun k => n1 ≤ k) v pre
 sb : W.heap[w.heap.size + 1 + 1]? = some (.cells #[.int .i64 stop] 3 (0, 0))
 bel : Below w.heap.size w W
 le : w.heap.size + 4 ≤ n1 ∧ n1 ≤ W.heap.size
 ns : ∀ i : Nat, i < pre.length → (i : Int) ≠ stop
theorem GI.below {w : World} {n1 : Nat} {stop : Int} {pre : List Cl} {A C : World} (h : GI w n1 stop pre A) (hb : Below A.heap.size A C) : GI w n1 stop pre C := by
 obtain ⟨⟨v, h1, h2⟩, h3, h4, h5, h6⟩ := h
 exact ⟨⟨v, blk_below h1 hb, Kd.R_below h2 hb⟩, blk_below h3 hb, below_step h4 hb, ⟨h5.1, Nat.le_trans h5.2 hb.size⟩, h6⟩
theorem GI.mvb {w : World} {n1 B : Nat} {stop : Int} {pre : List Cl} {A C : World} (h : GI w n1 stop pre A) (hB : n1 ≤ B) (hm : MvB 65 n1 B A C) : GI w n1 stop pre C := by
 obtain ⟨⟨v, h1, h2⟩, h3, h4, h5, h6⟩ := h
 refine ⟨⟨v, (hm.same _ (blk_lt h1) (.inr (typed_ne h1 (by decide))) (.inr ⟨_, h1, rfl⟩)).trans h1, ?_⟩, (hm.same _ (blk_lt h3) (.inr (typed_ne h3 (by decide))) (.inr ⟨_, h3, rfl⟩)).trans h3, ⟨hm.os.trans h4.os, hm.tape.trans h4.tape, hm.output.trans h4.output, Nat.le_trans h4.size hm.size, fun k hk => (hm.same k (Nat.lt_of_lt_of_le hk h4.size) (.inl (by omega)) (.inl (by omega))).trans (h4.block k hk)⟩, ⟨h5.1, Nat.le_trans h5.2 hm.size⟩, h6⟩
 refine Kd.R_mono (Kd.R_move (Kd.R_bound h2) fun k hk => ?_) (fun k hk => hk.1)
 obtain ⟨-, -, hk2, q, hq, cells, hc⟩ := hk
 obtain rfl : q = 37 := by
  rcases List.mem_cons.1 hq with e | e
  ·
   exact e
  ·
   cases e
 exact hm.same k hk2 (.inr (typed_ne hc (by decide))) (.inr ⟨_, hc, rfl⟩)
theorem GI.put {w : World} {n1 : Nat} {stop : Int} {pre : List Cl} {x : Cl} {A C : World} {v v1 : Value} (h : GI w n1 stop pre A) (hv : A.heap[w.heap.size + 1 + 1 + 1]? = some (.cells #[v] 23 (0, 0))) (hR0 : Kd.R k37 37 A w.heap.size (fun k => n1 ≤ k) v pre) (hR : Kd.R k37 37 C w.heap.size (fun k => n1 ≤ k) v1 (pre ++ [x])) (hB : Below w.heap.size w C) (hg : A.grownBy C v.ownBlock) (hs : (pre.length : Int) ≠ stop) : GI w n1 stop (pre ++ [x]) (C.setCell ⟨w.heap.size + 1 + 1 + 1, 0, none⟩ v1) := by
 obtain ⟨-, h3, h4, h5, h6⟩ := h
 have hb : C.heap[w.heap.size + 1 + 1 + 1]? = some (.cells #[v] 23 (0, 0)) := blk_grown hv hg (Kd.R_ne hR0 hv (by decide))
 have hb3 := blk_grown h3 hg (Kd.R_ne hR0 h3 (by decide))
 have hsz : (C.setCell ⟨w.heap.size + 1 + 1 + 1, 0, none⟩ v1).heap.size = C.heap.size := by simp [World.setCell]
 refine ⟨⟨v1, blk_put hb 0 _ rfl, Kd.R_far (p := ⟨w.heap.size + 1 + 1 + 1, 0, none⟩) hR (fun k hk => by have hk : n1 ≤ k := hk; have h7 := h5.1; show k ≠ w.heap.size + 1 + 1 + 1; omega) _⟩, blk_far hb3 (p := ⟨w.heap.size + 1 + 1 + 1, 0, none⟩) (by simp) _, below_set hB (by omega), ⟨h5.1, by rw [hsz]; exact Nat.le_trans h5.2 hg.size⟩, fun i hi => ?_⟩
 rw [List.length_append, List.length_singleton] at hi
 by_cases e : i < pre.length
 ·
  exact h6 i e
 ·
  rw [show i = pre.length by omega]; exact hs
theorem GKp.put {w : World} {n0 n1 : Nat} {pre : List Cl} {A C : World} {v v1 : Value} (hv : A.heap[w.heap.size + 1 + 1 + 1]? = some (.cells #[v] 23 (0, 0))) (hR0 : Kd.R k37 37 A w.heap.size (fun k => n1 ≤ k) v pre) (hg : A.grownBy C v.ownBlock) (hb : w.heap.size + 1 + 1 + 1 < n0) : Kp 65 n0 n1 A (C.setCell ⟨w.heap.size + 1 + 1 + 1, 0, none⟩ v1) := by
 have hs : (C.setCell ⟨w.heap.size + 1 + 1 + 1, 0, none⟩ v1).heap.size = C.heap.size := by simp [World.setCell]
 refine ⟨hg.os, hg.tape, hg.output, by rw [hs]; exact hg.size, fun k hk hc => ?_⟩
 have hne : k ≠ w.heap.size + 1 + 1 + 1 := fun e => by
  subst e
  rcases hc with hc | ⟨cells, fr, hc⟩
  ·
   omega
  ·
   exact typed_ne hv (by decide) _ _ hc
 refine (Below.heap_setCell _ ⟨w.heap.size + 1 + 1 + 1, 0, none⟩ v1 k hne).trans (hg.block k hk fun e => ?_)
 rcases hc with hc | ⟨cells, fr, hc⟩
 ·
  have := hR0.1 k e.symm; omega
 ·
  obtain ⟨cs, h2⟩ := Kd.R_typed hR0 k e.symm
  exact typed_ne h2 (by decide) _ _ hc
theorem scan_len (T : List Tw) (f u : Ky) : (scanT T f u).length ≤ T.length := by
 unfold scanT
 rw [List.length_map]
 exact Nat.le_trans (List.takeWhile_sublist _).length_le (by rw [List.length_drop]; omega)
set_option maxHeartbeats 4000000 in
set_option maxRecDepth 100000 in
theorem gather_of (p0 : Option Addr) (zs : List Cl) (f u : Ky) (stop : Int) (w : World) (hsc : ∀ W, Below w.heap.size w W → Calls Try.prog 21 #[.pointer p0, .agg (ka f), .agg (ka u)] W fun e w' => ∃ (B : Nat) (v : Value), e = .returned (.func (.func 48) #[] #[.pointer (some ⟨B, 0, none⟩)]) ∧ w'.heap[B]? = some (.cells #[v] 23 (0, 0)) ∧ W.heap.size ≤ B ∧ Kd.R k37 37 w' W.heap.size (fun _ => True) v zs ∧ Below W.heap.size W w') (hln : zs.length ≤ 1000) :
  Calls Try.prog 20 #[.pointer p0, .agg (ka f), .agg (ka u), .int .i64 stop] w fun e w' => ∃ v : Value, e = .returned v ∧ Kd.R k37 37 w' w.heap.size (fun _ => True) v (gathL stop zs) ∧ Below w.heap.size w w' := by
 have hb4 : Below w.heap.size w ((((w.alloc (.cells (ka f) 31)).alloc (.cells (ka u) 31)).alloc (.cells #[.int .i64 stop] 3)).alloc (.cells #[.slice none 0 0] 23)) := below_alloc (below_alloc (below_alloc (below_alloc (Below.refl _ _) _) _) _) _
 have HB4 := Lib.hid hb4
 have HC := Lib.hid (hsc _ hb4)
 have HSB := Lib.hid (show ((((w.alloc (.cells (ka f) 31)).alloc (.cells (ka u) 31)).alloc (.cells #[.int .i64 stop] 3)).alloc (.cells #[.slice none 0 0] 23)).heap[w.heap.size + 1 + 1]? = some (.cells #[.int .i64 stop] 3 (0, 0)) from by
  have h := heap_new_ ((w.alloc (.cells (ka f) 31)).alloc (.cells (ka u) 31)) (.cells #[.int .i64 stop] 3)
  simp only [World.size_alloc] at h
  exact blk_alloc h _)
 have HO := Lib.hid (show ((((w.alloc (.cells (ka f) 31)).alloc (.cells (ka u) 31)).alloc (.cells #[.int .i64 stop] 3)).alloc (.cells #[.slice none 0 0] 23)).heap[w.heap.size + 1 + 1 + 1]? = some (.cells #[.slice none 0 0] 23 (0, 0)) from by
  have h := heap_new_ (((w.alloc (.cells (ka f) 31)).alloc (.cells (ka u) 31)).alloc (.cells #[.int .i64 stop] 3)) (.cells #[.slice none 0 0] 23)
  simp only [World.size_alloc] at h
  exact h)
 have HSZ := Lib.hid (show ((((w.alloc (.cells (ka f) 31)).alloc (.cells (ka u) 31)).alloc (.cells #[.int .i64 stop] 3)).alloc (.cells #[.slice none 0 0] 23)).heap.size = w.heap.size + 4 by simp)
 have HLN := Lib.hid hln
 clear hsc hln hb4
 refine (callsIn_wide (n := 6)).1 ?_
 refine callsIn_of_wp_marks Try.func20 rfl trivial ?_ rfl
 simp only [Try.ntmps20, List.size_toArray, List.length_cons, List.length_nil, Nat.reduceAdd, Nat.reduceSub, Array.replicate_succ, Array.replicate_zero, List.push_toArray, List.append_toArray, List.nil_append, List.cons_append]
 refine (wpIn_wide (n := 6)).2 ?_
 go_wp2_with (go_at_call 21; (with_reducible refine HC.out.mono ?_); rintro e w2 ⟨B, v, rfl, hbx, hge, hr, hb⟩; have HBX := Lib.hid hbx; have HGE := Lib.hid hge; have HR2 := Lib.hid hr; have HB2 := Lib.hid (below_step HB4.out hb); have HSB2 := Lib.hid (blk_below HSB.out hb); have HO2 := Lib.hid (blk_below HO.out hb); clear hbx hge hr hb)
 obtain ⟨A2, c2, rfl⟩ := Kd.R_slice HR2.out
 have hsz := HSZ.out
 have hge := HGE.out
 rw [hsz] at hge
 have hlt := blk_lt HBX.out
 have hR2 : Kd.R k37 37 w2 (w.heap.size + 4) (fun k => w.heap.size + 4 ≤ k ∧ k < w2.heap.size) (.slice A2 zs.length c2) zs := by
  have h := HR2.out
  rw [hsz] at h
  exact Kd.R_mono (Kd.R_bound h) fun k hk => ⟨hk.2.1, hk.2.2.1⟩
 have hseq := values_seq 5 (by omega) A2 c2 zs (w.heap.size + 4) B (w.heap.size + 4) w2.heap.size w2 HBX.out hR2 ⟨hge, hlt⟩ HLN.out
 have hI0 : GI w w2.heap.size stop [] w2 := ⟨⟨_, HO2.out, Kd.R_nil _ _ _ _ _⟩, HSB2.out, HB2.out, ⟨by omega, Nat.le_refl _⟩, by simp⟩
 have HN1 := Lib.hid (show w.heap.size ≤ w2.heap.size by omega)
 clear hsz hge hlt hR2
 refine (wpIn_wide (n := 6)).1 ?_
 refine wpIn_range_h rfl (by omega) (gf := 48) (lb := #[.pointer (some ⟨B, 0, none⟩)]) rfl trivial (Go.Proofs.enters_of Try.func48 (by kernel_rfl) rfl) (Nat.le_refl _) hseq (fun _ => rfl)
  (fun pre W => GI w w2.heap.size stop pre W) (fun cd pre W => cd = .exit 0 ∧ ∃ pre0 x, pre = pre0 ++ [x] ∧ GI w w2.heap.size stop pre0 W ∧ (pre0.length : Int) = stop) (fun _ _ _ h hm => h.mvb (Nat.le_refl _) hm) (fun _ _ _ _ h hm => by obtain ⟨h1, p0, x, h2, h3, h4⟩ := h; exact ⟨h1, p0, x, h2, h3.mvb (Nat.le_refl _) hm, h4⟩) hI0
  (fun pre x a' W => GI w w2.heap.size stop pre W ∧ ∃ bl, w2.heap.size ≤ bl ∧ W.heap[bl]? = some (.cells (cc x) 37 (0, 0)) ∧ a' = { tmps := #[.pointer p0, .agg (ka f), .agg (ka u), .int .i64 stop, undef, .pointer (some ⟨w.heap.size, 0, none⟩), .pointer (some ⟨w.heap.size + 1, 0, none⟩), .pointer (some ⟨w.heap.size + 1 + 1, 0, none⟩), .slice none 0 0, .pointer (some ⟨w.heap.size + 1 + 1 + 1, 0, none⟩), .func (.func 48) #[] #[.pointer (some ⟨B, 0, none⟩)], .pointer (some ⟨bl, 0, none⟩), .pointer p0, .agg #[.string f.f0, .string f.f1, .int .i64 f.f2, .string f.f3], .agg #[.string u.f0, .string u.f1, .int .i64 u.f2, .string u.f3], .func (.func 48) #[] #[.pointer (some ⟨B, 0, none⟩)], .func (.func 48) #[] #[.pointer (some ⟨B, 0, none⟩)], .bool false, .func (.func 48) #[] #[.pointer (some ⟨B, 0, none⟩)], .agg (cc x), undef, undef, undef, undef, undef, undef, undef, undef, undef], defers := [] })
  (fun pre x a' V C h hm => ⟨h.1.mvb (Nat.le_refl _) hm, by obtain ⟨bl, h1, h2, h3⟩ := h.2; exact ⟨bl, h1, (hm.same bl (blk_lt h2) (.inr (typed_ne h2 (by decide))) (.inr ⟨_, h2, rfl⟩)).trans h2, h3⟩⟩) ?assign ?body ?done ?stop
 case assign =>
  intro l pre x W K hI _ hK
  gi_wp2
  refine hK _ _ (KO.of (KeepsOthers.below (below_alloc (Below.refl _ _) _))) (Kp.below (below_alloc (Below.refl _ _) _)) ⟨hI.below (below_alloc (Below.refl _ _) _), W.heap.size, hI.le.2, ?_, rfl⟩
  exact heap_new_ _ _
 case body =>
  rintro l pre x a' W ⟨hI, bl, hbl, hc, rfl⟩ hpre
  obtain ⟨v, hv, hR⟩ := hI.box
  obtain ⟨Av, cv, rfl⟩ := Kd.R_slice hR
  have hlen := hpre.length_le
  rw [List.length_append, List.length_singleton] at hlen
  have hl1 : pre.length ≤ 1000 := by have := HLN.out; omega
  have cb := (blk_cell hv 0).trans (show _ = some (Value.slice Av pre.length cv) from rfl)
  have cs := (blk_cell hI.sb 0).trans (show _ = some (Value.int .i64 stop) from rfl)
  have HI := Lib.hid hI
  have HR := Lib.hid hR
  have HV := Lib.hid hv
  clear hI hR hlen
  by_cases hst : (pre.length : Int) = stop
  ·
   have e1 : ((pre.length : Int) == stop) = true := by simp [hst]
   have HST := Lib.hid hst
   clear hst hv hc
   gi_wp2
   exact ⟨KO.of (KeepsOthers.below (Below.refl _ _)), rfl, pre, x, rfl, HI.out, HST.out⟩
  ·
   have e1 : ((pre.length : Int) == stop) = false := by simp [hst]
   have HST := Lib.hid hst
   have fb := blk_frozen hv 0
   have d0 := (blk_cell hc 0).trans (show _ = some (Value.string x.f0.f0) from rfl)
   have d1 := (blk_cell hc 1).trans (show _ = some (Value.string x.f0.f1) from rfl)
   have d2 := (blk_cell hc 2).trans (show _ = some (Value.int .i64 x.f0.f2) from rfl)
   have d3 := (blk_cell hc 3).trans (show _ = some (Value.string x.f0.f3) from rfl)
   have d4 := (blk_cell hc 4).trans (show _ = some (Value.int .i64 x.f1.f0) from rfl)
   have d5 := (blk_cell hc 5).trans (show _ = some (Value.bool x.f1.f1) from rfl)
   have d6 := (blk_cell hc 6).trans (show _ = some (Value.int .i64 x.f1.f2) from rfl)
   have d7 := (blk_cell hc 7).trans (show _ = some (Value.int .i64 x.f1.f3.f0) from rfl)
   have d8 := (blk_cell hc 8).trans (show _ = some (Value.int .i64 x.f1.f3.f1) from rfl)
   have d9 := (blk_cell hc 9).trans (show _ = some (Value.string x.f1.f3.f2) from rfl)
   clear hst hv hc
   gi_wp2_with (gi_at_builtin; refine R_appendIn k37 (w0 := w) w.heap.size rfl (.tmp 24) (.tmp 26) 23 37 _ 112 rfl Try.underlying23 info37 rfl (by decide) (by omega) (.slice Av pre.length cv) pre x [.string x.f0.f0, .string x.f0.f1, .int .i64 x.f0.f2, .string x.f0.f3, .int .i64 x.f1.f0, .bool x.f1.f1, .int .i64 x.f1.f2, .int .i64 x.f1.f3.f0, .int .i64 x.f1.f3.f1, .string x.f1.f3.f2] (fun k => w2.heap.size ≤ k) (fun _ => False) rfl rfl (k37_mkM _ _ _ _) (fun _ hk => hk.elim) ?aF HR.out HI.out.bel (below_size HI.out.bel) ?aL ?_; (case aF => intro k hk; have := HI.out.le.2; show w2.heap.size ≤ k; omega); (case aL => omega); intro v1 w1 ho hb1 hg1 _; obtain ⟨A7, c7, rfl⟩ := Kd.R_slice ho; have HO3 := Lib.hid ho; have HB1 := Lib.hid hb1; have HG1 := Lib.hid hg1; have cb1 := (blk_cell (blk_grown HV.out hg1 (Kd.R_ne HR.out HV.out (by decide))) 0).trans (show _ = some (Value.slice Av pre.length cv) from rfl); have fb1 := blk_frozen (blk_grown HV.out hg1 (Kd.R_ne HR.out HV.out (by decide))) 0; clear ho hb1 hg1)
   refine ⟨?_, ?_, ?_⟩
   ·
    exact KO.of ((KeepsOthers.grown HR.out HG1.out).trans (KeepsOthers.setCell _ _ _))
   ·
    exact GKp.put HV.out HR.out HG1.out (by omega)
   ·
    have ho := HO3.out
    rw [show (pre ++ [x]).length = pre.length + 1 by rw [List.length_append, List.length_singleton]] at ho
    exact GI.put HI.out HV.out HR.out ho HB1.out HG1.out HST.out
 case done =>
  rintro D W hD hI hK
  obtain ⟨v, hv, hR⟩ := hI.box
  have hs : zs = gathL stop zs := by
   unfold gathL
   rw [if_neg fun h => hI.ns stop.toNat (by omega) (by omega)]
  rw [hs] at hR
  obtain ⟨Av, cv, rfl⟩ := Kd.R_slice hR
  obtain ⟨ns, hns⟩ : ∃ ns, (gathL stop zs).length = ns := ⟨_, rfl⟩
  rw [hns] at hv hR
  have cb := (blk_cell hv 0).trans (show _ = some (Value.slice Av ns cv) from rfl)
  have HI := Lib.hid hI
  have HR := Lib.hid hR
  have HKd := Lib.hid hK
  clear hI hv hR hs hK hns hseq hI0
  go_wp2_with fail
  refine ⟨by simp, .inl ⟨_, _, rfl, run_takeDeferred HKd.out, ?_⟩⟩
  have hb3 : Below w.heap.size w (W.putObj D (.deferred none)) := HI.out.bel.trans (belowK_b (w := w) (Nat.le_refl _) W D _ _ (Nat.le_trans HN1.out hD) HKd.out rfl rfl)
  refine ⟨.slice Av ns cv, ?_, ⟨_, rfl, ?_, hb3⟩⟩
  ·
   simp [results, Try.f20, go_sem]
  ·
   refine Kd.R_mono (Kd.R_move (Kd.R_bound HR.out) fun k hk => ?_) (fun _ _ => trivial)
   obtain ⟨-, -, -, q, -, cells, h4⟩ := hk
   exact World.putObj_heap_other (fun e => by subst e; rw [HKd.out] at h4; cases h4)
 case stop =>
  rintro D cd pre W hD hpre ⟨rfl, pre0, x, rfl, hI, hst⟩ hK
  obtain ⟨v, hv, hR⟩ := hI.box
  have hs : pre0 = gathL stop zs := by
   obtain ⟨r, hr⟩ := hpre
   have hl : zs.length = pre0.length + 1 + r.length := by rw [← hr]; simp; omega
   unfold gathL
   rw [if_pos ⟨by omega, by omega⟩, ← hst, Int.toNat_natCast, ← hr, List.append_assoc, List.take_left]
  rw [hs] at hR
  obtain ⟨Av, cv, rfl⟩ := Kd.R_slice hR
  obtain ⟨ns, hns⟩ : ∃ ns, (gathL stop zs).length = ns := ⟨_, rfl⟩
  rw [hns] at hv hR
  have cb := (blk_cell hv 0).trans (show _ = some (Value.slice Av ns cv) from rfl)
  have HI := Lib.hid hI
  have HR := Lib.hid hR
  have HKd := Lib.hid hK
  clear hI hv hR hs hK hns hseq hI0
  refine (wpIn_wide (n := 6)).2 ?_
  go_wp2_with fail
  refine ⟨by simp, .inl ⟨_, _, rfl, run_takeDeferred HKd.out, ?_⟩⟩
  have hb3 : Below w.heap.size w (W.putObj D (.deferred none)) := HI.out.bel.trans (belowK_b (w := w) (Nat.le_refl _) W D _ _ (Nat.le_trans HN1.out hD) HKd.out rfl rfl)
  refine ⟨.slice Av ns cv, ?_, ⟨_, rfl, ?_, hb3⟩⟩
  ·
   simp [results, Try.f20, go_sem]
  ·
   refine Kd.R_mono (Kd.R_move (Kd.R_bound HR.out) fun k hk => ?_) (fun _ _ => trivial)
   obtain ⟨-, -, -, q, -, cells, h4⟩ := hk
   exact World.putObj_heap_other (fun e => by subst e; rw [HKd.out] at h4; cases h4)
theorem gather_calls (base l0 : Nat) (T : List Tw) (A : Option Addr) (c : Nat) (lv : List Int) (f u : Ky) (stop : Int) (w : World) (h : SL w base l0 T A c lv) (hT : T.length ≤ 1000) :
  Calls Try.prog 20 #[.pointer (some ⟨l0, 0, none⟩), .agg (ka f), .agg (ka u), .int .i64 stop] w fun e w' => ∃ v : Value, e = .returned v ∧ Kd.R k37 37 w' w.heap.size (fun _ => True) v (gathL stop (scanT T f u)) ∧ Below w.heap.size w w' :=
 gather_of (some ⟨l0, 0, none⟩) (scanT T f u) f u stop w (fun W hW => scan_calls base l0 T A c lv f u W (h.below hW) hT) (Nat.le_trans (scan_len T f u) hT)
end Go.Proofs.Ytlffkbcaphhldaa.Q
