/- Lemmas for this claim's walk: no condition of their own. -/
import Derived.Test.YtabiekkebdocnaaZeQx23
import Derived.Test.YtabiekkebdocnaaZeJ32
import Derived.Test.YtabiekkebdocnaaZeJ0
import Derived.Test.YtabiekkebdocnaaZeDown
import Derived.Test.YtabiekkebdocnaaZeSorted
import Derived.Test.YtabiekkebdocnaaZeTake
import Derived.Test.YtabiekkebdocnaaZeEach
import Derived.Test.YtabiekkebdocnaaZeGrp
import Derived.Test.YtabiekkebdocnaaZeRh
import Derived.Test.YtabiekkebdocnaaZeSeqE
import Derived.Test.YtabiekkebdocnaaZeJ13
import Derived.Test.YtabiekkebdocnaaZeAll
import Derived.Test.YtabiekkebdocnaaZeJ42
import Derived.Deep.MidRow
import Derived.WalkLawsBesides
import Derived.WalkSpells
import Derived.Lib.Hide
import Derived.Deep.DeepFit
import Derived.Outline
namespace Go.Proofs.Ytabiekkebdocnaa.Q
open Go.RowKit Go.Proofs.YtabiekkebdocnaaW.PrintWords Go.Proofs.YtabiekkebdocnaaW.PrintLast Go.Proofs.YtabiekkebdocnaaW.PrintMore
attribute [local go_sem] max2_int min2_int max_two min_two max_three min_three max_four min_four
set_option linter.unusedVariables false
set_option linter.unusedSimpArgs false
open Go.Lib Go.Proofs.Ytabiekkebdocnaa.Hp Go.Proofs.Ytabiekkebdocnaa.Pl Go.Proofs.Ytabiekkebdocnaa.Rh Go.Proofs.Ytabiekkebdocnaa.Ord Go.Proofs.Ytabiekkebdocnaa.Nm Go.Maps
attribute [local go_sem] Oper.semAt_some run_makeMap
structure MB (w : World) (n1 m0 b5 : Nat) (W : World) (os : List Cl) : Prop where
 box : W.heap[b5]? = some (.cells #[.map (some m0)] 66 (0, 0))
 own : ∃ (n : Nat) (D : DataW Value), W.ownsMap Try.prog 33 RV m0 n D ∧ n ≤ os.length ∧ MD D os
 bel : Below w.heap.size w W
 lt : w.heap.size ≤ m0 ∧ m0 < n1 ∧ w.heap.size ≤ b5 ∧ b5 < n1 ∧ n1 ≤ W.heap.size
theorem MB.mvb {w : World} {n1 m0 b5 n2 B : Nat} {A C : World} {os : List Cl} (h : MB w n1 m0 b5 A os) (hm : MvB TH n2 B A C) (hB : n1 ≤ B) (h2 : n1 ≤ n2) : MB w n1 m0 b5 C os := by
 obtain ⟨h1, ⟨n, D, ⟨es, clock, hb, hr⟩, hn, hd⟩, h3, h4, h5, h6, h7, h8⟩ := h
 exact ⟨(hm.same b5 (by omega) (.inl (by omega)) (.inl (by omega))).trans h1, ⟨n, D, ⟨es, clock, (hm.same m0 (by omega) (.inl (by omega)) (.inl (by omega))).trans hb, hr⟩, hn, hd⟩, ⟨hm.os.trans h3.os, hm.tape.trans h3.tape, hm.output.trans h3.output, Nat.le_trans h3.size hm.size, fun k hk => (hm.same k (by have := h3.size; omega) (.inl (by omega)) (.inl (by omega))).trans (h3.block k hk)⟩, h4, h5, h6, h7, Nat.le_trans h8 hm.size⟩
theorem MB.below {w : World} {n1 m0 b5 : Nat} {A C : World} {os : List Cl} (h : MB w n1 m0 b5 A os) (hb : Below A.heap.size A C) : MB w n1 m0 b5 C os := by
 obtain ⟨h1, ⟨n, D, ⟨es, clock, hb', hr⟩, hn, hd⟩, h3, h4, h5, h6, h7, h8⟩ := h
 exact ⟨blk_below h1 hb, ⟨n, D, ⟨es, clock, blk_below hb' hb, hr⟩, hn, hd⟩, below_step h3 hb, h4, h5, h6, h7, Nat.le_trans h8 hb.size⟩
theorem KO.grownM {A C : World} {m0 : Nat} {es : Array MapEntry} {clock : Nat} (hm : A.heap[m0]? = some (.map es clock)) (hg : A.grownBy C (some m0)) : KO A C :=
 ⟨hg.size, fun k o hk _ hw => (hg.block k (blk_lt hk) fun e => by injection e with e; subst e; rw [hm] at hk; injection hk with hk; subst hk; cases hw).trans hk⟩
theorem Kp.grownM {A C : World} {n0 n1 m0 : Nat} {es : Array MapEntry} {clock : Nat} (hm : A.heap[m0]? = some (.map es clock)) (hg : A.grownBy C (some m0)) (h0 : m0 < n0) : Kp TH n0 n1 A C :=
 ⟨hg.os, hg.tape, hg.output, hg.size, fun k hk hc => hg.block k hk fun e => by
  injection e with e
  subst e
  rcases hc with hc | ⟨cells, fr, hc⟩
  ·
   omega
  ·
   rw [hm] at hc; cases hc⟩
theorem MB.put {w : World} {n1 m0 b5 b : Nat} {A C : World} {os : List Cl} {v : Value} (h : MB w n1 m0 b5 A os) (hg : A.grownBy C v.ownBlock) (hv : ∀ k, v.ownBlock = some k → n1 ≤ k) (hb : b ≠ m0 ∧ b ≠ b5 ∧ w.heap.size ≤ b) (u : Value) : MB w n1 m0 b5 (C.setCell ⟨b, 0, none⟩ u) os := by
 obtain ⟨h1, ⟨n, D, ⟨es, clock, hb', hr⟩, hn, hd⟩, h3, h4, h5, h6, h7, h8⟩ := h
 have e1 : ∀ k, k < n1 → some k ≠ v.ownBlock := fun k hk e => by have := hv k e.symm; omega
 have hs : (C.setCell ⟨b, 0, none⟩ u).heap.size = C.heap.size := by simp [World.setCell]
 exact ⟨(Below.heap_setCell _ ⟨b, 0, none⟩ u b5 (fun e => hb.2.1 e.symm)).trans (blk_grown h1 hg (e1 _ h7)), ⟨n, D, ⟨es, clock, (Below.heap_setCell _ ⟨b, 0, none⟩ u m0 (fun e => hb.1 e.symm)).trans (blk_grown hb' hg (e1 _ h5)), hr⟩, hn, hd⟩, below_set (pw_below_grown h3 _ (below_size h3) hg (fun k hk => by have := hv k hk; omega)) hb.2.2, h4, h5, h6, h7, by rw [hs]; exact Nat.le_trans h8 hg.size⟩
theorem lk_pre {pre : List Cl} {x : Cl} {l : List Cl} (h : (pre ++ [x]) <+: l) (hi : Inc cmpK keyC l) : lk cmpK keyC x.f0 pre = none := by
 obtain ⟨r, rfl⟩ := h
 refine lk_none fun y hy he => ?_
 have h1 := (List.pairwise_append.1 (List.pairwise_append.1 hi).1).2.2 y hy x List.mem_cons_self
 have h2 : cmpK y.f0 x.f0 < 0 := h1
 have h3 : cmpK y.f0 x.f0 = 0 := he
 omega
set_option maxHeartbeats 2000000 in
set_option maxRecDepth 100000 in
theorem sub_calls {N : List Cl → List Cl} {a b : List Cl} (ha : LsOk N [a]) (hb : LsOk N [b]) (hka : ∀ y ∈ normC (N a), KeyW y.f0) (hkb : ∀ y ∈ normC (N b), KeyW y.f0) (A0 : Option Addr) (c0 : Nat) (A1 : Option Addr) (c1 : Nat) (w : World) (hC0 : Kd.C k39 w A0 a.length a) (hc0 : a.length ≤ c0) (hC1 : Kd.C k39 w A1 b.length b) (hc1 : b.length ≤ c1) :
  Calls Try.prog 19 #[.slice A0 a.length c0, .slice A1 b.length c1] w fun e w' => ∃ v : Value, e = .returned v ∧ Kd.R k39 39 w' w.heap.size (fun _ => True) v (subF (normC (N a)) (normC (N b))) ∧ Below w.heap.size w w' := by
 have HE1 := Lib.hid (fun (W : World) (hw : Below w.heap.size w W) (z : Nat) (hz : W.heap.size = z) => callsIn_wide (n := 5) |>.2 (show Calls Try.prog 13 #[.slice (some ⟨z, 0, none⟩) 1 1] (W.alloc (.cells #[.slice A1 b.length c1] 25)) _ from hz ▸ each_ok hb (some ⟨W.heap.size, 0, none⟩) 1 (W.alloc (.cells #[.slice A1 b.length c1] 25)) (C_one (Kd.C_below hC1 hw) hc1) (Nat.le_refl 1)))
 have HE0 := Lib.hid (fun (W : World) (hw : Below w.heap.size w W) (z : Nat) (hz : W.heap.size = z) => callsIn_wide (n := 5) |>.2 (show Calls Try.prog 13 #[.slice (some ⟨z, 0, none⟩) 1 1] (W.alloc (.cells #[.slice A0 a.length c0] 25)) _ from hz ▸ each_ok ha (some ⟨W.heap.size, 0, none⟩) 1 (W.alloc (.cells #[.slice A0 a.length c0] 25)) (C_one (Kd.C_below hC0 hw) hc0) (Nat.le_refl 1)))
 have HT := Lib.hid (And.intro ha hb)
 have HK := Lib.hid (And.intro hka hkb)
 clear ha hb hka hkb hC0 hc0 hC1 hc1
 refine (callsIn_wide (n := 6)).1 ?_
 refine callsIn_of_wp_marks Try.func19 rfl trivial ?_ rfl
 simp only [Try.ntmps19, List.size_toArray, List.length_cons, List.length_nil, Nat.reduceAdd, Nat.reduceSub, Array.replicate_succ, Array.replicate_zero, List.push_toArray, List.append_toArray, List.nil_append, List.cons_append]
 have hA : Below w.heap.size w ((w.alloc (.map #[] 0)).alloc (.cells #[.map (some w.heap.size)] 66)) := below_alloc (below_alloc (Below.refl _ _) _) _
 gi_wp2_with (refine ⟨trivial, ?_⟩; gi_at_call 13; refine (HE1.out _ hA _ (by simp)).mono ?_; rintro e w2 ⟨B, rfl, hsq, hb⟩; have HSQ := Lib.hid hsq; have HB2 := Lib.hid hb; clear hsq hb)
 have hn0 : (((w.alloc (.map #[] 0)).alloc (.cells #[.map (some w.heap.size)] 66)).alloc (.cells #[.slice A1 b.length c1] 25)).heap.size = w.heap.size + 3 := by simp
 have hb0 : w.heap.size + 3 ≤ w2.heap.size := by have := HB2.out.size; rw [hn0] at this; exact this
 have hbA : Below w.heap.size w (((w.alloc (.map #[] 0)).alloc (.cells #[.map (some w.heap.size)] 66)).alloc (.cells #[.slice A1 b.length c1] 25)) := below_alloc hA _
 have hI0 : MB w w2.heap.size w.heap.size (w.heap.size + 1) w2 [] := by
  refine ⟨blk_below (blk_alloc (by have h := heap_new_ (w.alloc (.map #[] 0)) (.cells #[.map (some w.heap.size)] 66); simp only [World.size_alloc] at h; exact h) _) HB2.out, ⟨0, .map [], ?_, Nat.le_refl _, MD.nil⟩, hbA.trans (HB2.out.mono hbA.size), Nat.le_refl _, by omega, by omega, by omega, Nat.le_refl _⟩
  obtain ⟨es, clock, h1, h2⟩ := World.ownsMap_made w Try.prog 33 RV
  exact ⟨es, clock, blk_below (blk_alloc (blk_alloc h1 _) _) HB2.out, h2⟩
 have HI0 := Lib.hid hI0
 have hsq := HSQ.out 5 (by omega)
 rw [hn0] at hsq
 have HN0 := Lib.hid hb0
 clear hI0 hn0 hb0 hbA HE1 HSQ HB2
 refine wpIn_range_h rfl (by omega) (gf := 29) (lb := #[.pointer (some ⟨B, 0, none⟩)]) rfl trivial (Go.Proofs.enters_of Try.func29 (by kernel_rfl) rfl) (Nat.le_refl _) hsq (fun _ => rfl)
  (fun pre W => MB w w2.heap.size w.heap.size (w.heap.size + 1) W (pre.map Prod.fst)) (fun _ _ _ => False) (fun _ _ _ h hm => MB.mvb h hm (Nat.le_refl _) (Nat.le_refl _)) (fun _ _ _ _ h _ => h) HI0.out
  (fun pre x a' W => MB w w2.heap.size w.heap.size (w.heap.size + 1) W (pre.map Prod.fst) ∧ ∃ bl, w2.heap.size ≤ bl ∧ W.heap[bl]? = some (.cells (cellL x.1).toArray 39 (0, 0)) ∧ a' = { tmps := #[.slice A0 a.length c0, .slice A1 b.length c1, undef, undef, .slice none 0 0, .pointer (some ⟨w.heap.size + 1, 0, none⟩), .pointer (some ⟨bl, 0, none⟩), undef, undef, undef, undef, .map (some w.heap.size), .slice A1 b.length c1, .slice (some ⟨w.heap.size + 1 + 1, 0, none⟩) 1 1, .func (.func 29) #[] #[.pointer (some ⟨B, 0, none⟩)], .agg (cellL x.1).toArray, .int .i64 x.2, undef, undef, undef, undef, undef, undef, undef, undef, undef, undef, undef, undef, undef, undef, undef, undef, undef, undef, undef, undef, undef, undef, undef, undef, undef, undef, undef, undef, undef, undef, undef], defers := [] })
  (fun pre x a' V C h hm => ⟨MB.mvb h.1 hm (Nat.le_refl _) (Nat.le_refl _), by obtain ⟨bl, h1, h2, h3⟩ := h.2; exact ⟨bl, h1, (hm.same bl (blk_lt h2) (.inr (typed_ne h2 (by decide))) (.inr ⟨_, h2, rfl⟩)).trans h2, h3⟩⟩) ?assign ?body ?done ?stop
 case assign =>
  intro l pre x W K hI _ hK
  dsimp only [cellL]
  gi_wp2
  refine hK _ _ (KO.of (KeepsOthers.below (below_alloc (Below.refl _ _) _))) (Kp.below (below_alloc (Below.refl _ _) _)) ⟨hI.below (below_alloc (Below.refl _ _) _), W.heap.size, hI.lt.2.2.2.2, ?_, rfl⟩
  exact heap_new_ _ _
 case body =>
  rintro l pre x a' W ⟨hI, bl, hbl, hc, rfl⟩ hpre
  have hfst : (pre ++ [x]).map Prod.fst <+: normC (N b) := by
   have h1 : (outs (src0 N 0 [b])).map Prod.fst = normC (N b) := by
    unfold outs
    rw [List.map_map, src0_flat, List.flatMap_cons, List.flatMap_nil, List.append_nil]
    exact List.map_id' _
   obtain ⟨r, hr⟩ := hpre
   exact ⟨r.map Prod.fst, by rw [← List.map_append, hr, h1]⟩
  obtain ⟨n, D, hown, hnl, hMD⟩ := hI.own
  obtain ⟨kl, hkl⟩ := HK.out.2 x.1 (hfst.subset (by simp))
  have hlk := lk_pre (x := x.1) (pre := pre.map Prod.fst) (by rw [← List.map_singleton, ← List.map_append]; exact hfst) (norm_inc cmpK_cmp joinC_key (N b))
  have hlen : (pre.map Prod.fst).length ≤ 2000000000000 := by
   have h1 := hfst.length_le
   have h2 := norm_len (c := cmpK) (key := keyC) (jn := joinC) (N b)
   have h3 := (HT.out.2.n b (by simp)).len
   rw [List.length_map, List.length_append] at h1
   rw [List.length_map]
   have : (normC (N b)).length ≤ (N b).length := h2
   omega
  have HOW := Lib.hid hown
  have HKL := Lib.hid (And.intro hkl (And.intro (show n < maxLen by unfold maxLen; omega) (hMD.put hkl hlk)))
  have HI := Lib.hid hI
  have HNL := Lib.hid hnl
  have cb := (blk_cell hI.box 0).trans (show _ = some (Value.map (some w.heap.size)) from rfl)
  have d0 := (blk_cell hc 0).trans (show _ = some (Value.string x.1.f0.f0) from rfl)
  have d1 := (blk_cell hc 1).trans (show _ = some (Value.string x.1.f0.f1) from rfl)
  have d2 := (blk_cell hc 2).trans (show _ = some (Value.int .i64 x.1.f0.f2) from rfl)
  have d3 := (blk_cell hc 3).trans (show _ = some (Value.string x.1.f0.f3) from rfl)
  have d4 := (blk_cell hc 4).trans (show _ = some (Value.int .i64 x.1.f1.f0) from rfl)
  have d5 := (blk_cell hc 5).trans (show _ = some (Value.bool x.1.f1.f1) from rfl)
  have d6 := (blk_cell hc 6).trans (show _ = some (Value.int .i64 x.1.f1.f2) from rfl)
  have d7 := (blk_cell hc 7).trans (show _ = some (Value.int .i64 x.1.f1.f3.f0) from rfl)
  have d8 := (blk_cell hc 8).trans (show _ = some (Value.int .i64 x.1.f1.f3.f1) from rfl)
  have d9 := (blk_cell hc 9).trans (show _ = some (Value.string x.1.f1.f3.f2) from rfl)
  clear hI hc hown hnl hMD hkl hlk hlen hfst
  gi_wp2_with (refine wpListIn_mapUpdate_own _ rfl _ _ _ 66 rfl 33 37 keyed Try.underlying66 RV w.heap.size n D rfl HOW.out HKL.out.2.1 (keyV x.1.f0) (verV x.1.f1) kl rfl rfl HKL.out.1 (.held (verV x.1.f1)) [] rfl ?_; intro w7 ho hg; have HO := Lib.hid ho; have HG := Lib.hid hg; clear ho hg)
  obtain ⟨es, clock, hmp, -⟩ := HOW.out
  have hl := HI.out.lt
  refine ⟨KO.grownM hmp HG.out, Kp.grownM hmp HG.out (by omega), ?_⟩
  show MB w w2.heap.size w.heap.size (w.heap.size + 1) _ ((pre ++ [x]).map Prod.fst)
  rw [List.map_append]
  exact ⟨blk_grown HI.out.box HG.out (by intro e; injection e with e; omega), ⟨n + 1, _, HO.out, by have := HNL.out; simp at this ⊢; omega, HKL.out.2.2⟩, pw_below_grown HI.out.bel _ (below_size HI.out.bel) HG.out (fun k hk => by injection hk with hk; omega), hl.1, hl.2.1, hl.2.2.1, hl.2.2.2.1, Nat.le_trans hl.2.2.2.2 HG.out.size⟩
 case done =>
  rintro D1 W1 hD1 hI hK
  have hfin : ∀ l : List Cl, (outs (src0 N 0 [l])).map Prod.fst = normC (N l) := fun l => by
   unfold outs
   rw [List.map_map, src0_flat, List.flatMap_cons, List.flatMap_nil, List.append_nil]
   exact List.map_id' _
  rw [hfin] at hI
  have HFIN := Lib.hid hfin
  have HD1 := Lib.hid (And.intro hD1 hK)
  have HI := Lib.hid hI
  have hA1 : Below w.heap.size w (W1.alloc (.cells #[.slice none 0 0] 25)) := below_alloc hI.bel _
  clear hsq hI hK hfin HI0
  gi_wp2_with (refine ⟨trivial, ?_⟩; gi_at_call 13; refine (HE0.out _ hA1 _ (by simp)).mono ?_; rintro e w3 ⟨B3, rfl, hsq, hb⟩; have HSQ := Lib.hid hsq; have HB3 := Lib.hid hb; clear hsq hb)
  have hn0 : ((W1.alloc (.cells #[.slice none 0 0] 25)).alloc (.cells #[.slice A0 a.length c0] 25)).heap.size = W1.heap.size + 2 := by simp
  have hb0 : W1.heap.size + 2 ≤ w3.heap.size := by have := HB3.out.size; rw [hn0] at this; exact this
  have hb3 : Below W1.heap.size W1 w3 := (below_alloc (below_alloc (Below.refl _ _) _) _).trans (HB3.out.mono (by simp; omega))
  have hM3 := HI.out.below hb3
  have hlt := HI.out.lt
  have hO3 : OutB w w3.heap.size W1.heap.size w3 [] := ⟨⟨_, blk_below (blk_alloc (heap_new_ _ _) _) HB3.out, Kd.R_nil _ _ _ _ _⟩, hM3.bel, by omega, by omega, Nat.le_refl _⟩
  have hM4 : MB w w3.heap.size w.heap.size (w.heap.size + 1) w3 (normC (N b)) := ⟨hM3.box, hM3.own, hM3.bel, by omega, by omega, by omega, by omega, Nat.le_refl _⟩
  have hD3 : w3.heap[D1]? = some (.deferred (some [])) := blk_below HD1.out.2 hb3
  have HO3 := Lib.hid (And.intro hO3 (And.intro hM4 hD3))
  have hsq := HSQ.out 5 (by omega)
  rw [hn0] at hsq
  have HN3 := Lib.hid (And.intro hb0 hlt)
  have hD1l : D1 < w3.heap.size := blk_lt hD3
  have HD1l := Lib.hid hD1l
  clear hn0 hb0 hb3 hM3 hlt hO3 hM4 hD3 hD1l HSQ HB3 HE0 HI HN0
  obtain ⟨M, hM⟩ : ∃ M, normC (N b) = M := ⟨_, rfl⟩
  rw [hM] at HO3
  have HMM := Lib.hid hM
  clear hM
  refine wpIn_range_h rfl (by omega) (gf := 29) (lb := #[.pointer (some ⟨B3, 0, none⟩)]) rfl trivial (Go.Proofs.enters_of Try.func29 (by kernel_rfl) rfl) (Nat.le_refl _) hsq (fun _ => rfl)
   (fun pre W => OutB w w3.heap.size W1.heap.size W (subF (pre.map Prod.fst) M) ∧ MB w w3.heap.size w.heap.size (w.heap.size + 1) W M ∧ W.heap[D1]? = some (.deferred (some []))) (fun _ _ _ => False)
   (fun _ _ _ h hm => ⟨OutB.mvb h.1 hm (Nat.le_refl _), MB.mvb h.2.1 hm (Nat.le_refl _) (Nat.le_refl _), (hm.same D1 (blk_lt h.2.2) (.inl HD1l.out) (.inl HD1l.out)).trans h.2.2⟩) (fun _ _ _ _ h _ => h) HO3.out
   (fun pre x a' W => (OutB w w3.heap.size W1.heap.size W (subF (pre.map Prod.fst) M) ∧ MB w w3.heap.size w.heap.size (w.heap.size + 1) W M ∧ W.heap[D1]? = some (.deferred (some []))) ∧ ∃ bl, w3.heap.size ≤ bl ∧ W.heap[bl]? = some (.cells (cellL x.1).toArray 39 (0, 0)) ∧ a' = { tmps := #[.slice A0 a.length c0, .slice A1 b.length c1, undef, undef, .slice none 0 0, .pointer (some ⟨w.heap.size + 1, 0, none⟩), undef, .pointer (some ⟨W1.heap.size, 0, none⟩), .pointer (some ⟨bl, 0, none⟩), undef, undef, .map (some w.heap.size), .slice A1 b.length c1, .slice (some ⟨w.heap.size + 1 + 1, 0, none⟩) 1 1, .func (.func 29) #[] #[.pointer (some ⟨B, 0, none⟩)], undef, undef, undef, undef, undef, undef, undef, .slice A0 a.length c0, .slice (some ⟨W1.heap.size + 1, 0, none⟩) 1 1, .func (.func 29) #[] #[.pointer (some ⟨B3, 0, none⟩)], .agg (cellL x.1).toArray, .int .i64 x.2, undef, undef, undef, undef, undef, undef, undef, undef, undef, undef, undef, undef, undef, undef, undef, undef, undef, undef, undef, undef, undef], defers := [] })
   (fun pre x a' V C h hm => ⟨⟨OutB.mvb h.1.1 hm (Nat.le_refl _), MB.mvb h.1.2.1 hm (Nat.le_refl _) (Nat.le_refl _), (hm.same D1 (blk_lt h.1.2.2) (.inl HD1l.out) (.inl HD1l.out)).trans h.1.2.2⟩, by obtain ⟨bl, h1, h2, h3⟩ := h.2; exact ⟨bl, h1, (hm.same bl (blk_lt h2) (.inr (typed_ne h2 (by decide))) (.inr ⟨_, h2, rfl⟩)).trans h2, h3⟩⟩) ?assign2 ?body2 ?done2 ?stop2
  case assign2 =>
   intro l pre x W K hI _ hK
   dsimp only [cellL]
   gi_wp2
   have hba : ∀ o, Below W.heap.size W (W.alloc o) := fun o => below_alloc (Below.refl _ _) o
   refine hK _ _ (KO.of (KeepsOthers.below (hba _))) (Kp.below (hba _)) ⟨⟨hI.1.below (hba _), hI.2.1.below (hba _), blk_below hI.2.2 (hba _)⟩, W.heap.size, hI.1.lt.2.2, ?_, rfl⟩
   exact heap_new_ _ _
  case body2 =>
   rintro l pre x a' W ⟨hI, bl, hbl, hc, rfl⟩ hpre
   have hfst : (pre ++ [x]).map Prod.fst <+: normC (N a) := by
    obtain ⟨r, hr⟩ := hpre
    exact ⟨r.map Prod.fst, by rw [← List.map_append, hr, HFIN.out]⟩
   obtain ⟨n, D, hown, hnl, hMD⟩ := hI.2.1.own
   obtain ⟨kl, hkl⟩ := HK.out.1 x.1 (hfst.subset (by simp))
   obtain ⟨hat, hhas⟩ := hMD.at_ x.1.f0 kl hkl
   have hlen : (subF (pre.map Prod.fst) M).length + 1 ≤ 1256584717457 := by
    have h0 : (subF (pre.map Prod.fst) M).length ≤ (pre.map Prod.fst).length := List.length_filter_le _ _
    have h1 := hfst.length_le
    have h2 : (normC (N a)).length ≤ (N a).length := norm_len (c := cmpK) (key := keyC) (jn := joinC) (N a)
    have h3 := (HT.out.1.n a (by simp)).len
    rw [List.length_map, List.length_append] at h1
    rw [List.length_map] at h0
    omega
   have hsub : subF ((pre ++ [x]).map Prod.fst) M = subF (pre.map Prod.fst) M ++ (if (match lk cmpK keyC x.1.f0 M with | none => true | some y => decide (cmpV y.f1 x.1.f1 < 0)) = true then [x.1] else []) := by
    unfold subF
    rw [List.map_append, List.filter_append]
    congr 1
    show List.filter _ [x.1] = _
    rw [List.filter_cons]; rfl
   obtain ⟨os, hos⟩ : ∃ os, subF (pre.map Prod.fst) M = os := ⟨_, rfl⟩
   rw [hos] at hsub hlen
   have hI1 : OutB w w3.heap.size W1.heap.size W os := hos ▸ hI.1
   obtain ⟨v, hv, hR⟩ := hI1.box
   obtain ⟨Av, cv, rfl⟩ := Kd.R_slice hR
   have HI := Lib.hid hI
   have HI1 := Lib.hid hI1
   have HSUB := Lib.hid hsub
   have HR := Lib.hid hR
   have HV := Lib.hid hv
   have HLN := Lib.hid hlen
   have HOW := Lib.hid hown
   have HKL := Lib.hid hkl
   have HBL := Lib.hid hbl
   have HAT := Lib.hid hat
   have cb := (blk_cell hI.2.1.box 0).trans (show _ = some (Value.map (some w.heap.size)) from rfl)
   have co := (blk_cell hv 0).trans (show _ = some (Value.slice Av os.length cv) from rfl)
   have fo := blk_frozen hv 0
   have d0 := (blk_cell hc 0).trans (show _ = some (Value.string x.1.f0.f0) from rfl)
   have d1 := (blk_cell hc 1).trans (show _ = some (Value.string x.1.f0.f1) from rfl)
   have d2 := (blk_cell hc 2).trans (show _ = some (Value.int .i64 x.1.f0.f2) from rfl)
   have d3 := (blk_cell hc 3).trans (show _ = some (Value.string x.1.f0.f3) from rfl)
   have d4 := (blk_cell hc 4).trans (show _ = some (Value.int .i64 x.1.f1.f0) from rfl)
   have d5 := (blk_cell hc 5).trans (show _ = some (Value.bool x.1.f1.f1) from rfl)
   have d6 := (blk_cell hc 6).trans (show _ = some (Value.int .i64 x.1.f1.f2) from rfl)
   have d7 := (blk_cell hc 7).trans (show _ = some (Value.int .i64 x.1.f1.f3.f0) from rfl)
   have d8 := (blk_cell hc 8).trans (show _ = some (Value.int .i64 x.1.f1.f3.f1) from rfl)
   have d9 := (blk_cell hc 9).trans (show _ = some (Value.string x.1.f1.f3.f2) from rfl)
   have HCC := Lib.hid hc
   have zv : ∀ V : World, (zeroValue 37).run Try.prog V = .ok (verV z37) V := fun V => by kernel_rfl
   have HZV := Lib.hid zv
   have HHAS := Lib.hid hhas
   clear hI hI1 hc hown hnl hMD hkl hlen hfst hsub hos hR hv hat hhas hbl zv
   cases hlk : lk cmpK keyC x.1.f0 M with
   | none =>
    have HLK := Lib.hid hlk
    have hok : has D kl = false := by rw [HHAS.out, hlk]; rfl
    obtain ⟨v, ps, hrun, hv⟩ := HOW.out.look_ok keyed Try.underlying66 (HZV.out W) (show RV (verV z37) = some (.held (verV z37), []) from rfl) HKL.out
    rw [HAT.out, hlk] at hv
    unfold RV at hv
    injection hv with hv
    injection hv with hv _
    injection hv with hv
    subst hv
    rw [hok] at hrun
    unfold keyV verV at hrun
    clear hok hlk
    gi_upto_if 42 with (refine ⟨trivial, ?_⟩)
    have hb9 : Below W.heap.size W (W.alloc (.cells #[.int .i64 z37.f0, .bool z37.f1, .int .i64 z37.f2, .int .i64 z37.f3.f0, .int .i64 z37.f3.f1, .string z37.f3.f2] 37)) := below_alloc (Below.refl _ _) _
    generalize W.alloc (.cells #[.int .i64 z37.f0, .bool z37.f1, .int .i64 z37.f2, .int .i64 z37.f3.f0, .int .i64 z37.f3.f1, .string z37.f3.f2] 37) = W9 at hb9 ⊢
    clear d0 d1 d2 d3 d4 d5 d6 d7 d8 d9 co fo cb hrun
    have HPOS := Lib.hid (show subF ((pre ++ [x]).map Prod.fst) M = os ++ [x.1] by rw [HSUB.out, HLK.out]; rfl)
    have HB9 := Lib.hid hb9
    have H9 := Lib.hid (And.intro (HI1.out.below hb9) (And.intro (Kd.R_below HR.out hb9) (And.intro (blk_below HV.out hb9) (And.intro (HI.out.2.1.below hb9) (blk_below HI.out.2.2 hb9)))))
    have co9 := (blk_cell (blk_below HV.out hb9) 0).trans (show _ = some (Value.slice Av os.length cv) from rfl)
    have d0 := (blk_cell (blk_below HCC.out hb9) 0).trans (show _ = some (Value.string x.1.f0.f0) from rfl)
    have d1 := (blk_cell (blk_below HCC.out hb9) 1).trans (show _ = some (Value.string x.1.f0.f1) from rfl)
    have d2 := (blk_cell (blk_below HCC.out hb9) 2).trans (show _ = some (Value.int .i64 x.1.f0.f2) from rfl)
    have d3 := (blk_cell (blk_below HCC.out hb9) 3).trans (show _ = some (Value.string x.1.f0.f3) from rfl)
    have d4 := (blk_cell (blk_below HCC.out hb9) 4).trans (show _ = some (Value.int .i64 x.1.f1.f0) from rfl)
    have d5 := (blk_cell (blk_below HCC.out hb9) 5).trans (show _ = some (Value.bool x.1.f1.f1) from rfl)
    have d6 := (blk_cell (blk_below HCC.out hb9) 6).trans (show _ = some (Value.int .i64 x.1.f1.f2) from rfl)
    have d7 := (blk_cell (blk_below HCC.out hb9) 7).trans (show _ = some (Value.int .i64 x.1.f1.f3.f0) from rfl)
    have d8 := (blk_cell (blk_below HCC.out hb9) 8).trans (show _ = some (Value.int .i64 x.1.f1.f3.f1) from rfl)
    have d9 := (blk_cell (blk_below HCC.out hb9) 9).trans (show _ = some (Value.string x.1.f1.f3.f2) from rfl)
    clear hb9
    gi_wp2_with (gi_at_builtin; refine R_appendIn k39 (w0 := w) w.heap.size rfl (.tmp 43) (.tmp 45) 25 39 _ 112 rfl Try.underlying25 info39 rfl (by decide) (by omega) (.slice Av os.length cv) os x.1 (cellL x.1) (fun k => w3.heap.size ≤ k) (fun _ => False) rfl rfl (k39_mkM _ _ _ _) (fun _ hk => hk.elim) ?aF H9.out.2.1 H9.out.1.bel (below_size H9.out.1.bel) ?aL ?_; (case aF => intro k hk; have := H9.out.1.lt.2.2; show w3.heap.size ≤ k; omega); (case aL => have := HLN.out; omega); intro v1 w8 ho hb1 hg1 _; obtain ⟨A7, c7, rfl⟩ := Kd.R_slice ho; have HO := Lib.hid ho; have HB8 := Lib.hid hb1; have HG8 := Lib.hid hg1; have cb1 := (blk_cell (blk_grown H9.out.2.2.1 hg1 (fun e => by have := HR.out.1 W1.heap.size e.symm; have := HI1.out.lt.2.1; omega)) 0).trans (show _ = some (Value.slice Av os.length cv) from rfl); have fb1 := blk_frozen (blk_grown H9.out.2.2.1 hg1 (fun e => by have := HR.out.1 W1.heap.size e.symm; have := HI1.out.lt.2.1; omega)) 0; clear ho hb1 hg1)
    have hne : ∀ k : Nat, (Value.slice Av os.length cv).ownBlock = some k → w3.heap.size ≤ k := fun k e => HR.out.1 k e
    have hl0 := HN3.out
    refine ⟨KO.of (((KeepsOthers.below HB9.out).trans (KeepsOthers.grown H9.out.2.1 HG8.out)).trans (KeepsOthers.setCell _ _ _)), (Kp.below HB9.out).trans (Kp.put H9.out.2.1 H9.out.2.2.1 HG8.out (by omega)), ?_, ?_, ?_⟩
    ·
     show OutB w w3.heap.size W1.heap.size _ (subF ((pre ++ [x]).map Prod.fst) M)
     rw [HPOS.out]
     have ho := HO.out
     rw [List.length_append] at ho
     exact OutB.put H9.out.1 H9.out.2.2.1 H9.out.2.1 ho HB8.out HG8.out
    ·
     exact MB.put H9.out.2.2.2.1 HG8.out hne (by omega) _
    ·
     refine (Below.heap_setCell _ ⟨W1.heap.size, 0, none⟩ _ D1 ?_).trans (blk_grown H9.out.2.2.2.2 HG8.out (fun e => by have := hne D1 e.symm; have := HD1l.out; omega))
     intro e
     have h1 := HI1.out.box
     obtain ⟨v', h1, -⟩ := h1
     have h2 := HI.out.2.2
     rw [show D1 = W1.heap.size from e] at h2
     rw [h1] at h2; cases h2
   | some y =>
    have hok : has D kl = true := by rw [HHAS.out, hlk]; rfl
    obtain ⟨v, ps, hrun, hv⟩ := HOW.out.look_ok keyed Try.underlying66 (HZV.out W) (show RV (verV z37) = some (.held (verV z37), []) from rfl) HKL.out
    rw [HAT.out, hlk] at hv
    unfold RV at hv
    injection hv with hv
    injection hv with hv _
    injection hv with hv
    subst hv
    rw [hok] at hrun
    unfold keyV verV at hrun
    obtain ⟨r, hr⟩ : ∃ r, cmpV y.f1 x.1.f1 = r := ⟨_, rfl⟩
    have HCM := Lib.hid (fun (V : World) => callsIn_wide (n := 3) |>.2 (cell_Cmp.calls 5 y.f1.f0 y.f1.f1 y.f1.f2 y.f1.f3.f0 y.f1.f3.f1 y.f1.f3.f2 x.1.f1.f0 x.1.f1.f1 x.1.f1.f2 x.1.f1.f3.f0 x.1.f1.f3.f1 x.1.f1.f3.f2 r V (by rw [cmp_f 5 (Nat.le_refl _), ← hr])))
    have hkeep : subF ((pre ++ [x]).map Prod.fst) M = os ++ (if r < 0 then [x.1] else []) := by
     rw [HSUB.out, hlk]
     dsimp only
     rw [← hr]
     by_cases h : cmpV y.f1 x.1.f1 < 0
     ·
      rw [if_pos h, if_pos (decide_eq_true h)]
     ·
      rw [if_neg h, if_neg (by simpa using h)]
    have HKP := Lib.hid hkeep
    have g0 := fun o => (blk_cell (blk_alloc HCC.out o) 0).trans (show _ = some (Value.string x.1.f0.f0) from rfl)
    have g1 := fun o => (blk_cell (blk_alloc HCC.out o) 1).trans (show _ = some (Value.string x.1.f0.f1) from rfl)
    have g2 := fun o => (blk_cell (blk_alloc HCC.out o) 2).trans (show _ = some (Value.int .i64 x.1.f0.f2) from rfl)
    have g3 := fun o => (blk_cell (blk_alloc HCC.out o) 3).trans (show _ = some (Value.string x.1.f0.f3) from rfl)
    have g4 := fun o => (blk_cell (blk_alloc HCC.out o) 4).trans (show _ = some (Value.int .i64 x.1.f1.f0) from rfl)
    have g5 := fun o => (blk_cell (blk_alloc HCC.out o) 5).trans (show _ = some (Value.bool x.1.f1.f1) from rfl)
    have g6 := fun o => (blk_cell (blk_alloc HCC.out o) 6).trans (show _ = some (Value.int .i64 x.1.f1.f2) from rfl)
    have g7 := fun o => (blk_cell (blk_alloc HCC.out o) 7).trans (show _ = some (Value.int .i64 x.1.f1.f3.f0) from rfl)
    have g8 := fun o => (blk_cell (blk_alloc HCC.out o) 8).trans (show _ = some (Value.int .i64 x.1.f1.f3.f1) from rfl)
    have g9 := fun o => (blk_cell (blk_alloc HCC.out o) 9).trans (show _ = some (Value.string x.1.f1.f3.f2) from rfl)
    clear hok hlk hr hkeep
    by_cases hlt : r < 0
    ·
     have HPOS := Lib.hid (show subF ((pre ++ [x]).map Prod.fst) M = os ++ [x.1] by rw [HKP.out, if_pos hlt])
     gi_upto_if 42 with (refine ⟨trivial, ?_⟩; gi_at_call 36; refine (HCM.out _).mono ?_; rintro e W9 ⟨rfl, hb⟩; have hb9 := below_step (below_alloc (Below.refl W.heap.size W) _) hb; clear hb)
     clear d0 d1 d2 d3 d4 d5 d6 d7 d8 d9 g0 g1 g2 g3 g4 g5 g6 g7 g8 g9 co fo cb hrun
     have HB9 := Lib.hid hb9
     have H9 := Lib.hid (And.intro (HI1.out.below hb9) (And.intro (Kd.R_below HR.out hb9) (And.intro (blk_below HV.out hb9) (And.intro (HI.out.2.1.below hb9) (blk_below HI.out.2.2 hb9)))))
     have co9 := (blk_cell (blk_below HV.out hb9) 0).trans (show _ = some (Value.slice Av os.length cv) from rfl)
     have d0 := (blk_cell (blk_below HCC.out hb9) 0).trans (show _ = some (Value.string x.1.f0.f0) from rfl)
     have d1 := (blk_cell (blk_below HCC.out hb9) 1).trans (show _ = some (Value.string x.1.f0.f1) from rfl)
     have d2 := (blk_cell (blk_below HCC.out hb9) 2).trans (show _ = some (Value.int .i64 x.1.f0.f2) from rfl)
     have d3 := (blk_cell (blk_below HCC.out hb9) 3).trans (show _ = some (Value.string x.1.f0.f3) from rfl)
     have d4 := (blk_cell (blk_below HCC.out hb9) 4).trans (show _ = some (Value.int .i64 x.1.f1.f0) from rfl)
     have d5 := (blk_cell (blk_below HCC.out hb9) 5).trans (show _ = some (Value.bool x.1.f1.f1) from rfl)
     have d6 := (blk_cell (blk_below HCC.out hb9) 6).trans (show _ = some (Value.int .i64 x.1.f1.f2) from rfl)
     have d7 := (blk_cell (blk_below HCC.out hb9) 7).trans (show _ = some (Value.int .i64 x.1.f1.f3.f0) from rfl)
     have d8 := (blk_cell (blk_below HCC.out hb9) 8).trans (show _ = some (Value.int .i64 x.1.f1.f3.f1) from rfl)
     have d9 := (blk_cell (blk_below HCC.out hb9) 9).trans (show _ = some (Value.string x.1.f1.f3.f2) from rfl)
     clear hb9
     gi_wp2_with (gi_at_builtin; refine R_appendIn k39 (w0 := w) w.heap.size rfl (.tmp 43) (.tmp 45) 25 39 _ 112 rfl Try.underlying25 info39 rfl (by decide) (by omega) (.slice Av os.length cv) os x.1 (cellL x.1) (fun k => w3.heap.size ≤ k) (fun _ => False) rfl rfl (k39_mkM _ _ _ _) (fun _ hk => hk.elim) ?aF H9.out.2.1 H9.out.1.bel (below_size H9.out.1.bel) ?aL ?_; (case aF => intro k hk; have := H9.out.1.lt.2.2; show w3.heap.size ≤ k; omega); (case aL => have := HLN.out; omega); intro v1 w8 ho hb1 hg1 _; obtain ⟨A7, c7, rfl⟩ := Kd.R_slice ho; have HO := Lib.hid ho; have HB8 := Lib.hid hb1; have HG8 := Lib.hid hg1; have cb1 := (blk_cell (blk_grown H9.out.2.2.1 hg1 (fun e => by have := HR.out.1 W1.heap.size e.symm; have := HI1.out.lt.2.1; omega)) 0).trans (show _ = some (Value.slice Av os.length cv) from rfl); have fb1 := blk_frozen (blk_grown H9.out.2.2.1 hg1 (fun e => by have := HR.out.1 W1.heap.size e.symm; have := HI1.out.lt.2.1; omega)) 0; clear ho hb1 hg1)
     have hne : ∀ k : Nat, (Value.slice Av os.length cv).ownBlock = some k → w3.heap.size ≤ k := fun k e => HR.out.1 k e
     have hl0 := HN3.out
     refine ⟨KO.of (((KeepsOthers.below HB9.out).trans (KeepsOthers.grown H9.out.2.1 HG8.out)).trans (KeepsOthers.setCell _ _ _)), (Kp.below HB9.out).trans (Kp.put H9.out.2.1 H9.out.2.2.1 HG8.out (by omega)), ?_, ?_, ?_⟩
     ·
      show OutB w w3.heap.size W1.heap.size _ (subF ((pre ++ [x]).map Prod.fst) M)
      rw [HPOS.out]
      have ho := HO.out
      rw [List.length_append] at ho
      exact OutB.put H9.out.1 H9.out.2.2.1 H9.out.2.1 ho HB8.out HG8.out
     ·
      exact MB.put H9.out.2.2.2.1 HG8.out hne (by omega) _
     ·
      refine (Below.heap_setCell _ ⟨W1.heap.size, 0, none⟩ _ D1 ?_).trans (blk_grown H9.out.2.2.2.2 HG8.out (fun e => by have := hne D1 e.symm; have := HD1l.out; omega))
      intro e
      have h1 := HI1.out.box
      obtain ⟨v', h1, -⟩ := h1
      have h2 := HI.out.2.2
      rw [show D1 = W1.heap.size from e] at h2
      rw [h1] at h2; cases h2
    ·
     have HPOS := Lib.hid (show subF ((pre ++ [x]).map Prod.fst) M = os by rw [HKP.out, if_neg hlt, List.append_nil])
     gi_upto_if 42 with (refine ⟨trivial, ?_⟩; gi_at_call 36; refine (HCM.out _).mono ?_; rintro e W9 ⟨rfl, hb⟩; have hb9 := below_step (below_alloc (Below.refl W.heap.size W) _) hb; clear hb)
     clear d0 d1 d2 d3 d4 d5 d6 d7 d8 d9 g0 g1 g2 g3 g4 g5 g6 g7 g8 g9 co fo cb hrun
     have HB9 := Lib.hid hb9
     clear hb9
     gi_wp2_with fail
     refine ⟨KO.of (KeepsOthers.below HB9.out), Kp.below HB9.out, ?_, HI.out.2.1.below HB9.out, blk_below HI.out.2.2 HB9.out⟩
     show OutB w w3.heap.size W1.heap.size _ (subF ((pre ++ [x]).map Prod.fst) M)
     rw [HPOS.out]
     exact HI1.out.below HB9.out
  case done2 =>
   rintro D2 W4 hD2 ⟨hO, -, hD⟩ hK2
   rw [HFIN.out] at hO
   rw [← HMM.out] at hO
   obtain ⟨v, hv, hR⟩ := hO.box
   obtain ⟨Av, cv, rfl⟩ := Kd.R_slice hR
   have cb := (blk_cell hv 0).trans (show _ = some (Value.slice Av (subF (normC (N a)) (normC (N b))).length cv) from rfl)
   have HO := Lib.hid hO
   have HR := Lib.hid hR
   have hne : D1 ≠ D2 := by have := HD1l.out; omega
   clear hO hR hv
   gi_wp2
   have hk1 : (W4.putObj D2 (.deferred none)).heap[D1]? = some (.deferred (some [])) := (World.putObj_heap_other hne).trans hD
   refine ⟨by simp, .inl ⟨_, _, rfl, run_takeDeferred hK2, ⟨by simp, .inl ⟨_, _, rfl, run_takeDeferred hk1, ?_⟩⟩⟩⟩
   have hlw : w.heap.size ≤ D2 := by have := HN3.out; omega
   have hlw1 : w.heap.size ≤ D1 := by have := HN3.out; have := HD1.out.1; omega
   have hb3 : Below w.heap.size w ((W4.putObj D2 (.deferred none)).putObj D1 (.deferred none)) := (HO.out.bel.trans (belowK_b (w := w) (Nat.le_refl _) W4 D2 _ _ hlw hK2 rfl rfl)).trans (belowK_b (w := w) (Nat.le_refl _) _ D1 _ _ hlw1 hk1 rfl rfl)
   refine ⟨.slice Av (subF (normC (N a)) (normC (N b))).length cv, ?_, ⟨_, rfl, ?_, hb3⟩⟩
   ·
    simp [results, Try.f19, go_sem]
   ·
    refine Kd.R_mono (Kd.R_move (Kd.R_bound HR.out) fun k hk => ?_) (fun _ _ => trivial)
    obtain ⟨-, -, -, q, -, cells, h4⟩ := hk
    exact (World.putObj_heap_other (fun e => by subst e; rw [hD] at h4; cases h4)).trans (World.putObj_heap_other (fun e => by subst e; rw [hK2] at h4; cases h4))
  case stop2 =>
   rintro D c pre W _ _ h
   exact h.elim
 case stop =>
  rintro D c pre W _ _ h
  exact h.elim
end Go.Proofs.Ytabiekkebdocnaa.Q
