/- Lemmas for this claim's walk: no condition of their own. -/
import Derived.Test.YtabiekkebdocnaaZeQx23
import Derived.Test.YtabiekkebdocnaaZeJ32
import Derived.Test.YtabiekkebdocnaaZeJ0
import Derived.Test.YtabiekkebdocnaaZeDown
import Derived.Test.YtabiekkebdocnaaZeSorted
import Derived.Test.YtabiekkebdocnaaZeTake
import Derived.Test.YtabiekkebdocnaaZeEach
import Derived.Test.YtabiekkebdocnaaZeGrp
import Derived.Test.YtabiekkebdocnaaZeRh
import Derived.Test.YtabiekkebdocnaaZeSeqE
import Derived.Test.YtabiekkebdocnaaZeJ13
import Derived.Deep.MidRow
import Derived.WalkLawsBesides
import Derived.WalkSpells
import Derived.Lib.Hide
import Derived.Deep.DeepFit
import Derived.Outline
namespace Go.Proofs.Ytabiekkebdocnaa.Q
open Go.RowKit Go.Proofs.YtabiekkebdocnaaW.PrintWords Go.Proofs.YtabiekkebdocnaaW.PrintLast Go.Proofs.YtabiekkebdocnaaW.PrintMore
attribute [local go_sem] max2_int min2_int max_two min_two max_three min_three max_four min_four
set_option linter.unusedVariables false
set_option linter.unusedSimpArgs false
open Go.Lib Go.Proofs.Ytabiekkebdocnaa.Hp Go.Proofs.Ytabiekkebdocnaa.Pl Go.Proofs.Ytabiekkebdocnaa.Rh Go.Proofs.Ytabiekkebdocnaa.Ord Go.Proofs.Ytabiekkebdocnaa.Nm
attribute [local go_sem] Oper.semAt_some
structure LsOk (N : List Cl → List Cl) (ls : List (List Cl)) : Prop where
 n : ∀ l ∈ ls, Nl N l
 i : ∀ l ∈ ls, Inc cmpK keyC (N l)
 len : ls.length ≤ 900000
 all : (ls.flatMap N).length ≤ 1256584717457
theorem src0_mem (N : List Cl → List Cl) : ∀ (i : Nat) (ls : List (List Cl)) (p : Int × List Cl), p ∈ src0 N i ls → (i : Int) ≤ p.1 ∧ p.2 ≠ [] ∧ ∃ l ∈ ls, p.2 = N l
 | i, [], p, h => by cases h
 | i, l :: ls, p, h => by
  unfold src0 at h
  split at h
  ·
   obtain ⟨h1, h2, l', h3, h4⟩ := src0_mem N (i + 1) ls p h
   exact ⟨by omega, h2, l', List.mem_cons_of_mem _ h3, h4⟩
  ·
   rename_i hl
   rcases List.mem_cons.1 h with rfl | h
   ·
    exact ⟨Int.le_refl _, fun e => hl (by rw [show N l = [] from e]; rfl), l, List.mem_cons_self, rfl⟩
   ·
    obtain ⟨h1, h2, l', h3, h4⟩ := src0_mem N (i + 1) ls p h
    exact ⟨by omega, h2, l', List.mem_cons_of_mem _ h3, h4⟩
theorem src0_pw (N : List Cl → List Cl) : ∀ (i : Nat) (ls : List (List Cl)), (src0 N i ls).Pairwise fun p q => p.1 < q.1
 | i, [] => List.Pairwise.nil
 | i, l :: ls => by
  unfold src0
  split
  ·
   exact src0_pw N (i + 1) ls
  ·
   exact List.pairwise_cons.2 ⟨fun q hq => by have := (src0_mem N (i + 1) ls q hq).1; show (i : Int) < q.1; omega, src0_pw N (i + 1) ls⟩
theorem LsOk.ok {N : List Cl → List Cl} {ls : List (List Cl)} (h : LsOk N ls) : OkS (src0 N 0 ls) := ⟨src0_pw N 0 ls, fun p hp => by
 obtain ⟨-, h2, l, h3, h4⟩ := src0_mem N 0 ls p hp
 exact ⟨h4 ▸ h.i l h3, h2⟩⟩
theorem src0_flat (N : List Cl → List Cl) : ∀ (i : Nat) (ls : List (List Cl)), flat (src0 N i ls) = ls.flatMap N
 | i, [] => rfl
 | i, l :: ls => by
  unfold src0
  rw [List.flatMap_cons]
  split
  ·
   rename_i h
   rw [src0_flat N (i + 1) ls, List.eq_nil_of_length_eq_zero h]; rfl
  ·
   rw [flat_cons, src0_flat N (i + 1) ls]
theorem LsOk.tot {N : List Cl → List Cl} {ls : List (List Cl)} (h : LsOk N ls) : (flat (src0 N 0 ls)).length ≤ 1999999999999 := by
 rw [src0_flat]
 have := h.all
 omega
theorem each_ok {N : List Cl → List Cl} {ls : List (List Cl)} (h : LsOk N ls) (A0 : Option Addr) (c0 : Nat) (w : World) (hC : Kd.C (Kd.slice 39 k39) w A0 ls.length ls) (hc : ls.length ≤ c0) :
  Calls Try.prog 13 #[.slice A0 ls.length c0] w fun e w' => ∃ B : Nat, e = .returned (.func (.func 29) #[] #[.pointer (some ⟨B, 0, none⟩)]) ∧ (∀ n, 3 ≤ n → SeqH TH w.heap.size w'.heap.size Fence.wide n Try.prog 29 #[.pointer (some ⟨B, 0, none⟩)] (fun p : Cl × Int => #[.agg (cellL p.1).toArray, .int .i64 p.2]) (outs (src0 N 0 ls)) w') ∧ Below w.heap.size w w' := by
 refine (each_calls ltI_lt ltI_ord N A0 c0 ls w hC hc h.n (by have := h.len; omega)).mono ?_
 rintro e w' ⟨B, v, ys, rfl, h1, h2, h3, h4, h5⟩
 refine ⟨B, rfl, fun n hn => each_seq n hn w.heap.size B v ys _ w' h1 h2 h3 h4 h.ok h.tot ?_, h5⟩
 have := h4.length_eq
 rw [List.length_map] at this
 have := src0_len N 0 ls
 have := h.len
 omega
theorem SeqH.later {T n0 n1 : Nat} {F : Fence} {n : Nat} {P : Program} {g : Nat} {lb : Array Value} {encs : Cl × Int → Array Value} {all : List (Cl × Int)} {w w' : World} (h : SeqH T n0 n1 F n P g lb encs all w) (hb : Below w.heap.size w w') : SeqH T n0 n1 F n P g lb encs all w' :=
 fun l J Jx W hW hM hY h0 => h l J Jx W (hb.trans (hW.mono hb.size)) hM hY h0
structure OutB (w : World) (n1 b : Nat) (W : World) (os : List Cl) : Prop where
 box : ∃ v, W.heap[b]? = some (.cells #[v] 25 (0, 0)) ∧ Kd.R k39 39 W w.heap.size (fun k => n1 ≤ k) v os
 bel : Below w.heap.size w W
 lt : w.heap.size ≤ b ∧ b < n1 ∧ n1 ≤ W.heap.size
theorem typed_ne {W : World} {k : Nat} {t : TypeId} {cells : Array Value} (h : W.heap[k]? = some (.cells cells t (0, 0))) (ht : t ≠ TH) : ∀ cs fr, W.heap[k]? ≠ some (.cells cs TH fr) := fun cs fr e => by
 rw [h] at e; injection e with e; injection e with _ e; exact ht e
theorem OutB.mvb {w : World} {n1 b B : Nat} {A C : World} {os : List Cl} (h : OutB w n1 b A os) (hm : MvB TH n1 B A C) (hB : n1 ≤ B) : OutB w n1 b C os := by
 obtain ⟨⟨v, h1, h2⟩, h3, h4, h5, h6⟩ := h
 refine ⟨⟨v, (hm.same b (by omega) (.inl h5) (.inl (by omega))).trans h1, ?_⟩, ⟨hm.os.trans h3.os, hm.tape.trans h3.tape, hm.output.trans h3.output, Nat.le_trans h3.size hm.size, fun k hk => (hm.same k (by have := h3.size; omega) (.inl (by omega)) (.inl (by omega))).trans (h3.block k hk)⟩, h4, h5, Nat.le_trans h6 hm.size⟩
 refine Kd.R_mono (Kd.R_move (Kd.R_bound h2) fun k hk => ?_) (fun k hk => hk.1)
 obtain ⟨-, -, hk2, q, hq, cells, hc⟩ := hk
 have hq' : q = 39 := by
  rcases List.mem_cons.1 hq with e | e
  ·
   exact e
  ·
   cases e
 subst hq'
 exact hm.same k hk2 (.inr (typed_ne hc (by decide))) (.inr ⟨_, hc, rfl⟩)
theorem OutB.below {w : World} {n1 b : Nat} {A C : World} {os : List Cl} (h : OutB w n1 b A os) (hb : Below A.heap.size A C) : OutB w n1 b C os := by
 obtain ⟨⟨v, h1, h2⟩, h3, h4, h5, h6⟩ := h
 exact ⟨⟨v, blk_below h1 hb, Kd.R_below h2 hb⟩, below_step h3 hb, h4, h5, Nat.le_trans h6 hb.size⟩
theorem OutB.put {w : World} {n1 b : Nat} {A C : World} {os os1 : List Cl} {v v1 : Value} (h : OutB w n1 b A os) (hv : A.heap[b]? = some (.cells #[v] 25 (0, 0))) (hR0 : Kd.R k39 39 A w.heap.size (fun k => n1 ≤ k) v os) (hR : Kd.R k39 39 C w.heap.size (fun k => n1 ≤ k) v1 os1) (hB : Below w.heap.size w C) (hg : A.grownBy C v.ownBlock) : OutB w n1 b (C.setCell ⟨b, 0, none⟩ v1) os1 := by
 obtain ⟨-, h3, h4, h5, h6⟩ := h
 have hb : C.heap[b]? = some (.cells #[v] 25 (0, 0)) := blk_grown hv hg fun e => by have := hR0.1 b e.symm; omega
 refine ⟨⟨v1, blk_put hb 0 _ rfl, Kd.R_far (p := ⟨b, 0, none⟩) hR (fun k hk => by show k ≠ b; omega) _⟩, below_set hB h4, h4, h5, ?_⟩
 have : (C.setCell ⟨b, 0, none⟩ v1).heap.size = C.heap.size := by simp [World.setCell]
 rw [this]; exact Nat.le_trans h6 hg.size
theorem Kp.below {n0 n1 : Nat} {A C : World} (h : Below A.heap.size A C) : Kp TH n0 n1 A C := ⟨h.os, h.tape, h.output, h.size, fun k hk _ => h.block k hk⟩
theorem Kp.put {n0 n1 b : Nat} {A C : World} {v v1 : Value} {os : List Cl} {base : Nat} (hR0 : Kd.R k39 39 A base (fun k => n1 ≤ k) v os) (hv : A.heap[b]? = some (.cells #[v] 25 (0, 0))) (hg : A.grownBy C v.ownBlock) (hb : b < n0) : Kp TH n0 n1 A (C.setCell ⟨b, 0, none⟩ v1) := by
 have hs : (C.setCell ⟨b, 0, none⟩ v1).heap.size = C.heap.size := by simp [World.setCell]
 refine ⟨hg.os, hg.tape, hg.output, by rw [hs]; exact hg.size, fun k hk hc => ?_⟩
 have hne : k ≠ b := fun e => by
  subst e
  rcases hc with hc | ⟨cells, fr, hc⟩
  ·
   omega
  ·
   exact typed_ne hv (by decide) _ _ hc
 refine (Below.heap_setCell _ ⟨b, 0, none⟩ v1 k hne).trans (hg.block k hk fun e => ?_)
 rcases hc with hc | ⟨cells, fr, hc⟩
 ·
  have := hR0.1 k e.symm; omega
 ·
  obtain ⟨cs, h2⟩ := Kd.R_typed hR0 k e.symm
  exact typed_ne h2 (by decide) _ _ hc
theorem KeepsOthers.grown {A C : World} {v : Value} {os : List Cl} {base : Nat} {ok : Nat → Prop} (hR0 : Kd.R k39 39 A base ok v os) (hg : A.grownBy C v.ownBlock) : KeepsOthers A C :=
 ⟨hg.size, fun k o hk ho => (hg.block k (blk_lt hk) fun e => by obtain ⟨cs, h2⟩ := Kd.R_typed hR0 k e.symm; rw [hk] at h2; injection h2 with h2; subst h2; cases ho).trans hk⟩
theorem KeepsOthers.below {A C : World} (h : Below A.heap.size A C) : KeepsOthers A C := ⟨h.size, fun k o hk _ => (h.block k (blk_lt hk)).trans hk⟩
set_option maxHeartbeats 2000000 in
set_option maxRecDepth 100000 in
theorem all_calls {N : List Cl → List Cl} {ls : List (List Cl)} (h : LsOk N ls) (A0 : Option Addr) (c0 : Nat) (w : World) (hC : Kd.C (Kd.slice 39 k39) w A0 ls.length ls) (hc : ls.length ≤ c0) :
  Calls Try.prog 15 #[.slice A0 ls.length c0] w fun e w' => ∃ v : Value, e = .returned v ∧ Kd.R k39 39 w' w.heap.size (fun _ => True) v (normC (ls.flatMap N)) ∧ Below w.heap.size w w' := by
 have HE := Lib.hid (fun W hb => callsIn_wide (n := 5) |>.2 (each_ok h A0 c0 W (Kd.C_below hC hb) hc))
 have HT := Lib.hid h
 clear h hC hc
 refine (callsIn_wide (n := 6)).1 ?_
 refine callsIn_of_wp_marks Try.func15 rfl trivial ?_ rfl
 simp only [Try.ntmps15, List.size_toArray, List.length_cons, List.length_nil, Nat.reduceAdd, Nat.reduceSub, Array.replicate_succ, Array.replicate_zero, List.push_toArray, List.append_toArray, List.nil_append, List.cons_append]
 have hA : Below w.heap.size w (w.alloc (.cells #[.slice none 0 0] 25)) := below_alloc (Below.refl _ _) _
 gi_wp2_with (refine ⟨trivial, ?_⟩; gi_at_call 13; refine (HE.out _ hA).mono ?_; rintro e w2 ⟨B, rfl, hsq, hb⟩; have HSQ := Lib.hid hsq; have HB2 := Lib.hid hb; clear hsq hb)
 have hb0 : w.heap.size + 1 ≤ w2.heap.size := by have := HB2.out.size; simp at this; exact this
 have hbx : w2.heap[w.heap.size]? = some (.cells #[.slice none 0 0] 25 (0, 0)) := blk_below (heap_new_ w _) HB2.out
 have hbw : Below w.heap.size w w2 := hA.trans (HB2.out.mono (by simp))
 have hI0 : OutB w w2.heap.size w.heap.size w2 [] := ⟨⟨_, hbx, Kd.R_nil _ _ _ _ _⟩, hbw, Nat.le_refl _, by omega, Nat.le_refl _⟩
 have HI0 := Lib.hid hI0
 have hn0 : (w.alloc (.cells #[.slice none 0 0] 25)).heap.size = w.heap.size + 1 := by simp
 have hsq := HSQ.out 5 (by omega)
 rw [hn0] at hsq
 clear hI0 hbx hbw HE
 refine wpIn_range_h rfl (by omega) (gf := 29) (lb := #[.pointer (some ⟨B, 0, none⟩)]) rfl trivial (Go.Proofs.enters_of Try.func29 (by kernel_rfl) rfl) (Nat.le_refl _) hsq (fun _ => rfl)
  (fun pre W => OutB w w2.heap.size w.heap.size W (pre.map Prod.fst)) (fun _ _ _ => False) (fun _ _ _ h hm => OutB.mvb h hm (Nat.le_refl _)) (fun _ _ _ _ h _ => h) HI0.out
  (fun pre x a' W => OutB w w2.heap.size w.heap.size W (pre.map Prod.fst) ∧ ∃ bl, w2.heap.size ≤ bl ∧ W.heap[bl]? = some (.cells (cellL x.1).toArray 39 (0, 0)) ∧ a' = { tmps := #[.slice A0 ls.length c0, undef, .slice none 0 0, .pointer (some ⟨w.heap.size, 0, none⟩), .pointer (some ⟨bl, 0, none⟩), .slice A0 ls.length c0, .func (.func 29) #[] #[.pointer (some ⟨B, 0, none⟩)], .agg (cellL x.1).toArray, .int .i64 x.2, undef, undef, undef, undef, undef], defers := [] })
  (fun pre x a' V C h hm => ⟨OutB.mvb h.1 hm (Nat.le_refl _), by obtain ⟨bl, h1, h2, h3⟩ := h.2; exact ⟨bl, h1, (hm.same bl (blk_lt h2) (.inr (typed_ne h2 (by decide))) (.inr ⟨_, h2, rfl⟩)).trans h2, h3⟩⟩) ?assign ?body ?done ?stop
 case assign =>
  intro l pre x W K hI _ hK
  dsimp only [cellL]
  gi_wp2
  refine hK _ _ (KO.of <| KeepsOthers.below (below_alloc (Below.refl _ _) _)) (Kp.below (below_alloc (Below.refl _ _) _)) ⟨hI.below (below_alloc (Below.refl _ _) _), W.heap.size, hI.lt.2.2, ?_, rfl⟩
  exact heap_new_ _ _
 case body =>
  rintro l pre x a' W ⟨hI, bl, hbl, hc, rfl⟩ hpre
  obtain ⟨v, hv, hR⟩ := hI.box
  obtain ⟨Av, cv, rfl⟩ := Kd.R_slice hR
  have hlen : (pre.map Prod.fst).length + 1 ≤ 1256584717457 := by
   have h1 := hpre.length_le
   have h2 : (outs (src0 N 0 ls)).length ≤ 1256584717457 := by
    unfold outs
    rw [List.length_map]
    have h3 := HT.out.all
    rw [← src0_flat N 0 ls] at h3
    exact Nat.le_trans (norm_len _) h3
   rw [List.length_append, List.length_singleton] at h1
   rw [List.length_map]; omega
  obtain ⟨os, hos⟩ : ∃ os, pre.map Prod.fst = os := ⟨_, rfl⟩
  rw [hos] at hR hI hlen
  rw [hos] at hv
  have HOS := Lib.hid hos
  clear hos
  have HR := Lib.hid hR
  have HV := Lib.hid hv
  have HI := Lib.hid hI
  have HLN := Lib.hid hlen
  have cb := (blk_cell hv 0).trans (show _ = some (Value.slice Av os.length cv) from rfl)
  have fb := blk_frozen hv 0
  have d0 := (blk_cell hc 0).trans (show _ = some (Value.string x.1.f0.f0) from rfl)
  have d1 := (blk_cell hc 1).trans (show _ = some (Value.string x.1.f0.f1) from rfl)
  have d2 := (blk_cell hc 2).trans (show _ = some (Value.int .i64 x.1.f0.f2) from rfl)
  have d3 := (blk_cell hc 3).trans (show _ = some (Value.string x.1.f0.f3) from rfl)
  have d4 := (blk_cell hc 4).trans (show _ = some (Value.int .i64 x.1.f1.f0) from rfl)
  have d5 := (blk_cell hc 5).trans (show _ = some (Value.bool x.1.f1.f1) from rfl)
  have d6 := (blk_cell hc 6).trans (show _ = some (Value.int .i64 x.1.f1.f2) from rfl)
  have d7 := (blk_cell hc 7).trans (show _ = some (Value.int .i64 x.1.f1.f3.f0) from rfl)
  have d8 := (blk_cell hc 8).trans (show _ = some (Value.int .i64 x.1.f1.f3.f1) from rfl)
  have d9 := (blk_cell hc 9).trans (show _ = some (Value.string x.1.f1.f3.f2) from rfl)
  clear hR hI hlen hc
  gi_wp2_with (gi_at_builtin; refine R_appendIn k39 (w0 := w) w.heap.size rfl (.tmp 9) (.tmp 11) 25 39 _ 112 rfl Try.underlying25 info39 rfl (by decide) (by omega) (.slice Av os.length cv) os x.1 (cellL x.1) (fun k => w2.heap.size ≤ k) (fun _ => False) rfl rfl (k39_mkM _ _ _ _) (fun _ hk => hk.elim) ?aF HR.out HI.out.bel (below_size HI.out.bel) ?aL ?_; (case aF => intro k hk; have := HI.out.lt.2.2; show w2.heap.size ≤ k; omega); (case aL => have := HLN.out; omega); intro v1 w1 ho hb1 hg1 _; obtain ⟨A7, c7, rfl⟩ := Kd.R_slice ho; have HO := Lib.hid ho; have HB1 := Lib.hid hb1; have HG1 := Lib.hid hg1; have cb1 := (blk_cell (blk_grown HV.out hg1 (fun e => by have := HR.out.1 w.heap.size e.symm; have := HI.out.lt.2.1; omega)) 0).trans (show _ = some (Value.slice Av os.length cv) from rfl); have fb1 := blk_frozen (blk_grown HV.out hg1 (fun e => by have := HR.out.1 w.heap.size e.symm; have := HI.out.lt.2.1; omega)) 0; clear ho hb1 hg1)
  refine ⟨?_, ?_, ?_⟩
  ·
   exact KO.of ((KeepsOthers.grown HR.out HG1.out).trans (KeepsOthers.setCell _ _ _))
  ·
   exact Kp.put HR.out HV.out HG1.out (Nat.lt_succ_self _)
  ·
   show OutB w w2.heap.size w.heap.size _ ((pre ++ [x]).map Prod.fst)
   rw [List.map_append, HOS.out]
   have ho := HO.out
   rw [List.length_append] at ho
   exact OutB.put HI.out HV.out HR.out ho HB1.out HG1.out
 case done =>
  rintro D W hD hI hK
  obtain ⟨v, hv, hR⟩ := hI.box
  obtain ⟨Av, cv, rfl⟩ := Kd.R_slice hR
  have hfin : (outs (src0 N 0 ls)).map Prod.fst = normC (ls.flatMap N) := by
   unfold outs
   rw [List.map_map, src0_flat]
   exact List.map_id' _
  rw [hfin] at hR hv
  have cb := (blk_cell hv 0).trans (show _ = some (Value.slice Av (normC (ls.flatMap N)).length cv) from rfl)
  have HI := Lib.hid hI
  have HR := Lib.hid hR
  clear hI hR hv hfin
  gi_wp2
  refine ⟨by simp, .inl ⟨_, _, rfl, run_takeDeferred hK, ?_⟩⟩
  have hb3 : Below w.heap.size w (W.putObj D (.deferred none)) := HI.out.bel.trans (belowK_b (w := w) (Nat.le_refl _) W D _ _ (by omega) hK rfl rfl)
  refine ⟨.slice Av (normC (ls.flatMap N)).length cv, ?_, ⟨_, rfl, ?_, hb3⟩⟩
  ·
   simp [results, Try.f15, go_sem]
  ·
   refine Kd.R_mono (Kd.R_move (Kd.R_bound HR.out) fun k hk => ?_) (fun _ _ => trivial)
   obtain ⟨-, -, -, q, -, cells, h4⟩ := hk
   exact World.putObj_heap_other (fun e => by subst e; rw [hK] at h4; cases h4)
 case stop =>
  rintro D c pre W _ _ h
  exact h.elim
end Go.Proofs.Ytabiekkebdocnaa.Q
