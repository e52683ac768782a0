/- Lemmas for this claim's walk: no condition of their own. -/
import Derived.Test.YtlffkbcaphhldaaFdQx4
import Derived.Test.YtlffkbcaphhldaaFdQx14
import Derived.Test.YtlffkbcaphhldaaFdQx17
import Derived.Test.YtlffkbcaphhldaaFdQx0
import Derived.Test.YtlffkbcaphhldaaFdQx15
import Derived.Deep.RegionHeld3
import Derived.Test.YtlffkbcaphhldaaFdJ24
import Derived.Test.YtlffkbcaphhldaaFdSkLv
import Derived.Test.YtlffkbcaphhldaaFdGath
import Derived.Test.YtlffkbcaphhldaaFdWGets
import Derived.Deep.MidRow
import Derived.WalkLawsBesides
import Derived.WalkSpells
import Derived.Lib.Hide
import Derived.Deep.DeepFit
import Derived.Outline
namespace Go.Proofs.Ytlffkbcaphhldaa.Q
open Go.RowKit Go.Proofs.YtlffkbcaphhldaaW.PrintWords Go.Proofs.YtlffkbcaphhldaaW.PrintLast Go.Proofs.YtlffkbcaphhldaaW.PrintMore
attribute [local go_sem] max2_int min2_int max_two min_two max_three min_three max_four min_four
set_option linter.unusedVariables false
set_option linter.unusedSimpArgs false
open Go.Lib Go.Proofs.Ytlffkbcaphhldaa.Sk Go.Proofs.Ytlffkbcaphhldaa.Pl Go.Proofs.Ytlffkbcaphhldaa.Ord Go.Proofs.Ytlffkbcaphhldaa.Nm Go.Proofs.Ytlffkbcaphhldaa.Rh
attribute [local go_sem] Oper.semAt_some
attribute [local go_sem high] eqFn
theorem scan_cells {T : List Tw} (hU : Up T) (f u : Ky) : scanT T f u = scanP (cellsT T) f u := by
 rw [← scan_gen f u (cellsT T) hU, low_len]
 unfold scanT cellsT
 rw [← List.map_drop, List.drop_drop, List.takeWhile_map, Nat.add_comm 1]
 rfl
theorem isl_scan {w : World} {base l : Nat} {lv : List Int} {C : List Cl} {H : List Int} {own : Nat → Prop} (h : IsL w base l lv C H own) (hC : C.length < 1000) (f u : Ky) :
  Calls Try.prog 21 #[.pointer (some ⟨l, 0, none⟩), .agg (ka f), .agg (ka u)] w fun e w' => ∃ (B : Nat) (v : Value), e = .returned (.func (.func 48) #[] #[.pointer (some ⟨B, 0, none⟩)]) ∧ w'.heap[B]? = some (.cells #[v] 23 (0, 0)) ∧ w.heap.size ≤ B ∧ Kd.R k37 37 w' w.heap.size (fun _ => True) v (scanP C f u) ∧ Below w.heap.size w w' := by
 obtain ⟨T, A, c, h1, rfl, rfl, h4⟩ := h
 rw [← scan_cells h1.up]
 exact scan_calls base l T A c lv f u w h1 (by rw [cells_len] at hC; have := h1.mem.len; omega)
theorem isl_gather {w : World} {base l : Nat} {lv : List Int} {C : List Cl} {H : List Int} {own : Nat → Prop} (h : IsL w base l lv C H own) (hC : C.length < 1000) (f u : Ky) (stop : Int) :
  Calls Try.prog 20 #[.pointer (some ⟨l, 0, none⟩), .agg (ka f), .agg (ka u), .int .i64 stop] w fun e w' => ∃ v : Value, e = .returned v ∧ Kd.R k37 37 w' w.heap.size (fun _ => True) v (gathL stop (scanP C f u)) ∧ Below w.heap.size w w' := by
 obtain ⟨T, A, c, h1, rfl, rfl, h4⟩ := h
 rw [← scan_cells h1.up]
 exact gather_calls base l T A c lv f u stop w h1 (by rw [cells_len] at hC; have := h1.mem.len; omega)
theorem gath_all (l : List Cl) : gathL (-1) l = l := by unfold gathL; rw [if_neg (by omega)]
theorem scanP_cons (x : Cl) (C : List Cl) (f u : Ky) : scanP (x :: C) f u = if 0 ≤ cmpK x.f0 f ∧ cmpK x.f0 u < 0 then x :: scanP C f u else scanP C f u := by
 unfold scanP
 rw [List.filter_cons]
 by_cases h : 0 ≤ cmpK x.f0 f ∧ cmpK x.f0 u < 0
 ·
  rw [if_pos h, if_pos (by simp [h])]
 ·
  rw [if_neg h, if_neg (by simpa using h)]
theorem scan_meet {C : List Cl} (hC : Inc cmpK keyC C) {f m u : Ky} (h1 : ¬ 0 < cmpK f m) (h2 : ¬ 0 < cmpK m u) : scanP C f m ++ scanP C m u = scanP C f u := by
 have ha : ∀ y : Cl, cmpK y.f0 m < 0 → cmpK y.f0 u < 0 := fun y h => by
  have t := cmpK_cmp.trans y.f0 m u (by omega) (by omega)
  have t1 := cmpK_cmp.trans u y.f0 m
  have t2 := cmpK_cmp.anti u y.f0
  have t3 := cmpK_cmp.anti u m
  have t4 := cmpK_cmp.trans m u y.f0
  have t5 := cmpK_cmp.anti m y.f0
  omega
 have hb : ∀ y : Cl, ¬ cmpK y.f0 m < 0 → 0 ≤ cmpK y.f0 f := fun y h => by
  have t5 := cmpK_cmp.anti m y.f0
  have t := cmpK_cmp.trans f m y.f0 (by omega) (by omega)
  have t2 := cmpK_cmp.anti f y.f0
  omega
 induction C with
 | nil => rfl
 | cons x C ih =>
  unfold Inc at hC
  rw [List.pairwise_cons] at hC
  have ih := ih hC.2
  rw [scanP_cons, scanP_cons, scanP_cons]
  by_cases hx : cmpK x.f0 m < 0
  ·
   have hu := ha x hx
   rw [if_neg (c := 0 ≤ cmpK x.f0 m ∧ cmpK x.f0 u < 0) (by omega)]
   by_cases hf : 0 ≤ cmpK x.f0 f
   ·
    rw [if_pos ⟨hf, hx⟩, if_pos ⟨hf, hu⟩, List.cons_append, ih]
   ·
    rw [if_neg (by omega), if_neg (by omega), ih]
  ·
   have hn : scanP C f m = [] := List.filter_eq_nil_iff.2 fun z hz => by
    have h1 : cmpK x.f0 z.f0 < 0 := hC.1 z hz
    simp only [Bool.and_eq_true, decide_eq_true_eq, not_and]
    intro _ h2
    exact hx (cmp_lt h1 h2)
   have hf := hb x hx
   rw [hn, List.nil_append] at ih
   rw [if_neg (c := 0 ≤ cmpK x.f0 f ∧ cmpK x.f0 m < 0) (by omega), hn, List.nil_append, ih]
   by_cases hu : cmpK x.f0 u < 0
   ·
    rw [if_pos ⟨by omega, hu⟩, if_pos ⟨hf, hu⟩]
   ·
    rw [if_neg (by omega), if_neg (by omega)]
abbrev ea (f u : Ky) (s : Int) : Array Value := #[.string f.f0, .string f.f1, .int .i64 f.f2, .string f.f3, .string u.f0, .string u.f1, .int .i64 u.f2, .string u.f3, .int .i64 s]
structure SS (w : World) (f u m : Ky) (s : Int) (base l : Nat) (C : List Cl) (H : List Int) (W : World) : Prop where
 isl : ∃ own, IsL W base l [3, 1, 2] C H own
 b4 : W.heap[w.heap.size]? = some (.cells (ea f u s) 49 (0, 0))
 b5 : W.heap[w.heap.size + 1]? = some (.cells (ka m) 31 (0, 0))
 bel : Below w.heap.size w W
 lt : w.heap.size + 1 < base
theorem SS.below {w : World} {f u m : Ky} {s : Int} {base l : Nat} {C : List Cl} {H : List Int} {A B : World} (h : SS w f u m s base l C H A) (hb : Below A.heap.size A B) : SS w f u m s base l C H B := by
 obtain ⟨⟨own, h1⟩, h3, h4, h5, h6⟩ := h
 exact ⟨⟨own, h1.below hb⟩, blk_below h3 hb, blk_below h4 hb, below_step h5 hb, h6⟩
theorem SS.cells {w : World} {f u m : Ky} {s : Int} {base l : Nat} {C : List Cl} {H : List Int} {w' : World} (h : SS w f u m s base l C H w') : w'.cell? ⟨w.heap.size, 0, none⟩ = some (.string f.f0) ∧ w'.cell? ⟨w.heap.size, 1, none⟩ = some (.string f.f1) ∧ w'.cell? ⟨w.heap.size, 2, none⟩ = some (.int .i64 f.f2) ∧ w'.cell? ⟨w.heap.size, 3, none⟩ = some (.string f.f3) ∧ w'.cell? ⟨w.heap.size, 4, none⟩ = some (.string u.f0) ∧ w'.cell? ⟨w.heap.size, 5, none⟩ = some (.string u.f1) ∧ w'.cell? ⟨w.heap.size, 6, none⟩ = some (.int .i64 u.f2) ∧ w'.cell? ⟨w.heap.size, 7, none⟩ = some (.string u.f3) ∧ w'.cell? ⟨w.heap.size + 1, 0, none⟩ = some (.string m.f0) ∧ w'.cell? ⟨w.heap.size + 1, 1, none⟩ = some (.string m.f1) ∧ w'.cell? ⟨w.heap.size + 1, 2, none⟩ = some (.int .i64 m.f2) ∧ w'.cell? ⟨w.heap.size + 1, 3, none⟩ = some (.string m.f3) :=
 ⟨(blk_cell h.b4 0).trans rfl, (blk_cell h.b4 1).trans rfl, (blk_cell h.b4 2).trans rfl, (blk_cell h.b4 3).trans rfl, (blk_cell h.b4 4).trans rfl, (blk_cell h.b4 5).trans rfl, (blk_cell h.b4 6).trans rfl, (blk_cell h.b4 7).trans rfl, (blk_cell h.b5 0).trans rfl, (blk_cell h.b5 1).trans rfl, (blk_cell h.b5 2).trans rfl, (blk_cell h.b5 3).trans rfl⟩
theorem ss_put {w : World} {f u m : Ky} {s : Int} {base l : Nat} {C : List Cl} {H : List Int} {A : World} (h : SS w f u m s base l C H A) (x : Cl) (hC : C.length < 1000) (W : World) (hW : Below A.heap.size A W) :
  Calls Try.prog 11 #[.pointer (some ⟨l, 0, none⟩), .agg (ca x)] W fun e w' => (∃ n : Int, e = .returned (.int .i64 n)) ∧ SS w f u m s base l (stp [3, 1, 2] (C, H) x).1 (stp [3, 1, 2] (C, H) x).2 w' ∧ ∃ own : Nat → Prop, (∀ k, own k → base ≤ k ∧ k < A.heap.size) ∧ Ch own W w' := by
 by_cases hg : goodB x = true
 ·
  obtain ⟨⟨own, h1⟩, h3, h4, h5, h6⟩ := h
  have hge := h1.ge
  refine (isl_put (h1.below hW) x hg hC (by decide)).mono ?_
  rintro e w1 ⟨rfl, own', hl, hch, ho⟩
  exact ⟨⟨_, rfl⟩, ⟨⟨own', by unfold stp; rw [if_pos hg]; exact hl⟩, hch.blk (blk_below h3 hW) fun hq => by have := (hge _ hq).1; omega, hch.blk (blk_below h4 hW) fun hq => by have := (hge _ hq).1; omega, hch.to_below (below_step h5 hW) fun q hq => by have := (hge _ hq).1; omega, h6⟩, own, hge, hch⟩
 ·
  obtain ⟨⟨own, h1⟩, -⟩ := id h
  have hge := h1.ge
  refine (isl_bad (h1.below hW) x (by simpa using hg)).mono ?_
  rintro e w1 ⟨rfl, hb⟩
  refine ⟨⟨_, rfl⟩, ?_, own, hge, ⟨hb.os, hb.tape, hb.output, hb.size, fun q hq _ => hb.block q hq⟩⟩
  have : stp [3, 1, 2] (C, H) x = (C, H) := by unfold stp; rw [if_neg hg]
  rw [this]
  exact h.below (below_step hW hb)
def RS (W : World) (v : Value) (l : List Cl) : Prop := ∃ (A : Option Addr) (c : Nat), v = .slice A l.length c ∧ l.length ≤ c ∧ k37.C W A l.length l
theorem RS.below {W V : World} {v : Value} {l : List Cl} (h : RS W v l) (hb : Below W.heap.size W V) : RS V v l := by
 obtain ⟨A, c, h1, h2, h3⟩ := h
 exact ⟨A, c, h1, h2, Kd.C_below h3 hb⟩
theorem SS.gather {w : World} {f u m : Ky} {s : Int} {base l : Nat} {C : List Cl} {H : List Int} {W : World} (h : SS w f u m s base l C H W) (hC : C.length ≤ 200) (a b : Ky) :
  Calls Try.prog 20 #[.pointer (some ⟨l, 0, none⟩), .agg (ka a), .agg (ka b), .int .i64 (-1)] W fun e w' => ∃ v : Value, e = .returned v ∧ RS w' v (scanP C a b) ∧ Below W.heap.size W w' := by
 obtain ⟨⟨own, h1⟩, -⟩ := h
 refine (isl_gather h1 (by omega) a b (-1)).mono ?_
 rintro e w1 ⟨v, rfl, hr, hb⟩
 rw [gath_all] at hr
 obtain ⟨A, c, rfl, hc, hC⟩ := Kd.R_reads hr
 exact ⟨_, rfl, ⟨A, c, rfl, hc, hC⟩, hb⟩
structure NIv (w : World) (g : Nat) (n : Nat) (W : World) : Prop where
 box : W.heap[g]? = some (.cells #[.int .i64 (n : Int)] 3 (0, 0))
 bel : Below w.heap.size w W
 le : w.heap.size ≤ g
theorem NIv.mvb {w : World} {g n B : Nat} {A C : World} (h : NIv w g n A) (hB : g ≤ B) (hm : MvB 65 g B A C) : NIv w g n C := by
 obtain ⟨h1, h4, h5⟩ := h
 exact ⟨(hm.same _ (blk_lt h1) (.inr (typed_ne h1 (by decide))) (.inr ⟨_, h1, rfl⟩)).trans h1, ⟨hm.os.trans h4.os, hm.tape.trans h4.tape, hm.output.trans h4.output, Nat.le_trans h4.size hm.size, fun k hk => (hm.same k (Nat.lt_of_lt_of_le hk h4.size) (.inl (by omega)) (.inl (by omega))).trans (h4.block k hk)⟩, h5⟩
theorem NIv.put {w : World} {g n : Nat} {A : World} (h : NIv w g n A) : NIv w g (n + 1) (A.setCell ⟨g, 0, none⟩ (.int .i64 ((n : Int) + 1))) := by
 obtain ⟨h1, h4, h5⟩ := h
 exact ⟨by have := blk_set h1 0 (.int .i64 ((n : Int) + 1)); simpa using this, below_set h4 h5, h5⟩
theorem NIv.kp {w : World} {g n n0 : Nat} {A : World} (h : NIv w g n A) (v : Value) : Kp 65 n0 g A (A.setCell ⟨g, 0, none⟩ v) := by
 have hs : (A.setCell ⟨g, 0, none⟩ v).heap.size = A.heap.size := by simp [World.setCell]
 refine ⟨rfl, rfl, rfl, by rw [hs]; exact Nat.le_refl _, fun k hk hc => ?_⟩
 have hne : k ≠ g := fun e => by
  subst e
  rcases hc with hc | ⟨cells, fr, hc⟩
  ·
   omega
  ·
   exact typed_ne h.box (by decide) _ _ hc
 exact Below.heap_setCell _ ⟨g, 0, none⟩ v k hne
set_option maxHeartbeats 4000000 in
set_option maxRecDepth 100000 in
theorem walkScans (A0 : Option Addr) (c0 : Nat) (xs : List Cl) (f0 f1 : ByteArray) (f2 : Int) (f3 u0 u1 : ByteArray) (u2 : Int) (u3 : ByteArray) (s : Int) (m0 m1 : ByteArray) (m2 : Int) (m3 : ByteArray) (b : Bool) (w : World) (hr0 : k37.C w A0 xs.length xs) (hc0 : xs.length ≤ c0) (h : InC xs ∧ b = true) :
  Calls Try.prog 5 #[.slice A0 xs.length c0, .agg #[.string f0, .string f1, .int .i64 f2, .string f3, .string u0, .string u1, .int .i64 u2, .string u3, .int .i64 s], .agg #[.string m0, .string m1, .int .i64 m2, .string m3]] w fun e w' => e = .returned (.bool b) ∧ Below w.heap.size w w' := by
 obtain ⟨h0, rfl⟩ := h
 obtain ⟨f, hf⟩ : ∃ f : Ky, f = ⟨f0, f1, f2, f3⟩ := ⟨_, rfl⟩
 obtain ⟨u, hu⟩ : ∃ u : Ky, u = ⟨u0, u1, u2, u3⟩ := ⟨_, rfl⟩
 obtain ⟨m, hm⟩ : ∃ m : Ky, m = ⟨m0, m1, m2, m3⟩ := ⟨_, rfl⟩
 obtain rfl : f0 = f.f0 := by rw [hf]
 obtain rfl : f1 = f.f1 := by rw [hf]
 obtain rfl : f2 = f.f2 := by rw [hf]
 obtain rfl : f3 = f.f3 := by rw [hf]
 obtain rfl : u0 = u.f0 := by rw [hu]
 obtain rfl : u1 = u.f1 := by rw [hu]
 obtain rfl : u2 = u.f2 := by rw [hu]
 obtain rfl : u3 = u.f3 := by rw [hu]
 obtain rfl : m0 = m.f0 := by rw [hm]
 obtain rfl : m1 = m.f1 := by rw [hm]
 obtain rfl : m2 = m.f2 := by rw [hm]
 obtain rfl : m3 = m.f3 := by rw [hm]
 clear hf hu hm
 obtain ⟨r, hr, hwe⟩ := weigh_calls h0
 have HWE := Lib.hid (fun (W : World) (hW : Below w.heap.size w W) => hwe A0 c0 W (Kd.C_below hr0 hW) hc0)
 have HLV := Lib.hid lives_calls
 have HR := Lib.hid hr
 have HNEW := Lib.hid (fun (W : World) => (show Calls Try.prog 10 #[.slice (some ⟨W.heap.size, 0, none⟩) 3 3] (W.alloc (.cells #[.int .i64 3, .int .i64 1, .int .i64 2] 3)) _ from isl_new (some ⟨W.heap.size, 0, none⟩) 3 [3, 1, 2] (W.alloc (.cells #[.int .i64 3, .int .i64 1, .int .i64 2] 3)) (C_ints (xs := [3, 1, 2]) (heap_new_ W _) (by decide)) (Nat.le_refl _) (by decide)))
 have HR0 := Lib.hid (fun (W : World) (hW : Below w.heap.size w W) => Kd.C_below hr0 hW)
 have HC0 := Lib.hid hc0
 have hb5 : ((w.alloc (.cells (ea f u s) 49)).alloc (.cells (ka m) 31)).heap[w.heap.size + 1]? = some (.cells (ka m) 31 (0, 0)) := by
  have h := heap_new_ (w.alloc (.cells (ea f u s) 49)) (.cells (ka m) 31)
  simp only [World.size_alloc] at h
  exact h
 have hb4 : ((w.alloc (.cells (ea f u s) 49)).alloc (.cells (ka m) 31)).heap[w.heap.size]? = some (.cells (ea f u s) 49 (0, 0)) := blk_alloc (heap_new_ w _) _
 have hbw : Below w.heap.size w ((w.alloc (.cells (ea f u s) 49)).alloc (.cells (ka m) 31)) := below_alloc (below_alloc (Below.refl _ _) _) _
 have HBX := Lib.hid (And.intro hb4 (And.intro hb5 hbw))
 clear hr0 hwe hr hc0 h0 hb4 hb5 hbw
 refine (callsIn_wide (n := 6)).1 ?_
 refine callsIn_of_wp_marks Try.func5 rfl trivial ?_ rfl
 simp only [Try.ntmps5, List.size_toArray, List.length_cons, List.length_nil, Nat.reduceAdd, Nat.reduceSub, Array.replicate_succ, Array.replicate_zero, List.push_toArray, List.append_toArray, List.nil_append, List.cons_append]
 refine (wpIn_wide (n := 6)).2 ?_
 go_upto_region 1 with fail
 by_cases hbig : 200 < r
 ·
  have hq : (200 : Int) < (r : Int) := by omega
  clear hbig
  go_wp2_with (first | (go_at_call 8; (with_reducible refine (HWE.out _ HBX.out.2.2).mono ?_); rintro e w1 ⟨rfl, hb⟩; have HB1 := Lib.hid (below_step HBX.out.2.2 hb); clear hb) | (go_at_call 9; (with_reducible refine (HLV.out _).mono ?_); rintro e w2 ⟨rfl, hb⟩; have HB2 := Lib.hid (below_step HB1.out hb); clear hb))
  exact ⟨_, by simp [results, Try.f5, go_sem], rfl, HB2.out⟩
 ·
  have hq : ¬ (200 : Int) < (r : Int) := by omega
  have hx200 : xs.length ≤ 200 := HR.out (by omega)
  clear hbig HR
  go_upto_region 6 with (first | (go_at_call 8; (with_reducible refine (HWE.out _ HBX.out.2.2).mono ?_); rintro e w1 ⟨rfl, hb⟩; have HB1 := Lib.hid (below_step HBX.out.2.2 hb); have HK4 := Lib.hid (blk_below HBX.out.1 hb); have HK5 := Lib.hid (blk_below HBX.out.2.1 hb); clear hb) | (go_at_call 10; (with_reducible refine (HNEW.out w1).mono ?_); rintro e w2 ⟨l, own, rfl, hl, hb⟩; have HL := Lib.hid hl; have hbc := below_step (below_alloc (Below.refl w1.heap.size w1) _) hb; have HB2 := Lib.hid (below_step HB1.out hbc); have HK4b := Lib.hid (blk_below HK4.out hbc); have HK5b := Lib.hid (blk_below HK5.out hbc); clear hl hb hbc))
  have hlt := blk_lt HK5.out
  have HSS := Lib.hid (show SS w f u m s (w1.heap.size + 1) l [] [] w2 from
   ⟨⟨own, by have h := HL.out; simp only [World.size_alloc] at h; exact h⟩, HK4b.out, HK5b.out, HB2.out, by omega⟩)
  obtain ⟨base, hbase⟩ : ∃ base, w1.heap.size + 1 = base := ⟨_, rfl⟩
  rw [hbase] at HSS
  have hxz : (xs.length : Int) ≤ 200 := by omega
  clear hlt hbase HL HB1 HK4 HK5 HB2 HK4b HK5b
  go_wp2_with fail
  go_loopg [9, 25] xs.length (fun gj v9 v25 wr => ∃ i : Nat, v25 = .int .i64 i ∧ Aside0 (i ≤ xs.length ∧ xs.length - i ≤ gj) ∧ Aside0 (SS w f u m s base l (Ps [3, 1, 2] (xs.take i)).1 (Ps [3, 1, 2] (xs.take i)).2 wr))
  case atStart => exact ⟨0, rfl, ⟨Nat.zero_le _, by omega⟩, ⟨HSS.out⟩⟩
  case round =>
   clear HSS
   obtain ⟨i, rfl, HI, HG⟩ := hrel
   by_cases hil : i < xs.length
   ·
    have q1 : (i : Int) < (xs.length : Int) := by omega
    have q0 : (0 : Int) ≤ (i : Int) := by omega
    obtain ⟨ad, rfl, d⟩ := cl_cells (HR0.out wr HG.out.bel) i hil
    have HPS := Lib.hid (Ps_snoc [3, 1, 2] hil)
    obtain ⟨x, hx⟩ : ∃ x, xs[i] = x := ⟨_, rfl⟩
    rw [show xs.getD i z37 = x by rw [fin_ofD hil, hx]] at d
    rw [hx] at HPS
    obtain ⟨d0, d1, d2, d3, d4, d5, d6, d7, d8, d9⟩ := d
    have hC1 : (Ps [3, 1, 2] (xs.take i)).1.length < 1000 := by
     have h1 := Ps_len [3, 1, 2] (xs.take i)
     rw [List.length_take] at h1
     omega
    obtain ⟨P, hP⟩ : ∃ P, Ps [3, 1, 2] (xs.take i) = P := ⟨_, rfl⟩
    rw [hP] at hC1 HPS HG
    have HC := Lib.hid hC1
    clear hx hC1 hP
    go_upto_region 9 with fail
    obtain ⟨w4, hw4⟩ : ∃ w4, wr.alloc (.cells (ca x) 37) = w4 := ⟨_, rfl⟩
    have hX : w4.heap[wr.heap.size]? = some (.cells (ca x) 37 (0, 0)) := hw4 ▸ heap_new_ wr _
    have HB4 := Lib.hid (show Below wr.heap.size wr w4 from hw4 ▸ below_alloc (Below.refl _ _) _)
    have HPT := Lib.hid (ss_put HG.out x HC.out w4 HB4.out)
    rw [hw4]
    obtain ⟨gx, hgx⟩ : ∃ gx, wr.heap.size = gx := ⟨_, rfl⟩
    rw [hgx] at hX ⊢
    have e0 := (blk_cell hX 0).trans (show _ = some (Value.string x.f0.f0) from rfl)
    have e1 := (blk_cell hX 1).trans (show _ = some (Value.string x.f0.f1) from rfl)
    have e2 := (blk_cell hX 2).trans (show _ = some (Value.int .i64 x.f0.f2) from rfl)
    have e3 := (blk_cell hX 3).trans (show _ = some (Value.string x.f0.f3) from rfl)
    have e4 := (blk_cell hX 4).trans (show _ = some (Value.int .i64 x.f1.f0) from rfl)
    have e5 := (blk_cell hX 5).trans (show _ = some (Value.bool x.f1.f1) from rfl)
    have e6 := (blk_cell hX 6).trans (show _ = some (Value.int .i64 x.f1.f2) from rfl)
    have e7 := (blk_cell hX 7).trans (show _ = some (Value.int .i64 x.f1.f3.f0) from rfl)
    have e8 := (blk_cell hX 8).trans (show _ = some (Value.int .i64 x.f1.f3.f1) from rfl)
    have e9 := (blk_cell hX 9).trans (show _ = some (Value.string x.f1.f3.f2) from rfl)
    clear hw4 hgx hX d0 d1 d2 d3 d4 d5 d6 d7 d8 d9
    go_wp2_with (go_at_call 11; (with_reducible refine HPT.out.mono ?_); rintro e w5 ⟨⟨nn, rfl⟩, hG, -⟩; have HG5 := Lib.hid hG; clear hG)
    go_roundg (xs.length - (i + 1))
    case measure => have := HI.out; omega
    case rel => exact ⟨i + 1, by go_num, ⟨by omega, Nat.le_refl _⟩, ⟨by rw [HPS.out]; exact HG5.out⟩⟩
   ·
    obtain rfl : i = xs.length := by have := HI.out; omega
    have q1 : ¬ ((xs.length : Nat) : Int) < (xs.length : Int) := by omega
    rw [List.take_of_length_le (Nat.le_refl _)] at HG
    have hC1 : (Ps [3, 1, 2] xs).1.length ≤ 200 := Nat.le_trans (Ps_len [3, 1, 2] xs) hx200
    have hIn := Ps_inc [3, 1, 2] xs
    obtain ⟨P, hP⟩ : ∃ P, Ps [3, 1, 2] xs = P := ⟨_, rfl⟩
    rw [hP] at hC1 HG hIn
    have HC := Lib.hid hC1
    have HIN := Lib.hid hIn
    clear hC1 hIn hP HI
    have HK1 := Lib.hid (fun W => skerryref04_Cmp.calls f.f0 f.f1 f.f2 f.f3 m.f0 m.f1 m.f2 m.f3 (cmpK f m) W (rkey_f f m))
    have HK2 := Lib.hid (fun W => skerryref04_Cmp.calls m.f0 m.f1 m.f2 m.f3 u.f0 u.f1 u.f2 u.f3 (cmpK m u) W (rkey_f m u))
    have HME := Lib.hid (fun (h1 : ¬ 0 < cmpK f m) (h2 : ¬ 0 < cmpK m u) => scan_meet HIN.out h1 h2)
    obtain ⟨d1, hd1⟩ : ∃ d, cmpK f m = d := ⟨_, rfl⟩
    obtain ⟨d2, hd2⟩ : ∃ d, cmpK m u = d := ⟨_, rfl⟩
    rw [hd1] at HK1 HME
    rw [hd2] at HK2 HME
    clear hd1 hd2
    have y0 := (blk_cell HG.out.b4 0).trans (show _ = some (Value.string f.f0) from rfl)
    have y1 := (blk_cell HG.out.b4 1).trans (show _ = some (Value.string f.f1) from rfl)
    have y2 := (blk_cell HG.out.b4 2).trans (show _ = some (Value.int .i64 f.f2) from rfl)
    have y3 := (blk_cell HG.out.b4 3).trans (show _ = some (Value.string f.f3) from rfl)
    have y4 := (blk_cell HG.out.b4 4).trans (show _ = some (Value.string u.f0) from rfl)
    have y5 := (blk_cell HG.out.b4 5).trans (show _ = some (Value.string u.f1) from rfl)
    have y6 := (blk_cell HG.out.b4 6).trans (show _ = some (Value.int .i64 u.f2) from rfl)
    have y7 := (blk_cell HG.out.b4 7).trans (show _ = some (Value.string u.f3) from rfl)
    have z0 := (blk_cell HG.out.b5 0).trans (show _ = some (Value.string m.f0) from rfl)
    have z1 := (blk_cell HG.out.b5 1).trans (show _ = some (Value.string m.f1) from rfl)
    have z2 := (blk_cell HG.out.b5 2).trans (show _ = some (Value.int .i64 m.f2) from rfl)
    have z3 := (blk_cell HG.out.b5 3).trans (show _ = some (Value.string m.f3) from rfl)
    by_cases h1 : 0 < d1
    ·
     go_wp2_with (first | (go_at_call 19; (with_reducible refine (HK1.out _).mono ?_); rintro e w6 ⟨rfl, hb⟩; have HG := Lib.hid (HG.out.below hb); have y0 := (blk_cell HG.out.b4 0).trans (show _ = some (Value.string f.f0) from rfl); have y1 := (blk_cell HG.out.b4 1).trans (show _ = some (Value.string f.f1) from rfl); have y2 := (blk_cell HG.out.b4 2).trans (show _ = some (Value.int .i64 f.f2) from rfl); have y3 := (blk_cell HG.out.b4 3).trans (show _ = some (Value.string f.f3) from rfl); have y4 := (blk_cell HG.out.b4 4).trans (show _ = some (Value.string u.f0) from rfl); have y5 := (blk_cell HG.out.b4 5).trans (show _ = some (Value.string u.f1) from rfl); have y6 := (blk_cell HG.out.b4 6).trans (show _ = some (Value.int .i64 u.f2) from rfl); have y7 := (blk_cell HG.out.b4 7).trans (show _ = some (Value.string u.f3) from rfl); have z0 := (blk_cell HG.out.b5 0).trans (show _ = some (Value.string m.f0) from rfl); have z1 := (blk_cell HG.out.b5 1).trans (show _ = some (Value.string m.f1) from rfl); have z2 := (blk_cell HG.out.b5 2).trans (show _ = some (Value.int .i64 m.f2) from rfl); have z3 := (blk_cell HG.out.b5 3).trans (show _ = some (Value.string m.f3) from rfl); clear hb) | (go_at_call 9; (with_reducible refine (HLV.out _).mono ?_); rintro e w7 ⟨rfl, hb⟩; have HBL := Lib.hid (below_step HG.out.bel hb); clear hb))
     exact ⟨_, by simp [results, Try.f5, go_sem], rfl, HBL.out⟩
    ·
     by_cases h2 : 0 < d2
     ·
      go_wp2_with (first | (go_at_call 19; (with_reducible refine (HK1.out _).mono ?_); rintro e w6 ⟨rfl, hb⟩; have HG := Lib.hid (HG.out.below hb); have y0 := (blk_cell HG.out.b4 0).trans (show _ = some (Value.string f.f0) from rfl); have y1 := (blk_cell HG.out.b4 1).trans (show _ = some (Value.string f.f1) from rfl); have y2 := (blk_cell HG.out.b4 2).trans (show _ = some (Value.int .i64 f.f2) from rfl); have y3 := (blk_cell HG.out.b4 3).trans (show _ = some (Value.string f.f3) from rfl); have y4 := (blk_cell HG.out.b4 4).trans (show _ = some (Value.string u.f0) from rfl); have y5 := (blk_cell HG.out.b4 5).trans (show _ = some (Value.string u.f1) from rfl); have y6 := (blk_cell HG.out.b4 6).trans (show _ = some (Value.int .i64 u.f2) from rfl); have y7 := (blk_cell HG.out.b4 7).trans (show _ = some (Value.string u.f3) from rfl); have z0 := (blk_cell HG.out.b5 0).trans (show _ = some (Value.string m.f0) from rfl); have z1 := (blk_cell HG.out.b5 1).trans (show _ = some (Value.string m.f1) from rfl); have z2 := (blk_cell HG.out.b5 2).trans (show _ = some (Value.int .i64 m.f2) from rfl); have z3 := (blk_cell HG.out.b5 3).trans (show _ = some (Value.string m.f3) from rfl); clear hb) | (go_at_call 19; (with_reducible refine (HK2.out _).mono ?_); rintro e w6 ⟨rfl, hb⟩; have HG := Lib.hid (HG.out.below hb); have y0 := (blk_cell HG.out.b4 0).trans (show _ = some (Value.string f.f0) from rfl); have y1 := (blk_cell HG.out.b4 1).trans (show _ = some (Value.string f.f1) from rfl); have y2 := (blk_cell HG.out.b4 2).trans (show _ = some (Value.int .i64 f.f2) from rfl); have y3 := (blk_cell HG.out.b4 3).trans (show _ = some (Value.string f.f3) from rfl); have y4 := (blk_cell HG.out.b4 4).trans (show _ = some (Value.string u.f0) from rfl); have y5 := (blk_cell HG.out.b4 5).trans (show _ = some (Value.string u.f1) from rfl); have y6 := (blk_cell HG.out.b4 6).trans (show _ = some (Value.int .i64 u.f2) from rfl); have y7 := (blk_cell HG.out.b4 7).trans (show _ = some (Value.string u.f3) from rfl); have z0 := (blk_cell HG.out.b5 0).trans (show _ = some (Value.string m.f0) from rfl); have z1 := (blk_cell HG.out.b5 1).trans (show _ = some (Value.string m.f1) from rfl); have z2 := (blk_cell HG.out.b5 2).trans (show _ = some (Value.int .i64 m.f2) from rfl); have z3 := (blk_cell HG.out.b5 3).trans (show _ = some (Value.string m.f3) from rfl); clear hb) | (go_at_call 9; (with_reducible refine (HLV.out _).mono ?_); rintro e w7 ⟨rfl, hb⟩; have HBL := Lib.hid (below_step HG.out.bel hb); clear hb))
      exact ⟨_, by simp [results, Try.f5, go_sem], rfl, HBL.out⟩
     ·
      have HMF := Lib.hid (HME.out h1 h2)
      clear HME
      go_upto_region 13 with (first | (go_at_call 19; (with_reducible refine (HK1.out _).mono ?_); rintro e w6 ⟨rfl, hb⟩; have HG := Lib.hid (HG.out.below hb); have y0 := (blk_cell HG.out.b4 0).trans (show _ = some (Value.string f.f0) from rfl); have y1 := (blk_cell HG.out.b4 1).trans (show _ = some (Value.string f.f1) from rfl); have y2 := (blk_cell HG.out.b4 2).trans (show _ = some (Value.int .i64 f.f2) from rfl); have y3 := (blk_cell HG.out.b4 3).trans (show _ = some (Value.string f.f3) from rfl); have y4 := (blk_cell HG.out.b4 4).trans (show _ = some (Value.string u.f0) from rfl); have y5 := (blk_cell HG.out.b4 5).trans (show _ = some (Value.string u.f1) from rfl); have y6 := (blk_cell HG.out.b4 6).trans (show _ = some (Value.int .i64 u.f2) from rfl); have y7 := (blk_cell HG.out.b4 7).trans (show _ = some (Value.string u.f3) from rfl); have z0 := (blk_cell HG.out.b5 0).trans (show _ = some (Value.string m.f0) from rfl); have z1 := (blk_cell HG.out.b5 1).trans (show _ = some (Value.string m.f1) from rfl); have z2 := (blk_cell HG.out.b5 2).trans (show _ = some (Value.int .i64 m.f2) from rfl); have z3 := (blk_cell HG.out.b5 3).trans (show _ = some (Value.string m.f3) from rfl); clear hb) | (go_at_call 19; (with_reducible refine (HK2.out _).mono ?_); rintro e w6 ⟨rfl, hb⟩; have HG := Lib.hid (HG.out.below hb); have y0 := (blk_cell HG.out.b4 0).trans (show _ = some (Value.string f.f0) from rfl); have y1 := (blk_cell HG.out.b4 1).trans (show _ = some (Value.string f.f1) from rfl); have y2 := (blk_cell HG.out.b4 2).trans (show _ = some (Value.int .i64 f.f2) from rfl); have y3 := (blk_cell HG.out.b4 3).trans (show _ = some (Value.string f.f3) from rfl); have y4 := (blk_cell HG.out.b4 4).trans (show _ = some (Value.string u.f0) from rfl); have y5 := (blk_cell HG.out.b4 5).trans (show _ = some (Value.string u.f1) from rfl); have y6 := (blk_cell HG.out.b4 6).trans (show _ = some (Value.int .i64 u.f2) from rfl); have y7 := (blk_cell HG.out.b4 7).trans (show _ = some (Value.string u.f3) from rfl); have z0 := (blk_cell HG.out.b5 0).trans (show _ = some (Value.string m.f0) from rfl); have z1 := (blk_cell HG.out.b5 1).trans (show _ = some (Value.string m.f1) from rfl); have z2 := (blk_cell HG.out.b5 2).trans (show _ = some (Value.int .i64 m.f2) from rfl); have z3 := (blk_cell HG.out.b5 3).trans (show _ = some (Value.string m.f3) from rfl); clear hb))
      clear y0 y1 y2 y3 y4 y5 y6 y7 z0 z1 z2 z3 h1 h2 HK1 HK2
      go_cut [10, 11, 12] from 46 to 61 (fun v10 v11 v12 wd => Aside0 (RS wd v10 (scanP P.1 f m)) ∧ Aside0 (RS wd v11 (scanP P.1 m u)) ∧ Aside0 (RS wd v12 (scanP P.1 f u)) ∧ Aside0 (SS w f u m s base l P.1 P.2 wd))
      case first =>
       have HS := Lib.hid (HG.out.below (below_drew (Below.refl _ _)))
       refine wp_region_noPanic ?_
       go_region_held3 (fun w' => w'.cell? ⟨w.heap.size, 0, none⟩ = some (.string f.f0) ∧ w'.cell? ⟨w.heap.size, 1, none⟩ = some (.string f.f1) ∧ w'.cell? ⟨w.heap.size, 2, none⟩ = some (.int .i64 f.f2) ∧ w'.cell? ⟨w.heap.size, 3, none⟩ = some (.string f.f3) ∧ w'.cell? ⟨w.heap.size, 4, none⟩ = some (.string u.f0) ∧ w'.cell? ⟨w.heap.size, 5, none⟩ = some (.string u.f1) ∧ w'.cell? ⟨w.heap.size, 6, none⟩ = some (.int .i64 u.f2) ∧ w'.cell? ⟨w.heap.size, 7, none⟩ = some (.string u.f3) ∧ w'.cell? ⟨w.heap.size + 1, 0, none⟩ = some (.string m.f0) ∧ w'.cell? ⟨w.heap.size + 1, 1, none⟩ = some (.string m.f1) ∧ w'.cell? ⟨w.heap.size + 1, 2, none⟩ = some (.int .i64 m.f2) ∧ w'.cell? ⟨w.heap.size + 1, 3, none⟩ = some (.string m.f3)) (exact HS.out.cells) (first | (go_at_call 20; (with_reducible refine (HS.out.gather HC.out f m).mono ?_); rintro e w7 ⟨v, rfl, hr, hb⟩; have HS := Lib.hid (HS.out.below hb); (try (have HRB := Lib.hid (HRB.out.below hb))); (try (have HRC := Lib.hid (HRC.out.below hb))); have HRA := Lib.hid hr; clear hr hb) | (go_at_call 20; (with_reducible refine (HS.out.gather HC.out m u).mono ?_); rintro e w7 ⟨v, rfl, hr, hb⟩; have HS := Lib.hid (HS.out.below hb); (try (have HRA := Lib.hid (HRA.out.below hb))); (try (have HRC := Lib.hid (HRC.out.below hb))); have HRB := Lib.hid hr; clear hr hb) | (go_at_call 20; (with_reducible refine (HS.out.gather HC.out f u).mono ?_); rintro e w7 ⟨v, rfl, hr, hb⟩; have HS := Lib.hid (HS.out.below hb); (try (have HRA := Lib.hid (HRA.out.below hb))); (try (have HRB := Lib.hid (HRB.out.below hb))); have HRC := Lib.hid hr; clear hr hb))
       all_goals refine NoPanic.normal ?_
       all_goals
        go_wp2_with fail
        go_meet
        case rel => exact ⟨⟨HRA.out⟩, ⟨HRB.out⟩, ⟨HRC.out⟩, ⟨HS.out⟩⟩
      case rest =>
       clear HG
       obtain ⟨HA, HB, HCC, HG⟩ := hcut
       obtain ⟨w7, hw7⟩ : ∃ w7, wc = w7 := ⟨_, rfl⟩
       rw [hw7] at HA HB HCC HG ⊢
       clear hw7
       have hla : (scanP P.1 f m).length ≤ 200 := Nat.le_trans (List.length_filter_le _ _) HC.out
       have hlb : (scanP P.1 m u).length ≤ 200 := Nat.le_trans (List.length_filter_le _ _) HC.out
       have hlc : (scanP P.1 f u).length ≤ 200 := Nat.le_trans (List.length_filter_le _ _) HC.out
       have HSC := Lib.hid (fun (W : World) (hW : Below w7.heap.size w7 W) => (by obtain ⟨own, h1⟩ := (HG.out.below hW).isl; exact isl_scan h1 (by have := HC.out; omega) f u : Calls Try.prog 21 #[.pointer (some ⟨l, 0, none⟩), .agg (ka f), .agg (ka u)] W fun e w' => ∃ (B : Nat) (v : Value), e = .returned (.func (.func 48) #[] #[.pointer (some ⟨B, 0, none⟩)]) ∧ w'.heap[B]? = some (.cells #[v] 23 (0, 0)) ∧ W.heap.size ≤ B ∧ Kd.R k37 37 w' W.heap.size (fun _ => True) v (scanP P.1 f u) ∧ Below W.heap.size W w'))
       obtain ⟨la, ha⟩ : ∃ l, scanP P.1 f m = l := ⟨_, rfl⟩
       rw [ha] at HA hla HMF
       obtain ⟨lb, hb⟩ : ∃ l, scanP P.1 m u = l := ⟨_, rfl⟩
       rw [hb] at HB hlb HMF
       obtain ⟨lc, hc⟩ : ∃ l, scanP P.1 f u = l := ⟨_, rfl⟩
       rw [hc] at HCC hlc HMF HSC
       obtain ⟨Aa, ca_, rfl, hca, hCa⟩ := HA.out
       obtain ⟨Ab, cb_, rfl, hcb, hCb⟩ := HB.out
       obtain ⟨Ac, cc_, rfl, hcc, hCc⟩ := HCC.out
       have HA := Lib.hid (And.intro hca hCa)
       have HB := Lib.hid (And.intro hcb hCb)
       have HCC := Lib.hid (And.intro hcc hCc)
       have HLN := Lib.hid (And.intro hla (And.intro hlb hlc))
       have HLI := Lib.hid (fun (W : World) (hW : Below w7.heap.size w7 W) (A : Option Addr) (c : Nat) (hC : lc.length ≤ c ∧ k37.C W A lc.length lc) => skerryref01_Like.calls (lc.length + 1) A c lc Ac cc_ lc true W hC.2 hC.1 (Kd.C_below HCC.out.2 hW) HCC.out.1 (like_self lc (by have := HLN.out; omega) _ (Nat.lt_succ_self _)))
       clear hca hCa hcb hCb hcc hCc hla hlb hlc ha hb hc
       go_upto_region 16 with (first | ((with_reducible refine gate_dst (N := 62) rfl ?_); refine Kd.R_lit k37 _ 37 ?hg (N := 62) ?hd (xs := ([] : List Cl)) (inner := []) (ok := fun _ => True) (okp := fun _ => False) ?hr ?hp (fun _ hk => hk.elim) ?hq (Below.refl w7.heap.size w7) (Nat.le_refl _) (by simp) ?_; (case hd => rfl); (case hg => rfl); (case hr => first | (go_simp; done) | (go_simp; rfl)); (case hp => exact (Reps.none _ _)); (case hq => exact trivial); intro v62 w8 ho2 hb2 hg_ hnew_; clear hg_ hnew_; have HO8 := Lib.hid ho2; have HB8 := Lib.hid hb2; clear ho2 hb2) | ((with_reducible refine gate_builtin (b := .append) (xs := #[.tmp 62, .tmp 63]) rfl ?_); at_builtin; refine Kd.R_append_rows k37 (w0 := w7) w7.heap.size rfl (.tmp 62) (.tmp 63) 23 37 (.agg #[(.string ⟨#[]⟩), (.string ⟨#[]⟩), (.int .i64 0), (.string ⟨#[]⟩), (.int .i64 0), (.bool false), (.int .i64 0), (.int .i64 0), (.int .i64 0), (.string ⟨#[]⟩)]) 112 rfl Try.underlying23 info37 rfl (by decide) (by omega) v62 [] la _ _ _ (fun _ => True) (fun _ => False) rfl rfl ?aO ?aR (fun _ _ h => h) (fun _ h => h.elim) (fun _ _ => trivial) ?aB ?aS ?aL ?_; (case aR => exact Kd.C_below HA.out.2 HB8.out); (case aO => exact HO8.out); (case aB => exact HB8.out); (case aS => exact (HB8.out).size); (case aL => have := HLN.out.1; simp; omega); intro v64 w9 ho9 hb9 hg9 hat9; rw [List.nil_append] at ho9; have HO9 := Lib.hid ho9; have HB9 := Lib.hid hb9; clear ho9 hb9 hg9 hat9) | ((with_reducible refine gate_builtin (b := .append) (xs := #[.tmp 64, .tmp 65]) rfl ?_); at_builtin; refine Kd.R_append_rows k37 (w0 := w7) w7.heap.size rfl (.tmp 64) (.tmp 65) 23 37 (.agg #[(.string ⟨#[]⟩), (.string ⟨#[]⟩), (.int .i64 0), (.string ⟨#[]⟩), (.int .i64 0), (.bool false), (.int .i64 0), (.int .i64 0), (.int .i64 0), (.string ⟨#[]⟩)]) 112 rfl Try.underlying23 info37 rfl (by decide) (by omega) v64 la lb _ _ _ (fun _ => True) (fun _ => False) rfl rfl ?aO ?aR (fun _ _ h => h) (fun _ h => h.elim) (fun _ _ => trivial) ?aB ?aS ?aL ?_; (case aR => exact Kd.C_below HB.out.2 HB9.out); (case aO => exact HO9.out); (case aB => exact HB9.out); (case aS => exact (HB9.out).size); (case aL => have := HLN.out; omega); intro v66 w10 ho10 hb10 hg10 hat10; rw [HMF.out] at ho10; obtain ⟨A66, c66, rfl, hc66, hC66⟩ := Kd.R_reads ho10; have HC66 := Lib.hid (And.intro hc66 hC66); have HB10 := Lib.hid hb10; clear ho10 hb10 hg10 hat10 hc66 hC66) | (go_at_call 14; (with_reducible refine (HLI.out w10 HB10.out A66 c66 HC66.out).mono ?_); rintro e w11 ⟨rfl, hb⟩; have HB11 := Lib.hid (below_step HB10.out hb.below); clear hb))
       have HG := Lib.hid (HG.out.below HB11.out)
       have y0 := (blk_cell HG.out.b4 0).trans (show _ = some (Value.string f.f0) from rfl)
       have y1 := (blk_cell HG.out.b4 1).trans (show _ = some (Value.string f.f1) from rfl)
       have y2 := (blk_cell HG.out.b4 2).trans (show _ = some (Value.int .i64 f.f2) from rfl)
       have y3 := (blk_cell HG.out.b4 3).trans (show _ = some (Value.string f.f3) from rfl)
       have y4 := (blk_cell HG.out.b4 4).trans (show _ = some (Value.string u.f0) from rfl)
       have y5 := (blk_cell HG.out.b4 5).trans (show _ = some (Value.string u.f1) from rfl)
       have y6 := (blk_cell HG.out.b4 6).trans (show _ = some (Value.int .i64 u.f2) from rfl)
       have y7 := (blk_cell HG.out.b4 7).trans (show _ = some (Value.string u.f3) from rfl)
       have HPT := Lib.hid (fun (W : World) (hW : Below w11.heap.size w11 W) => ss_put HG.out (atC ⟨#[122, 122]⟩ 1099511627776) (by have := HC.out; omega) W hW)
       have HAT := Lib.hid (at_calls ⟨#[122, 122]⟩ 1099511627776)
       go_upto_region 20 with (first | (go_at_call 21; (with_reducible refine (HSC.out w11 HB11.out).mono ?_); rintro e w12 ⟨B, v, rfl, hbx, hge, hr, hb⟩; have HBX := Lib.hid hbx; have HGE := Lib.hid hge; have HR2 := Lib.hid hr; have HB12 := Lib.hid hb; clear hbx hge hr hb) | (go_at_call 22; (with_reducible refine (HAT.out w12).mono ?_); rintro e w13 ⟨rfl, hb⟩; have HBX3 := Lib.hid (blk_below HBX.out hb); have HR3 := Lib.hid (Kd.R_below HR2.out hb); have HB13 := Lib.hid (below_step HB12.out hb); clear hb) | (go_at_call 11; (with_reducible refine (HPT.out w13 HB13.out).mono ?_); rintro e w14 ⟨⟨nn, rfl⟩, hG, own, hown, hch⟩; have HG14 := Lib.hid hG; have HOWN := Lib.hid hown; have HCH := Lib.hid hch; clear hG hown hch))
       clear y0 y1 y2 y3 y4 y5 y6 y7
       have HR4 := Lib.hid (show Kd.R k37 37 w14 w11.heap.size (fun k => w11.heap.size ≤ k ∧ k < w14.heap.size) v lc from by
        refine Kd.R_mono (Kd.R_bound (Kd.R_move (Kd.R_bound HR3.out) fun k hk => HCH.out.same k hk.2.2.1 fun ho => by have h1 := (HOWN.out k ho).2; have h2 := hk.2.1; omega)) fun k hk => ⟨hk.2.1, hk.2.2.1⟩)
       have HBX4 := Lib.hid (show w14.heap[B]? = some (.cells #[v] 23 (0, 0)) from (HCH.out.same B (blk_lt HBX3.out) fun ho => by have h1 := (HOWN.out B ho).2; have h2 := HGE.out; omega).trans HBX3.out)
       obtain ⟨Av, cv, rfl⟩ := Kd.R_slice HR4.out
       have hseq := values_seq 5 (by omega) Av cv lc w11.heap.size B w11.heap.size w14.heap.size (w14.alloc (.cells #[.int .i64 0] 3)) (blk_alloc HBX4.out _) (Kd.R_alloc HR4.out _) ⟨HGE.out, blk_lt HBX4.out⟩ (by have := HLN.out; omega)
       have hI0 : NIv w w14.heap.size ([] : List Cl).length (w14.alloc (.cells #[.int .i64 0] 3)) := ⟨heap_new_ w14 _, below_alloc HG14.out.bel _, HG14.out.bel.size⟩
       have HN1 := Lib.hid HG14.out.bel.size
       go_wp2_with fail
       refine (wpIn_wide (n := 6)).1 ?_
       refine wpIn_range_h rfl (by omega) (gf := 48) (lb := #[.pointer (some ⟨B, 0, none⟩)]) rfl trivial (Go.Proofs.enters_of Try.func48 (by kernel_rfl) rfl) (by simp) hseq (fun _ => rfl)
        (fun pre W => NIv w w14.heap.size pre.length W) (fun _ _ _ => False) (fun _ _ _ h hm => h.mvb (by simp) hm) (fun _ _ _ _ h _ => h) hI0
        (fun pre x a' W => NIv w w14.heap.size pre.length W ∧ a' = { tmps := #[Value.slice A0 xs.length c0, Value.agg #[Value.string f.f0, Value.string f.f1, Value.int IntKind.i64 f.f2, Value.string f.f3, Value.string u.f0, Value.string u.f1, Value.int IntKind.i64 u.f2, Value.string u.f3, Value.int IntKind.i64 s], Value.agg #[Value.string m.f0, Value.string m.f1, Value.int IntKind.i64 m.f2, Value.string m.f3], undef, Value.pointer (some { block := w.heap.size, off := 0 }), Value.pointer (some { block := w.heap.size + 1, off := 0 }), Value.bool false, Value.pointer (some { block := l, off := 0 }), undef, u9, Value.slice Aa la.length ca_, Value.slice Ab lb.length cb_, Value.slice Ac lc.length cc_, Value.func (Fn.func 48) #[] #[Value.pointer (some { block := B, off := 0 })], Value.pointer (some { block := w14.heap.size, off := 0 }), Value.slice A0 xs.length c0, Value.int IntKind.i64 (r : Int), Value.bool (decide ((200 : Int) < (r : Int))), undef, Value.slice (some { block := w1.heap.size, off := 0 }) 3 3, Value.pointer (some { block := l, off := 0 }), Value.pointer (some { block := l, off := 0 }), Value.bool false, Value.slice A0 xs.length c0, Value.int IntKind.i64 (xs.length : Int), Value.int IntKind.i64 (xs.length : Int), Value.bool false, u27, u28, u29, u30, u31, u32, Value.pointer (some { block := w.heap.size, off := 0 }), Value.agg #[Value.string f.f0, Value.string f.f1, Value.int IntKind.i64 f.f2, Value.string f.f3], Value.agg #[Value.string m.f0, Value.string m.f1, Value.int IntKind.i64 m.f2, Value.string m.f3], Value.int IntKind.i64 d1, Value.bool (decide (0 < d1)), Value.bool (decide (0 < d1)), Value.agg #[Value.string m.f0, Value.string m.f1, Value.int IntKind.i64 m.f2, Value.string m.f3], Value.pointer (some { block := w.heap.size, off := 4 }), Value.agg #[Value.string u.f0, Value.string u.f1, Value.int IntKind.i64 u.f2, Value.string u.f3], Value.int IntKind.i64 d2, Value.bool (decide (0 < d2)), Value.bool (decide (0 < d1) || decide (0 < d2)), undef, u46, u47, u48, u49, u50, u51, u52, u53, u54, u55, u56, u57, u58, u59, u60, u61, v62, Value.slice Aa la.length ca_, v64, Value.slice Ab lb.length cb_, Value.slice A66 lc.length c66, Value.slice Ac lc.length cc_, Value.bool true, Value.bool false, Value.pointer (some { block := l, off := 0 }), Value.pointer (some { block := w.heap.size, off := 0 }), Value.agg #[Value.string f.f0, Value.string f.f1, Value.int IntKind.i64 f.f2, Value.string f.f3], Value.pointer (some { block := w.heap.size, off := 4 }), Value.agg #[Value.string u.f0, Value.string u.f1, Value.int IntKind.i64 u.f2, Value.string u.f3], Value.func (Fn.func 48) #[] #[Value.pointer (some { block := B, off := 0 })], Value.func (Fn.func 48) #[] #[Value.pointer (some { block := B, off := 0 })], Value.bool false, Value.pointer (some { block := l, off := 0 }), Value.agg (ca (atC { data := #[122, 122] } 1099511627776)), Value.int IntKind.i64 nn, Value.func (Fn.func 48) #[] #[Value.pointer (some { block := B, off := 0 })], Value.agg (cc x), undef, undef, undef, undef, undef, undef, undef, undef, undef], defers := [] })
        (fun pre x a' V C h hm => ⟨h.1.mvb (by simp) hm, h.2⟩) ?assign ?body ?done ?stop
       case assign =>
        intro l pre x W K hI _ hK
        gi_wp2
        exact hK _ _ (KO.of (KeepsOthers.below (Below.refl _ _))) (Kp.below (Below.refl _ _)) ⟨hI, rfl⟩
       case body =>
        rintro l pre x a' W ⟨hI, rfl⟩ hpre
        have c0 := (blk_cell hI.box 0).trans (show _ = some (Value.int .i64 (pre.length : Int)) from rfl)
        have fb := blk_frozen hI.box 0
        have HI := Lib.hid hI
        have hp1 : pre.length ≤ 1000 := by have h1 := hpre.length_le; have := HLN.out; rw [List.length_append] at h1; omega
        clear hI hpre hseq hI0
        gi_wp2
        refine ⟨KO.of (KeepsOthers.setCell _ _ _), HI.out.kp _, ?_⟩
        show NIv w w14.heap.size (pre ++ [x]).length _
        rw [List.length_append, List.length_singleton]
        exact HI.out.put
       case done =>
        rintro D W hD hI hK
        have c0 := (blk_cell hI.box 0).trans (show _ = some (Value.int .i64 (lc.length : Int)) from rfl)
        have HI := Lib.hid hI
        have HKd := Lib.hid hK
        have HD := Lib.hid hD
        have e1 : ((lc.length : Int) == (lc.length : Int)) = true := by simp
        clear hI hK hD hseq hI0
        go_wp2_with (go_at_call 9; (with_reducible refine (HLV.out _).mono ?_); rintro e w16 ⟨rfl, hb⟩; have HB16 := Lib.hid (below_step HI.out.bel hb); have HK16 := Lib.hid (blk_below HKd.out hb); clear hb)
        refine ⟨by simp, .inl ⟨_, _, rfl, run_takeDeferred HK16.out, ?_⟩⟩
        have hb3 : Below w.heap.size w (w16.putObj D (.deferred none)) := HB16.out.trans (belowK_b (w := w) (Nat.le_refl _) w16 D _ _ (by have := HN1.out; have := HD.out; rw [World.size_alloc] at this; omega) HK16.out rfl rfl)
        exact ⟨.bool true, by simp [results, Try.f5, go_sem], rfl, hb3⟩
       case stop =>
        rintro D c pre W _ _ h
        exact h.elim
end Go.Proofs.Ytlffkbcaphhldaa.Q
