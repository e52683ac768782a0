/- Lemmas for this claim's walk: no condition of their own. -/
import Derived.Test.YtlffkbcaphhldaaFdQx12
import Derived.Test.YtlffkbcaphhldaaFdQx17
import Derived.Test.YtlffkbcaphhldaaFdPut
import Derived.Test.YtlffkbcaphhldaaFdSkHis
import Derived.Test.YtlffkbcaphhldaaFdJ33
import Derived.Deep.MidRow
import Derived.WalkLawsBesides
import Derived.WalkSpells
import Derived.Lib.Hide
import Derived.Deep.DeepFit
import Derived.Outline
namespace Go.Proofs.Ytlffkbcaphhldaa.Q
open Go.RowKit Go.Proofs.YtlffkbcaphhldaaW.PrintWords Go.Proofs.YtlffkbcaphhldaaW.PrintLast Go.Proofs.YtlffkbcaphhldaaW.PrintMore
attribute [local go_sem] max2_int min2_int max_two min_two max_three min_three max_four min_four
set_option linter.unusedVariables false
set_option linter.unusedSimpArgs false
open Go.Lib Go.Proofs.Ytlffkbcaphhldaa.Sk Go.Proofs.Ytlffkbcaphhldaa.Pl Go.Proofs.Ytlffkbcaphhldaa.Ord Go.Proofs.Ytlffkbcaphhldaa.Nm Go.Proofs.Ytlffkbcaphhldaa.Rh
attribute [local go_sem] Oper.semAt_some
attribute [local go_sem high] eqA37
def atC (col : ByteArray) (n : Int) : Cl := ⟨⟨⟨#[116]⟩, ⟨#[120]⟩, 0, col⟩, ⟨n, false, 0, ⟨1, n, ⟨#[]⟩⟩⟩⟩
theorem at_calls (col : ByteArray) (n : Int) (w : World) : Calls Try.prog 22 #[.string col, .int .i64 n] w fun e w' => e = .returned (.agg (ca (atC col n))) ∧ Below w.heap.size w w' :=
 skerrylaw06_at.calls col n _ _ _ _ _ _ _ _ _ _ w rfl
def IsL (w : World) (base l : Nat) (lv : List Int) (C : List Cl) (H : List Int) (own : Nat → Prop) : Prop :=
 ∃ (T : List Tw) (A : Option Addr) (c : Nat), SL w base l T A c lv ∧ cellsT T = C ∧ hisT T = H ∧ ∀ k, Sk.Own l T A k ↔ own k
theorem IsL.below {w w' : World} {base l : Nat} {lv : List Int} {C : List Cl} {H : List Int} {own : Nat → Prop} (h : IsL w base l lv C H own) (hb : Below w.heap.size w w') : IsL w' base l lv C H own := by
 obtain ⟨T, A, c, h1, h2, h3, h4⟩ := h
 exact ⟨T, A, c, h1.below hb, h2, h3, h4⟩
theorem IsL.ch {w w' : World} {base l : Nat} {lv : List Int} {C : List Cl} {H : List Int} {own S : Nat → Prop} (h : IsL w base l lv C H own) (hc : Ch S w w') (hS : ∀ k, own k → ¬ S k) : IsL w' base l lv C H own := by
 obtain ⟨T, A, c, h1, h2, h3, h4⟩ := h
 exact ⟨T, A, c, h1.ch hc fun k hk => hS k ((h4 k).1 hk), h2, h3, h4⟩
theorem IsL.ge {w : World} {base l : Nat} {lv : List Int} {C : List Cl} {H : List Int} {own : Nat → Prop} (h : IsL w base l lv C H own) : ∀ k, own k → base ≤ k ∧ k < w.heap.size := by
 obtain ⟨T, A, c, h1, h2, h3, h4⟩ := h
 exact fun k hk => ⟨h1.own_ge ((h4 k).2 hk), h1.own_lt ((h4 k).2 hk)⟩
theorem IsL.hlen {w : World} {base l : Nat} {lv : List Int} {C : List Cl} {H : List Int} {own : Nat → Prop} (h : IsL w base l lv C H own) : H.length = C.length := by
 obtain ⟨T, A, c, h1, rfl, rfl, h4⟩ := h
 simp [cellsT, hisT]
theorem isl_new (A0 : Option Addr) (c0 : Nat) (lv : List Int) (w : World) (hr0 : (Kd.int .i64).C w A0 lv.length lv) (hc0 : lv.length ≤ c0) (hbig : lv.length ≤ 1000000) :
  Calls Try.prog 10 #[.slice A0 lv.length c0] w fun e w' => ∃ (l : Nat) (own : Nat → Prop), e = .returned (.pointer (some ⟨l, 0, none⟩)) ∧ IsL w' w.heap.size l lv [] [] own ∧ Below w.heap.size w w' := by
 refine (new_calls A0 c0 lv w hr0 hc0 hbig).mono ?_
 rintro e w1 ⟨l, b, A, c, rfl, hs, hb⟩
 exact ⟨l, _, rfl, ⟨_, A, c, hs, rfl, rfl, fun k => Iff.rfl⟩, hb⟩
theorem isl_put {w : World} {base l : Nat} {lv : List Int} {C : List Cl} {H : List Int} {own : Nat → Prop} (h : IsL w base l lv C H own) (x : Cl) (hg : goodB x = true) (hC : C.length < 1000) (hlv : lv.length ≤ 1000000) :
  Calls Try.prog 11 #[.pointer (some ⟨l, 0, none⟩), .agg (ca x)] w fun e w' => e = .returned (.int .i64 0) ∧ ∃ own', IsL w' base l lv (add cmpK keyC joinC x C) (hisP C H lv x) own' ∧ Ch own w w' ∧ ∀ k, own' k → own k ∨ w.heap.size ≤ k := by
 obtain ⟨T, A, c, h1, rfl, rfl, h4⟩ := h
 have hl : T.length ≤ 1000 := by rw [cells_len] at hC; have := h1.mem.len; omega
 refine (put_good base l T A c lv x w h1 hg hl hlv).mono ?_
 rintro e w1 ⟨rfl, b, hs, hch, ho⟩
 exact ⟨rfl, _, ⟨_, A, c, hs, put_cells h1.up h1.mem.len lv x b, put_hisP h1.up h1.mem.len lv x b, fun k => Iff.rfl⟩, ⟨hch.os, hch.tape, hch.output, hch.size, fun k hk hn => hch.same k hk fun h2 => hn ((h4 k).1 h2)⟩, fun k hk => (ho k hk).imp (h4 k).1 id⟩
theorem isl_bad {w : World} {base l : Nat} {lv : List Int} {C : List Cl} {H : List Int} {own : Nat → Prop} (h : IsL w base l lv C H own) (x : Cl) (hg : goodB x = false) :
  Calls Try.prog 11 #[.pointer (some ⟨l, 0, none⟩), .agg (ca x)] w fun e w' => e = .returned (.int .i64 2) ∧ Below w.heap.size w w' := by
 obtain ⟨T, A, c, h1, rfl, rfl, h4⟩ := h
 exact put_bad base l T A c lv x w h1 hg
theorem isl_all {w : World} {base l : Nat} {lv : List Int} {C : List Cl} {H : List Int} {own : Nat → Prop} (h : IsL w base l lv C H own) (hC : C.length < 1000) :
  Calls Try.prog 15 #[.pointer (some ⟨l, 0, none⟩)] w fun e w' => ∃ v : Value, e = .returned v ∧ Kd.R k37 37 w' w.heap.size (fun _ => True) v C ∧ Below w.heap.size w w' := by
 obtain ⟨T, A, c, h1, rfl, rfl, h4⟩ := h
 exact all_calls base l T A c lv w h1 (by rw [cells_len] at hC; have := h1.mem.len; omega)
theorem isl_his {w : World} {base l : Nat} {lv : List Int} {C : List Cl} {H : List Int} {own : Nat → Prop} (h : IsL w base l lv C H own) (hC : C.length < 1000) :
  Calls Try.prog 18 #[.pointer (some ⟨l, 0, none⟩)] w fun e w' => ∃ v : Value, e = .returned v ∧ Kd.R (Kd.int .i64) 3 w' w.heap.size (fun _ => True) v H ∧ Below w.heap.size w w' := by
 obtain ⟨T, A, c, h1, rfl, rfl, h4⟩ := h
 exact his_calls base l T A c lv w h1 (by rw [cells_len] at hC; have := h1.mem.len; omega)
theorem isl_len {w : World} {base l : Nat} {lv : List Int} {C : List Cl} {H : List Int} {own : Nat → Prop} (h : IsL w base l lv C H own) :
  Calls Try.prog 16 #[.pointer (some ⟨l, 0, none⟩)] w fun e w' => e = .returned (.int .i64 (C.length : Int)) ∧ w = w' := by
 obtain ⟨T, A, c, h1, rfl, rfl, h4⟩ := h
 rw [cells_len]
 exact len_calls base l T A c lv w h1
def exL : List Cl := [atC ⟨#[97]⟩ 2, atC ⟨#[98]⟩ 1, atC ⟨#[99]⟩ 3]
theorem ex_c1 : add cmpK keyC joinC (atC ⟨#[98]⟩ 1) [] = [atC ⟨#[98]⟩ 1] := by kernel_rfl
theorem ex_c2 : add cmpK keyC joinC (atC ⟨#[97]⟩ 2) [atC ⟨#[98]⟩ 1] = [atC ⟨#[97]⟩ 2, atC ⟨#[98]⟩ 1] := by kernel_rfl
theorem ex_c3 : add cmpK keyC joinC (atC ⟨#[99]⟩ 3) [atC ⟨#[97]⟩ 2, atC ⟨#[98]⟩ 1] = exL := by kernel_rfl
theorem ex_h1 : hisP [] [] [2, 1] (atC ⟨#[98]⟩ 1) = [2] := by kernel_rfl
theorem ex_h2 : hisP [atC ⟨#[98]⟩ 1] [2] [2, 1] (atC ⟨#[97]⟩ 2) = [1, 2] := by kernel_rfl
theorem ex_h3 : hisP [atC ⟨#[97]⟩ 2, atC ⟨#[98]⟩ 1] [1, 2] [2, 1] (atC ⟨#[99]⟩ 3) = [1, 2, 2] := by kernel_rfl
theorem ex_g1 : goodB (atC ⟨#[98]⟩ 1) = true := by kernel_rfl
theorem ex_g2 : goodB (atC ⟨#[97]⟩ 2) = true := by kernel_rfl
theorem ex_g3 : goodB (atC ⟨#[99]⟩ 3) = true := by kernel_rfl
theorem C_ints {W : World} {b : Nat} {xs : List Int} (h : W.heap[b]? = some (.cells (xs.map (Value.int .i64)).toArray 3 (0, 0))) (hl : xs.length ≤ 1000) : (Kd.int .i64).C W (some ⟨b, 0, none⟩) xs.length xs := by
 refine ⟨rfl, by omega, fun _ => ⟨_, rfl, fun j p hp => ⟨[.int .i64 p], rfl, rfl, fun i u hu => ?_⟩⟩⟩
 have h0 : i = 0 := by
  have := (List.getElem?_eq_some_iff.1 hu).1
  simp at this
  exact this
 subst h0
 obtain rfl : Value.int .i64 p = u := by simpa using hu
 rw [show j * (Kd.int .i64).sz + 0 = j from Nat.mul_one j]
 have e : ((⟨b, 0, none⟩ : Addr).add j) = ⟨b, j, none⟩ := by by_cases h : j = 0 <;> simp [Addr.add, h]
 rw [e, blk_cell h j]
 simp [hp]
theorem lv_his {w W : World} {base l : Nat} {lv : List Int} {own : Nat → Prop} (h : IsL w base l lv exL [1, 2, 2] own) (hW : Below w.heap.size w W) :
  Calls Try.prog 18 #[.pointer (some ⟨l, 0, none⟩)] W fun e w' => ∃ (A : Option Addr) (c : Nat), e = .returned (.slice A 3 c) ∧ (3 ≤ c ∧ (Kd.int .i64).C w' A 3 [1, 2, 2]) ∧ Below W.heap.size W w' := by
 refine (isl_his (h.below hW) (by decide)).mono ?_
 rintro e w1 ⟨v, rfl, hr, hb⟩
 obtain ⟨A, c, rfl, hc, hC⟩ := Kd.R_reads hr
 exact ⟨A, c, rfl, ⟨hc, hC⟩, hb⟩
theorem lv_all {w W : World} {base l : Nat} {lv : List Int} {own : Nat → Prop} (h : IsL w base l lv exL [1, 2, 2] own) (hW : Below w.heap.size w W) :
  Calls Try.prog 15 #[.pointer (some ⟨l, 0, none⟩)] W fun e w' => ∃ (g c : Nat), e = .returned (.slice (some ⟨g, 0, none⟩) 3 c) ∧ (∀ j u, (ca (atC ⟨#[97]⟩ 2)).toList[j]? = some u → w'.cell? ⟨g, j, none⟩ = some u) ∧ Below W.heap.size W w' := by
 refine (isl_all (h.below hW) (by decide)).mono ?_
 rintro e w1 ⟨v, rfl, hr, hb⟩
 obtain ⟨A, c, rfl⟩ := Kd.R_slice hr
 cases A with
 | none =>
  have h1 := (Kd.R_reads' hr).2.2
  obtain ⟨ad, e, -⟩ := h1.2.2 (by decide)
  cases e
 | some ad =>
  obtain ⟨g, rfl⟩ := Kd.R_head hr
  refine ⟨g, c, rfl, fun j u hu => ?_, hb⟩
  obtain ⟨c1, h1, h2, h3, h4⟩ := Kd.R_elem hr z37 0 (by decide) (by decide)
  have h5 : c1 = (ca (atC ⟨#[97]⟩ 2)).toList := k37_openM h2
  have := h3 j u (h5 ▸ hu)
  simpa using this
theorem lv_ints (W : World) (z : Nat) (A : Option Addr) (c : Nat) (hC : 3 ≤ c ∧ (Kd.int .i64).C W A 3 [1, 2, 2]) (hz : W.heap[z]? = some (.cells #[.int .i64 1, .int .i64 2, .int .i64 2] 3 (0, 0))) :
  Calls Try.prog 26 #[.slice A 3 c, .slice (some ⟨z, 0, none⟩) 3 3] W fun e w' => e = .returned (.bool true) ∧ Below W.heap.size W w' := by
 refine (skerryref01_Ints.calls 5 A c [1, 2, 2] (some ⟨z, 0, none⟩) 3 [1, 2, 2] true W hC.2 hC.1 (C_ints (xs := [1, 2, 2]) hz (by decide)) (Nat.le_refl _) (by kernel_rfl)).mono ?_
 rintro e w1 ⟨rfl, hd⟩
 exact ⟨rfl, hd.below⟩
set_option maxHeartbeats 4000000 in
set_option maxRecDepth 100000 in
theorem lives_calls (w : World) : Calls Try.prog 9 #[] w fun e w' => e = .returned (.bool true) ∧ Below w.heap.size w w' := by
 go_enter Try.func9, Try.ntmps9
 have HAT := Lib.hid at_calls
 have HNEW := Lib.hid (show Calls Try.prog 10 #[.slice (some ⟨w.heap.size, 0, none⟩) 2 2] (w.alloc (.cells #[.int .i64 2, .int .i64 1] 3)) _ from isl_new (some ⟨w.heap.size, 0, none⟩) 2 [2, 1] _ (C_ints (xs := [2, 1]) (heap_new_ w _) (by decide)) (Nat.le_refl _) (by decide))
 have HAT1 := Lib.hid (at_calls ⟨#[98]⟩ 1)
 have HAT2 := Lib.hid (at_calls ⟨#[97]⟩ 2)
 have HAT3 := Lib.hid (at_calls ⟨#[99]⟩ 3)
 have HAT2b := Lib.hid (at_calls ⟨#[97]⟩ 2)
 clear HAT
 go_upto_region 5 with (first | (go_at_call 10; (with_reducible refine HNEW.out.mono ?_); rintro e w1 ⟨l, own, rfl, hl, hb⟩; have HL := Lib.hid hl; have HB1 := Lib.hid (below_step (below_alloc (Below.refl w.heap.size w) _) hb); clear hl hb) | (go_at_call 22; (with_reducible refine (HAT1.out w1).mono ?_); rintro e w2 ⟨rfl, hb⟩; have HLa0 := Lib.hid (HL.out.below hb); have HBa0 := Lib.hid (below_step HB1.out hb); clear hb) | (go_at_call 11; (with_reducible refine (isl_put HLa0.out (atC ⟨#[98]⟩ 1) ex_g1 (by decide) (by decide)).mono ?_); rintro e w3 ⟨rfl, own1, hl, hch, ho⟩; rw [ex_c1, ex_h1] at hl; have HL1 := Lib.hid hl; have HBP1 := Lib.hid (hch.to_below HBa0.out fun k hk => Nat.le_trans (by first | exact (below_alloc (Below.refl w.heap.size w) _).size) (HLa0.out.ge k hk).1); clear hl hch ho) | (go_at_call 22; (with_reducible refine (HAT2.out w3).mono ?_); rintro e w4 ⟨rfl, hb⟩; have HLa1 := Lib.hid (HL1.out.below hb); have HBa1 := Lib.hid (below_step HBP1.out hb); clear hb) | (go_at_call 11; (with_reducible refine (isl_put HLa1.out (atC ⟨#[97]⟩ 2) ex_g2 (by decide) (by decide)).mono ?_); rintro e w5 ⟨rfl, own2, hl, hch, ho⟩; rw [ex_c2, ex_h2] at hl; have HL2 := Lib.hid hl; have HBP2 := Lib.hid (hch.to_below HBa1.out fun k hk => Nat.le_trans (by first | exact (below_alloc (Below.refl w.heap.size w) _).size) (HLa1.out.ge k hk).1); clear hl hch ho) | (go_at_call 22; (with_reducible refine (HAT3.out w5).mono ?_); rintro e w6 ⟨rfl, hb⟩; have HLa2 := Lib.hid (HL2.out.below hb); have HBa2 := Lib.hid (below_step HBP2.out hb); clear hb) | (go_at_call 11; (with_reducible refine (isl_put HLa2.out (atC ⟨#[99]⟩ 3) ex_g3 (by decide) (by decide)).mono ?_); rintro e w7 ⟨rfl, own3, hl, hch, ho⟩; rw [ex_c3, ex_h3] at hl; have HL3 := Lib.hid hl; have HBP3 := Lib.hid (hch.to_below HBa2.out fun k hk => Nat.le_trans (by first | exact (below_alloc (Below.refl w.heap.size w) _).size) (HLa2.out.ge k hk).1); clear hl hch ho))
 have HI := Lib.hid (fun (W : World) (hW : Below w7.heap.size w7 W) => lv_his HL3.out hW)
 have HALL := Lib.hid (fun (W : World) (hW : Below w7.heap.size w7 W) => lv_all HL3.out hW)
 have HLE := Lib.hid (fun (W : World) (hW : Below w7.heap.size w7 W) => (show Calls Try.prog 16 #[.pointer (some ⟨l, 0, none⟩)] W fun e w' => e = .returned (.int .i64 3) ∧ W = w' from isl_len (HL3.out.below hW)))
 have HBc := Lib.hid (Below.refl w7.heap.size w7)
 clear HAT1 HAT2 HL HLa0 HLa1 HLa2 HL1 HL2 HB1 HBa0 HBa1 HBa2 HBP1 HBP2 HNEW
 go_region_with (first | (go_at_call 18; (with_reducible refine (HI.out _ (by first | exact below_drew (Below.refl _ _) | exact below_drew (below_alloc (Below.refl _ _) _))).mono ?_); rintro e w8 ⟨A8, c8, rfl, hC8, hb⟩; have HC8 := Lib.hid hC8; (try (have HL8 := Lib.hid (show w8.heap[w7.heap.size]? = some (.cells #[.int .i64 1, .int .i64 2, .int .i64 2] 3 (0, 0)) from blk_below (blk_drew (heap_new_ w7 _)) hb))); have hbc := below_step (by first | exact below_drew (Below.refl w7.heap.size w7) | exact below_drew (below_alloc (Below.refl w7.heap.size w7) _)) hb; have HBh := Lib.hid hbc; clear hC8 hb hbc) | (go_at_call 26; (with_reducible refine (lv_ints w8 w7.heap.size A8 c8 HC8.out HL8.out).mono ?_); rintro e w9 ⟨rfl, hb⟩; have hbc := below_step HBh.out hb; have HBi := Lib.hid hbc; clear hb hbc) | (go_at_call 26; (with_reducible refine (lv_ints (w8.alloc (.cells #[.int .i64 1, .int .i64 2, .int .i64 2] 3)) w8.heap.size A8 c8 ⟨HC8.out.1, Kd.C_alloc HC8.out.2 _⟩ (heap_new_ w8 _)).mono ?_); rintro e w9 ⟨rfl, hb⟩; have hbc := below_step (below_alloc HBh.out _) hb; have HBi := Lib.hid hbc; clear hb hbc) | (go_at_call 16; (with_reducible refine (HLE.out _ HBi.out).mono ?_); rintro e w9b ⟨rfl, rfl⟩) | (go_at_call 15; (with_reducible refine (HALL.out _ HBa.out).mono ?_); rintro e w10 ⟨g10, c10, rfl, hv, hb⟩; have hbc := below_step HBa.out hb; have HBb := Lib.hid hbc; have e0 : w10.cell? ⟨g10, 0, none⟩ = some (.string ⟨#[116]⟩) := hv 0 _ rfl; have e1 : w10.cell? ⟨g10, 1, none⟩ = some (.string ⟨#[120]⟩) := hv 1 _ rfl; have e2 : w10.cell? ⟨g10, 2, none⟩ = some (.int .i64 0) := hv 2 _ rfl; have e3 : w10.cell? ⟨g10, 3, none⟩ = some (.string ⟨#[97]⟩) := hv 3 _ rfl; have e4 : w10.cell? ⟨g10, 4, none⟩ = some (.int .i64 2) := hv 4 _ rfl; have e5 : w10.cell? ⟨g10, 5, none⟩ = some (.bool false) := hv 5 _ rfl; have e6 : w10.cell? ⟨g10, 6, none⟩ = some (.int .i64 0) := hv 6 _ rfl; have e7 : w10.cell? ⟨g10, 7, none⟩ = some (.int .i64 1) := hv 7 _ rfl; have e8 : w10.cell? ⟨g10, 8, none⟩ = some (.int .i64 2) := hv 8 _ rfl; have e9 : w10.cell? ⟨g10, 9, none⟩ = some (.string ⟨#[]⟩) := hv 9 _ rfl; clear hv hb hbc) | (go_at_call 15; (with_reducible refine (HALL.out _ HBi.out).mono ?_); rintro e w9c ⟨g9c, c9c, rfl, hv, hb⟩; have hbc := below_step HBi.out hb; have HBa := Lib.hid hbc; clear hv hb hbc) | (go_at_call 22; (with_reducible refine (HAT2b.out _).mono ?_); rintro e w12 ⟨rfl, hb⟩; have hbc := below_step HBb.out hb; have HBd := Lib.hid hbc; have f0 := pw_cell_below hb e0; have f1 := pw_cell_below hb e1; have f2 := pw_cell_below hb e2; have f3 := pw_cell_below hb e3; have f4 := pw_cell_below hb e4; have f5 := pw_cell_below hb e5; have f6 := pw_cell_below hb e6; have f7 := pw_cell_below hb e7; have f8 := pw_cell_below hb e8; have f9 := pw_cell_below hb e9; clear hb hbc))
 all_goals
  go_wp2_with fail
  go_ret
  exact ⟨by first | rfl | (simp [atC]; done) | (simp [atC]; rfl), below_step HBP3.out HBd.out⟩
end Go.Proofs.Ytlffkbcaphhldaa.Q
