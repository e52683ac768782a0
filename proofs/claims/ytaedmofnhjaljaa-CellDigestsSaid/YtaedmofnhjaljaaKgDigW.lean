/- CellDigests, walked: weigh, the row that is turned cell by cell, the four digests. -/
import Derived.Test.YtaedmofnhjaljaaKgJ32
import Derived.Test.YtaedmofnhjaljaaKgQx12
import Derived.Test.YtaedmofnhjaljaaKgQx15
import Derived.Lib.Hide
import Derived.WalkMore
import Derived.WalkLawsBesides
import Derived.WalkSpells
import Derived.Deep.DeepFit
import Derived.Deep.MidRow
import Derived.Outline
namespace Go.Proofs.Ytaedmofnhjaljaa.Dg
open Go Go.RowKit Go.Proofs.YtaedmofnhjaljaaW.PrintWords Go.Proofs.YtaedmofnhjaljaaW.PrintLast Go.Proofs.YtaedmofnhjaljaaW.PrintMore Go.Proofs.Ytaedmofnhjaljaa.Q
attribute [local go_sem] max2_int min2_int max_two min_two max_three min_three max_four min_four
set_option linter.unusedVariables false
set_option linter.unusedSimpArgs false
def turn (v : S25) (loc : Int) (c : S29) : S29 := if c.f1.f1 = true then ⟨c.f0, ⟨c.f1.f0, c.f1.f1, c.f1.f2, v⟩⟩ else ⟨c.f0, ⟨c.f1.f0, c.f1.f1, loc, c.f1.f3⟩⟩
def turnI (v : S25) (loc : Int) (l : List (S29)) (i : Nat) : List (S29) := (l.take i).map (turn v loc) ++ l.drop i
theorem turnI_set (v : S25) (loc : Int) (l : List (S29)) (i : Nat) (h : i < l.length) : (turnI v loc l i).set i (turn v loc l[i]) = turnI v loc l (i + 1) := by
 have e : ((l.take i).map (turn v loc)).length = i := by rw [List.length_map, List.length_take]; omega
 unfold turnI
 rw [List.set_append_right _ _ (by omega), e, Nat.sub_self, List.drop_eq_getElem_cons h, List.set_cons_zero, List.take_succ_eq_append_getElem h, List.map_append]
 simp
theorem turnI_get (v : S25) (loc : Int) (l : List (S29)) (i : Nat) (h : i < l.length) (z : S29) : (turnI v loc l i).getD i z = l[i] := by
 have e : ((l.take i).map (turn v loc)).length = i := by rw [List.length_map, List.length_take]; omega
 unfold turnI
 rw [List.getD_eq_getElem?_getD, List.getElem?_append_right (by omega), e, Nat.sub_self, List.drop_eq_getElem_cons h]; rfl
theorem turnI_all (v : S25) (loc : Int) (l : List (S29)) : turnI v loc l l.length = l.map (turn v loc) := by
 unfold turnI; simp
theorem below_of {w w1 w2 : World} (h : Below w.heap.size w w1) (k : Below w1.heap.size w1 w2) : Below w.heap.size w w2 := below_step h k
set_option maxHeartbeats 4000000 in
set_option maxRecDepth 1000000 in
theorem walk (A0 : Option Addr) (c0 : Nat) (l0 : List (S29)) (v : S25) (loc : Int) (w : World) (hr0 : Kd.C k29 w A0 l0.length l0) (hc0 : l0.length ≤ c0) (k : Nat) (r d d0 : Int)
  (hwt : skerrylaw05_weigh.f k l0 300 = some r) (hlv : skerrylaw05_lives.f k = some true) (hsm : ¬ r > 300 → l0.length < 1256584717400 ∧ cell_Digest.f k l0 = some d ∧ cell_Digest.f k (l0.map (turn v loc)) = some d ∧ cell_Digest.f k [] = some d0) :
  Calls Try.prog 7 #[.slice A0 l0.length c0, .agg #[.int .i64 v.f0, .int .i64 v.f1, .string v.f2], .int .i64 loc] w fun e w' => e = .returned (.bool true) ∧ Below w.heap.size w w' := by
 have HR := Lib.hid hr0
 have HLV := Lib.hid hlv
 have HWT := Lib.hid hwt
 clear hr0 hlv hwt
 by_cases hr : r > 300
 ·
  have hr1 : (300 : Int) < r := hr
  clear hsm
  go_enter Try.func7, Try.ntmps7
  go_wp2_with fail
  refine (skerrylaw05_weigh.calls k A0 c0 l0 300 r _ (Kd.C_below HR.out ((Below.refl _ _).alloc (Nat.le_refl _) _)) hc0 HWT.out).mono ?_
  rintro e w1 ⟨rfl, hb⟩
  have HB := Lib.hid hb
  clear hb
  go_wp2_with fail
  refine (skerrylaw05_lives.calls k true _ HLV.out).mono ?_
  rintro e w2 ⟨rfl, hb⟩
  have HB2 := Lib.hid hb
  clear hb
  go_wp2
  go_ret
  exact ⟨rfl, below_of (below_of ((Below.refl _ _).alloc (Nat.le_refl _) _) HB.out) HB2.out⟩
 ·
  have hr1 : ¬ (300 : Int) < r := hr
  have HS := Lib.hid (hsm hr)
  clear hsm
  go_enter Try.func7, Try.ntmps7
  go_wp2_with fail
  refine (skerrylaw05_weigh.calls k A0 c0 l0 300 r _ (Kd.C_below HR.out ((Below.refl _ _).alloc (Nat.le_refl _) _)) hc0 HWT.out).mono ?_
  rintro e w1 ⟨rfl, hb⟩
  have HB := Lib.hid (below_of ((Below.refl _ _).alloc (Nat.le_refl _) _) hb)
  have HV := Lib.hid (show w1.heap[w.heap.size]? = some (.cells #[.int .i64 v.f0, .int .i64 v.f1, .string v.f2] 25 (0, 0)) from blk_below (blk_new w _) hb)
  clear hb
  have hN0 : w.heap.size < w1.heap.size := blk_lt HV.out
  have hlen : l0.length < 1256584717400 := HS.out.1
  go_wp2_with (first
   | ((with_reducible refine gate_dst (N := 14) rfl ?_); refine Kd.R_lit k29 _ 29 ?hg (N := 14) ?hd (xs := ([] : List (S29))) (inner := []) (ok := fun k_ => k_ ≠ w.heap.size) (okp := fun _ => False) ?hr ?hp (fun _ hk => hk.elim) ?hq (Below.refl _ _) (Nat.le_refl _) (by simp) ?_; (case hd => rfl); (case hg => rfl); (case hr => first | (go_simp; done) | (go_simp; rfl)); (case hp => exact (Reps.none _ _)); (case hq => exact Nat.ne_of_gt hN0); intro v14 w2 ho2 hb2 hg_ hnew_; clear hg_ hnew_; have HO2 := Lib.hid ho2; have HB2 := Lib.hid hb2; clear ho2 hb2)
   | ((with_reducible refine gate_builtin (b := .append) (xs := #[.tmp 14, .tmp 15]) rfl ?_); at_builtin; refine Kd.R_append_rows k29 (w0 := w) w.heap.size rfl (.tmp 14) (.tmp 15) 31 29 (.agg #[(.string ⟨#[]⟩), (.string ⟨#[]⟩), (.int .i64 0), (.string ⟨#[]⟩), (.int .i64 0), (.bool false), (.int .i64 0), (.int .i64 0), (.int .i64 0), (.string ⟨#[]⟩)]) 112 rfl Try.underlying31 info29 rfl (by decide) (by omega) v14 [] l0 _ _ _ (fun k_ => k_ ≠ w.heap.size) (fun _ => False) rfl rfl ?aO ?aR (fun _ _ h => h) (fun _ h => h.elim) ?aF ?aB ?aS ?aL ?_; (case aR => exact Kd.C_below HR.out (below_of HB.out HB2.out)); (case aB => exact below_of HB.out HB2.out); (case aF => exact (fun k_ hk_ => by have := HB2.out.size; omega)); (case aO => exact Kd.R_lower HO2.out (by have := HB.out.size; omega)); (case aS => have := HB.out.size; have := HB2.out.size; omega); (case aL => simp; omega); intro v16 w3 ho3 hb3 hg3 hat3; rw [List.nil_append] at ho3; obtain ⟨A7, n7, rfl⟩ := Kd.R_slice ho3; have HO3 := Lib.hid ho3; have HB3 := Lib.hid hb3; have HV3 := Lib.hid (blk_grown (blk_below HV.out HB2.out) hg3 (fun e_ => HO2.out.1 _ e_.symm rfl)); clear ho3 hb3 hg3 hat3))
  go_loopg [19] l0.length (fun g1 vi wr => ∃ i : Nat, vi = .int .i64 i ∧ i ≤ l0.length ∧ l0.length - i ≤ g1 ∧ Hid (Kd.R k29 29 wr w.heap.size (fun k_ => k_ ≠ w.heap.size) (.slice A7 l0.length n7) (turnI v loc l0 i)) ∧ Hid (Below w.heap.size w wr) ∧ Hid (wr.heap[w.heap.size]? = some (.cells #[.int .i64 v.f0, .int .i64 v.f1, .string v.f2] 25 (0, 0))))
  case atStart => exact ⟨0, rfl, Nat.zero_le _, by omega, HO3, HB3, HV3⟩
  case round =>
   clear HB HV HB2 HO2 HO3 HB3 HV3
   obtain ⟨i, rfl, hi, hg1, HO, HB, HV⟩ := hrel
   by_cases hlt : i < l0.length
   ·
    have hltz : (i : Int) < (l0.length : Int) := by omega
    have hn : 0 < l0.length := by omega
    obtain ⟨inner, ho⟩ := Kd.R_own HO.out
    rcases ho.2 with ⟨h1, _⟩ | ⟨g, cap, cur, h1, _⟩
    ·
     exfalso
     injection h1 with _ h2 _
     omega
    ·
     injection h1 with a1 a2 a3
     subst a1 a3
     clear ho
     obtain ⟨ce, hcl, hM, hcc, hfr⟩ := Kd.R_elem HO.out z29 (i : Int) (by omega) hltz
     rw [show ((i : Int)).toNat = i from Int.toNat_natCast i, turnI_get v loc l0 i hlt] at hM
     obtain ⟨x, hx⟩ : ∃ x, l0[i] = x := ⟨_, rfl⟩
     rw [hx] at hM
     obtain rfl := k29_openM hM
     have y0 : wr.cell? ⟨g, i * 10, none⟩ = some (.string x.f0.f0) := hcc 0 _ rfl
     have y1 : wr.cell? ⟨g, i * 10 + 1, none⟩ = some (.string x.f0.f1) := hcc 1 _ rfl
     have y2 : wr.cell? ⟨g, i * 10 + 2, none⟩ = some (.int .i64 x.f0.f2) := hcc 2 _ rfl
     have y3 : wr.cell? ⟨g, i * 10 + 3, none⟩ = some (.string x.f0.f3) := hcc 3 _ rfl
     have y4 : wr.cell? ⟨g, i * 10 + 4, none⟩ = some (.int .i64 x.f1.f0) := hcc 4 _ rfl
     have y5 : wr.cell? ⟨g, i * 10 + 5, none⟩ = some (.bool x.f1.f1) := hcc 5 _ rfl
     have y6 : wr.cell? ⟨g, i * 10 + 6, none⟩ = some (.int .i64 x.f1.f2) := hcc 6 _ rfl
     have y7 : wr.cell? ⟨g, i * 10 + 7, none⟩ = some (.int .i64 x.f1.f3.f0) := hcc 7 _ rfl
     have y8 : wr.cell? ⟨g, i * 10 + 8, none⟩ = some (.int .i64 x.f1.f3.f1) := hcc 8 _ rfl
     have y9 : wr.cell? ⟨g, i * 10 + 9, none⟩ = some (.string x.f1.f3.f2) := hcc 9 _ rfl
     have HHL := Lib.hid hcl
     have HHC := Lib.hid hcc
     have HHF := Lib.hid hfr
     have HX := Lib.hid hx
     have p7 : wr.cell? ⟨g, i * 10 + 4 + 3, none⟩ = some (.int .i64 x.f1.f3.f0) := hcc 7 _ rfl
     have p8 : wr.cell? ⟨g, i * 10 + 4 + 3 + 1, none⟩ = some (.int .i64 x.f1.f3.f1) := hcc 8 _ rfl
     have p9 : wr.cell? ⟨g, i * 10 + 4 + 3 + 2, none⟩ = some (.string x.f1.f3.f2) := hcc 9 _ rfl
     have q7 : wr.frozen? ⟨g, i * 10 + 4 + 3, none⟩ = false := hfr 7
     have q8 : wr.frozen? ⟨g, i * 10 + 4 + 3 + 1, none⟩ = false := hfr 8
     have q9 : wr.frozen? ⟨g, i * 10 + 4 + 3 + 2, none⟩ = false := hfr 9
     have p6 : wr.cell? ⟨g, i * 10 + 4 + 2, none⟩ = some (.int .i64 x.f1.f2) := hcc 6 _ rfl
     have q6 : wr.frozen? ⟨g, i * 10 + 4 + 2, none⟩ = false := hfr 6
     clear hcl hcc hfr hM hx
     have v0 : wr.cell? ⟨w.heap.size, 0, none⟩ = some (.int .i64 v.f0) := (blk_cell HV.out 0).trans rfl
     have v1 : wr.cell? ⟨w.heap.size, 1, none⟩ = some (.int .i64 v.f1) := (blk_cell HV.out 1).trans rfl
     have v2 : wr.cell? ⟨w.heap.size, 2, none⟩ = some (.string v.f2) := (blk_cell HV.out 2).trans rfl
     have hgl : g < wr.heap.size := World.block_lt_of_cell? wr _ y0
     have hgw : g ≠ w.heap.size := HO.out.1 g rfl
     have hvl : w.heap.size < wr.heap.size := blk_lt HV.out
     have hgb : w.heap.size ≤ g := by
      obtain ⟨inner, ho⟩ := Kd.R_own HO.out
      rcases ho.2 with ⟨h1, _⟩ | ⟨g', cap', cur', h1, h2, _⟩
      ·
       cases h1
      ·
       injection h1 with h1 _ _
       injection h1 with h1
       injection h1 with h1
       rw [h1]; exact h2
     by_cases hd : x.f1.f1 = true
     ·
      have ht : turn v loc x = ⟨x.f0, ⟨x.f1.f0, x.f1.f1, x.f1.f2, v⟩⟩ := by unfold turn; rw [if_pos hd]
      have HS7 := (Kd.R_seg HO.out (i : Int) (by omega) hltz (seg := [.int .i64 v.f0, .int .i64 v.f1, .string v.f2]) (j := 7) HHL.out HHC.out (show 10 ≤ 10 from by decide) (x' := turn v loc x) (by rw [ht]; exact k29_mkM _ _ _ _) (fun _ h => h)).1
      rw [show ((i : Int)).toNat = i from Int.toNat_natCast i, ← HX.out, turnI_set v loc l0 i hlt] at HS7
      have HS7 := Lib.hid HS7
      rw [hd] at y5
      go_wp2_with fail
      go_roundg (l0.length - (i + 1))
      case measure => omega
      case rel => exact ⟨i + 1, by go_num, by omega, Nat.le_refl _, Kd.R_alloc HS7.out _, ((((HB.out.setCell hgb _).setCell hgb _).setCell hgb _).alloc (by simp; omega) _), blk_alloc (blk_far (blk_far (blk_far HV.out (Ne.symm hgw) _) (Ne.symm hgw) _) (Ne.symm hgw) _) _⟩
     ·
      have ht : turn v loc x = ⟨x.f0, ⟨x.f1.f0, x.f1.f1, loc, x.f1.f3⟩⟩ := by unfold turn; rw [if_neg hd]
      have HS7 := (Kd.R_seg HO.out (i : Int) (by omega) hltz (seg := [.int .i64 loc]) (j := 6) HHL.out HHC.out (show 7 ≤ 10 from by decide) (x' := turn v loc x) (by rw [ht]; exact k29_mkM _ _ _ _) (fun _ h => h)).1
      rw [show ((i : Int)).toNat = i from Int.toNat_natCast i, ← HX.out, turnI_set v loc l0 i hlt] at HS7
      have HS7 := Lib.hid HS7
      have hd0 : x.f1.f1 = false := Bool.eq_false_iff.mpr hd
      rw [hd0] at y5
      go_wp2_with fail
      go_roundg (l0.length - (i + 1))
      case measure => omega
      case rel => exact ⟨i + 1, by go_num, by omega, Nat.le_refl _, Kd.R_alloc HS7.out _, ((HB.out.setCell hgb _).alloc (by simp; omega) _), blk_alloc (blk_far HV.out (Ne.symm hgw) _) _⟩
   ·
    have hltz : ¬ (i : Int) < (l0.length : Int) := by omega
    obtain rfl : i = l0.length := by omega
    have hC := (Kd.R_reads' HO.out).2.2
    rw [turnI_all] at hC
    have HC := Lib.hid hC
    have hc7 : l0.length ≤ n7 := (Kd.R_reads' HO.out).2.1
    clear hC
    go_wp2_with fail
    refine (cell_Digest.calls k A0 c0 l0 d _ (Kd.C_below HR.out HB.out) hc0 HS.out.2.1).mono ?_
    rintro e w4 ⟨rfl, hb⟩
    have HB4 := Lib.hid hb
    clear hb
    go_wp2_with fail
    have h4 := cell_Digest.calls k A7 n7 (l0.map (turn v loc)) d w4 (Kd.C_below HC.out HB4.out) (by rw [List.length_map]; exact hc7) HS.out.2.2.1
    rw [List.length_map] at h4
    refine h4.mono ?_
    rintro e w5 ⟨rfl, hb⟩
    have HB5 := Lib.hid (below_of (below_of HB.out HB4.out) hb)
    clear hb h4
    go_wp2_with fail
    refine (cell_Digest.calls k none 0 [] d0 w5 ⟨rfl, by decide, fun h => absurd h (by decide)⟩ (Nat.le_refl _) HS.out.2.2.2).mono ?_
    rintro e w6 ⟨rfl, hb⟩
    have HB6 := Lib.hid (below_of HB5.out hb)
    clear hb
    go_wp2_with fail
    refine (cell_Digest.calls k (some ⟨w6.heap.size, 0, none⟩) 0 [] d0 _ ⟨rfl, by decide, fun h => absurd h (by decide)⟩ (Nat.le_refl _) HS.out.2.2.2).mono ?_
    rintro e w7 ⟨rfl, hb⟩
    have HB7 := Lib.hid (below_of (below_alloc HB6.out _) hb)
    clear hb
    go_wp2_with fail
    refine (skerrylaw05_lives.calls k true _ HLV.out).mono ?_
    rintro e w8 ⟨rfl, hb⟩
    have HB8 := Lib.hid (below_of HB7.out hb)
    clear hb
    go_wp2
    go_ret
    exact ⟨rfl, HB8.out⟩
end Go.Proofs.Ytaedmofnhjaljaa.Dg
