/- Lemmas for this claim's walk: no condition of their own. -/
import Derived.Test.YtlffkbcaphhldaaFdSkScan
import Derived.Deep.MidRow
import Derived.WalkLawsBesides
import Derived.WalkSpells
import Derived.Lib.Hide
import Derived.Deep.DeepFit
import Derived.Outline
namespace Go.Proofs.Ytlffkbcaphhldaa.Q
open Go.RowKit Go.Proofs.YtlffkbcaphhldaaW.PrintWords Go.Proofs.YtlffkbcaphhldaaW.PrintLast Go.Proofs.YtlffkbcaphhldaaW.PrintMore
attribute [local go_sem] max2_int min2_int max_two min_two max_three min_three max_four min_four
set_option linter.unusedVariables false
set_option linter.unusedSimpArgs false
open Go.Lib Go.Proofs.Ytlffkbcaphhldaa.Sk Go.Proofs.Ytlffkbcaphhldaa.Pl Go.Proofs.Ytlffkbcaphhldaa.Ord Go.Proofs.Ytlffkbcaphhldaa.Nm Go.Proofs.Ytlffkbcaphhldaa.Rh
attribute [local go_sem] Oper.semAt_some
theorem Mv.below {n1 : Nat} {A C : World} (h : Below A.heap.size A C) : Mv 65 n1 A C := ⟨h.os, h.tape, h.output, h.size, fun k hk _ => h.block k hk⟩
theorem R_kp {n0 n1 : Nat} {A C : World} {v : Value} {base : Nat} {zs : List Cl} (h : Kd.R k37 37 A base (fun k => n0 ≤ k ∧ k < n1) v zs) (hk : Kp 65 n0 n1 A C) : Kd.R k37 37 C base (fun k => n0 ≤ k ∧ k < n1) v zs := Kd.R_step h fun k ho hlt => hk.same k hlt (.inl ho)
theorem cl_cells {W : World} {A : Option Addr} {M : List Cl} (h : Kd.C k37 W A M.length M) (i : Nat) (hi : i < M.length) : ∃ ad, A = some ad ∧ W.cell? (ad.add (i * 10)) = some (.string (M.getD i z37).f0.f0) ∧ W.cell? ⟨(ad.add (i * 10)).block, (ad.add (i * 10)).off + 1, none⟩ = some (.string (M.getD i z37).f0.f1) ∧ W.cell? ⟨(ad.add (i * 10)).block, (ad.add (i * 10)).off + 2, none⟩ = some (.int .i64 (M.getD i z37).f0.f2) ∧ W.cell? ⟨(ad.add (i * 10)).block, (ad.add (i * 10)).off + 3, none⟩ = some (.string (M.getD i z37).f0.f3) ∧ W.cell? ⟨(ad.add (i * 10)).block, (ad.add (i * 10)).off + 4, none⟩ = some (.int .i64 (M.getD i z37).f1.f0) ∧ W.cell? ⟨(ad.add (i * 10)).block, (ad.add (i * 10)).off + 5, none⟩ = some (.bool (M.getD i z37).f1.f1) ∧ W.cell? ⟨(ad.add (i * 10)).block, (ad.add (i * 10)).off + 6, none⟩ = some (.int .i64 (M.getD i z37).f1.f2) ∧ W.cell? ⟨(ad.add (i * 10)).block, (ad.add (i * 10)).off + 7, none⟩ = some (.int .i64 (M.getD i z37).f1.f3.f0) ∧ W.cell? ⟨(ad.add (i * 10)).block, (ad.add (i * 10)).off + 8, none⟩ = some (.int .i64 (M.getD i z37).f1.f3.f1) ∧ W.cell? ⟨(ad.add (i * 10)).block, (ad.add (i * 10)).off + 9, none⟩ = some (.string (M.getD i z37).f1.f3.f2) := by
 have h1 := at_T37 h (i : Int) (by omega) (by omega)
 unfold rd_T37 at h1
 rw [Int.toNat_natCast] at h1
 exact h1
abbrev cc (x : Cl) : Array Value := #[.string x.f0.f0, .string x.f0.f1, .int .i64 x.f0.f2, .string x.f0.f3, .int .i64 x.f1.f0, .bool x.f1.f1, .int .i64 x.f1.f2, .int .i64 x.f1.f3.f0, .int .i64 x.f1.f3.f1, .string x.f1.f3.f2]
set_option maxHeartbeats 2000000 in
set_option maxRecDepth 100000 in
theorem values_seq (n : Nat) (hn : 1 ≤ n) (A : Option Addr) (cap : Nat) (zs : List Cl) (base B n0 n1 : Nat) (w : World) (hB : w.heap[B]? = some (.cells #[.slice A zs.length cap] 23 (0, 0))) (hR : Kd.R k37 37 w base (fun k => n0 ≤ k ∧ k < n1) (.slice A zs.length cap) zs) (hB1 : n0 ≤ B ∧ B < n1) (hz : zs.length ≤ 1000) :
  SeqH 65 n0 n1 Fence.wide n Try.prog 48 #[.pointer (some ⟨B, 0, none⟩)] (fun x : Cl => #[.agg (cc x)]) zs w := by
 intro l J Jx W hb hJM hY h0
 refine callsIn_wide.2 ?_
 have HMv := Lib.hid hJM
 have HY := Lib.hid hY
 have HJ := Lib.hid h0
 have HB := Lib.hid (blk_below hB hb)
 have HR := Lib.hid (Kd.R_below hR hb)
 have HN := Lib.hid hn
 have H1 := Lib.hid hB1
 have cb := (blk_cell (blk_below hB hb) 0).trans (show _ = some (Value.slice A zs.length cap) from rfl)
 clear hJM hY h0 hB hR hn hB1 hb
 show Calls Try.prog 48 #[.func (.yield l) #[] #[], .pointer (some ⟨B, 0, none⟩)] W _
 go_enter Try.func48, Try.ntmps48
 go_wp2_with fail
 clear cb
 go_loopg [7] zs.length (fun gk v7 wr => ∃ q : Nat, v7 = .int .i64 q ∧ Aside0 (q ≤ zs.length ∧ zs.length - q ≤ gk) ∧ Aside0 (J (zs.take q) wr) ∧ Aside0 (Kd.R k37 37 wr base (fun k => n0 ≤ k ∧ k < n1) (.slice A zs.length cap) zs))
 case atStart => exact ⟨0, rfl, ⟨Nat.zero_le _, by omega⟩, ⟨HJ.out⟩, ⟨HR.out⟩⟩
 case round =>
  clear HJ HB HR
  obtain ⟨q, rfl, HQ, HJ, HR⟩ := hrel
  by_cases hq : q < zs.length
  ·
   have q1 : (q : Int) < (zs.length : Int) := by omega
   have q0 : (0 : Int) ≤ (q : Int) := by omega
   obtain ⟨ad, rfl, d⟩ := cl_cells (Kd.R_reads' HR.out).2.2 q hq
   obtain ⟨x, hx⟩ : ∃ x, zs[q] = x := ⟨_, rfl⟩
   rw [show zs.getD q z37 = x by rw [← hx, List.getD_eq_getElem?_getD, List.getElem?_eq_getElem hq]; rfl] at d
   obtain ⟨d0, d1, d2, d3, d4, d5, d6, d7, d8, d9⟩ := d
   have hpre : zs.take q ++ [x] = zs.take (q + 1) := by rw [List.take_succ_eq_append_getElem hq, hx]
   have HP := Lib.hid hpre
   have HQ1 := Lib.hid hq
   have HL := Lib.hid hz
   clear hpre hx hq
   go_upto_region 3 with fail
   obtain ⟨w4, hw4⟩ : ∃ w4, wr.alloc (.cells (cc x) 37) = w4 := ⟨_, rfl⟩
   have HX := Lib.hid (show w4.heap[wr.heap.size]? = some (.cells (cc x) 37 (0, 0)) from hw4 ▸ heap_new_ wr _)
   have HB4 := Lib.hid (show Below wr.heap.size wr w4 from hw4 ▸ below_alloc (Below.refl _ _) _)
   rw [hw4]
   obtain ⟨g4, hg4⟩ : ∃ g4, wr.heap.size = g4 := ⟨_, rfl⟩
   rw [hg4] at HX ⊢
   have HJ4 := Lib.hid (HMv.out _ _ _ HJ.out (Mv.below HB4.out))
   have HR4 := Lib.hid (Kd.R_below HR.out HB4.out)
   obtain ⟨fn, tmps, assign, body, hy, hYR⟩ := HY.out _ x w4 HJ4.out (by rw [HP.out]; exact List.take_prefix _ _)
   have HYR := Lib.hid hYR
   have e0 := (blk_cell HX.out 0).trans (show _ = some (Value.string x.f0.f0) from rfl)
   have e1 := (blk_cell HX.out 1).trans (show _ = some (Value.string x.f0.f1) from rfl)
   have e2 := (blk_cell HX.out 2).trans (show _ = some (Value.int .i64 x.f0.f2) from rfl)
   have e3 := (blk_cell HX.out 3).trans (show _ = some (Value.string x.f0.f3) from rfl)
   have e4 := (blk_cell HX.out 4).trans (show _ = some (Value.int .i64 x.f1.f0) from rfl)
   have e5 := (blk_cell HX.out 5).trans (show _ = some (Value.bool x.f1.f1) from rfl)
   have e6 := (blk_cell HX.out 6).trans (show _ = some (Value.int .i64 x.f1.f2) from rfl)
   have e7 := (blk_cell HX.out 7).trans (show _ = some (Value.int .i64 x.f1.f3.f0) from rfl)
   have e8 := (blk_cell HX.out 8).trans (show _ = some (Value.int .i64 x.f1.f3.f1) from rfl)
   have e9 := (blk_cell HX.out 9).trans (show _ = some (Value.string x.f1.f3.f2) from rfl)
   clear hw4 hg4 hYR d0 d1 d2 d3 d4 d5 d6 d7 d8 d9
   refine (wpIn_wide (n := n)).1 ?_
   gi_wp2_with fail
   refine ⟨fun _ => HN.out, HYR.out.mono ?_⟩
   clear e0 e1 e2 e3 e4 e5 e6 e7 e8 e9
   rintro e W3 (⟨rfl, hJ3, hk3⟩ | ⟨rfl, hJx3⟩)
   ·
    have HR3 := Lib.hid (R_kp HR4.out hk3)
    rw [HP.out] at hJ3
    have HJ3 := Lib.hid hJ3
    clear hk3 hJ3
    gi_wp2
    go_wp2_with fail
    go_roundg (zs.length - (q + 1))
    case measure => have := HQ.out; have := HQ1.out; omega
    case rel => exact ⟨q + 1, by go_num, ⟨HQ1.out, Nat.le_refl _⟩, ⟨HJ3.out⟩, ⟨HR3.out⟩⟩
   ·
    gi_wp2
    go_wp2_with fail
    refine bodyPost_ret (results_none rfl _ _ _) rfl ?_
    exact ⟨⟨_, rfl⟩, .inr ⟨_, by rw [HP.out]; exact List.take_prefix _ _, hJx3⟩⟩
  ·
   have q1 : ¬ (q : Int) < (zs.length : Int) := by omega
   have hJ2 := HJ.out
   rw [List.take_of_length_le (by omega)] at hJ2
   have HJ2 := Lib.hid hJ2
   clear hJ2 hq
   go_wp2_with fail
   go_end0
   exact ⟨⟨_, rfl⟩, .inl HJ2.out⟩
end Go.Proofs.Ytlffkbcaphhldaa.Q
