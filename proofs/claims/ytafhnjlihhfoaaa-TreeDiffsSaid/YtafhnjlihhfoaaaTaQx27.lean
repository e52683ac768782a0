/- Lemmas for this claim's walk: no condition of their own. -/
import Derived.Test.YtafhnjlihhfoaaaTaSq
import Derived.Test.YtafhnjlihhfoaaaTaQx0
import Derived.Test.YtafhnjlihhfoaaaTaQx26
namespace Go.Proofs.Ytafhnjlihhfoaaa.Q
open Go.RowKit Go.Proofs.YtafhnjlihhfoaaaW.PrintWords Go.Proofs.YtafhnjlihhfoaaaW.PrintLast Go.Proofs.YtafhnjlihhfoaaaW.PrintMore
attribute [local go_sem] max2_int min2_int max_two min_two max_three min_three max_four min_four
set_option linter.unusedVariables false
set_option linter.unusedSimpArgs false
def codec_Cells.l0 : Nat → List Int → List (S38) → Int → Int → Option (List Int)
 | 0, _, _, _, _ => none
 | k + 1, x3, x12, x13, x14 => if x14 < x13 then (if 0 ≤ x14 then (if x14 < (x12.length : Int) then ((codec_text.f k x3 ((rd_T38 x12 x14).f0.f0)).bind fun t258 => ((codec_text.f k t258 ((rd_T38 x12 x14).f0.f1)).bind fun t261 => ((codec_Zig.f ((rd_T38 x12 x14).f0.f2)).bind fun t264 => ((codec_put.f k t261 t264).bind fun t265 => ((codec_text.f k t265 ((rd_T38 x12 x14).f0.f3)).bind fun t268 => ((codec_Zig.f ((rd_T38 x12 x14).f1.f0)).bind fun t271 => ((codec_put.f k t268 t271).bind fun t272 => (if (rd_T38 x12 x14).f1.f1 = true then (if t272.length < 140737488355328 then ((codec_Zig.f ((rd_T38 x12 x14).f1.f2)).bind fun t278 => ((codec_put.f k (t272 ++ [1]) t278).bind fun t279 => (codec_Cells.l0 k t279 x12 x13 (wrap64 (x14 + 1))))) else (none)) else (if t272.length < 140737488355328 then ((codec_put.f k (t272 ++ [0]) (IntKind.u64.wrap ((rd_T38 x12 x14).f1.f3.f0))).bind fun t285 => ((codec_Zig.f ((rd_T38 x12 x14).f1.f3.f1)).bind fun t288 => ((codec_put.f k t285 t288).bind fun t289 => ((codec_text.f k t289 ((rd_T38 x12 x14).f1.f3.f2)).bind fun t292 => (codec_Cells.l0 k t292 x12 x13 (wrap64 (x14 + 1))))))) else (none)))))))))) else (none)) else (none)) else (some x3)
def codec_Cells.f (k : Nat) (l0 : List (S38)) : Option (List Int) := (codec_put.f k ([] : List Int) (IntKind.u64.wrap ((l0.length : Int)))).bind fun t251 => (codec_Cells.l0 k t251 l0 (l0.length : Int) 0)
def codec_Cells.T5 : Bool × List (List Nat × List Nat) := (true, [([], []), ([0], [0]), ([], []), ([2], [2]), ([], []), ([], []), ([4, 1, 0, 1, 4, 5], [1, 4]), ([5, 3, 6, 0, 1, 2, 3, 4, 5, 6], [3, 5])])
def codec_Cells.B5 : List Nat := [0, 1, 0, 4, 0, 0, 51, 127]
theorem codec_Cells.tab5 : rtab .any (opsOf Try.f51 5) = codec_Cells.T5 := by kernel_rfl
theorem codec_Cells.bits5 : waitsOk codec_Cells.T5.2 codec_Cells.B5 = true := by kernel_rfl
def codec_Cells.T6 : Bool × List (List Nat × List Nat) := (true, [([], []), ([], []), ([1], [1]), ([0, 2], [0, 2]), ([], []), ([4], [4]), ([3, 5, 3], [3, 5]), ([], []), ([7], [7]), ([8, 6], [8]), ([6, 9, 9], [6, 9]), ([], []), ([11], [11]), ([10, 12, 10], [10, 12]), ([13, 13, 0, 1, 2, 3, 4, 5, 6, 7, 8, 9, 10, 11, 12, 13], [0, 13])])
def codec_Cells.B6 : List Nat := [0, 0, 2, 7, 0, 16, 63, 0, 128, 511, 1023, 0, 2048, 8191, 16383]
theorem codec_Cells.tab6 : rtab .any (opsOf Try.f51 6) = codec_Cells.T6 := by kernel_rfl
theorem codec_Cells.bits6 : waitsOk codec_Cells.T6.2 codec_Cells.B6 = true := by kernel_rfl
def codec_Cells.T9 : Bool × List (List Nat × List Nat) := (true, [([], []), ([], []), ([0, 1], [0, 1]), ([], []), ([3], [3]), ([4, 2], [4]), ([2, 5, 5], [2, 5]), ([6, 6, 0, 1, 2, 3, 4, 5, 6], [0, 6])])
def codec_Cells.B9 : List Nat := [0, 0, 3, 0, 8, 31, 63, 127]
theorem codec_Cells.tab9 : rtab .any (opsOf Try.f51 9) = codec_Cells.T9 := by kernel_rfl
theorem codec_Cells.bits9 : waitsOk codec_Cells.T9.2 codec_Cells.B9 = true := by kernel_rfl
def codec_Cells.T10 : Bool × List (List Nat × List Nat) := (true, [([], []), ([], []), ([0, 1], [0, 1]), ([], []), ([3], [3]), ([4], [4]), ([5], [5]), ([2, 6, 2], [2, 6]), ([], []), ([8], [8]), ([9], [9]), ([10, 7], [10]), ([7, 11, 11], [7, 11]), ([], []), ([13], [13]), ([14], [14]), ([12, 15, 12], [12, 15]), ([16, 16, 0, 1, 2, 3, 4, 5, 6, 7, 8, 9, 10, 11, 12, 13, 14, 15, 16], [0, 16])])
def codec_Cells.B10 : List Nat := [0, 0, 3, 0, 8, 24, 56, 127, 0, 256, 768, 2047, 4095, 0, 8192, 24576, 65535, 131071]
theorem codec_Cells.tab10 : rtab .any (opsOf Try.f51 10) = codec_Cells.T10 := by kernel_rfl
theorem codec_Cells.bits10 : waitsOk codec_Cells.T10.2 codec_Cells.B10 = true := by kernel_rfl
set_option maxHeartbeats 8000000 in
set_option maxRecDepth 100000 in
theorem codec_Cells.calls (k : Nat) (A0 : Option Addr) (c0 : Nat) (l0 : List (S38)) (r : List Int) (w : World) (hr0 : Kd.C k38 w A0 l0.length l0) (hc0 : l0.length ≤ c0) (h : codec_Cells.f k l0 = some r) :
  Calls Try.prog 51 #[.slice A0 l0.length c0] w fun e w' => ∃ v0_ : Value, e = .returned (v0_) ∧ Kd.R (Kd.int .u8) 5 w' w.heap.size (fun _ => True) v0_ r ∧ Below w.heap.size w w' := by
 have hu38 := Try.underlying38
 have hu32 := Try.underlying32
 have hu36 := Try.underlying36
 have HR0 := Aside0.mk hr0
 have HC0 := Aside0.mk hc0
 clear hr0 hc0
 have HB := Aside0.mk (Below.refl w.heap.size w)
 have H : ((codec_put.f k ([] : List Int) (IntKind.u64.wrap ((l0.length : Int)))).bind fun t251 => (codec_Cells.l0 k t251 l0 (l0.length : Int) 0)) = some r := h
 clear h
 replace H := Option.bind_eq_some_iff.mp H
 obtain ⟨t251, A20, H⟩ := H
 have A2 := Aside0.mk A20
 clear A20
 have H' := Aside0.mk H
 clear H
 go_enter Try.func51, Try.ntmps51
 go_wp2_with (first | ((with_reducible refine gate_callee (f := 72) rfl ?_); refine goesL_ (some 11) rfl rfl Try.func72 (by kernel_rfl) rfl #[.slice none 0 0, .int .u64 (IntKind.u64.wrap ((l0.length : Int)))] rfl (by (try simp only [mT_, mC_, mN_]); first | done | rfl) ?_; (refine (codec_put.calls k (fun k_ => some k_ = (.slice none 0 0 : Value).ownBlock) (.slice none 0 0) ([] : List Int) (IntKind.u64.wrap ((l0.length : Int))) t251 w _ ?side1 ?side2 A2.out).mono ?_); (case side1 => repeat (first | (with_reducible first | exact HB.out | apply bA_ | apply bN_ | apply bD_) | exact HB.out)); (case side2 => exact Kd.R_nil _ _ _ _ _); rintro e w3 ⟨v252, rfl, ho0, hb, hkp⟩; refine ⟨_, rfl, ?_⟩; have HO253 := Aside0.mk (Kd.R_mono (ok' := fun k_ => True) ho0 (fun k_ hk_ => trivial)); replace HB := Aside0.mk (hb); (try clear hb); (try clear hkp); (try clear ho0)))
 go_loopg [3, 14] k (fun kq v3 v14 w' => ∃ (x3_1 : List Int) (x14_1 : Int), v14 = .int .i64 x14_1 ∧ Aside0 (codec_Cells.l0 kq x3_1 l0 (l0.length : Int) x14_1 = some r) ∧ Aside0 (kq ≤ k) ∧ Aside0 (Kd.R (Kd.int .u8) 5 w' w.heap.size (fun _ => True) v3 x3_1) ∧ Aside0 (Below w.heap.size w w'))
 case atStart => exact ⟨(t251), (0), (by first | rfl | (simp; done) | (simp [bne, *]; done)), H', ⟨Nat.le_refl _⟩, ⟨krW HO253⟩, ⟨kwW HB⟩⟩
 case round =>
  clear H'
  try clear p2
  obtain ⟨x3_1, x14_1, rfl, HA, HK1, HO_3, HB⟩ := hrel
  cases gk with
  | zero => exact absurd HA.out (by simp [codec_Cells.l0])
  | succ k1 =>
   have H := HA.out
   clear HA
   simp only [codec_Cells.l0] at H
   by_cases c4 : x14_1 < (l0.length : Int)
   rotate_left
   ·
    rw [if_neg c4] at H
    have c4b0 : decide (x14_1 < (l0.length : Int)) = false := decide_eq_false c4
    clear c4
    obtain rfl := Option.some.inj H
    go_wp2
    go_ret
    exact ⟨_, by first | rfl | (simp <;> rfl) | (simp [*] <;> rfl), krW HO_3, kwW HB⟩
   rw [if_pos c4] at H
   have c4b0 : decide (x14_1 < (l0.length : Int)) = true := decide_eq_true c4
   clear c4
   by_cases c5 : 0 ≤ x14_1
   rotate_left
   ·
    rw [if_neg c5] at H
    exact absurd H (by simp)
   rw [if_pos c5] at H
   have c5b0 : decide (0 ≤ x14_1) = true := decide_eq_true c5
   clear c5
   by_cases c6 : x14_1 < (l0.length : Int)
   rotate_left
   ·
    rw [if_neg c6] at H
    exact absurd H (by simp)
   rw [if_pos c6] at H
   have c6b0 : decide (x14_1 < (l0.length : Int)) = true := decide_eq_true c6
   clear c6
   replace H := Option.bind_eq_some_iff.mp H
   obtain ⟨t258, A70, H⟩ := H
   have A7 := Aside0.mk A70
   clear A70
   replace H := Option.bind_eq_some_iff.mp H
   obtain ⟨t261, A80, H⟩ := H
   have A8 := Aside0.mk A80
   clear A80
   replace H := Option.bind_eq_some_iff.mp H
   obtain ⟨t264, A90, H⟩ := H
   have A9 := Aside0.mk A90
   clear A90
   replace H := Option.bind_eq_some_iff.mp H
   obtain ⟨t265, A100, H⟩ := H
   have A10 := Aside0.mk A100
   clear A100
   replace H := Option.bind_eq_some_iff.mp H
   obtain ⟨t268, A110, H⟩ := H
   have A11 := Aside0.mk A110
   clear A110
   replace H := Option.bind_eq_some_iff.mp H
   obtain ⟨t271, A120, H⟩ := H
   have A12 := Aside0.mk A120
   clear A120
   replace H := Option.bind_eq_some_iff.mp H
   obtain ⟨t272, A130, H⟩ := H
   have A13 := Aside0.mk A130
   clear A130
   obtain ⟨bq14, hbq14⟩ : ∃ b_ : Bool, b_ = ((rd_T38 l0 x14_1).f1.f1) := ⟨_, rfl⟩
   replace H : (if bq14 = true then (if t272.length < 140737488355328 then ((codec_Zig.f ((rd_T38 l0 x14_1).f1.f2)).bind fun t278 => ((codec_put.f k1 (t272 ++ [1]) t278).bind fun t279 => (codec_Cells.l0 k1 t279 l0 (l0.length : Int) (wrap64 (x14_1 + 1))))) else (none)) else (if t272.length < 140737488355328 then ((codec_put.f k1 (t272 ++ [0]) (IntKind.u64.wrap ((rd_T38 l0 x14_1).f1.f3.f0))).bind fun t285 => ((codec_Zig.f ((rd_T38 l0 x14_1).f1.f3.f1)).bind fun t288 => ((codec_put.f k1 t285 t288).bind fun t289 => ((codec_text.f k1 t289 ((rd_T38 l0 x14_1).f1.f3.f2)).bind fun t292 => (codec_Cells.l0 k1 t292 l0 (l0.length : Int) (wrap64 (x14_1 + 1))))))) else (none))) = some r := by rw [← hbq14] at H; exact H
   have Nbq14 := Aside0.mk hbq14
   clear hbq14
   by_cases c15 : bq14 = true
   ·
    subst c15
    have H1 : (if t272.length < 140737488355328 then ((codec_Zig.f ((rd_T38 l0 x14_1).f1.f2)).bind fun t278 => ((codec_put.f k1 (t272 ++ [1]) t278).bind fun t279 => (codec_Cells.l0 k1 t279 l0 (l0.length : Int) (wrap64 (x14_1 + 1))))) else (none)) = some r := by rw [if_pos rfl] at H; exact H
    clear H
    have H := H1
    clear H1
    by_cases c16 : t272.length < 140737488355328
    rotate_left
    ·
     rw [if_neg c16] at H
     exact absurd H (by simp)
    rw [if_pos c16] at H
    have LMc16 := Aside0.mk c16
    clear c16
    obtain ⟨y275, hy275⟩ : ∃ y_ : List Int, y_ = (t272 ++ [1]) := ⟨_, rfl⟩
    replace H : ((codec_Zig.f ((rd_T38 l0 x14_1).f1.f2)).bind fun t278 => ((codec_put.f k1 y275 t278).bind fun t279 => (codec_Cells.l0 k1 t279 l0 (l0.length : Int) (wrap64 (x14_1 + 1))))) = some r := by first | (rw [hy275]; with_reducible exact H) | (have H2_ := (Option.bind_some _ _).symm.trans H; rw [hy275]; with_reducible exact H2_) | (have H2_ := (Option.bind_some _ _).symm.trans H; with_reducible exact H2_) | with_reducible exact H | (rw [hy275]; exact H) | exact H
    have Ny275 := Aside0.mk hy275
    clear hy275
    replace H := Option.bind_eq_some_iff.mp H
    obtain ⟨t278, A170, H⟩ := H
    have A17 := Aside0.mk A170
    clear A170
    replace H := Option.bind_eq_some_iff.mp H
    obtain ⟨t279, A180, H⟩ := H
    have A18 := Aside0.mk A180
    clear A180
    have H' := Aside0.mk H
    clear H
    have p254 : 0 ≤ (x14_1 : Int) := of_decide_eq_true (by first | (with_reducible assumption) | assumption)
    have q254 : x14_1 < (l0.length : Int) := of_decide_eq_true (by first | (with_reducible assumption) | assumption)
    obtain ⟨ad254, e254, hx254_0, hx254_1, hx254_2, hx254_3, hx254_4, hx254_5, hx254_6, hx254_7, hx254_8, hx254_9⟩ := at_T38 HR0.out x14_1 p254 q254
    (try rw [← Nbq14.out] at hx254_5)
    cases e254
    replace hx254_0 := cB_ HB hx254_0
    replace hx254_1 := cB_ HB hx254_1
    replace hx254_2 := cB_ HB hx254_2
    replace hx254_3 := cB_ HB hx254_3
    replace hx254_4 := cB_ HB hx254_4
    replace hx254_5 := cB_ HB hx254_5
    replace hx254_6 := cB_ HB hx254_6
    replace hx254_7 := cB_ HB hx254_7
    replace hx254_8 := cB_ HB hx254_8
    replace hx254_9 := cB_ HB hx254_9
    replace p254 := eq_true p254
    replace q254 := eq_true q254
    try go_wp2_with (first | ((with_reducible refine gate_dst (N := 5) rfl ?_); refine box_event ?hg (N := 5) ?hd (cs := #[.string (⟨#[]⟩ : ByteArray), .string (⟨#[]⟩ : ByteArray), .int .i64 0, .string (⟨#[]⟩ : ByteArray), .int .i64 0, .bool false, .int .i64 0, .int .i64 0, .int .i64 0, .string (⟨#[]⟩ : ByteArray)]) (t := 38) ?hr ?_; (case hd => rfl); (case hg => rfl); (case hr => first | (go_simp; done) | (go_simp; rfl)); intro gb255 hg w19 hbox hb; replace HO_3 := kR HO_3 hb; have BK255 := Aside0.mk (hbox); have GW255 := Aside0.mk ((by rw [hg]; exact (bZ_ (kwW HB)) : w.heap.size ≤ gb255)); replace HB := Aside0.mk (below_step (kwW HB) hb); have GE255 := GW255; clear hb hbox hg; obtain ⟨_, _, _, _, _, _, _, _, _, _, _, _, _, _, _, _, _, _, _, _⟩ := czf10 BK255))
    have n0_ : Aside0 (Kd.R (Kd.int .u8) 5 ((((((((((w19.setCell ⟨gb255, 0, none⟩ (.string ((rd_T38 l0 x14_1).f0.f0))).setCell ⟨gb255, 1, none⟩ (.string ((rd_T38 l0 x14_1).f0.f1))).setCell ⟨gb255, 2, none⟩ (.int .i64 ((rd_T38 l0 x14_1).f0.f2))).setCell ⟨gb255, 3, none⟩ (.string ((rd_T38 l0 x14_1).f0.f3))).setCell ⟨gb255, 4, none⟩ (.int .i64 ((rd_T38 l0 x14_1).f1.f0))).setCell ⟨gb255, 5, none⟩ (.bool true)).setCell ⟨gb255, 6, none⟩ (.int .i64 ((rd_T38 l0 x14_1).f1.f2))).setCell ⟨gb255, 7, none⟩ (.int .i64 ((rd_T38 l0 x14_1).f1.f3.f0))).setCell ⟨gb255, 8, none⟩ (.int .i64 ((rd_T38 l0 x14_1).f1.f3.f1))).setCell ⟨gb255, 9, none⟩ (.string ((rd_T38 l0 x14_1).f1.f3.f2))) w.heap.size (fun _ => True) u3 x3_1) := ⟨by (with_reducible repeat (first | apply Kd.R_alloc | apply Kd.R_drewN | apply Kd.R_drew)); exact Kd.R_mono (rf10 (Kd.R_types HO_3.out BK255.out (by decide)) (fun _ hk => hk.2)) (fun _ hk => trivial)⟩
    have n1_ : Aside0 (((((((((((w19.setCell ⟨gb255, 0, none⟩ (.string ((rd_T38 l0 x14_1).f0.f0))).setCell ⟨gb255, 1, none⟩ (.string ((rd_T38 l0 x14_1).f0.f1))).setCell ⟨gb255, 2, none⟩ (.int .i64 ((rd_T38 l0 x14_1).f0.f2))).setCell ⟨gb255, 3, none⟩ (.string ((rd_T38 l0 x14_1).f0.f3))).setCell ⟨gb255, 4, none⟩ (.int .i64 ((rd_T38 l0 x14_1).f1.f0))).setCell ⟨gb255, 5, none⟩ (.bool true)).setCell ⟨gb255, 6, none⟩ (.int .i64 ((rd_T38 l0 x14_1).f1.f2))).setCell ⟨gb255, 7, none⟩ (.int .i64 ((rd_T38 l0 x14_1).f1.f3.f0))).setCell ⟨gb255, 8, none⟩ (.int .i64 ((rd_T38 l0 x14_1).f1.f3.f1))).setCell ⟨gb255, 9, none⟩ (.string ((rd_T38 l0 x14_1).f1.f3.f2))).heap[gb255]? = some (.cells #[.string ((rd_T38 l0 x14_1).f0.f0), .string ((rd_T38 l0 x14_1).f0.f1), .int .i64 ((rd_T38 l0 x14_1).f0.f2), .string ((rd_T38 l0 x14_1).f0.f3), .int .i64 ((rd_T38 l0 x14_1).f1.f0), .bool true, .int .i64 ((rd_T38 l0 x14_1).f1.f2), .int .i64 ((rd_T38 l0 x14_1).f1.f3.f0), .int .i64 ((rd_T38 l0 x14_1).f1.f3.f1), .string ((rd_T38 l0 x14_1).f1.f3.f2)] 38 (0, 0))) := ⟨by (with_reducible repeat (first | refine blk_drewN ?_ _ | refine blk_drew ?_ | refine blk_alloc ?_ _)); exact bp10 (kbW BK255)⟩
    have n2_ : Aside0 (Below w.heap.size w ((((((((((w19.setCell ⟨gb255, 0, none⟩ (.string ((rd_T38 l0 x14_1).f0.f0))).setCell ⟨gb255, 1, none⟩ (.string ((rd_T38 l0 x14_1).f0.f1))).setCell ⟨gb255, 2, none⟩ (.int .i64 ((rd_T38 l0 x14_1).f0.f2))).setCell ⟨gb255, 3, none⟩ (.string ((rd_T38 l0 x14_1).f0.f3))).setCell ⟨gb255, 4, none⟩ (.int .i64 ((rd_T38 l0 x14_1).f1.f0))).setCell ⟨gb255, 5, none⟩ (.bool true)).setCell ⟨gb255, 6, none⟩ (.int .i64 ((rd_T38 l0 x14_1).f1.f2))).setCell ⟨gb255, 7, none⟩ (.int .i64 ((rd_T38 l0 x14_1).f1.f3.f0))).setCell ⟨gb255, 8, none⟩ (.int .i64 ((rd_T38 l0 x14_1).f1.f3.f1))).setCell ⟨gb255, 9, none⟩ (.string ((rd_T38 l0 x14_1).f1.f3.f2)))) := ⟨by repeat (first | (with_reducible first | exact HB.out | apply bA_ | apply bN_ | apply bD_ | refine bS_ ?_ GE255) | exact HB.out)⟩
    (try clear HO_3)
    (try clear BK255)
    (try clear HB)
    generalize ((((((((((w19.setCell ⟨gb255, 0, none⟩ (.string ((rd_T38 l0 x14_1).f0.f0))).setCell ⟨gb255, 1, none⟩ (.string ((rd_T38 l0 x14_1).f0.f1))).setCell ⟨gb255, 2, none⟩ (.int .i64 ((rd_T38 l0 x14_1).f0.f2))).setCell ⟨gb255, 3, none⟩ (.string ((rd_T38 l0 x14_1).f0.f3))).setCell ⟨gb255, 4, none⟩ (.int .i64 ((rd_T38 l0 x14_1).f1.f0))).setCell ⟨gb255, 5, none⟩ (.bool true)).setCell ⟨gb255, 6, none⟩ (.int .i64 ((rd_T38 l0 x14_1).f1.f2))).setCell ⟨gb255, 7, none⟩ (.int .i64 ((rd_T38 l0 x14_1).f1.f3.f0))).setCell ⟨gb255, 8, none⟩ (.int .i64 ((rd_T38 l0 x14_1).f1.f3.f1))).setCell ⟨gb255, 9, none⟩ (.string ((rd_T38 l0 x14_1).f1.f3.f2))) = w21 at n0_ n1_ n2_ ⊢
    have HO_3 := n0_
    have BK255 := n1_
    have HB := n2_
    clear n0_ n1_ n2_
    replace HO_3 := Aside0.mk (Kd.R_drew HO_3.out)
    replace BK255 := Aside0.mk (blk_drew BK255.out)
    replace HB := Aside0.mk (below_drew1 HB.out)
    refine start_ (n := 8) (S := fun w' => w'.cell? ⟨gb255, 0, none⟩ = some (.string ((rd_T38 l0 x14_1).f0.f0)) ∧ w'.cell? ⟨gb255, 1, none⟩ = some (.string ((rd_T38 l0 x14_1).f0.f1)) ∧ w'.cell? ⟨gb255, 2, none⟩ = some (.int .i64 ((rd_T38 l0 x14_1).f0.f2)) ∧ w'.cell? ⟨gb255, 3, none⟩ = some (.string ((rd_T38 l0 x14_1).f0.f3)) ∧ w'.cell? ⟨gb255, 4, none⟩ = some (.int .i64 ((rd_T38 l0 x14_1).f1.f0)) ∧ w'.cell? ⟨gb255, 5, none⟩ = some (.bool true) ∧ w'.cell? ⟨gb255, 6, none⟩ = some (.int .i64 ((rd_T38 l0 x14_1).f1.f2)) ∧ w'.cell? ⟨gb255, 7, none⟩ = some (.int .i64 ((rd_T38 l0 x14_1).f1.f3.f0)) ∧ w'.cell? ⟨gb255, 8, none⟩ = some (.int .i64 ((rd_T38 l0 x14_1).f1.f3.f1)) ∧ w'.cell? ⟨gb255, 9, none⟩ = some (.string ((rd_T38 l0 x14_1).f1.f3.f2))) (ds := []) (tf_ 0 8) (by kernel_rfl) rfl rfl (cd10 BK255) (fun hHeld => ?_); refine with_tabW codec_Cells.tab5 codec_Cells.bits5 (fun HT_ HW_ => ?_)
    generalize w21.drew = w22 at HO_3 BK255 HB hHeld ⊢
    refine pure_ (i := 0) (N := some 18) (v := ?_) (a' := ?_) (tf_ 1 7) rfl rfl (any_of HT_.out (by kernel_rfl)) (fun _ _ _ h => h) (Or.inl ⟨by rfl, ?_⟩) ?_ ?_
    rotate_left; · (intro w'; go_simp; with_reducible rfl)
    rotate_left; · (simp only [Act.put, sT_, sO_, sN_, i64_w, i32_w]; rfl)
    refine pure_ (i := 2) (N := some 20) (v := ?_) (a' := ?_) (tb_ 5 8) rfl rfl (any_of HT_.out (by kernel_rfl)) (fun _ _ _ h => h) (Or.inl ⟨by rfl, ?_⟩) ?_ ?_
    rotate_left; · (intro w'; go_simp; with_reducible rfl)
    rotate_left; · (simp only [Act.put, sT_, sO_, sN_, i64_w, i32_w]; rfl)
    refine take_ (i := 1) (N := some 19) (v := ?_) (a' := ?_) (tf_ 3 5) rfl rfl (take_ofW HT_.out HW_.out (by kernel_rfl)) (fun _ _ _ h => h) (Or.inl ⟨by rfl, ?_⟩) hHeld ?_ ?_
    rotate_left; · (rintro w' ⟨s0, s1, s2, s3, s4, s5, s6, s7, s8, s9⟩; go_simp; with_reducible rfl)
    rotate_left; · (simp only [Act.put, sT_, sO_, sN_, i64_w, i32_w]; rfl)
    refine take_ (i := 3) (N := some 21) (v := ?_) (a' := ?_) (tf_ 4 4) rfl rfl (take_ofW HT_.out HW_.out (by kernel_rfl)) (fun _ _ _ h => h) (Or.inl ⟨by rfl, ?_⟩) hHeld ?_ ?_
    rotate_left; · (rintro w' ⟨s0, s1, s2, s3, s4, s5, s6, s7, s8, s9⟩; go_simp; with_reducible rfl)
    rotate_left; · (simp only [Act.put, sT_, sO_, sN_, i64_w, i32_w]; rfl)
    refine join_ (σ := Nat × Nat) 2 (tf_ 6 2) (fun s_ => [(6, .pointer (some ⟨s_.1, 0, none⟩)), (7, .pointer (some ⟨s_.2, 0, none⟩))]) (fun s_ w' => (w'.cell? ⟨gb255, 0, none⟩ = some (.string ((rd_T38 l0 x14_1).f0.f0)) ∧ w'.cell? ⟨gb255, 1, none⟩ = some (.string ((rd_T38 l0 x14_1).f0.f1)) ∧ w'.cell? ⟨gb255, 2, none⟩ = some (.int .i64 ((rd_T38 l0 x14_1).f0.f2)) ∧ w'.cell? ⟨gb255, 3, none⟩ = some (.string ((rd_T38 l0 x14_1).f0.f3)) ∧ w'.cell? ⟨gb255, 4, none⟩ = some (.int .i64 ((rd_T38 l0 x14_1).f1.f0)) ∧ w'.cell? ⟨gb255, 5, none⟩ = some (.bool true) ∧ w'.cell? ⟨gb255, 6, none⟩ = some (.int .i64 ((rd_T38 l0 x14_1).f1.f2)) ∧ w'.cell? ⟨gb255, 7, none⟩ = some (.int .i64 ((rd_T38 l0 x14_1).f1.f3.f0)) ∧ w'.cell? ⟨gb255, 8, none⟩ = some (.int .i64 ((rd_T38 l0 x14_1).f1.f3.f1)) ∧ w'.cell? ⟨gb255, 9, none⟩ = some (.string ((rd_T38 l0 x14_1).f1.f3.f2))) ∧ (Kd.R (Kd.int .u8) 5 w' w.heap.size (fun _ => True) u3 x3_1) ∧ (w'.heap[gb255]? = some (.cells #[.string ((rd_T38 l0 x14_1).f0.f0), .string ((rd_T38 l0 x14_1).f0.f1), .int .i64 ((rd_T38 l0 x14_1).f0.f2), .string ((rd_T38 l0 x14_1).f0.f3), .int .i64 ((rd_T38 l0 x14_1).f1.f0), .bool true, .int .i64 ((rd_T38 l0 x14_1).f1.f2), .int .i64 ((rd_T38 l0 x14_1).f1.f3.f0), .int .i64 ((rd_T38 l0 x14_1).f1.f3.f1), .string ((rd_T38 l0 x14_1).f1.f3.f2)] 38 (0, 0))) ∧ (w'.heap[s_.1]? = some (.cells #[.string (⟨#[]⟩ : ByteArray), .string (⟨#[]⟩ : ByteArray), .int .i64 0, .string (⟨#[]⟩ : ByteArray)] 32 (0, 0))) ∧ (w'.heap[s_.2]? = some (.cells #[.int .i64 0, .bool false, .int .i64 0, .int .i64 0, .int .i64 0, .string (⟨#[]⟩ : ByteArray)] 36 (0, 0))) ∧ (w.heap.size ≤ s_.1) ∧ (w.heap.size ≤ s_.1) ∧ (gb255 ≠ s_.1) ∧ (s_.1 ≠ gb255) ∧ (s_.2 ≠ s_.1) ∧ (s_.1 ≠ s_.2) ∧ (w.heap.size ≤ s_.2) ∧ (w.heap.size ≤ s_.2) ∧ (gb255 ≠ s_.2) ∧ (s_.2 ≠ gb255) ∧ (Below w.heap.size w w')) ?_ ?_
    rotate_left
    ·
     intro hCont
     refine two_ (i := 4) (j := 5) (Ni := some 6) (Nj := some 7) (tf_ 5 3) (tb_ 47 8) rfl rfl rfl rfl (two_of HT_.out (by kernel_rfl)) (by decide) (by decide) (fun K hK => ?_) (fun K hK => ?_)
     ·
      skip
      refine box_step ?hg (N := 6) ?hd (cs := #[.string (⟨#[]⟩ : ByteArray), .string (⟨#[]⟩ : ByteArray), .int .i64 0, .string (⟨#[]⟩ : ByteArray)]) (t := 32) ?hr ?_; (case hd => rfl); (case hg => rfl); (case hr => first | (go_simp; done) | (go_simp; rfl))
      intro gb256 hg w23 hbox hb
      replace HO_3 := kR HO_3 hb
      have BK256 := Aside0.mk (hbox)
      have GW256 := Aside0.mk ((by rw [hg]; exact (bZ_ (by repeat (first | (with_reducible first | exact HB.out | apply bA_ | apply bN_ | apply bD_ | refine bS_ ?_ GE255) | exact HB.out))) : w.heap.size ≤ gb256))
      replace HB := Aside0.mk (below_step (by repeat (first | (with_reducible first | exact HB.out | apply bA_ | apply bN_ | apply bD_ | refine bS_ ?_ GE255) | exact HB.out)) hb)
      have GE256 := GW256
      have NB255_256 := Aside0.mk ((by rw [hg]; exact Nat.ne_of_lt (blk_lt (kbW BK255)) : gb255 ≠ gb256))
      have NB256_255 := Aside0.mk ((by rw [hg]; exact Nat.ne_of_gt (blk_lt (kbW BK255)) : gb256 ≠ gb255))
      replace BK255 := kB BK255 hb
      clear hb hbox hg
      refine hK.out _ _ (cd10 BK255) (fun hHeld => ?_)
      clear hK K
      refine norm_ (a' := ?_) ?_ ?_
      rotate_left
      ·
       show Act.put _ (some 6) _ = _
       simp only [Act.put, sT_, sO_, sN_, i64_w, i32_w]
       rfl
      refine one_ (i := 5) (N := some 7) (tf_ 6 2) rfl rfl (one_of HT_.out (by kernel_rfl)) (by decide) (fun K hK => ?_)
      refine box_step ?hg (N := 7) ?hd (cs := #[.int .i64 0, .bool false, .int .i64 0, .int .i64 0, .int .i64 0, .string (⟨#[]⟩ : ByteArray)]) (t := 36) ?hr ?_; (case hd => rfl); (case hg => rfl); (case hr => first | (go_simp; done) | (go_simp; rfl))
      intro gb257 hg w24 hbox hb
      replace HO_3 := kR HO_3 hb
      have BK257 := Aside0.mk (hbox)
      have GW257 := Aside0.mk ((by rw [hg]; exact (bZ_ (by repeat (first | (with_reducible first | exact HB.out | apply bA_ | apply bN_ | apply bD_ | refine bS_ ?_ GE255 | refine bS_ ?_ GE256) | exact HB.out))) : w.heap.size ≤ gb257))
      replace HB := Aside0.mk (below_step (by repeat (first | (with_reducible first | exact HB.out | apply bA_ | apply bN_ | apply bD_ | refine bS_ ?_ GE255 | refine bS_ ?_ GE256) | exact HB.out)) hb)
      have GE257 := GW257
      have NB255_257 := Aside0.mk ((by rw [hg]; exact Nat.ne_of_lt (blk_lt (kbW BK255)) : gb255 ≠ gb257))
      have NB257_255 := Aside0.mk ((by rw [hg]; exact Nat.ne_of_gt (blk_lt (kbW BK255)) : gb257 ≠ gb255))
      replace BK255 := kB BK255 hb
      have NB256_257 := Aside0.mk ((by rw [hg]; exact Nat.ne_of_lt (blk_lt (kbW BK256)) : gb256 ≠ gb257))
      have NB257_256 := Aside0.mk ((by rw [hg]; exact Nat.ne_of_gt (blk_lt (kbW BK256)) : gb257 ≠ gb256))
      replace BK256 := kB BK256 hb
      clear hb hbox hg
      refine hK.out _ _ (cd10 BK255) (fun hHeld => ?_)
      clear hK K
      refine norm_ (a' := ?_) ?_ ?_
      rotate_left
      ·
       show Act.put _ (some 7) _ = _
       simp only [Act.put, sT_, sO_, sN_, i64_w, i32_w]
       rfl
      exact norm_ (by simp only [putAll, Act.put, sT_, sO_, sN_]) (hCont (gb256, gb257) _ ⟨hHeld, (krW HO_3), (kbW BK255), (kbW BK256), (kbW BK257), GW256.out, GE256.out, NB255_256.out, NB256_255.out, NB257_256.out, NB256_257.out, GW257.out, GE257.out, NB255_257.out, NB257_255.out, (by repeat (first | (with_reducible first | exact HB.out | apply bA_ | apply bN_ | apply bD_ | refine bS_ ?_ GE255 | refine bS_ ?_ GE256 | refine bS_ ?_ GE257) | exact HB.out))⟩)
     ·
      skip
      refine box_step ?hg (N := 7) ?hd (cs := #[.int .i64 0, .bool false, .int .i64 0, .int .i64 0, .int .i64 0, .string (⟨#[]⟩ : ByteArray)]) (t := 36) ?hr ?_; (case hd => rfl); (case hg => rfl); (case hr => first | (go_simp; done) | (go_simp; rfl))
      intro gb257 hg w23 hbox hb
      replace HO_3 := kR HO_3 hb
      have BK257 := Aside0.mk (hbox)
      have GW257 := Aside0.mk ((by rw [hg]; exact (bZ_ (by repeat (first | (with_reducible first | exact HB.out | apply bA_ | apply bN_ | apply bD_ | refine bS_ ?_ GE255) | exact HB.out))) : w.heap.size ≤ gb257))
      replace HB := Aside0.mk (below_step (by repeat (first | (with_reducible first | exact HB.out | apply bA_ | apply bN_ | apply bD_ | refine bS_ ?_ GE255) | exact HB.out)) hb)
      have GE257 := GW257
      have NB255_257 := Aside0.mk ((by rw [hg]; exact Nat.ne_of_lt (blk_lt (kbW BK255)) : gb255 ≠ gb257))
      have NB257_255 := Aside0.mk ((by rw [hg]; exact Nat.ne_of_gt (blk_lt (kbW BK255)) : gb257 ≠ gb255))
      replace BK255 := kB BK255 hb
      clear hb hbox hg
      refine hK.out _ _ (cd10 BK255) (fun hHeld => ?_)
      clear hK K
      refine norm_ (a' := ?_) ?_ ?_
      rotate_left
      ·
       show Act.put _ (some 7) _ = _
       simp only [Act.put, sT_, sO_, sN_, i64_w, i32_w]
       rfl
      refine one_ (i := 4) (N := some 6) (tf_ 6 2) rfl rfl (one_of HT_.out (by kernel_rfl)) (by decide) (fun K hK => ?_)
      refine box_step ?hg (N := 6) ?hd (cs := #[.string (⟨#[]⟩ : ByteArray), .string (⟨#[]⟩ : ByteArray), .int .i64 0, .string (⟨#[]⟩ : ByteArray)]) (t := 32) ?hr ?_; (case hd => rfl); (case hg => rfl); (case hr => first | (go_simp; done) | (go_simp; rfl))
      intro gb256 hg w24 hbox hb
      replace HO_3 := kR HO_3 hb
      have BK256 := Aside0.mk (hbox)
      have GW256 := Aside0.mk ((by rw [hg]; exact (bZ_ (by repeat (first | (with_reducible first | exact HB.out | apply bA_ | apply bN_ | apply bD_ | refine bS_ ?_ GE255 | refine bS_ ?_ GE257) | exact HB.out))) : w.heap.size ≤ gb256))
      replace HB := Aside0.mk (below_step (by repeat (first | (with_reducible first | exact HB.out | apply bA_ | apply bN_ | apply bD_ | refine bS_ ?_ GE255 | refine bS_ ?_ GE257) | exact HB.out)) hb)
      have GE256 := GW256
      have NB255_256 := Aside0.mk ((by rw [hg]; exact Nat.ne_of_lt (blk_lt (kbW BK255)) : gb255 ≠ gb256))
      have NB256_255 := Aside0.mk ((by rw [hg]; exact Nat.ne_of_gt (blk_lt (kbW BK255)) : gb256 ≠ gb255))
      replace BK255 := kB BK255 hb
      have NB257_256 := Aside0.mk ((by rw [hg]; exact Nat.ne_of_lt (blk_lt (kbW BK257)) : gb257 ≠ gb256))
      have NB256_257 := Aside0.mk ((by rw [hg]; exact Nat.ne_of_gt (blk_lt (kbW BK257)) : gb256 ≠ gb257))
      replace BK257 := kB BK257 hb
      clear hb hbox hg
      refine hK.out _ _ (cd10 BK255) (fun hHeld => ?_)
      clear hK K
      refine norm_ (a' := ?_) ?_ ?_
      rotate_left
      ·
       show Act.put _ (some 6) _ = _
       simp only [Act.put, sT_, sO_, sN_, i64_w, i32_w]
       rfl
      exact norm_ (by simp only [putAll, Act.put, sT_, sO_, sN_]) (hCont (gb256, gb257) _ ⟨hHeld, (krW HO_3), (kbW BK255), (kbW BK256), (kbW BK257), GW256.out, GE256.out, NB255_256.out, NB256_255.out, NB257_256.out, NB256_257.out, GW257.out, GE257.out, NB255_257.out, NB257_255.out, (by repeat (first | (with_reducible first | exact HB.out | apply bA_ | apply bN_ | apply bD_ | refine bS_ ?_ GE255 | refine bS_ ?_ GE257 | refine bS_ ?_ GE256) | exact HB.out))⟩)
    rintro ⟨gb256, gb257⟩ w25 ⟨hS_, h0_, h1_, h2_, h3_, h4_, h5_, h6_, h7_, h8_, h9_, h10_, h11_, h12_, h13_, h14_⟩
    have n0_ : Aside0 (Kd.R (Kd.int .u8) 5 w25 w.heap.size (fun _ => True) u3 x3_1) := ⟨h0_⟩
    have n1_ : Aside0 (w25.heap[gb255]? = some (.cells #[.string ((rd_T38 l0 x14_1).f0.f0), .string ((rd_T38 l0 x14_1).f0.f1), .int .i64 ((rd_T38 l0 x14_1).f0.f2), .string ((rd_T38 l0 x14_1).f0.f3), .int .i64 ((rd_T38 l0 x14_1).f1.f0), .bool true, .int .i64 ((rd_T38 l0 x14_1).f1.f2), .int .i64 ((rd_T38 l0 x14_1).f1.f3.f0), .int .i64 ((rd_T38 l0 x14_1).f1.f3.f1), .string ((rd_T38 l0 x14_1).f1.f3.f2)] 38 (0, 0))) := ⟨h1_⟩
    have n2_ : Aside0 (w25.heap[gb256]? = some (.cells #[.string (⟨#[]⟩ : ByteArray), .string (⟨#[]⟩ : ByteArray), .int .i64 0, .string (⟨#[]⟩ : ByteArray)] 32 (0, 0))) := ⟨h2_⟩
    have n3_ : Aside0 (w25.heap[gb257]? = some (.cells #[.int .i64 0, .bool false, .int .i64 0, .int .i64 0, .int .i64 0, .string (⟨#[]⟩ : ByteArray)] 36 (0, 0))) := ⟨h3_⟩
    have n4_ : Aside0 (w.heap.size ≤ gb256) := ⟨h4_⟩
    have n5_ : Aside0 (w.heap.size ≤ gb256) := ⟨h5_⟩
    have n6_ : Aside0 (gb255 ≠ gb256) := ⟨h6_⟩
    have n7_ : Aside0 (gb256 ≠ gb255) := ⟨h7_⟩
    have n8_ : Aside0 (gb257 ≠ gb256) := ⟨h8_⟩
    have n9_ : Aside0 (gb256 ≠ gb257) := ⟨h9_⟩
    have n10_ : Aside0 (w.heap.size ≤ gb257) := ⟨h10_⟩
    have n11_ : Aside0 (w.heap.size ≤ gb257) := ⟨h11_⟩
    have n12_ : Aside0 (gb255 ≠ gb257) := ⟨h12_⟩
    have n13_ : Aside0 (gb257 ≠ gb255) := ⟨h13_⟩
    have n14_ : Aside0 (Below w.heap.size w w25) := ⟨h14_⟩
    clear HO_3
    clear BK255
    clear HB
    clear h0_ h1_ h2_ h3_ h4_ h5_ h6_ h7_ h8_ h9_ h10_ h11_ h12_ h13_ h14_
    have HO_3 := n0_
    have BK255 := n1_
    have BK256 := n2_
    have BK257 := n3_
    have GW256 := n4_
    have GE256 := n5_
    have NB255_256 := n6_
    have NB256_255 := n7_
    have NB257_256 := n8_
    have NB256_257 := n9_
    have GW257 := n10_
    have GE257 := n11_
    have NB255_257 := n12_
    have NB257_255 := n13_
    have HB := n14_
    clear n0_ n1_ n2_ n3_ n4_ n5_ n6_ n7_ n8_ n9_ n10_ n11_ n12_ n13_ n14_
    have hHeld : w25.cell? ⟨gb255, 0, none⟩ = some (.string ((rd_T38 l0 x14_1).f0.f0)) ∧ w25.cell? ⟨gb255, 1, none⟩ = some (.string ((rd_T38 l0 x14_1).f0.f1)) ∧ w25.cell? ⟨gb255, 2, none⟩ = some (.int .i64 ((rd_T38 l0 x14_1).f0.f2)) ∧ w25.cell? ⟨gb255, 3, none⟩ = some (.string ((rd_T38 l0 x14_1).f0.f3)) ∧ w25.cell? ⟨gb255, 4, none⟩ = some (.int .i64 ((rd_T38 l0 x14_1).f1.f0)) ∧ w25.cell? ⟨gb255, 5, none⟩ = some (.bool true) ∧ w25.cell? ⟨gb255, 6, none⟩ = some (.int .i64 ((rd_T38 l0 x14_1).f1.f2)) ∧ w25.cell? ⟨gb255, 7, none⟩ = some (.int .i64 ((rd_T38 l0 x14_1).f1.f3.f0)) ∧ w25.cell? ⟨gb255, 8, none⟩ = some (.int .i64 ((rd_T38 l0 x14_1).f1.f3.f1)) ∧ w25.cell? ⟨gb255, 9, none⟩ = some (.string ((rd_T38 l0 x14_1).f1.f3.f2)) := hS_
    refine norm_ (a' := ?_) ?_ ?_
    rotate_left
    ·
     simp only [putAll, Act.put, sT_, sO_, sN_]
     rfl
    refine one_ (i := 6) (N := none) (tf_ 7 1) rfl rfl (one_of HT_.out (by kernel_rfl)) (by decide) (fun K hK => ?_)
    have hs26 : w25.cell? ⟨gb256, 0, none⟩ = some (.string (⟨#[]⟩ : ByteArray)) := (blk_cell BK256.out 0).trans rfl
    have hfs26 := blk_frozen BK256.out 0
    have hns26_0 := NB255_256.out
    have hns26_2 := NB257_256.out
    have hms26_0 := NB256_255.out
    have hms26_2 := NB256_257.out
    have hs27 : w25.cell? ⟨gb256, 1, none⟩ = some (.string (⟨#[]⟩ : ByteArray)) := (blk_cell BK256.out 1).trans rfl
    have hfs27 := blk_frozen BK256.out 1
    have hns27_0 := NB255_256.out
    have hns27_2 := NB257_256.out
    have hms27_0 := NB256_255.out
    have hms27_2 := NB256_257.out
    have hs28 : w25.cell? ⟨gb256, 2, none⟩ = some (.int .i64 0) := (blk_cell BK256.out 2).trans rfl
    have hfs28 := blk_frozen BK256.out 2
    have hns28_0 := NB255_256.out
    have hns28_2 := NB257_256.out
    have hms28_0 := NB256_255.out
    have hms28_2 := NB256_257.out
    have hs29 : w25.cell? ⟨gb256, 3, none⟩ = some (.string (⟨#[]⟩ : ByteArray)) := (blk_cell BK256.out 3).trans rfl
    have hfs29 := blk_frozen BK256.out 3
    have hns29_0 := NB255_256.out
    have hns29_2 := NB257_256.out
    have hms29_0 := NB256_255.out
    have hms29_2 := NB256_257.out
    refine skip_ (w1 := ?_) (by rfl) rfl ?_ ?_
    rotate_left
    ·
     go_simp
     rfl
    refine hK.out _ _ ⟨(cf_ NB255_256 ((cf_ NB255_256 ((cf_ NB255_256 ((cf_ NB255_256 (hHeld.1)))))))), (cf_ NB255_256 ((cf_ NB255_256 ((cf_ NB255_256 ((cf_ NB255_256 (hHeld.2.1)))))))), (cf_ NB255_256 ((cf_ NB255_256 ((cf_ NB255_256 ((cf_ NB255_256 (hHeld.2.2.1)))))))), (cf_ NB255_256 ((cf_ NB255_256 ((cf_ NB255_256 ((cf_ NB255_256 (hHeld.2.2.2.1)))))))), (cf_ NB255_256 ((cf_ NB255_256 ((cf_ NB255_256 ((cf_ NB255_256 (hHeld.2.2.2.2.1)))))))), (cf_ NB255_256 ((cf_ NB255_256 ((cf_ NB255_256 ((cf_ NB255_256 (hHeld.2.2.2.2.2.1)))))))), (cf_ NB255_256 ((cf_ NB255_256 ((cf_ NB255_256 ((cf_ NB255_256 (hHeld.2.2.2.2.2.2.1)))))))), (cf_ NB255_256 ((cf_ NB255_256 ((cf_ NB255_256 ((cf_ NB255_256 (hHeld.2.2.2.2.2.2.2.1)))))))), (cf_ NB255_256 ((cf_ NB255_256 ((cf_ NB255_256 ((cf_ NB255_256 (hHeld.2.2.2.2.2.2.2.2.1)))))))), (cf_ NB255_256 ((cf_ NB255_256 ((cf_ NB255_256 ((cf_ NB255_256 (hHeld.2.2.2.2.2.2.2.2.2))))))))⟩ (fun hHeld => ?_)
    clear hK K
    refine one_ (i := 7) (N := none) (tf_ 8 0) rfl rfl (one_of HT_.out (by kernel_rfl)) (by decide) (fun K hK => ?_)
    have hs30 : w25.cell? ⟨gb257, 0, none⟩ = some (.int .i64 0) := (blk_cell BK257.out 0).trans rfl
    have hfs30 := blk_frozen BK257.out 0
    have hns30_0 := NB255_257.out
    have hns30_1 := NB256_257.out
    have hms30_0 := NB257_255.out
    have hms30_1 := NB257_256.out
    have hs31 : w25.cell? ⟨gb257, 1, none⟩ = some (.bool false) := (blk_cell BK257.out 1).trans rfl
    have hfs31 := blk_frozen BK257.out 1
    have hns31_0 := NB255_257.out
    have hns31_1 := NB256_257.out
    have hms31_0 := NB257_255.out
    have hms31_1 := NB257_256.out
    have hs32 : w25.cell? ⟨gb257, 2, none⟩ = some (.int .i64 0) := (blk_cell BK257.out 2).trans rfl
    have hfs32 := blk_frozen BK257.out 2
    have hns32_0 := NB255_257.out
    have hns32_1 := NB256_257.out
    have hms32_0 := NB257_255.out
    have hms32_1 := NB257_256.out
    have hs33 : w25.cell? ⟨gb257, 3, none⟩ = some (.int .i64 0) := (blk_cell BK257.out 3).trans rfl
    have hfs33 := blk_frozen BK257.out 3
    have hns33_0 := NB255_257.out
    have hns33_1 := NB256_257.out
    have hms33_0 := NB257_255.out
    have hms33_1 := NB257_256.out
    have hs34 : w25.cell? ⟨gb257, 4, none⟩ = some (.int .i64 0) := (blk_cell BK257.out 4).trans rfl
    have hfs34 := blk_frozen BK257.out 4
    have hns34_0 := NB255_257.out
    have hns34_1 := NB256_257.out
    have hms34_0 := NB257_255.out
    have hms34_1 := NB257_256.out
    have hs35 : w25.cell? ⟨gb257, 5, none⟩ = some (.string (⟨#[]⟩ : ByteArray)) := (blk_cell BK257.out 5).trans rfl
    have hfs35 := blk_frozen BK257.out 5
    have hns35_0 := NB255_257.out
    have hns35_1 := NB256_257.out
    have hms35_0 := NB257_255.out
    have hms35_1 := NB257_256.out
    refine skip_ (w1 := ?_) (by rfl) rfl ?_ ?_
    rotate_left
    ·
     go_simp
     rfl
    refine hK.out _ _ ⟨(cf_ NB255_257 ((cf_ NB255_257 ((cf_ NB255_257 ((cf_ NB255_257 ((cf_ NB255_257 ((cf_ NB255_257 (hHeld.1)))))))))))), (cf_ NB255_257 ((cf_ NB255_257 ((cf_ NB255_257 ((cf_ NB255_257 ((cf_ NB255_257 ((cf_ NB255_257 (hHeld.2.1)))))))))))), (cf_ NB255_257 ((cf_ NB255_257 ((cf_ NB255_257 ((cf_ NB255_257 ((cf_ NB255_257 ((cf_ NB255_257 (hHeld.2.2.1)))))))))))), (cf_ NB255_257 ((cf_ NB255_257 ((cf_ NB255_257 ((cf_ NB255_257 ((cf_ NB255_257 ((cf_ NB255_257 (hHeld.2.2.2.1)))))))))))), (cf_ NB255_257 ((cf_ NB255_257 ((cf_ NB255_257 ((cf_ NB255_257 ((cf_ NB255_257 ((cf_ NB255_257 (hHeld.2.2.2.2.1)))))))))))), (cf_ NB255_257 ((cf_ NB255_257 ((cf_ NB255_257 ((cf_ NB255_257 ((cf_ NB255_257 ((cf_ NB255_257 (hHeld.2.2.2.2.2.1)))))))))))), (cf_ NB255_257 ((cf_ NB255_257 ((cf_ NB255_257 ((cf_ NB255_257 ((cf_ NB255_257 ((cf_ NB255_257 (hHeld.2.2.2.2.2.2.1)))))))))))), (cf_ NB255_257 ((cf_ NB255_257 ((cf_ NB255_257 ((cf_ NB255_257 ((cf_ NB255_257 ((cf_ NB255_257 (hHeld.2.2.2.2.2.2.2.1)))))))))))), (cf_ NB255_257 ((cf_ NB255_257 ((cf_ NB255_257 ((cf_ NB255_257 ((cf_ NB255_257 ((cf_ NB255_257 (hHeld.2.2.2.2.2.2.2.2.1)))))))))))), (cf_ NB255_257 ((cf_ NB255_257 ((cf_ NB255_257 ((cf_ NB255_257 ((cf_ NB255_257 ((cf_ NB255_257 (hHeld.2.2.2.2.2.2.2.2.2))))))))))))⟩ (fun hHeld => ?_)
    clear hK K
    refine done_ (done_of HT_.out (by kernel_rfl)) ?_
    try go_wp2
    have n0_ : Aside0 (Kd.R (Kd.int .u8) 5 ((((((((((w25.setCell ⟨gb256, 0, none⟩ (.string ((rd_T38 l0 x14_1).f0.f0))).setCell ⟨gb256, 1, none⟩ (.string ((rd_T38 l0 x14_1).f0.f1))).setCell ⟨gb256, 2, none⟩ (.int .i64 ((rd_T38 l0 x14_1).f0.f2))).setCell ⟨gb256, 3, none⟩ (.string ((rd_T38 l0 x14_1).f0.f3))).setCell ⟨gb257, 0, none⟩ (.int .i64 ((rd_T38 l0 x14_1).f1.f0))).setCell ⟨gb257, 1, none⟩ (.bool true)).setCell ⟨gb257, 2, none⟩ (.int .i64 ((rd_T38 l0 x14_1).f1.f2))).setCell ⟨gb257, 3, none⟩ (.int .i64 ((rd_T38 l0 x14_1).f1.f3.f0))).setCell ⟨gb257, 4, none⟩ (.int .i64 ((rd_T38 l0 x14_1).f1.f3.f1))).setCell ⟨gb257, 5, none⟩ (.string ((rd_T38 l0 x14_1).f1.f3.f2))) w.heap.size (fun _ => True) u3 x3_1) := ⟨by (with_reducible repeat (first | apply Kd.R_alloc | apply Kd.R_drewN | apply Kd.R_drew)); exact Kd.R_mono (rf6 (Kd.R_far (p := ⟨gb256, 3, none⟩) (Kd.R_far (p := ⟨gb256, 2, none⟩) (Kd.R_far (p := ⟨gb256, 1, none⟩) (Kd.R_far (p := ⟨gb256, 0, none⟩) (Kd.R_types (Kd.R_types HO_3.out BK256.out (by decide)) BK257.out (by decide)) (fun _ hk => hk.1.2) (.string ((rd_T38 l0 x14_1).f0.f0))) (fun _ hk => hk.1.2) (.string ((rd_T38 l0 x14_1).f0.f1))) (fun _ hk => hk.1.2) (.int .i64 ((rd_T38 l0 x14_1).f0.f2))) (fun _ hk => hk.1.2) (.string ((rd_T38 l0 x14_1).f0.f3))) (fun _ hk => hk.2)) (fun _ hk => trivial)⟩
    have n1_ : Aside0 (((((((((((w25.setCell ⟨gb256, 0, none⟩ (.string ((rd_T38 l0 x14_1).f0.f0))).setCell ⟨gb256, 1, none⟩ (.string ((rd_T38 l0 x14_1).f0.f1))).setCell ⟨gb256, 2, none⟩ (.int .i64 ((rd_T38 l0 x14_1).f0.f2))).setCell ⟨gb256, 3, none⟩ (.string ((rd_T38 l0 x14_1).f0.f3))).setCell ⟨gb257, 0, none⟩ (.int .i64 ((rd_T38 l0 x14_1).f1.f0))).setCell ⟨gb257, 1, none⟩ (.bool true)).setCell ⟨gb257, 2, none⟩ (.int .i64 ((rd_T38 l0 x14_1).f1.f2))).setCell ⟨gb257, 3, none⟩ (.int .i64 ((rd_T38 l0 x14_1).f1.f3.f0))).setCell ⟨gb257, 4, none⟩ (.int .i64 ((rd_T38 l0 x14_1).f1.f3.f1))).setCell ⟨gb257, 5, none⟩ (.string ((rd_T38 l0 x14_1).f1.f3.f2))).heap[gb255]? = some (.cells #[.string ((rd_T38 l0 x14_1).f0.f0), .string ((rd_T38 l0 x14_1).f0.f1), .int .i64 ((rd_T38 l0 x14_1).f0.f2), .string ((rd_T38 l0 x14_1).f0.f3), .int .i64 ((rd_T38 l0 x14_1).f1.f0), .bool true, .int .i64 ((rd_T38 l0 x14_1).f1.f2), .int .i64 ((rd_T38 l0 x14_1).f1.f3.f0), .int .i64 ((rd_T38 l0 x14_1).f1.f3.f1), .string ((rd_T38 l0 x14_1).f1.f3.f2)] 38 (0, 0))) := ⟨by (with_reducible repeat (first | refine blk_drewN ?_ _ | refine blk_drew ?_ | refine blk_alloc ?_ _)); refine bf6 ?_ NB255_257.out; (with_reducible repeat (first | refine blk_drewN ?_ _ | refine blk_drew ?_ | refine blk_alloc ?_ _)); refine bf4 ?_ NB255_256.out; (with_reducible repeat (first | refine blk_drewN ?_ _ | refine blk_drew ?_ | refine blk_alloc ?_ _)); exact BK255.out⟩
    have n2_ : Aside0 (((((((((((w25.setCell ⟨gb256, 0, none⟩ (.string ((rd_T38 l0 x14_1).f0.f0))).setCell ⟨gb256, 1, none⟩ (.string ((rd_T38 l0 x14_1).f0.f1))).setCell ⟨gb256, 2, none⟩ (.int .i64 ((rd_T38 l0 x14_1).f0.f2))).setCell ⟨gb256, 3, none⟩ (.string ((rd_T38 l0 x14_1).f0.f3))).setCell ⟨gb257, 0, none⟩ (.int .i64 ((rd_T38 l0 x14_1).f1.f0))).setCell ⟨gb257, 1, none⟩ (.bool true)).setCell ⟨gb257, 2, none⟩ (.int .i64 ((rd_T38 l0 x14_1).f1.f2))).setCell ⟨gb257, 3, none⟩ (.int .i64 ((rd_T38 l0 x14_1).f1.f3.f0))).setCell ⟨gb257, 4, none⟩ (.int .i64 ((rd_T38 l0 x14_1).f1.f3.f1))).setCell ⟨gb257, 5, none⟩ (.string ((rd_T38 l0 x14_1).f1.f3.f2))).heap[gb256]? = some (.cells #[.string ((rd_T38 l0 x14_1).f0.f0), .string ((rd_T38 l0 x14_1).f0.f1), .int .i64 ((rd_T38 l0 x14_1).f0.f2), .string ((rd_T38 l0 x14_1).f0.f3)] 32 (0, 0))) := ⟨by (with_reducible repeat (first | refine blk_drewN ?_ _ | refine blk_drew ?_ | refine blk_alloc ?_ _)); refine bf6 ?_ NB256_257.out; (with_reducible repeat (first | refine blk_drewN ?_ _ | refine blk_drew ?_ | refine blk_alloc ?_ _)); exact bp4 (kbW BK256)⟩
    have n3_ : Aside0 (((((((((((w25.setCell ⟨gb256, 0, none⟩ (.string ((rd_T38 l0 x14_1).f0.f0))).setCell ⟨gb256, 1, none⟩ (.string ((rd_T38 l0 x14_1).f0.f1))).setCell ⟨gb256, 2, none⟩ (.int .i64 ((rd_T38 l0 x14_1).f0.f2))).setCell ⟨gb256, 3, none⟩ (.string ((rd_T38 l0 x14_1).f0.f3))).setCell ⟨gb257, 0, none⟩ (.int .i64 ((rd_T38 l0 x14_1).f1.f0))).setCell ⟨gb257, 1, none⟩ (.bool true)).setCell ⟨gb257, 2, none⟩ (.int .i64 ((rd_T38 l0 x14_1).f1.f2))).setCell ⟨gb257, 3, none⟩ (.int .i64 ((rd_T38 l0 x14_1).f1.f3.f0))).setCell ⟨gb257, 4, none⟩ (.int .i64 ((rd_T38 l0 x14_1).f1.f3.f1))).setCell ⟨gb257, 5, none⟩ (.string ((rd_T38 l0 x14_1).f1.f3.f2))).heap[gb257]? = some (.cells #[.int .i64 ((rd_T38 l0 x14_1).f1.f0), .bool true, .int .i64 ((rd_T38 l0 x14_1).f1.f2), .int .i64 ((rd_T38 l0 x14_1).f1.f3.f0), .int .i64 ((rd_T38 l0 x14_1).f1.f3.f1), .string ((rd_T38 l0 x14_1).f1.f3.f2)] 36 (0, 0))) := ⟨by (with_reducible repeat (first | refine blk_drewN ?_ _ | refine blk_drew ?_ | refine blk_alloc ?_ _)); apply bp6; (with_reducible repeat (first | refine blk_drewN ?_ _ | refine blk_drew ?_ | refine blk_alloc ?_ _)); refine bf4 ?_ NB257_256.out; (with_reducible repeat (first | refine blk_drewN ?_ _ | refine blk_drew ?_ | refine blk_alloc ?_ _)); exact BK257.out⟩
    have n4_ : Aside0 (Below w.heap.size w ((((((((((w25.setCell ⟨gb256, 0, none⟩ (.string ((rd_T38 l0 x14_1).f0.f0))).setCell ⟨gb256, 1, none⟩ (.string ((rd_T38 l0 x14_1).f0.f1))).setCell ⟨gb256, 2, none⟩ (.int .i64 ((rd_T38 l0 x14_1).f0.f2))).setCell ⟨gb256, 3, none⟩ (.string ((rd_T38 l0 x14_1).f0.f3))).setCell ⟨gb257, 0, none⟩ (.int .i64 ((rd_T38 l0 x14_1).f1.f0))).setCell ⟨gb257, 1, none⟩ (.bool true)).setCell ⟨gb257, 2, none⟩ (.int .i64 ((rd_T38 l0 x14_1).f1.f2))).setCell ⟨gb257, 3, none⟩ (.int .i64 ((rd_T38 l0 x14_1).f1.f3.f0))).setCell ⟨gb257, 4, none⟩ (.int .i64 ((rd_T38 l0 x14_1).f1.f3.f1))).setCell ⟨gb257, 5, none⟩ (.string ((rd_T38 l0 x14_1).f1.f3.f2)))) := ⟨by repeat (first | (with_reducible first | exact HB.out | apply bA_ | apply bN_ | apply bD_ | refine bS_ ?_ GE255 | refine bS_ ?_ GE256 | refine bS_ ?_ GE257) | exact HB.out)⟩
    (try clear HO_3)
    (try clear BK255)
    (try clear BK256)
    (try clear BK257)
    (try clear HB)
    generalize ((((((((((w25.setCell ⟨gb256, 0, none⟩ (.string ((rd_T38 l0 x14_1).f0.f0))).setCell ⟨gb256, 1, none⟩ (.string ((rd_T38 l0 x14_1).f0.f1))).setCell ⟨gb256, 2, none⟩ (.int .i64 ((rd_T38 l0 x14_1).f0.f2))).setCell ⟨gb256, 3, none⟩ (.string ((rd_T38 l0 x14_1).f0.f3))).setCell ⟨gb257, 0, none⟩ (.int .i64 ((rd_T38 l0 x14_1).f1.f0))).setCell ⟨gb257, 1, none⟩ (.bool true)).setCell ⟨gb257, 2, none⟩ (.int .i64 ((rd_T38 l0 x14_1).f1.f2))).setCell ⟨gb257, 3, none⟩ (.int .i64 ((rd_T38 l0 x14_1).f1.f3.f0))).setCell ⟨gb257, 4, none⟩ (.int .i64 ((rd_T38 l0 x14_1).f1.f3.f1))).setCell ⟨gb257, 5, none⟩ (.string ((rd_T38 l0 x14_1).f1.f3.f2))) = w36 at n0_ n1_ n2_ n3_ n4_ ⊢
    have HO_3 := n0_
    have BK255 := n1_
    have BK256 := n2_
    have BK257 := n3_
    have HB := n4_
    clear n0_ n1_ n2_ n3_ n4_
    replace HO_3 := Aside0.mk (Kd.R_drew HO_3.out)
    replace BK255 := Aside0.mk (blk_drew BK255.out)
    replace BK256 := Aside0.mk (blk_drew BK256.out)
    replace BK257 := Aside0.mk (blk_drew BK257.out)
    replace HB := Aside0.mk (below_drew1 HB.out)
    obtain ⟨Ao38, co38, eo38⟩ := Kd.R_slice HO_3.out
    (first | subst eo38 | (injection eo38 with f1_ f2_ f3_; have f4_ := f1_.symm; have f5_ := f3_.symm; clear f1_ f2_ f3_; subst f4_; subst f5_))
    refine start_ (n := 15) (S := fun w' => w'.cell? ⟨gb256, 0, none⟩ = some (.string ((rd_T38 l0 x14_1).f0.f0)) ∧ w'.cell? ⟨gb256, 1, none⟩ = some (.string ((rd_T38 l0 x14_1).f0.f1)) ∧ w'.cell? ⟨gb256, 2, none⟩ = some (.int .i64 ((rd_T38 l0 x14_1).f0.f2)) ∧ w'.cell? ⟨gb256, 3, none⟩ = some (.string ((rd_T38 l0 x14_1).f0.f3))) (ds := []) (tf_ 0 15) (by kernel_rfl) rfl rfl (cd4 BK256) (fun hHeld => ?_); refine with_tabW codec_Cells.tab6 codec_Cells.bits6 (fun HT_ HW_ => ?_)
    generalize w36.drew = w37 at HO_3 BK255 BK256 BK257 HB hHeld ⊢
    refine pure_ (i := 0) (N := some 22) (v := ?_) (a' := ?_) (tf_ 1 14) rfl rfl (any_of HT_.out (by kernel_rfl)) (fun _ _ _ h => h) (Or.inl ⟨by rfl, ?_⟩) ?_ ?_
    rotate_left; · (intro w'; go_simp; with_reducible rfl)
    rotate_left; · (simp only [Act.put, sT_, sO_, sN_, i64_w, i32_w]; rfl)
    refine pure_ (i := 1) (N := some 23) (v := ?_) (a' := ?_) (tf_ 2 13) rfl rfl (any_of HT_.out (by kernel_rfl)) (fun _ _ _ h => h) (Or.inl ⟨by rfl, ?_⟩) ?_ ?_
    rotate_left; · (intro w'; go_simp; with_reducible rfl)
    rotate_left; · (simp only [Act.put, sT_, sO_, sN_, i64_w, i32_w]; rfl)
    refine pure_ (i := 4) (N := some 26) (v := ?_) (a' := ?_) (tb_ 19 15) rfl rfl (any_of HT_.out (by kernel_rfl)) (fun _ _ _ h => h) (Or.inl ⟨by rfl, ?_⟩) ?_ ?_
    rotate_left; · (intro w'; go_simp; with_reducible rfl)
    rotate_left; · (simp only [Act.put, sT_, sO_, sN_, i64_w, i32_w]; rfl)
    refine pure_ (i := 7) (N := some 29) (v := ?_) (a' := ?_) (tb_ 147 15) rfl rfl (any_of HT_.out (by kernel_rfl)) (fun _ _ _ h => h) (Or.inl ⟨by rfl, ?_⟩) ?_ ?_
    rotate_left; · (intro w'; go_simp; with_reducible rfl)
    rotate_left; · (simp only [Act.put, sT_, sO_, sN_, i64_w, i32_w]; rfl)
    refine pure_ (i := 11) (N := some 33) (v := ?_) (a' := ?_) (tb_ 2195 15) rfl rfl (any_of HT_.out (by kernel_rfl)) (fun _ _ _ h => h) (Or.inl ⟨by rfl, ?_⟩) ?_ ?_
    rotate_left; · (intro w'; go_simp; with_reducible rfl)
    rotate_left; · (simp only [Act.put, sT_, sO_, sN_, i64_w, i32_w]; rfl)
    refine take_ (i := 2) (N := some 24) (v := ?_) (a' := ?_) (tb_ 2199 15) rfl rfl (take_ofW HT_.out HW_.out (by kernel_rfl)) (fun _ _ _ h => h) (Or.inl ⟨by rfl, ?_⟩) hHeld ?_ ?_
    rotate_left; · (rintro w' ⟨s0, s1, s2, s3⟩; go_simp; with_reducible rfl)
    rotate_left; · (simp only [Act.put, sT_, sO_, sN_, i64_w, i32_w]; rfl)
    refine take_ (i := 5) (N := some 27) (v := ?_) (a' := ?_) (tb_ 2231 15) rfl rfl (take_ofW HT_.out HW_.out (by kernel_rfl)) (fun _ _ _ h => h) (Or.inl ⟨by rfl, ?_⟩) hHeld ?_ ?_
    rotate_left; · (rintro w' ⟨s0, s1, s2, s3⟩; go_simp; with_reducible rfl)
    rotate_left; · (simp only [Act.put, sT_, sO_, sN_, i64_w, i32_w]; rfl)
    refine take_ (i := 8) (N := some 30) (v := ?_) (a' := ?_) (tb_ 2487 15) rfl rfl (take_ofW HT_.out HW_.out (by kernel_rfl)) (fun _ _ _ h => h) (Or.inl ⟨by rfl, ?_⟩) hHeld ?_ ?_
    rotate_left; · (rintro w' ⟨s0, s1, s2, s3⟩; go_simp; with_reducible rfl)
    rotate_left; · (simp only [Act.put, sT_, sO_, sN_, i64_w, i32_w]; rfl)
    refine take_ (i := 12) (N := some 34) (v := ?_) (a' := ?_) (tb_ 6583 15) rfl rfl (take_ofW HT_.out HW_.out (by kernel_rfl)) (fun _ _ _ h => h) (Or.inl ⟨by rfl, ?_⟩) hHeld ?_ ?_
    rotate_left; · (rintro w' ⟨s0, s1, s2, s3⟩; go_simp; with_reducible rfl)
    rotate_left; · (simp only [Act.put, sT_, sO_, sN_, i64_w, i32_w]; rfl)
    refine one_ (i := 3) (N := some 25) (tb_ 6591 15) rfl rfl (one_of HT_.out (by kernel_rfl)) (by decide) (fun K hK => ?_)
    refine goes_ Try.func73 (by kernel_rfl) rfl #[.slice Ao38 x3_1.length co38, .string ((rd_T38 l0 x14_1).f0.f0)] (by rfl) rfl rfl (by (try simp only [mT_, mC_, mN_]); first | done | rfl) ?_
    with_reducible refine (codec_text.calls k1 (fun k_ => some k_ = (.slice Ao38 x3_1.length co38 : Value).ownBlock) (.slice Ao38 x3_1.length co38) x3_1 ((rd_T38 l0 x14_1).f0.f0) t258 w _ ?side1 ?side2 A7.out).mono ?_
    (case side1 => repeat (first | (with_reducible first | exact HB.out | apply bA_ | apply bN_ | apply bD_ | refine bS_ ?_ GE255 | refine bS_ ?_ GE256 | refine bS_ ?_ GE257) | exact HB.out))
    (case side2 => exact Kd.R_tight rfl HO_3.out)
    rintro e w39 ⟨v259, rfl, ho0, hb, hkp⟩
    refine ⟨_, rfl, ?_⟩
    replace BK255 := kK BK255 hkp (Kd.R_ne HO_3.out BK255.out (by decide))
    replace BK256 := kK BK256 hkp (Kd.R_ne HO_3.out BK256.out (by decide))
    replace BK257 := kK BK257 hkp (Kd.R_ne HO_3.out BK257.out (by decide))
    have HO260 := Aside0.mk (Kd.R_mono (ok' := fun k_ => True) ho0 (fun k_ hk_ => trivial))
    replace HB := Aside0.mk (hb)
    clear HO_3
    (try clear hb)
    (try clear hkp)
    (try clear ho0)
    obtain ⟨Ao40, co40, eo40⟩ := Kd.R_slice HO260.out
    (first | subst eo40 | (injection eo40 with f1_ f2_ f3_; have f4_ := f1_.symm; have f5_ := f3_.symm; clear f1_ f2_ f3_; subst f4_; subst f5_))
    refine hK.out _ _ (cd4 BK256) (fun hHeld => ?_)
    clear hK K
    refine norm_ (a' := ?_) ?_ ?_
    rotate_left
    ·
     show Act.put _ (some 25) _ = _
     simp only [Act.put, sT_, sO_, sN_, i64_w, i32_w]
     rfl
    refine one_ (i := 6) (N := some 28) (tb_ 6655 15) rfl rfl (one_of HT_.out (by kernel_rfl)) (by decide) (fun K hK => ?_)
    refine goes_ Try.func73 (by kernel_rfl) rfl #[.slice Ao40 t258.length co40, .string ((rd_T38 l0 x14_1).f0.f1)] (by rfl) rfl rfl (by (try simp only [mT_, mC_, mN_]); first | done | rfl) ?_
    with_reducible refine (codec_text.calls k1 (fun k_ => some k_ = (.slice Ao40 t258.length co40 : Value).ownBlock) (.slice Ao40 t258.length co40) t258 ((rd_T38 l0 x14_1).f0.f1) t261 w _ ?side1 ?side2 A8.out).mono ?_
    (case side1 => repeat (first | (with_reducible first | exact HB.out | apply bA_ | apply bN_ | apply bD_ | refine bS_ ?_ GE255 | refine bS_ ?_ GE256 | refine bS_ ?_ GE257) | exact HB.out))
    (case side2 => exact Kd.R_tight rfl HO260.out)
    rintro e w41 ⟨v262, rfl, ho0, hb, hkp⟩
    refine ⟨_, rfl, ?_⟩
    replace BK255 := kK BK255 hkp (Kd.R_ne HO260.out BK255.out (by decide))
    replace BK256 := kK BK256 hkp (Kd.R_ne HO260.out BK256.out (by decide))
    replace BK257 := kK BK257 hkp (Kd.R_ne HO260.out BK257.out (by decide))
    have HO263 := Aside0.mk (Kd.R_mono (ok' := fun k_ => True) ho0 (fun k_ hk_ => trivial))
    replace HB := Aside0.mk (hb)
    clear HO260
    (try clear hb)
    (try clear hkp)
    (try clear ho0)
    refine hK.out _ _ (cd4 BK256) (fun hHeld => ?_)
    clear hK K
    refine norm_ (a' := ?_) ?_ ?_
    rotate_left
    ·
     show Act.put _ (some 28) _ = _
     simp only [Act.put, sT_, sO_, sN_, i64_w, i32_w]
     rfl
    refine one_ (i := 9) (N := some 31) (tb_ 7167 15) rfl rfl (one_of HT_.out (by kernel_rfl)) (by decide) (fun K hK => ?_)
    refine goes_ Try.func74 (by kernel_rfl) rfl #[.int .i64 ((rd_T38 l0 x14_1).f0.f2)] (by rfl) rfl rfl (by (try simp only [mT_, mC_, mN_]); first | done | rfl) ?_
    with_reducible refine (codec_Zig.calls ((rd_T38 l0 x14_1).f0.f2) t264 _ A9.out).mono ?_
    rintro e w' ⟨rfl, ⟨nd, rfl⟩⟩
    refine ⟨_, rfl, ?_⟩
    obtain ⟨Ao42, co42, eo42⟩ := Kd.R_slice HO263.out
    (first | subst eo42 | (injection eo42 with f1_ f2_ f3_; have f4_ := f1_.symm; have f5_ := f3_.symm; clear f1_ f2_ f3_; subst f4_; subst f5_))
    refine hK.out _ _ (cd4 BK256) (fun hHeld => ?_)
    clear hK K
    refine norm_ (a' := ?_) ?_ ?_
    rotate_left
    ·
     show Act.put _ (some 31) _ = _
     simp only [Act.put, sT_, sO_, sN_, i64_w, i32_w]
     rfl
    refine one_ (i := 10) (N := some 32) (tf_ 13 2) rfl rfl (one_of HT_.out (by kernel_rfl)) (by decide) (fun K hK => ?_)
    refine goes_ Try.func72 (by kernel_rfl) rfl #[.slice Ao42 t261.length co42, .int .u64 t264] (by rfl) rfl rfl (by (try simp only [mT_, mC_, mN_]); first | done | rfl) ?_
    with_reducible refine (codec_put.calls k1 (fun k_ => some k_ = (.slice Ao42 t261.length co42 : Value).ownBlock) (.slice Ao42 t261.length co42) t261 t264 t265 w _ ?side1 ?side2 A10.out).mono ?_
    (case side1 => repeat (first | (with_reducible first | exact HB.out | apply bA_ | apply bN_ | apply bD_ | refine bS_ ?_ GE255 | refine bS_ ?_ GE256 | refine bS_ ?_ GE257) | exact HB.out))
    (case side2 => exact Kd.R_tight rfl HO263.out)
    rintro e w43 ⟨v266, rfl, ho0, hb, hkp⟩
    refine ⟨_, rfl, ?_⟩
    replace BK255 := kK BK255 hkp (Kd.R_ne HO263.out BK255.out (by decide))
    replace BK256 := kK BK256 hkp (Kd.R_ne HO263.out BK256.out (by decide))
    replace BK257 := kK BK257 hkp (Kd.R_ne HO263.out BK257.out (by decide))
    have HO267 := Aside0.mk (Kd.R_mono (ok' := fun k_ => True) ho0 (fun k_ hk_ => trivial))
    replace HB := Aside0.mk (hb)
    clear HO263
    (try clear hb)
    (try clear hkp)
    (try clear ho0)
    obtain ⟨Ao44, co44, eo44⟩ := Kd.R_slice HO267.out
    (first | subst eo44 | (injection eo44 with f1_ f2_ f3_; have f4_ := f1_.symm; have f5_ := f3_.symm; clear f1_ f2_ f3_; subst f4_; subst f5_))
    refine hK.out _ _ (cd4 BK256) (fun hHeld => ?_)
    clear hK K
    refine norm_ (a' := ?_) ?_ ?_
    rotate_left
    ·
     show Act.put _ (some 32) _ = _
     simp only [Act.put, sT_, sO_, sN_, i64_w, i32_w]
     rfl
    refine one_ (i := 13) (N := some 35) (tf_ 14 1) rfl rfl (one_of HT_.out (by kernel_rfl)) (by decide) (fun K hK => ?_)
    refine goes_ Try.func73 (by kernel_rfl) rfl #[.slice Ao44 t265.length co44, .string ((rd_T38 l0 x14_1).f0.f3)] (by rfl) rfl rfl (by (try simp only [mT_, mC_, mN_]); first | done | rfl) ?_
    with_reducible refine (codec_text.calls k1 (fun k_ => some k_ = (.slice Ao44 t265.length co44 : Value).ownBlock) (.slice Ao44 t265.length co44) t265 ((rd_T38 l0 x14_1).f0.f3) t268 w _ ?side1 ?side2 A11.out).mono ?_
    (case side1 => repeat (first | (with_reducible first | exact HB.out | apply bA_ | apply bN_ | apply bD_ | refine bS_ ?_ GE255 | refine bS_ ?_ GE256 | refine bS_ ?_ GE257) | exact HB.out))
    (case side2 => exact Kd.R_tight rfl HO267.out)
    rintro e w45 ⟨v269, rfl, ho0, hb, hkp⟩
    refine ⟨_, rfl, ?_⟩
    replace BK255 := kK BK255 hkp (Kd.R_ne HO267.out BK255.out (by decide))
    replace BK256 := kK BK256 hkp (Kd.R_ne HO267.out BK256.out (by decide))
    replace BK257 := kK BK257 hkp (Kd.R_ne HO267.out BK257.out (by decide))
    have HO270 := Aside0.mk (Kd.R_mono (ok' := fun k_ => True) ho0 (fun k_ hk_ => trivial))
    replace HB := Aside0.mk (hb)
    clear HO267
    (try clear hb)
    (try clear hkp)
    (try clear ho0)
    refine hK.out _ _ (cd4 BK256) (fun hHeld => ?_)
    clear hK K
    refine norm_ (a' := ?_) ?_ ?_
    rotate_left
    ·
     show Act.put _ (some 35) _ = _
     simp only [Act.put, sT_, sO_, sN_, i64_w, i32_w]
     rfl
    refine pure_ (i := 14) (N := some 3) (v := ?_) (a' := ?_) (tf_ 15 0) rfl rfl (any_of HT_.out (by kernel_rfl)) (fun _ _ _ h => h) (Or.inl ⟨by rfl, ?_⟩) ?_ ?_
    rotate_left; · (intro w'; go_simp; with_reducible rfl)
    rotate_left; · (simp only [Act.put, sT_, sO_, sN_, i64_w, i32_w]; rfl)
    refine done_ (done_of HT_.out (by kernel_rfl)) ?_
    have hnb46 := NB257_255.out
    have hnc46 := NB255_257.out
    have hnb47 := NB257_256.out
    have hnc47 := NB256_257.out
    obtain ⟨_, _, _, _, _, _, _, _, _, _, _, _⟩ := czf6 BK257
    try go_wp2_with (first | ((with_reducible refine gate_callee (f := 74) rfl ?_); refine goesL_ (some 39) rfl rfl Try.func74 (by kernel_rfl) rfl #[.int .i64 ((rd_T38 l0 x14_1).f1.f0)] rfl (by (try simp only [mT_, mC_, mN_]); first | done | rfl) ?_; (with_reducible refine (codec_Zig.calls ((rd_T38 l0 x14_1).f1.f0) t271 _ A12.out).mono ?_); rintro e w' ⟨rfl, ⟨nd, rfl⟩⟩; refine ⟨_, rfl, ?_⟩; obtain ⟨Ao49, co49, eo49⟩ := Kd.R_slice HO270.out; subst eo49) | ((with_reducible refine gate_callee (f := 72) rfl ?_); refine goesL_ (some 40) rfl rfl Try.func72 (by kernel_rfl) rfl #[.slice Ao49 t268.length co49, .int .u64 t271] rfl (by (try simp only [mT_, mC_, mN_]); first | done | rfl) ?_; (with_reducible refine (codec_put.calls k1 (fun k_ => some k_ = (.slice Ao49 t268.length co49 : Value).ownBlock) (.slice Ao49 t268.length co49) t268 t271 t272 w _ ?side1 ?side2 A13.out).mono ?_); (case side1 => repeat (first | (with_reducible first | exact HB.out | apply bA_ | apply bN_ | apply bD_ | refine bS_ ?_ GE255 | refine bS_ ?_ GE256 | refine bS_ ?_ GE257) | exact HB.out)); (case side2 => exact Kd.R_tight rfl HO270.out); rintro e w50 ⟨v273, rfl, ho0, hb, hkp⟩; refine ⟨_, rfl, ?_⟩; replace BK255 := kK BK255 hkp (Kd.R_ne HO270.out BK255.out (by decide)); replace BK256 := kK BK256 hkp (Kd.R_ne HO270.out BK256.out (by decide)); replace BK257 := kK BK257 hkp (Kd.R_ne HO270.out BK257.out (by decide)); have HO274 := Aside0.mk (Kd.R_mono (ok' := fun k_ => True) ho0 (fun k_ hk_ => trivial)); replace HB := Aside0.mk (hb); clear HO270; (try clear hb); (try clear hkp); (try clear ho0); obtain ⟨_, _, _, _, _, _, _, _, _, _, _, _⟩ := czf6 BK257))
    replace HO274 := Aside0.mk (Kd.R_drew HO274.out)
    replace BK255 := Aside0.mk (blk_drew BK255.out)
    replace BK256 := Aside0.mk (blk_drew BK256.out)
    replace BK257 := Aside0.mk (blk_drew BK257.out)
    replace HB := Aside0.mk (below_drew1 HB.out)
    refine start_ (n := 8) (S := fun w' => w'.cell? ⟨gb257, 0, none⟩ = some (.int .i64 ((rd_T38 l0 x14_1).f1.f0)) ∧ w'.cell? ⟨gb257, 1, none⟩ = some (.bool true) ∧ w'.cell? ⟨gb257, 2, none⟩ = some (.int .i64 ((rd_T38 l0 x14_1).f1.f2)) ∧ w'.cell? ⟨gb257, 3, none⟩ = some (.int .i64 ((rd_T38 l0 x14_1).f1.f3.f0)) ∧ w'.cell? ⟨gb257, 4, none⟩ = some (.int .i64 ((rd_T38 l0 x14_1).f1.f3.f1)) ∧ w'.cell? ⟨gb257, 5, none⟩ = some (.string ((rd_T38 l0 x14_1).f1.f3.f2))) (ds := []) (tf_ 0 8) (by kernel_rfl) rfl rfl (cd6 BK257) (fun hHeld => ?_); refine with_tabW codec_Cells.tab9 codec_Cells.bits9 (fun HT_ HW_ => ?_)
    generalize w50.drew = w52 at HO274 BK255 BK256 BK257 HB hHeld ⊢
    refine pure_ (i := 0) (N := some 43) (v := ?_) (a' := ?_) (tf_ 1 7) rfl rfl (any_of HT_.out (by kernel_rfl)) (fun _ _ _ h => h) (Or.inl ⟨by rfl, ?_⟩) ?_ ?_
    rotate_left; · (intro w'; go_simp; with_reducible rfl)
    rotate_left; · (simp only [Act.put, sT_, sO_, sN_, i64_w, i32_w]; rfl)
    refine pure_ (i := 3) (N := some 46) (v := ?_) (a' := ?_) (tb_ 9 8) rfl rfl (any_of HT_.out (by kernel_rfl)) (fun _ _ _ h => h) (Or.inl ⟨by rfl, ?_⟩) ?_ ?_
    rotate_left; · (intro w'; go_simp; with_reducible rfl)
    rotate_left; · (simp only [Act.put, sT_, sO_, sN_, i64_w, i32_w]; rfl)
    refine take_ (i := 4) (N := some 47) (v := ?_) (a' := ?_) (tb_ 25 8) rfl rfl (take_ofW HT_.out HW_.out (by kernel_rfl)) (fun _ _ _ h => h) (Or.inl ⟨by rfl, ?_⟩) hHeld ?_ ?_
    rotate_left; · (rintro w' ⟨s0, s1, s2, s3, s4, s5⟩; go_simp; with_reducible rfl)
    rotate_left; · (simp only [Act.put, sT_, sO_, sN_, i64_w, i32_w]; rfl)
    refine one_ (i := 1) (N := some 44) (tb_ 27 8) rfl rfl (one_of HT_.out (by kernel_rfl)) (by decide) (fun K hK => ?_)
    refine value_ (w1 := ?_) (v := ?_) (by rfl) rfl ?_ ?_
    rotate_left 2
    ·
     go_simp
     constructor
     ·
      rfl
     ·
      rfl
    refine hK.out _ _ ⟨(blk_cell (blk_alloc BK257.out _) 0).trans rfl, (blk_cell (blk_alloc BK257.out _) 1).trans rfl, (blk_cell (blk_alloc BK257.out _) 2).trans rfl, (blk_cell (blk_alloc BK257.out _) 3).trans rfl, (blk_cell (blk_alloc BK257.out _) 4).trans rfl, (blk_cell (blk_alloc BK257.out _) 5).trans rfl⟩ (fun hHeld => ?_)
    clear hK K
    refine norm_ (a' := ?_) ?_ ?_
    rotate_left
    ·
     show Act.put _ (some 44) _ = _
     simp only [Act.put, sT_, sO_, sN_, i64_w, i32_w]
     rfl
    refine one_ (i := 2) (N := some 45) (tf_ 5 3) rfl rfl (one_of HT_.out (by kernel_rfl)) (by decide) (fun K hK => ?_)
    refine Kd.R_append_step (Kd.int .u8) (w0 := w) w.heap.size (by rfl) (.tmp 43) (.tmp 44) 55 5 (.int .u8 0) 1 rfl Try.underlying55 info5 rfl (by decide) (by omega) v273 t272 1 [.int .u8 1] (fun _ => True) (fun _ => False) rfl rfl ?aP (fun _ hk => hk.elim) ?aF ?aO ?aB ?aS ?aL ?_
    (case aP => exact rfl)
    (case aB => exact (by repeat (first | (with_reducible first | exact HB.out | apply bA_ | apply bN_ | apply bD_ | refine bS_ ?_ GE255 | refine bS_ ?_ GE256 | refine bS_ ?_ GE257) | exact HB.out)))
    (case aF => exact (fun _ _ => trivial))
    (case aO => exact (krW HO274))
    (case aS => exact (bZ_ (by repeat (first | (with_reducible first | exact HB.out | apply bA_ | apply bN_ | apply bD_ | refine bS_ ?_ GE255 | refine bS_ ?_ GE256 | refine bS_ ?_ GE257) | exact HB.out))))
    (case aL => have := LMc16.out; omega)
    intro v276 w53 ho hb hg hat
    rw [← Ny275.out] at ho
    replace BK255 := Aside0.mk (blk_grown (kbW BK255) hg (Kd.R_ne HO274.out BK255.out (by decide)))
    replace BK256 := Aside0.mk (blk_grown (kbW BK256) hg (Kd.R_ne HO274.out BK256.out (by decide)))
    replace BK257 := Aside0.mk (blk_grown (kbW BK257) hg (Kd.R_ne HO274.out BK257.out (by decide)))
    replace HB := Aside0.mk (hb)
    have HO277 := Aside0.mk (ho)
    clear HO274
    clear ho hb hg hat
    refine hK.out _ _ (cd6 BK257) (fun hHeld => ?_)
    clear hK K
    refine norm_ (a' := ?_) ?_ ?_
    rotate_left
    ·
     show Act.put _ (some 45) _ = _
     simp only [Act.put, sT_, sO_, sN_, i64_w, i32_w]
     rfl
    refine one_ (i := 5) (N := some 48) (tf_ 6 2) rfl rfl (one_of HT_.out (by kernel_rfl)) (by decide) (fun K hK => ?_)
    refine goes_ Try.func74 (by kernel_rfl) rfl #[.int .i64 ((rd_T38 l0 x14_1).f1.f2)] (by rfl) rfl rfl (by (try simp only [mT_, mC_, mN_]); first | done | rfl) ?_
    with_reducible refine (codec_Zig.calls ((rd_T38 l0 x14_1).f1.f2) t278 _ A17.out).mono ?_
    rintro e w' ⟨rfl, ⟨nd, rfl⟩⟩
    refine ⟨_, rfl, ?_⟩
    obtain ⟨Ao54, co54, eo54⟩ := Kd.R_slice HO277.out
    (first | subst eo54 | (injection eo54 with f1_ f2_ f3_; have f4_ := f1_.symm; have f5_ := f3_.symm; clear f1_ f2_ f3_; subst f4_; subst f5_))
    refine hK.out _ _ (cd6 BK257) (fun hHeld => ?_)
    clear hK K
    refine norm_ (a' := ?_) ?_ ?_
    rotate_left
    ·
     show Act.put _ (some 48) _ = _
     simp only [Act.put, sT_, sO_, sN_, i64_w, i32_w]
     rfl
    refine one_ (i := 6) (N := some 49) (tf_ 7 1) rfl rfl (one_of HT_.out (by kernel_rfl)) (by decide) (fun K hK => ?_)
    refine goes_ Try.func72 (by kernel_rfl) rfl #[.slice Ao54 y275.length co54, .int .u64 t278] (by rfl) rfl rfl (by (try simp only [mT_, mC_, mN_]); first | done | rfl) ?_
    with_reducible refine (codec_put.calls k1 (fun k_ => some k_ = (.slice Ao54 y275.length co54 : Value).ownBlock) (.slice Ao54 y275.length co54) y275 t278 t279 w _ ?side1 ?side2 A18.out).mono ?_
    (case side1 => repeat (first | (with_reducible first | exact HB.out | apply bA_ | apply bN_ | apply bD_ | refine bS_ ?_ GE255 | refine bS_ ?_ GE256 | refine bS_ ?_ GE257) | exact HB.out))
    (case side2 => exact Kd.R_tight rfl HO277.out)
    rintro e w55 ⟨v280, rfl, ho0, hb, hkp⟩
    refine ⟨_, rfl, ?_⟩
    replace BK255 := kK BK255 hkp (Kd.R_ne HO277.out BK255.out (by decide))
    replace BK256 := kK BK256 hkp (Kd.R_ne HO277.out BK256.out (by decide))
    replace BK257 := kK BK257 hkp (Kd.R_ne HO277.out BK257.out (by decide))
    have HO281 := Aside0.mk (Kd.R_mono (ok' := fun k_ => True) ho0 (fun k_ hk_ => trivial))
    replace HB := Aside0.mk (hb)
    clear HO277
    (try clear hb)
    (try clear hkp)
    (try clear ho0)
    refine hK.out _ _ (cd6 BK257) (fun hHeld => ?_)
    clear hK K
    refine norm_ (a' := ?_) ?_ ?_
    rotate_left
    ·
     show Act.put _ (some 49) _ = _
     simp only [Act.put, sT_, sO_, sN_, i64_w, i32_w]
     rfl
    refine pure_ (i := 7) (N := some 3) (v := ?_) (a' := ?_) (tf_ 8 0) rfl rfl (any_of HT_.out (by kernel_rfl)) (fun _ _ _ h => h) (Or.inl ⟨by rfl, ?_⟩) ?_ ?_
    rotate_left; · (intro w'; go_simp; with_reducible rfl)
    rotate_left; · (simp only [Act.put, sT_, sO_, sN_, i64_w, i32_w]; rfl)
    refine done_ (done_of HT_.out (by kernel_rfl)) ?_
    try go_wp2
    go_roundg k1
    case measure => have := HK1.out; omega
    case rel => exact ⟨(t279), (wrap64 (x14_1 + 1)), (by first | rfl | (simp; done) | (simp [bne, *]; done)), H', ⟨by have := HK1.out; omega⟩, ⟨krW HO281⟩, ⟨by repeat (first | (with_reducible first | exact HB.out | apply bA_ | apply bN_ | apply bD_ | refine bS_ ?_ GE255 | refine bS_ ?_ GE256 | refine bS_ ?_ GE257) | exact HB.out)⟩⟩
   ·
    replace c15 := Bool.eq_false_iff.mpr c15
    subst c15
    have H1 : (if t272.length < 140737488355328 then ((codec_put.f k1 (t272 ++ [0]) (IntKind.u64.wrap ((rd_T38 l0 x14_1).f1.f3.f0))).bind fun t285 => ((codec_Zig.f ((rd_T38 l0 x14_1).f1.f3.f1)).bind fun t288 => ((codec_put.f k1 t285 t288).bind fun t289 => ((codec_text.f k1 t289 ((rd_T38 l0 x14_1).f1.f3.f2)).bind fun t292 => (codec_Cells.l0 k1 t292 l0 (l0.length : Int) (wrap64 (x14_1 + 1))))))) else (none)) = some r := by rw [if_neg (show ¬ (false = true) by decide)] at H; exact H
    clear H
    have H := H1
    clear H1
    by_cases c56 : t272.length < 140737488355328
    rotate_left
    ·
     rw [if_neg c56] at H
     exact absurd H (by simp)
    rw [if_pos c56] at H
    have LMc56 := Aside0.mk c56
    clear c56
    obtain ⟨y282, hy282⟩ : ∃ y_ : List Int, y_ = (t272 ++ [0]) := ⟨_, rfl⟩
    replace H : ((codec_put.f k1 y282 (IntKind.u64.wrap ((rd_T38 l0 x14_1).f1.f3.f0))).bind fun t285 => ((codec_Zig.f ((rd_T38 l0 x14_1).f1.f3.f1)).bind fun t288 => ((codec_put.f k1 t285 t288).bind fun t289 => ((codec_text.f k1 t289 ((rd_T38 l0 x14_1).f1.f3.f2)).bind fun t292 => (codec_Cells.l0 k1 t292 l0 (l0.length : Int) (wrap64 (x14_1 + 1))))))) = some r := by first | (rw [hy282]; with_reducible exact H) | (have H2_ := (Option.bind_some _ _).symm.trans H; rw [hy282]; with_reducible exact H2_) | (have H2_ := (Option.bind_some _ _).symm.trans H; with_reducible exact H2_) | with_reducible exact H | (rw [hy282]; exact H) | exact H
    have Ny282 := Aside0.mk hy282
    clear hy282
    replace H := Option.bind_eq_some_iff.mp H
    obtain ⟨t285, A570, H⟩ := H
    have A57 := Aside0.mk A570
    clear A570
    replace H := Option.bind_eq_some_iff.mp H
    obtain ⟨t288, A580, H⟩ := H
    have A58 := Aside0.mk A580
    clear A580
    replace H := Option.bind_eq_some_iff.mp H
    obtain ⟨t289, A590, H⟩ := H
    have A59 := Aside0.mk A590
    clear A590
    replace H := Option.bind_eq_some_iff.mp H
    obtain ⟨t292, A600, H⟩ := H
    have A60 := Aside0.mk A600
    clear A600
    have H' := Aside0.mk H
    clear H
    have p254 : 0 ≤ (x14_1 : Int) := of_decide_eq_true (by first | (with_reducible assumption) | assumption)
    have q254 : x14_1 < (l0.length : Int) := of_decide_eq_true (by first | (with_reducible assumption) | assumption)
    obtain ⟨ad254, e254, hx254_0, hx254_1, hx254_2, hx254_3, hx254_4, hx254_5, hx254_6, hx254_7, hx254_8, hx254_9⟩ := at_T38 HR0.out x14_1 p254 q254
    (try rw [← Nbq14.out] at hx254_5)
    cases e254
    replace hx254_0 := cB_ HB hx254_0
    replace hx254_1 := cB_ HB hx254_1
    replace hx254_2 := cB_ HB hx254_2
    replace hx254_3 := cB_ HB hx254_3
    replace hx254_4 := cB_ HB hx254_4
    replace hx254_5 := cB_ HB hx254_5
    replace hx254_6 := cB_ HB hx254_6
    replace hx254_7 := cB_ HB hx254_7
    replace hx254_8 := cB_ HB hx254_8
    replace hx254_9 := cB_ HB hx254_9
    replace p254 := eq_true p254
    replace q254 := eq_true q254
    try go_wp2_with (first | ((with_reducible refine gate_dst (N := 5) rfl ?_); refine box_event ?hg (N := 5) ?hd (cs := #[.string (⟨#[]⟩ : ByteArray), .string (⟨#[]⟩ : ByteArray), .int .i64 0, .string (⟨#[]⟩ : ByteArray), .int .i64 0, .bool false, .int .i64 0, .int .i64 0, .int .i64 0, .string (⟨#[]⟩ : ByteArray)]) (t := 38) ?hr ?_; (case hd => rfl); (case hg => rfl); (case hr => first | (go_simp; done) | (go_simp; rfl)); intro gb255 hg w61 hbox hb; replace HO_3 := kR HO_3 hb; have BK255 := Aside0.mk (hbox); have GW255 := Aside0.mk ((by rw [hg]; exact (bZ_ (kwW HB)) : w.heap.size ≤ gb255)); replace HB := Aside0.mk (below_step (kwW HB) hb); have GE255 := GW255; clear hb hbox hg; obtain ⟨_, _, _, _, _, _, _, _, _, _, _, _, _, _, _, _, _, _, _, _⟩ := czf10 BK255))
    have n0_ : Aside0 (Kd.R (Kd.int .u8) 5 ((((((((((w61.setCell ⟨gb255, 0, none⟩ (.string ((rd_T38 l0 x14_1).f0.f0))).setCell ⟨gb255, 1, none⟩ (.string ((rd_T38 l0 x14_1).f0.f1))).setCell ⟨gb255, 2, none⟩ (.int .i64 ((rd_T38 l0 x14_1).f0.f2))).setCell ⟨gb255, 3, none⟩ (.string ((rd_T38 l0 x14_1).f0.f3))).setCell ⟨gb255, 4, none⟩ (.int .i64 ((rd_T38 l0 x14_1).f1.f0))).setCell ⟨gb255, 5, none⟩ (.bool false)).setCell ⟨gb255, 6, none⟩ (.int .i64 ((rd_T38 l0 x14_1).f1.f2))).setCell ⟨gb255, 7, none⟩ (.int .i64 ((rd_T38 l0 x14_1).f1.f3.f0))).setCell ⟨gb255, 8, none⟩ (.int .i64 ((rd_T38 l0 x14_1).f1.f3.f1))).setCell ⟨gb255, 9, none⟩ (.string ((rd_T38 l0 x14_1).f1.f3.f2))) w.heap.size (fun _ => True) u3 x3_1) := ⟨by (with_reducible repeat (first | apply Kd.R_alloc | apply Kd.R_drewN | apply Kd.R_drew)); exact Kd.R_mono (rf10 (Kd.R_types HO_3.out BK255.out (by decide)) (fun _ hk => hk.2)) (fun _ hk => trivial)⟩
    have n1_ : Aside0 (((((((((((w61.setCell ⟨gb255, 0, none⟩ (.string ((rd_T38 l0 x14_1).f0.f0))).setCell ⟨gb255, 1, none⟩ (.string ((rd_T38 l0 x14_1).f0.f1))).setCell ⟨gb255, 2, none⟩ (.int .i64 ((rd_T38 l0 x14_1).f0.f2))).setCell ⟨gb255, 3, none⟩ (.string ((rd_T38 l0 x14_1).f0.f3))).setCell ⟨gb255, 4, none⟩ (.int .i64 ((rd_T38 l0 x14_1).f1.f0))).setCell ⟨gb255, 5, none⟩ (.bool false)).setCell ⟨gb255, 6, none⟩ (.int .i64 ((rd_T38 l0 x14_1).f1.f2))).setCell ⟨gb255, 7, none⟩ (.int .i64 ((rd_T38 l0 x14_1).f1.f3.f0))).setCell ⟨gb255, 8, none⟩ (.int .i64 ((rd_T38 l0 x14_1).f1.f3.f1))).setCell ⟨gb255, 9, none⟩ (.string ((rd_T38 l0 x14_1).f1.f3.f2))).heap[gb255]? = some (.cells #[.string ((rd_T38 l0 x14_1).f0.f0), .string ((rd_T38 l0 x14_1).f0.f1), .int .i64 ((rd_T38 l0 x14_1).f0.f2), .string ((rd_T38 l0 x14_1).f0.f3), .int .i64 ((rd_T38 l0 x14_1).f1.f0), .bool false, .int .i64 ((rd_T38 l0 x14_1).f1.f2), .int .i64 ((rd_T38 l0 x14_1).f1.f3.f0), .int .i64 ((rd_T38 l0 x14_1).f1.f3.f1), .string ((rd_T38 l0 x14_1).f1.f3.f2)] 38 (0, 0))) := ⟨by (with_reducible repeat (first | refine blk_drewN ?_ _ | refine blk_drew ?_ | refine blk_alloc ?_ _)); exact bp10 (kbW BK255)⟩
    have n2_ : Aside0 (Below w.heap.size w ((((((((((w61.setCell ⟨gb255, 0, none⟩ (.string ((rd_T38 l0 x14_1).f0.f0))).setCell ⟨gb255, 1, none⟩ (.string ((rd_T38 l0 x14_1).f0.f1))).setCell ⟨gb255, 2, none⟩ (.int .i64 ((rd_T38 l0 x14_1).f0.f2))).setCell ⟨gb255, 3, none⟩ (.string ((rd_T38 l0 x14_1).f0.f3))).setCell ⟨gb255, 4, none⟩ (.int .i64 ((rd_T38 l0 x14_1).f1.f0))).setCell ⟨gb255, 5, none⟩ (.bool false)).setCell ⟨gb255, 6, none⟩ (.int .i64 ((rd_T38 l0 x14_1).f1.f2))).setCell ⟨gb255, 7, none⟩ (.int .i64 ((rd_T38 l0 x14_1).f1.f3.f0))).setCell ⟨gb255, 8, none⟩ (.int .i64 ((rd_T38 l0 x14_1).f1.f3.f1))).setCell ⟨gb255, 9, none⟩ (.string ((rd_T38 l0 x14_1).f1.f3.f2)))) := ⟨by repeat (first | (with_reducible first | exact HB.out | apply bA_ | apply bN_ | apply bD_ | refine bS_ ?_ GE255) | exact HB.out)⟩
    (try clear HO_3)
    (try clear BK255)
    (try clear HB)
    generalize ((((((((((w61.setCell ⟨gb255, 0, none⟩ (.string ((rd_T38 l0 x14_1).f0.f0))).setCell ⟨gb255, 1, none⟩ (.string ((rd_T38 l0 x14_1).f0.f1))).setCell ⟨gb255, 2, none⟩ (.int .i64 ((rd_T38 l0 x14_1).f0.f2))).setCell ⟨gb255, 3, none⟩ (.string ((rd_T38 l0 x14_1).f0.f3))).setCell ⟨gb255, 4, none⟩ (.int .i64 ((rd_T38 l0 x14_1).f1.f0))).setCell ⟨gb255, 5, none⟩ (.bool false)).setCell ⟨gb255, 6, none⟩ (.int .i64 ((rd_T38 l0 x14_1).f1.f2))).setCell ⟨gb255, 7, none⟩ (.int .i64 ((rd_T38 l0 x14_1).f1.f3.f0))).setCell ⟨gb255, 8, none⟩ (.int .i64 ((rd_T38 l0 x14_1).f1.f3.f1))).setCell ⟨gb255, 9, none⟩ (.string ((rd_T38 l0 x14_1).f1.f3.f2))) = w63 at n0_ n1_ n2_ ⊢
    have HO_3 := n0_
    have BK255 := n1_
    have HB := n2_
    clear n0_ n1_ n2_
    replace HO_3 := Aside0.mk (Kd.R_drew HO_3.out)
    replace BK255 := Aside0.mk (blk_drew BK255.out)
    replace HB := Aside0.mk (below_drew1 HB.out)
    refine start_ (n := 8) (S := fun w' => w'.cell? ⟨gb255, 0, none⟩ = some (.string ((rd_T38 l0 x14_1).f0.f0)) ∧ w'.cell? ⟨gb255, 1, none⟩ = some (.string ((rd_T38 l0 x14_1).f0.f1)) ∧ w'.cell? ⟨gb255, 2, none⟩ = some (.int .i64 ((rd_T38 l0 x14_1).f0.f2)) ∧ w'.cell? ⟨gb255, 3, none⟩ = some (.string ((rd_T38 l0 x14_1).f0.f3)) ∧ w'.cell? ⟨gb255, 4, none⟩ = some (.int .i64 ((rd_T38 l0 x14_1).f1.f0)) ∧ w'.cell? ⟨gb255, 5, none⟩ = some (.bool false) ∧ w'.cell? ⟨gb255, 6, none⟩ = some (.int .i64 ((rd_T38 l0 x14_1).f1.f2)) ∧ w'.cell? ⟨gb255, 7, none⟩ = some (.int .i64 ((rd_T38 l0 x14_1).f1.f3.f0)) ∧ w'.cell? ⟨gb255, 8, none⟩ = some (.int .i64 ((rd_T38 l0 x14_1).f1.f3.f1)) ∧ w'.cell? ⟨gb255, 9, none⟩ = some (.string ((rd_T38 l0 x14_1).f1.f3.f2))) (ds := []) (tf_ 0 8) (by kernel_rfl) rfl rfl (cd10 BK255) (fun hHeld => ?_); refine with_tabW codec_Cells.tab5 codec_Cells.bits5 (fun HT_ HW_ => ?_)
    generalize w63.drew = w64 at HO_3 BK255 HB hHeld ⊢
    refine pure_ (i := 0) (N := some 18) (v := ?_) (a' := ?_) (tf_ 1 7) rfl rfl (any_of HT_.out (by kernel_rfl)) (fun _ _ _ h => h) (Or.inl ⟨by rfl, ?_⟩) ?_ ?_
    rotate_left; · (intro w'; go_simp; with_reducible rfl)
    rotate_left; · (simp only [Act.put, sT_, sO_, sN_, i64_w, i32_w]; rfl)
    refine pure_ (i := 2) (N := some 20) (v := ?_) (a' := ?_) (tb_ 5 8) rfl rfl (any_of HT_.out (by kernel_rfl)) (fun _ _ _ h => h) (Or.inl ⟨by rfl, ?_⟩) ?_ ?_
    rotate_left; · (intro w'; go_simp; with_reducible rfl)
    rotate_left; · (simp only [Act.put, sT_, sO_, sN_, i64_w, i32_w]; rfl)
    refine take_ (i := 1) (N := some 19) (v := ?_) (a' := ?_) (tf_ 3 5) rfl rfl (take_ofW HT_.out HW_.out (by kernel_rfl)) (fun _ _ _ h => h) (Or.inl ⟨by rfl, ?_⟩) hHeld ?_ ?_
    rotate_left; · (rintro w' ⟨s0, s1, s2, s3, s4, s5, s6, s7, s8, s9⟩; go_simp; with_reducible rfl)
    rotate_left; · (simp only [Act.put, sT_, sO_, sN_, i64_w, i32_w]; rfl)
    refine take_ (i := 3) (N := some 21) (v := ?_) (a' := ?_) (tf_ 4 4) rfl rfl (take_ofW HT_.out HW_.out (by kernel_rfl)) (fun _ _ _ h => h) (Or.inl ⟨by rfl, ?_⟩) hHeld ?_ ?_
    rotate_left; · (rintro w' ⟨s0, s1, s2, s3, s4, s5, s6, s7, s8, s9⟩; go_simp; with_reducible rfl)
    rotate_left; · (simp only [Act.put, sT_, sO_, sN_, i64_w, i32_w]; rfl)
    refine join_ (σ := Nat × Nat) 2 (tf_ 6 2) (fun s_ => [(6, .pointer (some ⟨s_.1, 0, none⟩)), (7, .pointer (some ⟨s_.2, 0, none⟩))]) (fun s_ w' => (w'.cell? ⟨gb255, 0, none⟩ = some (.string ((rd_T38 l0 x14_1).f0.f0)) ∧ w'.cell? ⟨gb255, 1, none⟩ = some (.string ((rd_T38 l0 x14_1).f0.f1)) ∧ w'.cell? ⟨gb255, 2, none⟩ = some (.int .i64 ((rd_T38 l0 x14_1).f0.f2)) ∧ w'.cell? ⟨gb255, 3, none⟩ = some (.string ((rd_T38 l0 x14_1).f0.f3)) ∧ w'.cell? ⟨gb255, 4, none⟩ = some (.int .i64 ((rd_T38 l0 x14_1).f1.f0)) ∧ w'.cell? ⟨gb255, 5, none⟩ = some (.bool false) ∧ w'.cell? ⟨gb255, 6, none⟩ = some (.int .i64 ((rd_T38 l0 x14_1).f1.f2)) ∧ w'.cell? ⟨gb255, 7, none⟩ = some (.int .i64 ((rd_T38 l0 x14_1).f1.f3.f0)) ∧ w'.cell? ⟨gb255, 8, none⟩ = some (.int .i64 ((rd_T38 l0 x14_1).f1.f3.f1)) ∧ w'.cell? ⟨gb255, 9, none⟩ = some (.string ((rd_T38 l0 x14_1).f1.f3.f2))) ∧ (Kd.R (Kd.int .u8) 5 w' w.heap.size (fun _ => True) u3 x3_1) ∧ (w'.heap[gb255]? = some (.cells #[.string ((rd_T38 l0 x14_1).f0.f0), .string ((rd_T38 l0 x14_1).f0.f1), .int .i64 ((rd_T38 l0 x14_1).f0.f2), .string ((rd_T38 l0 x14_1).f0.f3), .int .i64 ((rd_T38 l0 x14_1).f1.f0), .bool false, .int .i64 ((rd_T38 l0 x14_1).f1.f2), .int .i64 ((rd_T38 l0 x14_1).f1.f3.f0), .int .i64 ((rd_T38 l0 x14_1).f1.f3.f1), .string ((rd_T38 l0 x14_1).f1.f3.f2)] 38 (0, 0))) ∧ (w'.heap[s_.1]? = some (.cells #[.string (⟨#[]⟩ : ByteArray), .string (⟨#[]⟩ : ByteArray), .int .i64 0, .string (⟨#[]⟩ : ByteArray)] 32 (0, 0))) ∧ (w'.heap[s_.2]? = some (.cells #[.int .i64 0, .bool false, .int .i64 0, .int .i64 0, .int .i64 0, .string (⟨#[]⟩ : ByteArray)] 36 (0, 0))) ∧ (w.heap.size ≤ s_.1) ∧ (w.heap.size ≤ s_.1) ∧ (gb255 ≠ s_.1) ∧ (s_.1 ≠ gb255) ∧ (s_.2 ≠ s_.1) ∧ (s_.1 ≠ s_.2) ∧ (w.heap.size ≤ s_.2) ∧ (w.heap.size ≤ s_.2) ∧ (gb255 ≠ s_.2) ∧ (s_.2 ≠ gb255) ∧ (Below w.heap.size w w')) ?_ ?_
    rotate_left
    ·
     intro hCont
     refine two_ (i := 4) (j := 5) (Ni := some 6) (Nj := some 7) (tf_ 5 3) (tb_ 47 8) rfl rfl rfl rfl (two_of HT_.out (by kernel_rfl)) (by decide) (by decide) (fun K hK => ?_) (fun K hK => ?_)
     ·
      skip
      refine box_step ?hg (N := 6) ?hd (cs := #[.string (⟨#[]⟩ : ByteArray), .string (⟨#[]⟩ : ByteArray), .int .i64 0, .string (⟨#[]⟩ : ByteArray)]) (t := 32) ?hr ?_; (case hd => rfl); (case hg => rfl); (case hr => first | (go_simp; done) | (go_simp; rfl))
      intro gb256 hg w65 hbox hb
      replace HO_3 := kR HO_3 hb
      have BK256 := Aside0.mk (hbox)
      have GW256 := Aside0.mk ((by rw [hg]; exact (bZ_ (by repeat (first | (with_reducible first | exact HB.out | apply bA_ | apply bN_ | apply bD_ | refine bS_ ?_ GE255) | exact HB.out))) : w.heap.size ≤ gb256))
      replace HB := Aside0.mk (below_step (by repeat (first | (with_reducible first | exact HB.out | apply bA_ | apply bN_ | apply bD_ | refine bS_ ?_ GE255) | exact HB.out)) hb)
      have GE256 := GW256
      have NB255_256 := Aside0.mk ((by rw [hg]; exact Nat.ne_of_lt (blk_lt (kbW BK255)) : gb255 ≠ gb256))
      have NB256_255 := Aside0.mk ((by rw [hg]; exact Nat.ne_of_gt (blk_lt (kbW BK255)) : gb256 ≠ gb255))
      replace BK255 := kB BK255 hb
      clear hb hbox hg
      refine hK.out _ _ (cd10 BK255) (fun hHeld => ?_)
      clear hK K
      refine norm_ (a' := ?_) ?_ ?_
      rotate_left
      ·
       show Act.put _ (some 6) _ = _
       simp only [Act.put, sT_, sO_, sN_, i64_w, i32_w]
       rfl
      refine one_ (i := 5) (N := some 7) (tf_ 6 2) rfl rfl (one_of HT_.out (by kernel_rfl)) (by decide) (fun K hK => ?_)
      refine box_step ?hg (N := 7) ?hd (cs := #[.int .i64 0, .bool false, .int .i64 0, .int .i64 0, .int .i64 0, .string (⟨#[]⟩ : ByteArray)]) (t := 36) ?hr ?_; (case hd => rfl); (case hg => rfl); (case hr => first | (go_simp; done) | (go_simp; rfl))
      intro gb257 hg w66 hbox hb
      replace HO_3 := kR HO_3 hb
      have BK257 := Aside0.mk (hbox)
      have GW257 := Aside0.mk ((by rw [hg]; exact (bZ_ (by repeat (first | (with_reducible first | exact HB.out | apply bA_ | apply bN_ | apply bD_ | refine bS_ ?_ GE255 | refine bS_ ?_ GE256) | exact HB.out))) : w.heap.size ≤ gb257))
      replace HB := Aside0.mk (below_step (by repeat (first | (with_reducible first | exact HB.out | apply bA_ | apply bN_ | apply bD_ | refine bS_ ?_ GE255 | refine bS_ ?_ GE256) | exact HB.out)) hb)
      have GE257 := GW257
      have NB255_257 := Aside0.mk ((by rw [hg]; exact Nat.ne_of_lt (blk_lt (kbW BK255)) : gb255 ≠ gb257))
      have NB257_255 := Aside0.mk ((by rw [hg]; exact Nat.ne_of_gt (blk_lt (kbW BK255)) : gb257 ≠ gb255))
      replace BK255 := kB BK255 hb
      have NB256_257 := Aside0.mk ((by rw [hg]; exact Nat.ne_of_lt (blk_lt (kbW BK256)) : gb256 ≠ gb257))
      have NB257_256 := Aside0.mk ((by rw [hg]; exact Nat.ne_of_gt (blk_lt (kbW BK256)) : gb257 ≠ gb256))
      replace BK256 := kB BK256 hb
      clear hb hbox hg
      refine hK.out _ _ (cd10 BK255) (fun hHeld => ?_)
      clear hK K
      refine norm_ (a' := ?_) ?_ ?_
      rotate_left
      ·
       show Act.put _ (some 7) _ = _
       simp only [Act.put, sT_, sO_, sN_, i64_w, i32_w]
       rfl
      exact norm_ (by simp only [putAll, Act.put, sT_, sO_, sN_]) (hCont (gb256, gb257) _ ⟨hHeld, (krW HO_3), (kbW BK255), (kbW BK256), (kbW BK257), GW256.out, GE256.out, NB255_256.out, NB256_255.out, NB257_256.out, NB256_257.out, GW257.out, GE257.out, NB255_257.out, NB257_255.out, (by repeat (first | (with_reducible first | exact HB.out | apply bA_ | apply bN_ | apply bD_ | refine bS_ ?_ GE255 | refine bS_ ?_ GE256 | refine bS_ ?_ GE257) | exact HB.out))⟩)
     ·
      skip
      refine box_step ?hg (N := 7) ?hd (cs := #[.int .i64 0, .bool false, .int .i64 0, .int .i64 0, .int .i64 0, .string (⟨#[]⟩ : ByteArray)]) (t := 36) ?hr ?_; (case hd => rfl); (case hg => rfl); (case hr => first | (go_simp; done) | (go_simp; rfl))
      intro gb257 hg w65 hbox hb
      replace HO_3 := kR HO_3 hb
      have BK257 := Aside0.mk (hbox)
      have GW257 := Aside0.mk ((by rw [hg]; exact (bZ_ (by repeat (first | (with_reducible first | exact HB.out | apply bA_ | apply bN_ | apply bD_ | refine bS_ ?_ GE255) | exact HB.out))) : w.heap.size ≤ gb257))
      replace HB := Aside0.mk (below_step (by repeat (first | (with_reducible first | exact HB.out | apply bA_ | apply bN_ | apply bD_ | refine bS_ ?_ GE255) | exact HB.out)) hb)
      have GE257 := GW257
      have NB255_257 := Aside0.mk ((by rw [hg]; exact Nat.ne_of_lt (blk_lt (kbW BK255)) : gb255 ≠ gb257))
      have NB257_255 := Aside0.mk ((by rw [hg]; exact Nat.ne_of_gt (blk_lt (kbW BK255)) : gb257 ≠ gb255))
      replace BK255 := kB BK255 hb
      clear hb hbox hg
      refine hK.out _ _ (cd10 BK255) (fun hHeld => ?_)
      clear hK K
      refine norm_ (a' := ?_) ?_ ?_
      rotate_left
      ·
       show Act.put _ (some 7) _ = _
       simp only [Act.put, sT_, sO_, sN_, i64_w, i32_w]
       rfl
      refine one_ (i := 4) (N := some 6) (tf_ 6 2) rfl rfl (one_of HT_.out (by kernel_rfl)) (by decide) (fun K hK => ?_)
      refine box_step ?hg (N := 6) ?hd (cs := #[.string (⟨#[]⟩ : ByteArray), .string (⟨#[]⟩ : ByteArray), .int .i64 0, .string (⟨#[]⟩ : ByteArray)]) (t := 32) ?hr ?_; (case hd => rfl); (case hg => rfl); (case hr => first | (go_simp; done) | (go_simp; rfl))
      intro gb256 hg w66 hbox hb
      replace HO_3 := kR HO_3 hb
      have BK256 := Aside0.mk (hbox)
      have GW256 := Aside0.mk ((by rw [hg]; exact (bZ_ (by repeat (first | (with_reducible first | exact HB.out | apply bA_ | apply bN_ | apply bD_ | refine bS_ ?_ GE255 | refine bS_ ?_ GE257) | exact HB.out))) : w.heap.size ≤ gb256))
      replace HB := Aside0.mk (below_step (by repeat (first | (with_reducible first | exact HB.out | apply bA_ | apply bN_ | apply bD_ | refine bS_ ?_ GE255 | refine bS_ ?_ GE257) | exact HB.out)) hb)
      have GE256 := GW256
      have NB255_256 := Aside0.mk ((by rw [hg]; exact Nat.ne_of_lt (blk_lt (kbW BK255)) : gb255 ≠ gb256))
      have NB256_255 := Aside0.mk ((by rw [hg]; exact Nat.ne_of_gt (blk_lt (kbW BK255)) : gb256 ≠ gb255))
      replace BK255 := kB BK255 hb
      have NB257_256 := Aside0.mk ((by rw [hg]; exact Nat.ne_of_lt (blk_lt (kbW BK257)) : gb257 ≠ gb256))
      have NB256_257 := Aside0.mk ((by rw [hg]; exact Nat.ne_of_gt (blk_lt (kbW BK257)) : gb256 ≠ gb257))
      replace BK257 := kB BK257 hb
      clear hb hbox hg
      refine hK.out _ _ (cd10 BK255) (fun hHeld => ?_)
      clear hK K
      refine norm_ (a' := ?_) ?_ ?_
      rotate_left
      ·
       show Act.put _ (some 6) _ = _
       simp only [Act.put, sT_, sO_, sN_, i64_w, i32_w]
       rfl
      exact norm_ (by simp only [putAll, Act.put, sT_, sO_, sN_]) (hCont (gb256, gb257) _ ⟨hHeld, (krW HO_3), (kbW BK255), (kbW BK256), (kbW BK257), GW256.out, GE256.out, NB255_256.out, NB256_255.out, NB257_256.out, NB256_257.out, GW257.out, GE257.out, NB255_257.out, NB257_255.out, (by repeat (first | (with_reducible first | exact HB.out | apply bA_ | apply bN_ | apply bD_ | refine bS_ ?_ GE255 | refine bS_ ?_ GE257 | refine bS_ ?_ GE256) | exact HB.out))⟩)
    rintro ⟨gb256, gb257⟩ w67 ⟨hS_, h0_, h1_, h2_, h3_, h4_, h5_, h6_, h7_, h8_, h9_, h10_, h11_, h12_, h13_, h14_⟩
    have n0_ : Aside0 (Kd.R (Kd.int .u8) 5 w67 w.heap.size (fun _ => True) u3 x3_1) := ⟨h0_⟩
    have n1_ : Aside0 (w67.heap[gb255]? = some (.cells #[.string ((rd_T38 l0 x14_1).f0.f0), .string ((rd_T38 l0 x14_1).f0.f1), .int .i64 ((rd_T38 l0 x14_1).f0.f2), .string ((rd_T38 l0 x14_1).f0.f3), .int .i64 ((rd_T38 l0 x14_1).f1.f0), .bool false, .int .i64 ((rd_T38 l0 x14_1).f1.f2), .int .i64 ((rd_T38 l0 x14_1).f1.f3.f0), .int .i64 ((rd_T38 l0 x14_1).f1.f3.f1), .string ((rd_T38 l0 x14_1).f1.f3.f2)] 38 (0, 0))) := ⟨h1_⟩
    have n2_ : Aside0 (w67.heap[gb256]? = some (.cells #[.string (⟨#[]⟩ : ByteArray), .string (⟨#[]⟩ : ByteArray), .int .i64 0, .string (⟨#[]⟩ : ByteArray)] 32 (0, 0))) := ⟨h2_⟩
    have n3_ : Aside0 (w67.heap[gb257]? = some (.cells #[.int .i64 0, .bool false, .int .i64 0, .int .i64 0, .int .i64 0, .string (⟨#[]⟩ : ByteArray)] 36 (0, 0))) := ⟨h3_⟩
    have n4_ : Aside0 (w.heap.size ≤ gb256) := ⟨h4_⟩
    have n5_ : Aside0 (w.heap.size ≤ gb256) := ⟨h5_⟩
    have n6_ : Aside0 (gb255 ≠ gb256) := ⟨h6_⟩
    have n7_ : Aside0 (gb256 ≠ gb255) := ⟨h7_⟩
    have n8_ : Aside0 (gb257 ≠ gb256) := ⟨h8_⟩
    have n9_ : Aside0 (gb256 ≠ gb257) := ⟨h9_⟩
    have n10_ : Aside0 (w.heap.size ≤ gb257) := ⟨h10_⟩
    have n11_ : Aside0 (w.heap.size ≤ gb257) := ⟨h11_⟩
    have n12_ : Aside0 (gb255 ≠ gb257) := ⟨h12_⟩
    have n13_ : Aside0 (gb257 ≠ gb255) := ⟨h13_⟩
    have n14_ : Aside0 (Below w.heap.size w w67) := ⟨h14_⟩
    clear HO_3
    clear BK255
    clear HB
    clear h0_ h1_ h2_ h3_ h4_ h5_ h6_ h7_ h8_ h9_ h10_ h11_ h12_ h13_ h14_
    have HO_3 := n0_
    have BK255 := n1_
    have BK256 := n2_
    have BK257 := n3_
    have GW256 := n4_
    have GE256 := n5_
    have NB255_256 := n6_
    have NB256_255 := n7_
    have NB257_256 := n8_
    have NB256_257 := n9_
    have GW257 := n10_
    have GE257 := n11_
    have NB255_257 := n12_
    have NB257_255 := n13_
    have HB := n14_
    clear n0_ n1_ n2_ n3_ n4_ n5_ n6_ n7_ n8_ n9_ n10_ n11_ n12_ n13_ n14_
    have hHeld : w67.cell? ⟨gb255, 0, none⟩ = some (.string ((rd_T38 l0 x14_1).f0.f0)) ∧ w67.cell? ⟨gb255, 1, none⟩ = some (.string ((rd_T38 l0 x14_1).f0.f1)) ∧ w67.cell? ⟨gb255, 2, none⟩ = some (.int .i64 ((rd_T38 l0 x14_1).f0.f2)) ∧ w67.cell? ⟨gb255, 3, none⟩ = some (.string ((rd_T38 l0 x14_1).f0.f3)) ∧ w67.cell? ⟨gb255, 4, none⟩ = some (.int .i64 ((rd_T38 l0 x14_1).f1.f0)) ∧ w67.cell? ⟨gb255, 5, none⟩ = some (.bool false) ∧ w67.cell? ⟨gb255, 6, none⟩ = some (.int .i64 ((rd_T38 l0 x14_1).f1.f2)) ∧ w67.cell? ⟨gb255, 7, none⟩ = some (.int .i64 ((rd_T38 l0 x14_1).f1.f3.f0)) ∧ w67.cell? ⟨gb255, 8, none⟩ = some (.int .i64 ((rd_T38 l0 x14_1).f1.f3.f1)) ∧ w67.cell? ⟨gb255, 9, none⟩ = some (.string ((rd_T38 l0 x14_1).f1.f3.f2)) := hS_
    refine norm_ (a' := ?_) ?_ ?_
    rotate_left
    ·
     simp only [putAll, Act.put, sT_, sO_, sN_]
     rfl
    refine one_ (i := 6) (N := none) (tf_ 7 1) rfl rfl (one_of HT_.out (by kernel_rfl)) (by decide) (fun K hK => ?_)
    have hs68 : w67.cell? ⟨gb256, 0, none⟩ = some (.string (⟨#[]⟩ : ByteArray)) := (blk_cell BK256.out 0).trans rfl
    have hfs68 := blk_frozen BK256.out 0
    have hns68_0 := NB255_256.out
    have hns68_2 := NB257_256.out
    have hms68_0 := NB256_255.out
    have hms68_2 := NB256_257.out
    have hs69 : w67.cell? ⟨gb256, 1, none⟩ = some (.string (⟨#[]⟩ : ByteArray)) := (blk_cell BK256.out 1).trans rfl
    have hfs69 := blk_frozen BK256.out 1
    have hns69_0 := NB255_256.out
    have hns69_2 := NB257_256.out
    have hms69_0 := NB256_255.out
    have hms69_2 := NB256_257.out
    have hs70 : w67.cell? ⟨gb256, 2, none⟩ = some (.int .i64 0) := (blk_cell BK256.out 2).trans rfl
    have hfs70 := blk_frozen BK256.out 2
    have hns70_0 := NB255_256.out
    have hns70_2 := NB257_256.out
    have hms70_0 := NB256_255.out
    have hms70_2 := NB256_257.out
    have hs71 : w67.cell? ⟨gb256, 3, none⟩ = some (.string (⟨#[]⟩ : ByteArray)) := (blk_cell BK256.out 3).trans rfl
    have hfs71 := blk_frozen BK256.out 3
    have hns71_0 := NB255_256.out
    have hns71_2 := NB257_256.out
    have hms71_0 := NB256_255.out
    have hms71_2 := NB256_257.out
    refine skip_ (w1 := ?_) (by rfl) rfl ?_ ?_
    rotate_left
    ·
     go_simp
     rfl
    refine hK.out _ _ ⟨(cf_ NB255_256 ((cf_ NB255_256 ((cf_ NB255_256 ((cf_ NB255_256 (hHeld.1)))))))), (cf_ NB255_256 ((cf_ NB255_256 ((cf_ NB255_256 ((cf_ NB255_256 (hHeld.2.1)))))))), (cf_ NB255_256 ((cf_ NB255_256 ((cf_ NB255_256 ((cf_ NB255_256 (hHeld.2.2.1)))))))), (cf_ NB255_256 ((cf_ NB255_256 ((cf_ NB255_256 ((cf_ NB255_256 (hHeld.2.2.2.1)))))))), (cf_ NB255_256 ((cf_ NB255_256 ((cf_ NB255_256 ((cf_ NB255_256 (hHeld.2.2.2.2.1)))))))), (cf_ NB255_256 ((cf_ NB255_256 ((cf_ NB255_256 ((cf_ NB255_256 (hHeld.2.2.2.2.2.1)))))))), (cf_ NB255_256 ((cf_ NB255_256 ((cf_ NB255_256 ((cf_ NB255_256 (hHeld.2.2.2.2.2.2.1)))))))), (cf_ NB255_256 ((cf_ NB255_256 ((cf_ NB255_256 ((cf_ NB255_256 (hHeld.2.2.2.2.2.2.2.1)))))))), (cf_ NB255_256 ((cf_ NB255_256 ((cf_ NB255_256 ((cf_ NB255_256 (hHeld.2.2.2.2.2.2.2.2.1)))))))), (cf_ NB255_256 ((cf_ NB255_256 ((cf_ NB255_256 ((cf_ NB255_256 (hHeld.2.2.2.2.2.2.2.2.2))))))))⟩ (fun hHeld => ?_)
    clear hK K
    refine one_ (i := 7) (N := none) (tf_ 8 0) rfl rfl (one_of HT_.out (by kernel_rfl)) (by decide) (fun K hK => ?_)
    have hs72 : w67.cell? ⟨gb257, 0, none⟩ = some (.int .i64 0) := (blk_cell BK257.out 0).trans rfl
    have hfs72 := blk_frozen BK257.out 0
    have hns72_0 := NB255_257.out
    have hns72_1 := NB256_257.out
    have hms72_0 := NB257_255.out
    have hms72_1 := NB257_256.out
    have hs73 : w67.cell? ⟨gb257, 1, none⟩ = some (.bool false) := (blk_cell BK257.out 1).trans rfl
    have hfs73 := blk_frozen BK257.out 1
    have hns73_0 := NB255_257.out
    have hns73_1 := NB256_257.out
    have hms73_0 := NB257_255.out
    have hms73_1 := NB257_256.out
    have hs74 : w67.cell? ⟨gb257, 2, none⟩ = some (.int .i64 0) := (blk_cell BK257.out 2).trans rfl
    have hfs74 := blk_frozen BK257.out 2
    have hns74_0 := NB255_257.out
    have hns74_1 := NB256_257.out
    have hms74_0 := NB257_255.out
    have hms74_1 := NB257_256.out
    have hs75 : w67.cell? ⟨gb257, 3, none⟩ = some (.int .i64 0) := (blk_cell BK257.out 3).trans rfl
    have hfs75 := blk_frozen BK257.out 3
    have hns75_0 := NB255_257.out
    have hns75_1 := NB256_257.out
    have hms75_0 := NB257_255.out
    have hms75_1 := NB257_256.out
    have hs76 : w67.cell? ⟨gb257, 4, none⟩ = some (.int .i64 0) := (blk_cell BK257.out 4).trans rfl
    have hfs76 := blk_frozen BK257.out 4
    have hns76_0 := NB255_257.out
    have hns76_1 := NB256_257.out
    have hms76_0 := NB257_255.out
    have hms76_1 := NB257_256.out
    have hs77 : w67.cell? ⟨gb257, 5, none⟩ = some (.string (⟨#[]⟩ : ByteArray)) := (blk_cell BK257.out 5).trans rfl
    have hfs77 := blk_frozen BK257.out 5
    have hns77_0 := NB255_257.out
    have hns77_1 := NB256_257.out
    have hms77_0 := NB257_255.out
    have hms77_1 := NB257_256.out
    refine skip_ (w1 := ?_) (by rfl) rfl ?_ ?_
    rotate_left
    ·
     go_simp
     rfl
    refine hK.out _ _ ⟨(cf_ NB255_257 ((cf_ NB255_257 ((cf_ NB255_257 ((cf_ NB255_257 ((cf_ NB255_257 ((cf_ NB255_257 (hHeld.1)))))))))))), (cf_ NB255_257 ((cf_ NB255_257 ((cf_ NB255_257 ((cf_ NB255_257 ((cf_ NB255_257 ((cf_ NB255_257 (hHeld.2.1)))))))))))), (cf_ NB255_257 ((cf_ NB255_257 ((cf_ NB255_257 ((cf_ NB255_257 ((cf_ NB255_257 ((cf_ NB255_257 (hHeld.2.2.1)))))))))))), (cf_ NB255_257 ((cf_ NB255_257 ((cf_ NB255_257 ((cf_ NB255_257 ((cf_ NB255_257 ((cf_ NB255_257 (hHeld.2.2.2.1)))))))))))), (cf_ NB255_257 ((cf_ NB255_257 ((cf_ NB255_257 ((cf_ NB255_257 ((cf_ NB255_257 ((cf_ NB255_257 (hHeld.2.2.2.2.1)))))))))))), (cf_ NB255_257 ((cf_ NB255_257 ((cf_ NB255_257 ((cf_ NB255_257 ((cf_ NB255_257 ((cf_ NB255_257 (hHeld.2.2.2.2.2.1)))))))))))), (cf_ NB255_257 ((cf_ NB255_257 ((cf_ NB255_257 ((cf_ NB255_257 ((cf_ NB255_257 ((cf_ NB255_257 (hHeld.2.2.2.2.2.2.1)))))))))))), (cf_ NB255_257 ((cf_ NB255_257 ((cf_ NB255_257 ((cf_ NB255_257 ((cf_ NB255_257 ((cf_ NB255_257 (hHeld.2.2.2.2.2.2.2.1)))))))))))), (cf_ NB255_257 ((cf_ NB255_257 ((cf_ NB255_257 ((cf_ NB255_257 ((cf_ NB255_257 ((cf_ NB255_257 (hHeld.2.2.2.2.2.2.2.2.1)))))))))))), (cf_ NB255_257 ((cf_ NB255_257 ((cf_ NB255_257 ((cf_ NB255_257 ((cf_ NB255_257 ((cf_ NB255_257 (hHeld.2.2.2.2.2.2.2.2.2))))))))))))⟩ (fun hHeld => ?_)
    clear hK K
    refine done_ (done_of HT_.out (by kernel_rfl)) ?_
    try go_wp2
    have n0_ : Aside0 (Kd.R (Kd.int .u8) 5 ((((((((((w67.setCell ⟨gb256, 0, none⟩ (.string ((rd_T38 l0 x14_1).f0.f0))).setCell ⟨gb256, 1, none⟩ (.string ((rd_T38 l0 x14_1).f0.f1))).setCell ⟨gb256, 2, none⟩ (.int .i64 ((rd_T38 l0 x14_1).f0.f2))).setCell ⟨gb256, 3, none⟩ (.string ((rd_T38 l0 x14_1).f0.f3))).setCell ⟨gb257, 0, none⟩ (.int .i64 ((rd_T38 l0 x14_1).f1.f0))).setCell ⟨gb257, 1, none⟩ (.bool false)).setCell ⟨gb257, 2, none⟩ (.int .i64 ((rd_T38 l0 x14_1).f1.f2))).setCell ⟨gb257, 3, none⟩ (.int .i64 ((rd_T38 l0 x14_1).f1.f3.f0))).setCell ⟨gb257, 4, none⟩ (.int .i64 ((rd_T38 l0 x14_1).f1.f3.f1))).setCell ⟨gb257, 5, none⟩ (.string ((rd_T38 l0 x14_1).f1.f3.f2))) w.heap.size (fun _ => True) u3 x3_1) := ⟨by (with_reducible repeat (first | apply Kd.R_alloc | apply Kd.R_drewN | apply Kd.R_drew)); exact Kd.R_mono (rf6 (Kd.R_far (p := ⟨gb256, 3, none⟩) (Kd.R_far (p := ⟨gb256, 2, none⟩) (Kd.R_far (p := ⟨gb256, 1, none⟩) (Kd.R_far (p := ⟨gb256, 0, none⟩) (Kd.R_types (Kd.R_types HO_3.out BK256.out (by decide)) BK257.out (by decide)) (fun _ hk => hk.1.2) (.string ((rd_T38 l0 x14_1).f0.f0))) (fun _ hk => hk.1.2) (.string ((rd_T38 l0 x14_1).f0.f1))) (fun _ hk => hk.1.2) (.int .i64 ((rd_T38 l0 x14_1).f0.f2))) (fun _ hk => hk.1.2) (.string ((rd_T38 l0 x14_1).f0.f3))) (fun _ hk => hk.2)) (fun _ hk => trivial)⟩
    have n1_ : Aside0 (((((((((((w67.setCell ⟨gb256, 0, none⟩ (.string ((rd_T38 l0 x14_1).f0.f0))).setCell ⟨gb256, 1, none⟩ (.string ((rd_T38 l0 x14_1).f0.f1))).setCell ⟨gb256, 2, none⟩ (.int .i64 ((rd_T38 l0 x14_1).f0.f2))).setCell ⟨gb256, 3, none⟩ (.string ((rd_T38 l0 x14_1).f0.f3))).setCell ⟨gb257, 0, none⟩ (.int .i64 ((rd_T38 l0 x14_1).f1.f0))).setCell ⟨gb257, 1, none⟩ (.bool false)).setCell ⟨gb257, 2, none⟩ (.int .i64 ((rd_T38 l0 x14_1).f1.f2))).setCell ⟨gb257, 3, none⟩ (.int .i64 ((rd_T38 l0 x14_1).f1.f3.f0))).setCell ⟨gb257, 4, none⟩ (.int .i64 ((rd_T38 l0 x14_1).f1.f3.f1))).setCell ⟨gb257, 5, none⟩ (.string ((rd_T38 l0 x14_1).f1.f3.f2))).heap[gb255]? = some (.cells #[.string ((rd_T38 l0 x14_1).f0.f0), .string ((rd_T38 l0 x14_1).f0.f1), .int .i64 ((rd_T38 l0 x14_1).f0.f2), .string ((rd_T38 l0 x14_1).f0.f3), .int .i64 ((rd_T38 l0 x14_1).f1.f0), .bool false, .int .i64 ((rd_T38 l0 x14_1).f1.f2), .int .i64 ((rd_T38 l0 x14_1).f1.f3.f0), .int .i64 ((rd_T38 l0 x14_1).f1.f3.f1), .string ((rd_T38 l0 x14_1).f1.f3.f2)] 38 (0, 0))) := ⟨by (with_reducible repeat (first | refine blk_drewN ?_ _ | refine blk_drew ?_ | refine blk_alloc ?_ _)); refine bf6 ?_ NB255_257.out; (with_reducible repeat (first | refine blk_drewN ?_ _ | refine blk_drew ?_ | refine blk_alloc ?_ _)); refine bf4 ?_ NB255_256.out; (with_reducible repeat (first | refine blk_drewN ?_ _ | refine blk_drew ?_ | refine blk_alloc ?_ _)); exact BK255.out⟩
    have n2_ : Aside0 (((((((((((w67.setCell ⟨gb256, 0, none⟩ (.string ((rd_T38 l0 x14_1).f0.f0))).setCell ⟨gb256, 1, none⟩ (.string ((rd_T38 l0 x14_1).f0.f1))).setCell ⟨gb256, 2, none⟩ (.int .i64 ((rd_T38 l0 x14_1).f0.f2))).setCell ⟨gb256, 3, none⟩ (.string ((rd_T38 l0 x14_1).f0.f3))).setCell ⟨gb257, 0, none⟩ (.int .i64 ((rd_T38 l0 x14_1).f1.f0))).setCell ⟨gb257, 1, none⟩ (.bool false)).setCell ⟨gb257, 2, none⟩ (.int .i64 ((rd_T38 l0 x14_1).f1.f2))).setCell ⟨gb257, 3, none⟩ (.int .i64 ((rd_T38 l0 x14_1).f1.f3.f0))).setCell ⟨gb257, 4, none⟩ (.int .i64 ((rd_T38 l0 x14_1).f1.f3.f1))).setCell ⟨gb257, 5, none⟩ (.string ((rd_T38 l0 x14_1).f1.f3.f2))).heap[gb256]? = some (.cells #[.string ((rd_T38 l0 x14_1).f0.f0), .string ((rd_T38 l0 x14_1).f0.f1), .int .i64 ((rd_T38 l0 x14_1).f0.f2), .string ((rd_T38 l0 x14_1).f0.f3)] 32 (0, 0))) := ⟨by (with_reducible repeat (first | refine blk_drewN ?_ _ | refine blk_drew ?_ | refine blk_alloc ?_ _)); refine bf6 ?_ NB256_257.out; (with_reducible repeat (first | refine blk_drewN ?_ _ | refine blk_drew ?_ | refine blk_alloc ?_ _)); exact bp4 (kbW BK256)⟩
    have n3_ : Aside0 (((((((((((w67.setCell ⟨gb256, 0, none⟩ (.string ((rd_T38 l0 x14_1).f0.f0))).setCell ⟨gb256, 1, none⟩ (.string ((rd_T38 l0 x14_1).f0.f1))).setCell ⟨gb256, 2, none⟩ (.int .i64 ((rd_T38 l0 x14_1).f0.f2))).setCell ⟨gb256, 3, none⟩ (.string ((rd_T38 l0 x14_1).f0.f3))).setCell ⟨gb257, 0, none⟩ (.int .i64 ((rd_T38 l0 x14_1).f1.f0))).setCell ⟨gb257, 1, none⟩ (.bool false)).setCell ⟨gb257, 2, none⟩ (.int .i64 ((rd_T38 l0 x14_1).f1.f2))).setCell ⟨gb257, 3, none⟩ (.int .i64 ((rd_T38 l0 x14_1).f1.f3.f0))).setCell ⟨gb257, 4, none⟩ (.int .i64 ((rd_T38 l0 x14_1).f1.f3.f1))).setCell ⟨gb257, 5, none⟩ (.string ((rd_T38 l0 x14_1).f1.f3.f2))).heap[gb257]? = some (.cells #[.int .i64 ((rd_T38 l0 x14_1).f1.f0), .bool false, .int .i64 ((rd_T38 l0 x14_1).f1.f2), .int .i64 ((rd_T38 l0 x14_1).f1.f3.f0), .int .i64 ((rd_T38 l0 x14_1).f1.f3.f1), .string ((rd_T38 l0 x14_1).f1.f3.f2)] 36 (0, 0))) := ⟨by (with_reducible repeat (first | refine blk_drewN ?_ _ | refine blk_drew ?_ | refine blk_alloc ?_ _)); apply bp6; (with_reducible repeat (first | refine blk_drewN ?_ _ | refine blk_drew ?_ | refine blk_alloc ?_ _)); refine bf4 ?_ NB257_256.out; (with_reducible repeat (first | refine blk_drewN ?_ _ | refine blk_drew ?_ | refine blk_alloc ?_ _)); exact BK257.out⟩
    have n4_ : Aside0 (Below w.heap.size w ((((((((((w67.setCell ⟨gb256, 0, none⟩ (.string ((rd_T38 l0 x14_1).f0.f0))).setCell ⟨gb256, 1, none⟩ (.string ((rd_T38 l0 x14_1).f0.f1))).setCell ⟨gb256, 2, none⟩ (.int .i64 ((rd_T38 l0 x14_1).f0.f2))).setCell ⟨gb256, 3, none⟩ (.string ((rd_T38 l0 x14_1).f0.f3))).setCell ⟨gb257, 0, none⟩ (.int .i64 ((rd_T38 l0 x14_1).f1.f0))).setCell ⟨gb257, 1, none⟩ (.bool false)).setCell ⟨gb257, 2, none⟩ (.int .i64 ((rd_T38 l0 x14_1).f1.f2))).setCell ⟨gb257, 3, none⟩ (.int .i64 ((rd_T38 l0 x14_1).f1.f3.f0))).setCell ⟨gb257, 4, none⟩ (.int .i64 ((rd_T38 l0 x14_1).f1.f3.f1))).setCell ⟨gb257, 5, none⟩ (.string ((rd_T38 l0 x14_1).f1.f3.f2)))) := ⟨by repeat (first | (with_reducible first | exact HB.out | apply bA_ | apply bN_ | apply bD_ | refine bS_ ?_ GE255 | refine bS_ ?_ GE256 | refine bS_ ?_ GE257) | exact HB.out)⟩
    (try clear HO_3)
    (try clear BK255)
    (try clear BK256)
    (try clear BK257)
    (try clear HB)
    generalize ((((((((((w67.setCell ⟨gb256, 0, none⟩ (.string ((rd_T38 l0 x14_1).f0.f0))).setCell ⟨gb256, 1, none⟩ (.string ((rd_T38 l0 x14_1).f0.f1))).setCell ⟨gb256, 2, none⟩ (.int .i64 ((rd_T38 l0 x14_1).f0.f2))).setCell ⟨gb256, 3, none⟩ (.string ((rd_T38 l0 x14_1).f0.f3))).setCell ⟨gb257, 0, none⟩ (.int .i64 ((rd_T38 l0 x14_1).f1.f0))).setCell ⟨gb257, 1, none⟩ (.bool false)).setCell ⟨gb257, 2, none⟩ (.int .i64 ((rd_T38 l0 x14_1).f1.f2))).setCell ⟨gb257, 3, none⟩ (.int .i64 ((rd_T38 l0 x14_1).f1.f3.f0))).setCell ⟨gb257, 4, none⟩ (.int .i64 ((rd_T38 l0 x14_1).f1.f3.f1))).setCell ⟨gb257, 5, none⟩ (.string ((rd_T38 l0 x14_1).f1.f3.f2))) = w78 at n0_ n1_ n2_ n3_ n4_ ⊢
    have HO_3 := n0_
    have BK255 := n1_
    have BK256 := n2_
    have BK257 := n3_
    have HB := n4_
    clear n0_ n1_ n2_ n3_ n4_
    replace HO_3 := Aside0.mk (Kd.R_drew HO_3.out)
    replace BK255 := Aside0.mk (blk_drew BK255.out)
    replace BK256 := Aside0.mk (blk_drew BK256.out)
    replace BK257 := Aside0.mk (blk_drew BK257.out)
    replace HB := Aside0.mk (below_drew1 HB.out)
    obtain ⟨Ao80, co80, eo80⟩ := Kd.R_slice HO_3.out
    (first | subst eo80 | (injection eo80 with f1_ f2_ f3_; have f4_ := f1_.symm; have f5_ := f3_.symm; clear f1_ f2_ f3_; subst f4_; subst f5_))
    refine start_ (n := 15) (S := fun w' => w'.cell? ⟨gb256, 0, none⟩ = some (.string ((rd_T38 l0 x14_1).f0.f0)) ∧ w'.cell? ⟨gb256, 1, none⟩ = some (.string ((rd_T38 l0 x14_1).f0.f1)) ∧ w'.cell? ⟨gb256, 2, none⟩ = some (.int .i64 ((rd_T38 l0 x14_1).f0.f2)) ∧ w'.cell? ⟨gb256, 3, none⟩ = some (.string ((rd_T38 l0 x14_1).f0.f3))) (ds := []) (tf_ 0 15) (by kernel_rfl) rfl rfl (cd4 BK256) (fun hHeld => ?_); refine with_tabW codec_Cells.tab6 codec_Cells.bits6 (fun HT_ HW_ => ?_)
    generalize w78.drew = w79 at HO_3 BK255 BK256 BK257 HB hHeld ⊢
    refine pure_ (i := 0) (N := some 22) (v := ?_) (a' := ?_) (tf_ 1 14) rfl rfl (any_of HT_.out (by kernel_rfl)) (fun _ _ _ h => h) (Or.inl ⟨by rfl, ?_⟩) ?_ ?_
    rotate_left; · (intro w'; go_simp; with_reducible rfl)
    rotate_left; · (simp only [Act.put, sT_, sO_, sN_, i64_w, i32_w]; rfl)
    refine pure_ (i := 1) (N := some 23) (v := ?_) (a' := ?_) (tf_ 2 13) rfl rfl (any_of HT_.out (by kernel_rfl)) (fun _ _ _ h => h) (Or.inl ⟨by rfl, ?_⟩) ?_ ?_
    rotate_left; · (intro w'; go_simp; with_reducible rfl)
    rotate_left; · (simp only [Act.put, sT_, sO_, sN_, i64_w, i32_w]; rfl)
    refine pure_ (i := 4) (N := some 26) (v := ?_) (a' := ?_) (tb_ 19 15) rfl rfl (any_of HT_.out (by kernel_rfl)) (fun _ _ _ h => h) (Or.inl ⟨by rfl, ?_⟩) ?_ ?_
    rotate_left; · (intro w'; go_simp; with_reducible rfl)
    rotate_left; · (simp only [Act.put, sT_, sO_, sN_, i64_w, i32_w]; rfl)
    refine pure_ (i := 7) (N := some 29) (v := ?_) (a' := ?_) (tb_ 147 15) rfl rfl (any_of HT_.out (by kernel_rfl)) (fun _ _ _ h => h) (Or.inl ⟨by rfl, ?_⟩) ?_ ?_
    rotate_left; · (intro w'; go_simp; with_reducible rfl)
    rotate_left; · (simp only [Act.put, sT_, sO_, sN_, i64_w, i32_w]; rfl)
    refine pure_ (i := 11) (N := some 33) (v := ?_) (a' := ?_) (tb_ 2195 15) rfl rfl (any_of HT_.out (by kernel_rfl)) (fun _ _ _ h => h) (Or.inl ⟨by rfl, ?_⟩) ?_ ?_
    rotate_left; · (intro w'; go_simp; with_reducible rfl)
    rotate_left; · (simp only [Act.put, sT_, sO_, sN_, i64_w, i32_w]; rfl)
    refine take_ (i := 2) (N := some 24) (v := ?_) (a' := ?_) (tb_ 2199 15) rfl rfl (take_ofW HT_.out HW_.out (by kernel_rfl)) (fun _ _ _ h => h) (Or.inl ⟨by rfl, ?_⟩) hHeld ?_ ?_
    rotate_left; · (rintro w' ⟨s0, s1, s2, s3⟩; go_simp; with_reducible rfl)
    rotate_left; · (simp only [Act.put, sT_, sO_, sN_, i64_w, i32_w]; rfl)
    refine take_ (i := 5) (N := some 27) (v := ?_) (a' := ?_) (tb_ 2231 15) rfl rfl (take_ofW HT_.out HW_.out (by kernel_rfl)) (fun _ _ _ h => h) (Or.inl ⟨by rfl, ?_⟩) hHeld ?_ ?_
    rotate_left; · (rintro w' ⟨s0, s1, s2, s3⟩; go_simp; with_reducible rfl)
    rotate_left; · (simp only [Act.put, sT_, sO_, sN_, i64_w, i32_w]; rfl)
    refine take_ (i := 8) (N := some 30) (v := ?_) (a' := ?_) (tb_ 2487 15) rfl rfl (take_ofW HT_.out HW_.out (by kernel_rfl)) (fun _ _ _ h => h) (Or.inl ⟨by rfl, ?_⟩) hHeld ?_ ?_
    rotate_left; · (rintro w' ⟨s0, s1, s2, s3⟩; go_simp; with_reducible rfl)
    rotate_left; · (simp only [Act.put, sT_, sO_, sN_, i64_w, i32_w]; rfl)
    refine take_ (i := 12) (N := some 34) (v := ?_) (a' := ?_) (tb_ 6583 15) rfl rfl (take_ofW HT_.out HW_.out (by kernel_rfl)) (fun _ _ _ h => h) (Or.inl ⟨by rfl, ?_⟩) hHeld ?_ ?_
    rotate_left; · (rintro w' ⟨s0, s1, s2, s3⟩; go_simp; with_reducible rfl)
    rotate_left; · (simp only [Act.put, sT_, sO_, sN_, i64_w, i32_w]; rfl)
    refine one_ (i := 3) (N := some 25) (tb_ 6591 15) rfl rfl (one_of HT_.out (by kernel_rfl)) (by decide) (fun K hK => ?_)
    refine goes_ Try.func73 (by kernel_rfl) rfl #[.slice Ao80 x3_1.length co80, .string ((rd_T38 l0 x14_1).f0.f0)] (by rfl) rfl rfl (by (try simp only [mT_, mC_, mN_]); first | done | rfl) ?_
    with_reducible refine (codec_text.calls k1 (fun k_ => some k_ = (.slice Ao80 x3_1.length co80 : Value).ownBlock) (.slice Ao80 x3_1.length co80) x3_1 ((rd_T38 l0 x14_1).f0.f0) t258 w _ ?side1 ?side2 A7.out).mono ?_
    (case side1 => repeat (first | (with_reducible first | exact HB.out | apply bA_ | apply bN_ | apply bD_ | refine bS_ ?_ GE255 | refine bS_ ?_ GE256 | refine bS_ ?_ GE257) | exact HB.out))
    (case side2 => exact Kd.R_tight rfl HO_3.out)
    rintro e w81 ⟨v259, rfl, ho0, hb, hkp⟩
    refine ⟨_, rfl, ?_⟩
    replace BK255 := kK BK255 hkp (Kd.R_ne HO_3.out BK255.out (by decide))
    replace BK256 := kK BK256 hkp (Kd.R_ne HO_3.out BK256.out (by decide))
    replace BK257 := kK BK257 hkp (Kd.R_ne HO_3.out BK257.out (by decide))
    have HO260 := Aside0.mk (Kd.R_mono (ok' := fun k_ => True) ho0 (fun k_ hk_ => trivial))
    replace HB := Aside0.mk (hb)
    clear HO_3
    (try clear hb)
    (try clear hkp)
    (try clear ho0)
    obtain ⟨Ao82, co82, eo82⟩ := Kd.R_slice HO260.out
    (first | subst eo82 | (injection eo82 with f1_ f2_ f3_; have f4_ := f1_.symm; have f5_ := f3_.symm; clear f1_ f2_ f3_; subst f4_; subst f5_))
    refine hK.out _ _ (cd4 BK256) (fun hHeld => ?_)
    clear hK K
    refine norm_ (a' := ?_) ?_ ?_
    rotate_left
    ·
     show Act.put _ (some 25) _ = _
     simp only [Act.put, sT_, sO_, sN_, i64_w, i32_w]
     rfl
    refine one_ (i := 6) (N := some 28) (tb_ 6655 15) rfl rfl (one_of HT_.out (by kernel_rfl)) (by decide) (fun K hK => ?_)
    refine goes_ Try.func73 (by kernel_rfl) rfl #[.slice Ao82 t258.length co82, .string ((rd_T38 l0 x14_1).f0.f1)] (by rfl) rfl rfl (by (try simp only [mT_, mC_, mN_]); first | done | rfl) ?_
    with_reducible refine (codec_text.calls k1 (fun k_ => some k_ = (.slice Ao82 t258.length co82 : Value).ownBlock) (.slice Ao82 t258.length co82) t258 ((rd_T38 l0 x14_1).f0.f1) t261 w _ ?side1 ?side2 A8.out).mono ?_
    (case side1 => repeat (first | (with_reducible first | exact HB.out | apply bA_ | apply bN_ | apply bD_ | refine bS_ ?_ GE255 | refine bS_ ?_ GE256 | refine bS_ ?_ GE257) | exact HB.out))
    (case side2 => exact Kd.R_tight rfl HO260.out)
    rintro e w83 ⟨v262, rfl, ho0, hb, hkp⟩
    refine ⟨_, rfl, ?_⟩
    replace BK255 := kK BK255 hkp (Kd.R_ne HO260.out BK255.out (by decide))
    replace BK256 := kK BK256 hkp (Kd.R_ne HO260.out BK256.out (by decide))
    replace BK257 := kK BK257 hkp (Kd.R_ne HO260.out BK257.out (by decide))
    have HO263 := Aside0.mk (Kd.R_mono (ok' := fun k_ => True) ho0 (fun k_ hk_ => trivial))
    replace HB := Aside0.mk (hb)
    clear HO260
    (try clear hb)
    (try clear hkp)
    (try clear ho0)
    refine hK.out _ _ (cd4 BK256) (fun hHeld => ?_)
    clear hK K
    refine norm_ (a' := ?_) ?_ ?_
    rotate_left
    ·
     show Act.put _ (some 28) _ = _
     simp only [Act.put, sT_, sO_, sN_, i64_w, i32_w]
     rfl
    refine one_ (i := 9) (N := some 31) (tb_ 7167 15) rfl rfl (one_of HT_.out (by kernel_rfl)) (by decide) (fun K hK => ?_)
    refine goes_ Try.func74 (by kernel_rfl) rfl #[.int .i64 ((rd_T38 l0 x14_1).f0.f2)] (by rfl) rfl rfl (by (try simp only [mT_, mC_, mN_]); first | done | rfl) ?_
    with_reducible refine (codec_Zig.calls ((rd_T38 l0 x14_1).f0.f2) t264 _ A9.out).mono ?_
    rintro e w' ⟨rfl, ⟨nd, rfl⟩⟩
    refine ⟨_, rfl, ?_⟩
    obtain ⟨Ao84, co84, eo84⟩ := Kd.R_slice HO263.out
    (first | subst eo84 | (injection eo84 with f1_ f2_ f3_; have f4_ := f1_.symm; have f5_ := f3_.symm; clear f1_ f2_ f3_; subst f4_; subst f5_))
    refine hK.out _ _ (cd4 BK256) (fun hHeld => ?_)
    clear hK K
    refine norm_ (a' := ?_) ?_ ?_
    rotate_left
    ·
     show Act.put _ (some 31) _ = _
     simp only [Act.put, sT_, sO_, sN_, i64_w, i32_w]
     rfl
    refine one_ (i := 10) (N := some 32) (tf_ 13 2) rfl rfl (one_of HT_.out (by kernel_rfl)) (by decide) (fun K hK => ?_)
    refine goes_ Try.func72 (by kernel_rfl) rfl #[.slice Ao84 t261.length co84, .int .u64 t264] (by rfl) rfl rfl (by (try simp only [mT_, mC_, mN_]); first | done | rfl) ?_
    with_reducible refine (codec_put.calls k1 (fun k_ => some k_ = (.slice Ao84 t261.length co84 : Value).ownBlock) (.slice Ao84 t261.length co84) t261 t264 t265 w _ ?side1 ?side2 A10.out).mono ?_
    (case side1 => repeat (first | (with_reducible first | exact HB.out | apply bA_ | apply bN_ | apply bD_ | refine bS_ ?_ GE255 | refine bS_ ?_ GE256 | refine bS_ ?_ GE257) | exact HB.out))
    (case side2 => exact Kd.R_tight rfl HO263.out)
    rintro e w85 ⟨v266, rfl, ho0, hb, hkp⟩
    refine ⟨_, rfl, ?_⟩
    replace BK255 := kK BK255 hkp (Kd.R_ne HO263.out BK255.out (by decide))
    replace BK256 := kK BK256 hkp (Kd.R_ne HO263.out BK256.out (by decide))
    replace BK257 := kK BK257 hkp (Kd.R_ne HO263.out BK257.out (by decide))
    have HO267 := Aside0.mk (Kd.R_mono (ok' := fun k_ => True) ho0 (fun k_ hk_ => trivial))
    replace HB := Aside0.mk (hb)
    clear HO263
    (try clear hb)
    (try clear hkp)
    (try clear ho0)
    obtain ⟨Ao86, co86, eo86⟩ := Kd.R_slice HO267.out
    (first | subst eo86 | (injection eo86 with f1_ f2_ f3_; have f4_ := f1_.symm; have f5_ := f3_.symm; clear f1_ f2_ f3_; subst f4_; subst f5_))
    refine hK.out _ _ (cd4 BK256) (fun hHeld => ?_)
    clear hK K
    refine norm_ (a' := ?_) ?_ ?_
    rotate_left
    ·
     show Act.put _ (some 32) _ = _
     simp only [Act.put, sT_, sO_, sN_, i64_w, i32_w]
     rfl
    refine one_ (i := 13) (N := some 35) (tf_ 14 1) rfl rfl (one_of HT_.out (by kernel_rfl)) (by decide) (fun K hK => ?_)
    refine goes_ Try.func73 (by kernel_rfl) rfl #[.slice Ao86 t265.length co86, .string ((rd_T38 l0 x14_1).f0.f3)] (by rfl) rfl rfl (by (try simp only [mT_, mC_, mN_]); first | done | rfl) ?_
    with_reducible refine (codec_text.calls k1 (fun k_ => some k_ = (.slice Ao86 t265.length co86 : Value).ownBlock) (.slice Ao86 t265.length co86) t265 ((rd_T38 l0 x14_1).f0.f3) t268 w _ ?side1 ?side2 A11.out).mono ?_
    (case side1 => repeat (first | (with_reducible first | exact HB.out | apply bA_ | apply bN_ | apply bD_ | refine bS_ ?_ GE255 | refine bS_ ?_ GE256 | refine bS_ ?_ GE257) | exact HB.out))
    (case side2 => exact Kd.R_tight rfl HO267.out)
    rintro e w87 ⟨v269, rfl, ho0, hb, hkp⟩
    refine ⟨_, rfl, ?_⟩
    replace BK255 := kK BK255 hkp (Kd.R_ne HO267.out BK255.out (by decide))
    replace BK256 := kK BK256 hkp (Kd.R_ne HO267.out BK256.out (by decide))
    replace BK257 := kK BK257 hkp (Kd.R_ne HO267.out BK257.out (by decide))
    have HO270 := Aside0.mk (Kd.R_mono (ok' := fun k_ => True) ho0 (fun k_ hk_ => trivial))
    replace HB := Aside0.mk (hb)
    clear HO267
    (try clear hb)
    (try clear hkp)
    (try clear ho0)
    refine hK.out _ _ (cd4 BK256) (fun hHeld => ?_)
    clear hK K
    refine norm_ (a' := ?_) ?_ ?_
    rotate_left
    ·
     show Act.put _ (some 35) _ = _
     simp only [Act.put, sT_, sO_, sN_, i64_w, i32_w]
     rfl
    refine pure_ (i := 14) (N := some 3) (v := ?_) (a' := ?_) (tf_ 15 0) rfl rfl (any_of HT_.out (by kernel_rfl)) (fun _ _ _ h => h) (Or.inl ⟨by rfl, ?_⟩) ?_ ?_
    rotate_left; · (intro w'; go_simp; with_reducible rfl)
    rotate_left; · (simp only [Act.put, sT_, sO_, sN_, i64_w, i32_w]; rfl)
    refine done_ (done_of HT_.out (by kernel_rfl)) ?_
    have hnb88 := NB257_255.out
    have hnc88 := NB255_257.out
    have hnb89 := NB257_256.out
    have hnc89 := NB256_257.out
    obtain ⟨_, _, _, _, _, _, _, _, _, _, _, _⟩ := czf6 BK257
    try go_wp2_with (first | ((with_reducible refine gate_callee (f := 74) rfl ?_); refine goesL_ (some 39) rfl rfl Try.func74 (by kernel_rfl) rfl #[.int .i64 ((rd_T38 l0 x14_1).f1.f0)] rfl (by (try simp only [mT_, mC_, mN_]); first | done | rfl) ?_; (with_reducible refine (codec_Zig.calls ((rd_T38 l0 x14_1).f1.f0) t271 _ A12.out).mono ?_); rintro e w' ⟨rfl, ⟨nd, rfl⟩⟩; refine ⟨_, rfl, ?_⟩; obtain ⟨Ao91, co91, eo91⟩ := Kd.R_slice HO270.out; subst eo91) | ((with_reducible refine gate_callee (f := 72) rfl ?_); refine goesL_ (some 40) rfl rfl Try.func72 (by kernel_rfl) rfl #[.slice Ao91 t268.length co91, .int .u64 t271] rfl (by (try simp only [mT_, mC_, mN_]); first | done | rfl) ?_; (with_reducible refine (codec_put.calls k1 (fun k_ => some k_ = (.slice Ao91 t268.length co91 : Value).ownBlock) (.slice Ao91 t268.length co91) t268 t271 t272 w _ ?side1 ?side2 A13.out).mono ?_); (case side1 => repeat (first | (with_reducible first | exact HB.out | apply bA_ | apply bN_ | apply bD_ | refine bS_ ?_ GE255 | refine bS_ ?_ GE256 | refine bS_ ?_ GE257) | exact HB.out)); (case side2 => exact Kd.R_tight rfl HO270.out); rintro e w92 ⟨v273, rfl, ho0, hb, hkp⟩; refine ⟨_, rfl, ?_⟩; replace BK255 := kK BK255 hkp (Kd.R_ne HO270.out BK255.out (by decide)); replace BK256 := kK BK256 hkp (Kd.R_ne HO270.out BK256.out (by decide)); replace BK257 := kK BK257 hkp (Kd.R_ne HO270.out BK257.out (by decide)); have HO274 := Aside0.mk (Kd.R_mono (ok' := fun k_ => True) ho0 (fun k_ hk_ => trivial)); replace HB := Aside0.mk (hb); clear HO270; (try clear hb); (try clear hkp); (try clear ho0); obtain ⟨_, _, _, _, _, _, _, _, _, _, _, _⟩ := czf6 BK257))
    replace HO274 := Aside0.mk (Kd.R_drew HO274.out)
    replace BK255 := Aside0.mk (blk_drew BK255.out)
    replace BK256 := Aside0.mk (blk_drew BK256.out)
    replace BK257 := Aside0.mk (blk_drew BK257.out)
    replace HB := Aside0.mk (below_drew1 HB.out)
    refine start_ (n := 18) (S := fun w' => w'.cell? ⟨gb257, 0, none⟩ = some (.int .i64 ((rd_T38 l0 x14_1).f1.f0)) ∧ w'.cell? ⟨gb257, 1, none⟩ = some (.bool false) ∧ w'.cell? ⟨gb257, 2, none⟩ = some (.int .i64 ((rd_T38 l0 x14_1).f1.f2)) ∧ w'.cell? ⟨gb257, 3, none⟩ = some (.int .i64 ((rd_T38 l0 x14_1).f1.f3.f0)) ∧ w'.cell? ⟨gb257, 4, none⟩ = some (.int .i64 ((rd_T38 l0 x14_1).f1.f3.f1)) ∧ w'.cell? ⟨gb257, 5, none⟩ = some (.string ((rd_T38 l0 x14_1).f1.f3.f2))) (ds := []) (tf_ 0 18) (by kernel_rfl) rfl rfl (cd6 BK257) (fun hHeld => ?_); refine with_tabW codec_Cells.tab10 codec_Cells.bits10 (fun HT_ HW_ => ?_)
    generalize w92.drew = w94 at HO274 BK255 BK256 BK257 HB hHeld ⊢
    refine pure_ (i := 0) (N := some 50) (v := ?_) (a' := ?_) (tf_ 1 17) rfl rfl (any_of HT_.out (by kernel_rfl)) (fun _ _ _ h => h) (Or.inl ⟨by rfl, ?_⟩) ?_ ?_
    rotate_left; · (intro w'; go_simp; with_reducible rfl)
    rotate_left; · (simp only [Act.put, sT_, sO_, sN_, i64_w, i32_w]; rfl)
    refine pure_ (i := 3) (N := some 53) (v := ?_) (a' := ?_) (tb_ 9 18) rfl rfl (any_of HT_.out (by kernel_rfl)) (fun _ _ _ h => h) (Or.inl ⟨by rfl, ?_⟩) ?_ ?_
    rotate_left; · (intro w'; go_simp; with_reducible rfl)
    rotate_left; · (simp only [Act.put, sT_, sO_, sN_, i64_w, i32_w]; rfl)
    refine pure_ (i := 4) (N := some 54) (v := ?_) (a' := ?_) (tb_ 25 18) rfl rfl (any_of HT_.out (by kernel_rfl)) (fun _ _ _ h => h) (Or.inl ⟨by rfl, ?_⟩) ?_ ?_
    rotate_left; · (intro w'; go_simp; with_reducible rfl)
    rotate_left; · (simp only [Act.put, sT_, sO_, sN_, i64_w, i32_w]; rfl)
    refine pure_ (i := 8) (N := some 58) (v := ?_) (a' := ?_) (tb_ 281 18) rfl rfl (any_of HT_.out (by kernel_rfl)) (fun _ _ _ h => h) (Or.inl ⟨by rfl, ?_⟩) ?_ ?_
    rotate_left; · (intro w'; go_simp; with_reducible rfl)
    rotate_left; · (simp only [Act.put, sT_, sO_, sN_, i64_w, i32_w]; rfl)
    refine pure_ (i := 9) (N := some 59) (v := ?_) (a' := ?_) (tb_ 793 18) rfl rfl (any_of HT_.out (by kernel_rfl)) (fun _ _ _ h => h) (Or.inl ⟨by rfl, ?_⟩) ?_ ?_
    rotate_left; · (intro w'; go_simp; with_reducible rfl)
    rotate_left; · (simp only [Act.put, sT_, sO_, sN_, i64_w, i32_w]; rfl)
    refine pure_ (i := 13) (N := some 63) (v := ?_) (a' := ?_) (tb_ 8985 18) rfl rfl (any_of HT_.out (by kernel_rfl)) (fun _ _ _ h => h) (Or.inl ⟨by rfl, ?_⟩) ?_ ?_
    rotate_left; · (intro w'; go_simp; with_reducible rfl)
    rotate_left; · (simp only [Act.put, sT_, sO_, sN_, i64_w, i32_w]; rfl)
    refine pure_ (i := 14) (N := some 64) (v := ?_) (a' := ?_) (tb_ 25369 18) rfl rfl (any_of HT_.out (by kernel_rfl)) (fun _ _ _ h => h) (Or.inl ⟨by rfl, ?_⟩) ?_ ?_
    rotate_left; · (intro w'; go_simp; with_reducible rfl)
    rotate_left; · (simp only [Act.put, sT_, sO_, sN_, i64_w, i32_w]; rfl)
    refine take_ (i := 5) (N := some 55) (v := ?_) (a' := ?_) (tb_ 25401 18) rfl rfl (take_ofW HT_.out HW_.out (by kernel_rfl)) (fun _ _ _ h => h) (Or.inl ⟨by rfl, ?_⟩) hHeld ?_ ?_
    rotate_left; · (rintro w' ⟨s0, s1, s2, s3, s4, s5⟩; go_simp; with_reducible rfl)
    rotate_left; · (simp only [Act.put, sT_, sO_, sN_, i64_w, i32_w]; rfl)
    refine pure_ (i := 6) (N := some 56) (v := ?_) (a' := ?_) (tb_ 25465 18) rfl rfl (any_of HT_.out (by kernel_rfl)) (fun _ _ _ h => h) (Or.inl ⟨by rfl, ?_⟩) ?_ ?_
    rotate_left; · (intro w'; go_simp; with_reducible rfl)
    rotate_left; · (simp only [Act.put, sT_, sO_, sN_, i64_w, i32_w]; rfl)
    refine take_ (i := 10) (N := some 60) (v := ?_) (a' := ?_) (tb_ 26489 18) rfl rfl (take_ofW HT_.out HW_.out (by kernel_rfl)) (fun _ _ _ h => h) (Or.inl ⟨by rfl, ?_⟩) hHeld ?_ ?_
    rotate_left; · (rintro w' ⟨s0, s1, s2, s3, s4, s5⟩; go_simp; with_reducible rfl)
    rotate_left; · (simp only [Act.put, sT_, sO_, sN_, i64_w, i32_w]; rfl)
    refine take_ (i := 15) (N := some 65) (v := ?_) (a' := ?_) (tb_ 59257 18) rfl rfl (take_ofW HT_.out HW_.out (by kernel_rfl)) (fun _ _ _ h => h) (Or.inl ⟨by rfl, ?_⟩) hHeld ?_ ?_
    rotate_left; · (rintro w' ⟨s0, s1, s2, s3, s4, s5⟩; go_simp; with_reducible rfl)
    rotate_left; · (simp only [Act.put, sT_, sO_, sN_, i64_w, i32_w]; rfl)
    refine one_ (i := 1) (N := some 51) (tb_ 59259 18) rfl rfl (one_of HT_.out (by kernel_rfl)) (by decide) (fun K hK => ?_)
    refine value_ (w1 := ?_) (v := ?_) (by rfl) rfl ?_ ?_
    rotate_left 2
    ·
     go_simp
     constructor
     ·
      rfl
     ·
      rfl
    refine hK.out _ _ ⟨(blk_cell (blk_alloc BK257.out _) 0).trans rfl, (blk_cell (blk_alloc BK257.out _) 1).trans rfl, (blk_cell (blk_alloc BK257.out _) 2).trans rfl, (blk_cell (blk_alloc BK257.out _) 3).trans rfl, (blk_cell (blk_alloc BK257.out _) 4).trans rfl, (blk_cell (blk_alloc BK257.out _) 5).trans rfl⟩ (fun hHeld => ?_)
    clear hK K
    refine norm_ (a' := ?_) ?_ ?_
    rotate_left
    ·
     show Act.put _ (some 51) _ = _
     simp only [Act.put, sT_, sO_, sN_, i64_w, i32_w]
     rfl
    refine one_ (i := 2) (N := some 52) (tb_ 59263 18) rfl rfl (one_of HT_.out (by kernel_rfl)) (by decide) (fun K hK => ?_)
    refine Kd.R_append_step (Kd.int .u8) (w0 := w) w.heap.size (by rfl) (.tmp 50) (.tmp 51) 55 5 (.int .u8 0) 1 rfl Try.underlying55 info5 rfl (by decide) (by omega) v273 t272 0 [.int .u8 0] (fun _ => True) (fun _ => False) rfl rfl ?aP (fun _ hk => hk.elim) ?aF ?aO ?aB ?aS ?aL ?_
    (case aP => exact rfl)
    (case aB => exact (by repeat (first | (with_reducible first | exact HB.out | apply bA_ | apply bN_ | apply bD_ | refine bS_ ?_ GE255 | refine bS_ ?_ GE256 | refine bS_ ?_ GE257) | exact HB.out)))
    (case aF => exact (fun _ _ => trivial))
    (case aO => exact (krW HO274))
    (case aS => exact (bZ_ (by repeat (first | (with_reducible first | exact HB.out | apply bA_ | apply bN_ | apply bD_ | refine bS_ ?_ GE255 | refine bS_ ?_ GE256 | refine bS_ ?_ GE257) | exact HB.out))))
    (case aL => have := LMc56.out; omega)
    intro v283 w95 ho hb hg hat
    rw [← Ny282.out] at ho
    replace BK255 := Aside0.mk (blk_grown (kbW BK255) hg (Kd.R_ne HO274.out BK255.out (by decide)))
    replace BK256 := Aside0.mk (blk_grown (kbW BK256) hg (Kd.R_ne HO274.out BK256.out (by decide)))
    replace BK257 := Aside0.mk (blk_grown (kbW BK257) hg (Kd.R_ne HO274.out BK257.out (by decide)))
    replace HB := Aside0.mk (hb)
    have HO284 := Aside0.mk (ho)
    clear HO274
    clear ho hb hg hat
    obtain ⟨Ao96, co96, eo96⟩ := Kd.R_slice HO284.out
    (first | subst eo96 | (injection eo96 with f1_ f2_ f3_; have f4_ := f1_.symm; have f5_ := f3_.symm; clear f1_ f2_ f3_; subst f4_; subst f5_))
    refine hK.out _ _ (cd6 BK257) (fun hHeld => ?_)
    clear hK K
    refine norm_ (a' := ?_) ?_ ?_
    rotate_left
    ·
     show Act.put _ (some 52) _ = _
     simp only [Act.put, sT_, sO_, sN_, i64_w, i32_w]
     rfl
    refine one_ (i := 7) (N := some 57) (tb_ 59391 18) rfl rfl (one_of HT_.out (by kernel_rfl)) (by decide) (fun K hK => ?_)
    refine goes_ Try.func72 (by kernel_rfl) rfl #[.slice Ao96 y282.length co96, .int .u64 (IntKind.u64.wrap ((rd_T38 l0 x14_1).f1.f3.f0))] (by rfl) rfl rfl (by (try simp only [mT_, mC_, mN_]); first | done | rfl) ?_
    with_reducible refine (codec_put.calls k1 (fun k_ => some k_ = (.slice Ao96 y282.length co96 : Value).ownBlock) (.slice Ao96 y282.length co96) y282 (IntKind.u64.wrap ((rd_T38 l0 x14_1).f1.f3.f0)) t285 w _ ?side1 ?side2 A57.out).mono ?_
    (case side1 => repeat (first | (with_reducible first | exact HB.out | apply bA_ | apply bN_ | apply bD_ | refine bS_ ?_ GE255 | refine bS_ ?_ GE256 | refine bS_ ?_ GE257) | exact HB.out))
    (case side2 => exact Kd.R_tight rfl HO284.out)
    rintro e w97 ⟨v286, rfl, ho0, hb, hkp⟩
    refine ⟨_, rfl, ?_⟩
    replace BK255 := kK BK255 hkp (Kd.R_ne HO284.out BK255.out (by decide))
    replace BK256 := kK BK256 hkp (Kd.R_ne HO284.out BK256.out (by decide))
    replace BK257 := kK BK257 hkp (Kd.R_ne HO284.out BK257.out (by decide))
    have HO287 := Aside0.mk (Kd.R_mono (ok' := fun k_ => True) ho0 (fun k_ hk_ => trivial))
    replace HB := Aside0.mk (hb)
    clear HO284
    (try clear hb)
    (try clear hkp)
    (try clear ho0)
    refine hK.out _ _ (cd6 BK257) (fun hHeld => ?_)
    clear hK K
    refine norm_ (a' := ?_) ?_ ?_
    rotate_left
    ·
     show Act.put _ (some 57) _ = _
     simp only [Act.put, sT_, sO_, sN_, i64_w, i32_w]
     rfl
    refine one_ (i := 11) (N := some 61) (tb_ 61439 18) rfl rfl (one_of HT_.out (by kernel_rfl)) (by decide) (fun K hK => ?_)
    refine goes_ Try.func74 (by kernel_rfl) rfl #[.int .i64 ((rd_T38 l0 x14_1).f1.f3.f1)] (by rfl) rfl rfl (by (try simp only [mT_, mC_, mN_]); first | done | rfl) ?_
    with_reducible refine (codec_Zig.calls ((rd_T38 l0 x14_1).f1.f3.f1) t288 _ A58.out).mono ?_
    rintro e w' ⟨rfl, ⟨nd, rfl⟩⟩
    refine ⟨_, rfl, ?_⟩
    obtain ⟨Ao98, co98, eo98⟩ := Kd.R_slice HO287.out
    (first | subst eo98 | (injection eo98 with f1_ f2_ f3_; have f4_ := f1_.symm; have f5_ := f3_.symm; clear f1_ f2_ f3_; subst f4_; subst f5_))
    refine hK.out _ _ (cd6 BK257) (fun hHeld => ?_)
    clear hK K
    refine norm_ (a' := ?_) ?_ ?_
    rotate_left
    ·
     show Act.put _ (some 61) _ = _
     simp only [Act.put, sT_, sO_, sN_, i64_w, i32_w]
     rfl
    refine one_ (i := 12) (N := some 62) (tf_ 16 2) rfl rfl (one_of HT_.out (by kernel_rfl)) (by decide) (fun K hK => ?_)
    refine goes_ Try.func72 (by kernel_rfl) rfl #[.slice Ao98 t285.length co98, .int .u64 t288] (by rfl) rfl rfl (by (try simp only [mT_, mC_, mN_]); first | done | rfl) ?_
    with_reducible refine (codec_put.calls k1 (fun k_ => some k_ = (.slice Ao98 t285.length co98 : Value).ownBlock) (.slice Ao98 t285.length co98) t285 t288 t289 w _ ?side1 ?side2 A59.out).mono ?_
    (case side1 => repeat (first | (with_reducible first | exact HB.out | apply bA_ | apply bN_ | apply bD_ | refine bS_ ?_ GE255 | refine bS_ ?_ GE256 | refine bS_ ?_ GE257) | exact HB.out))
    (case side2 => exact Kd.R_tight rfl HO287.out)
    rintro e w99 ⟨v290, rfl, ho0, hb, hkp⟩
    refine ⟨_, rfl, ?_⟩
    replace BK255 := kK BK255 hkp (Kd.R_ne HO287.out BK255.out (by decide))
    replace BK256 := kK BK256 hkp (Kd.R_ne HO287.out BK256.out (by decide))
    replace BK257 := kK BK257 hkp (Kd.R_ne HO287.out BK257.out (by decide))
    have HO291 := Aside0.mk (Kd.R_mono (ok' := fun k_ => True) ho0 (fun k_ hk_ => trivial))
    replace HB := Aside0.mk (hb)
    clear HO287
    (try clear hb)
    (try clear hkp)
    (try clear ho0)
    obtain ⟨Ao100, co100, eo100⟩ := Kd.R_slice HO291.out
    (first | subst eo100 | (injection eo100 with f1_ f2_ f3_; have f4_ := f1_.symm; have f5_ := f3_.symm; clear f1_ f2_ f3_; subst f4_; subst f5_))
    refine hK.out _ _ (cd6 BK257) (fun hHeld => ?_)
    clear hK K
    refine norm_ (a' := ?_) ?_ ?_
    rotate_left
    ·
     show Act.put _ (some 62) _ = _
     simp only [Act.put, sT_, sO_, sN_, i64_w, i32_w]
     rfl
    refine one_ (i := 16) (N := some 66) (tf_ 17 1) rfl rfl (one_of HT_.out (by kernel_rfl)) (by decide) (fun K hK => ?_)
    refine goes_ Try.func73 (by kernel_rfl) rfl #[.slice Ao100 t289.length co100, .string ((rd_T38 l0 x14_1).f1.f3.f2)] (by rfl) rfl rfl (by (try simp only [mT_, mC_, mN_]); first | done | rfl) ?_
    with_reducible refine (codec_text.calls k1 (fun k_ => some k_ = (.slice Ao100 t289.length co100 : Value).ownBlock) (.slice Ao100 t289.length co100) t289 ((rd_T38 l0 x14_1).f1.f3.f2) t292 w _ ?side1 ?side2 A60.out).mono ?_
    (case side1 => repeat (first | (with_reducible first | exact HB.out | apply bA_ | apply bN_ | apply bD_ | refine bS_ ?_ GE255 | refine bS_ ?_ GE256 | refine bS_ ?_ GE257) | exact HB.out))
    (case side2 => exact Kd.R_tight rfl HO291.out)
    rintro e w101 ⟨v293, rfl, ho0, hb, hkp⟩
    refine ⟨_, rfl, ?_⟩
    replace BK255 := kK BK255 hkp (Kd.R_ne HO291.out BK255.out (by decide))
    replace BK256 := kK BK256 hkp (Kd.R_ne HO291.out BK256.out (by decide))
    replace BK257 := kK BK257 hkp (Kd.R_ne HO291.out BK257.out (by decide))
    have HO294 := Aside0.mk (Kd.R_mono (ok' := fun k_ => True) ho0 (fun k_ hk_ => trivial))
    replace HB := Aside0.mk (hb)
    clear HO291
    (try clear hb)
    (try clear hkp)
    (try clear ho0)
    refine hK.out _ _ (cd6 BK257) (fun hHeld => ?_)
    clear hK K
    refine norm_ (a' := ?_) ?_ ?_
    rotate_left
    ·
     show Act.put _ (some 66) _ = _
     simp only [Act.put, sT_, sO_, sN_, i64_w, i32_w]
     rfl
    refine pure_ (i := 17) (N := some 3) (v := ?_) (a' := ?_) (tf_ 18 0) rfl rfl (any_of HT_.out (by kernel_rfl)) (fun _ _ _ h => h) (Or.inl ⟨by rfl, ?_⟩) ?_ ?_
    rotate_left; · (intro w'; go_simp; with_reducible rfl)
    rotate_left; · (simp only [Act.put, sT_, sO_, sN_, i64_w, i32_w]; rfl)
    refine done_ (done_of HT_.out (by kernel_rfl)) ?_
    try go_wp2
    go_roundg k1
    case measure => have := HK1.out; omega
    case rel => exact ⟨(t292), (wrap64 (x14_1 + 1)), (by first | rfl | (simp; done) | (simp [bne, *]; done)), H', ⟨by have := HK1.out; omega⟩, ⟨krW HO294⟩, ⟨by repeat (first | (with_reducible first | exact HB.out | apply bA_ | apply bN_ | apply bD_ | refine bS_ ?_ GE255 | refine bS_ ?_ GE256 | refine bS_ ?_ GE257) | exact HB.out)⟩⟩
end Go.Proofs.Ytafhnjlihhfoaaa.Q
