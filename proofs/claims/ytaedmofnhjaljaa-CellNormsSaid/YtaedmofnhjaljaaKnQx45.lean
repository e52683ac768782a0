/- Lemmas for this claim's walk: no condition of their own. -/
import Derived.Test.YtaedmofnhjaljaaKnSq
import Derived.Test.YtaedmofnhjaljaaKnQx0
import Derived.Test.YtaedmofnhjaljaaKnQx44
namespace Go.Proofs.Ytaedmofnhjaljaa.Q
open Go.RowKit Go.Proofs.YtaedmofnhjaljaaW.PrintWords Go.Proofs.YtaedmofnhjaljaaW.PrintLast Go.Proofs.YtaedmofnhjaljaaW.PrintMore
attribute [local go_sem] max2_int min2_int max_two min_two max_three min_three max_four min_four
set_option linter.unusedVariables false
set_option linter.unusedSimpArgs false
def skerryref01_Cells.l0 : Nat → List Int → List (S29) → Int → Int → Option (List Int)
 | 0, _, _, _, _ => none
 | k + 1, x3, x11, x12, x13 => if x13 < x12 then (if 0 ≤ x13 then (if x13 < (x11.length : Int) then ((skerryref01_PutText.f k x3 ((rd_T29 x11 x13).f0.f0)).bind fun t641 => ((skerryref01_PutText.f k t641 ((rd_T29 x11 x13).f0.f1)).bind fun t644 => ((skerryref01_Zig.f ((rd_T29 x11 x13).f0.f2)).bind fun t647 => ((skerryref01_Put.f k t644 t647).bind fun t648 => ((skerryref01_PutText.f k t648 ((rd_T29 x11 x13).f0.f3)).bind fun t651 => ((skerryref01_Zig.f ((rd_T29 x11 x13).f1.f0)).bind fun t655 => ((skerryref01_Put.f k t651 t655).bind fun t656 => (if (rd_T29 x11 x13).f1.f1 = true then (if t656.length < 140737488355328 then ((skerryref01_Zig.f ((rd_T29 x11 x13).f1.f2)).bind fun t662 => ((skerryref01_Put.f k (t656 ++ [1]) t662).bind fun t663 => (skerryref01_Cells.l0 k t663 x11 x12 (wrap64 (x13 + 1))))) else (none)) else (if t656.length < 140737488355328 then ((skerryref01_Put.f k (t656 ++ [0]) (IntKind.u64.wrap ((rd_T29 x11 x13).f1.f3.f0))).bind fun t669 => ((skerryref01_Zig.f ((rd_T29 x11 x13).f1.f3.f1)).bind fun t672 => ((skerryref01_Put.f k t669 t672).bind fun t673 => ((skerryref01_PutText.f k t673 ((rd_T29 x11 x13).f1.f3.f2)).bind fun t676 => (skerryref01_Cells.l0 k t676 x11 x12 (wrap64 (x13 + 1))))))) else (none)))))))))) else (none)) else (none)) else (some x3)
def skerryref01_Cells.f (k : Nat) (l0 : List (S29)) : Option (List Int) := (skerryref01_Put.f k ([] : List Int) (IntKind.u64.wrap ((l0.length : Int)))).bind fun t636 => (skerryref01_Cells.l0 k t636 l0 (l0.length : Int) 0)
def skerryref01_Cells.T5 : Bool × List (List Nat × List Nat) := (true, [([], []), ([], []), ([1], [1]), ([2], [2]), ([0, 3], [0, 3]), ([], []), ([5], [5]), ([6], [6]), ([4, 7, 4], [4, 7]), ([8, 8, 0, 1, 2, 3, 4, 5, 6, 7, 8], [0, 8])])
def skerryref01_Cells.B5 : List Nat := [0, 0, 2, 6, 15, 0, 32, 96, 255, 511]
theorem skerryref01_Cells.tab5 : rtab .any (opsOf Try.f51 5) = skerryref01_Cells.T5 := by kernel_rfl
theorem skerryref01_Cells.bits5 : waitsOk skerryref01_Cells.T5.2 skerryref01_Cells.B5 = true := by kernel_rfl
def skerryref01_Cells.T6 : Bool × List (List Nat × List Nat) := (true, [([], []), ([], []), ([1], [1]), ([2], [2]), ([3], [3]), ([0, 4, 4], [0, 4]), ([], []), ([6], [6]), ([7], [7]), ([5, 8, 5], [5, 8]), ([9, 9, 0, 1, 2, 3, 4, 5, 6, 7, 8, 9], [0, 9])])
def skerryref01_Cells.B6 : List Nat := [0, 0, 2, 6, 14, 31, 0, 64, 192, 511, 1023]
theorem skerryref01_Cells.tab6 : rtab .any (opsOf Try.f51 6) = skerryref01_Cells.T6 := by kernel_rfl
theorem skerryref01_Cells.bits6 : waitsOk skerryref01_Cells.T6.2 skerryref01_Cells.B6 = true := by kernel_rfl
def skerryref01_Cells.T10 : Bool × List (List Nat × List Nat) := (true, [([], []), ([], []), ([0, 1], [0, 1]), ([], []), ([3], [3]), ([4, 2], [4]), ([2, 5, 5], [2, 5]), ([6, 6, 0, 1, 2, 3, 4, 5, 6], [0, 6])])
def skerryref01_Cells.B10 : List Nat := [0, 0, 3, 0, 8, 31, 63, 127]
theorem skerryref01_Cells.tab10 : rtab .any (opsOf Try.f51 10) = skerryref01_Cells.T10 := by kernel_rfl
theorem skerryref01_Cells.bits10 : waitsOk skerryref01_Cells.T10.2 skerryref01_Cells.B10 = true := by kernel_rfl
def skerryref01_Cells.T11 : Bool × List (List Nat × List Nat) := (true, [([], []), ([], []), ([0, 1], [0, 1]), ([], []), ([3], [3]), ([4], [4]), ([5], [5]), ([2, 6, 2], [2, 6]), ([7, 7, 0, 1, 2, 3, 4, 5, 6, 7], [0, 7])])
def skerryref01_Cells.B11 : List Nat := [0, 0, 3, 0, 8, 24, 56, 127, 255]
theorem skerryref01_Cells.tab11 : rtab .any (opsOf Try.f51 11) = skerryref01_Cells.T11 := by kernel_rfl
theorem skerryref01_Cells.bits11 : waitsOk skerryref01_Cells.T11.2 skerryref01_Cells.B11 = true := by kernel_rfl
def skerryref01_Cells.T12 : Bool × List (List Nat × List Nat) := (true, [([], []), ([], []), ([1], [1]), ([2], [2]), ([3], [3]), ([0, 4, 4], [0, 4]), ([], []), ([6], [6]), ([7], [7]), ([5, 8, 5], [5, 8]), ([9, 9, 0, 1, 2, 3, 4, 5, 6, 7, 8, 9], [0, 9])])
def skerryref01_Cells.B12 : List Nat := [0, 0, 2, 6, 14, 31, 0, 64, 192, 511, 1023]
theorem skerryref01_Cells.tab12 : rtab .any (opsOf Try.f51 12) = skerryref01_Cells.T12 := by kernel_rfl
theorem skerryref01_Cells.bits12 : waitsOk skerryref01_Cells.T12.2 skerryref01_Cells.B12 = true := by kernel_rfl
set_option maxHeartbeats 8000000 in
set_option maxRecDepth 100000 in
theorem skerryref01_Cells.calls (k : Nat) (A0 : Option Addr) (c0 : Nat) (l0 : List (S29)) (r : List Int) (w : World) (hr0 : Kd.C k29 w A0 l0.length l0) (hc0 : l0.length ≤ c0) (h : skerryref01_Cells.f k l0 = some r) :
  Calls Try.prog 51 #[.slice A0 l0.length c0] w fun e w' => ∃ v0_ : Value, e = .returned (v0_) ∧ Kd.R (Kd.int .u8) 5 w' w.heap.size (fun _ => True) v0_ r ∧ Below w.heap.size w w' := by
 have hu29 := Try.underlying29
 have hu27 := Try.underlying27
 have HR0 := Aside0.mk hr0
 have HC0 := Aside0.mk hc0
 clear hr0 hc0
 have HB := Aside0.mk (Below.refl w.heap.size w)
 have H : ((skerryref01_Put.f k ([] : List Int) (IntKind.u64.wrap ((l0.length : Int)))).bind fun t636 => (skerryref01_Cells.l0 k t636 l0 (l0.length : Int) 0)) = some r := h
 clear h
 replace H := Option.bind_eq_some_iff.mp H
 obtain ⟨t636, A20, H⟩ := H
 have A2 := Aside0.mk A20
 clear A20
 have H' := Aside0.mk H
 clear H
 go_enter Try.func51, Try.ntmps51
 go_wp2_with (first | ((with_reducible refine gate_callee (f := 69) rfl ?_); refine goesL_ (some 10) rfl rfl Try.func69 (by kernel_rfl) rfl #[.slice none 0 0, .int .u64 (IntKind.u64.wrap ((l0.length : Int)))] rfl (by (try simp only [mT_, mC_, mN_]); first | done | rfl) ?_; (refine (skerryref01_Put.calls k _ _ ([] : List Int) (IntKind.u64.wrap ((l0.length : Int))) t636 _ ?side1 ?side2 A2.out).mono ?_); (case side1 => exact Kd.C_nil _ _); (case side2 => exact Nat.le_refl _); rintro e w3 ⟨v637, rfl, ho0, hb⟩; refine ⟨_, rfl, ?_⟩; have HO638 := Aside0.mk (Kd.R_lower ho0 (bZ_ (kwW HB))); replace HB := Aside0.mk (below_step (kwW HB) hb); (try clear hb); (try clear hb2); (try clear hk); (try clear hi); (try clear ho0)))
 go_loopg [3, 13] k (fun kq v3 v13 w' => ∃ (x3_1 : List Int) (x13_1 : Int), v13 = .int .i64 x13_1 ∧ Aside0 (skerryref01_Cells.l0 kq x3_1 l0 (l0.length : Int) x13_1 = some r) ∧ Aside0 (kq ≤ k) ∧ Aside0 (Kd.R (Kd.int .u8) 5 w' w.heap.size (fun _ => True) v3 x3_1) ∧ Aside0 (Below w.heap.size w w'))
 case atStart => exact ⟨(t636), (0), (by first | rfl | (simp; done) | (simp [bne, *]; done)), H', ⟨Nat.le_refl _⟩, ⟨krW HO638⟩, ⟨kwW HB⟩⟩
 case round =>
  clear H'
  try clear p2
  obtain ⟨x3_1, x13_1, rfl, HA, HK1, HO_3, HB⟩ := hrel
  cases gk with
  | zero => exact absurd HA.out (by simp [skerryref01_Cells.l0])
  | succ k1 =>
   have H := HA.out
   clear HA
   simp only [skerryref01_Cells.l0] at H
   by_cases c4 : x13_1 < (l0.length : Int)
   rotate_left
   ·
    rw [if_neg c4] at H
    have c4b0 : decide (x13_1 < (l0.length : Int)) = false := decide_eq_false c4
    clear c4
    obtain rfl := Option.some.inj H
    go_wp2
    go_ret
    exact ⟨_, by first | rfl | (simp <;> rfl) | (simp [*] <;> rfl), krW HO_3, kwW HB⟩
   rw [if_pos c4] at H
   have c4b0 : decide (x13_1 < (l0.length : Int)) = true := decide_eq_true c4
   clear c4
   by_cases c5 : 0 ≤ x13_1
   rotate_left
   ·
    rw [if_neg c5] at H
    exact absurd H (by simp)
   rw [if_pos c5] at H
   have c5b0 : decide (0 ≤ x13_1) = true := decide_eq_true c5
   clear c5
   by_cases c6 : x13_1 < (l0.length : Int)
   rotate_left
   ·
    rw [if_neg c6] at H
    exact absurd H (by simp)
   rw [if_pos c6] at H
   have c6b0 : decide (x13_1 < (l0.length : Int)) = true := decide_eq_true c6
   clear c6
   replace H := Option.bind_eq_some_iff.mp H
   obtain ⟨t641, A70, H⟩ := H
   have A7 := Aside0.mk A70
   clear A70
   replace H := Option.bind_eq_some_iff.mp H
   obtain ⟨t644, A80, H⟩ := H
   have A8 := Aside0.mk A80
   clear A80
   replace H := Option.bind_eq_some_iff.mp H
   obtain ⟨t647, A90, H⟩ := H
   have A9 := Aside0.mk A90
   clear A90
   replace H := Option.bind_eq_some_iff.mp H
   obtain ⟨t648, A100, H⟩ := H
   have A10 := Aside0.mk A100
   clear A100
   replace H := Option.bind_eq_some_iff.mp H
   obtain ⟨t651, A110, H⟩ := H
   have A11 := Aside0.mk A110
   clear A110
   replace H := Option.bind_eq_some_iff.mp H
   obtain ⟨t655, A120, H⟩ := H
   have A12 := Aside0.mk A120
   clear A120
   replace H := Option.bind_eq_some_iff.mp H
   obtain ⟨t656, A130, H⟩ := H
   have A13 := Aside0.mk A130
   clear A130
   obtain ⟨bq14, hbq14⟩ : ∃ b_ : Bool, b_ = ((rd_T29 l0 x13_1).f1.f1) := ⟨_, rfl⟩
   replace H : (if bq14 = true then (if t656.length < 140737488355328 then ((skerryref01_Zig.f ((rd_T29 l0 x13_1).f1.f2)).bind fun t662 => ((skerryref01_Put.f k1 (t656 ++ [1]) t662).bind fun t663 => (skerryref01_Cells.l0 k1 t663 l0 (l0.length : Int) (wrap64 (x13_1 + 1))))) else (none)) else (if t656.length < 140737488355328 then ((skerryref01_Put.f k1 (t656 ++ [0]) (IntKind.u64.wrap ((rd_T29 l0 x13_1).f1.f3.f0))).bind fun t669 => ((skerryref01_Zig.f ((rd_T29 l0 x13_1).f1.f3.f1)).bind fun t672 => ((skerryref01_Put.f k1 t669 t672).bind fun t673 => ((skerryref01_PutText.f k1 t673 ((rd_T29 l0 x13_1).f1.f3.f2)).bind fun t676 => (skerryref01_Cells.l0 k1 t676 l0 (l0.length : Int) (wrap64 (x13_1 + 1))))))) else (none))) = some r := by rw [← hbq14] at H; exact H
   have Nbq14 := Aside0.mk hbq14
   clear hbq14
   by_cases c15 : bq14 = true
   ·
    subst c15
    have H1 : (if t656.length < 140737488355328 then ((skerryref01_Zig.f ((rd_T29 l0 x13_1).f1.f2)).bind fun t662 => ((skerryref01_Put.f k1 (t656 ++ [1]) t662).bind fun t663 => (skerryref01_Cells.l0 k1 t663 l0 (l0.length : Int) (wrap64 (x13_1 + 1))))) else (none)) = some r := by rw [if_pos rfl] at H; exact H
    clear H
    have H := H1
    clear H1
    by_cases c16 : t656.length < 140737488355328
    rotate_left
    ·
     rw [if_neg c16] at H
     exact absurd H (by simp)
    rw [if_pos c16] at H
    have LMc16 := Aside0.mk c16
    clear c16
    obtain ⟨y659, hy659⟩ : ∃ y_ : List Int, y_ = (t656 ++ [1]) := ⟨_, rfl⟩
    replace H : ((skerryref01_Zig.f ((rd_T29 l0 x13_1).f1.f2)).bind fun t662 => ((skerryref01_Put.f k1 y659 t662).bind fun t663 => (skerryref01_Cells.l0 k1 t663 l0 (l0.length : Int) (wrap64 (x13_1 + 1))))) = some r := by first | (rw [hy659]; with_reducible exact H) | (have H2_ := (Option.bind_some _ _).symm.trans H; rw [hy659]; with_reducible exact H2_) | (have H2_ := (Option.bind_some _ _).symm.trans H; with_reducible exact H2_) | with_reducible exact H | (rw [hy659]; exact H) | exact H
    have Ny659 := Aside0.mk hy659
    clear hy659
    replace H := Option.bind_eq_some_iff.mp H
    obtain ⟨t662, A170, H⟩ := H
    have A17 := Aside0.mk A170
    clear A170
    replace H := Option.bind_eq_some_iff.mp H
    obtain ⟨t663, A180, H⟩ := H
    have A18 := Aside0.mk A180
    clear A180
    have H' := Aside0.mk H
    clear H
    have p639 : 0 ≤ (x13_1 : Int) := of_decide_eq_true (by first | (with_reducible assumption) | assumption)
    have q639 : x13_1 < (l0.length : Int) := of_decide_eq_true (by first | (with_reducible assumption) | assumption)
    obtain ⟨ad639, e639, hx639_0, hx639_1, hx639_2, hx639_3, hx639_4, hx639_5, hx639_6, hx639_7, hx639_8, hx639_9⟩ := at_T29 HR0.out x13_1 p639 q639
    (try rw [← Nbq14.out] at hx639_5)
    cases e639
    replace hx639_0 := cB_ HB hx639_0
    replace hx639_1 := cB_ HB hx639_1
    replace hx639_2 := cB_ HB hx639_2
    replace hx639_3 := cB_ HB hx639_3
    replace hx639_4 := cB_ HB hx639_4
    replace hx639_5 := cB_ HB hx639_5
    replace hx639_6 := cB_ HB hx639_6
    replace hx639_7 := cB_ HB hx639_7
    replace hx639_8 := cB_ HB hx639_8
    replace hx639_9 := cB_ HB hx639_9
    replace p639 := eq_true p639
    replace q639 := eq_true q639
    try go_wp2_with (first | ((with_reducible refine gate_dst (N := 5) rfl ?_); refine box_event ?hg (N := 5) ?hd (cs := #[.string (⟨#[]⟩ : ByteArray), .string (⟨#[]⟩ : ByteArray), .int .i64 0, .string (⟨#[]⟩ : ByteArray), .int .i64 0, .bool false, .int .i64 0, .int .i64 0, .int .i64 0, .string (⟨#[]⟩ : ByteArray)]) (t := 29) ?hr ?_; (case hd => rfl); (case hg => rfl); (case hr => first | (go_simp; done) | (go_simp; rfl)); intro gb640 hg w19 hbox hb; replace HO_3 := kR HO_3 hb; have BK640 := Aside0.mk (hbox); have GW640 := Aside0.mk ((by rw [hg]; exact (bZ_ (kwW HB)) : w.heap.size ≤ gb640)); replace HB := Aside0.mk (below_step (kwW HB) hb); have GE640 := GW640; clear hb hbox hg; obtain ⟨_, _, _, _, _, _, _, _, _, _, _, _, _, _, _, _, _, _, _, _⟩ := czf10 BK640))
    have n0_ : Aside0 (Kd.R (Kd.int .u8) 5 ((((((((((w19.setCell ⟨gb640, 0, none⟩ (.string ((rd_T29 l0 x13_1).f0.f0))).setCell ⟨gb640, 1, none⟩ (.string ((rd_T29 l0 x13_1).f0.f1))).setCell ⟨gb640, 2, none⟩ (.int .i64 ((rd_T29 l0 x13_1).f0.f2))).setCell ⟨gb640, 3, none⟩ (.string ((rd_T29 l0 x13_1).f0.f3))).setCell ⟨gb640, 4, none⟩ (.int .i64 ((rd_T29 l0 x13_1).f1.f0))).setCell ⟨gb640, 5, none⟩ (.bool true)).setCell ⟨gb640, 6, none⟩ (.int .i64 ((rd_T29 l0 x13_1).f1.f2))).setCell ⟨gb640, 7, none⟩ (.int .i64 ((rd_T29 l0 x13_1).f1.f3.f0))).setCell ⟨gb640, 8, none⟩ (.int .i64 ((rd_T29 l0 x13_1).f1.f3.f1))).setCell ⟨gb640, 9, none⟩ (.string ((rd_T29 l0 x13_1).f1.f3.f2))) w.heap.size (fun _ => True) u3 x3_1) := ⟨by (with_reducible repeat (first | apply Kd.R_alloc | apply Kd.R_drewN | apply Kd.R_drew)); exact Kd.R_mono (rf10 (Kd.R_types HO_3.out BK640.out (by decide)) (fun _ hk => hk.2)) (fun _ hk => trivial)⟩
    have n1_ : Aside0 (((((((((((w19.setCell ⟨gb640, 0, none⟩ (.string ((rd_T29 l0 x13_1).f0.f0))).setCell ⟨gb640, 1, none⟩ (.string ((rd_T29 l0 x13_1).f0.f1))).setCell ⟨gb640, 2, none⟩ (.int .i64 ((rd_T29 l0 x13_1).f0.f2))).setCell ⟨gb640, 3, none⟩ (.string ((rd_T29 l0 x13_1).f0.f3))).setCell ⟨gb640, 4, none⟩ (.int .i64 ((rd_T29 l0 x13_1).f1.f0))).setCell ⟨gb640, 5, none⟩ (.bool true)).setCell ⟨gb640, 6, none⟩ (.int .i64 ((rd_T29 l0 x13_1).f1.f2))).setCell ⟨gb640, 7, none⟩ (.int .i64 ((rd_T29 l0 x13_1).f1.f3.f0))).setCell ⟨gb640, 8, none⟩ (.int .i64 ((rd_T29 l0 x13_1).f1.f3.f1))).setCell ⟨gb640, 9, none⟩ (.string ((rd_T29 l0 x13_1).f1.f3.f2))).heap[gb640]? = some (.cells #[.string ((rd_T29 l0 x13_1).f0.f0), .string ((rd_T29 l0 x13_1).f0.f1), .int .i64 ((rd_T29 l0 x13_1).f0.f2), .string ((rd_T29 l0 x13_1).f0.f3), .int .i64 ((rd_T29 l0 x13_1).f1.f0), .bool true, .int .i64 ((rd_T29 l0 x13_1).f1.f2), .int .i64 ((rd_T29 l0 x13_1).f1.f3.f0), .int .i64 ((rd_T29 l0 x13_1).f1.f3.f1), .string ((rd_T29 l0 x13_1).f1.f3.f2)] 29 (0, 0))) := ⟨by (with_reducible repeat (first | refine blk_drewN ?_ _ | refine blk_drew ?_ | refine blk_alloc ?_ _)); exact bp10 (kbW BK640)⟩
    have n2_ : Aside0 (Below w.heap.size w ((((((((((w19.setCell ⟨gb640, 0, none⟩ (.string ((rd_T29 l0 x13_1).f0.f0))).setCell ⟨gb640, 1, none⟩ (.string ((rd_T29 l0 x13_1).f0.f1))).setCell ⟨gb640, 2, none⟩ (.int .i64 ((rd_T29 l0 x13_1).f0.f2))).setCell ⟨gb640, 3, none⟩ (.string ((rd_T29 l0 x13_1).f0.f3))).setCell ⟨gb640, 4, none⟩ (.int .i64 ((rd_T29 l0 x13_1).f1.f0))).setCell ⟨gb640, 5, none⟩ (.bool true)).setCell ⟨gb640, 6, none⟩ (.int .i64 ((rd_T29 l0 x13_1).f1.f2))).setCell ⟨gb640, 7, none⟩ (.int .i64 ((rd_T29 l0 x13_1).f1.f3.f0))).setCell ⟨gb640, 8, none⟩ (.int .i64 ((rd_T29 l0 x13_1).f1.f3.f1))).setCell ⟨gb640, 9, none⟩ (.string ((rd_T29 l0 x13_1).f1.f3.f2)))) := ⟨by repeat (first | (with_reducible first | exact HB.out | apply bA_ | apply bN_ | apply bD_ | refine bS_ ?_ GE640) | exact HB.out)⟩
    (try clear HO_3)
    (try clear BK640)
    (try clear HB)
    generalize ((((((((((w19.setCell ⟨gb640, 0, none⟩ (.string ((rd_T29 l0 x13_1).f0.f0))).setCell ⟨gb640, 1, none⟩ (.string ((rd_T29 l0 x13_1).f0.f1))).setCell ⟨gb640, 2, none⟩ (.int .i64 ((rd_T29 l0 x13_1).f0.f2))).setCell ⟨gb640, 3, none⟩ (.string ((rd_T29 l0 x13_1).f0.f3))).setCell ⟨gb640, 4, none⟩ (.int .i64 ((rd_T29 l0 x13_1).f1.f0))).setCell ⟨gb640, 5, none⟩ (.bool true)).setCell ⟨gb640, 6, none⟩ (.int .i64 ((rd_T29 l0 x13_1).f1.f2))).setCell ⟨gb640, 7, none⟩ (.int .i64 ((rd_T29 l0 x13_1).f1.f3.f0))).setCell ⟨gb640, 8, none⟩ (.int .i64 ((rd_T29 l0 x13_1).f1.f3.f1))).setCell ⟨gb640, 9, none⟩ (.string ((rd_T29 l0 x13_1).f1.f3.f2))) = w21 at n0_ n1_ n2_ ⊢
    have HO_3 := n0_
    have BK640 := n1_
    have HB := n2_
    clear n0_ n1_ n2_
    replace HO_3 := Aside0.mk (Kd.R_drew HO_3.out)
    replace BK640 := Aside0.mk (blk_drew BK640.out)
    replace HB := Aside0.mk (below_drew1 HB.out)
    obtain ⟨Ao23, co23, eo23⟩ := Kd.R_slice HO_3.out
    (first | subst eo23 | (injection eo23 with f1_ f2_ f3_; have f4_ := f1_.symm; have f5_ := f3_.symm; clear f1_ f2_ f3_; subst f4_; subst f5_))
    refine start_ (n := 10) (S := fun w' => w'.cell? ⟨gb640, 0, none⟩ = some (.string ((rd_T29 l0 x13_1).f0.f0)) ∧ w'.cell? ⟨gb640, 1, none⟩ = some (.string ((rd_T29 l0 x13_1).f0.f1)) ∧ w'.cell? ⟨gb640, 2, none⟩ = some (.int .i64 ((rd_T29 l0 x13_1).f0.f2)) ∧ w'.cell? ⟨gb640, 3, none⟩ = some (.string ((rd_T29 l0 x13_1).f0.f3)) ∧ w'.cell? ⟨gb640, 4, none⟩ = some (.int .i64 ((rd_T29 l0 x13_1).f1.f0)) ∧ w'.cell? ⟨gb640, 5, none⟩ = some (.bool true) ∧ w'.cell? ⟨gb640, 6, none⟩ = some (.int .i64 ((rd_T29 l0 x13_1).f1.f2)) ∧ w'.cell? ⟨gb640, 7, none⟩ = some (.int .i64 ((rd_T29 l0 x13_1).f1.f3.f0)) ∧ w'.cell? ⟨gb640, 8, none⟩ = some (.int .i64 ((rd_T29 l0 x13_1).f1.f3.f1)) ∧ w'.cell? ⟨gb640, 9, none⟩ = some (.string ((rd_T29 l0 x13_1).f1.f3.f2))) (ds := []) (tf_ 0 10) (by kernel_rfl) rfl rfl (cd10 BK640) (fun hHeld => ?_); refine with_tabW skerryref01_Cells.tab5 skerryref01_Cells.bits5 (fun HT_ HW_ => ?_)
    generalize w21.drew = w22 at HO_3 BK640 HB hHeld ⊢
    refine pure_ (i := 0) (N := some 17) (v := ?_) (a' := ?_) (tf_ 1 9) rfl rfl (any_of HT_.out (by kernel_rfl)) (fun _ _ _ h => h) (Or.inl ⟨by rfl, ?_⟩) ?_ ?_
    rotate_left; · (intro w'; go_simp; with_reducible rfl)
    rotate_left; · (simp only [Act.put, sT_, sO_, sN_, i64_w, i32_w]; rfl)
    refine pure_ (i := 1) (N := some 18) (v := ?_) (a' := ?_) (tf_ 2 8) rfl rfl (any_of HT_.out (by kernel_rfl)) (fun _ _ _ h => h) (Or.inl ⟨by rfl, ?_⟩) ?_ ?_
    rotate_left; · (intro w'; go_simp; with_reducible rfl)
    rotate_left; · (simp only [Act.put, sT_, sO_, sN_, i64_w, i32_w]; rfl)
    refine pure_ (i := 2) (N := some 19) (v := ?_) (a' := ?_) (tf_ 3 7) rfl rfl (any_of HT_.out (by kernel_rfl)) (fun _ _ _ h => h) (Or.inl ⟨by rfl, ?_⟩) ?_ ?_
    rotate_left; · (intro w'; go_simp; with_reducible rfl)
    rotate_left; · (simp only [Act.put, sT_, sO_, sN_, i64_w, i32_w]; rfl)
    refine pure_ (i := 5) (N := some 22) (v := ?_) (a' := ?_) (tb_ 39 10) rfl rfl (any_of HT_.out (by kernel_rfl)) (fun _ _ _ h => h) (Or.inl ⟨by rfl, ?_⟩) ?_ ?_
    rotate_left; · (intro w'; go_simp; with_reducible rfl)
    rotate_left; · (simp only [Act.put, sT_, sO_, sN_, i64_w, i32_w]; rfl)
    refine pure_ (i := 6) (N := some 23) (v := ?_) (a' := ?_) (tb_ 103 10) rfl rfl (any_of HT_.out (by kernel_rfl)) (fun _ _ _ h => h) (Or.inl ⟨by rfl, ?_⟩) ?_ ?_
    rotate_left; · (intro w'; go_simp; with_reducible rfl)
    rotate_left; · (simp only [Act.put, sT_, sO_, sN_, i64_w, i32_w]; rfl)
    refine take_ (i := 3) (N := some 20) (v := ?_) (a' := ?_) (tb_ 111 10) rfl rfl (take_ofW HT_.out HW_.out (by kernel_rfl)) (fun _ _ _ h => h) (Or.inl ⟨by rfl, ?_⟩) hHeld ?_ ?_
    rotate_left; · (rintro w' ⟨s0, s1, s2, s3, s4, s5, s6, s7, s8, s9⟩; go_simp; with_reducible rfl)
    rotate_left; · (simp only [Act.put, sT_, sO_, sN_, i64_w, i32_w]; rfl)
    refine take_ (i := 7) (N := some 24) (v := ?_) (a' := ?_) (tb_ 239 10) rfl rfl (take_ofW HT_.out HW_.out (by kernel_rfl)) (fun _ _ _ h => h) (Or.inl ⟨by rfl, ?_⟩) hHeld ?_ ?_
    rotate_left; · (rintro w' ⟨s0, s1, s2, s3, s4, s5, s6, s7, s8, s9⟩; go_simp; with_reducible rfl)
    rotate_left; · (simp only [Act.put, sT_, sO_, sN_, i64_w, i32_w]; rfl)
    refine one_ (i := 4) (N := some 21) (tf_ 8 2) rfl rfl (one_of HT_.out (by kernel_rfl)) (by decide) (fun K hK => ?_)
    refine goes_ Try.func70 (by kernel_rfl) rfl #[.slice Ao23 x3_1.length co23, .string ((rd_T29 l0 x13_1).f0.f0)] (by rfl) rfl rfl (by (try simp only [mT_, mC_, mN_]); first | done | rfl) ?_
    with_reducible refine (skerryref01_PutText.calls k1 _ _ x3_1 ((rd_T29 l0 x13_1).f0.f0) t641 _ ?side1 ?side2 A7.out).mono ?_
    (case side1 => repeat (first | exact (Kd.R_reads' HO_3.out).2.2 | (with_reducible refine Kd.C_alloc ?_ _) | (with_reducible refine Kd.C_drewN ?_ _) | (with_reducible refine Kd.C_drew ?_)))
    (case side2 => exact (Kd.R_reads' HO_3.out).2.1)
    rintro e w24 ⟨v642, rfl, ho0, hb⟩
    refine ⟨_, rfl, ?_⟩
    have HO643 := Aside0.mk (Kd.R_lower (Kd.R_new' ho0 (Kd.R_lt (krW HO_3))) (bZ_ (by repeat (first | (with_reducible first | exact HB.out | apply bA_ | apply bN_ | apply bD_ | refine bS_ ?_ GE640) | exact HB.out))))
    replace HO_3 := Aside0.mk (Kd.R_elder' (krW HO_3) (Kd.R_base ho0) hb)
    replace BK640 := kB BK640 hb
    replace HB := Aside0.mk (below_step (by repeat (first | (with_reducible first | exact HB.out | apply bA_ | apply bN_ | apply bD_ | refine bS_ ?_ GE640) | exact HB.out)) hb)
    (try clear hb)
    (try clear hb2)
    (try clear hk)
    (try clear hi)
    (try clear ho0)
    obtain ⟨Ao25, co25, eo25⟩ := Kd.R_slice HO643.out
    (first | subst eo25 | (injection eo25 with f1_ f2_ f3_; have f4_ := f1_.symm; have f5_ := f3_.symm; clear f1_ f2_ f3_; subst f4_; subst f5_))
    refine hK.out _ _ (cd10 BK640) (fun hHeld => ?_)
    clear hK K
    refine norm_ (a' := ?_) ?_ ?_
    rotate_left
    ·
     show Act.put _ (some 21) _ = _
     simp only [Act.put, sT_, sO_, sN_, i64_w, i32_w]
     rfl
    refine one_ (i := 8) (N := some 25) (tf_ 9 1) rfl rfl (one_of HT_.out (by kernel_rfl)) (by decide) (fun K hK => ?_)
    refine goes_ Try.func70 (by kernel_rfl) rfl #[.slice Ao25 t641.length co25, .string ((rd_T29 l0 x13_1).f0.f1)] (by rfl) rfl rfl (by (try simp only [mT_, mC_, mN_]); first | done | rfl) ?_
    with_reducible refine (skerryref01_PutText.calls k1 _ _ t641 ((rd_T29 l0 x13_1).f0.f1) t644 _ ?side1 ?side2 A8.out).mono ?_
    (case side1 => repeat (first | exact (Kd.R_reads' HO643.out).2.2 | (with_reducible refine Kd.C_alloc ?_ _) | (with_reducible refine Kd.C_drewN ?_ _) | (with_reducible refine Kd.C_drew ?_)))
    (case side2 => exact (Kd.R_reads' HO643.out).2.1)
    rintro e w26 ⟨v645, rfl, ho0, hb⟩
    refine ⟨_, rfl, ?_⟩
    have HO646 := Aside0.mk (Kd.R_lower (Kd.R_new' (Kd.R_new' ho0 (Kd.R_lt (krW HO_3))) (Kd.R_lt (krW HO643))) (bZ_ (by repeat (first | (with_reducible first | exact HB.out | apply bA_ | apply bN_ | apply bD_ | refine bS_ ?_ GE640) | exact HB.out))))
    replace HO_3 := Aside0.mk (Kd.R_elder' (krW HO_3) (Kd.R_base ho0) hb)
    replace HO643 := Aside0.mk (Kd.R_elder' (krW HO643) (Kd.R_base ho0) hb)
    replace BK640 := kB BK640 hb
    replace HB := Aside0.mk (below_step (by repeat (first | (with_reducible first | exact HB.out | apply bA_ | apply bN_ | apply bD_ | refine bS_ ?_ GE640) | exact HB.out)) hb)
    (try clear hb)
    (try clear hb2)
    (try clear hk)
    (try clear hi)
    (try clear ho0)
    refine hK.out _ _ (cd10 BK640) (fun hHeld => ?_)
    clear hK K
    refine norm_ (a' := ?_) ?_ ?_
    rotate_left
    ·
     show Act.put _ (some 25) _ = _
     simp only [Act.put, sT_, sO_, sN_, i64_w, i32_w]
     rfl
    refine pure_ (i := 9) (N := some 3) (v := ?_) (a' := ?_) (tf_ 10 0) rfl rfl (any_of HT_.out (by kernel_rfl)) (fun _ _ _ h => h) (Or.inl ⟨by rfl, ?_⟩) ?_ ?_
    rotate_left; · (intro w'; go_simp; with_reducible rfl)
    rotate_left; · (simp only [Act.put, sT_, sO_, sN_, i64_w, i32_w]; rfl)
    refine done_ (done_of HT_.out (by kernel_rfl)) ?_
    try go_wp2
    replace HO_3 := Aside0.mk (Kd.R_drew HO_3.out)
    replace HO643 := Aside0.mk (Kd.R_drew HO643.out)
    replace HO646 := Aside0.mk (Kd.R_drew HO646.out)
    replace BK640 := Aside0.mk (blk_drew BK640.out)
    replace HB := Aside0.mk (below_drew1 HB.out)
    refine start_ (n := 11) (S := fun w' => w'.cell? ⟨gb640, 0, none⟩ = some (.string ((rd_T29 l0 x13_1).f0.f0)) ∧ w'.cell? ⟨gb640, 1, none⟩ = some (.string ((rd_T29 l0 x13_1).f0.f1)) ∧ w'.cell? ⟨gb640, 2, none⟩ = some (.int .i64 ((rd_T29 l0 x13_1).f0.f2)) ∧ w'.cell? ⟨gb640, 3, none⟩ = some (.string ((rd_T29 l0 x13_1).f0.f3)) ∧ w'.cell? ⟨gb640, 4, none⟩ = some (.int .i64 ((rd_T29 l0 x13_1).f1.f0)) ∧ w'.cell? ⟨gb640, 5, none⟩ = some (.bool true) ∧ w'.cell? ⟨gb640, 6, none⟩ = some (.int .i64 ((rd_T29 l0 x13_1).f1.f2)) ∧ w'.cell? ⟨gb640, 7, none⟩ = some (.int .i64 ((rd_T29 l0 x13_1).f1.f3.f0)) ∧ w'.cell? ⟨gb640, 8, none⟩ = some (.int .i64 ((rd_T29 l0 x13_1).f1.f3.f1)) ∧ w'.cell? ⟨gb640, 9, none⟩ = some (.string ((rd_T29 l0 x13_1).f1.f3.f2))) (ds := []) (tf_ 0 11) (by kernel_rfl) rfl rfl (cd10 BK640) (fun hHeld => ?_); refine with_tabW skerryref01_Cells.tab6 skerryref01_Cells.bits6 (fun HT_ HW_ => ?_)
    generalize w26.drew = w27 at HO_3 HO643 HO646 BK640 HB hHeld ⊢
    refine pure_ (i := 0) (N := some 26) (v := ?_) (a' := ?_) (tf_ 1 10) rfl rfl (any_of HT_.out (by kernel_rfl)) (fun _ _ _ h => h) (Or.inl ⟨by rfl, ?_⟩) ?_ ?_
    rotate_left; · (intro w'; go_simp; with_reducible rfl)
    rotate_left; · (simp only [Act.put, sT_, sO_, sN_, i64_w, i32_w]; rfl)
    refine pure_ (i := 1) (N := some 27) (v := ?_) (a' := ?_) (tf_ 2 9) rfl rfl (any_of HT_.out (by kernel_rfl)) (fun _ _ _ h => h) (Or.inl ⟨by rfl, ?_⟩) ?_ ?_
    rotate_left; · (intro w'; go_simp; with_reducible rfl)
    rotate_left; · (simp only [Act.put, sT_, sO_, sN_, i64_w, i32_w]; rfl)
    refine pure_ (i := 2) (N := some 28) (v := ?_) (a' := ?_) (tf_ 3 8) rfl rfl (any_of HT_.out (by kernel_rfl)) (fun _ _ _ h => h) (Or.inl ⟨by rfl, ?_⟩) ?_ ?_
    rotate_left; · (intro w'; go_simp; with_reducible rfl)
    rotate_left; · (simp only [Act.put, sT_, sO_, sN_, i64_w, i32_w]; rfl)
    refine pure_ (i := 6) (N := some 32) (v := ?_) (a' := ?_) (tb_ 71 11) rfl rfl (any_of HT_.out (by kernel_rfl)) (fun _ _ _ h => h) (Or.inl ⟨by rfl, ?_⟩) ?_ ?_
    rotate_left; · (intro w'; go_simp; with_reducible rfl)
    rotate_left; · (simp only [Act.put, sT_, sO_, sN_, i64_w, i32_w]; rfl)
    refine pure_ (i := 7) (N := some 33) (v := ?_) (a' := ?_) (tb_ 199 11) rfl rfl (any_of HT_.out (by kernel_rfl)) (fun _ _ _ h => h) (Or.inl ⟨by rfl, ?_⟩) ?_ ?_
    rotate_left; · (intro w'; go_simp; with_reducible rfl)
    rotate_left; · (simp only [Act.put, sT_, sO_, sN_, i64_w, i32_w]; rfl)
    refine take_ (i := 3) (N := some 29) (v := ?_) (a' := ?_) (tb_ 207 11) rfl rfl (take_ofW HT_.out HW_.out (by kernel_rfl)) (fun _ _ _ h => h) (Or.inl ⟨by rfl, ?_⟩) hHeld ?_ ?_
    rotate_left; · (rintro w' ⟨s0, s1, s2, s3, s4, s5, s6, s7, s8, s9⟩; go_simp; with_reducible rfl)
    rotate_left; · (simp only [Act.put, sT_, sO_, sN_, i64_w, i32_w]; rfl)
    refine take_ (i := 8) (N := some 34) (v := ?_) (a' := ?_) (tb_ 463 11) rfl rfl (take_ofW HT_.out HW_.out (by kernel_rfl)) (fun _ _ _ h => h) (Or.inl ⟨by rfl, ?_⟩) hHeld ?_ ?_
    rotate_left; · (rintro w' ⟨s0, s1, s2, s3, s4, s5, s6, s7, s8, s9⟩; go_simp; with_reducible rfl)
    rotate_left; · (simp only [Act.put, sT_, sO_, sN_, i64_w, i32_w]; rfl)
    refine one_ (i := 4) (N := some 30) (tb_ 479 11) rfl rfl (one_of HT_.out (by kernel_rfl)) (by decide) (fun K hK => ?_)
    refine goes_ Try.func71 (by kernel_rfl) rfl #[.int .i64 ((rd_T29 l0 x13_1).f0.f2)] (by rfl) rfl rfl (by (try simp only [mT_, mC_, mN_]); first | done | rfl) ?_
    with_reducible refine (skerryref01_Zig.calls ((rd_T29 l0 x13_1).f0.f2) t647 _ A9.out).mono ?_
    rintro e w' ⟨rfl, ⟨nd, rfl⟩⟩
    refine ⟨_, rfl, ?_⟩
    obtain ⟨Ao28, co28, eo28⟩ := Kd.R_slice HO646.out
    (first | subst eo28 | (injection eo28 with f1_ f2_ f3_; have f4_ := f1_.symm; have f5_ := f3_.symm; clear f1_ f2_ f3_; subst f4_; subst f5_))
    refine hK.out _ _ (cd10 BK640) (fun hHeld => ?_)
    clear hK K
    refine norm_ (a' := ?_) ?_ ?_
    rotate_left
    ·
     show Act.put _ (some 30) _ = _
     simp only [Act.put, sT_, sO_, sN_, i64_w, i32_w]
     rfl
    refine one_ (i := 5) (N := some 31) (tf_ 9 2) rfl rfl (one_of HT_.out (by kernel_rfl)) (by decide) (fun K hK => ?_)
    refine goes_ Try.func69 (by kernel_rfl) rfl #[.slice Ao28 t644.length co28, .int .u64 t647] (by rfl) rfl rfl (by (try simp only [mT_, mC_, mN_]); first | done | rfl) ?_
    with_reducible refine (skerryref01_Put.calls k1 _ _ t644 t647 t648 _ ?side1 ?side2 A10.out).mono ?_
    (case side1 => repeat (first | exact (Kd.R_reads' HO646.out).2.2 | (with_reducible refine Kd.C_alloc ?_ _) | (with_reducible refine Kd.C_drewN ?_ _) | (with_reducible refine Kd.C_drew ?_)))
    (case side2 => exact (Kd.R_reads' HO646.out).2.1)
    rintro e w29 ⟨v649, rfl, ho0, hb⟩
    refine ⟨_, rfl, ?_⟩
    have HO650 := Aside0.mk (Kd.R_lower (Kd.R_new' (Kd.R_new' (Kd.R_new' ho0 (Kd.R_lt (krW HO_3))) (Kd.R_lt (krW HO643))) (Kd.R_lt (krW HO646))) (bZ_ (by repeat (first | (with_reducible first | exact HB.out | apply bA_ | apply bN_ | apply bD_ | refine bS_ ?_ GE640) | exact HB.out))))
    replace HO_3 := Aside0.mk (Kd.R_elder' (krW HO_3) (Kd.R_base ho0) hb)
    replace HO643 := Aside0.mk (Kd.R_elder' (krW HO643) (Kd.R_base ho0) hb)
    replace HO646 := Aside0.mk (Kd.R_elder' (krW HO646) (Kd.R_base ho0) hb)
    replace BK640 := kB BK640 hb
    replace HB := Aside0.mk (below_step (by repeat (first | (with_reducible first | exact HB.out | apply bA_ | apply bN_ | apply bD_ | refine bS_ ?_ GE640) | exact HB.out)) hb)
    (try clear hb)
    (try clear hb2)
    (try clear hk)
    (try clear hi)
    (try clear ho0)
    obtain ⟨Ao30, co30, eo30⟩ := Kd.R_slice HO650.out
    (first | subst eo30 | (injection eo30 with f1_ f2_ f3_; have f4_ := f1_.symm; have f5_ := f3_.symm; clear f1_ f2_ f3_; subst f4_; subst f5_))
    refine hK.out _ _ (cd10 BK640) (fun hHeld => ?_)
    clear hK K
    refine norm_ (a' := ?_) ?_ ?_
    rotate_left
    ·
     show Act.put _ (some 31) _ = _
     simp only [Act.put, sT_, sO_, sN_, i64_w, i32_w]
     rfl
    refine one_ (i := 9) (N := some 35) (tf_ 10 1) rfl rfl (one_of HT_.out (by kernel_rfl)) (by decide) (fun K hK => ?_)
    refine goes_ Try.func70 (by kernel_rfl) rfl #[.slice Ao30 t648.length co30, .string ((rd_T29 l0 x13_1).f0.f3)] (by rfl) rfl rfl (by (try simp only [mT_, mC_, mN_]); first | done | rfl) ?_
    with_reducible refine (skerryref01_PutText.calls k1 _ _ t648 ((rd_T29 l0 x13_1).f0.f3) t651 _ ?side1 ?side2 A11.out).mono ?_
    (case side1 => repeat (first | exact (Kd.R_reads' HO650.out).2.2 | (with_reducible refine Kd.C_alloc ?_ _) | (with_reducible refine Kd.C_drewN ?_ _) | (with_reducible refine Kd.C_drew ?_)))
    (case side2 => exact (Kd.R_reads' HO650.out).2.1)
    rintro e w31 ⟨v652, rfl, ho0, hb⟩
    refine ⟨_, rfl, ?_⟩
    have HO653 := Aside0.mk (Kd.R_lower (Kd.R_new' (Kd.R_new' (Kd.R_new' (Kd.R_new' ho0 (Kd.R_lt (krW HO_3))) (Kd.R_lt (krW HO643))) (Kd.R_lt (krW HO646))) (Kd.R_lt (krW HO650))) (bZ_ (by repeat (first | (with_reducible first | exact HB.out | apply bA_ | apply bN_ | apply bD_ | refine bS_ ?_ GE640) | exact HB.out))))
    replace HO_3 := Aside0.mk (Kd.R_elder' (krW HO_3) (Kd.R_base ho0) hb)
    replace HO643 := Aside0.mk (Kd.R_elder' (krW HO643) (Kd.R_base ho0) hb)
    replace HO646 := Aside0.mk (Kd.R_elder' (krW HO646) (Kd.R_base ho0) hb)
    replace HO650 := Aside0.mk (Kd.R_elder' (krW HO650) (Kd.R_base ho0) hb)
    replace BK640 := kB BK640 hb
    replace HB := Aside0.mk (below_step (by repeat (first | (with_reducible first | exact HB.out | apply bA_ | apply bN_ | apply bD_ | refine bS_ ?_ GE640) | exact HB.out)) hb)
    (try clear hb)
    (try clear hb2)
    (try clear hk)
    (try clear hi)
    (try clear ho0)
    refine hK.out _ _ (cd10 BK640) (fun hHeld => ?_)
    clear hK K
    refine norm_ (a' := ?_) ?_ ?_
    rotate_left
    ·
     show Act.put _ (some 35) _ = _
     simp only [Act.put, sT_, sO_, sN_, i64_w, i32_w]
     rfl
    refine pure_ (i := 10) (N := some 3) (v := ?_) (a' := ?_) (tf_ 11 0) rfl rfl (any_of HT_.out (by kernel_rfl)) (fun _ _ _ h => h) (Or.inl ⟨by rfl, ?_⟩) ?_ ?_
    rotate_left; · (intro w'; go_simp; with_reducible rfl)
    rotate_left; · (simp only [Act.put, sT_, sO_, sN_, i64_w, i32_w]; rfl)
    refine done_ (done_of HT_.out (by kernel_rfl)) ?_
    obtain ⟨_, _, _, _, _, _, _, _, _, _, _, _, _, _, _, _, _, _, _, _⟩ := czf10 BK640
    try go_wp2_with (first | ((with_reducible refine gate_dst (N := 6) rfl ?_); refine box_event ?hg (N := 6) ?hd (cs := #[.int .i64 0, .bool false, .int .i64 0, .int .i64 0, .int .i64 0, .string (⟨#[]⟩ : ByteArray)]) (t := 27) ?hr ?_; (case hd => rfl); (case hg => rfl); (case hr => first | (go_simp; done) | (go_simp; rfl)); intro gb654 hg w33 hbox hb; replace HO_3 := kR HO_3 hb; replace HO643 := kR HO643 hb; replace HO646 := kR HO646 hb; replace HO650 := kR HO650 hb; replace HO653 := kR HO653 hb; have BK654 := Aside0.mk (hbox); have GW654 := Aside0.mk ((by rw [hg]; exact (bZ_ (by repeat (first | (with_reducible first | exact HB.out | apply bA_ | apply bN_ | apply bD_ | refine bS_ ?_ GE640) | exact HB.out))) : w.heap.size ≤ gb654)); replace HB := Aside0.mk (below_step (by repeat (first | (with_reducible first | exact HB.out | apply bA_ | apply bN_ | apply bD_ | refine bS_ ?_ GE640) | exact HB.out)) hb); have GE654 := GW654; have NB640_654 := Aside0.mk ((by rw [hg]; exact Nat.ne_of_lt (blk_lt (kbW BK640)) : gb640 ≠ gb654)); have NB654_640 := Aside0.mk ((by rw [hg]; exact Nat.ne_of_gt (blk_lt (kbW BK640)) : gb654 ≠ gb640)); replace BK640 := kB BK640 hb; clear hb hbox hg; have hnb34 := NB654_640.out; have hnc34 := NB640_654.out; obtain ⟨_, _, _, _, _, _, _, _, _, _, _, _⟩ := czf6 BK654) | ((with_reducible refine gate_callee (f := 71) rfl ?_); refine goesL_ (some 41) rfl rfl Try.func71 (by kernel_rfl) rfl #[.int .i64 ((rd_T29 l0 x13_1).f1.f0)] rfl (by (try simp only [mT_, mC_, mN_]); first | done | rfl) ?_; (with_reducible refine (skerryref01_Zig.calls ((rd_T29 l0 x13_1).f1.f0) t655 _ A12.out).mono ?_); rintro e w' ⟨rfl, ⟨nd, rfl⟩⟩; refine ⟨_, rfl, ?_⟩; obtain ⟨Ao36, co36, eo36⟩ := Kd.R_slice HO653.out; subst eo36) | ((with_reducible refine gate_callee (f := 69) rfl ?_); refine goesL_ (some 42) rfl rfl Try.func69 (by kernel_rfl) rfl #[.slice Ao36 t651.length co36, .int .u64 t655] rfl (by (try simp only [mT_, mC_, mN_]); first | done | rfl) ?_; (with_reducible refine (skerryref01_Put.calls k1 _ _ t651 t655 t656 _ ?side1 ?side2 A13.out).mono ?_); (case side1 => refine (Kd.R_reads' (e := 5) (base := w.heap.size) (ok := fun k_ => ((((True ∧ some k_ ≠ (.slice Ao23 x3_1.length co23 : Value).ownBlock) ∧ some k_ ≠ (.slice Ao25 t641.length co25 : Value).ownBlock) ∧ some k_ ≠ (.slice Ao28 t644.length co28 : Value).ownBlock) ∧ some k_ ≠ (.slice Ao30 t648.length co30 : Value).ownBlock)) (n := t651.length) (c := co36) ?_).2.2; exact (by (with_reducible repeat (first | apply Kd.R_alloc | apply Kd.R_drewN | apply Kd.R_drew)); exact (Kd.R_mono (rf6 (Kd.R_types HO653.out BK654.out (by decide)) (fun _ hk => hk.2)) (fun _ h_ => h_.1)))); (case side2 => exact (Kd.R_reads' HO653.out).2.1); rintro e w37 ⟨v657, rfl, ho0, hb⟩; refine ⟨_, rfl, ?_⟩; have HO658 := Aside0.mk (Kd.R_lower (Kd.R_new' (Kd.R_new' (Kd.R_new' (Kd.R_new' (Kd.R_new' ho0 (Kd.R_lt (by (with_reducible repeat (first | apply Kd.R_alloc | apply Kd.R_drewN | apply Kd.R_drew)); exact (Kd.R_mono (rf6 (Kd.R_types HO_3.out BK654.out (by decide)) (fun _ hk => hk.2)) (fun _ h_ => h_.1))))) (Kd.R_lt (by (with_reducible repeat (first | apply Kd.R_alloc | apply Kd.R_drewN | apply Kd.R_drew)); exact (Kd.R_mono (rf6 (Kd.R_types HO643.out BK654.out (by decide)) (fun _ hk => hk.2)) (fun _ h_ => h_.1))))) (Kd.R_lt (by (with_reducible repeat (first | apply Kd.R_alloc | apply Kd.R_drewN | apply Kd.R_drew)); exact (Kd.R_mono (rf6 (Kd.R_types HO646.out BK654.out (by decide)) (fun _ hk => hk.2)) (fun _ h_ => h_.1))))) (Kd.R_lt (by (with_reducible repeat (first | apply Kd.R_alloc | apply Kd.R_drewN | apply Kd.R_drew)); exact (Kd.R_mono (rf6 (Kd.R_types HO650.out BK654.out (by decide)) (fun _ hk => hk.2)) (fun _ h_ => h_.1))))) (Kd.R_lt (by (with_reducible repeat (first | apply Kd.R_alloc | apply Kd.R_drewN | apply Kd.R_drew)); exact (Kd.R_mono (rf6 (Kd.R_types HO653.out BK654.out (by decide)) (fun _ hk => hk.2)) (fun _ h_ => h_.1))))) (bZ_ (by repeat (first | (with_reducible first | exact HB.out | apply bA_ | apply bN_ | apply bD_ | refine bS_ ?_ GE640 | refine bS_ ?_ GE654) | exact HB.out)))); replace HO_3 := Aside0.mk (Kd.R_elder' (by (with_reducible repeat (first | apply Kd.R_alloc | apply Kd.R_drewN | apply Kd.R_drew)); exact (Kd.R_mono (rf6 (Kd.R_types HO_3.out BK654.out (by decide)) (fun _ hk => hk.2)) (fun _ h_ => h_.1))) (Kd.R_base ho0) hb); replace HO643 := Aside0.mk (Kd.R_elder' (by (with_reducible repeat (first | apply Kd.R_alloc | apply Kd.R_drewN | apply Kd.R_drew)); exact (Kd.R_mono (rf6 (Kd.R_types HO643.out BK654.out (by decide)) (fun _ hk => hk.2)) (fun _ h_ => h_.1))) (Kd.R_base ho0) hb); replace HO646 := Aside0.mk (Kd.R_elder' (by (with_reducible repeat (first | apply Kd.R_alloc | apply Kd.R_drewN | apply Kd.R_drew)); exact (Kd.R_mono (rf6 (Kd.R_types HO646.out BK654.out (by decide)) (fun _ hk => hk.2)) (fun _ h_ => h_.1))) (Kd.R_base ho0) hb); replace HO650 := Aside0.mk (Kd.R_elder' (by (with_reducible repeat (first | apply Kd.R_alloc | apply Kd.R_drewN | apply Kd.R_drew)); exact (Kd.R_mono (rf6 (Kd.R_types HO650.out BK654.out (by decide)) (fun _ hk => hk.2)) (fun _ h_ => h_.1))) (Kd.R_base ho0) hb); replace HO653 := Aside0.mk (Kd.R_elder' (by (with_reducible repeat (first | apply Kd.R_alloc | apply Kd.R_drewN | apply Kd.R_drew)); exact (Kd.R_mono (rf6 (Kd.R_types HO653.out BK654.out (by decide)) (fun _ hk => hk.2)) (fun _ h_ => h_.1))) (Kd.R_base ho0) hb); replace BK640 := kBf BK640 (fun h_ => by (with_reducible repeat (first | refine blk_drewN ?_ _ | refine blk_drew ?_ | refine blk_alloc ?_ _)); refine bf6 ?_ NB640_654.out; (with_reducible repeat (first | refine blk_drewN ?_ _ | refine blk_drew ?_ | refine blk_alloc ?_ _)); exact h_) hb; replace BK654 := Aside0.mk (blk_below (g := gb654) (o := .cells #[.int .i64 ((rd_T29 l0 x13_1).f1.f0), .bool true, .int .i64 ((rd_T29 l0 x13_1).f1.f2), .int .i64 ((rd_T29 l0 x13_1).f1.f3.f0), .int .i64 ((rd_T29 l0 x13_1).f1.f3.f1), .string ((rd_T29 l0 x13_1).f1.f3.f2)] 27 (0, 0)) (by (with_reducible repeat (first | refine blk_drewN ?_ _ | refine blk_drew ?_ | refine blk_alloc ?_ _)); exact bp6 (kbW BK654)) hb); replace HB := Aside0.mk (below_step (by repeat (first | (with_reducible first | exact HB.out | apply bA_ | apply bN_ | apply bD_ | refine bS_ ?_ GE640 | refine bS_ ?_ GE654) | exact HB.out)) hb); (try clear hb); (try clear hb2); (try clear hk); (try clear hi); (try clear ho0); obtain ⟨_, _, _, _, _, _, _, _, _, _, _, _⟩ := czf6 BK654))
    replace HO_3 := Aside0.mk (Kd.R_drew HO_3.out)
    replace HO643 := Aside0.mk (Kd.R_drew HO643.out)
    replace HO646 := Aside0.mk (Kd.R_drew HO646.out)
    replace HO650 := Aside0.mk (Kd.R_drew HO650.out)
    replace HO653 := Aside0.mk (Kd.R_drew HO653.out)
    replace HO658 := Aside0.mk (Kd.R_drew HO658.out)
    replace BK640 := Aside0.mk (blk_drew BK640.out)
    replace BK654 := Aside0.mk (blk_drew BK654.out)
    replace HB := Aside0.mk (below_drew1 HB.out)
    refine start_ (n := 8) (S := fun w' => w'.cell? ⟨gb654, 0, none⟩ = some (.int .i64 ((rd_T29 l0 x13_1).f1.f0)) ∧ w'.cell? ⟨gb654, 1, none⟩ = some (.bool true) ∧ w'.cell? ⟨gb654, 2, none⟩ = some (.int .i64 ((rd_T29 l0 x13_1).f1.f2)) ∧ w'.cell? ⟨gb654, 3, none⟩ = some (.int .i64 ((rd_T29 l0 x13_1).f1.f3.f0)) ∧ w'.cell? ⟨gb654, 4, none⟩ = some (.int .i64 ((rd_T29 l0 x13_1).f1.f3.f1)) ∧ w'.cell? ⟨gb654, 5, none⟩ = some (.string ((rd_T29 l0 x13_1).f1.f3.f2))) (ds := []) (tf_ 0 8) (by kernel_rfl) rfl rfl (cd6 BK654) (fun hHeld => ?_); refine with_tabW skerryref01_Cells.tab10 skerryref01_Cells.bits10 (fun HT_ HW_ => ?_)
    generalize w37.drew = w39 at HO_3 HO643 HO646 HO650 HO653 HO658 BK640 BK654 HB hHeld ⊢
    refine pure_ (i := 0) (N := some 45) (v := ?_) (a' := ?_) (tf_ 1 7) rfl rfl (any_of HT_.out (by kernel_rfl)) (fun _ _ _ h => h) (Or.inl ⟨by rfl, ?_⟩) ?_ ?_
    rotate_left; · (intro w'; go_simp; with_reducible rfl)
    rotate_left; · (simp only [Act.put, sT_, sO_, sN_, i64_w, i32_w]; rfl)
    refine pure_ (i := 3) (N := some 48) (v := ?_) (a' := ?_) (tb_ 9 8) rfl rfl (any_of HT_.out (by kernel_rfl)) (fun _ _ _ h => h) (Or.inl ⟨by rfl, ?_⟩) ?_ ?_
    rotate_left; · (intro w'; go_simp; with_reducible rfl)
    rotate_left; · (simp only [Act.put, sT_, sO_, sN_, i64_w, i32_w]; rfl)
    refine take_ (i := 4) (N := some 49) (v := ?_) (a' := ?_) (tb_ 25 8) rfl rfl (take_ofW HT_.out HW_.out (by kernel_rfl)) (fun _ _ _ h => h) (Or.inl ⟨by rfl, ?_⟩) hHeld ?_ ?_
    rotate_left; · (rintro w' ⟨s0, s1, s2, s3, s4, s5⟩; go_simp; with_reducible rfl)
    rotate_left; · (simp only [Act.put, sT_, sO_, sN_, i64_w, i32_w]; rfl)
    refine one_ (i := 1) (N := some 46) (tb_ 27 8) rfl rfl (one_of HT_.out (by kernel_rfl)) (by decide) (fun K hK => ?_)
    refine value_ (w1 := ?_) (v := ?_) (by rfl) rfl ?_ ?_
    rotate_left 2
    ·
     go_simp
     constructor
     ·
      rfl
     ·
      rfl
    refine hK.out _ _ ⟨(blk_cell (blk_alloc BK654.out _) 0).trans rfl, (blk_cell (blk_alloc BK654.out _) 1).trans rfl, (blk_cell (blk_alloc BK654.out _) 2).trans rfl, (blk_cell (blk_alloc BK654.out _) 3).trans rfl, (blk_cell (blk_alloc BK654.out _) 4).trans rfl, (blk_cell (blk_alloc BK654.out _) 5).trans rfl⟩ (fun hHeld => ?_)
    clear hK K
    refine norm_ (a' := ?_) ?_ ?_
    rotate_left
    ·
     show Act.put _ (some 46) _ = _
     simp only [Act.put, sT_, sO_, sN_, i64_w, i32_w]
     rfl
    refine one_ (i := 2) (N := some 47) (tf_ 5 3) rfl rfl (one_of HT_.out (by kernel_rfl)) (by decide) (fun K hK => ?_)
    refine Kd.R_append_step (Kd.int .u8) (w0 := w) w.heap.size (by rfl) (.tmp 45) (.tmp 46) 61 5 (.int .u8 0) 1 rfl Try.underlying61 info5 rfl (by decide) (by omega) v657 t656 1 [.int .u8 1] (fun k_ => some k_ ≠ (.slice Ao23 x3_1.length co23 : Value).ownBlock ∧ some k_ ≠ (.slice Ao25 t641.length co25 : Value).ownBlock ∧ some k_ ≠ (.slice Ao28 t644.length co28 : Value).ownBlock ∧ some k_ ≠ (.slice Ao30 t648.length co30 : Value).ownBlock ∧ some k_ ≠ (.slice Ao36 t651.length co36 : Value).ownBlock) (fun _ => False) rfl rfl ?aP (fun _ hk => hk.elim) ?aF ?aO ?aB ?aS ?aL ?_
    (case aP => exact rfl)
    (case aB => exact (by repeat (first | (with_reducible first | exact HB.out | apply bA_ | apply bN_ | apply bD_ | refine bS_ ?_ GE640 | refine bS_ ?_ GE654) | exact HB.out)))
    (case aF => exact (fun k_ hk => ⟨Kd.fresh' (Kd.R_lt (krW HO_3)) k_ hk, Kd.fresh' (Kd.R_lt (krW HO643)) k_ hk, Kd.fresh' (Kd.R_lt (krW HO646)) k_ hk, Kd.fresh' (Kd.R_lt (krW HO650)) k_ hk, Kd.fresh' (Kd.R_lt (krW HO653)) k_ hk⟩))
    (case aO => exact (by (with_reducible repeat (first | apply Kd.R_alloc | apply Kd.R_drewN | apply Kd.R_drew)); exact Kd.R_mono HO658.out (fun _ hk => ⟨hk.1.1.1.1.2, ⟨hk.1.1.1.2, ⟨hk.1.1.2, ⟨hk.1.2, hk.2⟩⟩⟩⟩)))
    (case aS => exact (bZ_ (by repeat (first | (with_reducible first | exact HB.out | apply bA_ | apply bN_ | apply bD_ | refine bS_ ?_ GE640 | refine bS_ ?_ GE654) | exact HB.out))))
    (case aL => have := LMc16.out; omega)
    intro v660 w40 ho hb hg hat
    rw [← Ny659.out] at ho
    replace HO_3 := Aside0.mk (Kd.R_after (ok := (fun k_ => some k_ ≠ (.slice Ao25 t641.length co25 : Value).ownBlock ∧ some k_ ≠ (.slice Ao28 t644.length co28 : Value).ownBlock ∧ some k_ ≠ (.slice Ao30 t648.length co30 : Value).ownBlock ∧ some k_ ≠ (.slice Ao36 t651.length co36 : Value).ownBlock)) (by (with_reducible repeat (first | apply Kd.R_alloc | apply Kd.R_drewN | apply Kd.R_drew)); exact Kd.R_mono HO_3.out (fun _ hk => ⟨⟨hk.1.1.1.1.2, ⟨hk.1.1.1.2, ⟨hk.1.1.2, hk.1.2⟩⟩⟩, hk.2⟩)) hg hat)
    replace BK640 := Aside0.mk (blk_grown (kbW BK640) hg (Kd.R_ne HO658.out BK640.out (by decide)))
    replace HO643 := Aside0.mk (Kd.R_after (ok := (fun k_ => some k_ ≠ (.slice Ao23 x3_1.length co23 : Value).ownBlock ∧ some k_ ≠ (.slice Ao28 t644.length co28 : Value).ownBlock ∧ some k_ ≠ (.slice Ao30 t648.length co30 : Value).ownBlock ∧ some k_ ≠ (.slice Ao36 t651.length co36 : Value).ownBlock)) (by (with_reducible repeat (first | apply Kd.R_alloc | apply Kd.R_drewN | apply Kd.R_drew)); exact Kd.R_mono HO643.out (fun _ hk => ⟨⟨hk.1.1.1.1.2, ⟨hk.1.1.1.2, ⟨hk.1.1.2, hk.1.2⟩⟩⟩, hk.2⟩)) hg hat)
    replace HO646 := Aside0.mk (Kd.R_after (ok := (fun k_ => some k_ ≠ (.slice Ao23 x3_1.length co23 : Value).ownBlock ∧ some k_ ≠ (.slice Ao25 t641.length co25 : Value).ownBlock ∧ some k_ ≠ (.slice Ao30 t648.length co30 : Value).ownBlock ∧ some k_ ≠ (.slice Ao36 t651.length co36 : Value).ownBlock)) (by (with_reducible repeat (first | apply Kd.R_alloc | apply Kd.R_drewN | apply Kd.R_drew)); exact Kd.R_mono HO646.out (fun _ hk => ⟨⟨hk.1.1.1.1.2, ⟨hk.1.1.1.2, ⟨hk.1.1.2, hk.1.2⟩⟩⟩, hk.2⟩)) hg hat)
    replace HO650 := Aside0.mk (Kd.R_after (ok := (fun k_ => some k_ ≠ (.slice Ao23 x3_1.length co23 : Value).ownBlock ∧ some k_ ≠ (.slice Ao25 t641.length co25 : Value).ownBlock ∧ some k_ ≠ (.slice Ao28 t644.length co28 : Value).ownBlock ∧ some k_ ≠ (.slice Ao36 t651.length co36 : Value).ownBlock)) (by (with_reducible repeat (first | apply Kd.R_alloc | apply Kd.R_drewN | apply Kd.R_drew)); exact Kd.R_mono HO650.out (fun _ hk => ⟨⟨hk.1.1.1.1.2, ⟨hk.1.1.1.2, ⟨hk.1.1.2, hk.1.2⟩⟩⟩, hk.2⟩)) hg hat)
    replace HO653 := Aside0.mk (Kd.R_after (ok := (fun k_ => some k_ ≠ (.slice Ao23 x3_1.length co23 : Value).ownBlock ∧ some k_ ≠ (.slice Ao25 t641.length co25 : Value).ownBlock ∧ some k_ ≠ (.slice Ao28 t644.length co28 : Value).ownBlock ∧ some k_ ≠ (.slice Ao30 t648.length co30 : Value).ownBlock)) (by (with_reducible repeat (first | apply Kd.R_alloc | apply Kd.R_drewN | apply Kd.R_drew)); exact Kd.R_mono HO653.out (fun _ hk => ⟨⟨hk.1.1.1.1.2, ⟨hk.1.1.1.2, ⟨hk.1.1.2, hk.1.2⟩⟩⟩, hk.2⟩)) hg hat)
    replace BK654 := Aside0.mk (blk_grown (kbW BK654) hg (Kd.R_ne HO658.out BK654.out (by decide)))
    replace HB := Aside0.mk (hb)
    have HO661 := Aside0.mk (ho)
    clear HO658
    clear ho hb hg hat
    refine hK.out _ _ (cd6 BK654) (fun hHeld => ?_)
    clear hK K
    refine norm_ (a' := ?_) ?_ ?_
    rotate_left
    ·
     show Act.put _ (some 47) _ = _
     simp only [Act.put, sT_, sO_, sN_, i64_w, i32_w]
     rfl
    refine one_ (i := 5) (N := some 50) (tf_ 6 2) rfl rfl (one_of HT_.out (by kernel_rfl)) (by decide) (fun K hK => ?_)
    refine goes_ Try.func71 (by kernel_rfl) rfl #[.int .i64 ((rd_T29 l0 x13_1).f1.f2)] (by rfl) rfl rfl (by (try simp only [mT_, mC_, mN_]); first | done | rfl) ?_
    with_reducible refine (skerryref01_Zig.calls ((rd_T29 l0 x13_1).f1.f2) t662 _ A17.out).mono ?_
    rintro e w' ⟨rfl, ⟨nd, rfl⟩⟩
    refine ⟨_, rfl, ?_⟩
    obtain ⟨Ao41, co41, eo41⟩ := Kd.R_slice HO661.out
    (first | subst eo41 | (injection eo41 with f1_ f2_ f3_; have f4_ := f1_.symm; have f5_ := f3_.symm; clear f1_ f2_ f3_; subst f4_; subst f5_))
    refine hK.out _ _ (cd6 BK654) (fun hHeld => ?_)
    clear hK K
    refine norm_ (a' := ?_) ?_ ?_
    rotate_left
    ·
     show Act.put _ (some 50) _ = _
     simp only [Act.put, sT_, sO_, sN_, i64_w, i32_w]
     rfl
    refine one_ (i := 6) (N := some 51) (tf_ 7 1) rfl rfl (one_of HT_.out (by kernel_rfl)) (by decide) (fun K hK => ?_)
    refine goes_ Try.func69 (by kernel_rfl) rfl #[.slice Ao41 y659.length co41, .int .u64 t662] (by rfl) rfl rfl (by (try simp only [mT_, mC_, mN_]); first | done | rfl) ?_
    with_reducible refine (skerryref01_Put.calls k1 _ _ y659 t662 t663 _ ?side1 ?side2 A18.out).mono ?_
    (case side1 => repeat (first | exact (Kd.R_reads' HO661.out).2.2 | (with_reducible refine Kd.C_alloc ?_ _) | (with_reducible refine Kd.C_drewN ?_ _) | (with_reducible refine Kd.C_drew ?_)))
    (case side2 => exact (Kd.R_reads' HO661.out).2.1)
    rintro e w42 ⟨v664, rfl, ho0, hb⟩
    refine ⟨_, rfl, ?_⟩
    have HO665 := Aside0.mk (Kd.R_lower (Kd.R_new' (Kd.R_new' (Kd.R_new' (Kd.R_new' (Kd.R_new' (Kd.R_new' ho0 (Kd.R_lt (krW HO_3))) (Kd.R_lt (krW HO643))) (Kd.R_lt (krW HO646))) (Kd.R_lt (krW HO650))) (Kd.R_lt (krW HO653))) (Kd.R_lt (krW HO661))) (bZ_ (by repeat (first | (with_reducible first | exact HB.out | apply bA_ | apply bN_ | apply bD_ | refine bS_ ?_ GE640 | refine bS_ ?_ GE654) | exact HB.out))))
    replace HO_3 := Aside0.mk (Kd.R_elder' (krW HO_3) (Kd.R_base ho0) hb)
    replace HO643 := Aside0.mk (Kd.R_elder' (krW HO643) (Kd.R_base ho0) hb)
    replace HO646 := Aside0.mk (Kd.R_elder' (krW HO646) (Kd.R_base ho0) hb)
    replace HO650 := Aside0.mk (Kd.R_elder' (krW HO650) (Kd.R_base ho0) hb)
    replace HO653 := Aside0.mk (Kd.R_elder' (krW HO653) (Kd.R_base ho0) hb)
    replace HO661 := Aside0.mk (Kd.R_elder' (krW HO661) (Kd.R_base ho0) hb)
    replace BK640 := kB BK640 hb
    replace BK654 := kB BK654 hb
    replace HB := Aside0.mk (below_step (by repeat (first | (with_reducible first | exact HB.out | apply bA_ | apply bN_ | apply bD_ | refine bS_ ?_ GE640 | refine bS_ ?_ GE654) | exact HB.out)) hb)
    (try clear hb)
    (try clear hb2)
    (try clear hk)
    (try clear hi)
    (try clear ho0)
    refine hK.out _ _ (cd6 BK654) (fun hHeld => ?_)
    clear hK K
    refine norm_ (a' := ?_) ?_ ?_
    rotate_left
    ·
     show Act.put _ (some 51) _ = _
     simp only [Act.put, sT_, sO_, sN_, i64_w, i32_w]
     rfl
    refine pure_ (i := 7) (N := some 3) (v := ?_) (a' := ?_) (tf_ 8 0) rfl rfl (any_of HT_.out (by kernel_rfl)) (fun _ _ _ h => h) (Or.inl ⟨by rfl, ?_⟩) ?_ ?_
    rotate_left; · (intro w'; go_simp; with_reducible rfl)
    rotate_left; · (simp only [Act.put, sT_, sO_, sN_, i64_w, i32_w]; rfl)
    refine done_ (done_of HT_.out (by kernel_rfl)) ?_
    try go_wp2
    go_roundg k1
    case measure => have := HK1.out; omega
    case rel => exact ⟨(t663), (wrap64 (x13_1 + 1)), (by first | rfl | (simp; done) | (simp [bne, *]; done)), H', ⟨by have := HK1.out; omega⟩, ⟨by (with_reducible repeat (first | apply Kd.R_alloc | apply Kd.R_drewN | apply Kd.R_drew)); exact Kd.R_mono HO665.out (fun _ hk => trivial)⟩, ⟨by repeat (first | (with_reducible first | exact HB.out | apply bA_ | apply bN_ | apply bD_ | refine bS_ ?_ GE640 | refine bS_ ?_ GE654) | exact HB.out)⟩⟩
   ·
    replace c15 := Bool.eq_false_iff.mpr c15
    subst c15
    have H1 : (if t656.length < 140737488355328 then ((skerryref01_Put.f k1 (t656 ++ [0]) (IntKind.u64.wrap ((rd_T29 l0 x13_1).f1.f3.f0))).bind fun t669 => ((skerryref01_Zig.f ((rd_T29 l0 x13_1).f1.f3.f1)).bind fun t672 => ((skerryref01_Put.f k1 t669 t672).bind fun t673 => ((skerryref01_PutText.f k1 t673 ((rd_T29 l0 x13_1).f1.f3.f2)).bind fun t676 => (skerryref01_Cells.l0 k1 t676 l0 (l0.length : Int) (wrap64 (x13_1 + 1))))))) else (none)) = some r := by rw [if_neg (show ¬ (false = true) by decide)] at H; exact H
    clear H
    have H := H1
    clear H1
    by_cases c43 : t656.length < 140737488355328
    rotate_left
    ·
     rw [if_neg c43] at H
     exact absurd H (by simp)
    rw [if_pos c43] at H
    have LMc43 := Aside0.mk c43
    clear c43
    obtain ⟨y666, hy666⟩ : ∃ y_ : List Int, y_ = (t656 ++ [0]) := ⟨_, rfl⟩
    replace H : ((skerryref01_Put.f k1 y666 (IntKind.u64.wrap ((rd_T29 l0 x13_1).f1.f3.f0))).bind fun t669 => ((skerryref01_Zig.f ((rd_T29 l0 x13_1).f1.f3.f1)).bind fun t672 => ((skerryref01_Put.f k1 t669 t672).bind fun t673 => ((skerryref01_PutText.f k1 t673 ((rd_T29 l0 x13_1).f1.f3.f2)).bind fun t676 => (skerryref01_Cells.l0 k1 t676 l0 (l0.length : Int) (wrap64 (x13_1 + 1))))))) = some r := by first | (rw [hy666]; with_reducible exact H) | (have H2_ := (Option.bind_some _ _).symm.trans H; rw [hy666]; with_reducible exact H2_) | (have H2_ := (Option.bind_some _ _).symm.trans H; with_reducible exact H2_) | with_reducible exact H | (rw [hy666]; exact H) | exact H
    have Ny666 := Aside0.mk hy666
    clear hy666
    replace H := Option.bind_eq_some_iff.mp H
    obtain ⟨t669, A440, H⟩ := H
    have A44 := Aside0.mk A440
    clear A440
    replace H := Option.bind_eq_some_iff.mp H
    obtain ⟨t672, A450, H⟩ := H
    have A45 := Aside0.mk A450
    clear A450
    replace H := Option.bind_eq_some_iff.mp H
    obtain ⟨t673, A460, H⟩ := H
    have A46 := Aside0.mk A460
    clear A460
    replace H := Option.bind_eq_some_iff.mp H
    obtain ⟨t676, A470, H⟩ := H
    have A47 := Aside0.mk A470
    clear A470
    have H' := Aside0.mk H
    clear H
    have p639 : 0 ≤ (x13_1 : Int) := of_decide_eq_true (by first | (with_reducible assumption) | assumption)
    have q639 : x13_1 < (l0.length : Int) := of_decide_eq_true (by first | (with_reducible assumption) | assumption)
    obtain ⟨ad639, e639, hx639_0, hx639_1, hx639_2, hx639_3, hx639_4, hx639_5, hx639_6, hx639_7, hx639_8, hx639_9⟩ := at_T29 HR0.out x13_1 p639 q639
    (try rw [← Nbq14.out] at hx639_5)
    cases e639
    replace hx639_0 := cB_ HB hx639_0
    replace hx639_1 := cB_ HB hx639_1
    replace hx639_2 := cB_ HB hx639_2
    replace hx639_3 := cB_ HB hx639_3
    replace hx639_4 := cB_ HB hx639_4
    replace hx639_5 := cB_ HB hx639_5
    replace hx639_6 := cB_ HB hx639_6
    replace hx639_7 := cB_ HB hx639_7
    replace hx639_8 := cB_ HB hx639_8
    replace hx639_9 := cB_ HB hx639_9
    replace p639 := eq_true p639
    replace q639 := eq_true q639
    try go_wp2_with (first | ((with_reducible refine gate_dst (N := 5) rfl ?_); refine box_event ?hg (N := 5) ?hd (cs := #[.string (⟨#[]⟩ : ByteArray), .string (⟨#[]⟩ : ByteArray), .int .i64 0, .string (⟨#[]⟩ : ByteArray), .int .i64 0, .bool false, .int .i64 0, .int .i64 0, .int .i64 0, .string (⟨#[]⟩ : ByteArray)]) (t := 29) ?hr ?_; (case hd => rfl); (case hg => rfl); (case hr => first | (go_simp; done) | (go_simp; rfl)); intro gb640 hg w48 hbox hb; replace HO_3 := kR HO_3 hb; have BK640 := Aside0.mk (hbox); have GW640 := Aside0.mk ((by rw [hg]; exact (bZ_ (kwW HB)) : w.heap.size ≤ gb640)); replace HB := Aside0.mk (below_step (kwW HB) hb); have GE640 := GW640; clear hb hbox hg; obtain ⟨_, _, _, _, _, _, _, _, _, _, _, _, _, _, _, _, _, _, _, _⟩ := czf10 BK640))
    have n0_ : Aside0 (Kd.R (Kd.int .u8) 5 ((((((((((w48.setCell ⟨gb640, 0, none⟩ (.string ((rd_T29 l0 x13_1).f0.f0))).setCell ⟨gb640, 1, none⟩ (.string ((rd_T29 l0 x13_1).f0.f1))).setCell ⟨gb640, 2, none⟩ (.int .i64 ((rd_T29 l0 x13_1).f0.f2))).setCell ⟨gb640, 3, none⟩ (.string ((rd_T29 l0 x13_1).f0.f3))).setCell ⟨gb640, 4, none⟩ (.int .i64 ((rd_T29 l0 x13_1).f1.f0))).setCell ⟨gb640, 5, none⟩ (.bool false)).setCell ⟨gb640, 6, none⟩ (.int .i64 ((rd_T29 l0 x13_1).f1.f2))).setCell ⟨gb640, 7, none⟩ (.int .i64 ((rd_T29 l0 x13_1).f1.f3.f0))).setCell ⟨gb640, 8, none⟩ (.int .i64 ((rd_T29 l0 x13_1).f1.f3.f1))).setCell ⟨gb640, 9, none⟩ (.string ((rd_T29 l0 x13_1).f1.f3.f2))) w.heap.size (fun _ => True) u3 x3_1) := ⟨by (with_reducible repeat (first | apply Kd.R_alloc | apply Kd.R_drewN | apply Kd.R_drew)); exact Kd.R_mono (rf10 (Kd.R_types HO_3.out BK640.out (by decide)) (fun _ hk => hk.2)) (fun _ hk => trivial)⟩
    have n1_ : Aside0 (((((((((((w48.setCell ⟨gb640, 0, none⟩ (.string ((rd_T29 l0 x13_1).f0.f0))).setCell ⟨gb640, 1, none⟩ (.string ((rd_T29 l0 x13_1).f0.f1))).setCell ⟨gb640, 2, none⟩ (.int .i64 ((rd_T29 l0 x13_1).f0.f2))).setCell ⟨gb640, 3, none⟩ (.string ((rd_T29 l0 x13_1).f0.f3))).setCell ⟨gb640, 4, none⟩ (.int .i64 ((rd_T29 l0 x13_1).f1.f0))).setCell ⟨gb640, 5, none⟩ (.bool false)).setCell ⟨gb640, 6, none⟩ (.int .i64 ((rd_T29 l0 x13_1).f1.f2))).setCell ⟨gb640, 7, none⟩ (.int .i64 ((rd_T29 l0 x13_1).f1.f3.f0))).setCell ⟨gb640, 8, none⟩ (.int .i64 ((rd_T29 l0 x13_1).f1.f3.f1))).setCell ⟨gb640, 9, none⟩ (.string ((rd_T29 l0 x13_1).f1.f3.f2))).heap[gb640]? = some (.cells #[.string ((rd_T29 l0 x13_1).f0.f0), .string ((rd_T29 l0 x13_1).f0.f1), .int .i64 ((rd_T29 l0 x13_1).f0.f2), .string ((rd_T29 l0 x13_1).f0.f3), .int .i64 ((rd_T29 l0 x13_1).f1.f0), .bool false, .int .i64 ((rd_T29 l0 x13_1).f1.f2), .int .i64 ((rd_T29 l0 x13_1).f1.f3.f0), .int .i64 ((rd_T29 l0 x13_1).f1.f3.f1), .string ((rd_T29 l0 x13_1).f1.f3.f2)] 29 (0, 0))) := ⟨by (with_reducible repeat (first | refine blk_drewN ?_ _ | refine blk_drew ?_ | refine blk_alloc ?_ _)); exact bp10 (kbW BK640)⟩
    have n2_ : Aside0 (Below w.heap.size w ((((((((((w48.setCell ⟨gb640, 0, none⟩ (.string ((rd_T29 l0 x13_1).f0.f0))).setCell ⟨gb640, 1, none⟩ (.string ((rd_T29 l0 x13_1).f0.f1))).setCell ⟨gb640, 2, none⟩ (.int .i64 ((rd_T29 l0 x13_1).f0.f2))).setCell ⟨gb640, 3, none⟩ (.string ((rd_T29 l0 x13_1).f0.f3))).setCell ⟨gb640, 4, none⟩ (.int .i64 ((rd_T29 l0 x13_1).f1.f0))).setCell ⟨gb640, 5, none⟩ (.bool false)).setCell ⟨gb640, 6, none⟩ (.int .i64 ((rd_T29 l0 x13_1).f1.f2))).setCell ⟨gb640, 7, none⟩ (.int .i64 ((rd_T29 l0 x13_1).f1.f3.f0))).setCell ⟨gb640, 8, none⟩ (.int .i64 ((rd_T29 l0 x13_1).f1.f3.f1))).setCell ⟨gb640, 9, none⟩ (.string ((rd_T29 l0 x13_1).f1.f3.f2)))) := ⟨by repeat (first | (with_reducible first | exact HB.out | apply bA_ | apply bN_ | apply bD_ | refine bS_ ?_ GE640) | exact HB.out)⟩
    (try clear HO_3)
    (try clear BK640)
    (try clear HB)
    generalize ((((((((((w48.setCell ⟨gb640, 0, none⟩ (.string ((rd_T29 l0 x13_1).f0.f0))).setCell ⟨gb640, 1, none⟩ (.string ((rd_T29 l0 x13_1).f0.f1))).setCell ⟨gb640, 2, none⟩ (.int .i64 ((rd_T29 l0 x13_1).f0.f2))).setCell ⟨gb640, 3, none⟩ (.string ((rd_T29 l0 x13_1).f0.f3))).setCell ⟨gb640, 4, none⟩ (.int .i64 ((rd_T29 l0 x13_1).f1.f0))).setCell ⟨gb640, 5, none⟩ (.bool false)).setCell ⟨gb640, 6, none⟩ (.int .i64 ((rd_T29 l0 x13_1).f1.f2))).setCell ⟨gb640, 7, none⟩ (.int .i64 ((rd_T29 l0 x13_1).f1.f3.f0))).setCell ⟨gb640, 8, none⟩ (.int .i64 ((rd_T29 l0 x13_1).f1.f3.f1))).setCell ⟨gb640, 9, none⟩ (.string ((rd_T29 l0 x13_1).f1.f3.f2))) = w50 at n0_ n1_ n2_ ⊢
    have HO_3 := n0_
    have BK640 := n1_
    have HB := n2_
    clear n0_ n1_ n2_
    replace HO_3 := Aside0.mk (Kd.R_drew HO_3.out)
    replace BK640 := Aside0.mk (blk_drew BK640.out)
    replace HB := Aside0.mk (below_drew1 HB.out)
    obtain ⟨Ao52, co52, eo52⟩ := Kd.R_slice HO_3.out
    (first | subst eo52 | (injection eo52 with f1_ f2_ f3_; have f4_ := f1_.symm; have f5_ := f3_.symm; clear f1_ f2_ f3_; subst f4_; subst f5_))
    refine start_ (n := 10) (S := fun w' => w'.cell? ⟨gb640, 0, none⟩ = some (.string ((rd_T29 l0 x13_1).f0.f0)) ∧ w'.cell? ⟨gb640, 1, none⟩ = some (.string ((rd_T29 l0 x13_1).f0.f1)) ∧ w'.cell? ⟨gb640, 2, none⟩ = some (.int .i64 ((rd_T29 l0 x13_1).f0.f2)) ∧ w'.cell? ⟨gb640, 3, none⟩ = some (.string ((rd_T29 l0 x13_1).f0.f3)) ∧ w'.cell? ⟨gb640, 4, none⟩ = some (.int .i64 ((rd_T29 l0 x13_1).f1.f0)) ∧ w'.cell? ⟨gb640, 5, none⟩ = some (.bool false) ∧ w'.cell? ⟨gb640, 6, none⟩ = some (.int .i64 ((rd_T29 l0 x13_1).f1.f2)) ∧ w'.cell? ⟨gb640, 7, none⟩ = some (.int .i64 ((rd_T29 l0 x13_1).f1.f3.f0)) ∧ w'.cell? ⟨gb640, 8, none⟩ = some (.int .i64 ((rd_T29 l0 x13_1).f1.f3.f1)) ∧ w'.cell? ⟨gb640, 9, none⟩ = some (.string ((rd_T29 l0 x13_1).f1.f3.f2))) (ds := []) (tf_ 0 10) (by kernel_rfl) rfl rfl (cd10 BK640) (fun hHeld => ?_); refine with_tabW skerryref01_Cells.tab5 skerryref01_Cells.bits5 (fun HT_ HW_ => ?_)
    generalize w50.drew = w51 at HO_3 BK640 HB hHeld ⊢
    refine pure_ (i := 0) (N := some 17) (v := ?_) (a' := ?_) (tf_ 1 9) rfl rfl (any_of HT_.out (by kernel_rfl)) (fun _ _ _ h => h) (Or.inl ⟨by rfl, ?_⟩) ?_ ?_
    rotate_left; · (intro w'; go_simp; with_reducible rfl)
    rotate_left; · (simp only [Act.put, sT_, sO_, sN_, i64_w, i32_w]; rfl)
    refine pure_ (i := 1) (N := some 18) (v := ?_) (a' := ?_) (tf_ 2 8) rfl rfl (any_of HT_.out (by kernel_rfl)) (fun _ _ _ h => h) (Or.inl ⟨by rfl, ?_⟩) ?_ ?_
    rotate_left; · (intro w'; go_simp; with_reducible rfl)
    rotate_left; · (simp only [Act.put, sT_, sO_, sN_, i64_w, i32_w]; rfl)
    refine pure_ (i := 2) (N := some 19) (v := ?_) (a' := ?_) (tf_ 3 7) rfl rfl (any_of HT_.out (by kernel_rfl)) (fun _ _ _ h => h) (Or.inl ⟨by rfl, ?_⟩) ?_ ?_
    rotate_left; · (intro w'; go_simp; with_reducible rfl)
    rotate_left; · (simp only [Act.put, sT_, sO_, sN_, i64_w, i32_w]; rfl)
    refine pure_ (i := 5) (N := some 22) (v := ?_) (a' := ?_) (tb_ 39 10) rfl rfl (any_of HT_.out (by kernel_rfl)) (fun _ _ _ h => h) (Or.inl ⟨by rfl, ?_⟩) ?_ ?_
    rotate_left; · (intro w'; go_simp; with_reducible rfl)
    rotate_left; · (simp only [Act.put, sT_, sO_, sN_, i64_w, i32_w]; rfl)
    refine pure_ (i := 6) (N := some 23) (v := ?_) (a' := ?_) (tb_ 103 10) rfl rfl (any_of HT_.out (by kernel_rfl)) (fun _ _ _ h => h) (Or.inl ⟨by rfl, ?_⟩) ?_ ?_
    rotate_left; · (intro w'; go_simp; with_reducible rfl)
    rotate_left; · (simp only [Act.put, sT_, sO_, sN_, i64_w, i32_w]; rfl)
    refine take_ (i := 3) (N := some 20) (v := ?_) (a' := ?_) (tb_ 111 10) rfl rfl (take_ofW HT_.out HW_.out (by kernel_rfl)) (fun _ _ _ h => h) (Or.inl ⟨by rfl, ?_⟩) hHeld ?_ ?_
    rotate_left; · (rintro w' ⟨s0, s1, s2, s3, s4, s5, s6, s7, s8, s9⟩; go_simp; with_reducible rfl)
    rotate_left; · (simp only [Act.put, sT_, sO_, sN_, i64_w, i32_w]; rfl)
    refine take_ (i := 7) (N := some 24) (v := ?_) (a' := ?_) (tb_ 239 10) rfl rfl (take_ofW HT_.out HW_.out (by kernel_rfl)) (fun _ _ _ h => h) (Or.inl ⟨by rfl, ?_⟩) hHeld ?_ ?_
    rotate_left; · (rintro w' ⟨s0, s1, s2, s3, s4, s5, s6, s7, s8, s9⟩; go_simp; with_reducible rfl)
    rotate_left; · (simp only [Act.put, sT_, sO_, sN_, i64_w, i32_w]; rfl)
    refine one_ (i := 4) (N := some 21) (tf_ 8 2) rfl rfl (one_of HT_.out (by kernel_rfl)) (by decide) (fun K hK => ?_)
    refine goes_ Try.func70 (by kernel_rfl) rfl #[.slice Ao52 x3_1.length co52, .string ((rd_T29 l0 x13_1).f0.f0)] (by rfl) rfl rfl (by (try simp only [mT_, mC_, mN_]); first | done | rfl) ?_
    with_reducible refine (skerryref01_PutText.calls k1 _ _ x3_1 ((rd_T29 l0 x13_1).f0.f0) t641 _ ?side1 ?side2 A7.out).mono ?_
    (case side1 => repeat (first | exact (Kd.R_reads' HO_3.out).2.2 | (with_reducible refine Kd.C_alloc ?_ _) | (with_reducible refine Kd.C_drewN ?_ _) | (with_reducible refine Kd.C_drew ?_)))
    (case side2 => exact (Kd.R_reads' HO_3.out).2.1)
    rintro e w53 ⟨v642, rfl, ho0, hb⟩
    refine ⟨_, rfl, ?_⟩
    have HO643 := Aside0.mk (Kd.R_lower (Kd.R_new' ho0 (Kd.R_lt (krW HO_3))) (bZ_ (by repeat (first | (with_reducible first | exact HB.out | apply bA_ | apply bN_ | apply bD_ | refine bS_ ?_ GE640) | exact HB.out))))
    replace HO_3 := Aside0.mk (Kd.R_elder' (krW HO_3) (Kd.R_base ho0) hb)
    replace BK640 := kB BK640 hb
    replace HB := Aside0.mk (below_step (by repeat (first | (with_reducible first | exact HB.out | apply bA_ | apply bN_ | apply bD_ | refine bS_ ?_ GE640) | exact HB.out)) hb)
    (try clear hb)
    (try clear hb2)
    (try clear hk)
    (try clear hi)
    (try clear ho0)
    obtain ⟨Ao54, co54, eo54⟩ := Kd.R_slice HO643.out
    (first | subst eo54 | (injection eo54 with f1_ f2_ f3_; have f4_ := f1_.symm; have f5_ := f3_.symm; clear f1_ f2_ f3_; subst f4_; subst f5_))
    refine hK.out _ _ (cd10 BK640) (fun hHeld => ?_)
    clear hK K
    refine norm_ (a' := ?_) ?_ ?_
    rotate_left
    ·
     show Act.put _ (some 21) _ = _
     simp only [Act.put, sT_, sO_, sN_, i64_w, i32_w]
     rfl
    refine one_ (i := 8) (N := some 25) (tf_ 9 1) rfl rfl (one_of HT_.out (by kernel_rfl)) (by decide) (fun K hK => ?_)
    refine goes_ Try.func70 (by kernel_rfl) rfl #[.slice Ao54 t641.length co54, .string ((rd_T29 l0 x13_1).f0.f1)] (by rfl) rfl rfl (by (try simp only [mT_, mC_, mN_]); first | done | rfl) ?_
    with_reducible refine (skerryref01_PutText.calls k1 _ _ t641 ((rd_T29 l0 x13_1).f0.f1) t644 _ ?side1 ?side2 A8.out).mono ?_
    (case side1 => repeat (first | exact (Kd.R_reads' HO643.out).2.2 | (with_reducible refine Kd.C_alloc ?_ _) | (with_reducible refine Kd.C_drewN ?_ _) | (with_reducible refine Kd.C_drew ?_)))
    (case side2 => exact (Kd.R_reads' HO643.out).2.1)
    rintro e w55 ⟨v645, rfl, ho0, hb⟩
    refine ⟨_, rfl, ?_⟩
    have HO646 := Aside0.mk (Kd.R_lower (Kd.R_new' (Kd.R_new' ho0 (Kd.R_lt (krW HO_3))) (Kd.R_lt (krW HO643))) (bZ_ (by repeat (first | (with_reducible first | exact HB.out | apply bA_ | apply bN_ | apply bD_ | refine bS_ ?_ GE640) | exact HB.out))))
    replace HO_3 := Aside0.mk (Kd.R_elder' (krW HO_3) (Kd.R_base ho0) hb)
    replace HO643 := Aside0.mk (Kd.R_elder' (krW HO643) (Kd.R_base ho0) hb)
    replace BK640 := kB BK640 hb
    replace HB := Aside0.mk (below_step (by repeat (first | (with_reducible first | exact HB.out | apply bA_ | apply bN_ | apply bD_ | refine bS_ ?_ GE640) | exact HB.out)) hb)
    (try clear hb)
    (try clear hb2)
    (try clear hk)
    (try clear hi)
    (try clear ho0)
    refine hK.out _ _ (cd10 BK640) (fun hHeld => ?_)
    clear hK K
    refine norm_ (a' := ?_) ?_ ?_
    rotate_left
    ·
     show Act.put _ (some 25) _ = _
     simp only [Act.put, sT_, sO_, sN_, i64_w, i32_w]
     rfl
    refine pure_ (i := 9) (N := some 3) (v := ?_) (a' := ?_) (tf_ 10 0) rfl rfl (any_of HT_.out (by kernel_rfl)) (fun _ _ _ h => h) (Or.inl ⟨by rfl, ?_⟩) ?_ ?_
    rotate_left; · (intro w'; go_simp; with_reducible rfl)
    rotate_left; · (simp only [Act.put, sT_, sO_, sN_, i64_w, i32_w]; rfl)
    refine done_ (done_of HT_.out (by kernel_rfl)) ?_
    try go_wp2
    replace HO_3 := Aside0.mk (Kd.R_drew HO_3.out)
    replace HO643 := Aside0.mk (Kd.R_drew HO643.out)
    replace HO646 := Aside0.mk (Kd.R_drew HO646.out)
    replace BK640 := Aside0.mk (blk_drew BK640.out)
    replace HB := Aside0.mk (below_drew1 HB.out)
    refine start_ (n := 11) (S := fun w' => w'.cell? ⟨gb640, 0, none⟩ = some (.string ((rd_T29 l0 x13_1).f0.f0)) ∧ w'.cell? ⟨gb640, 1, none⟩ = some (.string ((rd_T29 l0 x13_1).f0.f1)) ∧ w'.cell? ⟨gb640, 2, none⟩ = some (.int .i64 ((rd_T29 l0 x13_1).f0.f2)) ∧ w'.cell? ⟨gb640, 3, none⟩ = some (.string ((rd_T29 l0 x13_1).f0.f3)) ∧ w'.cell? ⟨gb640, 4, none⟩ = some (.int .i64 ((rd_T29 l0 x13_1).f1.f0)) ∧ w'.cell? ⟨gb640, 5, none⟩ = some (.bool false) ∧ w'.cell? ⟨gb640, 6, none⟩ = some (.int .i64 ((rd_T29 l0 x13_1).f1.f2)) ∧ w'.cell? ⟨gb640, 7, none⟩ = some (.int .i64 ((rd_T29 l0 x13_1).f1.f3.f0)) ∧ w'.cell? ⟨gb640, 8, none⟩ = some (.int .i64 ((rd_T29 l0 x13_1).f1.f3.f1)) ∧ w'.cell? ⟨gb640, 9, none⟩ = some (.string ((rd_T29 l0 x13_1).f1.f3.f2))) (ds := []) (tf_ 0 11) (by kernel_rfl) rfl rfl (cd10 BK640) (fun hHeld => ?_); refine with_tabW skerryref01_Cells.tab6 skerryref01_Cells.bits6 (fun HT_ HW_ => ?_)
    generalize w55.drew = w56 at HO_3 HO643 HO646 BK640 HB hHeld ⊢
    refine pure_ (i := 0) (N := some 26) (v := ?_) (a' := ?_) (tf_ 1 10) rfl rfl (any_of HT_.out (by kernel_rfl)) (fun _ _ _ h => h) (Or.inl ⟨by rfl, ?_⟩) ?_ ?_
    rotate_left; · (intro w'; go_simp; with_reducible rfl)
    rotate_left; · (simp only [Act.put, sT_, sO_, sN_, i64_w, i32_w]; rfl)
    refine pure_ (i := 1) (N := some 27) (v := ?_) (a' := ?_) (tf_ 2 9) rfl rfl (any_of HT_.out (by kernel_rfl)) (fun _ _ _ h => h) (Or.inl ⟨by rfl, ?_⟩) ?_ ?_
    rotate_left; · (intro w'; go_simp; with_reducible rfl)
    rotate_left; · (simp only [Act.put, sT_, sO_, sN_, i64_w, i32_w]; rfl)
    refine pure_ (i := 2) (N := some 28) (v := ?_) (a' := ?_) (tf_ 3 8) rfl rfl (any_of HT_.out (by kernel_rfl)) (fun _ _ _ h => h) (Or.inl ⟨by rfl, ?_⟩) ?_ ?_
    rotate_left; · (intro w'; go_simp; with_reducible rfl)
    rotate_left; · (simp only [Act.put, sT_, sO_, sN_, i64_w, i32_w]; rfl)
    refine pure_ (i := 6) (N := some 32) (v := ?_) (a' := ?_) (tb_ 71 11) rfl rfl (any_of HT_.out (by kernel_rfl)) (fun _ _ _ h => h) (Or.inl ⟨by rfl, ?_⟩) ?_ ?_
    rotate_left; · (intro w'; go_simp; with_reducible rfl)
    rotate_left; · (simp only [Act.put, sT_, sO_, sN_, i64_w, i32_w]; rfl)
    refine pure_ (i := 7) (N := some 33) (v := ?_) (a' := ?_) (tb_ 199 11) rfl rfl (any_of HT_.out (by kernel_rfl)) (fun _ _ _ h => h) (Or.inl ⟨by rfl, ?_⟩) ?_ ?_
    rotate_left; · (intro w'; go_simp; with_reducible rfl)
    rotate_left; · (simp only [Act.put, sT_, sO_, sN_, i64_w, i32_w]; rfl)
    refine take_ (i := 3) (N := some 29) (v := ?_) (a' := ?_) (tb_ 207 11) rfl rfl (take_ofW HT_.out HW_.out (by kernel_rfl)) (fun _ _ _ h => h) (Or.inl ⟨by rfl, ?_⟩) hHeld ?_ ?_
    rotate_left; · (rintro w' ⟨s0, s1, s2, s3, s4, s5, s6, s7, s8, s9⟩; go_simp; with_reducible rfl)
    rotate_left; · (simp only [Act.put, sT_, sO_, sN_, i64_w, i32_w]; rfl)
    refine take_ (i := 8) (N := some 34) (v := ?_) (a' := ?_) (tb_ 463 11) rfl rfl (take_ofW HT_.out HW_.out (by kernel_rfl)) (fun _ _ _ h => h) (Or.inl ⟨by rfl, ?_⟩) hHeld ?_ ?_
    rotate_left; · (rintro w' ⟨s0, s1, s2, s3, s4, s5, s6, s7, s8, s9⟩; go_simp; with_reducible rfl)
    rotate_left; · (simp only [Act.put, sT_, sO_, sN_, i64_w, i32_w]; rfl)
    refine one_ (i := 4) (N := some 30) (tb_ 479 11) rfl rfl (one_of HT_.out (by kernel_rfl)) (by decide) (fun K hK => ?_)
    refine goes_ Try.func71 (by kernel_rfl) rfl #[.int .i64 ((rd_T29 l0 x13_1).f0.f2)] (by rfl) rfl rfl (by (try simp only [mT_, mC_, mN_]); first | done | rfl) ?_
    with_reducible refine (skerryref01_Zig.calls ((rd_T29 l0 x13_1).f0.f2) t647 _ A9.out).mono ?_
    rintro e w' ⟨rfl, ⟨nd, rfl⟩⟩
    refine ⟨_, rfl, ?_⟩
    obtain ⟨Ao57, co57, eo57⟩ := Kd.R_slice HO646.out
    (first | subst eo57 | (injection eo57 with f1_ f2_ f3_; have f4_ := f1_.symm; have f5_ := f3_.symm; clear f1_ f2_ f3_; subst f4_; subst f5_))
    refine hK.out _ _ (cd10 BK640) (fun hHeld => ?_)
    clear hK K
    refine norm_ (a' := ?_) ?_ ?_
    rotate_left
    ·
     show Act.put _ (some 30) _ = _
     simp only [Act.put, sT_, sO_, sN_, i64_w, i32_w]
     rfl
    refine one_ (i := 5) (N := some 31) (tf_ 9 2) rfl rfl (one_of HT_.out (by kernel_rfl)) (by decide) (fun K hK => ?_)
    refine goes_ Try.func69 (by kernel_rfl) rfl #[.slice Ao57 t644.length co57, .int .u64 t647] (by rfl) rfl rfl (by (try simp only [mT_, mC_, mN_]); first | done | rfl) ?_
    with_reducible refine (skerryref01_Put.calls k1 _ _ t644 t647 t648 _ ?side1 ?side2 A10.out).mono ?_
    (case side1 => repeat (first | exact (Kd.R_reads' HO646.out).2.2 | (with_reducible refine Kd.C_alloc ?_ _) | (with_reducible refine Kd.C_drewN ?_ _) | (with_reducible refine Kd.C_drew ?_)))
    (case side2 => exact (Kd.R_reads' HO646.out).2.1)
    rintro e w58 ⟨v649, rfl, ho0, hb⟩
    refine ⟨_, rfl, ?_⟩
    have HO650 := Aside0.mk (Kd.R_lower (Kd.R_new' (Kd.R_new' (Kd.R_new' ho0 (Kd.R_lt (krW HO_3))) (Kd.R_lt (krW HO643))) (Kd.R_lt (krW HO646))) (bZ_ (by repeat (first | (with_reducible first | exact HB.out | apply bA_ | apply bN_ | apply bD_ | refine bS_ ?_ GE640) | exact HB.out))))
    replace HO_3 := Aside0.mk (Kd.R_elder' (krW HO_3) (Kd.R_base ho0) hb)
    replace HO643 := Aside0.mk (Kd.R_elder' (krW HO643) (Kd.R_base ho0) hb)
    replace HO646 := Aside0.mk (Kd.R_elder' (krW HO646) (Kd.R_base ho0) hb)
    replace BK640 := kB BK640 hb
    replace HB := Aside0.mk (below_step (by repeat (first | (with_reducible first | exact HB.out | apply bA_ | apply bN_ | apply bD_ | refine bS_ ?_ GE640) | exact HB.out)) hb)
    (try clear hb)
    (try clear hb2)
    (try clear hk)
    (try clear hi)
    (try clear ho0)
    obtain ⟨Ao59, co59, eo59⟩ := Kd.R_slice HO650.out
    (first | subst eo59 | (injection eo59 with f1_ f2_ f3_; have f4_ := f1_.symm; have f5_ := f3_.symm; clear f1_ f2_ f3_; subst f4_; subst f5_))
    refine hK.out _ _ (cd10 BK640) (fun hHeld => ?_)
    clear hK K
    refine norm_ (a' := ?_) ?_ ?_
    rotate_left
    ·
     show Act.put _ (some 31) _ = _
     simp only [Act.put, sT_, sO_, sN_, i64_w, i32_w]
     rfl
    refine one_ (i := 9) (N := some 35) (tf_ 10 1) rfl rfl (one_of HT_.out (by kernel_rfl)) (by decide) (fun K hK => ?_)
    refine goes_ Try.func70 (by kernel_rfl) rfl #[.slice Ao59 t648.length co59, .string ((rd_T29 l0 x13_1).f0.f3)] (by rfl) rfl rfl (by (try simp only [mT_, mC_, mN_]); first | done | rfl) ?_
    with_reducible refine (skerryref01_PutText.calls k1 _ _ t648 ((rd_T29 l0 x13_1).f0.f3) t651 _ ?side1 ?side2 A11.out).mono ?_
    (case side1 => repeat (first | exact (Kd.R_reads' HO650.out).2.2 | (with_reducible refine Kd.C_alloc ?_ _) | (with_reducible refine Kd.C_drewN ?_ _) | (with_reducible refine Kd.C_drew ?_)))
    (case side2 => exact (Kd.R_reads' HO650.out).2.1)
    rintro e w60 ⟨v652, rfl, ho0, hb⟩
    refine ⟨_, rfl, ?_⟩
    have HO653 := Aside0.mk (Kd.R_lower (Kd.R_new' (Kd.R_new' (Kd.R_new' (Kd.R_new' ho0 (Kd.R_lt (krW HO_3))) (Kd.R_lt (krW HO643))) (Kd.R_lt (krW HO646))) (Kd.R_lt (krW HO650))) (bZ_ (by repeat (first | (with_reducible first | exact HB.out | apply bA_ | apply bN_ | apply bD_ | refine bS_ ?_ GE640) | exact HB.out))))
    replace HO_3 := Aside0.mk (Kd.R_elder' (krW HO_3) (Kd.R_base ho0) hb)
    replace HO643 := Aside0.mk (Kd.R_elder' (krW HO643) (Kd.R_base ho0) hb)
    replace HO646 := Aside0.mk (Kd.R_elder' (krW HO646) (Kd.R_base ho0) hb)
    replace HO650 := Aside0.mk (Kd.R_elder' (krW HO650) (Kd.R_base ho0) hb)
    replace BK640 := kB BK640 hb
    replace HB := Aside0.mk (below_step (by repeat (first | (with_reducible first | exact HB.out | apply bA_ | apply bN_ | apply bD_ | refine bS_ ?_ GE640) | exact HB.out)) hb)
    (try clear hb)
    (try clear hb2)
    (try clear hk)
    (try clear hi)
    (try clear ho0)
    refine hK.out _ _ (cd10 BK640) (fun hHeld => ?_)
    clear hK K
    refine norm_ (a' := ?_) ?_ ?_
    rotate_left
    ·
     show Act.put _ (some 35) _ = _
     simp only [Act.put, sT_, sO_, sN_, i64_w, i32_w]
     rfl
    refine pure_ (i := 10) (N := some 3) (v := ?_) (a' := ?_) (tf_ 11 0) rfl rfl (any_of HT_.out (by kernel_rfl)) (fun _ _ _ h => h) (Or.inl ⟨by rfl, ?_⟩) ?_ ?_
    rotate_left; · (intro w'; go_simp; with_reducible rfl)
    rotate_left; · (simp only [Act.put, sT_, sO_, sN_, i64_w, i32_w]; rfl)
    refine done_ (done_of HT_.out (by kernel_rfl)) ?_
    obtain ⟨_, _, _, _, _, _, _, _, _, _, _, _, _, _, _, _, _, _, _, _⟩ := czf10 BK640
    try go_wp2_with (first | ((with_reducible refine gate_dst (N := 6) rfl ?_); refine box_event ?hg (N := 6) ?hd (cs := #[.int .i64 0, .bool false, .int .i64 0, .int .i64 0, .int .i64 0, .string (⟨#[]⟩ : ByteArray)]) (t := 27) ?hr ?_; (case hd => rfl); (case hg => rfl); (case hr => first | (go_simp; done) | (go_simp; rfl)); intro gb654 hg w62 hbox hb; replace HO_3 := kR HO_3 hb; replace HO643 := kR HO643 hb; replace HO646 := kR HO646 hb; replace HO650 := kR HO650 hb; replace HO653 := kR HO653 hb; have BK654 := Aside0.mk (hbox); have GW654 := Aside0.mk ((by rw [hg]; exact (bZ_ (by repeat (first | (with_reducible first | exact HB.out | apply bA_ | apply bN_ | apply bD_ | refine bS_ ?_ GE640) | exact HB.out))) : w.heap.size ≤ gb654)); replace HB := Aside0.mk (below_step (by repeat (first | (with_reducible first | exact HB.out | apply bA_ | apply bN_ | apply bD_ | refine bS_ ?_ GE640) | exact HB.out)) hb); have GE654 := GW654; have NB640_654 := Aside0.mk ((by rw [hg]; exact Nat.ne_of_lt (blk_lt (kbW BK640)) : gb640 ≠ gb654)); have NB654_640 := Aside0.mk ((by rw [hg]; exact Nat.ne_of_gt (blk_lt (kbW BK640)) : gb654 ≠ gb640)); replace BK640 := kB BK640 hb; clear hb hbox hg; have hnb63 := NB654_640.out; have hnc63 := NB640_654.out; obtain ⟨_, _, _, _, _, _, _, _, _, _, _, _⟩ := czf6 BK654) | ((with_reducible refine gate_callee (f := 71) rfl ?_); refine goesL_ (some 41) rfl rfl Try.func71 (by kernel_rfl) rfl #[.int .i64 ((rd_T29 l0 x13_1).f1.f0)] rfl (by (try simp only [mT_, mC_, mN_]); first | done | rfl) ?_; (with_reducible refine (skerryref01_Zig.calls ((rd_T29 l0 x13_1).f1.f0) t655 _ A12.out).mono ?_); rintro e w' ⟨rfl, ⟨nd, rfl⟩⟩; refine ⟨_, rfl, ?_⟩; obtain ⟨Ao65, co65, eo65⟩ := Kd.R_slice HO653.out; subst eo65) | ((with_reducible refine gate_callee (f := 69) rfl ?_); refine goesL_ (some 42) rfl rfl Try.func69 (by kernel_rfl) rfl #[.slice Ao65 t651.length co65, .int .u64 t655] rfl (by (try simp only [mT_, mC_, mN_]); first | done | rfl) ?_; (with_reducible refine (skerryref01_Put.calls k1 _ _ t651 t655 t656 _ ?side1 ?side2 A13.out).mono ?_); (case side1 => refine (Kd.R_reads' (e := 5) (base := w.heap.size) (ok := fun k_ => ((((True ∧ some k_ ≠ (.slice Ao52 x3_1.length co52 : Value).ownBlock) ∧ some k_ ≠ (.slice Ao54 t641.length co54 : Value).ownBlock) ∧ some k_ ≠ (.slice Ao57 t644.length co57 : Value).ownBlock) ∧ some k_ ≠ (.slice Ao59 t648.length co59 : Value).ownBlock)) (n := t651.length) (c := co65) ?_).2.2; exact (by (with_reducible repeat (first | apply Kd.R_alloc | apply Kd.R_drewN | apply Kd.R_drew)); exact (Kd.R_mono (rf6 (Kd.R_types HO653.out BK654.out (by decide)) (fun _ hk => hk.2)) (fun _ h_ => h_.1)))); (case side2 => exact (Kd.R_reads' HO653.out).2.1); rintro e w66 ⟨v657, rfl, ho0, hb⟩; refine ⟨_, rfl, ?_⟩; have HO658 := Aside0.mk (Kd.R_lower (Kd.R_new' (Kd.R_new' (Kd.R_new' (Kd.R_new' (Kd.R_new' ho0 (Kd.R_lt (by (with_reducible repeat (first | apply Kd.R_alloc | apply Kd.R_drewN | apply Kd.R_drew)); exact (Kd.R_mono (rf6 (Kd.R_types HO_3.out BK654.out (by decide)) (fun _ hk => hk.2)) (fun _ h_ => h_.1))))) (Kd.R_lt (by (with_reducible repeat (first | apply Kd.R_alloc | apply Kd.R_drewN | apply Kd.R_drew)); exact (Kd.R_mono (rf6 (Kd.R_types HO643.out BK654.out (by decide)) (fun _ hk => hk.2)) (fun _ h_ => h_.1))))) (Kd.R_lt (by (with_reducible repeat (first | apply Kd.R_alloc | apply Kd.R_drewN | apply Kd.R_drew)); exact (Kd.R_mono (rf6 (Kd.R_types HO646.out BK654.out (by decide)) (fun _ hk => hk.2)) (fun _ h_ => h_.1))))) (Kd.R_lt (by (with_reducible repeat (first | apply Kd.R_alloc | apply Kd.R_drewN | apply Kd.R_drew)); exact (Kd.R_mono (rf6 (Kd.R_types HO650.out BK654.out (by decide)) (fun _ hk => hk.2)) (fun _ h_ => h_.1))))) (Kd.R_lt (by (with_reducible repeat (first | apply Kd.R_alloc | apply Kd.R_drewN | apply Kd.R_drew)); exact (Kd.R_mono (rf6 (Kd.R_types HO653.out BK654.out (by decide)) (fun _ hk => hk.2)) (fun _ h_ => h_.1))))) (bZ_ (by repeat (first | (with_reducible first | exact HB.out | apply bA_ | apply bN_ | apply bD_ | refine bS_ ?_ GE640 | refine bS_ ?_ GE654) | exact HB.out)))); replace HO_3 := Aside0.mk (Kd.R_elder' (by (with_reducible repeat (first | apply Kd.R_alloc | apply Kd.R_drewN | apply Kd.R_drew)); exact (Kd.R_mono (rf6 (Kd.R_types HO_3.out BK654.out (by decide)) (fun _ hk => hk.2)) (fun _ h_ => h_.1))) (Kd.R_base ho0) hb); replace HO643 := Aside0.mk (Kd.R_elder' (by (with_reducible repeat (first | apply Kd.R_alloc | apply Kd.R_drewN | apply Kd.R_drew)); exact (Kd.R_mono (rf6 (Kd.R_types HO643.out BK654.out (by decide)) (fun _ hk => hk.2)) (fun _ h_ => h_.1))) (Kd.R_base ho0) hb); replace HO646 := Aside0.mk (Kd.R_elder' (by (with_reducible repeat (first | apply Kd.R_alloc | apply Kd.R_drewN | apply Kd.R_drew)); exact (Kd.R_mono (rf6 (Kd.R_types HO646.out BK654.out (by decide)) (fun _ hk => hk.2)) (fun _ h_ => h_.1))) (Kd.R_base ho0) hb); replace HO650 := Aside0.mk (Kd.R_elder' (by (with_reducible repeat (first | apply Kd.R_alloc | apply Kd.R_drewN | apply Kd.R_drew)); exact (Kd.R_mono (rf6 (Kd.R_types HO650.out BK654.out (by decide)) (fun _ hk => hk.2)) (fun _ h_ => h_.1))) (Kd.R_base ho0) hb); replace HO653 := Aside0.mk (Kd.R_elder' (by (with_reducible repeat (first | apply Kd.R_alloc | apply Kd.R_drewN | apply Kd.R_drew)); exact (Kd.R_mono (rf6 (Kd.R_types HO653.out BK654.out (by decide)) (fun _ hk => hk.2)) (fun _ h_ => h_.1))) (Kd.R_base ho0) hb); replace BK640 := kBf BK640 (fun h_ => by (with_reducible repeat (first | refine blk_drewN ?_ _ | refine blk_drew ?_ | refine blk_alloc ?_ _)); refine bf6 ?_ NB640_654.out; (with_reducible repeat (first | refine blk_drewN ?_ _ | refine blk_drew ?_ | refine blk_alloc ?_ _)); exact h_) hb; replace BK654 := Aside0.mk (blk_below (g := gb654) (o := .cells #[.int .i64 ((rd_T29 l0 x13_1).f1.f0), .bool false, .int .i64 ((rd_T29 l0 x13_1).f1.f2), .int .i64 ((rd_T29 l0 x13_1).f1.f3.f0), .int .i64 ((rd_T29 l0 x13_1).f1.f3.f1), .string ((rd_T29 l0 x13_1).f1.f3.f2)] 27 (0, 0)) (by (with_reducible repeat (first | refine blk_drewN ?_ _ | refine blk_drew ?_ | refine blk_alloc ?_ _)); exact bp6 (kbW BK654)) hb); replace HB := Aside0.mk (below_step (by repeat (first | (with_reducible first | exact HB.out | apply bA_ | apply bN_ | apply bD_ | refine bS_ ?_ GE640 | refine bS_ ?_ GE654) | exact HB.out)) hb); (try clear hb); (try clear hb2); (try clear hk); (try clear hi); (try clear ho0); obtain ⟨_, _, _, _, _, _, _, _, _, _, _, _⟩ := czf6 BK654))
    replace HO_3 := Aside0.mk (Kd.R_drew HO_3.out)
    replace HO643 := Aside0.mk (Kd.R_drew HO643.out)
    replace HO646 := Aside0.mk (Kd.R_drew HO646.out)
    replace HO650 := Aside0.mk (Kd.R_drew HO650.out)
    replace HO653 := Aside0.mk (Kd.R_drew HO653.out)
    replace HO658 := Aside0.mk (Kd.R_drew HO658.out)
    replace BK640 := Aside0.mk (blk_drew BK640.out)
    replace BK654 := Aside0.mk (blk_drew BK654.out)
    replace HB := Aside0.mk (below_drew1 HB.out)
    refine start_ (n := 9) (S := fun w' => w'.cell? ⟨gb654, 0, none⟩ = some (.int .i64 ((rd_T29 l0 x13_1).f1.f0)) ∧ w'.cell? ⟨gb654, 1, none⟩ = some (.bool false) ∧ w'.cell? ⟨gb654, 2, none⟩ = some (.int .i64 ((rd_T29 l0 x13_1).f1.f2)) ∧ w'.cell? ⟨gb654, 3, none⟩ = some (.int .i64 ((rd_T29 l0 x13_1).f1.f3.f0)) ∧ w'.cell? ⟨gb654, 4, none⟩ = some (.int .i64 ((rd_T29 l0 x13_1).f1.f3.f1)) ∧ w'.cell? ⟨gb654, 5, none⟩ = some (.string ((rd_T29 l0 x13_1).f1.f3.f2))) (ds := []) (tf_ 0 9) (by kernel_rfl) rfl rfl (cd6 BK654) (fun hHeld => ?_); refine with_tabW skerryref01_Cells.tab11 skerryref01_Cells.bits11 (fun HT_ HW_ => ?_)
    generalize w66.drew = w68 at HO_3 HO643 HO646 HO650 HO653 HO658 BK640 BK654 HB hHeld ⊢
    refine pure_ (i := 0) (N := some 52) (v := ?_) (a' := ?_) (tf_ 1 8) rfl rfl (any_of HT_.out (by kernel_rfl)) (fun _ _ _ h => h) (Or.inl ⟨by rfl, ?_⟩) ?_ ?_
    rotate_left; · (intro w'; go_simp; with_reducible rfl)
    rotate_left; · (simp only [Act.put, sT_, sO_, sN_, i64_w, i32_w]; rfl)
    refine pure_ (i := 3) (N := some 55) (v := ?_) (a' := ?_) (tb_ 9 9) rfl rfl (any_of HT_.out (by kernel_rfl)) (fun _ _ _ h => h) (Or.inl ⟨by rfl, ?_⟩) ?_ ?_
    rotate_left; · (intro w'; go_simp; with_reducible rfl)
    rotate_left; · (simp only [Act.put, sT_, sO_, sN_, i64_w, i32_w]; rfl)
    refine pure_ (i := 4) (N := some 56) (v := ?_) (a' := ?_) (tb_ 25 9) rfl rfl (any_of HT_.out (by kernel_rfl)) (fun _ _ _ h => h) (Or.inl ⟨by rfl, ?_⟩) ?_ ?_
    rotate_left; · (intro w'; go_simp; with_reducible rfl)
    rotate_left; · (simp only [Act.put, sT_, sO_, sN_, i64_w, i32_w]; rfl)
    refine take_ (i := 5) (N := some 57) (v := ?_) (a' := ?_) (tb_ 57 9) rfl rfl (take_ofW HT_.out HW_.out (by kernel_rfl)) (fun _ _ _ h => h) (Or.inl ⟨by rfl, ?_⟩) hHeld ?_ ?_
    rotate_left; · (rintro w' ⟨s0, s1, s2, s3, s4, s5⟩; go_simp; with_reducible rfl)
    rotate_left; · (simp only [Act.put, sT_, sO_, sN_, i64_w, i32_w]; rfl)
    refine pure_ (i := 6) (N := some 58) (v := ?_) (a' := ?_) (tb_ 121 9) rfl rfl (any_of HT_.out (by kernel_rfl)) (fun _ _ _ h => h) (Or.inl ⟨by rfl, ?_⟩) ?_ ?_
    rotate_left; · (intro w'; go_simp; with_reducible rfl)
    rotate_left; · (simp only [Act.put, sT_, sO_, sN_, i64_w, i32_w]; rfl)
    refine one_ (i := 1) (N := some 53) (tb_ 123 9) rfl rfl (one_of HT_.out (by kernel_rfl)) (by decide) (fun K hK => ?_)
    refine value_ (w1 := ?_) (v := ?_) (by rfl) rfl ?_ ?_
    rotate_left 2
    ·
     go_simp
     constructor
     ·
      rfl
     ·
      rfl
    refine hK.out _ _ ⟨(blk_cell (blk_alloc BK654.out _) 0).trans rfl, (blk_cell (blk_alloc BK654.out _) 1).trans rfl, (blk_cell (blk_alloc BK654.out _) 2).trans rfl, (blk_cell (blk_alloc BK654.out _) 3).trans rfl, (blk_cell (blk_alloc BK654.out _) 4).trans rfl, (blk_cell (blk_alloc BK654.out _) 5).trans rfl⟩ (fun hHeld => ?_)
    clear hK K
    refine norm_ (a' := ?_) ?_ ?_
    rotate_left
    ·
     show Act.put _ (some 53) _ = _
     simp only [Act.put, sT_, sO_, sN_, i64_w, i32_w]
     rfl
    refine one_ (i := 2) (N := some 54) (tf_ 7 2) rfl rfl (one_of HT_.out (by kernel_rfl)) (by decide) (fun K hK => ?_)
    refine Kd.R_append_step (Kd.int .u8) (w0 := w) w.heap.size (by rfl) (.tmp 52) (.tmp 53) 61 5 (.int .u8 0) 1 rfl Try.underlying61 info5 rfl (by decide) (by omega) v657 t656 0 [.int .u8 0] (fun k_ => some k_ ≠ (.slice Ao52 x3_1.length co52 : Value).ownBlock ∧ some k_ ≠ (.slice Ao54 t641.length co54 : Value).ownBlock ∧ some k_ ≠ (.slice Ao57 t644.length co57 : Value).ownBlock ∧ some k_ ≠ (.slice Ao59 t648.length co59 : Value).ownBlock ∧ some k_ ≠ (.slice Ao65 t651.length co65 : Value).ownBlock) (fun _ => False) rfl rfl ?aP (fun _ hk => hk.elim) ?aF ?aO ?aB ?aS ?aL ?_
    (case aP => exact rfl)
    (case aB => exact (by repeat (first | (with_reducible first | exact HB.out | apply bA_ | apply bN_ | apply bD_ | refine bS_ ?_ GE640 | refine bS_ ?_ GE654) | exact HB.out)))
    (case aF => exact (fun k_ hk => ⟨Kd.fresh' (Kd.R_lt (krW HO_3)) k_ hk, Kd.fresh' (Kd.R_lt (krW HO643)) k_ hk, Kd.fresh' (Kd.R_lt (krW HO646)) k_ hk, Kd.fresh' (Kd.R_lt (krW HO650)) k_ hk, Kd.fresh' (Kd.R_lt (krW HO653)) k_ hk⟩))
    (case aO => exact (by (with_reducible repeat (first | apply Kd.R_alloc | apply Kd.R_drewN | apply Kd.R_drew)); exact Kd.R_mono HO658.out (fun _ hk => ⟨hk.1.1.1.1.2, ⟨hk.1.1.1.2, ⟨hk.1.1.2, ⟨hk.1.2, hk.2⟩⟩⟩⟩)))
    (case aS => exact (bZ_ (by repeat (first | (with_reducible first | exact HB.out | apply bA_ | apply bN_ | apply bD_ | refine bS_ ?_ GE640 | refine bS_ ?_ GE654) | exact HB.out))))
    (case aL => have := LMc43.out; omega)
    intro v667 w69 ho hb hg hat
    rw [← Ny666.out] at ho
    replace HO_3 := Aside0.mk (Kd.R_after (ok := (fun k_ => some k_ ≠ (.slice Ao54 t641.length co54 : Value).ownBlock ∧ some k_ ≠ (.slice Ao57 t644.length co57 : Value).ownBlock ∧ some k_ ≠ (.slice Ao59 t648.length co59 : Value).ownBlock ∧ some k_ ≠ (.slice Ao65 t651.length co65 : Value).ownBlock)) (by (with_reducible repeat (first | apply Kd.R_alloc | apply Kd.R_drewN | apply Kd.R_drew)); exact Kd.R_mono HO_3.out (fun _ hk => ⟨⟨hk.1.1.1.1.2, ⟨hk.1.1.1.2, ⟨hk.1.1.2, hk.1.2⟩⟩⟩, hk.2⟩)) hg hat)
    replace BK640 := Aside0.mk (blk_grown (kbW BK640) hg (Kd.R_ne HO658.out BK640.out (by decide)))
    replace HO643 := Aside0.mk (Kd.R_after (ok := (fun k_ => some k_ ≠ (.slice Ao52 x3_1.length co52 : Value).ownBlock ∧ some k_ ≠ (.slice Ao57 t644.length co57 : Value).ownBlock ∧ some k_ ≠ (.slice Ao59 t648.length co59 : Value).ownBlock ∧ some k_ ≠ (.slice Ao65 t651.length co65 : Value).ownBlock)) (by (with_reducible repeat (first | apply Kd.R_alloc | apply Kd.R_drewN | apply Kd.R_drew)); exact Kd.R_mono HO643.out (fun _ hk => ⟨⟨hk.1.1.1.1.2, ⟨hk.1.1.1.2, ⟨hk.1.1.2, hk.1.2⟩⟩⟩, hk.2⟩)) hg hat)
    replace HO646 := Aside0.mk (Kd.R_after (ok := (fun k_ => some k_ ≠ (.slice Ao52 x3_1.length co52 : Value).ownBlock ∧ some k_ ≠ (.slice Ao54 t641.length co54 : Value).ownBlock ∧ some k_ ≠ (.slice Ao59 t648.length co59 : Value).ownBlock ∧ some k_ ≠ (.slice Ao65 t651.length co65 : Value).ownBlock)) (by (with_reducible repeat (first | apply Kd.R_alloc | apply Kd.R_drewN | apply Kd.R_drew)); exact Kd.R_mono HO646.out (fun _ hk => ⟨⟨hk.1.1.1.1.2, ⟨hk.1.1.1.2, ⟨hk.1.1.2, hk.1.2⟩⟩⟩, hk.2⟩)) hg hat)
    replace HO650 := Aside0.mk (Kd.R_after (ok := (fun k_ => some k_ ≠ (.slice Ao52 x3_1.length co52 : Value).ownBlock ∧ some k_ ≠ (.slice Ao54 t641.length co54 : Value).ownBlock ∧ some k_ ≠ (.slice Ao57 t644.length co57 : Value).ownBlock ∧ some k_ ≠ (.slice Ao65 t651.length co65 : Value).ownBlock)) (by (with_reducible repeat (first | apply Kd.R_alloc | apply Kd.R_drewN | apply Kd.R_drew)); exact Kd.R_mono HO650.out (fun _ hk => ⟨⟨hk.1.1.1.1.2, ⟨hk.1.1.1.2, ⟨hk.1.1.2, hk.1.2⟩⟩⟩, hk.2⟩)) hg hat)
    replace HO653 := Aside0.mk (Kd.R_after (ok := (fun k_ => some k_ ≠ (.slice Ao52 x3_1.length co52 : Value).ownBlock ∧ some k_ ≠ (.slice Ao54 t641.length co54 : Value).ownBlock ∧ some k_ ≠ (.slice Ao57 t644.length co57 : Value).ownBlock ∧ some k_ ≠ (.slice Ao59 t648.length co59 : Value).ownBlock)) (by (with_reducible repeat (first | apply Kd.R_alloc | apply Kd.R_drewN | apply Kd.R_drew)); exact Kd.R_mono HO653.out (fun _ hk => ⟨⟨hk.1.1.1.1.2, ⟨hk.1.1.1.2, ⟨hk.1.1.2, hk.1.2⟩⟩⟩, hk.2⟩)) hg hat)
    replace BK654 := Aside0.mk (blk_grown (kbW BK654) hg (Kd.R_ne HO658.out BK654.out (by decide)))
    replace HB := Aside0.mk (hb)
    have HO668 := Aside0.mk (ho)
    clear HO658
    clear ho hb hg hat
    obtain ⟨Ao70, co70, eo70⟩ := Kd.R_slice HO668.out
    (first | subst eo70 | (injection eo70 with f1_ f2_ f3_; have f4_ := f1_.symm; have f5_ := f3_.symm; clear f1_ f2_ f3_; subst f4_; subst f5_))
    refine hK.out _ _ (cd6 BK654) (fun hHeld => ?_)
    clear hK K
    refine norm_ (a' := ?_) ?_ ?_
    rotate_left
    ·
     show Act.put _ (some 54) _ = _
     simp only [Act.put, sT_, sO_, sN_, i64_w, i32_w]
     rfl
    refine one_ (i := 7) (N := some 59) (tf_ 8 1) rfl rfl (one_of HT_.out (by kernel_rfl)) (by decide) (fun K hK => ?_)
    refine goes_ Try.func69 (by kernel_rfl) rfl #[.slice Ao70 y666.length co70, .int .u64 (IntKind.u64.wrap ((rd_T29 l0 x13_1).f1.f3.f0))] (by rfl) rfl rfl (by (try simp only [mT_, mC_, mN_]); first | done | rfl) ?_
    with_reducible refine (skerryref01_Put.calls k1 _ _ y666 (IntKind.u64.wrap ((rd_T29 l0 x13_1).f1.f3.f0)) t669 _ ?side1 ?side2 A44.out).mono ?_
    (case side1 => repeat (first | exact (Kd.R_reads' HO668.out).2.2 | (with_reducible refine Kd.C_alloc ?_ _) | (with_reducible refine Kd.C_drewN ?_ _) | (with_reducible refine Kd.C_drew ?_)))
    (case side2 => exact (Kd.R_reads' HO668.out).2.1)
    rintro e w71 ⟨v670, rfl, ho0, hb⟩
    refine ⟨_, rfl, ?_⟩
    have HO671 := Aside0.mk (Kd.R_lower (Kd.R_new' (Kd.R_new' (Kd.R_new' (Kd.R_new' (Kd.R_new' (Kd.R_new' ho0 (Kd.R_lt (krW HO_3))) (Kd.R_lt (krW HO643))) (Kd.R_lt (krW HO646))) (Kd.R_lt (krW HO650))) (Kd.R_lt (krW HO653))) (Kd.R_lt (krW HO668))) (bZ_ (by repeat (first | (with_reducible first | exact HB.out | apply bA_ | apply bN_ | apply bD_ | refine bS_ ?_ GE640 | refine bS_ ?_ GE654) | exact HB.out))))
    replace HO_3 := Aside0.mk (Kd.R_elder' (krW HO_3) (Kd.R_base ho0) hb)
    replace HO643 := Aside0.mk (Kd.R_elder' (krW HO643) (Kd.R_base ho0) hb)
    replace HO646 := Aside0.mk (Kd.R_elder' (krW HO646) (Kd.R_base ho0) hb)
    replace HO650 := Aside0.mk (Kd.R_elder' (krW HO650) (Kd.R_base ho0) hb)
    replace HO653 := Aside0.mk (Kd.R_elder' (krW HO653) (Kd.R_base ho0) hb)
    replace HO668 := Aside0.mk (Kd.R_elder' (krW HO668) (Kd.R_base ho0) hb)
    replace BK640 := kB BK640 hb
    replace BK654 := kB BK654 hb
    replace HB := Aside0.mk (below_step (by repeat (first | (with_reducible first | exact HB.out | apply bA_ | apply bN_ | apply bD_ | refine bS_ ?_ GE640 | refine bS_ ?_ GE654) | exact HB.out)) hb)
    (try clear hb)
    (try clear hb2)
    (try clear hk)
    (try clear hi)
    (try clear ho0)
    refine hK.out _ _ (cd6 BK654) (fun hHeld => ?_)
    clear hK K
    refine norm_ (a' := ?_) ?_ ?_
    rotate_left
    ·
     show Act.put _ (some 59) _ = _
     simp only [Act.put, sT_, sO_, sN_, i64_w, i32_w]
     rfl
    refine pure_ (i := 8) (N := some 3) (v := ?_) (a' := ?_) (tf_ 9 0) rfl rfl (any_of HT_.out (by kernel_rfl)) (fun _ _ _ h => h) (Or.inl ⟨by rfl, ?_⟩) ?_ ?_
    rotate_left; · (intro w'; go_simp; with_reducible rfl)
    rotate_left; · (simp only [Act.put, sT_, sO_, sN_, i64_w, i32_w]; rfl)
    refine done_ (done_of HT_.out (by kernel_rfl)) ?_
    try go_wp2
    replace HO_3 := Aside0.mk (Kd.R_drew HO_3.out)
    replace HO643 := Aside0.mk (Kd.R_drew HO643.out)
    replace HO646 := Aside0.mk (Kd.R_drew HO646.out)
    replace HO650 := Aside0.mk (Kd.R_drew HO650.out)
    replace HO653 := Aside0.mk (Kd.R_drew HO653.out)
    replace HO668 := Aside0.mk (Kd.R_drew HO668.out)
    replace HO671 := Aside0.mk (Kd.R_drew HO671.out)
    replace BK640 := Aside0.mk (blk_drew BK640.out)
    replace BK654 := Aside0.mk (blk_drew BK654.out)
    replace HB := Aside0.mk (below_drew1 HB.out)
    refine start_ (n := 11) (S := fun w' => w'.cell? ⟨gb654, 0, none⟩ = some (.int .i64 ((rd_T29 l0 x13_1).f1.f0)) ∧ w'.cell? ⟨gb654, 1, none⟩ = some (.bool false) ∧ w'.cell? ⟨gb654, 2, none⟩ = some (.int .i64 ((rd_T29 l0 x13_1).f1.f2)) ∧ w'.cell? ⟨gb654, 3, none⟩ = some (.int .i64 ((rd_T29 l0 x13_1).f1.f3.f0)) ∧ w'.cell? ⟨gb654, 4, none⟩ = some (.int .i64 ((rd_T29 l0 x13_1).f1.f3.f1)) ∧ w'.cell? ⟨gb654, 5, none⟩ = some (.string ((rd_T29 l0 x13_1).f1.f3.f2))) (ds := []) (tf_ 0 11) (by kernel_rfl) rfl rfl (cd6 BK654) (fun hHeld => ?_); refine with_tabW skerryref01_Cells.tab12 skerryref01_Cells.bits12 (fun HT_ HW_ => ?_)
    generalize w71.drew = w72 at HO_3 HO643 HO646 HO650 HO653 HO668 HO671 BK640 BK654 HB hHeld ⊢
    refine pure_ (i := 0) (N := some 60) (v := ?_) (a' := ?_) (tf_ 1 10) rfl rfl (any_of HT_.out (by kernel_rfl)) (fun _ _ _ h => h) (Or.inl ⟨by rfl, ?_⟩) ?_ ?_
    rotate_left; · (intro w'; go_simp; with_reducible rfl)
    rotate_left; · (simp only [Act.put, sT_, sO_, sN_, i64_w, i32_w]; rfl)
    refine pure_ (i := 1) (N := some 61) (v := ?_) (a' := ?_) (tf_ 2 9) rfl rfl (any_of HT_.out (by kernel_rfl)) (fun _ _ _ h => h) (Or.inl ⟨by rfl, ?_⟩) ?_ ?_
    rotate_left; · (intro w'; go_simp; with_reducible rfl)
    rotate_left; · (simp only [Act.put, sT_, sO_, sN_, i64_w, i32_w]; rfl)
    refine pure_ (i := 2) (N := some 62) (v := ?_) (a' := ?_) (tf_ 3 8) rfl rfl (any_of HT_.out (by kernel_rfl)) (fun _ _ _ h => h) (Or.inl ⟨by rfl, ?_⟩) ?_ ?_
    rotate_left; · (intro w'; go_simp; with_reducible rfl)
    rotate_left; · (simp only [Act.put, sT_, sO_, sN_, i64_w, i32_w]; rfl)
    refine pure_ (i := 6) (N := some 66) (v := ?_) (a' := ?_) (tb_ 71 11) rfl rfl (any_of HT_.out (by kernel_rfl)) (fun _ _ _ h => h) (Or.inl ⟨by rfl, ?_⟩) ?_ ?_
    rotate_left; · (intro w'; go_simp; with_reducible rfl)
    rotate_left; · (simp only [Act.put, sT_, sO_, sN_, i64_w, i32_w]; rfl)
    refine pure_ (i := 7) (N := some 67) (v := ?_) (a' := ?_) (tb_ 199 11) rfl rfl (any_of HT_.out (by kernel_rfl)) (fun _ _ _ h => h) (Or.inl ⟨by rfl, ?_⟩) ?_ ?_
    rotate_left; · (intro w'; go_simp; with_reducible rfl)
    rotate_left; · (simp only [Act.put, sT_, sO_, sN_, i64_w, i32_w]; rfl)
    refine take_ (i := 3) (N := some 63) (v := ?_) (a' := ?_) (tb_ 207 11) rfl rfl (take_ofW HT_.out HW_.out (by kernel_rfl)) (fun _ _ _ h => h) (Or.inl ⟨by rfl, ?_⟩) hHeld ?_ ?_
    rotate_left; · (rintro w' ⟨s0, s1, s2, s3, s4, s5⟩; go_simp; with_reducible rfl)
    rotate_left; · (simp only [Act.put, sT_, sO_, sN_, i64_w, i32_w]; rfl)
    refine take_ (i := 8) (N := some 68) (v := ?_) (a' := ?_) (tb_ 463 11) rfl rfl (take_ofW HT_.out HW_.out (by kernel_rfl)) (fun _ _ _ h => h) (Or.inl ⟨by rfl, ?_⟩) hHeld ?_ ?_
    rotate_left; · (rintro w' ⟨s0, s1, s2, s3, s4, s5⟩; go_simp; with_reducible rfl)
    rotate_left; · (simp only [Act.put, sT_, sO_, sN_, i64_w, i32_w]; rfl)
    refine one_ (i := 4) (N := some 64) (tb_ 479 11) rfl rfl (one_of HT_.out (by kernel_rfl)) (by decide) (fun K hK => ?_)
    refine goes_ Try.func71 (by kernel_rfl) rfl #[.int .i64 ((rd_T29 l0 x13_1).f1.f3.f1)] (by rfl) rfl rfl (by (try simp only [mT_, mC_, mN_]); first | done | rfl) ?_
    with_reducible refine (skerryref01_Zig.calls ((rd_T29 l0 x13_1).f1.f3.f1) t672 _ A45.out).mono ?_
    rintro e w' ⟨rfl, ⟨nd, rfl⟩⟩
    refine ⟨_, rfl, ?_⟩
    obtain ⟨Ao73, co73, eo73⟩ := Kd.R_slice HO671.out
    (first | subst eo73 | (injection eo73 with f1_ f2_ f3_; have f4_ := f1_.symm; have f5_ := f3_.symm; clear f1_ f2_ f3_; subst f4_; subst f5_))
    refine hK.out _ _ (cd6 BK654) (fun hHeld => ?_)
    clear hK K
    refine norm_ (a' := ?_) ?_ ?_
    rotate_left
    ·
     show Act.put _ (some 64) _ = _
     simp only [Act.put, sT_, sO_, sN_, i64_w, i32_w]
     rfl
    refine one_ (i := 5) (N := some 65) (tf_ 9 2) rfl rfl (one_of HT_.out (by kernel_rfl)) (by decide) (fun K hK => ?_)
    refine goes_ Try.func69 (by kernel_rfl) rfl #[.slice Ao73 t669.length co73, .int .u64 t672] (by rfl) rfl rfl (by (try simp only [mT_, mC_, mN_]); first | done | rfl) ?_
    with_reducible refine (skerryref01_Put.calls k1 _ _ t669 t672 t673 _ ?side1 ?side2 A46.out).mono ?_
    (case side1 => repeat (first | exact (Kd.R_reads' HO671.out).2.2 | (with_reducible refine Kd.C_alloc ?_ _) | (with_reducible refine Kd.C_drewN ?_ _) | (with_reducible refine Kd.C_drew ?_)))
    (case side2 => exact (Kd.R_reads' HO671.out).2.1)
    rintro e w74 ⟨v674, rfl, ho0, hb⟩
    refine ⟨_, rfl, ?_⟩
    have HO675 := Aside0.mk (Kd.R_lower (Kd.R_new' (Kd.R_new' (Kd.R_new' (Kd.R_new' (Kd.R_new' (Kd.R_new' (Kd.R_new' ho0 (Kd.R_lt (krW HO_3))) (Kd.R_lt (krW HO643))) (Kd.R_lt (krW HO646))) (Kd.R_lt (krW HO650))) (Kd.R_lt (krW HO653))) (Kd.R_lt (krW HO668))) (Kd.R_lt (krW HO671))) (bZ_ (by repeat (first | (with_reducible first | exact HB.out | apply bA_ | apply bN_ | apply bD_ | refine bS_ ?_ GE640 | refine bS_ ?_ GE654) | exact HB.out))))
    replace HO_3 := Aside0.mk (Kd.R_elder' (krW HO_3) (Kd.R_base ho0) hb)
    replace HO643 := Aside0.mk (Kd.R_elder' (krW HO643) (Kd.R_base ho0) hb)
    replace HO646 := Aside0.mk (Kd.R_elder' (krW HO646) (Kd.R_base ho0) hb)
    replace HO650 := Aside0.mk (Kd.R_elder' (krW HO650) (Kd.R_base ho0) hb)
    replace HO653 := Aside0.mk (Kd.R_elder' (krW HO653) (Kd.R_base ho0) hb)
    replace HO668 := Aside0.mk (Kd.R_elder' (krW HO668) (Kd.R_base ho0) hb)
    replace HO671 := Aside0.mk (Kd.R_elder' (krW HO671) (Kd.R_base ho0) hb)
    replace BK640 := kB BK640 hb
    replace BK654 := kB BK654 hb
    replace HB := Aside0.mk (below_step (by repeat (first | (with_reducible first | exact HB.out | apply bA_ | apply bN_ | apply bD_ | refine bS_ ?_ GE640 | refine bS_ ?_ GE654) | exact HB.out)) hb)
    (try clear hb)
    (try clear hb2)
    (try clear hk)
    (try clear hi)
    (try clear ho0)
    obtain ⟨Ao75, co75, eo75⟩ := Kd.R_slice HO675.out
    (first | subst eo75 | (injection eo75 with f1_ f2_ f3_; have f4_ := f1_.symm; have f5_ := f3_.symm; clear f1_ f2_ f3_; subst f4_; subst f5_))
    refine hK.out _ _ (cd6 BK654) (fun hHeld => ?_)
    clear hK K
    refine norm_ (a' := ?_) ?_ ?_
    rotate_left
    ·
     show Act.put _ (some 65) _ = _
     simp only [Act.put, sT_, sO_, sN_, i64_w, i32_w]
     rfl
    refine one_ (i := 9) (N := some 69) (tf_ 10 1) rfl rfl (one_of HT_.out (by kernel_rfl)) (by decide) (fun K hK => ?_)
    refine goes_ Try.func70 (by kernel_rfl) rfl #[.slice Ao75 t673.length co75, .string ((rd_T29 l0 x13_1).f1.f3.f2)] (by rfl) rfl rfl (by (try simp only [mT_, mC_, mN_]); first | done | rfl) ?_
    with_reducible refine (skerryref01_PutText.calls k1 _ _ t673 ((rd_T29 l0 x13_1).f1.f3.f2) t676 _ ?side1 ?side2 A47.out).mono ?_
    (case side1 => repeat (first | exact (Kd.R_reads' HO675.out).2.2 | (with_reducible refine Kd.C_alloc ?_ _) | (with_reducible refine Kd.C_drewN ?_ _) | (with_reducible refine Kd.C_drew ?_)))
    (case side2 => exact (Kd.R_reads' HO675.out).2.1)
    rintro e w76 ⟨v677, rfl, ho0, hb⟩
    refine ⟨_, rfl, ?_⟩
    have HO678 := Aside0.mk (Kd.R_lower (Kd.R_new' (Kd.R_new' (Kd.R_new' (Kd.R_new' (Kd.R_new' (Kd.R_new' (Kd.R_new' (Kd.R_new' ho0 (Kd.R_lt (krW HO_3))) (Kd.R_lt (krW HO643))) (Kd.R_lt (krW HO646))) (Kd.R_lt (krW HO650))) (Kd.R_lt (krW HO653))) (Kd.R_lt (krW HO668))) (Kd.R_lt (krW HO671))) (Kd.R_lt (krW HO675))) (bZ_ (by repeat (first | (with_reducible first | exact HB.out | apply bA_ | apply bN_ | apply bD_ | refine bS_ ?_ GE640 | refine bS_ ?_ GE654) | exact HB.out))))
    replace HO_3 := Aside0.mk (Kd.R_elder' (krW HO_3) (Kd.R_base ho0) hb)
    replace HO643 := Aside0.mk (Kd.R_elder' (krW HO643) (Kd.R_base ho0) hb)
    replace HO646 := Aside0.mk (Kd.R_elder' (krW HO646) (Kd.R_base ho0) hb)
    replace HO650 := Aside0.mk (Kd.R_elder' (krW HO650) (Kd.R_base ho0) hb)
    replace HO653 := Aside0.mk (Kd.R_elder' (krW HO653) (Kd.R_base ho0) hb)
    replace HO668 := Aside0.mk (Kd.R_elder' (krW HO668) (Kd.R_base ho0) hb)
    replace HO671 := Aside0.mk (Kd.R_elder' (krW HO671) (Kd.R_base ho0) hb)
    replace HO675 := Aside0.mk (Kd.R_elder' (krW HO675) (Kd.R_base ho0) hb)
    replace BK640 := kB BK640 hb
    replace BK654 := kB BK654 hb
    replace HB := Aside0.mk (below_step (by repeat (first | (with_reducible first | exact HB.out | apply bA_ | apply bN_ | apply bD_ | refine bS_ ?_ GE640 | refine bS_ ?_ GE654) | exact HB.out)) hb)
    (try clear hb)
    (try clear hb2)
    (try clear hk)
    (try clear hi)
    (try clear ho0)
    refine hK.out _ _ (cd6 BK654) (fun hHeld => ?_)
    clear hK K
    refine norm_ (a' := ?_) ?_ ?_
    rotate_left
    ·
     show Act.put _ (some 69) _ = _
     simp only [Act.put, sT_, sO_, sN_, i64_w, i32_w]
     rfl
    refine pure_ (i := 10) (N := some 3) (v := ?_) (a' := ?_) (tf_ 11 0) rfl rfl (any_of HT_.out (by kernel_rfl)) (fun _ _ _ h => h) (Or.inl ⟨by rfl, ?_⟩) ?_ ?_
    rotate_left; · (intro w'; go_simp; with_reducible rfl)
    rotate_left; · (simp only [Act.put, sT_, sO_, sN_, i64_w, i32_w]; rfl)
    refine done_ (done_of HT_.out (by kernel_rfl)) ?_
    try go_wp2
    go_roundg k1
    case measure => have := HK1.out; omega
    case rel => exact ⟨(t676), (wrap64 (x13_1 + 1)), (by first | rfl | (simp; done) | (simp [bne, *]; done)), H', ⟨by have := HK1.out; omega⟩, ⟨by (with_reducible repeat (first | apply Kd.R_alloc | apply Kd.R_drewN | apply Kd.R_drew)); exact Kd.R_mono HO678.out (fun _ hk => trivial)⟩, ⟨by repeat (first | (with_reducible first | exact HB.out | apply bA_ | apply bN_ | apply bD_ | refine bS_ ?_ GE640 | refine bS_ ?_ GE654) | exact HB.out)⟩⟩
end Go.Proofs.Ytaedmofnhjaljaa.Q
