/- Lemmas for this claim's walk: no condition of their own. -/
import Derived.Test.YtdagddhccdchoaaDoorWeSq
import Derived.Test.YtdagddhccdchoaaDoorWeJ10
import Derived.Test.YtdagddhccdchoaaDoorWeQx4
import Derived.Test.YtdagddhccdchoaaDoorWeQx5
namespace Go.Proofs.YtdagddhccdchoaaDoor.Q
open Go.RowKit Go.Proofs.YtdagddhccdchoaaDoorW.PrintWords Go.Proofs.YtdagddhccdchoaaDoorW.PrintLast Go.Proofs.YtdagddhccdchoaaDoorW.PrintMore
attribute [local go_sem] max2_int min2_int max_two min_two max_three min_three max_four min_four
set_option linter.unusedVariables false
set_option linter.unusedSimpArgs false
mutual
def schema_Order.l0 : Nat → List ByteArray → List ByteArray → Int → Int → ByteArray → ByteArray → ByteArray → List (S29) → Option (List ByteArray × Bool)
 | 0, _, _, _, _, _, _, _, _ => none
 | k + 1, x1, x13, x14, x15, x108000, x108001, x108002, x108003 => if x15 < x14 then (if 0 ≤ x15 then (if x15 < (x13.length : Int) then ((schema_Column.f k x108000 x108001 x108002 x108003 (rdOf ByteArray.empty x13 x15)).bind fun bt109 => (if bt109.2.2 = true then (schema_Order.l0 k x1 x13 x14 (wrap64 (x15 + 1)) x108000 x108001 x108002 x108003) else (some (([] : List ByteArray), false)))) else (none)) else (none)) else (schema_Order.l1 k x1 ([] : List ByteArray) x108003 (x108003.length : Int) 0)
def schema_Order.l1 : Nat → List ByteArray → List ByteArray → List (S29) → Int → Int → Option (List ByteArray × Bool)
 | 0, _, _, _, _, _ => none
 | k + 1, x1, x10, x29, x30, x31 => if x31 < x30 then (if 0 ≤ x31 then (if x31 < (x29.length : Int) then (if (x1.length : Int) = 0 then ((slices_Contains_string_string.f k x10 ((rd_T29 x29 x31).f0)).bind fun t115 => (if t115 = true then (schema_Order.l1 k x1 x10 x29 x30 (wrap64 (x31 + 1))) else (if x10.length < 8796093022208 then (schema_Order.l1 k x1 (x10 ++ [(rd_T29 x29 x31).f0]) x29 x30 (wrap64 (x31 + 1))) else (none)))) else ((slices_Contains_string_string.f k x1 ((rd_T29 x29 x31).f0)).bind fun t119 => (if t119 = true then ((slices_Contains_string_string.f k x10 ((rd_T29 x29 x31).f0)).bind fun t120 => (if t120 = true then (schema_Order.l1 k x1 x10 x29 x30 (wrap64 (x31 + 1))) else (if x10.length < 8796093022208 then (schema_Order.l1 k x1 (x10 ++ [(rd_T29 x29 x31).f0]) x29 x30 (wrap64 (x31 + 1))) else (none)))) else (schema_Order.l1 k x1 x10 x29 x30 (wrap64 (x31 + 1)))))) else (none)) else (none)) else (some (x10, true))
end
def schema_Order.f (k : Nat) (a0_0 : ByteArray) (a0_1 : ByteArray) (a0_2 : ByteArray) (l0_3 : List (S29)) (l1 : List ByteArray) : Option (List ByteArray × Bool) := schema_Order.l0 k l1 l1 (l1.length : Int) 0 a0_0 a0_1 a0_2 l0_3
set_option maxHeartbeats 8000000 in
set_option maxRecDepth 100000 in
theorem schema_Order.calls (k : Nat) (a0_0 : ByteArray) (a0_1 : ByteArray) (a0_2 : ByteArray) (A0_3 : Option Addr) (c0_3 : Nat) (l0_3 : List (S29)) (A1 : Option Addr) (c1 : Nat) (l1 : List ByteArray) (r1 : List ByteArray) (r2 : Bool) (w : World) (hr0_3 : Kd.C k29 w A0_3 l0_3.length l0_3) (hc0_3 : l0_3.length ≤ c0_3) (hr1 : Kd.C Kd.string w A1 l1.length l1) (hc1 : l1.length ≤ c1) (h : schema_Order.f k a0_0 a0_1 a0_2 l0_3 l1 = some (r1, r2)) :
  Calls Tryd.prog 13 #[.agg #[.string a0_0, .string a0_1, .string a0_2, .slice A0_3 l0_3.length c0_3], .slice A1 l1.length c1] w fun e w' => ∃ v0_ : Value, e = .returned (.tuple #[v0_, .bool r2]) ∧ Kd.R Kd.string 9 w' w.heap.size (fun _ => True) v0_ r1 ∧ Below w.heap.size w w' := by
 have hu26 := Tryd.underlying26
 have hu29 := Tryd.underlying29
 have HR0_3 := Aside0.mk hr0_3
 have HC0_3 := Aside0.mk hc0_3
 clear hr0_3 hc0_3
 have HR1 := Aside0.mk hr1
 have HC1 := Aside0.mk hc1
 clear hr1 hc1
 have HB := Aside0.mk (Below.refl w.heap.size w)
 have H : (schema_Order.l0 k l1 l1 (l1.length : Int) 0 a0_0 a0_1 a0_2 l0_3) = some (r1, r2) := h
 clear h
 have H' := Aside0.mk H
 clear H
 go_enter Tryd.func13, Tryd.ntmps13
 go_wp2_with (first | ((with_reducible refine gate_dst (N := 2) rfl ?_); refine box_event ?hg (N := 2) ?hd (cs := #[.string a0_0, .string a0_1, .string a0_2, .slice A0_3 l0_3.length c0_3]) (t := 26) ?hr ?_; (case hd => rfl); (case hg => rfl); (case hr => first | (go_simp; done) | (go_simp; rfl)); intro gb107 hg w3 hbox hb; have BK107 := Aside0.mk (hbox); have GW107 := Aside0.mk ((by rw [hg]; exact (bZ_ (kwW HB)) : w.heap.size ≤ gb107)); replace HB := Aside0.mk (below_step (kwW HB) hb); have GE107 := GW107; clear hb hbox hg))
 go_loopg [15] k (fun kq v15 w' => ∃ (x15_1 : Int), v15 = .int .i64 x15_1 ∧ Aside0 (schema_Order.l0 kq l1 l1 (l1.length : Int) x15_1 a0_0 a0_1 a0_2 l0_3 = some (r1, r2)) ∧ Aside0 (kq ≤ k) ∧ Aside0 (w'.heap[gb107]? = some (.cells #[.string a0_0, .string a0_1, .string a0_2, (.slice A0_3 l0_3.length c0_3)] 26 (0, 0))) ∧ Aside0 (Below w.heap.size w w'))
 case atStart => exact ⟨(0), (by first | rfl | (simp; done) | (simp [bne, *]; done)), H', ⟨Nat.le_refl _⟩, ⟨by (with_reducible repeat (first | refine blk_drewN ?_ _ | refine blk_drew ?_ | refine blk_alloc ?_ _)); exact BK107.out⟩, ⟨by repeat (first | (with_reducible first | exact HB.out | apply bA_ | apply bN_ | apply bD_ | refine bS_ ?_ GE107) | exact HB.out)⟩⟩
 case round =>
  clear H'
  try clear c1
  try clear p2
  obtain ⟨x15_1, rfl, HA, HK1, BK107, HB⟩ := hrel
  cases gk with
  | zero => exact absurd HA.out (by simp [schema_Order.l0])
  | succ k1 =>
   have H := HA.out
   clear HA
   simp only [schema_Order.l0] at H
   by_cases c4 : x15_1 < (l1.length : Int)
   ·
    rw [if_pos c4] at H
    have c4b0 : decide (x15_1 < (l1.length : Int)) = true := decide_eq_true c4
    clear c4
    by_cases c5 : 0 ≤ x15_1
    rotate_left
    ·
     rw [if_neg c5] at H
     exact absurd H (by simp)
    rw [if_pos c5] at H
    have c5b0 : decide (0 ≤ x15_1) = true := decide_eq_true c5
    clear c5
    by_cases c6 : x15_1 < (l1.length : Int)
    rotate_left
    ·
     rw [if_neg c6] at H
     exact absurd H (by simp)
    rw [if_pos c6] at H
    have c6b0 : decide (x15_1 < (l1.length : Int)) = true := decide_eq_true c6
    clear c6
    replace H := Option.bind_eq_some_iff.mp H
    obtain ⟨⟨t109, t110, t111⟩, A70, H⟩ := H
    have A7 := Aside0.mk A70
    clear A70
    by_cases c8 : t111 = true
    ·
     subst c8
     have H1 : (schema_Order.l0 k1 l1 l1 (l1.length : Int) (wrap64 (x15_1 + 1)) a0_0 a0_1 a0_2 l0_3) = some (r1, r2) := by rw [if_pos rfl] at H; exact H
     clear H
     have H := H1
     clear H1
     have H' := Aside0.mk H
     clear H
     have p108 : 0 ≤ (x15_1 : Int) := of_decide_eq_true (by first | (with_reducible assumption) | assumption)
     have q108 : x15_1 < (l1.length : Int) := of_decide_eq_true (by first | (with_reducible assumption) | assumption)
     obtain ⟨ad108, e108, hx108_0⟩ := Kd.at_string HR1.out x15_1 p108 q108
     cases e108
     replace hx108_0 := cB_ HB hx108_0
     replace p108 := eq_true p108
     replace q108 := eq_true q108
     obtain ⟨hcz9_0, hcz9_1, hcz9_2, hcz9_3, hfz9_0, hfz9_1, hfz9_2, hfz9_3⟩ := czf4 BK107
     go_wp2_with (first | ((with_reducible refine gate_callee (f := 11) rfl ?_); refine goesL_ (some 22) rfl rfl Tryd.func11 (by kernel_rfl) rfl #[.agg #[.string a0_0, .string a0_1, .string a0_2, .slice A0_3 l0_3.length c0_3], .string (rdOf ByteArray.empty l1 x15_1)] rfl (by (try simp only [mT_, mC_, mN_]); first | done | rfl) ?_; (with_reducible refine (schema_Column.calls k1 a0_0 a0_1 a0_2 _ _ l0_3 (rdOf ByteArray.empty l1 x15_1) t109 t110 true _ ?side1 ?side2 A7.out).mono ?_); (case side1 => repeat (first | exact (Kd.C_below HR0_3.out HB.out) | (with_reducible refine Kd.C_alloc ?_ _) | (with_reducible refine Kd.C_drewN ?_ _) | (with_reducible refine Kd.C_drew ?_))); (case side2 => exact HC0_3.out); rintro e w10 ⟨rfl, hb⟩; refine ⟨_, rfl, ?_⟩; replace BK107 := kB BK107 hb; replace HB := Aside0.mk (below_step (by repeat (first | (with_reducible first | exact HB.out | apply bA_ | apply bN_ | apply bD_ | refine bS_ ?_ GE107) | exact HB.out)) hb); (try clear hb); (try clear hb2); (try clear hk); (try clear hi)) | ((with_reducible refine gate_dst (N := 8) rfl ?_); refine box_event ?hg (N := 8) ?hd (cs := #[.string (⟨#[]⟩ : ByteArray), .int .i64 0]) (t := 29) ?hr ?_; (case hd => rfl); (case hg => rfl); (case hr => first | (go_simp; done) | (go_simp; rfl)); intro gb112 hg w11 hbox hb; have BK112 := Aside0.mk (hbox); have GW112 := Aside0.mk ((by rw [hg]; exact (bZ_ (by repeat (first | (with_reducible first | exact HB.out | apply bA_ | apply bN_ | apply bD_ | refine bS_ ?_ GE107) | exact HB.out))) : w.heap.size ≤ gb112)); replace HB := Aside0.mk (below_step (by repeat (first | (with_reducible first | exact HB.out | apply bA_ | apply bN_ | apply bD_ | refine bS_ ?_ GE107) | exact HB.out)) hb); have GE112 := GW112; have NB107_112 := Aside0.mk ((by rw [hg]; exact Nat.ne_of_lt (blk_lt (kbW BK107)) : gb107 ≠ gb112)); have NB112_107 := Aside0.mk ((by rw [hg]; exact Nat.ne_of_gt (blk_lt (kbW BK107)) : gb112 ≠ gb107)); replace BK107 := kB BK107 hb; clear hb hbox hg; have hnb12 := NB112_107.out; have hnc12 := NB107_112.out; obtain ⟨hcz13_0, hcz13_1, hfz13_0, hfz13_1⟩ := czf2 BK112))
     go_roundg k1
     case measure => have := HK1.out; omega
     case rel => exact ⟨(wrap64 (x15_1 + 1)), (by first | rfl | (simp; done) | (simp [bne, *]; done)), H', ⟨by have := HK1.out; omega⟩, ⟨by (with_reducible repeat (first | refine blk_drewN ?_ _ | refine blk_drew ?_ | refine blk_alloc ?_ _)); refine blk_far ?_ NB107_112.out _; (with_reducible repeat (first | refine blk_drewN ?_ _ | refine blk_drew ?_ | refine blk_alloc ?_ _)); refine blk_far ?_ NB107_112.out _; (with_reducible repeat (first | refine blk_drewN ?_ _ | refine blk_drew ?_ | refine blk_alloc ?_ _)); exact BK107.out⟩, ⟨by repeat (first | (with_reducible first | exact HB.out | apply bA_ | apply bN_ | apply bD_ | refine bS_ ?_ GE107 | refine bS_ ?_ GE112) | exact HB.out)⟩⟩
    ·
     replace c8 := Bool.eq_false_iff.mpr c8
     subst c8
     have H1 : (some (([] : List ByteArray), false)) = some (r1, r2) := by rw [if_neg (show ¬ (false = true) by decide)] at H; exact H
     clear H
     have H := H1
     clear H1
     simp only [Option.some.injEq, Prod.mk.injEq] at H
     obtain ⟨rfl, rfl⟩ := H
     have p108 : 0 ≤ (x15_1 : Int) := of_decide_eq_true (by first | (with_reducible assumption) | assumption)
     have q108 : x15_1 < (l1.length : Int) := of_decide_eq_true (by first | (with_reducible assumption) | assumption)
     obtain ⟨ad108, e108, hx108_0⟩ := Kd.at_string HR1.out x15_1 p108 q108
     cases e108
     replace hx108_0 := cB_ HB hx108_0
     replace p108 := eq_true p108
     replace q108 := eq_true q108
     obtain ⟨hcz14_0, hcz14_1, hcz14_2, hcz14_3, hfz14_0, hfz14_1, hfz14_2, hfz14_3⟩ := czf4 BK107
     go_wp2_with (first | ((with_reducible refine gate_callee (f := 11) rfl ?_); refine goesL_ (some 22) rfl rfl Tryd.func11 (by kernel_rfl) rfl #[.agg #[.string a0_0, .string a0_1, .string a0_2, .slice A0_3 l0_3.length c0_3], .string (rdOf ByteArray.empty l1 x15_1)] rfl (by (try simp only [mT_, mC_, mN_]); first | done | rfl) ?_; (with_reducible refine (schema_Column.calls k1 a0_0 a0_1 a0_2 _ _ l0_3 (rdOf ByteArray.empty l1 x15_1) t109 t110 false _ ?side1 ?side2 A7.out).mono ?_); (case side1 => repeat (first | exact (Kd.C_below HR0_3.out HB.out) | (with_reducible refine Kd.C_alloc ?_ _) | (with_reducible refine Kd.C_drewN ?_ _) | (with_reducible refine Kd.C_drew ?_))); (case side2 => exact HC0_3.out); rintro e w15 ⟨rfl, hb⟩; refine ⟨_, rfl, ?_⟩; replace BK107 := kB BK107 hb; replace HB := Aside0.mk (below_step (by repeat (first | (with_reducible first | exact HB.out | apply bA_ | apply bN_ | apply bD_ | refine bS_ ?_ GE107) | exact HB.out)) hb); (try clear hb); (try clear hb2); (try clear hk); (try clear hi)) | ((with_reducible refine gate_dst (N := 8) rfl ?_); refine box_event ?hg (N := 8) ?hd (cs := #[.string (⟨#[]⟩ : ByteArray), .int .i64 0]) (t := 29) ?hr ?_; (case hd => rfl); (case hg => rfl); (case hr => first | (go_simp; done) | (go_simp; rfl)); intro gb112 hg w16 hbox hb; have BK112 := Aside0.mk (hbox); have GW112 := Aside0.mk ((by rw [hg]; exact (bZ_ (by repeat (first | (with_reducible first | exact HB.out | apply bA_ | apply bN_ | apply bD_ | refine bS_ ?_ GE107) | exact HB.out))) : w.heap.size ≤ gb112)); replace HB := Aside0.mk (below_step (by repeat (first | (with_reducible first | exact HB.out | apply bA_ | apply bN_ | apply bD_ | refine bS_ ?_ GE107) | exact HB.out)) hb); have GE112 := GW112; have NB107_112 := Aside0.mk ((by rw [hg]; exact Nat.ne_of_lt (blk_lt (kbW BK107)) : gb107 ≠ gb112)); have NB112_107 := Aside0.mk ((by rw [hg]; exact Nat.ne_of_gt (blk_lt (kbW BK107)) : gb112 ≠ gb107)); replace BK107 := kB BK107 hb; clear hb hbox hg; have hnb17 := NB112_107.out; have hnc17 := NB107_112.out; obtain ⟨hcz18_0, hcz18_1, hfz18_0, hfz18_1⟩ := czf2 BK112))
     go_ret2
     exact ⟨_, by first | rfl | (simp <;> rfl) | (simp [*] <;> rfl), by first | exact Kd.R_nil _ _ _ _ _ | exact Kd.N_nil _ _ _ _ _ | exact Kd.V_nil _ _ _ _ _ | exact Kd.Q_nil _ _ _ _ _ | exact Kd.S_nil _ _ _ _ _, by repeat (first | (with_reducible first | exact HB.out | apply bA_ | apply bN_ | apply bD_ | refine bS_ ?_ GE107 | refine bS_ ?_ GE112) | exact HB.out)⟩
   ·
    rw [if_neg c4] at H
    have c4b0 : decide (x15_1 < (l1.length : Int)) = false := decide_eq_false c4
    clear c4
    have H' := Aside0.mk H
    clear H
    obtain ⟨hcz19_0, hcz19_1, hcz19_2, hcz19_3, hfz19_0, hfz19_1, hfz19_2, hfz19_3⟩ := czf4 BK107
    go_wp2
    go_loopg [10, 31] k1 (fun kq v10 v31 w' => ∃ (x10_2 : List ByteArray) (x31_2 : Int), v31 = .int .i64 x31_2 ∧ Aside0 (schema_Order.l1 kq l1 x10_2 l0_3 (l0_3.length : Int) x31_2 = some (r1, r2)) ∧ Aside0 (kq ≤ k1) ∧ Aside0 (Kd.R Kd.string 9 w' w.heap.size (fun _ => True) v10 x10_2) ∧ Aside0 (w'.heap[gb107]? = some (.cells #[.string a0_0, .string a0_1, .string a0_2, (.slice A0_3 l0_3.length c0_3)] 26 (0, 0))) ∧ Aside0 (Below w.heap.size w w'))
    case atStart => exact ⟨(([] : List ByteArray)), (0), (by first | rfl | (simp; done) | (simp [bne, *]; done)), H', ⟨Nat.le_refl _⟩, ⟨by first | exact Kd.R_nil _ _ _ _ _ | exact Kd.N_nil _ _ _ _ _ | exact Kd.V_nil _ _ _ _ _ | exact Kd.Q_nil _ _ _ _ _ | exact Kd.S_nil _ _ _ _ _⟩, ⟨by (with_reducible repeat (first | refine blk_drewN ?_ _ | refine blk_drew ?_ | refine blk_alloc ?_ _)); exact BK107.out⟩, ⟨by repeat (first | (with_reducible first | exact HB.out | apply bA_ | apply bN_ | apply bD_ | refine bS_ ?_ GE107) | exact HB.out)⟩⟩
    case round =>
     clear H'
     try clear c1
     try clear p1
     try clear q1
     try clear hx1
     try clear p2
     try clear c4
     try clear c4b0
     try clear c5
     try clear c5b0
     try clear c6
     try clear c6b0
     try clear p6
     try clear c8
     try clear p10
     try clear q10
     try clear hx10
     try clear c11
     try clear c12
     try clear c13
     try clear c17
     try clear hcz13_0
     try clear hcz13_1
     try clear hcz14_0
     try clear hcz14_1
     try clear hcz14_2
     try clear hcz14_3
     try clear hcz18_0
     try clear hcz18_1
     try clear hcz19_0
     try clear hcz19_1
     try clear hcz19_2
     try clear hcz19_3
     try clear hcz9_0
     try clear hcz9_1
     try clear hcz9_2
     try clear hcz9_3
     try clear hfz13_0
     try clear hfz13_1
     try clear hfz14_0
     try clear hfz14_1
     try clear hfz14_2
     try clear hfz14_3
     try clear hfz18_0
     try clear hfz18_1
     try clear hfz19_0
     try clear hfz19_1
     try clear hfz19_2
     try clear hfz19_3
     try clear hfz9_0
     try clear hfz9_1
     try clear hfz9_2
     try clear hfz9_3
     try clear hx108_0
     try clear p108
     try clear p2
     try clear q108
     obtain ⟨x10_2, x31_2, rfl, HA, HK2, HO_10, BK107, HB⟩ := hrel
     cases gk with
     | zero => exact absurd HA.out (by simp [schema_Order.l1])
     | succ k2 =>
      have H := HA.out
      clear HA
      simp only [schema_Order.l1] at H
      by_cases c20 : x31_2 < (l0_3.length : Int)
      rotate_left
      ·
       rw [if_neg c20] at H
       have c20b0 : decide (x31_2 < (l0_3.length : Int)) = false := decide_eq_false c20
       clear c20
       simp only [Option.some.injEq, Prod.mk.injEq] at H
       obtain ⟨rfl, rfl⟩ := H
       go_wp2
       go_ret2
       exact ⟨_, by first | rfl | (simp <;> rfl) | (simp [*] <;> rfl), krW HO_10, by repeat (first | (with_reducible first | exact HB.out | apply bA_ | apply bN_ | apply bD_ | refine bS_ ?_ GE107) | exact HB.out)⟩
      rw [if_pos c20] at H
      have c20b0 : decide (x31_2 < (l0_3.length : Int)) = true := decide_eq_true c20
      clear c20
      by_cases c21 : 0 ≤ x31_2
      rotate_left
      ·
       rw [if_neg c21] at H
       exact absurd H (by simp)
      rw [if_pos c21] at H
      have c21b0 : decide (0 ≤ x31_2) = true := decide_eq_true c21
      clear c21
      by_cases c22 : x31_2 < (l0_3.length : Int)
      rotate_left
      ·
       rw [if_neg c22] at H
       exact absurd H (by simp)
      rw [if_pos c22] at H
      have c22b0 : decide (x31_2 < (l0_3.length : Int)) = true := decide_eq_true c22
      clear c22
      by_cases c23 : (l1.length : Int) = 0
      ·
       rw [if_pos c23] at H
       have c23b0 : ((l1.length : Int) == 0) = true := beq_iff_eq.mpr c23
       have c23b1 : ((l1.length : Int) != 0) = false := bne_eq_false_iff_eq.mpr c23
       clear c23
       replace H := Option.bind_eq_some_iff.mp H
       obtain ⟨t115, A240, H⟩ := H
       have A24 := Aside0.mk A240
       clear A240
       by_cases c25 : t115 = true
       ·
        subst c25
        have H1 : (schema_Order.l1 k2 l1 x10_2 l0_3 (l0_3.length : Int) (wrap64 (x31_2 + 1))) = some (r1, r2) := by rw [if_pos rfl] at H; exact H
        clear H
        have H := H1
        clear H1
        have H' := Aside0.mk H
        clear H
        have p113 : 0 ≤ (x31_2 : Int) := of_decide_eq_true (by first | (with_reducible assumption) | assumption)
        have q113 : x31_2 < (l0_3.length : Int) := of_decide_eq_true (by first | (with_reducible assumption) | assumption)
        obtain ⟨ad113, e113, hx113_0, hx113_1⟩ := at_T29 HR0_3.out x31_2 p113 q113
        cases e113
        replace hx113_0 := cB_ HB hx113_0
        replace hx113_1 := cB_ HB hx113_1
        replace p113 := eq_true p113
        replace q113 := eq_true q113
        go_wp2_with (first | ((with_reducible refine gate_dst (N := 12) rfl ?_); refine box_event ?hg (N := 12) ?hd (cs := #[.string (⟨#[]⟩ : ByteArray), .int .i64 0]) (t := 29) ?hr ?_; (case hd => rfl); (case hg => rfl); (case hr => first | (go_simp; done) | (go_simp; rfl)); intro gb114 hg w26 hbox hb; replace HO_10 := kR HO_10 hb; have BK114 := Aside0.mk (hbox); have GW114 := Aside0.mk ((by rw [hg]; exact (bZ_ (by repeat (first | (with_reducible first | exact HB.out | apply bA_ | apply bN_ | apply bD_ | refine bS_ ?_ GE107) | exact HB.out))) : w.heap.size ≤ gb114)); replace HB := Aside0.mk (below_step (by repeat (first | (with_reducible first | exact HB.out | apply bA_ | apply bN_ | apply bD_ | refine bS_ ?_ GE107) | exact HB.out)) hb); have GE114 := GW114; have NB107_114 := Aside0.mk ((by rw [hg]; exact Nat.ne_of_lt (blk_lt (kbW BK107)) : gb107 ≠ gb114)); have NB114_107 := Aside0.mk ((by rw [hg]; exact Nat.ne_of_gt (blk_lt (kbW BK107)) : gb114 ≠ gb107)); replace BK107 := kB BK107 hb; clear hb hbox hg; have hnb27 := NB114_107.out; have hnc27 := NB107_114.out; obtain ⟨_, _, _, _⟩ := czf2 BK114; obtain ⟨Ao29, co29, eo29⟩ := Kd.R_slice HO_10.out; subst eo29) | (go_at_call 26; (with_reducible refine (slices_Contains_string_string.calls k2 _ _ x10_2 ((rd_T29 l0_3 x31_2).f0) true _ ?side1 ?side2 A24.out).mono ?_); (case side1 => refine (Kd.R_reads' (e := 9) (base := w.heap.size) (ok := fun k_ => True) (n := x10_2.length) (c := co29) ?_).2.2; exact (by (with_reducible repeat (first | apply Kd.R_alloc | apply Kd.R_drewN | apply Kd.R_drew)); exact (Kd.R_mono (Kd.R_far (p := ⟨gb114, 1, none⟩) (Kd.R_far (p := ⟨gb114, 0, none⟩) (Kd.R_types HO_10.out BK114.out (by decide)) (fun _ hk => hk.2) (.string ((rd_T29 l0_3 x31_2).f0))) (fun _ hk => hk.2) (.int .i64 ((rd_T29 l0_3 x31_2).f1))) (fun _ h_ => h_.1)))); (case side2 => exact (Kd.R_reads' HO_10.out).2.1); rintro e w' ⟨rfl, ⟨nd, rfl⟩⟩))
        go_roundg k2
        case measure => have := HK1.out; have := HK2.out; omega
        case rel => exact ⟨(x10_2), (wrap64 (x31_2 + 1)), (by first | rfl | (simp; done) | (simp [bne, *]; done)), H', ⟨by have := HK1.out; have := HK2.out; omega⟩, ⟨by (with_reducible repeat (first | apply Kd.R_alloc | apply Kd.R_drewN | apply Kd.R_drew)); exact Kd.R_mono (Kd.R_far (p := ⟨gb114, 1, none⟩) (Kd.R_far (p := ⟨gb114, 0, none⟩) (Kd.R_types HO_10.out BK114.out (by decide)) (fun _ hk => hk.2) (.string ((rd_T29 l0_3 x31_2).f0))) (fun _ hk => hk.2) (.int .i64 ((rd_T29 l0_3 x31_2).f1))) (fun _ hk => trivial)⟩, ⟨by (with_reducible repeat (first | refine blk_drewN ?_ _ | refine blk_drew ?_ | refine blk_alloc ?_ _)); refine blk_far ?_ NB107_114.out _; (with_reducible repeat (first | refine blk_drewN ?_ _ | refine blk_drew ?_ | refine blk_alloc ?_ _)); refine blk_far ?_ NB107_114.out _; (with_reducible repeat (first | refine blk_drewN ?_ _ | refine blk_drew ?_ | refine blk_alloc ?_ _)); exact BK107.out⟩, ⟨by repeat (first | (with_reducible first | exact HB.out | apply bA_ | apply bN_ | apply bD_ | refine bS_ ?_ GE107 | refine bS_ ?_ GE114) | exact HB.out)⟩⟩
       ·
        replace c25 := Bool.eq_false_iff.mpr c25
        subst c25
        have H1 : (if x10_2.length < 8796093022208 then (schema_Order.l1 k2 l1 (x10_2 ++ [(rd_T29 l0_3 x31_2).f0]) l0_3 (l0_3.length : Int) (wrap64 (x31_2 + 1))) else (none)) = some (r1, r2) := by rw [if_neg (show ¬ (false = true) by decide)] at H; exact H
        clear H
        have H := H1
        clear H1
        by_cases c30 : x10_2.length < 8796093022208
        rotate_left
        ·
         rw [if_neg c30] at H
         exact absurd H (by simp)
        rw [if_pos c30] at H
        have LMc30 := Aside0.mk c30
        clear c30
        obtain ⟨y116, hy116⟩ : ∃ y_ : List ByteArray, y_ = (x10_2 ++ [(rd_T29 l0_3 x31_2).f0]) := ⟨_, rfl⟩
        replace H : (schema_Order.l1 k2 l1 y116 l0_3 (l0_3.length : Int) (wrap64 (x31_2 + 1))) = some (r1, r2) := by first | (rw [hy116]; with_reducible exact H) | (have H2_ := (Option.bind_some _ _).symm.trans H; rw [hy116]; with_reducible exact H2_) | (have H2_ := (Option.bind_some _ _).symm.trans H; with_reducible exact H2_) | with_reducible exact H | (rw [hy116]; exact H) | exact H
        have Ny116 := Aside0.mk hy116
        clear hy116
        have H' := Aside0.mk H
        clear H
        have p113 : 0 ≤ (x31_2 : Int) := of_decide_eq_true (by first | (with_reducible assumption) | assumption)
        have q113 : x31_2 < (l0_3.length : Int) := of_decide_eq_true (by first | (with_reducible assumption) | assumption)
        obtain ⟨ad113, e113, hx113_0, hx113_1⟩ := at_T29 HR0_3.out x31_2 p113 q113
        cases e113
        replace hx113_0 := cB_ HB hx113_0
        replace hx113_1 := cB_ HB hx113_1
        replace p113 := eq_true p113
        replace q113 := eq_true q113
        go_wp2_with (first | ((with_reducible refine gate_dst (N := 12) rfl ?_); refine box_event ?hg (N := 12) ?hd (cs := #[.string (⟨#[]⟩ : ByteArray), .int .i64 0]) (t := 29) ?hr ?_; (case hd => rfl); (case hg => rfl); (case hr => first | (go_simp; done) | (go_simp; rfl)); intro gb114 hg w31 hbox hb; replace HO_10 := kR HO_10 hb; have BK114 := Aside0.mk (hbox); have GW114 := Aside0.mk ((by rw [hg]; exact (bZ_ (by repeat (first | (with_reducible first | exact HB.out | apply bA_ | apply bN_ | apply bD_ | refine bS_ ?_ GE107) | exact HB.out))) : w.heap.size ≤ gb114)); replace HB := Aside0.mk (below_step (by repeat (first | (with_reducible first | exact HB.out | apply bA_ | apply bN_ | apply bD_ | refine bS_ ?_ GE107) | exact HB.out)) hb); have GE114 := GW114; have NB107_114 := Aside0.mk ((by rw [hg]; exact Nat.ne_of_lt (blk_lt (kbW BK107)) : gb107 ≠ gb114)); have NB114_107 := Aside0.mk ((by rw [hg]; exact Nat.ne_of_gt (blk_lt (kbW BK107)) : gb114 ≠ gb107)); replace BK107 := kB BK107 hb; clear hb hbox hg; have hnb32 := NB114_107.out; have hnc32 := NB107_114.out; obtain ⟨_, _, _, _⟩ := czf2 BK114; obtain ⟨Ao34, co34, eo34⟩ := Kd.R_slice HO_10.out; subst eo34) | (go_at_call 26; (with_reducible refine (slices_Contains_string_string.calls k2 _ _ x10_2 ((rd_T29 l0_3 x31_2).f0) false _ ?side1 ?side2 A24.out).mono ?_); (case side1 => refine (Kd.R_reads' (e := 9) (base := w.heap.size) (ok := fun k_ => True) (n := x10_2.length) (c := co34) ?_).2.2; exact (by (with_reducible repeat (first | apply Kd.R_alloc | apply Kd.R_drewN | apply Kd.R_drew)); exact (Kd.R_mono (Kd.R_far (p := ⟨gb114, 1, none⟩) (Kd.R_far (p := ⟨gb114, 0, none⟩) (Kd.R_types HO_10.out BK114.out (by decide)) (fun _ hk => hk.2) (.string ((rd_T29 l0_3 x31_2).f0))) (fun _ hk => hk.2) (.int .i64 ((rd_T29 l0_3 x31_2).f1))) (fun _ h_ => h_.1)))); (case side2 => exact (Kd.R_reads' HO_10.out).2.1); rintro e w' ⟨rfl, ⟨nd, rfl⟩⟩) | ((with_reducible refine gate_builtin (b := .append) (xs := #[.tmp 51, .tmp 54]) rfl ?_); at_builtin; refine Kd.R_append Kd.string (w0 := w) w.heap.size rfl (.tmp 51) (.tmp 54) 27 9 (.string ⟨#[]⟩) 16 rfl Tryd.underlying27 info9 rfl (by decide) (by omega) (.slice Ao34 x10_2.length co34) x10_2 ((rd_T29 l0_3 x31_2).f0) [.string ((rd_T29 l0_3 x31_2).f0)] (fun _ => True) (fun _ => False) rfl (by first | (go_simp; done) | (go_simp; rfl)) ?aP (fun _ hk => hk.elim) ?aF ?aO ?aB ?aS ?aL ?_; (case aP => exact rfl); (case aB => exact (by repeat (first | (with_reducible first | exact HB.out | apply bA_ | apply bN_ | apply bD_ | refine bS_ ?_ GE107 | refine bS_ ?_ GE114) | exact HB.out))); (case aF => exact (fun _ _ => trivial)); (case aO => exact (by (with_reducible repeat (first | apply Kd.R_alloc | apply Kd.R_drewN | apply Kd.R_drew)); exact Kd.R_mono (Kd.R_far (p := ⟨gb114, 1, none⟩) (Kd.R_far (p := ⟨gb114, 0, none⟩) (Kd.R_types HO_10.out BK114.out (by decide)) (fun _ hk => hk.2) (.string ((rd_T29 l0_3 x31_2).f0))) (fun _ hk => hk.2) (.int .i64 ((rd_T29 l0_3 x31_2).f1))) (fun _ hk => trivial))); (case aS => exact (bZ_ (by repeat (first | (with_reducible first | exact HB.out | apply bA_ | apply bN_ | apply bD_ | refine bS_ ?_ GE107 | refine bS_ ?_ GE114) | exact HB.out)))); (case aL => have := LMc30.out; omega); intro v117 w35 ho hb hg hat; rw [← Ny116.out] at ho; replace BK107 := Aside0.mk (blk_grown (g := gb107) (o := .cells #[.string a0_0, .string a0_1, .string a0_2, .slice (some ad113) l0_3.length c0_3] 26 (0, 0)) (by (with_reducible repeat (first | refine blk_drewN ?_ _ | refine blk_drew ?_ | refine blk_alloc ?_ _)); refine blk_far ?_ NB107_114.out _; (with_reducible repeat (first | refine blk_drewN ?_ _ | refine blk_drew ?_ | refine blk_alloc ?_ _)); refine blk_far ?_ NB107_114.out _; (with_reducible repeat (first | refine blk_drewN ?_ _ | refine blk_drew ?_ | refine blk_alloc ?_ _)); exact BK107.out) hg (Kd.R_ne HO_10.out BK107.out (by decide))); replace BK114 := Aside0.mk (blk_grown (g := gb114) (o := .cells #[.string ((rd_T29 l0_3 x31_2).f0), .int .i64 ((rd_T29 l0_3 x31_2).f1)] 29 (0, 0)) (by (with_reducible repeat (first | refine blk_drewN ?_ _ | refine blk_drew ?_ | refine blk_alloc ?_ _)); refine blk_put (cs := #[.string ((rd_T29 l0_3 x31_2).f0), .int .i64 0]) ?_ 1 _ rfl; (with_reducible repeat (first | refine blk_drewN ?_ _ | refine blk_drew ?_ | refine blk_alloc ?_ _)); refine blk_put (cs := #[.string (⟨#[]⟩ : ByteArray), .int .i64 0]) ?_ 0 _ rfl; (with_reducible repeat (first | refine blk_drewN ?_ _ | refine blk_drew ?_ | refine blk_alloc ?_ _)); exact BK114.out) hg (Kd.R_ne HO_10.out BK114.out (by decide))); replace HB := Aside0.mk (hb); have HO118 := Aside0.mk (ho); clear HO_10; clear ho hb hg hat))
        go_roundg k2
        case measure => have := HK1.out; have := HK2.out; omega
        case rel => exact ⟨(y116), (wrap64 (x31_2 + 1)), (by first | rfl | (simp; done) | (simp [bne, *]; done)), H', ⟨by have := HK1.out; have := HK2.out; omega⟩, ⟨krW HO118⟩, ⟨by (with_reducible repeat (first | refine blk_drewN ?_ _ | refine blk_drew ?_ | refine blk_alloc ?_ _)); exact BK107.out⟩, ⟨by repeat (first | (with_reducible first | exact HB.out | apply bA_ | apply bN_ | apply bD_ | refine bS_ ?_ GE107 | refine bS_ ?_ GE114) | exact HB.out)⟩⟩
      ·
       rw [if_neg c23] at H
       have c23b0 : ((l1.length : Int) == 0) = false := beq_eq_false_iff_ne.mpr c23
       have c23b1 : ((l1.length : Int) != 0) = true := bne_iff_ne.mpr c23
       have c23b2 : ¬ (l1 = []) := fun h_ => c23 (by rw [h_]; rfl)
       replace H := Option.bind_eq_some_iff.mp H
       obtain ⟨t119, A360, H⟩ := H
       have A36 := Aside0.mk A360
       clear A360
       by_cases c37 : t119 = true
       rotate_left
       ·
        replace c37 := Bool.eq_false_iff.mpr c37
        subst c37
        have H1 : (schema_Order.l1 k2 l1 x10_2 l0_3 (l0_3.length : Int) (wrap64 (x31_2 + 1))) = some (r1, r2) := by rw [if_neg (show ¬ (false = true) by decide)] at H; exact H
        clear H
        have H := H1
        clear H1
        have H' := Aside0.mk H
        clear H
        have p113 : 0 ≤ (x31_2 : Int) := of_decide_eq_true (by first | (with_reducible assumption) | assumption)
        have q113 : x31_2 < (l0_3.length : Int) := of_decide_eq_true (by first | (with_reducible assumption) | assumption)
        obtain ⟨ad113, e113, hx113_0, hx113_1⟩ := at_T29 HR0_3.out x31_2 p113 q113
        cases e113
        replace hx113_0 := cB_ HB hx113_0
        replace hx113_1 := cB_ HB hx113_1
        replace p113 := eq_true p113
        replace q113 := eq_true q113
        go_wp2_with (first | ((with_reducible refine gate_dst (N := 12) rfl ?_); refine box_event ?hg (N := 12) ?hd (cs := #[.string (⟨#[]⟩ : ByteArray), .int .i64 0]) (t := 29) ?hr ?_; (case hd => rfl); (case hg => rfl); (case hr => first | (go_simp; done) | (go_simp; rfl)); intro gb114 hg w50 hbox hb; replace HO_10 := kR HO_10 hb; have BK114 := Aside0.mk (hbox); have GW114 := Aside0.mk ((by rw [hg]; exact (bZ_ (by repeat (first | (with_reducible first | exact HB.out | apply bA_ | apply bN_ | apply bD_ | refine bS_ ?_ GE107) | exact HB.out))) : w.heap.size ≤ gb114)); replace HB := Aside0.mk (below_step (by repeat (first | (with_reducible first | exact HB.out | apply bA_ | apply bN_ | apply bD_ | refine bS_ ?_ GE107) | exact HB.out)) hb); have GE114 := GW114; have NB107_114 := Aside0.mk ((by rw [hg]; exact Nat.ne_of_lt (blk_lt (kbW BK107)) : gb107 ≠ gb114)); have NB114_107 := Aside0.mk ((by rw [hg]; exact Nat.ne_of_gt (blk_lt (kbW BK107)) : gb114 ≠ gb107)); replace BK107 := kB BK107 hb; clear hb hbox hg; have hnb51 := NB114_107.out; have hnc51 := NB107_114.out; obtain ⟨_, _, _, _⟩ := czf2 BK114) | (go_at_call 26; (with_reducible refine (slices_Contains_string_string.calls k2 _ _ l1 ((rd_T29 l0_3 x31_2).f0) false _ ?side1 ?side2 A36.out).mono ?_); (case side1 => exact Kd.C_below HR1.out (by repeat (first | (with_reducible first | exact HB.out | apply bA_ | apply bN_ | apply bD_ | refine bS_ ?_ GE107 | refine bS_ ?_ GE114) | exact HB.out))); (case side2 => exact HC1.out); rintro e w' ⟨rfl, ⟨nd, rfl⟩⟩))
        go_roundg k2
        case measure => have := HK1.out; have := HK2.out; omega
        case rel => exact ⟨(x10_2), (wrap64 (x31_2 + 1)), (by first | rfl | (simp; done) | (simp [bne, *]; done)), H', ⟨by have := HK1.out; have := HK2.out; omega⟩, ⟨by (with_reducible repeat (first | apply Kd.R_alloc | apply Kd.R_drewN | apply Kd.R_drew)); exact Kd.R_mono (Kd.R_far (p := ⟨gb114, 1, none⟩) (Kd.R_far (p := ⟨gb114, 0, none⟩) (Kd.R_types HO_10.out BK114.out (by decide)) (fun _ hk => hk.2) (.string ((rd_T29 l0_3 x31_2).f0))) (fun _ hk => hk.2) (.int .i64 ((rd_T29 l0_3 x31_2).f1))) (fun _ hk => trivial)⟩, ⟨by (with_reducible repeat (first | refine blk_drewN ?_ _ | refine blk_drew ?_ | refine blk_alloc ?_ _)); refine blk_far ?_ NB107_114.out _; (with_reducible repeat (first | refine blk_drewN ?_ _ | refine blk_drew ?_ | refine blk_alloc ?_ _)); refine blk_far ?_ NB107_114.out _; (with_reducible repeat (first | refine blk_drewN ?_ _ | refine blk_drew ?_ | refine blk_alloc ?_ _)); exact BK107.out⟩, ⟨by repeat (first | (with_reducible first | exact HB.out | apply bA_ | apply bN_ | apply bD_ | refine bS_ ?_ GE107 | refine bS_ ?_ GE114) | exact HB.out)⟩⟩
       subst c37
       have H1 : ((slices_Contains_string_string.f k2 x10_2 ((rd_T29 l0_3 x31_2).f0)).bind fun t120 => (if t120 = true then (schema_Order.l1 k2 l1 x10_2 l0_3 (l0_3.length : Int) (wrap64 (x31_2 + 1))) else (if x10_2.length < 8796093022208 then (schema_Order.l1 k2 l1 (x10_2 ++ [(rd_T29 l0_3 x31_2).f0]) l0_3 (l0_3.length : Int) (wrap64 (x31_2 + 1))) else (none)))) = some (r1, r2) := by rw [if_pos rfl] at H; exact H
       clear H
       have H := H1
       clear H1
       replace H := Option.bind_eq_some_iff.mp H
       obtain ⟨t120, A380, H⟩ := H
       have A38 := Aside0.mk A380
       clear A380
       by_cases c39 : t120 = true
       ·
        subst c39
        have H1 : (schema_Order.l1 k2 l1 x10_2 l0_3 (l0_3.length : Int) (wrap64 (x31_2 + 1))) = some (r1, r2) := by rw [if_pos rfl] at H; exact H
        clear H
        have H := H1
        clear H1
        have H' := Aside0.mk H
        clear H
        have p113 : 0 ≤ (x31_2 : Int) := of_decide_eq_true (by first | (with_reducible assumption) | assumption)
        have q113 : x31_2 < (l0_3.length : Int) := of_decide_eq_true (by first | (with_reducible assumption) | assumption)
        obtain ⟨ad113, e113, hx113_0, hx113_1⟩ := at_T29 HR0_3.out x31_2 p113 q113
        cases e113
        replace hx113_0 := cB_ HB hx113_0
        replace hx113_1 := cB_ HB hx113_1
        replace p113 := eq_true p113
        replace q113 := eq_true q113
        go_wp2_with (first | ((with_reducible refine gate_dst (N := 12) rfl ?_); refine box_event ?hg (N := 12) ?hd (cs := #[.string (⟨#[]⟩ : ByteArray), .int .i64 0]) (t := 29) ?hr ?_; (case hd => rfl); (case hg => rfl); (case hr => first | (go_simp; done) | (go_simp; rfl)); intro gb114 hg w40 hbox hb; replace HO_10 := kR HO_10 hb; have BK114 := Aside0.mk (hbox); have GW114 := Aside0.mk ((by rw [hg]; exact (bZ_ (by repeat (first | (with_reducible first | exact HB.out | apply bA_ | apply bN_ | apply bD_ | refine bS_ ?_ GE107) | exact HB.out))) : w.heap.size ≤ gb114)); replace HB := Aside0.mk (below_step (by repeat (first | (with_reducible first | exact HB.out | apply bA_ | apply bN_ | apply bD_ | refine bS_ ?_ GE107) | exact HB.out)) hb); have GE114 := GW114; have NB107_114 := Aside0.mk ((by rw [hg]; exact Nat.ne_of_lt (blk_lt (kbW BK107)) : gb107 ≠ gb114)); have NB114_107 := Aside0.mk ((by rw [hg]; exact Nat.ne_of_gt (blk_lt (kbW BK107)) : gb114 ≠ gb107)); replace BK107 := kB BK107 hb; clear hb hbox hg; have hnb41 := NB114_107.out; have hnc41 := NB107_114.out; obtain ⟨_, _, _, _⟩ := czf2 BK114) | (go_at_call 26; (with_reducible refine (slices_Contains_string_string.calls k2 _ _ l1 ((rd_T29 l0_3 x31_2).f0) true _ ?side1 ?side2 A36.out).mono ?_); (case side1 => exact Kd.C_below HR1.out (by repeat (first | (with_reducible first | exact HB.out | apply bA_ | apply bN_ | apply bD_ | refine bS_ ?_ GE107 | refine bS_ ?_ GE114) | exact HB.out))); (case side2 => exact HC1.out); rintro e w' ⟨rfl, ⟨nd, rfl⟩⟩; obtain ⟨Ao43, co43, eo43⟩ := Kd.R_slice HO_10.out; subst eo43) | (go_at_call 26; (with_reducible refine (slices_Contains_string_string.calls k2 _ _ x10_2 ((rd_T29 l0_3 x31_2).f0) true _ ?side1 ?side2 A38.out).mono ?_); (case side1 => refine (Kd.R_reads' (e := 9) (base := w.heap.size) (ok := fun k_ => True) (n := x10_2.length) (c := co43) ?_).2.2; exact (by (with_reducible repeat (first | apply Kd.R_alloc | apply Kd.R_drewN | apply Kd.R_drew)); exact (Kd.R_mono (Kd.R_far (p := ⟨gb114, 1, none⟩) (Kd.R_far (p := ⟨gb114, 0, none⟩) (Kd.R_types HO_10.out BK114.out (by decide)) (fun _ hk => hk.2) (.string ((rd_T29 l0_3 x31_2).f0))) (fun _ hk => hk.2) (.int .i64 ((rd_T29 l0_3 x31_2).f1))) (fun _ h_ => h_.1)))); (case side2 => exact (Kd.R_reads' HO_10.out).2.1); rintro e w' ⟨rfl, ⟨nd, rfl⟩⟩))
        go_roundg k2
        case measure => have := HK1.out; have := HK2.out; omega
        case rel => exact ⟨(x10_2), (wrap64 (x31_2 + 1)), (by first | rfl | (simp; done) | (simp [bne, *]; done)), H', ⟨by have := HK1.out; have := HK2.out; omega⟩, ⟨by (with_reducible repeat (first | apply Kd.R_alloc | apply Kd.R_drewN | apply Kd.R_drew)); exact Kd.R_mono (Kd.R_far (p := ⟨gb114, 1, none⟩) (Kd.R_far (p := ⟨gb114, 0, none⟩) (Kd.R_types HO_10.out BK114.out (by decide)) (fun _ hk => hk.2) (.string ((rd_T29 l0_3 x31_2).f0))) (fun _ hk => hk.2) (.int .i64 ((rd_T29 l0_3 x31_2).f1))) (fun _ hk => trivial)⟩, ⟨by (with_reducible repeat (first | refine blk_drewN ?_ _ | refine blk_drew ?_ | refine blk_alloc ?_ _)); refine blk_far ?_ NB107_114.out _; (with_reducible repeat (first | refine blk_drewN ?_ _ | refine blk_drew ?_ | refine blk_alloc ?_ _)); refine blk_far ?_ NB107_114.out _; (with_reducible repeat (first | refine blk_drewN ?_ _ | refine blk_drew ?_ | refine blk_alloc ?_ _)); exact BK107.out⟩, ⟨by repeat (first | (with_reducible first | exact HB.out | apply bA_ | apply bN_ | apply bD_ | refine bS_ ?_ GE107 | refine bS_ ?_ GE114) | exact HB.out)⟩⟩
       ·
        replace c39 := Bool.eq_false_iff.mpr c39
        subst c39
        have H1 : (if x10_2.length < 8796093022208 then (schema_Order.l1 k2 l1 (x10_2 ++ [(rd_T29 l0_3 x31_2).f0]) l0_3 (l0_3.length : Int) (wrap64 (x31_2 + 1))) else (none)) = some (r1, r2) := by rw [if_neg (show ¬ (false = true) by decide)] at H; exact H
        clear H
        have H := H1
        clear H1
        by_cases c44 : x10_2.length < 8796093022208
        rotate_left
        ·
         rw [if_neg c44] at H
         exact absurd H (by simp)
        rw [if_pos c44] at H
        have LMc44 := Aside0.mk c44
        clear c44
        obtain ⟨y121, hy121⟩ : ∃ y_ : List ByteArray, y_ = (x10_2 ++ [(rd_T29 l0_3 x31_2).f0]) := ⟨_, rfl⟩
        replace H : (schema_Order.l1 k2 l1 y121 l0_3 (l0_3.length : Int) (wrap64 (x31_2 + 1))) = some (r1, r2) := by first | (rw [hy121]; with_reducible exact H) | (have H2_ := (Option.bind_some _ _).symm.trans H; rw [hy121]; with_reducible exact H2_) | (have H2_ := (Option.bind_some _ _).symm.trans H; with_reducible exact H2_) | with_reducible exact H | (rw [hy121]; exact H) | exact H
        have Ny121 := Aside0.mk hy121
        clear hy121
        have H' := Aside0.mk H
        clear H
        have p113 : 0 ≤ (x31_2 : Int) := of_decide_eq_true (by first | (with_reducible assumption) | assumption)
        have q113 : x31_2 < (l0_3.length : Int) := of_decide_eq_true (by first | (with_reducible assumption) | assumption)
        obtain ⟨ad113, e113, hx113_0, hx113_1⟩ := at_T29 HR0_3.out x31_2 p113 q113
        cases e113
        replace hx113_0 := cB_ HB hx113_0
        replace hx113_1 := cB_ HB hx113_1
        replace p113 := eq_true p113
        replace q113 := eq_true q113
        go_wp2_with (first | ((with_reducible refine gate_dst (N := 12) rfl ?_); refine box_event ?hg (N := 12) ?hd (cs := #[.string (⟨#[]⟩ : ByteArray), .int .i64 0]) (t := 29) ?hr ?_; (case hd => rfl); (case hg => rfl); (case hr => first | (go_simp; done) | (go_simp; rfl)); intro gb114 hg w45 hbox hb; replace HO_10 := kR HO_10 hb; have BK114 := Aside0.mk (hbox); have GW114 := Aside0.mk ((by rw [hg]; exact (bZ_ (by repeat (first | (with_reducible first | exact HB.out | apply bA_ | apply bN_ | apply bD_ | refine bS_ ?_ GE107) | exact HB.out))) : w.heap.size ≤ gb114)); replace HB := Aside0.mk (below_step (by repeat (first | (with_reducible first | exact HB.out | apply bA_ | apply bN_ | apply bD_ | refine bS_ ?_ GE107) | exact HB.out)) hb); have GE114 := GW114; have NB107_114 := Aside0.mk ((by rw [hg]; exact Nat.ne_of_lt (blk_lt (kbW BK107)) : gb107 ≠ gb114)); have NB114_107 := Aside0.mk ((by rw [hg]; exact Nat.ne_of_gt (blk_lt (kbW BK107)) : gb114 ≠ gb107)); replace BK107 := kB BK107 hb; clear hb hbox hg; have hnb46 := NB114_107.out; have hnc46 := NB107_114.out; obtain ⟨_, _, _, _⟩ := czf2 BK114) | (go_at_call 26; (with_reducible refine (slices_Contains_string_string.calls k2 _ _ l1 ((rd_T29 l0_3 x31_2).f0) true _ ?side1 ?side2 A36.out).mono ?_); (case side1 => exact Kd.C_below HR1.out (by repeat (first | (with_reducible first | exact HB.out | apply bA_ | apply bN_ | apply bD_ | refine bS_ ?_ GE107 | refine bS_ ?_ GE114) | exact HB.out))); (case side2 => exact HC1.out); rintro e w' ⟨rfl, ⟨nd, rfl⟩⟩; obtain ⟨Ao48, co48, eo48⟩ := Kd.R_slice HO_10.out; subst eo48) | (go_at_call 26; (with_reducible refine (slices_Contains_string_string.calls k2 _ _ x10_2 ((rd_T29 l0_3 x31_2).f0) false _ ?side1 ?side2 A38.out).mono ?_); (case side1 => refine (Kd.R_reads' (e := 9) (base := w.heap.size) (ok := fun k_ => True) (n := x10_2.length) (c := co48) ?_).2.2; exact (by (with_reducible repeat (first | apply Kd.R_alloc | apply Kd.R_drewN | apply Kd.R_drew)); exact (Kd.R_mono (Kd.R_far (p := ⟨gb114, 1, none⟩) (Kd.R_far (p := ⟨gb114, 0, none⟩) (Kd.R_types HO_10.out BK114.out (by decide)) (fun _ hk => hk.2) (.string ((rd_T29 l0_3 x31_2).f0))) (fun _ hk => hk.2) (.int .i64 ((rd_T29 l0_3 x31_2).f1))) (fun _ h_ => h_.1)))); (case side2 => exact (Kd.R_reads' HO_10.out).2.1); rintro e w' ⟨rfl, ⟨nd, rfl⟩⟩) | ((with_reducible refine gate_builtin (b := .append) (xs := #[.tmp 51, .tmp 54]) rfl ?_); at_builtin; refine Kd.R_append Kd.string (w0 := w) w.heap.size rfl (.tmp 51) (.tmp 54) 27 9 (.string ⟨#[]⟩) 16 rfl Tryd.underlying27 info9 rfl (by decide) (by omega) (.slice Ao48 x10_2.length co48) x10_2 ((rd_T29 l0_3 x31_2).f0) [.string ((rd_T29 l0_3 x31_2).f0)] (fun _ => True) (fun _ => False) rfl (by first | (go_simp; done) | (go_simp; rfl)) ?aP (fun _ hk => hk.elim) ?aF ?aO ?aB ?aS ?aL ?_; (case aP => exact rfl); (case aB => exact (by repeat (first | (with_reducible first | exact HB.out | apply bA_ | apply bN_ | apply bD_ | refine bS_ ?_ GE107 | refine bS_ ?_ GE114) | exact HB.out))); (case aF => exact (fun _ _ => trivial)); (case aO => exact (by (with_reducible repeat (first | apply Kd.R_alloc | apply Kd.R_drewN | apply Kd.R_drew)); exact Kd.R_mono (Kd.R_far (p := ⟨gb114, 1, none⟩) (Kd.R_far (p := ⟨gb114, 0, none⟩) (Kd.R_types HO_10.out BK114.out (by decide)) (fun _ hk => hk.2) (.string ((rd_T29 l0_3 x31_2).f0))) (fun _ hk => hk.2) (.int .i64 ((rd_T29 l0_3 x31_2).f1))) (fun _ hk => trivial))); (case aS => exact (bZ_ (by repeat (first | (with_reducible first | exact HB.out | apply bA_ | apply bN_ | apply bD_ | refine bS_ ?_ GE107 | refine bS_ ?_ GE114) | exact HB.out)))); (case aL => have := LMc44.out; omega); intro v122 w49 ho hb hg hat; rw [← Ny121.out] at ho; replace BK107 := Aside0.mk (blk_grown (g := gb107) (o := .cells #[.string a0_0, .string a0_1, .string a0_2, .slice (some ad113) l0_3.length c0_3] 26 (0, 0)) (by (with_reducible repeat (first | refine blk_drewN ?_ _ | refine blk_drew ?_ | refine blk_alloc ?_ _)); refine blk_far ?_ NB107_114.out _; (with_reducible repeat (first | refine blk_drewN ?_ _ | refine blk_drew ?_ | refine blk_alloc ?_ _)); refine blk_far ?_ NB107_114.out _; (with_reducible repeat (first | refine blk_drewN ?_ _ | refine blk_drew ?_ | refine blk_alloc ?_ _)); exact BK107.out) hg (Kd.R_ne HO_10.out BK107.out (by decide))); replace BK114 := Aside0.mk (blk_grown (g := gb114) (o := .cells #[.string ((rd_T29 l0_3 x31_2).f0), .int .i64 ((rd_T29 l0_3 x31_2).f1)] 29 (0, 0)) (by (with_reducible repeat (first | refine blk_drewN ?_ _ | refine blk_drew ?_ | refine blk_alloc ?_ _)); refine blk_put (cs := #[.string ((rd_T29 l0_3 x31_2).f0), .int .i64 0]) ?_ 1 _ rfl; (with_reducible repeat (first | refine blk_drewN ?_ _ | refine blk_drew ?_ | refine blk_alloc ?_ _)); refine blk_put (cs := #[.string (⟨#[]⟩ : ByteArray), .int .i64 0]) ?_ 0 _ rfl; (with_reducible repeat (first | refine blk_drewN ?_ _ | refine blk_drew ?_ | refine blk_alloc ?_ _)); exact BK114.out) hg (Kd.R_ne HO_10.out BK114.out (by decide))); replace HB := Aside0.mk (hb); have HO123 := Aside0.mk (ho); clear HO_10; clear ho hb hg hat))
        go_roundg k2
        case measure => have := HK1.out; have := HK2.out; omega
        case rel => exact ⟨(y121), (wrap64 (x31_2 + 1)), (by first | rfl | (simp; done) | (simp [bne, *]; done)), H', ⟨by have := HK1.out; have := HK2.out; omega⟩, ⟨krW HO123⟩, ⟨by (with_reducible repeat (first | refine blk_drewN ?_ _ | refine blk_drew ?_ | refine blk_alloc ?_ _)); exact BK107.out⟩, ⟨by repeat (first | (with_reducible first | exact HB.out | apply bA_ | apply bN_ | apply bD_ | refine bS_ ?_ GE107 | refine bS_ ?_ GE114) | exact HB.out)⟩⟩
end Go.Proofs.YtdagddhccdchoaaDoor.Q
