/- The structs of cells: what reads as one, and is no heavier than a row's data may be. -/
import Derived.Test.YtafhnjlihhfoaaaUbQx6
import Derived.Test.YtafhnjlihhfoaaaUbJ11
import Derived.Test.YtafhnjlihhfoaaaUbJ13
import Derived.Test.YtafhnjlihhfoaaaUbQx0
import Derived.Test.YtafhnjlihhfoaaaUbJ15
import Derived.Test.YtafhnjlihhfoaaaUbSortS
import Derived.Test.YtafhnjlihhfoaaaUbJ0
import Derived.Test.YtafhnjlihhfoaaaUbQx5
namespace Go.Proofs.Ytafhnjlihhfoaaa.Opn
open Go.RowKit Go.Proofs.YtafhnjlihhfoaaaW.PrintWords Go.ChangeShapes Go.WideShapes
open Go.Proofs.Ytafhnjlihhfoaaa.Q
set_option linter.unusedVariables false
set_option linter.unusedSimpArgs false
def WK (x : S32) : Prop := x.f0.size ≤ 140737488351232 ∧ x.f1.size ≤ 140737488351232 ∧ (Lit.int .i64 x.f2).wf = true ∧ x.f3.size ≤ 140737488351232
def WV (x : S34) : Prop := (Lit.int .i64 x.f0).wf = true ∧ (Lit.int .i64 x.f1).wf = true ∧ x.f2.size ≤ 140737488351232
def WVer (x : S36) : Prop := (Lit.int .i64 x.f0).wf = true ∧ True ∧ (Lit.int .i64 x.f2).wf = true ∧ WV x.f3
def WC (x : S38) : Prop := WK x.f0 ∧ WVer x.f1
theorem z32 : OpensZ Try.prog 32 k32 WK :=
 OpensZ.struct (f := fun x : S32 => (x.f0, x.f1, x.f2, x.f3)) Try.underlying32 (by kernel_rfl)
  (OpensFZ.cons (OpensZ.string Try.underlying9) rfl (by kernel_rfl) (OpensFZ.cons (OpensZ.string Try.underlying9) rfl (by kernel_rfl)
   (OpensFZ.cons (OpensZ.int Try.underlying3) rfl (by kernel_rfl) (OpensFZ.one (OpensZ.string Try.underlying9) rfl (by kernel_rfl)))))
  (fun y => ⟨y.1, y.2.1, y.2.2.1, y.2.2.2⟩) (fun _ => rfl)
theorem z34 : OpensZ Try.prog 34 k34 WV :=
 OpensZ.struct (f := fun x : S34 => (x.f0, x.f1, x.f2)) Try.underlying34 (by kernel_rfl)
  (OpensFZ.cons (OpensZ.int Try.underlying3) rfl (by kernel_rfl) (OpensFZ.cons (OpensZ.int Try.underlying3) rfl (by kernel_rfl) (OpensFZ.one (OpensZ.string Try.underlying9) rfl (by kernel_rfl))))
  (fun y => ⟨y.1, y.2.1, y.2.2⟩) (fun _ => rfl)
theorem z36 : OpensZ Try.prog 36 k36 WVer :=
 OpensZ.struct (f := fun x : S36 => (x.f0, x.f1, x.f2, x.f3)) Try.underlying36 (by kernel_rfl)
  (OpensFZ.cons (OpensZ.int Try.underlying3) rfl (by kernel_rfl) (OpensFZ.cons (OpensZ.bool Try.underlying4) rfl (by kernel_rfl) (OpensFZ.cons (OpensZ.int Try.underlying3) rfl (by kernel_rfl) (OpensFZ.one z34 rfl (by kernel_rfl)))))
  (fun y => ⟨y.1, y.2.1, y.2.2.1, y.2.2.2⟩) (fun _ => rfl)
theorem z38 : OpensZ Try.prog 38 k38 WC :=
 OpensZ.struct (f := fun x : S38 => (x.f0, x.f1)) Try.underlying38 (by kernel_rfl)
  (OpensFZ.cons z32 rfl (by kernel_rfl) (OpensFZ.one z36 rfl (by kernel_rfl))) (fun y => ⟨y.1, y.2⟩) (fun _ => rfl)
theorem wf_i64 {n : Int} (h : (Lit.int .i64 n).wf = true) : -9223372036854775808 ≤ n ∧ n ≤ 9223372036854775807 := by
 simpa [Lit.wf, IntKind.min, IntKind.max, IntKind.signed, IntKind.bits] using h
end Go.Proofs.Ytafhnjlihhfoaaa.Opn
namespace Go.Proofs.Ytafhnjlihhfoaaa.Q
open Go.RowKit Go.Proofs.YtafhnjlihhfoaaaW.PrintWords Go.Proofs.YtafhnjlihhfoaaaW.PrintLast Go.Proofs.YtafhnjlihhfoaaaW.PrintMore
attribute [local go_sem] max2_int min2_int max_two min_two max_three min_three max_four min_four
set_option linter.unusedVariables false
set_option linter.unusedSimpArgs false
attribute [local go_sem high] eqA32
def cell_Norm_1.f (k : Nat) (a0_0 : ByteArray) (a0_1 : ByteArray) (a0_2 : Int) (a0_3 : ByteArray) (a0_4 : Int) (a0_5 : Bool) (a0_6 : Int) (a0_7 : Int) (a0_8 : Int) (a0_9 : ByteArray) (a1_0 : ByteArray) (a1_1 : ByteArray) (a1_2 : Int) (a1_3 : ByteArray) (a1_4 : Int) (a1_5 : Bool) (a1_6 : Int) (a1_7 : Int) (a1_8 : Int) (a1_9 : ByteArray) : Option (Int) := (key_Cmp.f k a0_0 a0_1 a0_2 a0_3 a1_0 a1_1 a1_2 a1_3).bind fun t121 => (some t121)
set_option maxHeartbeats 8000000 in
set_option maxRecDepth 100000 in
theorem cell_Norm_1.calls (k : Nat) (a0_0 : ByteArray) (a0_1 : ByteArray) (a0_2 : Int) (a0_3 : ByteArray) (a0_4 : Int) (a0_5 : Bool) (a0_6 : Int) (a0_7 : Int) (a0_8 : Int) (a0_9 : ByteArray) (a1_0 : ByteArray) (a1_1 : ByteArray) (a1_2 : Int) (a1_3 : ByteArray) (a1_4 : Int) (a1_5 : Bool) (a1_6 : Int) (a1_7 : Int) (a1_8 : Int) (a1_9 : ByteArray) (r : Int) (w : World) (h : cell_Norm_1.f k a0_0 a0_1 a0_2 a0_3 a0_4 a0_5 a0_6 a0_7 a0_8 a0_9 a1_0 a1_1 a1_2 a1_3 a1_4 a1_5 a1_6 a1_7 a1_8 a1_9 = some r) :
  Calls Try.prog 43 #[.agg #[.string a0_0, .string a0_1, .int .i64 a0_2, .string a0_3, .int .i64 a0_4, .bool a0_5, .int .i64 a0_6, .int .i64 a0_7, .int .i64 a0_8, .string a0_9], .agg #[.string a1_0, .string a1_1, .int .i64 a1_2, .string a1_3, .int .i64 a1_4, .bool a1_5, .int .i64 a1_6, .int .i64 a1_7, .int .i64 a1_8, .string a1_9]] w fun e w' => e = .returned (.int .i64 r) ∧ Below w.heap.size w w' := by
 have hu38 := Try.underlying38
 have hu32 := Try.underlying32
 have HB := Aside0.mk (Below.refl w.heap.size w)
 have H : ((key_Cmp.f k a0_0 a0_1 a0_2 a0_3 a1_0 a1_1 a1_2 a1_3).bind fun t121 => (some t121)) = some r := h
 clear h
 replace H := Option.bind_eq_some_iff.mp H
 obtain ⟨t121, A30, H⟩ := H
 have A3 := Aside0.mk A30
 clear A30
 obtain rfl := Option.some.inj H
 go_enter Try.func43, Try.ntmps43
 go_wp2_with (first | ((with_reducible refine gate_dst (N := 2) rfl ?_); refine box_event ?hg (N := 2) ?hd (cs := #[.string a0_0, .string a0_1, .int .i64 a0_2, .string a0_3, .int .i64 a0_4, .bool a0_5, .int .i64 a0_6, .int .i64 a0_7, .int .i64 a0_8, .string a0_9]) (t := 38) ?hr ?_; (case hd => rfl); (case hg => rfl); (case hr => first | (go_simp; done) | (go_simp; rfl)); intro gb119 hg w4 hbox hb; have BK119 := Aside0.mk (hbox); have GW119 := Aside0.mk ((by rw [hg]; exact (bZ_ (kwW HB)) : w.heap.size ≤ gb119)); replace HB := Aside0.mk (below_step (kwW HB) hb); have GE119 := GW119; clear hb hbox hg) | ((with_reducible refine gate_dst (N := 3) rfl ?_); refine box_event ?hg (N := 3) ?hd (cs := #[.string a1_0, .string a1_1, .int .i64 a1_2, .string a1_3, .int .i64 a1_4, .bool a1_5, .int .i64 a1_6, .int .i64 a1_7, .int .i64 a1_8, .string a1_9]) (t := 38) ?hr ?_; (case hd => rfl); (case hg => rfl); (case hr => first | (go_simp; done) | (go_simp; rfl)); intro gb120 hg w5 hbox hb; have BK120 := Aside0.mk (hbox); have GW120 := Aside0.mk ((by rw [hg]; exact (bZ_ (by repeat (first | (with_reducible first | exact HB.out | apply bA_ | apply bN_ | apply bD_ | refine bS_ ?_ GE119) | exact HB.out))) : w.heap.size ≤ gb120)); replace HB := Aside0.mk (below_step (by repeat (first | (with_reducible first | exact HB.out | apply bA_ | apply bN_ | apply bD_ | refine bS_ ?_ GE119) | exact HB.out)) hb); have GE120 := GW120; have NB119_120 := Aside0.mk ((by rw [hg]; exact Nat.ne_of_lt (blk_lt (kbW BK119)) : gb119 ≠ gb120)); have NB120_119 := Aside0.mk ((by rw [hg]; exact Nat.ne_of_gt (blk_lt (kbW BK119)) : gb120 ≠ gb119)); replace BK119 := kB BK119 hb; clear hb hbox hg; have hnb6 := NB119_120.out; have hnc6 := NB120_119.out; obtain ⟨hcz7_0, hcz7_1, hcz7_2, hcz7_3, hcz7_4, hcz7_5, hcz7_6, hcz7_7, hcz7_8, hcz7_9, hfz7_0, hfz7_1, hfz7_2, hfz7_3, hfz7_4, hfz7_5, hfz7_6, hfz7_7, hfz7_8, hfz7_9⟩ := czf10 BK119; obtain ⟨_, _, _, _, _, _, _, _, _, _, _, _, _, _, _, _, _, _, _, _⟩ := czf10 BK120) | ((with_reducible refine gate_callee (f := 44) rfl ?_); refine goesL_ (some 9) rfl rfl Try.func44 (by kernel_rfl) rfl #[.agg #[.string a0_0, .string a0_1, .int .i64 a0_2, .string a0_3], .agg #[.string a1_0, .string a1_1, .int .i64 a1_2, .string a1_3]] rfl (by (try simp only [mT_, mC_, mN_]); first | done | rfl) ?_; (with_reducible refine (key_Cmp.calls k a0_0 a0_1 a0_2 a0_3 a1_0 a1_1 a1_2 a1_3 t121 _ A3.out).mono ?_); rintro e w9 ⟨rfl, hb⟩; refine ⟨_, rfl, ?_⟩; replace BK119 := kB BK119 hb; replace BK120 := kB BK120 hb; replace HB := Aside0.mk (below_step (by repeat (first | (with_reducible first | exact HB.out | apply bA_ | apply bN_ | apply bD_ | refine bS_ ?_ GE119 | refine bS_ ?_ GE120) | exact HB.out)) hb); (try clear hb); (try clear hb2); (try clear hk); (try clear hi)))
 go_ret
 exact ⟨by first | rfl | (simp <;> rfl) | (simp [*] <;> rfl), by repeat (first | (with_reducible first | exact HB.out | apply bA_ | apply bN_ | apply bD_ | refine bS_ ?_ GE119 | refine bS_ ?_ GE120) | exact HB.out)⟩
def cell_Norm_2.f (a0_0 : ByteArray) (a0_1 : ByteArray) (a0_2 : Int) (a0_3 : ByteArray) (a0_4 : Int) (a0_5 : Bool) (a0_6 : Int) (a0_7 : Int) (a0_8 : Int) (a0_9 : ByteArray) (a1_0 : ByteArray) (a1_1 : ByteArray) (a1_2 : Int) (a1_3 : ByteArray) (a1_4 : Int) (a1_5 : Bool) (a1_6 : Int) (a1_7 : Int) (a1_8 : Int) (a1_9 : ByteArray) : Option (Bool) := some (a0_0.toList == a1_0.toList && (a0_1.toList == a1_1.toList && (a0_2 == a1_2 && (a0_3.toList == a1_3.toList))))
set_option maxHeartbeats 8000000 in
set_option maxRecDepth 100000 in
theorem cell_Norm_2.calls (a0_0 : ByteArray) (a0_1 : ByteArray) (a0_2 : Int) (a0_3 : ByteArray) (a0_4 : Int) (a0_5 : Bool) (a0_6 : Int) (a0_7 : Int) (a0_8 : Int) (a0_9 : ByteArray) (a1_0 : ByteArray) (a1_1 : ByteArray) (a1_2 : Int) (a1_3 : ByteArray) (a1_4 : Int) (a1_5 : Bool) (a1_6 : Int) (a1_7 : Int) (a1_8 : Int) (a1_9 : ByteArray) (r : Bool) (w : World) (h : cell_Norm_2.f a0_0 a0_1 a0_2 a0_3 a0_4 a0_5 a0_6 a0_7 a0_8 a0_9 a1_0 a1_1 a1_2 a1_3 a1_4 a1_5 a1_6 a1_7 a1_8 a1_9 = some r) :
  Calls Try.prog 46 #[.agg #[.string a0_0, .string a0_1, .int .i64 a0_2, .string a0_3, .int .i64 a0_4, .bool a0_5, .int .i64 a0_6, .int .i64 a0_7, .int .i64 a0_8, .string a0_9], .agg #[.string a1_0, .string a1_1, .int .i64 a1_2, .string a1_3, .int .i64 a1_4, .bool a1_5, .int .i64 a1_6, .int .i64 a1_7, .int .i64 a1_8, .string a1_9]] w fun e w' => e = .returned (.bool r) ∧ Below w.heap.size w w' := by
 have hu38 := Try.underlying38
 have hu32 := Try.underlying32
 have HB := Aside0.mk (Below.refl w.heap.size w)
 have H : (some (a0_0.toList == a1_0.toList && (a0_1.toList == a1_1.toList && (a0_2 == a1_2 && (a0_3.toList == a1_3.toList))))) = some r := h
 clear h
 obtain rfl := Option.some.inj H
 go_enter Try.func46, Try.ntmps46
 go_wp2_with (first | ((with_reducible refine gate_dst (N := 2) rfl ?_); refine box_event ?hg (N := 2) ?hd (cs := #[.string a0_0, .string a0_1, .int .i64 a0_2, .string a0_3, .int .i64 a0_4, .bool a0_5, .int .i64 a0_6, .int .i64 a0_7, .int .i64 a0_8, .string a0_9]) (t := 38) ?hr ?_; (case hd => rfl); (case hg => rfl); (case hr => first | (go_simp; done) | (go_simp; rfl)); intro gb122 hg w3 hbox hb; have BK122 := Aside0.mk (hbox); have GW122 := Aside0.mk ((by rw [hg]; exact (bZ_ (kwW HB)) : w.heap.size ≤ gb122)); replace HB := Aside0.mk (below_step (kwW HB) hb); have GE122 := GW122; clear hb hbox hg) | ((with_reducible refine gate_dst (N := 3) rfl ?_); refine box_event ?hg (N := 3) ?hd (cs := #[.string a1_0, .string a1_1, .int .i64 a1_2, .string a1_3, .int .i64 a1_4, .bool a1_5, .int .i64 a1_6, .int .i64 a1_7, .int .i64 a1_8, .string a1_9]) (t := 38) ?hr ?_; (case hd => rfl); (case hg => rfl); (case hr => first | (go_simp; done) | (go_simp; rfl)); intro gb123 hg w4 hbox hb; have BK123 := Aside0.mk (hbox); have GW123 := Aside0.mk ((by rw [hg]; exact (bZ_ (by repeat (first | (with_reducible first | exact HB.out | apply bA_ | apply bN_ | apply bD_ | refine bS_ ?_ GE122) | exact HB.out))) : w.heap.size ≤ gb123)); replace HB := Aside0.mk (below_step (by repeat (first | (with_reducible first | exact HB.out | apply bA_ | apply bN_ | apply bD_ | refine bS_ ?_ GE122) | exact HB.out)) hb); have GE123 := GW123; have NB122_123 := Aside0.mk ((by rw [hg]; exact Nat.ne_of_lt (blk_lt (kbW BK122)) : gb122 ≠ gb123)); have NB123_122 := Aside0.mk ((by rw [hg]; exact Nat.ne_of_gt (blk_lt (kbW BK122)) : gb123 ≠ gb122)); replace BK122 := kB BK122 hb; clear hb hbox hg; have hnb5 := NB122_123.out; have hnc5 := NB123_122.out; obtain ⟨_, _, _, _, _, _, _, _, _, _, _, _, _, _, _, _, _, _, _, _⟩ := czf10 BK122; obtain ⟨hcz7_0, hcz7_1, hcz7_2, hcz7_3, hcz7_4, hcz7_5, hcz7_6, hcz7_7, hcz7_8, hcz7_9, hfz7_0, hfz7_1, hfz7_2, hfz7_3, hfz7_4, hfz7_5, hfz7_6, hfz7_7, hfz7_8, hfz7_9⟩ := czf10 BK123))
 go_ret
 exact ⟨by first | rfl | (simp <;> rfl) | (simp [*] <;> rfl), by repeat (first | (with_reducible first | exact HB.out | apply bA_ | apply bN_ | apply bD_ | refine bS_ ?_ GE122 | refine bS_ ?_ GE123) | exact HB.out)⟩
def cmp_Or_int.l0 : Nat → Int → List Int → Int → Int → Option (Int)
 | 0, _, _, _, _ => none
 | k + 1, x3, x6, x7, x8 => if x8 < x7 then (if 0 ≤ x8 then (if x8 < (x6.length : Int) then (if (rd x6 x8) = x3 then (cmp_Or_int.l0 k x3 x6 x7 (wrap64 (x8 + 1))) else (some (rd x6 x8))) else (none)) else (none)) else (some x3)
def cmp_Or_int.f (k : Nat) (l0 : List Int) : Option (Int) := cmp_Or_int.l0 k 0 l0 (l0.length : Int) 0
set_option maxHeartbeats 8000000 in
set_option maxRecDepth 100000 in
theorem cmp_Or_int.calls (k : Nat) (A0 : Option Addr) (c0 : Nat) (l0 : List Int) (r : Int) (w : World) (hr0 : Kd.C (Kd.int .i64) w A0 l0.length l0) (hc0 : l0.length ≤ c0) (h : cmp_Or_int.f k l0 = some r) :
  Calls Try.prog 87 #[.slice A0 l0.length c0] w fun e w' => e = .returned (.int .i64 r) ∧ Drawn0 w w' := by
 have HR0 := Aside0.mk hr0
 have HC0 := Aside0.mk hc0
 clear hr0 hc0
 have H : (cmp_Or_int.l0 k 0 l0 (l0.length : Int) 0) = some r := h
 clear h
 have H' := Aside0.mk H
 clear H
 go_enter Try.func87, Try.ntmps87
 go_wp2
 go_loopg [8] k (fun kq v8 w' => ∃ (x8_1 : Int), v8 = .int .i64 x8_1 ∧ Aside0 (cmp_Or_int.l0 kq 0 l0 (l0.length : Int) x8_1 = some r) ∧ Aside0 (kq ≤ k) ∧ Drawn0 w w')
 case atStart => exact ⟨(0), (by first | rfl | (simp; done) | (simp [bne, *]; done)), H', ⟨Nat.le_refl _⟩, by repeat (first | exact Drawn0.refl _ | apply Drawn0.step)⟩
 case round =>
  clear H'
  obtain ⟨x8_1, rfl, HA, HK1, ⟨m1, rfl⟩⟩ := hrel
  cases gk with
  | zero => exact absurd HA.out (by simp [cmp_Or_int.l0])
  | succ k1 =>
   have H := HA.out
   clear HA
   simp only [cmp_Or_int.l0] at H
   by_cases c2 : x8_1 < (l0.length : Int)
   rotate_left
   ·
    rw [if_neg c2] at H
    have c2b0 : decide (x8_1 < (l0.length : Int)) = false := decide_eq_false c2
    clear c2
    obtain rfl := Option.some.inj H
    go_wp2
    go_ret
    exact ⟨by first | rfl | (simp; done) | (simp [*]; done), by repeat (first | exact Drawn0.refl _ | apply Drawn0.step)⟩
   rw [if_pos c2] at H
   have c2b0 : decide (x8_1 < (l0.length : Int)) = true := decide_eq_true c2
   clear c2
   by_cases c3 : 0 ≤ x8_1
   rotate_left
   ·
    rw [if_neg c3] at H
    exact absurd H (by simp)
   rw [if_pos c3] at H
   have c3b0 : decide (0 ≤ x8_1) = true := decide_eq_true c3
   clear c3
   by_cases c4 : x8_1 < (l0.length : Int)
   rotate_left
   ·
    rw [if_neg c4] at H
    exact absurd H (by simp)
   rw [if_pos c4] at H
   have c4b0 : decide (x8_1 < (l0.length : Int)) = true := decide_eq_true c4
   clear c4
   by_cases c5 : (rd l0 x8_1) = 0
   rotate_left
   ·
    rw [if_neg c5] at H
    have c5b0 : ((rd l0 x8_1) == 0) = false := beq_eq_false_iff_ne.mpr c5
    have c5b1 : ((rd l0 x8_1) != 0) = true := bne_iff_ne.mpr c5
    obtain rfl := Option.some.inj H
    have p124 : 0 ≤ (x8_1 : Int) := of_decide_eq_true (by first | (with_reducible assumption) | assumption)
    have q124 : x8_1 < (l0.length : Int) := of_decide_eq_true (by first | (with_reducible assumption) | assumption)
    obtain ⟨ad124, e124, hx124_0⟩ := Kd.at_int HR0.out x8_1 p124 q124
    cases e124
    replace p124 := eq_true p124
    replace q124 := eq_true q124
    go_wp2
    go_ret
    exact ⟨by first | rfl | (simp; done) | (simp [*]; done), by repeat (first | exact Drawn0.refl _ | apply Drawn0.step)⟩
   rw [if_pos c5] at H
   have c5b0 : ((rd l0 x8_1) == 0) = true := beq_iff_eq.mpr c5
   have c5b1 : ((rd l0 x8_1) != 0) = false := bne_eq_false_iff_eq.mpr c5
   clear c5
   have H' := Aside0.mk H
   clear H
   have p124 : 0 ≤ (x8_1 : Int) := of_decide_eq_true (by first | (with_reducible assumption) | assumption)
   have q124 : x8_1 < (l0.length : Int) := of_decide_eq_true (by first | (with_reducible assumption) | assumption)
   obtain ⟨ad124, e124, hx124_0⟩ := Kd.at_int HR0.out x8_1 p124 q124
   cases e124
   replace p124 := eq_true p124
   replace q124 := eq_true q124
   go_wp2
   go_roundg k1
   case measure => have := HK1.out; omega
   case rel => exact ⟨(wrap64 (x8_1 + 1)), (by first | rfl | (simp; done) | (simp [bne, *]; done)), H', ⟨by have := HK1.out; omega⟩, by repeat (first | exact Drawn0.refl _ | apply Drawn0.step)⟩
def cell_rank.f (a0 : Bool) : Option (Int) := if a0 = true then (some 1) else (some 0)
set_option maxHeartbeats 8000000 in
set_option maxRecDepth 100000 in
theorem cell_rank.calls (a0 : Bool) (r : Int) (w : World) (h : cell_rank.f a0 = some r) :
  Calls Try.prog 88 #[.bool a0] w fun e w' => e = .returned (.int .i64 r) ∧ Drawn0 w w' := by
 have H : (if a0 = true then (some 1) else (some 0)) = some r := h
 clear h
 by_cases c2 : a0 = true
 ·
  subst c2
  have H1 : (some 1) = some r := by rw [if_pos rfl] at H; exact H
  clear H
  have H := H1
  clear H1
  obtain rfl := Option.some.inj H
  go_enter Try.func88, Try.ntmps88
  go_wp2
  go_ret
  exact ⟨by first | rfl | (simp; done) | (simp [*]; done), by repeat (first | exact Drawn0.refl _ | apply Drawn0.step)⟩
 ·
  replace c2 := Bool.eq_false_iff.mpr c2
  subst c2
  have H1 : (some 0) = some r := by rw [if_neg (show ¬ (false = true) by decide)] at H; exact H
  clear H
  have H := H1
  clear H1
  obtain rfl := Option.some.inj H
  go_enter Try.func88, Try.ntmps88
  go_wp2
  go_ret
  exact ⟨by first | rfl | (simp; done) | (simp [*]; done), by repeat (first | exact Drawn0.refl _ | apply Drawn0.step)⟩
end Go.Proofs.Ytafhnjlihhfoaaa.Q
namespace Go.Proofs.Ytafhnjlihhfoaaa.Q
open Go.RowKit Go.Proofs.YtafhnjlihhfoaaaW.PrintWords Go.Proofs.YtafhnjlihhfoaaaW.PrintLast Go.Proofs.YtafhnjlihhfoaaaW.PrintMore
attribute [local go_sem] max2_int min2_int max_two min_two max_three min_three max_four min_four
set_option linter.unusedVariables false
set_option linter.unusedSimpArgs false
open Go.Proofs.Ytafhnjlihhfoaaa.Ord
instance instS29 : Inhabited S38 := ⟨z38⟩
def cmpK (x y : S32) : Int := lex (fun a b : S32 => cs a.f0 b.f0) (lex (fun a b => cs a.f1 b.f1) (lex (fun a b => ci a.f2 b.f2) (fun a b => cs a.f3 b.f3))) x y
theorem cmpK_cmp : Cmp3 cmpK := (cs_cmp.on (fun a : S32 => a.f0)).lex ((cs_cmp.on (fun a : S32 => a.f1)).lex ((ci_cmp.on (fun a : S32 => a.f2)).lex (cs_cmp.on (fun a : S32 => a.f3))))
theorem compare_int_ (a b : Int) : cmp_Compare_int.f a b = some (ci a b) := by
 unfold cmp_Compare_int.f cmp_isNaN_int.f ci
 simp only [Option.bind_some, bne_self_eq_false, Bool.false_eq_true, if_false]
 repeat' split
 all_goals first | rfl | omega
theorem compare_string_ (a b : ByteArray) : cmp_Compare_string.f a b = some (cs a b) := by
 unfold cmp_Compare_string.f cmp_isNaN_string.f cs cl
 simp only [Option.bind_some, bne_self_eq_false, Bool.false_eq_true, if_false]
 repeat' split
 all_goals rfl
theorem first_four (k : Nat) (hk : 6 ≤ k) (a b c d : Int) : key_first.f k [a, b, c, d] = some (if a = 0 then (if b = 0 then (if c = 0 then d else c) else b) else a) := by
 obtain ⟨k, rfl⟩ : ∃ m, k = m + 6 := ⟨k - 6, by omega⟩
 unfold key_first.f slices_IndexFunc_int_int.f
 by_cases h0 : a = 0 <;> by_cases h1 : b = 0 <;> by_cases h2 : c = 0 <;> by_cases h3 : d = 0 <;>
  simp [slices_IndexFunc_int_int.l0, key_first_1.f, rd, h0, h1, h2, h3, wrap64]
theorem key_Cmp_f (k : Nat) (hk : 6 ≤ k) (x y : S32) : key_Cmp.f k x.f0 x.f1 x.f2 x.f3 y.f0 y.f1 y.f2 y.f3 = some (cmpK x y) := by
 unfold key_Cmp.f
 simp only [compare_string_, compare_int_, Option.bind_some, first_four k hk]
 rfl
def cmpC (x y : S38) : Int := cmpK x.f0 y.f0
theorem norm1_f (k : Nat) (hk : 6 ≤ k) (x y : S38) : cell_Norm_1.f k x.f0.f0 x.f0.f1 x.f0.f2 x.f0.f3 x.f1.f0 x.f1.f1 x.f1.f2 x.f1.f3.f0 x.f1.f3.f1 x.f1.f3.f2 y.f0.f0 y.f0.f1 y.f0.f2 y.f0.f3 y.f1.f0 y.f1.f1 y.f1.f2 y.f1.f3.f0 y.f1.f3.f1 y.f1.f3.f2 = some (cmpC x y) := by
 unfold cell_Norm_1.f
 rw [key_Cmp_f k hk x.f0 y.f0]; rfl
def ltC (x y : S38) : Bool := ltOf cmpC x y
theorem ltC_ord : Srt.WOrd (ltOf cmpC) := ⟨fun x y h => by
  have h1 : cmpC x y < 0 := of_decide_eq_true h
  have := cmpK_cmp.anti x.f0 y.f0
  exact decide_eq_false (by unfold cmpC at *; omega), fun x y z h1 h2 => by
  have h3 : ¬ cmpC y x < 0 := of_decide_eq_false h1
  have h4 : ¬ cmpC z y < 0 := of_decide_eq_false h2
  have a1 := cmpK_cmp.anti y.f0 x.f0
  have a2 := cmpK_cmp.anti z.f0 y.f0
  have a3 := cmpK_cmp.anti z.f0 x.f0
  have := cmpK_cmp.trans x.f0 y.f0 z.f0
  exact decide_eq_false (by unfold cmpC at *; omega)⟩
def encC (x : S38) : List Value := [.string x.f0.f0, .string x.f0.f1, .int .i64 x.f0.f2, .string x.f0.f3, .int .i64 x.f1.f0, .bool x.f1.f1, .int .i64 x.f1.f2, .int .i64 x.f1.f3.f0, .int .i64 x.f1.f3.f1, .string x.f1.f3.f2]
theorem sortL : Srt.L Try.prog 10 := {
 mixed := by kernel_rfl
 t0 := Try.underlying0
 a0 := Try.isAgg0
 z0 := Try.sizeOf0
 v0 := Try.zeroValue0
 t3 := Try.underlying3
 a3 := Try.isAgg3
 z3 := Try.sizeOf3
 v3 := Try.zeroValue3
 t4 := Try.underlying4
 a4 := Try.isAgg4
 z4 := Try.sizeOf4
 v4 := Try.zeroValue4
 t45 := Try.underlying46
 a45 := Try.isAgg46
 z45 := Try.sizeOf46
 v45 := Try.zeroValue46
 t22 := Try.underlying29
 a22 := Try.isAgg29
 z22 := Try.sizeOf29
 v22 := Try.zeroValue29
 t25 := Try.underlying63
 a25 := Try.isAgg63
 z25 := Try.sizeOf63
 v25 := Try.zeroValue63
 aE := Try.isAgg38
 zE := Try.sizeOf38
 fI := Try.func81
 fW := Try.func96
 fR := Try.func93
 fM := Try.func82
 fS := Try.func64 }
def api_Cell_64.f (k : Nat) (l0 : List (S38)) (a1 : Int) : Option (List (S38)) := if a1 = (l0.length : Int) ∧ l0.length < 1152921504606846976 then some (Srt.isort ltC l0) else none
theorem isort_len {α : Type} (lt : α → α → Bool) (H : Srt.WOrd lt) (l : List α) : (Srt.isort lt l).length = l.length := (Srt.isort_stab H l).length
theorem api_Cell_64.calls (k : Nat) (P0_ : Nat → Prop) (u9000_ : Value) (l0 : List (S38)) (a1 : Int) (r : List (S38)) (w0 w : World) (hB : Below w0.heap.size w0 w) (ho0 : Kd.R k38 38 w w0.heap.size P0_ u9000_ l0) (h : api_Cell_64.f k l0 a1 = some r) :
  Calls Try.prog 64 #[u9000_, .int .i64 a1, .func (.func 43) #[] #[]] w fun e w' => e = .returned (.tuple #[]) ∧ Kd.R k38 38 w' w0.heap.size (fun k_ => (P0_ k_ ∨ w.heap.size ≤ k_)) u9000_ r ∧ Below w0.heap.size w0 w' ∧ Kept w w' (fun k_ => P0_ k_) := by
 unfold api_Cell_64.f at h
 split at h
 ·
  rename_i hc
  obtain rfl := Option.some.inj h
  obtain ⟨rfl, hN⟩ := hc
  obtain ⟨A, c, rfl⟩ := Kd.R_slice ho0
  cases l0 with
  | nil =>
   refine (Srt.stb0 sortL A c _ _).mono ?_
   rintro e w' ⟨rfl, rfl⟩
   exact ⟨rfl, Kd.R_mono ho0 (fun k hk => .inl hk), hB, Kept.refl _ _⟩
  | cons x l =>
   obtain ⟨inner, ho⟩ := Kd.R_own ho0
   rcases ho.2 with ⟨h1, _⟩ | ⟨g, cap, cur, h1, _⟩
   ·
    cases h1
   ·
    injection h1 with a1 a2 a3
    subst a1 a3
    have hk : ∀ x, (encC x).length = k38.sz := fun _ => rfl
    have hM : ∀ w base ok x cs, k38.M w base ok x cs → cs = encC x := fun w base ok x cs hx => k38_openM hx
    obtain ⟨hH, hlt, hge, hok⟩ := Srt.R_holds hk hM ho0
    have R : RowK encC 10 w g 0 (x :: l).toArray := ⟨fun _ => rfl, fun x v hv => by simp [encC] at hv; rcases hv with rfl | rfl | rfl | rfl | rfl | rfl | rfl | rfl | rfl | rfl <;> rfl, hH, hlt⟩
    have hN' : (x :: l).toArray.size < 1152921504606846976 := by simpa using hN
    have hC : Srt.CmpB Try.prog 43 #[] encC 10 cmpC w g 0 (x :: l).toArray.size := fun W dk hs hS x y => cell_Norm_1.calls 6 x.f0.f0 x.f0.f1 x.f0.f2 x.f0.f3 x.f1.f0 x.f1.f1 x.f1.f2 x.f1.f3.f0 x.f1.f3.f1 x.f1.f3.f2 y.f0.f0 y.f0.f1 y.f0.f2 y.f0.f3 y.f1.f0 y.f1.f1 y.f1.f2 y.f1.f3.f0 y.f1.f3.f1 y.f1.f3.f2 (cmpC x y) W (norm1_f 6 (Nat.le_refl _) x y)
    have hz : (x :: l).length = (x :: l).toArray.size := by simp
    have hS := Srt.stb (w0 := w) (w := w) (cap := c) (cb := #[]) sortL R hN' (enters_of Try.func43 (by kernel_rfl) rfl) hC ltC_ord (x :: l) hz (Srt.SWB.start hH) _ rfl
    rw [← hz] at hS
    refine hS.mono ?_
    rintro e w' ⟨rfl, r, hr, hW⟩
    rw [List.nil_append, List.append_nil] at hW
    have er : r = Srt.isort ltC (x :: l) := hr.isort ltC_ord
    subst er
    refine ⟨rfl, Kd.R_mono (Srt.R_rewritten hk hM (fun w base ok x => k38_mkM w base ok x) ho0 hW hr.length) (fun k hk => .inl hk), ⟨hW.os.trans hB.os, hW.tape.trans hB.tape, hW.output.trans hB.output, Nat.le_trans hB.size hW.size, fun i hi => (hW.other i (Nat.lt_of_lt_of_le hi hB.size) (by omega)).trans (hB.block i hi)⟩, hW.size, fun i hi hn => hW.other i hi (fun e => hn (e ▸ hok))⟩
 ·
  cases h
end Go.Proofs.Ytafhnjlihhfoaaa.Q
namespace Go.Proofs.Ytafhnjlihhfoaaa.Q
open Go.RowKit Go.Proofs.YtafhnjlihhfoaaaW.PrintWords Go.Proofs.YtafhnjlihhfoaaaW.PrintLast Go.Proofs.YtafhnjlihhfoaaaW.PrintMore
attribute [local go_sem] max2_int min2_int max_two min_two max_three min_three max_four min_four
set_option linter.unusedVariables false
set_option linter.unusedSimpArgs false
def api_Cell_42.f (k : Nat) (l0 : List (S38))  : Option ((List (S38))) := (api_Cell_64.f k l0 (l0.length : Int)).bind fun t189 => (some t189)
set_option maxHeartbeats 8000000 in
set_option maxRecDepth 100000 in
theorem api_Cell_42.calls (k : Nat) (P0_ : Nat → Prop) (u9000_ : Value) (l0 : List (S38))  (r : List (S38)) (w0 w : World) (hB : Below w0.heap.size w0 w) (ho0 : Kd.R k38 38 w w0.heap.size P0_ u9000_ l0) (h : api_Cell_42.f k l0 = some r) :
  Calls Try.prog 42 #[u9000_, .func (.func 43) #[] #[]] w fun e w' => e = .returned (.tuple #[]) ∧ Kd.R k38 38 w' w0.heap.size (fun k_ => (P0_ k_ ∨ w.heap.size ≤ k_)) u9000_ r ∧ Below w0.heap.size w0 w' ∧ Kept w w' (fun k_ => P0_ k_) := by
 have HO0 := Aside0.mk (show Kd.R k38 38 w w0.heap.size (fun k_ => (P0_ k_ ∨ w.heap.size ≤ k_)) u9000_ l0 from Kd.R_mono ho0 (fun k_ hk => (.inl hk)))
 have HK := Aside0.mk (Kept.refl w (fun k_ => P0_ k_))
 have HW0 := Aside0.mk hB.size
 have HB := Aside0.mk hB
 clear hB
 have H : ((api_Cell_64.f k l0 (l0.length : Int)).bind fun t189 => (some t189)) = some r := h
 clear h
 replace H := Option.bind_eq_some_iff.mp H
 obtain ⟨t189, A30, H⟩ := H
 have A3 := Aside0.mk A30
 clear A30
 obtain rfl := Option.some.inj H
 obtain ⟨Ao4, co4, eo4⟩ := Kd.R_slice HO0.out
 subst eo4
 go_enter Try.func42, Try.ntmps42
 go_wp2_with (first | ((with_reducible refine gate_callee (f := 64) rfl ?_); refine goesL_ (some 8) rfl rfl Try.func64 (by kernel_rfl) rfl #[.slice Ao4 l0.length co4, .int .i64 (l0.length : Int), .func (.func 43) #[] #[]] rfl (by (try simp only [mT_, mC_, mN_]); first | done | rfl) ?_; (with_reducible refine (api_Cell_64.calls k (fun k_ => some k_ = (.slice Ao4 l0.length co4 : Value).ownBlock) (.slice Ao4 l0.length co4) l0 (l0.length : Int)  t189 w0 _ ?side1 ?side2 A3.out).mono ?_); (case side1 => repeat (first | (with_reducible first | exact HB.out | apply bA_ | apply bN_ | apply bD_) | exact HB.out)); (case side2 => exact Kd.R_tight rfl HO0.out); rintro e w5 ⟨rfl, hy0, hb, hkp⟩; refine ⟨_, rfl, ?_⟩; replace HK := Aside0.mk (Kept.then_ (S := (fun k_ => P0_ k_)) (by repeat (first | (with_reducible first | exact HK.out | apply Kept.alloc | apply Kept.drewN | apply Kept.drew) | exact HK.out)) hkp (fun k_ hs_ => (fun e_ => (HO0.out.1 k_ e_.symm)) hs_)); replace HO0 := Aside0.mk (Kd.R_reok rfl hy0 (fun k_ e_ => HO0.out.1 k_ e_)); replace HB := Aside0.mk (hb); (try clear hb); (try clear hkp); (try clear hy0)))
 first | go_end0 | ((try simp only [Exit.inBlock, Exit.then]); refine bodyPost_ret (results_none rfl _ _ _) rfl ?_)
 exact ⟨by first | rfl | (simp <;> rfl) | (simp [*] <;> rfl), krW HO0, kwW HB, by repeat (first | (with_reducible first | exact HK.out | apply Kept.alloc | apply Kept.drewN | apply Kept.drew) | exact HK.out)⟩
end Go.Proofs.Ytafhnjlihhfoaaa.Q
