/- Lemmas for this claim's walk: no condition of their own. -/
import Derived.Test.YtdagddhccdchoaaDoorWbSq
import Derived.Test.YtdagddhccdchoaaDoorWbQx0
import Derived.Test.YtdagddhccdchoaaDoorWbQx1
import Derived.Test.YtdagddhccdchoaaDoorWbQx4
import Derived.Test.YtdagddhccdchoaaDoorWbQx6
import Derived.Test.YtdagddhccdchoaaDoorWbQx7
import Derived.Test.YtdagddhccdchoaaDoorWbQx8
import Derived.Test.YtdagddhccdchoaaDoorWbQx9
import Derived.Test.YtdagddhccdchoaaDoorWbQx13
import Derived.Test.YtdagddhccdchoaaDoorWbQx14
import Derived.Test.YtdagddhccdchoaaDoorWbQx15
namespace Go.Proofs.YtdagddhccdchoaaDoor.Q
open Go.RowKit Go.Proofs.YtdagddhccdchoaaDoorW.PrintWords Go.Proofs.YtdagddhccdchoaaDoorW.PrintLast Go.Proofs.YtdagddhccdchoaaDoorW.PrintMore
attribute [local go_sem] max2_int min2_int max_two min_two max_three min_three max_four min_four
set_option linter.unusedVariables false
set_option linter.unusedSimpArgs false
attribute [local go_sem high] eqA29
def skerrylaw17_SchemaTables.j0 : Nat → ByteArray → List ByteArray → Bool → ByteArray → ByteArray → ByteArray → List (S29) → Option (Bool)
 | 0, _, _, _, _, _, _, _ => none
 | k + 1, x1, x2, x23, x175000, x175001, x175002, x175003 => if x23 = true then ((skerrylaw17_lives.f k).bind fun t175 => (some t175)) else ((schema_Column.f k x175000 x175001 x175002 x175003 x1).bind fun bt176 => ((skerryref17_Column.f k x175000 x175001 x175002 x175003 x1).bind fun bt180 => ((schema_Order.f k x175000 x175001 x175002 x175003 x2).bind fun bt184 => ((skerryref17_Order.f x175000 x175001 x175002 x175003 x2).bind fun bt188 => ((schema_Table.f x175000 x175001 x175002 x175003).bind fun t192 => ((skerryref17_Table.f k x175000 x175001 x175002 x175003).bind fun t193 => (if t192 = t193 then (if (bt176.1.toList == bt180.1.toList && (bt176.2.1 == bt180.2.1)) = true then (if (bt176.2.2 == bt180.2.2) = true then ((skerryref01_Texts.f k bt184.1 bt188.1).bind fun t194 => (if t194 = true then (if (bt184.2 == bt188.2) = true then ((skerrylaw17_lives.f k).bind fun t195 => (some t195)) else (none)) else (none))) else (none)) else (none)) else (none))))))))
def skerrylaw17_SchemaTables.f (k : Nat) (a0_0 : ByteArray) (a0_1 : ByteArray) (a0_2 : ByteArray) (l0_3 : List (S29)) (a1 : ByteArray) (l2 : List ByteArray) : Option (Bool) := if (l0_3.length : Int) > 200 then (skerrylaw17_SchemaTables.j0 k a1 l2 true a0_0 a0_1 a0_2 l0_3) else (skerrylaw17_SchemaTables.j0 k a1 l2 (decide ((l2.length : Int) > 200)) a0_0 a0_1 a0_2 l0_3)
def skerrylaw17_SchemaTables.T7 : Bool × List (List Nat × List Nat) := (true, [([], []), ([0], [0]), ([], []), ([2, 1], [2]), ([1, 3], [1, 3]), ([4, 3], [4]), ([5], [5]), ([5], [5]), ([6, 7, 5], [5, 6, 7]), ([5, 8], [5, 8]), ([9, 5], [9]), ([10], [10]), ([10], [10]), ([11, 12, 10], [10, 11, 12]), ([10, 13], [10, 13]), ([14, 10], [14]), ([15], [15]), ([15], [15]), ([16, 17, 15, 15], [15, 16, 17]), ([15, 18], [15, 18]), ([19, 18], [19]), ([20], [20]), ([20], [20]), ([21, 22, 20], [20, 21, 22]), ([20, 23], [20, 23]), ([24, 20], [24]), ([25, 25], [25]), ([25, 26], [25, 26]), ([27, 26, 0, 1, 2, 3, 4, 5, 6, 7, 8, 9, 10, 11, 12, 13, 14, 15, 16, 17, 18, 19, 20, 21, 22, 23, 24, 25, 26, 27], [27])])
def skerrylaw17_SchemaTables.B7 : List Nat := [0, 1, 0, 7, 15, 31, 63, 63, 255, 511, 1023, 2047, 2047, 8191, 16383, 32767, 65535, 65535, 262143, 524287, 1048575, 2097151, 2097151, 8388607, 16777215, 33554431, 67108863, 134217727, 268435455]
theorem skerrylaw17_SchemaTables.tab7 : rtab .any (opsOf Tryd.f4 7) = skerrylaw17_SchemaTables.T7 := by kernel_rfl
theorem skerrylaw17_SchemaTables.bits7 : waitsOk skerrylaw17_SchemaTables.T7.2 skerrylaw17_SchemaTables.B7 = true := by kernel_rfl
set_option maxHeartbeats 8000000 in
set_option maxRecDepth 100000 in
theorem skerrylaw17_SchemaTables.calls (k : Nat) (a0_0 : ByteArray) (a0_1 : ByteArray) (a0_2 : ByteArray) (A0_3 : Option Addr) (c0_3 : Nat) (l0_3 : List (S29)) (a1 : ByteArray) (A2 : Option Addr) (c2 : Nat) (l2 : List ByteArray) (r : Bool) (w : World) (hr0_3 : Kd.C k29 w A0_3 l0_3.length l0_3) (hc0_3 : l0_3.length ≤ c0_3) (hr2 : Kd.C Kd.string w A2 l2.length l2) (hc2 : l2.length ≤ c2) (h : skerrylaw17_SchemaTables.f k a0_0 a0_1 a0_2 l0_3 a1 l2 = some r) :
  Calls Tryd.prog 4 #[.agg #[.string a0_0, .string a0_1, .string a0_2, .slice A0_3 l0_3.length c0_3], .string a1, .slice A2 l2.length c2] w fun e w' => e = .returned (.bool r) ∧ Below w.heap.size w w' := by
 have hu26 := Tryd.underlying26
 have hu29 := Tryd.underlying29
 have HR0_3 := Aside0.mk hr0_3
 have HC0_3 := Aside0.mk hc0_3
 clear hr0_3 hc0_3
 have HR2 := Aside0.mk hr2
 have HC2 := Aside0.mk hc2
 clear hr2 hc2
 have HB := Aside0.mk (Below.refl w.heap.size w)
 have H : (if (l0_3.length : Int) > 200 then (skerrylaw17_SchemaTables.j0 k a1 l2 true a0_0 a0_1 a0_2 l0_3) else (skerrylaw17_SchemaTables.j0 k a1 l2 (decide ((l2.length : Int) > 200)) a0_0 a0_1 a0_2 l0_3)) = some r := h
 clear h
 have HC4 := Aside0.mk H
 clear H
 go_enter Tryd.func4, Tryd.ntmps4
 go_upto_region 1 with (first | ((with_reducible refine gate_dst (N := 3) rfl ?_); (try (refine gate_guard (by rfl) ?_; dsimp only)); refine box_event ?hg (N := 3) ?hd (cs := #[.string a0_0, .string a0_1, .string a0_2, .slice A0_3 l0_3.length c0_3]) (t := 26) ?hr ?_; (case hd => rfl); (case hg => rfl); (case hr => first | (go_simp; done) | (go_simp; rfl)); intro gb174 hg w5 hbox hb; have BK174 := Aside0.mk (hbox); have GW174 := Aside0.mk ((by rw [hg]; exact (bZ_ (kwW HB)) : w.heap.size ≤ gb174)); replace HB := Aside0.mk (below_step (kwW HB) hb); have GE174 := GW174; clear hb hbox hg))
 (try simp only [Act.put, List.setIfInBounds_toArray, List.set_cons_zero, List.set_cons_succ])
 go_cut [23] (fun v23 wc => ∃ (kq : Nat) (x23_3 : Bool), v23 = .bool x23_3 ∧ Aside0 (skerrylaw17_SchemaTables.j0 kq a1 l2 x23_3 a0_0 a0_1 a0_2 l0_3 = some r) ∧ Aside0 (kq ≤ k) ∧ Aside0 (wc.heap[gb174]? = some (.cells #[.string a0_0, .string a0_1, .string a0_2, (.slice A0_3 l0_3.length c0_3)] 26 (0, 0))) ∧ Aside0 (Below w.heap.size w wc))
 case first =>
  have H := HC4.out
  clear HC4
  by_cases c6 : (l0_3.length : Int) > 200
  ·
   rw [if_pos c6] at H
   have c6b0 : decide (200 < (l0_3.length : Int)) = true := decide_eq_true c6
   have c6b1 : decide (200 < l0_3.length) = true := decide_eq_true (by omega)
   clear c6
   (first | rw [c6b0] | (simp only [i64_w, i32_w]; rw [c6b0]) | skip)
   have H' := Aside0.mk H
   clear H
   obtain ⟨hcz7_0, hcz7_1, hcz7_2, hcz7_3, hfz7_0, hfz7_1, hfz7_2, hfz7_3⟩ := czf4 BK174
   go_wp2
   go_meet
   case rel => exact ⟨_, (true), (by first | rfl | (simp; done) | (simp [bne, *]; done)), H', ⟨by first | omega | exact Nat.le_refl _⟩, ⟨by (with_reducible repeat (first | refine blk_drewN ?_ _ | refine blk_drew ?_ | refine blk_alloc ?_ _)); exact BK174.out⟩, ⟨by repeat (first | (with_reducible first | exact HB.out | apply bA_ | apply bN_ | apply bD_ | refine bS_ ?_ GE174) | exact HB.out)⟩⟩
  ·
   rw [if_neg c6] at H
   have c6b0 : decide (200 < (l0_3.length : Int)) = false := decide_eq_false c6
   have c6b1 : decide (200 < l0_3.length) = false := decide_eq_false (by omega)
   clear c6
   (first | rw [c6b0] | (simp only [i64_w, i32_w]; rw [c6b0]) | skip)
   have H' := Aside0.mk H
   clear H
   obtain ⟨hcz8_0, hcz8_1, hcz8_2, hcz8_3, hfz8_0, hfz8_1, hfz8_2, hfz8_3⟩ := czf4 BK174
   go_wp2
   go_meet
   case rel => exact ⟨_, (decide ((l2.length : Int) > 200)), (by first | rfl | (simp; done) | (simp [bne, *]; done)), H', ⟨by first | omega | exact Nat.le_refl _⟩, ⟨by (with_reducible repeat (first | refine blk_drewN ?_ _ | refine blk_drew ?_ | refine blk_alloc ?_ _)); exact BK174.out⟩, ⟨by repeat (first | (with_reducible first | exact HB.out | apply bA_ | apply bN_ | apply bD_ | refine bS_ ?_ GE174) | exact HB.out)⟩⟩
 case rest =>
  clear HC4
  try clear c2
  try clear p2
  try clear c4
  try clear c6
  try clear c6b0
  try clear c6b1
  try clear hcz7_0
  try clear hcz7_1
  try clear hcz7_2
  try clear hcz7_3
  try clear hcz8_0
  try clear hcz8_1
  try clear hcz8_2
  try clear hcz8_3
  try clear hfz7_0
  try clear hfz7_1
  try clear hfz7_2
  try clear hfz7_3
  try clear hfz8_0
  try clear hfz8_1
  try clear hfz8_2
  try clear hfz8_3
  obtain ⟨kq, x23_3, rfl, HA, HJ3, BK174, HB⟩ := hcut
  cases kq with
  | zero => exact absurd HA.out (by simp [skerrylaw17_SchemaTables.j0])
  | succ kj3 =>
   have H := HA.out
   clear HA
   simp only [skerrylaw17_SchemaTables.j0] at H
   by_cases c9 : x23_3 = true
   ·
    subst c9
    have H1 : ((skerrylaw17_lives.f kj3).bind fun t175 => (some t175)) = some r := by rw [if_pos rfl] at H; exact H
    clear H
    have H := H1
    clear H1
    replace H := Option.bind_eq_some_iff.mp H
    obtain ⟨t175, A100, H⟩ := H
    have A10 := Aside0.mk A100
    clear A100
    obtain rfl := Option.some.inj H
    go_wp2_with (first | ((with_reducible refine gate_callee (f := 8) rfl ?_); refine goesL_ (some 24) rfl rfl Tryd.func8 (by kernel_rfl) rfl #[] rfl (by (try simp only [mT_, mC_, mN_]); first | done | rfl) ?_; (with_reducible refine (skerrylaw17_lives.calls kj3  t175 _ A10.out).mono ?_); rintro e w11 ⟨rfl, hb⟩; refine ⟨_, rfl, ?_⟩; replace BK174 := kB BK174 hb; replace HB := Aside0.mk (below_step (by repeat (first | (with_reducible first | exact HB.out | apply bA_ | apply bN_ | apply bD_ | refine bS_ ?_ GE174) | exact HB.out)) hb); (try clear hb); (try clear hb2); (try clear hk); (try clear hi)))
    go_ret
    exact ⟨by first | rfl | (simp <;> rfl) | (simp [*] <;> rfl), by repeat (first | (with_reducible first | exact HB.out | apply bA_ | apply bN_ | apply bD_ | refine bS_ ?_ GE174) | exact HB.out)⟩
   ·
    replace c9 := Bool.eq_false_iff.mpr c9
    subst c9
    have H1 : ((schema_Column.f kj3 a0_0 a0_1 a0_2 l0_3 a1).bind fun bt176 => ((skerryref17_Column.f kj3 a0_0 a0_1 a0_2 l0_3 a1).bind fun bt180 => ((schema_Order.f kj3 a0_0 a0_1 a0_2 l0_3 l2).bind fun bt184 => ((skerryref17_Order.f a0_0 a0_1 a0_2 l0_3 l2).bind fun bt188 => ((schema_Table.f a0_0 a0_1 a0_2 l0_3).bind fun t192 => ((skerryref17_Table.f kj3 a0_0 a0_1 a0_2 l0_3).bind fun t193 => (if t192 = t193 then (if (bt176.1.toList == bt180.1.toList && (bt176.2.1 == bt180.2.1)) = true then (if (bt176.2.2 == bt180.2.2) = true then ((skerryref01_Texts.f kj3 bt184.1 bt188.1).bind fun t194 => (if t194 = true then (if (bt184.2 == bt188.2) = true then ((skerrylaw17_lives.f kj3).bind fun t195 => (some t195)) else (none)) else (none))) else (none)) else (none)) else (none)))))))) = some r := by rw [if_neg (show ¬ (false = true) by decide)] at H; exact H
    clear H
    have H := H1
    clear H1
    replace H := Option.bind_eq_some_iff.mp H
    obtain ⟨⟨t176, t177, t178⟩, A120, H⟩ := H
    have A12 := Aside0.mk A120
    clear A120
    replace H := Option.bind_eq_some_iff.mp H
    obtain ⟨⟨t180, t181, t182⟩, A130, H⟩ := H
    have A13 := Aside0.mk A130
    clear A130
    replace H := Option.bind_eq_some_iff.mp H
    obtain ⟨⟨t184, t187⟩, A140, H⟩ := H
    have A14 := Aside0.mk A140
    clear A140
    replace H := Option.bind_eq_some_iff.mp H
    obtain ⟨⟨t188, t191⟩, A150, H⟩ := H
    have A15 := Aside0.mk A150
    clear A150
    replace H := Option.bind_eq_some_iff.mp H
    obtain ⟨t192, A160, H⟩ := H
    have A16 := Aside0.mk A160
    clear A160
    replace H := Option.bind_eq_some_iff.mp H
    obtain ⟨t193, A170, H⟩ := H
    have A17 := Aside0.mk A170
    clear A170
    by_cases c18 : t192 = t193
    rotate_left
    ·
     rw [if_neg c18] at H
     have c18b0 : (t192 == t193) = false := beq_eq_false_iff_ne.mpr c18
     have c18b1 : (t192 != t193) = true := bne_iff_ne.mpr c18
     exact absurd H (by simp)
    rw [if_pos c18] at H
    have c18b0 : (t192 == t193) = true := beq_iff_eq.mpr c18
    have c18b1 : (t192 != t193) = false := bne_eq_false_iff_eq.mpr c18
    clear c18
    by_cases c19 : (t176.toList == t180.toList && (t177 == t181)) = true
    rotate_left
    ·
     rw [if_neg c19] at H
     have c19b0 : (t176.toList == t180.toList && (t177 == t181)) = false := by simpa using c19
     (try (have c19b1 : decide (t176.toList = t180.toList && (t177 == t181)) = false := by simpa using c19))
     (try (have c19b2 : (t176.toList == t180.toList && (t177 == t181)) = false := by simpa using c19))
     (try (have c19b3 : ¬ (t176.toList = t180.toList && (t177 == t181)) := by simpa using c19))
     clear c19
     exact absurd H (by simp)
    rw [if_pos c19] at H
    have c19b0 : (t176.toList == t180.toList && (t177 == t181)) = true := c19
    (try (have c19b1 : decide (t176.toList = t180.toList && (t177 == t181)) = true := by simpa using c19))
    (try (have c19b2 : (t176.toList == t180.toList && (t177 == t181)) = true := by simpa using c19))
    clear c19
    by_cases c20 : (t178 == t182) = true
    rotate_left
    ·
     rw [if_neg c20] at H
     have c20b0 : (t178 == t182) = false := by simpa using c20
     (try (have c20b1 : decide (t178 = t182) = false := by simpa using c20))
     (try (have c20b2 : (t178 == t182) = false := by simpa using c20))
     (try (have c20b3 : ¬ (t178 = t182) := by simpa using c20))
     clear c20
     exact absurd H (by simp)
    rw [if_pos c20] at H
    have c20b0 : (t178 == t182) = true := c20
    (try (have c20b1 : decide (t178 = t182) = true := by simpa using c20))
    (try (have c20b2 : (t178 == t182) = true := by simpa using c20))
    clear c20
    replace H := Option.bind_eq_some_iff.mp H
    obtain ⟨t194, A210, H⟩ := H
    have A21 := Aside0.mk A210
    clear A210
    by_cases c22 : t194 = true
    rotate_left
    ·
     replace c22 := Bool.eq_false_iff.mpr c22
     subst c22
     have H1 : (none) = some r := by rw [if_neg (show ¬ (false = true) by decide)] at H; exact H
     clear H
     have H := H1
     clear H1
     exact absurd H (by simp)
    subst c22
    have H1 : (if (t187 == t191) = true then ((skerrylaw17_lives.f kj3).bind fun t195 => (some t195)) else (none)) = some r := by rw [if_pos rfl] at H; exact H
    clear H
    have H := H1
    clear H1
    by_cases c23 : (t187 == t191) = true
    rotate_left
    ·
     rw [if_neg c23] at H
     have c23b0 : (t187 == t191) = false := by simpa using c23
     (try (have c23b1 : decide (t187 = t191) = false := by simpa using c23))
     (try (have c23b2 : (t187 == t191) = false := by simpa using c23))
     (try (have c23b3 : ¬ (t187 = t191) := by simpa using c23))
     clear c23
     exact absurd H (by simp)
    rw [if_pos c23] at H
    have c23b0 : (t187 == t191) = true := c23
    (try (have c23b1 : decide (t187 = t191) = true := by simpa using c23))
    (try (have c23b2 : (t187 == t191) = true := by simpa using c23))
    clear c23
    replace H := Option.bind_eq_some_iff.mp H
    obtain ⟨t195, A240, H⟩ := H
    have A24 := Aside0.mk A240
    clear A240
    obtain rfl := Option.some.inj H
    obtain ⟨_, _, _, _, _, _, _, _⟩ := czf4 BK174
    try go_wp2_with (first | ((with_reducible refine gate_callee (f := 11) rfl ?_); refine goesL_ (some 28) rfl rfl Tryd.func11 (by kernel_rfl) rfl #[.agg #[.string a0_0, .string a0_1, .string a0_2, .slice A0_3 l0_3.length c0_3], .string a1] rfl (by (try simp only [mT_, mC_, mN_]); first | done | rfl) ?_; (with_reducible refine (schema_Column.calls kj3 a0_0 a0_1 a0_2 _ _ l0_3 a1 t176 t177 t178 _ ?side1 ?side2 A12.out).mono ?_); (case side1 => repeat (first | exact (Kd.C_below HR0_3.out HB.out) | (with_reducible refine Kd.C_alloc ?_ _) | (with_reducible refine Kd.C_drewN ?_ _) | (with_reducible refine Kd.C_drew ?_))); (case side2 => exact HC0_3.out); rintro e w26 ⟨rfl, hb⟩; refine ⟨_, rfl, ?_⟩; replace BK174 := kB BK174 hb; replace HB := Aside0.mk (below_step (by repeat (first | (with_reducible first | exact HB.out | apply bA_ | apply bN_ | apply bD_ | refine bS_ ?_ GE174) | exact HB.out)) hb); (try clear hb); (try clear hb2); (try clear hk); (try clear hi)) | ((with_reducible refine gate_dst (N := 7) rfl ?_); (try (refine gate_guard (by rfl) ?_; dsimp only)); refine box_event ?hg (N := 7) ?hd (cs := #[.string (⟨#[]⟩ : ByteArray), .int .i64 0]) (t := 29) ?hr ?_; (case hd => rfl); (case hg => rfl); (case hr => first | (go_simp; done) | (go_simp; rfl)); intro gb179 hg w27 hbox hb; have BK179 := Aside0.mk (hbox); have GW179 := Aside0.mk ((by rw [hg]; exact (bZ_ (by repeat (first | (with_reducible first | exact HB.out | apply bA_ | apply bN_ | apply bD_ | refine bS_ ?_ GE174) | exact HB.out))) : w.heap.size ≤ gb179)); replace HB := Aside0.mk (below_step (by repeat (first | (with_reducible first | exact HB.out | apply bA_ | apply bN_ | apply bD_ | refine bS_ ?_ GE174) | exact HB.out)) hb); have GE179 := GW179; have NB174_179 := Aside0.mk ((by rw [hg]; exact Nat.ne_of_lt (blk_lt (kbW BK174)) : gb174 ≠ gb179)); have NB179_174 := Aside0.mk ((by rw [hg]; exact Nat.ne_of_gt (blk_lt (kbW BK174)) : gb179 ≠ gb174)); replace BK174 := kB BK174 hb; clear hb hbox hg; have hnb28 := NB179_174.out; have hnc28 := NB174_179.out; obtain ⟨_, _, _, _⟩ := czf2 BK179; obtain ⟨_, _, _, _, _, _, _, _⟩ := czf4 BK174) | ((with_reducible refine gate_callee (f := 12) rfl ?_); refine goesL_ (some 34) rfl rfl Tryd.func12 (by kernel_rfl) rfl #[.agg #[.string a0_0, .string a0_1, .string a0_2, .slice A0_3 l0_3.length c0_3], .string a1] rfl (by (try simp only [mT_, mC_, mN_]); first | done | rfl) ?_; (with_reducible refine (skerryref17_Column.calls kj3 a0_0 a0_1 a0_2 _ _ l0_3 a1 t180 t181 t182 _ ?side1 ?side2 A13.out).mono ?_); (case side1 => exact Kd.C_below HR0_3.out (by repeat (first | (with_reducible first | exact HB.out | apply bA_ | apply bN_ | apply bD_ | refine bS_ ?_ GE174 | refine bS_ ?_ GE179) | exact HB.out))); (case side2 => exact HC0_3.out); rintro e w31 ⟨rfl, hb⟩; refine ⟨_, rfl, ?_⟩; replace BK174 := kBf BK174 (fun h_ => by (with_reducible repeat (first | refine blk_drewN ?_ _ | refine blk_drew ?_ | refine blk_alloc ?_ _)); refine blk_far ?_ NB174_179.out _; (with_reducible repeat (first | refine blk_drewN ?_ _ | refine blk_drew ?_ | refine blk_alloc ?_ _)); refine blk_far ?_ NB174_179.out _; (with_reducible repeat (first | refine blk_drewN ?_ _ | refine blk_drew ?_ | refine blk_alloc ?_ _)); exact h_) hb; replace BK179 := Aside0.mk (blk_below (g := gb179) (o := .cells #[.string t176, .int .i64 t177] 29 (0, 0)) (by (with_reducible repeat (first | refine blk_drewN ?_ _ | refine blk_drew ?_ | refine blk_alloc ?_ _)); refine blk_put (cs := #[.string t176, .int .i64 0]) ?_ 1 _ rfl; (with_reducible repeat (first | refine blk_drewN ?_ _ | refine blk_drew ?_ | refine blk_alloc ?_ _)); refine blk_put (cs := #[.string (⟨#[]⟩ : ByteArray), .int .i64 0]) ?_ 0 _ rfl; (with_reducible repeat (first | refine blk_drewN ?_ _ | refine blk_drew ?_ | refine blk_alloc ?_ _)); exact BK179.out) hb); replace HB := Aside0.mk (below_step (by repeat (first | (with_reducible first | exact HB.out | apply bA_ | apply bN_ | apply bD_ | refine bS_ ?_ GE174 | refine bS_ ?_ GE179) | exact HB.out)) hb); (try clear hb); (try clear hb2); (try clear hk); (try clear hi)) | ((with_reducible refine gate_dst (N := 9) rfl ?_); (try (refine gate_guard (by rfl) ?_; dsimp only)); refine box_event ?hg (N := 9) ?hd (cs := #[.string (⟨#[]⟩ : ByteArray), .int .i64 0]) (t := 29) ?hr ?_; (case hd => rfl); (case hg => rfl); (case hr => first | (go_simp; done) | (go_simp; rfl)); intro gb183 hg w32 hbox hb; have BK183 := Aside0.mk (hbox); have GW183 := Aside0.mk ((by rw [hg]; exact (bZ_ (by repeat (first | (with_reducible first | exact HB.out | apply bA_ | apply bN_ | apply bD_ | refine bS_ ?_ GE174 | refine bS_ ?_ GE179) | exact HB.out))) : w.heap.size ≤ gb183)); replace HB := Aside0.mk (below_step (by repeat (first | (with_reducible first | exact HB.out | apply bA_ | apply bN_ | apply bD_ | refine bS_ ?_ GE174 | refine bS_ ?_ GE179) | exact HB.out)) hb); have GE183 := GW183; have NB174_183 := Aside0.mk ((by rw [hg]; exact Nat.ne_of_lt (blk_lt (kbW BK174)) : gb174 ≠ gb183)); have NB183_174 := Aside0.mk ((by rw [hg]; exact Nat.ne_of_gt (blk_lt (kbW BK174)) : gb183 ≠ gb174)); replace BK174 := kB BK174 hb; have NB179_183 := Aside0.mk ((by rw [hg]; exact Nat.ne_of_lt (blk_lt (kbW BK179)) : gb179 ≠ gb183)); have NB183_179 := Aside0.mk ((by rw [hg]; exact Nat.ne_of_gt (blk_lt (kbW BK179)) : gb183 ≠ gb179)); replace BK179 := kB BK179 hb; clear hb hbox hg; have hnb33 := NB183_174.out; have hnc33 := NB174_183.out; have hnb34 := NB183_179.out; have hnc34 := NB179_183.out; obtain ⟨_, _, _, _⟩ := czf2 BK183; obtain ⟨_, _, _, _, _, _, _, _⟩ := czf4 BK174) | ((with_reducible refine gate_callee (f := 13) rfl ?_); refine goesL_ (some 40) rfl rfl Tryd.func13 (by kernel_rfl) rfl #[.agg #[.string a0_0, .string a0_1, .string a0_2, .slice A0_3 l0_3.length c0_3], .slice A2 l2.length c2] rfl (by (try simp only [mT_, mC_, mN_]); first | done | rfl) ?_; (with_reducible refine (schema_Order.calls kj3 a0_0 a0_1 a0_2 _ _ l0_3 _ _ l2 t184 t187 _ ?side1 ?side2 ?side3 ?side4 A14.out).mono ?_); (case side1 => exact Kd.C_below HR0_3.out (by repeat (first | (with_reducible first | exact HB.out | apply bA_ | apply bN_ | apply bD_ | refine bS_ ?_ GE174 | refine bS_ ?_ GE179 | refine bS_ ?_ GE183) | exact HB.out))); (case side2 => exact HC0_3.out); (case side3 => exact Kd.C_below HR2.out (by repeat (first | (with_reducible first | exact HB.out | apply bA_ | apply bN_ | apply bD_ | refine bS_ ?_ GE174 | refine bS_ ?_ GE179 | refine bS_ ?_ GE183) | exact HB.out))); (case side4 => exact HC2.out); rintro e w37 ⟨v185, rfl, ho0, hb⟩; refine ⟨_, rfl, ?_⟩; have HO186 := Aside0.mk (Kd.R_lower ho0 (bZ_ (by repeat (first | (with_reducible first | exact HB.out | apply bA_ | apply bN_ | apply bD_ | refine bS_ ?_ GE174 | refine bS_ ?_ GE179 | refine bS_ ?_ GE183) | exact HB.out)))); replace BK174 := kBf BK174 (fun h_ => by (with_reducible repeat (first | refine blk_drewN ?_ _ | refine blk_drew ?_ | refine blk_alloc ?_ _)); refine blk_far ?_ NB174_183.out _; (with_reducible repeat (first | refine blk_drewN ?_ _ | refine blk_drew ?_ | refine blk_alloc ?_ _)); refine blk_far ?_ NB174_183.out _; (with_reducible repeat (first | refine blk_drewN ?_ _ | refine blk_drew ?_ | refine blk_alloc ?_ _)); exact h_) hb; replace BK179 := kBf BK179 (fun h_ => by (with_reducible repeat (first | refine blk_drewN ?_ _ | refine blk_drew ?_ | refine blk_alloc ?_ _)); refine blk_far ?_ NB179_183.out _; (with_reducible repeat (first | refine blk_drewN ?_ _ | refine blk_drew ?_ | refine blk_alloc ?_ _)); refine blk_far ?_ NB179_183.out _; (with_reducible repeat (first | refine blk_drewN ?_ _ | refine blk_drew ?_ | refine blk_alloc ?_ _)); exact h_) hb; replace BK183 := Aside0.mk (blk_below (g := gb183) (o := .cells #[.string t180, .int .i64 t181] 29 (0, 0)) (by (with_reducible repeat (first | refine blk_drewN ?_ _ | refine blk_drew ?_ | refine blk_alloc ?_ _)); refine blk_put (cs := #[.string t180, .int .i64 0]) ?_ 1 _ rfl; (with_reducible repeat (first | refine blk_drewN ?_ _ | refine blk_drew ?_ | refine blk_alloc ?_ _)); refine blk_put (cs := #[.string (⟨#[]⟩ : ByteArray), .int .i64 0]) ?_ 0 _ rfl; (with_reducible repeat (first | refine blk_drewN ?_ _ | refine blk_drew ?_ | refine blk_alloc ?_ _)); exact BK183.out) hb); replace HB := Aside0.mk (below_step (by repeat (first | (with_reducible first | exact HB.out | apply bA_ | apply bN_ | apply bD_ | refine bS_ ?_ GE174 | refine bS_ ?_ GE179 | refine bS_ ?_ GE183) | exact HB.out)) hb); (try clear hb); (try clear hb2); (try clear hk); (try clear hi); (try clear ho0); obtain ⟨_, _, _, _, _, _, _, _⟩ := czf4 BK174) | ((with_reducible refine gate_callee (f := 14) rfl ?_); refine goesL_ (some 46) rfl rfl Tryd.func14 (by kernel_rfl) rfl #[.agg #[.string a0_0, .string a0_1, .string a0_2, .slice A0_3 l0_3.length c0_3], .slice A2 l2.length c2] rfl (by (try simp only [mT_, mC_, mN_]); first | done | rfl) ?_; (with_reducible refine (skerryref17_Order.calls a0_0 a0_1 a0_2 _ _ l0_3 _ _ l2 t188 t191 _ ?side1 ?side2 ?side3 ?side4 A15.out).mono ?_); (case side1 => repeat (first | exact (Kd.C_below HR0_3.out HB.out) | (with_reducible refine Kd.C_alloc ?_ _) | (with_reducible refine Kd.C_drewN ?_ _) | (with_reducible refine Kd.C_drew ?_))); (case side2 => exact HC0_3.out); (case side3 => repeat (first | exact (Kd.C_below HR2.out HB.out) | (with_reducible refine Kd.C_alloc ?_ _) | (with_reducible refine Kd.C_drewN ?_ _) | (with_reducible refine Kd.C_drew ?_))); (case side4 => exact HC2.out); rintro e w39 ⟨v189, rfl, ho0, hb⟩; refine ⟨_, rfl, ?_⟩; have HO190 := Aside0.mk (Kd.R_lower (Kd.R_new' ho0 (Kd.R_lt (krW HO186))) (bZ_ (by repeat (first | (with_reducible first | exact HB.out | apply bA_ | apply bN_ | apply bD_ | refine bS_ ?_ GE174 | refine bS_ ?_ GE179 | refine bS_ ?_ GE183) | exact HB.out)))); replace HO186 := Aside0.mk (Kd.R_elder' (krW HO186) (Kd.R_base ho0) hb); replace BK174 := kB BK174 hb; replace BK179 := kB BK179 hb; replace BK183 := kB BK183 hb; replace HB := Aside0.mk (below_step (by repeat (first | (with_reducible first | exact HB.out | apply bA_ | apply bN_ | apply bD_ | refine bS_ ?_ GE174 | refine bS_ ?_ GE179 | refine bS_ ?_ GE183) | exact HB.out)) hb); (try clear hb); (try clear hb2); (try clear hk); (try clear hi); (try clear ho0)))
    replace HO186 := Aside0.mk (Kd.R_drew HO186.out)
    replace HO190 := Aside0.mk (Kd.R_drew HO190.out)
    replace BK174 := Aside0.mk (blk_drew BK174.out)
    replace BK179 := Aside0.mk (blk_drew BK179.out)
    replace BK183 := Aside0.mk (blk_drew BK183.out)
    replace HB := Aside0.mk (below_drew1 HB.out)
    refine start_ (n := 29) (S := fun w' => w'.cell? ⟨gb174, 0, none⟩ = some (.string a0_0) ∧ w'.cell? ⟨gb174, 1, none⟩ = some (.string a0_1) ∧ w'.cell? ⟨gb174, 2, none⟩ = some (.string a0_2) ∧ w'.cell? ⟨gb174, 3, none⟩ = some (.slice A0_3 l0_3.length c0_3) ∧ w'.cell? ⟨gb179, 0, none⟩ = some (.string t176) ∧ w'.cell? ⟨gb179, 1, none⟩ = some (.int .i64 t177) ∧ w'.cell? ⟨gb183, 0, none⟩ = some (.string t180) ∧ w'.cell? ⟨gb183, 1, none⟩ = some (.int .i64 t181)) (ds := []) (tf_ 0 29) (by kernel_rfl) rfl rfl (cc4 BK174 (cc2 BK179 (cd2 BK183))) (fun hHeld => ?_); refine with_tabW skerrylaw17_SchemaTables.tab7 skerrylaw17_SchemaTables.bits7 (fun HT_ HW_ => ?_)
    generalize w39.drew = w40 at HO186 HO190 BK174 BK179 BK183 HB hHeld ⊢
    refine take_ (i := 0) (N := some 49) (v := ?_) (a' := ?_) (tf_ 1 28) rfl rfl (take_ofW HT_.out HW_.out (by kernel_rfl)) (fun _ _ _ h => h) (Or.inl ⟨by rfl, ?_⟩) hHeld ?_ ?_
    rotate_left; · (rintro w' ⟨s0, s1, s2, s3, s4, s5, s6, s7⟩; go_simp; with_reducible rfl)
    rotate_left; · (simp only [Act.put, sT_, sO_, sN_, i64_w, i32_w]; rfl)
    refine take_ (i := 2) (N := some 51) (v := ?_) (a' := ?_) (tb_ 5 29) rfl rfl (take_ofW HT_.out HW_.out (by kernel_rfl)) (fun _ _ _ h => h) (Or.inl ⟨by rfl, ?_⟩) hHeld ?_ ?_
    rotate_left; · (rintro w' ⟨s0, s1, s2, s3, s4, s5, s6, s7⟩; go_simp; with_reducible rfl)
    rotate_left; · (simp only [Act.put, sT_, sO_, sN_, i64_w, i32_w]; rfl)
    refine one_ (i := 1) (N := some 50) (tf_ 3 26) rfl rfl (one_of HT_.out (by kernel_rfl)) (by decide) (fun K hK => ?_)
    refine goes_ Tryd.func15 (by kernel_rfl) rfl #[.agg #[.string a0_0, .string a0_1, .string a0_2, .slice A0_3 l0_3.length c0_3]] (by rfl) rfl rfl (by (try simp only [mT_, mC_, mN_]); first | done | rfl) ?_
    with_reducible refine (schema_Table.calls a0_0 a0_1 a0_2 _ _ l0_3 t192 _ ?side1 ?side2 A16.out).mono ?_
    (case side1 => repeat (first | exact (Kd.C_below HR0_3.out HB.out) | (with_reducible refine Kd.C_alloc ?_ _) | (with_reducible refine Kd.C_drewN ?_ _) | (with_reducible refine Kd.C_drew ?_)))
    (case side2 => exact HC0_3.out)
    rintro e w41 ⟨rfl, hb⟩
    refine ⟨_, rfl, ?_⟩
    replace HO186 := kR HO186 hb
    replace HO190 := kR HO190 hb
    replace BK174 := kB BK174 hb
    replace BK179 := kB BK179 hb
    replace BK183 := kB BK183 hb
    replace HB := Aside0.mk (below_step (by repeat (first | (with_reducible first | exact HB.out | apply bA_ | apply bN_ | apply bD_ | refine bS_ ?_ GE174 | refine bS_ ?_ GE179 | refine bS_ ?_ GE183) | exact HB.out)) hb)
    (try clear hb)
    (try clear hb2)
    (try clear hk)
    (try clear hi)
    refine hK.out _ _ (cc4 BK174 (cc2 BK179 (cd2 BK183))) (fun hHeld => ?_)
    clear hK K
    refine norm_ (a' := ?_) ?_ ?_
    rotate_left
    ·
     show Act.put _ (some 50) _ = _
     simp only [Act.put, sT_, sO_, sN_, i64_w, i32_w]
     rfl
    refine one_ (i := 3) (N := some 52) (tf_ 4 25) rfl rfl (one_of HT_.out (by kernel_rfl)) (by decide) (fun K hK => ?_)
    refine goes_ Tryd.func16 (by kernel_rfl) rfl #[.agg #[.string a0_0, .string a0_1, .string a0_2, .slice A0_3 l0_3.length c0_3]] (by rfl) rfl rfl (by (try simp only [mT_, mC_, mN_]); first | done | rfl) ?_
    with_reducible refine (skerryref17_Table.calls kj3 a0_0 a0_1 a0_2 _ _ l0_3 t193 _ ?side1 ?side2 A17.out).mono ?_
    (case side1 => repeat (first | exact (Kd.C_below HR0_3.out HB.out) | (with_reducible refine Kd.C_alloc ?_ _) | (with_reducible refine Kd.C_drewN ?_ _) | (with_reducible refine Kd.C_drew ?_)))
    (case side2 => exact HC0_3.out)
    rintro e w42 ⟨rfl, hb⟩
    refine ⟨_, rfl, ?_⟩
    replace HO186 := kR HO186 hb
    replace HO190 := kR HO190 hb
    replace BK174 := kB BK174 hb
    replace BK179 := kB BK179 hb
    replace BK183 := kB BK183 hb
    replace HB := Aside0.mk (below_step (by repeat (first | (with_reducible first | exact HB.out | apply bA_ | apply bN_ | apply bD_ | refine bS_ ?_ GE174 | refine bS_ ?_ GE179 | refine bS_ ?_ GE183) | exact HB.out)) hb)
    (try clear hb)
    (try clear hb2)
    (try clear hk)
    (try clear hi)
    obtain ⟨Ao43, co43, eo43⟩ := Kd.R_slice HO186.out
    (first | subst eo43 | (injection eo43 with f1_ f2_ f3_; have f4_ := f1_.symm; have f5_ := f3_.symm; clear f1_ f2_ f3_; subst f4_; subst f5_))
    obtain ⟨Ao44, co44, eo44⟩ := Kd.R_slice HO190.out
    (first | subst eo44 | (injection eo44 with f1_ f2_ f3_; have f4_ := f1_.symm; have f5_ := f3_.symm; clear f1_ f2_ f3_; subst f4_; subst f5_))
    refine hK.out _ _ (cc4 BK174 (cc2 BK179 (cd2 BK183))) (fun hHeld => ?_)
    clear hK K
    refine norm_ (a' := ?_) ?_ ?_
    rotate_left
    ·
     show Act.put _ (some 52) _ = _
     simp only [Act.put, sT_, sO_, sN_, i64_w, i32_w]
     rfl
    refine pure_ (i := 4) (N := some 53) (v := ?_) (a' := ?_) (tf_ 5 24) rfl rfl (any_of HT_.out (by kernel_rfl)) (fun _ _ _ h => h) (Or.inl ⟨by rfl, ?_⟩) ?_ ?_
    rotate_left; · (intro w'; go_simp; with_reducible rfl)
    rotate_left; · (simp only [Act.put, sT_, sO_, sN_, i64_w, i32_w]; rfl)
    refine pure_ (i := 5) (N := some 54) (v := ?_) (a' := ?_) (tf_ 6 23) rfl rfl (any_of HT_.out (by kernel_rfl)) (fun _ _ _ h => h) (Or.inl ⟨by rfl, ?_⟩) ?_ ?_
    rotate_left; · (intro w'; go_simp; with_reducible rfl)
    rotate_left; · (simp only [Act.put, sT_, sO_, sN_, i64_w, i32_w]; rfl)
    refine take_ (i := 6) (N := some 55) (v := ?_) (a' := ?_) (tf_ 7 22) rfl rfl (take_ofW HT_.out HW_.out (by kernel_rfl)) (fun _ _ _ h => h) (Or.inl ⟨by rfl, ?_⟩) hHeld ?_ ?_
    rotate_left; · (rintro w' ⟨s0, s1, s2, s3, s4, s5, s6, s7⟩; go_simp; with_reducible rfl)
    rotate_left; · (simp only [Act.put, sT_, sO_, sN_, i64_w, i32_w]; rfl)
    refine take_ (i := 7) (N := some 56) (v := ?_) (a' := ?_) (tf_ 8 21) rfl rfl (take_ofW HT_.out HW_.out (by kernel_rfl)) (fun _ _ _ h => h) (Or.inl ⟨by rfl, ?_⟩) hHeld ?_ ?_
    rotate_left; · (rintro w' ⟨s0, s1, s2, s3, s4, s5, s6, s7⟩; go_simp; with_reducible rfl)
    rotate_left; · (simp only [Act.put, sT_, sO_, sN_, i64_w, i32_w]; rfl)
    refine pure_ (i := 8) (N := some 57) (v := ?_) (a' := ?_) (tf_ 9 20) rfl rfl (any_of HT_.out (by kernel_rfl)) (fun _ _ _ h => h) (Or.inl ⟨by rfl, ?_⟩) ?_ ?_
    rotate_left; · (intro w'; go_simp; with_reducible rfl)
    rotate_left; · (simp only [Act.put, sT_, sO_, sN_, i64_w, i32_w]; rfl)
    refine pure_ (i := 9) (N := some 58) (v := ?_) (a' := ?_) (tf_ 10 19) rfl rfl (any_of HT_.out (by kernel_rfl)) (fun _ _ _ h => h) (Or.inl ⟨by rfl, ?_⟩) ?_ ?_
    rotate_left; · (intro w'; go_simp; with_reducible rfl)
    rotate_left; · (simp only [Act.put, sT_, sO_, sN_, i64_w, i32_w]; rfl)
    refine pure_ (i := 10) (N := some 59) (v := ?_) (a' := ?_) (tf_ 11 18) rfl rfl (any_of HT_.out (by kernel_rfl)) (fun _ _ _ h => h) (Or.inl ⟨by rfl, ?_⟩) ?_ ?_
    rotate_left; · (intro w'; go_simp; with_reducible rfl)
    rotate_left; · (simp only [Act.put, sT_, sO_, sN_, i64_w, i32_w]; rfl)
    refine pure_ (i := 11) (N := some 60) (v := ?_) (a' := ?_) (tf_ 12 17) rfl rfl (any_of HT_.out (by kernel_rfl)) (fun _ _ _ h => h) (Or.inl ⟨by rfl, ?_⟩) ?_ ?_
    rotate_left; · (intro w'; go_simp; with_reducible rfl)
    rotate_left; · (simp only [Act.put, sT_, sO_, sN_, i64_w, i32_w]; rfl)
    refine pure_ (i := 12) (N := some 61) (v := ?_) (a' := ?_) (tf_ 13 16) rfl rfl (any_of HT_.out (by kernel_rfl)) (fun _ _ _ h => h) (Or.inl ⟨by rfl, ?_⟩) ?_ ?_
    rotate_left; · (intro w'; go_simp; with_reducible rfl)
    rotate_left; · (simp only [Act.put, sT_, sO_, sN_, i64_w, i32_w]; rfl)
    refine pure_ (i := 13) (N := some 62) (v := ?_) (a' := ?_) (tf_ 14 15) rfl rfl (any_of HT_.out (by kernel_rfl)) (fun _ _ _ h => h) (Or.inl ⟨by rfl, ?_⟩) ?_ ?_
    rotate_left; · (intro w'; go_simp; with_reducible rfl)
    rotate_left; · (simp only [Act.put, sT_, sO_, sN_, i64_w, i32_w]; rfl)
    refine pure_ (i := 14) (N := some 63) (v := ?_) (a' := ?_) (tf_ 15 14) rfl rfl (any_of HT_.out (by kernel_rfl)) (fun _ _ _ h => h) (Or.inl ⟨by rfl, ?_⟩) ?_ ?_
    rotate_left; · (intro w'; go_simp; with_reducible rfl)
    rotate_left; · (simp only [Act.put, sT_, sO_, sN_, i64_w, i32_w]; rfl)
    refine pure_ (i := 15) (N := some 64) (v := ?_) (a' := ?_) (tf_ 16 13) rfl rfl (any_of HT_.out (by kernel_rfl)) (fun _ _ _ h => h) (Or.inl ⟨by rfl, ?_⟩) ?_ ?_
    rotate_left; · (intro w'; go_simp; with_reducible rfl)
    rotate_left; · (simp only [Act.put, sT_, sO_, sN_, i64_w, i32_w]; rfl)
    refine pure_ (i := 16) (N := some 65) (v := ?_) (a' := ?_) (tf_ 17 12) rfl rfl (any_of HT_.out (by kernel_rfl)) (fun _ _ _ h => h) (Or.inl ⟨by rfl, ?_⟩) ?_ ?_
    rotate_left; · (intro w'; go_simp; with_reducible rfl)
    rotate_left; · (simp only [Act.put, sT_, sO_, sN_, i64_w, i32_w]; rfl)
    refine pure_ (i := 17) (N := some 66) (v := ?_) (a' := ?_) (tf_ 18 11) rfl rfl (any_of HT_.out (by kernel_rfl)) (fun _ _ _ h => h) (Or.inl ⟨by rfl, ?_⟩) ?_ ?_
    rotate_left; · (intro w'; go_simp; with_reducible rfl)
    rotate_left; · (simp only [Act.put, sT_, sO_, sN_, i64_w, i32_w]; rfl)
    refine one_ (i := 18) (N := some 67) (tf_ 19 10) rfl rfl (one_of HT_.out (by kernel_rfl)) (by decide) (fun K hK => ?_)
    refine goes_ Tryd.func17 (by kernel_rfl) rfl #[.slice Ao43 t184.length co43, .slice Ao44 t188.length co44] (by rfl) rfl rfl (by (try simp only [mT_, mC_, mN_]); first | done | rfl) ?_
    with_reducible refine (skerryref01_Texts.calls kj3 _ _ t184 _ _ t188 true _ ?side1 ?side2 ?side3 ?side4 A21.out).mono ?_
    (case side1 => repeat (first | exact (Kd.R_reads' HO186.out).2.2 | (with_reducible refine Kd.C_alloc ?_ _) | (with_reducible refine Kd.C_drewN ?_ _) | (with_reducible refine Kd.C_drew ?_)))
    (case side2 => exact (Kd.R_reads' HO186.out).2.1)
    (case side3 => repeat (first | exact (Kd.R_reads' HO190.out).2.2 | (with_reducible refine Kd.C_alloc ?_ _) | (with_reducible refine Kd.C_drewN ?_ _) | (with_reducible refine Kd.C_drew ?_)))
    (case side4 => exact (Kd.R_reads' HO190.out).2.1)
    rintro e w' ⟨rfl, ⟨nd, rfl⟩⟩
    refine ⟨_, rfl, ?_⟩
    refine hK.out _ _ (cc4 BK174 (cc2 BK179 (cd2 BK183))) (fun hHeld => ?_)
    clear hK K
    refine norm_ (a' := ?_) ?_ ?_
    rotate_left
    ·
     show Act.put _ (some 67) _ = _
     simp only [Act.put, sT_, sO_, sN_, i64_w, i32_w]
     rfl
    refine pure_ (i := 19) (N := some 68) (v := ?_) (a' := ?_) (tf_ 20 9) rfl rfl (any_of HT_.out (by kernel_rfl)) (fun _ _ _ h => h) (Or.inl ⟨by rfl, ?_⟩) ?_ ?_
    rotate_left; · (intro w'; go_simp; with_reducible rfl)
    rotate_left; · (simp only [Act.put, sT_, sO_, sN_, i64_w, i32_w]; rfl)
    refine pure_ (i := 20) (N := some 69) (v := ?_) (a' := ?_) (tf_ 21 8) rfl rfl (any_of HT_.out (by kernel_rfl)) (fun _ _ _ h => h) (Or.inl ⟨by rfl, ?_⟩) ?_ ?_
    rotate_left; · (intro w'; go_simp; with_reducible rfl)
    rotate_left; · (simp only [Act.put, sT_, sO_, sN_, i64_w, i32_w]; rfl)
    refine pure_ (i := 21) (N := some 70) (v := ?_) (a' := ?_) (tf_ 22 7) rfl rfl (any_of HT_.out (by kernel_rfl)) (fun _ _ _ h => h) (Or.inl ⟨by rfl, ?_⟩) ?_ ?_
    rotate_left; · (intro w'; go_simp; with_reducible rfl)
    rotate_left; · (simp only [Act.put, sT_, sO_, sN_, i64_w, i32_w]; rfl)
    refine pure_ (i := 22) (N := some 71) (v := ?_) (a' := ?_) (tf_ 23 6) rfl rfl (any_of HT_.out (by kernel_rfl)) (fun _ _ _ h => h) (Or.inl ⟨by rfl, ?_⟩) ?_ ?_
    rotate_left; · (intro w'; go_simp; with_reducible rfl)
    rotate_left; · (simp only [Act.put, sT_, sO_, sN_, i64_w, i32_w]; rfl)
    refine pure_ (i := 23) (N := some 72) (v := ?_) (a' := ?_) (tf_ 24 5) rfl rfl (any_of HT_.out (by kernel_rfl)) (fun _ _ _ h => h) (Or.inl ⟨by rfl, ?_⟩) ?_ ?_
    rotate_left; · (intro w'; go_simp; with_reducible rfl)
    rotate_left; · (simp only [Act.put, sT_, sO_, sN_, i64_w, i32_w]; rfl)
    refine pure_ (i := 24) (N := some 73) (v := ?_) (a' := ?_) (tf_ 25 4) rfl rfl (any_of HT_.out (by kernel_rfl)) (fun _ _ _ h => h) (Or.inl ⟨by rfl, ?_⟩) ?_ ?_
    rotate_left; · (intro w'; go_simp; with_reducible rfl)
    rotate_left; · (simp only [Act.put, sT_, sO_, sN_, i64_w, i32_w]; rfl)
    refine pure_ (i := 25) (N := some 74) (v := ?_) (a' := ?_) (tf_ 26 3) rfl rfl (any_of HT_.out (by kernel_rfl)) (fun _ _ _ h => h) (Or.inl ⟨by rfl, ?_⟩) ?_ ?_
    rotate_left; · (intro w'; go_simp; with_reducible rfl)
    rotate_left; · (simp only [Act.put, sT_, sO_, sN_, i64_w, i32_w]; rfl)
    refine one_ (i := 26) (N := some 75) (tf_ 27 2) rfl rfl (one_of HT_.out (by kernel_rfl)) (by decide) (fun K hK => ?_)
    refine goes_ Tryd.func8 (by kernel_rfl) rfl #[] (by rfl) rfl rfl (by (try simp only [mT_, mC_, mN_]); first | done | rfl) ?_
    with_reducible refine (skerrylaw17_lives.calls kj3  t195 _ A24.out).mono ?_
    rintro e w45 ⟨rfl, hb⟩
    refine ⟨_, rfl, ?_⟩
    replace HO186 := kR HO186 hb
    replace HO190 := kR HO190 hb
    replace BK174 := kB BK174 hb
    replace BK179 := kB BK179 hb
    replace BK183 := kB BK183 hb
    replace HB := Aside0.mk (below_step (by repeat (first | (with_reducible first | exact HB.out | apply bA_ | apply bN_ | apply bD_ | refine bS_ ?_ GE174 | refine bS_ ?_ GE179 | refine bS_ ?_ GE183) | exact HB.out)) hb)
    (try clear hb)
    (try clear hb2)
    (try clear hk)
    (try clear hi)
    refine hK.out _ _ (cc4 BK174 (cc2 BK179 (cd2 BK183))) (fun hHeld => ?_)
    clear hK K
    refine norm_ (a' := ?_) ?_ ?_
    rotate_left
    ·
     show Act.put _ (some 75) _ = _
     simp only [Act.put, sT_, sO_, sN_, i64_w, i32_w]
     rfl
    refine pure_ (i := 27) (N := some 76) (v := ?_) (a' := ?_) (tf_ 28 1) rfl rfl (any_of HT_.out (by kernel_rfl)) (fun _ _ _ h => h) (Or.inl ⟨by rfl, ?_⟩) ?_ ?_
    rotate_left; · (intro w'; go_simp; with_reducible rfl)
    rotate_left; · (simp only [Act.put, sT_, sO_, sN_, i64_w, i32_w]; rfl)
    refine pure_ (i := 28) (N := some 6) (v := ?_) (a' := ?_) (tf_ 29 0) rfl rfl (any_of HT_.out (by kernel_rfl)) (fun _ _ _ h => h) (Or.inl ⟨by rfl, ?_⟩) ?_ ?_
    rotate_left; · (intro w'; go_simp; with_reducible rfl)
    rotate_left; · (simp only [Act.put, sT_, sO_, sN_, i64_w, i32_w]; rfl)
    refine done_ (done_of HT_.out (by kernel_rfl)) ?_
    try go_wp2
    go_ret
    exact ⟨by first | rfl | (simp <;> rfl) | (simp [*] <;> rfl), by repeat (first | (with_reducible first | exact HB.out | apply bA_ | apply bN_ | apply bD_ | refine bS_ ?_ GE174 | refine bS_ ?_ GE179 | refine bS_ ?_ GE183) | exact HB.out)⟩
end Go.Proofs.YtdagddhccdchoaaDoor.Q
