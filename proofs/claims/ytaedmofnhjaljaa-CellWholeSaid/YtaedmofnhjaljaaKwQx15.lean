/- Lemmas for this claim's walk: no condition of their own. -/
import Derived.Test.YtaedmofnhjaljaaKwSq
import Derived.Test.YtaedmofnhjaljaaKwQx0
import Derived.Test.YtaedmofnhjaljaaKwJ17
import Derived.Test.YtaedmofnhjaljaaKwQx10
import Derived.Test.YtaedmofnhjaljaaKwQx14
namespace Go.Proofs.Ytaedmofnhjaljaa.Q
open Go.RowKit Go.Proofs.YtaedmofnhjaljaaW.PrintWords Go.Proofs.YtaedmofnhjaljaaW.PrintLast Go.Proofs.YtaedmofnhjaljaaW.PrintMore
attribute [local go_sem] max2_int min2_int max_two min_two max_three min_three max_four min_four
set_option linter.unusedVariables false
set_option linter.unusedSimpArgs false
attribute [local go_sem high] eqA27
def skerrylaw05_lives.f (k : Nat)  : Option (Bool) := (cell_Join.f k 5 false 0 2 0 (⟨#[97]⟩ : ByteArray) 5 true 3 0 0 (⟨#[]⟩ : ByteArray)).bind fun bt172 => (if (bt172.1 == 5 && (bt172.2.1 && (bt172.2.2.1 == 3 && ((bt172.2.2.2.1 == 0 && (bt172.2.2.2.2.1 == 0 && (bt172.2.2.2.2.2.toList == ([] : List UInt8)))))))) = true then ((cell_Join.f k 5 true 3 0 0 (⟨#[]⟩ : ByteArray) 6 false 0 2 0 (⟨#[97]⟩ : ByteArray)).bind fun bt178 => (if (bt178.1 == 6 && (!bt178.2.1 && (bt178.2.2.1 == 0 && ((bt178.2.2.2.1 == 2 && (bt178.2.2.2.2.1 == 0 && (bt178.2.2.2.2.2.toList == ([97] : List UInt8)))))))) = true then ((cell_Join.f k 5 false 0 2 0 (⟨#[98]⟩ : ByteArray) 5 false 0 2 0 (⟨#[97]⟩ : ByteArray)).bind fun bt184 => (if (bt184.1 == 5 && (!bt184.2.1 && (bt184.2.2.1 == 0 && ((bt184.2.2.2.1 == 2 && (bt184.2.2.2.2.1 == 0 && (bt184.2.2.2.2.2.toList == ([98] : List UInt8)))))))) = true then ((cell_Live.f 5 false 0 2 0 (⟨#[97]⟩ : ByteArray)).bind fun t190 => (if t190 = true then ((cell_Live.f 5 true 3 0 0 (⟨#[]⟩ : ByteArray)).bind fun t191 => (if t191 = true then (none) else ((skerrylaw05_key.f (⟨#[97]⟩ : ByteArray)).bind fun bt192 => ((cell_Good.f bt192.1 bt192.2.1 bt192.2.2.1 bt192.2.2.2 5 false 0 2 0 (⟨#[97]⟩ : ByteArray)).bind fun t196 => (some t196))))) else (none))) else (none))) else (none))) else (none))
def skerrylaw05_lives.T5 : Bool × List (List Nat × List Nat) := (true, [([], []), ([], []), ([0, 1], [0, 1]), ([], []), ([2, 3], [2, 3]), ([4, 2], [4]), ([5], [5]), ([5], [5]), ([6, 7, 5, 5], [5, 6, 7]), ([5], [5]), ([8, 9, 5], [5, 8, 9]), ([5, 10], [5, 10]), ([11, 8], [11]), ([12], [12]), ([12], [12]), ([13, 14, 12, 12], [12, 13, 14]), ([12], [12]), ([15, 16, 12], [12, 15, 16]), ([12, 17], [12, 17]), ([18, 15], [18]), ([19], [19]), ([20, 19, 19], [19, 20]), ([19, 21], [19, 21]), ([22, 21], [22]), ([23], [23]), ([24, 23, 23], [23, 24]), ([25, 23], [23, 25]), ([23, 26], [23, 26]), ([27, 25], [27]), ([28, 28], [28]), ([28], [28]), ([29, 30, 28], [28, 29, 30]), ([31, 29, 28], [28, 31]), ([28, 32], [28, 32]), ([33, 32, 0, 1, 2, 3, 4, 5, 6, 7, 8, 9, 10, 11, 12, 13, 14, 15, 16, 17, 18, 19, 20, 21, 22, 23, 24, 25, 26, 27, 28, 29, 30, 31, 32, 33], [33])])
def skerrylaw05_lives.B5 : List Nat := [0, 0, 3, 0, 15, 31, 63, 63, 255, 63, 1023, 2047, 4095, 8191, 8191, 32767, 8191, 131071, 262143, 524287, 1048575, 2097151, 4194303, 8388607, 16777215, 33554431, 67108863, 134217727, 268435455, 536870911, 536870911, 2147483647, 4294967295, 8589934591, 17179869183]
theorem skerrylaw05_lives.tab5 : rtab .any (opsOf Try.f11 5) = skerrylaw05_lives.T5 := by kernel_rfl
theorem skerrylaw05_lives.bits5 : waitsOk skerrylaw05_lives.T5.2 skerrylaw05_lives.B5 = true := by kernel_rfl
set_option maxHeartbeats 8000000 in
set_option maxRecDepth 100000 in
theorem skerrylaw05_lives.calls (k : Nat)  (r : Bool) (w : World) (h : skerrylaw05_lives.f k  = some r) :
  Calls Try.prog 11 #[] w fun e w' => e = .returned (.bool r) ∧ Below w.heap.size w w' := by
 have hu25 := Try.underlying25
 have hu27 := Try.underlying27
 have hu29 := Try.underlying29
 have HB := Aside0.mk (Below.refl w.heap.size w)
 have H : ((cell_Join.f k 5 false 0 2 0 (⟨#[97]⟩ : ByteArray) 5 true 3 0 0 (⟨#[]⟩ : ByteArray)).bind fun bt172 => (if (bt172.1 == 5 && (bt172.2.1 && (bt172.2.2.1 == 3 && ((bt172.2.2.2.1 == 0 && (bt172.2.2.2.2.1 == 0 && (bt172.2.2.2.2.2.toList == ([] : List UInt8)))))))) = true then ((cell_Join.f k 5 true 3 0 0 (⟨#[]⟩ : ByteArray) 6 false 0 2 0 (⟨#[97]⟩ : ByteArray)).bind fun bt178 => (if (bt178.1 == 6 && (!bt178.2.1 && (bt178.2.2.1 == 0 && ((bt178.2.2.2.1 == 2 && (bt178.2.2.2.2.1 == 0 && (bt178.2.2.2.2.2.toList == ([97] : List UInt8)))))))) = true then ((cell_Join.f k 5 false 0 2 0 (⟨#[98]⟩ : ByteArray) 5 false 0 2 0 (⟨#[97]⟩ : ByteArray)).bind fun bt184 => (if (bt184.1 == 5 && (!bt184.2.1 && (bt184.2.2.1 == 0 && ((bt184.2.2.2.1 == 2 && (bt184.2.2.2.2.1 == 0 && (bt184.2.2.2.2.2.toList == ([98] : List UInt8)))))))) = true then ((cell_Live.f 5 false 0 2 0 (⟨#[97]⟩ : ByteArray)).bind fun t190 => (if t190 = true then ((cell_Live.f 5 true 3 0 0 (⟨#[]⟩ : ByteArray)).bind fun t191 => (if t191 = true then (none) else ((skerrylaw05_key.f (⟨#[97]⟩ : ByteArray)).bind fun bt192 => ((cell_Good.f bt192.1 bt192.2.1 bt192.2.2.1 bt192.2.2.2 5 false 0 2 0 (⟨#[97]⟩ : ByteArray)).bind fun t196 => (some t196))))) else (none))) else (none))) else (none))) else (none))) = some r := h
 clear h
 replace H := Option.bind_eq_some_iff.mp H
 obtain ⟨⟨t172, t173, t174, t175, t176, t177⟩, A10, H⟩ := H
 have A1 := Aside0.mk A10
 clear A10
 by_cases c2 : (t172 == 5 && (t173 && (t174 == 3 && ((t175 == 0 && (t176 == 0 && (t177.toList == ([] : List UInt8)))))))) = true
 rotate_left
 ·
  rw [if_neg c2] at H
  have c2b0 : (t172 == 5 && (t173 && (t174 == 3 && ((t175 == 0 && (t176 == 0 && (t177.toList == ([] : List UInt8)))))))) = false := by simpa using c2
  (try (have c2b0e : (t172 == 5 && (t173 && (t174 == 3 && ((t175 == 0 && (t176 == 0 && (t177.toList.isEmpty))))))) = false := by simpa only [List.beq_nil_eq] using c2b0))
  (try (have c2b1 : decide (t172 = 5 && (t173 && (t174 == 3 && ((t175 == 0 && (t176 == 0 && (t177.toList == ([] : List UInt8)))))))) = false := by simpa using c2))
  (try (have c2b2 : (t172 == 5 && (t173 && (t174 == 3 && ((t175 == 0 && (t176 == 0 && (t177.toList == ([] : List UInt8)))))))) = false := by simpa using c2))
  (try (have c2b3 : ¬ (t172 = 5 && (t173 && (t174 == 3 && ((t175 == 0 && (t176 == 0 && (t177.toList == ([] : List UInt8)))))))) := by simpa using c2))
  clear c2
  exact absurd H (by simp)
 rw [if_pos c2] at H
 have c2b0 : (t172 == 5 && (t173 && (t174 == 3 && ((t175 == 0 && (t176 == 0 && (t177.toList == ([] : List UInt8)))))))) = true := c2
 (try (have c2b0e : (t172 == 5 && (t173 && (t174 == 3 && ((t175 == 0 && (t176 == 0 && (t177.toList.isEmpty))))))) = true := by simpa only [List.beq_nil_eq] using c2b0))
 (try (have c2b1 : decide (t172 = 5 && (t173 && (t174 == 3 && ((t175 == 0 && (t176 == 0 && (t177.toList == ([] : List UInt8)))))))) = true := by simpa using c2))
 (try (have c2b2 : (t172 == 5 && (t173 && (t174 == 3 && ((t175 == 0 && (t176 == 0 && (t177.toList == ([] : List UInt8)))))))) = true := by simpa using c2))
 clear c2
 replace H := Option.bind_eq_some_iff.mp H
 obtain ⟨⟨t178, t179, t180, t181, t182, t183⟩, A30, H⟩ := H
 have A3 := Aside0.mk A30
 clear A30
 by_cases c4 : (t178 == 6 && (!t179 && (t180 == 0 && ((t181 == 2 && (t182 == 0 && (t183.toList == ([97] : List UInt8)))))))) = true
 rotate_left
 ·
  rw [if_neg c4] at H
  have c4b0 : (t178 == 6 && (!t179 && (t180 == 0 && ((t181 == 2 && (t182 == 0 && (t183.toList == ([97] : List UInt8)))))))) = false := by simpa using c4
  (try (have c4b1 : decide (t178 = 6 && (!t179 && (t180 == 0 && ((t181 == 2 && (t182 == 0 && (t183.toList == ([97] : List UInt8)))))))) = false := by simpa using c4))
  (try (have c4b2 : (t178 == 6 && (!t179 && (t180 == 0 && ((t181 == 2 && (t182 == 0 && (t183.toList == ([97] : List UInt8)))))))) = false := by simpa using c4))
  (try (have c4b3 : ¬ (t178 = 6 && (!t179 && (t180 == 0 && ((t181 == 2 && (t182 == 0 && (t183.toList == ([97] : List UInt8)))))))) := by simpa using c4))
  clear c4
  exact absurd H (by simp)
 rw [if_pos c4] at H
 have c4b0 : (t178 == 6 && (!t179 && (t180 == 0 && ((t181 == 2 && (t182 == 0 && (t183.toList == ([97] : List UInt8)))))))) = true := c4
 (try (have c4b1 : decide (t178 = 6 && (!t179 && (t180 == 0 && ((t181 == 2 && (t182 == 0 && (t183.toList == ([97] : List UInt8)))))))) = true := by simpa using c4))
 (try (have c4b2 : (t178 == 6 && (!t179 && (t180 == 0 && ((t181 == 2 && (t182 == 0 && (t183.toList == ([97] : List UInt8)))))))) = true := by simpa using c4))
 clear c4
 replace H := Option.bind_eq_some_iff.mp H
 obtain ⟨⟨t184, t185, t186, t187, t188, t189⟩, A50, H⟩ := H
 have A5 := Aside0.mk A50
 clear A50
 by_cases c6 : (t184 == 5 && (!t185 && (t186 == 0 && ((t187 == 2 && (t188 == 0 && (t189.toList == ([98] : List UInt8)))))))) = true
 rotate_left
 ·
  rw [if_neg c6] at H
  have c6b0 : (t184 == 5 && (!t185 && (t186 == 0 && ((t187 == 2 && (t188 == 0 && (t189.toList == ([98] : List UInt8)))))))) = false := by simpa using c6
  (try (have c6b1 : decide (t184 = 5 && (!t185 && (t186 == 0 && ((t187 == 2 && (t188 == 0 && (t189.toList == ([98] : List UInt8)))))))) = false := by simpa using c6))
  (try (have c6b2 : (t184 == 5 && (!t185 && (t186 == 0 && ((t187 == 2 && (t188 == 0 && (t189.toList == ([98] : List UInt8)))))))) = false := by simpa using c6))
  (try (have c6b3 : ¬ (t184 = 5 && (!t185 && (t186 == 0 && ((t187 == 2 && (t188 == 0 && (t189.toList == ([98] : List UInt8)))))))) := by simpa using c6))
  clear c6
  exact absurd H (by simp)
 rw [if_pos c6] at H
 have c6b0 : (t184 == 5 && (!t185 && (t186 == 0 && ((t187 == 2 && (t188 == 0 && (t189.toList == ([98] : List UInt8)))))))) = true := c6
 (try (have c6b1 : decide (t184 = 5 && (!t185 && (t186 == 0 && ((t187 == 2 && (t188 == 0 && (t189.toList == ([98] : List UInt8)))))))) = true := by simpa using c6))
 (try (have c6b2 : (t184 == 5 && (!t185 && (t186 == 0 && ((t187 == 2 && (t188 == 0 && (t189.toList == ([98] : List UInt8)))))))) = true := by simpa using c6))
 clear c6
 replace H := Option.bind_eq_some_iff.mp H
 obtain ⟨t190, A70, H⟩ := H
 have A7 := Aside0.mk A70
 clear A70
 by_cases c8 : t190 = true
 rotate_left
 ·
  replace c8 := Bool.eq_false_iff.mpr c8
  subst c8
  have H1 : (none) = some r := by rw [if_neg (show ¬ (false = true) by decide)] at H; exact H
  clear H
  have H := H1
  clear H1
  exact absurd H (by simp)
 subst c8
 have H1 : ((cell_Live.f 5 true 3 0 0 (⟨#[]⟩ : ByteArray)).bind fun t191 => (if t191 = true then (none) else ((skerrylaw05_key.f (⟨#[97]⟩ : ByteArray)).bind fun bt192 => ((cell_Good.f bt192.1 bt192.2.1 bt192.2.2.1 bt192.2.2.2 5 false 0 2 0 (⟨#[97]⟩ : ByteArray)).bind fun t196 => (some t196))))) = some r := by rw [if_pos rfl] at H; exact H
 clear H
 have H := H1
 clear H1
 replace H := Option.bind_eq_some_iff.mp H
 obtain ⟨t191, A90, H⟩ := H
 have A9 := Aside0.mk A90
 clear A90
 by_cases c10 : t191 = true
 ·
  subst c10
  have H1 : (none) = some r := by rw [if_pos rfl] at H; exact H
  clear H
  have H := H1
  clear H1
  exact absurd H (by simp)
 ·
  replace c10 := Bool.eq_false_iff.mpr c10
  subst c10
  have H1 : ((skerrylaw05_key.f (⟨#[97]⟩ : ByteArray)).bind fun bt192 => ((cell_Good.f bt192.1 bt192.2.1 bt192.2.2.1 bt192.2.2.2 5 false 0 2 0 (⟨#[97]⟩ : ByteArray)).bind fun t196 => (some t196))) = some r := by rw [if_neg (show ¬ (false = true) by decide)] at H; exact H
  clear H
  have H := H1
  clear H1
  replace H := Option.bind_eq_some_iff.mp H
  obtain ⟨⟨t192, t193, t194, t195⟩, A110, H⟩ := H
  have A11 := Aside0.mk A110
  clear A110
  replace H := Option.bind_eq_some_iff.mp H
  obtain ⟨t196, A120, H⟩ := H
  have A12 := Aside0.mk A120
  clear A120
  obtain rfl := Option.some.inj H
  go_enter Try.func11, Try.ntmps11
  try go_wp2_with (first | ((with_reducible refine gate_dst (N := 1) rfl ?_); refine box_event ?hg (N := 1) ?hd (cs := #[.int .i64 0, .bool false, .int .i64 0, .int .i64 0, .int .i64 0, .string (⟨#[]⟩ : ByteArray)]) (t := 27) ?hr ?_; (case hd => rfl); (case hg => rfl); (case hr => first | (go_simp; done) | (go_simp; rfl)); intro gb168 hg w13 hbox hb; have BK168 := Aside0.mk (hbox); have GW168 := Aside0.mk ((by rw [hg]; exact (bZ_ (kwW HB)) : w.heap.size ≤ gb168)); replace HB := Aside0.mk (below_step (kwW HB) hb); have GE168 := GW168; clear hb hbox hg; obtain ⟨_, _, _, _, _, _, _, _, _, _, _, _⟩ := czf6 BK168) | ((with_reducible refine gate_dst (N := 2) rfl ?_); refine box_event ?hg (N := 2) ?hd (cs := #[.int .i64 0, .bool false, .int .i64 0, .int .i64 0, .int .i64 0, .string (⟨#[]⟩ : ByteArray)]) (t := 27) ?hr ?_; (case hd => rfl); (case hg => rfl); (case hr => first | (go_simp; done) | (go_simp; rfl)); intro gb169 hg w15 hbox hb; have BK169 := Aside0.mk (hbox); have GW169 := Aside0.mk ((by rw [hg]; exact (bZ_ (by repeat (first | (with_reducible first | exact HB.out | apply bA_ | apply bN_ | apply bD_ | refine bS_ ?_ GE168) | exact HB.out))) : w.heap.size ≤ gb169)); replace HB := Aside0.mk (below_step (by repeat (first | (with_reducible first | exact HB.out | apply bA_ | apply bN_ | apply bD_ | refine bS_ ?_ GE168) | exact HB.out)) hb); have GE169 := GW169; have NB168_169 := Aside0.mk ((by rw [hg]; exact Nat.ne_of_lt (blk_lt (g := gb168) (o := .cells #[.int .i64 5, .bool false, .int .i64 0, .int .i64 2, .int .i64 0, .string (⟨#[97]⟩ : ByteArray)] 27 (0, 0)) (by (with_reducible repeat (first | refine blk_drewN ?_ _ | refine blk_drew ?_ | refine blk_alloc ?_ _)); exact bp6 (kbW BK168))) : gb168 ≠ gb169)); have NB169_168 := Aside0.mk ((by rw [hg]; exact Nat.ne_of_gt (blk_lt (g := gb168) (o := .cells #[.int .i64 5, .bool false, .int .i64 0, .int .i64 2, .int .i64 0, .string (⟨#[97]⟩ : ByteArray)] 27 (0, 0)) (by (with_reducible repeat (first | refine blk_drewN ?_ _ | refine blk_drew ?_ | refine blk_alloc ?_ _)); exact bp6 (kbW BK168))) : gb169 ≠ gb168)); replace BK168 := Aside0.mk (blk_below (g := gb168) (o := .cells #[.int .i64 5, .bool false, .int .i64 0, .int .i64 2, .int .i64 0, .string (⟨#[97]⟩ : ByteArray)] 27 (0, 0)) (by (with_reducible repeat (first | refine blk_drewN ?_ _ | refine blk_drew ?_ | refine blk_alloc ?_ _)); exact bp6 (kbW BK168)) hb); clear hb hbox hg; have hnb16 := NB169_168.out; have hnc16 := NB168_169.out; obtain ⟨_, _, _, _, _, _, _, _, _, _, _, _⟩ := czf6 BK169) | ((with_reducible refine gate_dst (N := 3) rfl ?_); refine box_event ?hg (N := 3) ?hd (cs := #[.int .i64 0, .bool false, .int .i64 0, .int .i64 0, .int .i64 0, .string (⟨#[]⟩ : ByteArray)]) (t := 27) ?hr ?_; (case hd => rfl); (case hg => rfl); (case hr => first | (go_simp; done) | (go_simp; rfl)); intro gb170 hg w18 hbox hb; have BK170 := Aside0.mk (hbox); have GW170 := Aside0.mk ((by rw [hg]; exact (bZ_ (by repeat (first | (with_reducible first | exact HB.out | apply bA_ | apply bN_ | apply bD_ | refine bS_ ?_ GE168 | refine bS_ ?_ GE169) | exact HB.out))) : w.heap.size ≤ gb170)); replace HB := Aside0.mk (below_step (by repeat (first | (with_reducible first | exact HB.out | apply bA_ | apply bN_ | apply bD_ | refine bS_ ?_ GE168 | refine bS_ ?_ GE169) | exact HB.out)) hb); have GE170 := GW170; have NB168_170 := Aside0.mk ((by rw [hg]; exact Nat.ne_of_lt (blk_lt (g := gb168) (o := .cells #[.int .i64 5, .bool false, .int .i64 0, .int .i64 2, .int .i64 0, .string (⟨#[97]⟩ : ByteArray)] 27 (0, 0)) (by (with_reducible repeat (first | refine blk_drewN ?_ _ | refine blk_drew ?_ | refine blk_alloc ?_ _)); refine bf6 ?_ NB168_169.out; (with_reducible repeat (first | refine blk_drewN ?_ _ | refine blk_drew ?_ | refine blk_alloc ?_ _)); exact BK168.out)) : gb168 ≠ gb170)); have NB170_168 := Aside0.mk ((by rw [hg]; exact Nat.ne_of_gt (blk_lt (g := gb168) (o := .cells #[.int .i64 5, .bool false, .int .i64 0, .int .i64 2, .int .i64 0, .string (⟨#[97]⟩ : ByteArray)] 27 (0, 0)) (by (with_reducible repeat (first | refine blk_drewN ?_ _ | refine blk_drew ?_ | refine blk_alloc ?_ _)); refine bf6 ?_ NB168_169.out; (with_reducible repeat (first | refine blk_drewN ?_ _ | refine blk_drew ?_ | refine blk_alloc ?_ _)); exact BK168.out)) : gb170 ≠ gb168)); replace BK168 := kBf BK168 (fun h_ => by (with_reducible repeat (first | refine blk_drewN ?_ _ | refine blk_drew ?_ | refine blk_alloc ?_ _)); refine bf6 ?_ NB168_169.out; (with_reducible repeat (first | refine blk_drewN ?_ _ | refine blk_drew ?_ | refine blk_alloc ?_ _)); exact h_) hb; have NB169_170 := Aside0.mk ((by rw [hg]; exact Nat.ne_of_lt (blk_lt (g := gb169) (o := .cells #[.int .i64 5, .bool false, .int .i64 0, .int .i64 2, .int .i64 0, .string (⟨#[98]⟩ : ByteArray)] 27 (0, 0)) (by (with_reducible repeat (first | refine blk_drewN ?_ _ | refine blk_drew ?_ | refine blk_alloc ?_ _)); exact bp6 (kbW BK169))) : gb169 ≠ gb170)); have NB170_169 := Aside0.mk ((by rw [hg]; exact Nat.ne_of_gt (blk_lt (g := gb169) (o := .cells #[.int .i64 5, .bool false, .int .i64 0, .int .i64 2, .int .i64 0, .string (⟨#[98]⟩ : ByteArray)] 27 (0, 0)) (by (with_reducible repeat (first | refine blk_drewN ?_ _ | refine blk_drew ?_ | refine blk_alloc ?_ _)); exact bp6 (kbW BK169))) : gb170 ≠ gb169)); replace BK169 := Aside0.mk (blk_below (g := gb169) (o := .cells #[.int .i64 5, .bool false, .int .i64 0, .int .i64 2, .int .i64 0, .string (⟨#[98]⟩ : ByteArray)] 27 (0, 0)) (by (with_reducible repeat (first | refine blk_drewN ?_ _ | refine blk_drew ?_ | refine blk_alloc ?_ _)); exact bp6 (kbW BK169)) hb); clear hb hbox hg; have hnb19 := NB170_168.out; have hnc19 := NB168_170.out; have hnb20 := NB170_169.out; have hnc20 := NB169_170.out; obtain ⟨_, _, _, _, _, _, _, _, _, _, _, _⟩ := czf6 BK170) | ((with_reducible refine gate_dst (N := 4) rfl ?_); refine box_event ?hg (N := 4) ?hd (cs := #[.int .i64 0, .bool false, .int .i64 0, .int .i64 0, .int .i64 0, .string (⟨#[]⟩ : ByteArray)]) (t := 27) ?hr ?_; (case hd => rfl); (case hg => rfl); (case hr => first | (go_simp; done) | (go_simp; rfl)); intro gb171 hg w22 hbox hb; have BK171 := Aside0.mk (hbox); have GW171 := Aside0.mk ((by rw [hg]; exact (bZ_ (by repeat (first | (with_reducible first | exact HB.out | apply bA_ | apply bN_ | apply bD_ | refine bS_ ?_ GE168 | refine bS_ ?_ GE169 | refine bS_ ?_ GE170) | exact HB.out))) : w.heap.size ≤ gb171)); replace HB := Aside0.mk (below_step (by repeat (first | (with_reducible first | exact HB.out | apply bA_ | apply bN_ | apply bD_ | refine bS_ ?_ GE168 | refine bS_ ?_ GE169 | refine bS_ ?_ GE170) | exact HB.out)) hb); have GE171 := GW171; have NB168_171 := Aside0.mk ((by rw [hg]; exact Nat.ne_of_lt (blk_lt (g := gb168) (o := .cells #[.int .i64 5, .bool false, .int .i64 0, .int .i64 2, .int .i64 0, .string (⟨#[97]⟩ : ByteArray)] 27 (0, 0)) (by (with_reducible repeat (first | refine blk_drewN ?_ _ | refine blk_drew ?_ | refine blk_alloc ?_ _)); refine bf6 ?_ NB168_170.out; (with_reducible repeat (first | refine blk_drewN ?_ _ | refine blk_drew ?_ | refine blk_alloc ?_ _)); exact BK168.out)) : gb168 ≠ gb171)); have NB171_168 := Aside0.mk ((by rw [hg]; exact Nat.ne_of_gt (blk_lt (g := gb168) (o := .cells #[.int .i64 5, .bool false, .int .i64 0, .int .i64 2, .int .i64 0, .string (⟨#[97]⟩ : ByteArray)] 27 (0, 0)) (by (with_reducible repeat (first | refine blk_drewN ?_ _ | refine blk_drew ?_ | refine blk_alloc ?_ _)); refine bf6 ?_ NB168_170.out; (with_reducible repeat (first | refine blk_drewN ?_ _ | refine blk_drew ?_ | refine blk_alloc ?_ _)); exact BK168.out)) : gb171 ≠ gb168)); replace BK168 := kBf BK168 (fun h_ => by (with_reducible repeat (first | refine blk_drewN ?_ _ | refine blk_drew ?_ | refine blk_alloc ?_ _)); refine bf6 ?_ NB168_170.out; (with_reducible repeat (first | refine blk_drewN ?_ _ | refine blk_drew ?_ | refine blk_alloc ?_ _)); exact h_) hb; have NB169_171 := Aside0.mk ((by rw [hg]; exact Nat.ne_of_lt (blk_lt (g := gb169) (o := .cells #[.int .i64 5, .bool false, .int .i64 0, .int .i64 2, .int .i64 0, .string (⟨#[98]⟩ : ByteArray)] 27 (0, 0)) (by (with_reducible repeat (first | refine blk_drewN ?_ _ | refine blk_drew ?_ | refine blk_alloc ?_ _)); refine bf6 ?_ NB169_170.out; (with_reducible repeat (first | refine blk_drewN ?_ _ | refine blk_drew ?_ | refine blk_alloc ?_ _)); exact BK169.out)) : gb169 ≠ gb171)); have NB171_169 := Aside0.mk ((by rw [hg]; exact Nat.ne_of_gt (blk_lt (g := gb169) (o := .cells #[.int .i64 5, .bool false, .int .i64 0, .int .i64 2, .int .i64 0, .string (⟨#[98]⟩ : ByteArray)] 27 (0, 0)) (by (with_reducible repeat (first | refine blk_drewN ?_ _ | refine blk_drew ?_ | refine blk_alloc ?_ _)); refine bf6 ?_ NB169_170.out; (with_reducible repeat (first | refine blk_drewN ?_ _ | refine blk_drew ?_ | refine blk_alloc ?_ _)); exact BK169.out)) : gb171 ≠ gb169)); replace BK169 := kBf BK169 (fun h_ => by (with_reducible repeat (first | refine blk_drewN ?_ _ | refine blk_drew ?_ | refine blk_alloc ?_ _)); refine bf6 ?_ NB169_170.out; (with_reducible repeat (first | refine blk_drewN ?_ _ | refine blk_drew ?_ | refine blk_alloc ?_ _)); exact h_) hb; have NB170_171 := Aside0.mk ((by rw [hg]; exact Nat.ne_of_lt (blk_lt (g := gb170) (o := .cells #[.int .i64 5, .bool true, .int .i64 3, .int .i64 0, .int .i64 0, .string (⟨#[]⟩ : ByteArray)] 27 (0, 0)) (by (with_reducible repeat (first | refine blk_drewN ?_ _ | refine blk_drew ?_ | refine blk_alloc ?_ _)); exact bp6 (kbW BK170))) : gb170 ≠ gb171)); have NB171_170 := Aside0.mk ((by rw [hg]; exact Nat.ne_of_gt (blk_lt (g := gb170) (o := .cells #[.int .i64 5, .bool true, .int .i64 3, .int .i64 0, .int .i64 0, .string (⟨#[]⟩ : ByteArray)] 27 (0, 0)) (by (with_reducible repeat (first | refine blk_drewN ?_ _ | refine blk_drew ?_ | refine blk_alloc ?_ _)); exact bp6 (kbW BK170))) : gb171 ≠ gb170)); replace BK170 := Aside0.mk (blk_below (g := gb170) (o := .cells #[.int .i64 5, .bool true, .int .i64 3, .int .i64 0, .int .i64 0, .string (⟨#[]⟩ : ByteArray)] 27 (0, 0)) (by (with_reducible repeat (first | refine blk_drewN ?_ _ | refine blk_drew ?_ | refine blk_alloc ?_ _)); exact bp6 (kbW BK170)) hb); clear hb hbox hg; have hnb23 := NB171_168.out; have hnc23 := NB168_171.out; have hnb24 := NB171_169.out; have hnc24 := NB169_171.out; have hnb25 := NB171_170.out; have hnc25 := NB170_171.out; obtain ⟨_, _, _, _, _, _, _, _, _, _, _, _⟩ := czf6 BK171))
  have n0_ : Aside0 (((((((w22.setCell ⟨gb171, 0, none⟩ (.int .i64 6)).setCell ⟨gb171, 1, none⟩ (.bool false)).setCell ⟨gb171, 2, none⟩ (.int .i64 0)).setCell ⟨gb171, 3, none⟩ (.int .i64 2)).setCell ⟨gb171, 4, none⟩ (.int .i64 0)).setCell ⟨gb171, 5, none⟩ (.string (⟨#[97]⟩ : ByteArray))).heap[gb168]? = some (.cells #[.int .i64 5, .bool false, .int .i64 0, .int .i64 2, .int .i64 0, .string (⟨#[97]⟩ : ByteArray)] 27 (0, 0))) := ⟨by (with_reducible repeat (first | refine blk_drewN ?_ _ | refine blk_drew ?_ | refine blk_alloc ?_ _)); refine bf6 ?_ NB168_171.out; (with_reducible repeat (first | refine blk_drewN ?_ _ | refine blk_drew ?_ | refine blk_alloc ?_ _)); exact BK168.out⟩
  have n1_ : Aside0 (((((((w22.setCell ⟨gb171, 0, none⟩ (.int .i64 6)).setCell ⟨gb171, 1, none⟩ (.bool false)).setCell ⟨gb171, 2, none⟩ (.int .i64 0)).setCell ⟨gb171, 3, none⟩ (.int .i64 2)).setCell ⟨gb171, 4, none⟩ (.int .i64 0)).setCell ⟨gb171, 5, none⟩ (.string (⟨#[97]⟩ : ByteArray))).heap[gb169]? = some (.cells #[.int .i64 5, .bool false, .int .i64 0, .int .i64 2, .int .i64 0, .string (⟨#[98]⟩ : ByteArray)] 27 (0, 0))) := ⟨by (with_reducible repeat (first | refine blk_drewN ?_ _ | refine blk_drew ?_ | refine blk_alloc ?_ _)); refine bf6 ?_ NB169_171.out; (with_reducible repeat (first | refine blk_drewN ?_ _ | refine blk_drew ?_ | refine blk_alloc ?_ _)); exact BK169.out⟩
  have n2_ : Aside0 (((((((w22.setCell ⟨gb171, 0, none⟩ (.int .i64 6)).setCell ⟨gb171, 1, none⟩ (.bool false)).setCell ⟨gb171, 2, none⟩ (.int .i64 0)).setCell ⟨gb171, 3, none⟩ (.int .i64 2)).setCell ⟨gb171, 4, none⟩ (.int .i64 0)).setCell ⟨gb171, 5, none⟩ (.string (⟨#[97]⟩ : ByteArray))).heap[gb170]? = some (.cells #[.int .i64 5, .bool true, .int .i64 3, .int .i64 0, .int .i64 0, .string (⟨#[]⟩ : ByteArray)] 27 (0, 0))) := ⟨by (with_reducible repeat (first | refine blk_drewN ?_ _ | refine blk_drew ?_ | refine blk_alloc ?_ _)); refine bf6 ?_ NB170_171.out; (with_reducible repeat (first | refine blk_drewN ?_ _ | refine blk_drew ?_ | refine blk_alloc ?_ _)); exact BK170.out⟩
  have n3_ : Aside0 (((((((w22.setCell ⟨gb171, 0, none⟩ (.int .i64 6)).setCell ⟨gb171, 1, none⟩ (.bool false)).setCell ⟨gb171, 2, none⟩ (.int .i64 0)).setCell ⟨gb171, 3, none⟩ (.int .i64 2)).setCell ⟨gb171, 4, none⟩ (.int .i64 0)).setCell ⟨gb171, 5, none⟩ (.string (⟨#[97]⟩ : ByteArray))).heap[gb171]? = some (.cells #[.int .i64 6, .bool false, .int .i64 0, .int .i64 2, .int .i64 0, .string (⟨#[97]⟩ : ByteArray)] 27 (0, 0))) := ⟨by (with_reducible repeat (first | refine blk_drewN ?_ _ | refine blk_drew ?_ | refine blk_alloc ?_ _)); exact bp6 (kbW BK171)⟩
  have n4_ : Aside0 (Below w.heap.size w ((((((w22.setCell ⟨gb171, 0, none⟩ (.int .i64 6)).setCell ⟨gb171, 1, none⟩ (.bool false)).setCell ⟨gb171, 2, none⟩ (.int .i64 0)).setCell ⟨gb171, 3, none⟩ (.int .i64 2)).setCell ⟨gb171, 4, none⟩ (.int .i64 0)).setCell ⟨gb171, 5, none⟩ (.string (⟨#[97]⟩ : ByteArray)))) := ⟨by repeat (first | (with_reducible first | exact HB.out | apply bA_ | apply bN_ | apply bD_ | refine bS_ ?_ GE168 | refine bS_ ?_ GE169 | refine bS_ ?_ GE170 | refine bS_ ?_ GE171) | exact HB.out)⟩
  (try clear BK168)
  (try clear BK169)
  (try clear BK170)
  (try clear BK171)
  (try clear HB)
  generalize ((((((w22.setCell ⟨gb171, 0, none⟩ (.int .i64 6)).setCell ⟨gb171, 1, none⟩ (.bool false)).setCell ⟨gb171, 2, none⟩ (.int .i64 0)).setCell ⟨gb171, 3, none⟩ (.int .i64 2)).setCell ⟨gb171, 4, none⟩ (.int .i64 0)).setCell ⟨gb171, 5, none⟩ (.string (⟨#[97]⟩ : ByteArray))) = w27 at n0_ n1_ n2_ n3_ n4_ ⊢
  have BK168 := n0_
  have BK169 := n1_
  have BK170 := n2_
  have BK171 := n3_
  have HB := n4_
  clear n0_ n1_ n2_ n3_ n4_
  replace BK168 := Aside0.mk (blk_drew BK168.out)
  replace BK169 := Aside0.mk (blk_drew BK169.out)
  replace BK170 := Aside0.mk (blk_drew BK170.out)
  replace BK171 := Aside0.mk (blk_drew BK171.out)
  replace HB := Aside0.mk (below_drew1 HB.out)
  refine start_ (n := 35) (S := fun w' => w'.cell? ⟨gb168, 0, none⟩ = some (.int .i64 5) ∧ w'.cell? ⟨gb168, 1, none⟩ = some (.bool false) ∧ w'.cell? ⟨gb168, 2, none⟩ = some (.int .i64 0) ∧ w'.cell? ⟨gb168, 3, none⟩ = some (.int .i64 2) ∧ w'.cell? ⟨gb168, 4, none⟩ = some (.int .i64 0) ∧ w'.cell? ⟨gb168, 5, none⟩ = some (.string (⟨#[97]⟩ : ByteArray)) ∧ w'.cell? ⟨gb170, 0, none⟩ = some (.int .i64 5) ∧ w'.cell? ⟨gb170, 1, none⟩ = some (.bool true) ∧ w'.cell? ⟨gb170, 2, none⟩ = some (.int .i64 3) ∧ w'.cell? ⟨gb170, 3, none⟩ = some (.int .i64 0) ∧ w'.cell? ⟨gb170, 4, none⟩ = some (.int .i64 0) ∧ w'.cell? ⟨gb170, 5, none⟩ = some (.string (⟨#[]⟩ : ByteArray)) ∧ w'.cell? ⟨gb171, 0, none⟩ = some (.int .i64 6) ∧ w'.cell? ⟨gb171, 1, none⟩ = some (.bool false) ∧ w'.cell? ⟨gb171, 2, none⟩ = some (.int .i64 0) ∧ w'.cell? ⟨gb171, 3, none⟩ = some (.int .i64 2) ∧ w'.cell? ⟨gb171, 4, none⟩ = some (.int .i64 0) ∧ w'.cell? ⟨gb171, 5, none⟩ = some (.string (⟨#[97]⟩ : ByteArray)) ∧ w'.cell? ⟨gb169, 0, none⟩ = some (.int .i64 5) ∧ w'.cell? ⟨gb169, 1, none⟩ = some (.bool false) ∧ w'.cell? ⟨gb169, 2, none⟩ = some (.int .i64 0) ∧ w'.cell? ⟨gb169, 3, none⟩ = some (.int .i64 2) ∧ w'.cell? ⟨gb169, 4, none⟩ = some (.int .i64 0) ∧ w'.cell? ⟨gb169, 5, none⟩ = some (.string (⟨#[98]⟩ : ByteArray))) (ds := []) (tf_ 0 35) (by kernel_rfl) rfl rfl (cc6 BK168 (cc6 BK170 (cc6 BK171 (cd6 BK169)))) (fun hHeld => ?_); refine with_tabW skerrylaw05_lives.tab5 skerrylaw05_lives.bits5 (fun HT_ HW_ => ?_)
  generalize w27.drew = w28 at BK168 BK169 BK170 BK171 HB hHeld ⊢
  refine take_ (i := 0) (N := some 12) (v := ?_) (a' := ?_) (tf_ 1 34) rfl rfl (take_ofW HT_.out HW_.out (by kernel_rfl)) (fun _ _ _ h => h) (Or.inl ⟨by rfl, ?_⟩) hHeld ?_ ?_
  rotate_left; · (rintro w' ⟨s0, s1, s2, s3, s4, s5, s6, s7, s8, s9, s10, s11, s12, s13, s14, s15, s16, s17, s18, s19, s20, s21, s22, s23⟩; go_simp; with_reducible rfl)
  rotate_left; · (simp only [Act.put, sT_, sO_, sN_, i64_w, i32_w]; rfl)
  refine take_ (i := 1) (N := some 13) (v := ?_) (a' := ?_) (tf_ 2 33) rfl rfl (take_ofW HT_.out HW_.out (by kernel_rfl)) (fun _ _ _ h => h) (Or.inl ⟨by rfl, ?_⟩) hHeld ?_ ?_
  rotate_left; · (rintro w' ⟨s0, s1, s2, s3, s4, s5, s6, s7, s8, s9, s10, s11, s12, s13, s14, s15, s16, s17, s18, s19, s20, s21, s22, s23⟩; go_simp; with_reducible rfl)
  rotate_left; · (simp only [Act.put, sT_, sO_, sN_, i64_w, i32_w]; rfl)
  refine take_ (i := 3) (N := some 15) (v := ?_) (a' := ?_) (tb_ 11 35) rfl rfl (take_ofW HT_.out HW_.out (by kernel_rfl)) (fun _ _ _ h => h) (Or.inl ⟨by rfl, ?_⟩) hHeld ?_ ?_
  rotate_left; · (rintro w' ⟨s0, s1, s2, s3, s4, s5, s6, s7, s8, s9, s10, s11, s12, s13, s14, s15, s16, s17, s18, s19, s20, s21, s22, s23⟩; go_simp; with_reducible rfl)
  rotate_left; · (simp only [Act.put, sT_, sO_, sN_, i64_w, i32_w]; rfl)
  refine one_ (i := 2) (N := some 14) (tf_ 4 31) rfl rfl (one_of HT_.out (by kernel_rfl)) (by decide) (fun K hK => ?_)
  refine goes_ Try.func16 (by kernel_rfl) rfl #[.agg #[.int .i64 5, .bool false, .int .i64 0, .int .i64 2, .int .i64 0, .string (⟨#[97]⟩ : ByteArray)], .agg #[.int .i64 5, .bool true, .int .i64 3, .int .i64 0, .int .i64 0, .string (⟨#[]⟩ : ByteArray)]] (by rfl) rfl rfl (by (try simp only [mT_, mC_, mN_]); first | done | rfl) ?_
  with_reducible refine (cell_Join.calls k 5 false 0 2 0 (⟨#[97]⟩ : ByteArray) 5 true 3 0 0 (⟨#[]⟩ : ByteArray) t172 t173 t174 t175 t176 t177 _ A1.out).mono ?_
  rintro e w29 ⟨rfl, hb⟩
  refine ⟨_, rfl, ?_⟩
  replace BK168 := kB BK168 hb
  replace BK169 := kB BK169 hb
  replace BK170 := kB BK170 hb
  replace BK171 := kB BK171 hb
  replace HB := Aside0.mk (below_step (by repeat (first | (with_reducible first | exact HB.out | apply bA_ | apply bN_ | apply bD_ | refine bS_ ?_ GE168 | refine bS_ ?_ GE169 | refine bS_ ?_ GE170 | refine bS_ ?_ GE171) | exact HB.out)) hb)
  (try clear hb)
  (try clear hb2)
  (try clear hk)
  (try clear hi)
  refine hK.out _ _ (cc6 BK168 (cc6 BK170 (cc6 BK171 (cd6 BK169)))) (fun hHeld => ?_)
  clear hK K
  refine norm_ (a' := ?_) ?_ ?_
  rotate_left
  ·
   show Act.put _ (some 14) _ = _
   simp only [Act.put, sT_, sO_, sN_, i64_w, i32_w]
   rfl
  refine pure_ (i := 4) (N := some 16) (v := ?_) (a' := ?_) (tf_ 5 30) rfl rfl (any_of HT_.out (by kernel_rfl)) (fun _ _ _ h => h) (Or.inl ⟨by rfl, ?_⟩) ?_ ?_
  rotate_left; · (intro w'; go_simp; with_reducible rfl)
  rotate_left; · (simp only [Act.put, sT_, sO_, sN_, i64_w, i32_w]; rfl)
  refine pure_ (i := 5) (N := some 17) (v := ?_) (a' := ?_) (tf_ 6 29) rfl rfl (any_of HT_.out (by kernel_rfl)) (fun _ _ _ h => h) (Or.inl ⟨by rfl, ?_⟩) ?_ ?_
  rotate_left; · (intro w'; go_simp; with_reducible rfl)
  rotate_left; · (simp only [Act.put, sT_, sO_, sN_, i64_w, i32_w]; rfl)
  refine take_ (i := 6) (N := some 18) (v := ?_) (a' := ?_) (tf_ 7 28) rfl rfl (take_ofW HT_.out HW_.out (by kernel_rfl)) (fun _ _ _ h => h) (Or.inl ⟨by rfl, ?_⟩) hHeld ?_ ?_
  rotate_left; · (rintro w' ⟨s0, s1, s2, s3, s4, s5, s6, s7, s8, s9, s10, s11, s12, s13, s14, s15, s16, s17, s18, s19, s20, s21, s22, s23⟩; go_simp; with_reducible rfl)
  rotate_left; · (simp only [Act.put, sT_, sO_, sN_, i64_w, i32_w]; rfl)
  refine take_ (i := 7) (N := some 19) (v := ?_) (a' := ?_) (tf_ 8 27) rfl rfl (take_ofW HT_.out HW_.out (by kernel_rfl)) (fun _ _ _ h => h) (Or.inl ⟨by rfl, ?_⟩) hHeld ?_ ?_
  rotate_left; · (rintro w' ⟨s0, s1, s2, s3, s4, s5, s6, s7, s8, s9, s10, s11, s12, s13, s14, s15, s16, s17, s18, s19, s20, s21, s22, s23⟩; go_simp; with_reducible rfl)
  rotate_left; · (simp only [Act.put, sT_, sO_, sN_, i64_w, i32_w]; rfl)
  refine take_ (i := 9) (N := some 21) (v := ?_) (a' := ?_) (tb_ 767 35) rfl rfl (take_ofW HT_.out HW_.out (by kernel_rfl)) (fun _ _ _ h => h) (Or.inl ⟨by rfl, ?_⟩) hHeld ?_ ?_
  rotate_left; · (rintro w' ⟨s0, s1, s2, s3, s4, s5, s6, s7, s8, s9, s10, s11, s12, s13, s14, s15, s16, s17, s18, s19, s20, s21, s22, s23⟩; go_simp; with_reducible rfl)
  rotate_left; · (simp only [Act.put, sT_, sO_, sN_, i64_w, i32_w]; rfl)
  refine one_ (i := 8) (N := some 20) (tf_ 10 25) rfl rfl (one_of HT_.out (by kernel_rfl)) (by decide) (fun K hK => ?_)
  refine goes_ Try.func16 (by kernel_rfl) rfl #[.agg #[.int .i64 5, .bool true, .int .i64 3, .int .i64 0, .int .i64 0, .string (⟨#[]⟩ : ByteArray)], .agg #[.int .i64 6, .bool false, .int .i64 0, .int .i64 2, .int .i64 0, .string (⟨#[97]⟩ : ByteArray)]] (by rfl) rfl rfl (by (try simp only [mT_, mC_, mN_]); first | done | rfl) ?_
  with_reducible refine (cell_Join.calls k 5 true 3 0 0 (⟨#[]⟩ : ByteArray) 6 false 0 2 0 (⟨#[97]⟩ : ByteArray) t178 t179 t180 t181 t182 t183 _ A3.out).mono ?_
  rintro e w30 ⟨rfl, hb⟩
  refine ⟨_, rfl, ?_⟩
  replace BK168 := kB BK168 hb
  replace BK169 := kB BK169 hb
  replace BK170 := kB BK170 hb
  replace BK171 := kB BK171 hb
  replace HB := Aside0.mk (below_step (by repeat (first | (with_reducible first | exact HB.out | apply bA_ | apply bN_ | apply bD_ | refine bS_ ?_ GE168 | refine bS_ ?_ GE169 | refine bS_ ?_ GE170 | refine bS_ ?_ GE171) | exact HB.out)) hb)
  (try clear hb)
  (try clear hb2)
  (try clear hk)
  (try clear hi)
  refine hK.out _ _ (cc6 BK168 (cc6 BK170 (cc6 BK171 (cd6 BK169)))) (fun hHeld => ?_)
  clear hK K
  refine norm_ (a' := ?_) ?_ ?_
  rotate_left
  ·
   show Act.put _ (some 20) _ = _
   simp only [Act.put, sT_, sO_, sN_, i64_w, i32_w]
   rfl
  refine pure_ (i := 10) (N := some 22) (v := ?_) (a' := ?_) (tf_ 11 24) rfl rfl (any_of HT_.out (by kernel_rfl)) (fun _ _ _ h => h) (Or.inl ⟨by rfl, ?_⟩) ?_ ?_
  rotate_left; · (intro w'; go_simp; with_reducible rfl)
  rotate_left; · (simp only [Act.put, sT_, sO_, sN_, i64_w, i32_w]; rfl)
  refine pure_ (i := 11) (N := some 23) (v := ?_) (a' := ?_) (tf_ 12 23) rfl rfl (any_of HT_.out (by kernel_rfl)) (fun _ _ _ h => h) (Or.inl ⟨by rfl, ?_⟩) ?_ ?_
  rotate_left; · (intro w'; go_simp; with_reducible rfl)
  rotate_left; · (simp only [Act.put, sT_, sO_, sN_, i64_w, i32_w]; rfl)
  refine pure_ (i := 12) (N := some 24) (v := ?_) (a' := ?_) (tf_ 13 22) rfl rfl (any_of HT_.out (by kernel_rfl)) (fun _ _ _ h => h) (Or.inl ⟨by rfl, ?_⟩) ?_ ?_
  rotate_left; · (intro w'; go_simp; with_reducible rfl)
  rotate_left; · (simp only [Act.put, sT_, sO_, sN_, i64_w, i32_w]; rfl)
  refine take_ (i := 13) (N := some 25) (v := ?_) (a' := ?_) (tf_ 14 21) rfl rfl (take_ofW HT_.out HW_.out (by kernel_rfl)) (fun _ _ _ h => h) (Or.inl ⟨by rfl, ?_⟩) hHeld ?_ ?_
  rotate_left; · (rintro w' ⟨s0, s1, s2, s3, s4, s5, s6, s7, s8, s9, s10, s11, s12, s13, s14, s15, s16, s17, s18, s19, s20, s21, s22, s23⟩; go_simp; with_reducible rfl)
  rotate_left; · (simp only [Act.put, sT_, sO_, sN_, i64_w, i32_w]; rfl)
  refine take_ (i := 14) (N := some 26) (v := ?_) (a' := ?_) (tf_ 15 20) rfl rfl (take_ofW HT_.out HW_.out (by kernel_rfl)) (fun _ _ _ h => h) (Or.inl ⟨by rfl, ?_⟩) hHeld ?_ ?_
  rotate_left; · (rintro w' ⟨s0, s1, s2, s3, s4, s5, s6, s7, s8, s9, s10, s11, s12, s13, s14, s15, s16, s17, s18, s19, s20, s21, s22, s23⟩; go_simp; with_reducible rfl)
  rotate_left; · (simp only [Act.put, sT_, sO_, sN_, i64_w, i32_w]; rfl)
  refine take_ (i := 16) (N := some 28) (v := ?_) (a' := ?_) (tb_ 98303 35) rfl rfl (take_ofW HT_.out HW_.out (by kernel_rfl)) (fun _ _ _ h => h) (Or.inl ⟨by rfl, ?_⟩) hHeld ?_ ?_
  rotate_left; · (rintro w' ⟨s0, s1, s2, s3, s4, s5, s6, s7, s8, s9, s10, s11, s12, s13, s14, s15, s16, s17, s18, s19, s20, s21, s22, s23⟩; go_simp; with_reducible rfl)
  rotate_left; · (simp only [Act.put, sT_, sO_, sN_, i64_w, i32_w]; rfl)
  refine one_ (i := 15) (N := some 27) (tf_ 17 18) rfl rfl (one_of HT_.out (by kernel_rfl)) (by decide) (fun K hK => ?_)
  refine goes_ Try.func16 (by kernel_rfl) rfl #[.agg #[.int .i64 5, .bool false, .int .i64 0, .int .i64 2, .int .i64 0, .string (⟨#[98]⟩ : ByteArray)], .agg #[.int .i64 5, .bool false, .int .i64 0, .int .i64 2, .int .i64 0, .string (⟨#[97]⟩ : ByteArray)]] (by rfl) rfl rfl (by (try simp only [mT_, mC_, mN_]); first | done | rfl) ?_
  with_reducible refine (cell_Join.calls k 5 false 0 2 0 (⟨#[98]⟩ : ByteArray) 5 false 0 2 0 (⟨#[97]⟩ : ByteArray) t184 t185 t186 t187 t188 t189 _ A5.out).mono ?_
  rintro e w31 ⟨rfl, hb⟩
  refine ⟨_, rfl, ?_⟩
  replace BK168 := kB BK168 hb
  replace BK169 := kB BK169 hb
  replace BK170 := kB BK170 hb
  replace BK171 := kB BK171 hb
  replace HB := Aside0.mk (below_step (by repeat (first | (with_reducible first | exact HB.out | apply bA_ | apply bN_ | apply bD_ | refine bS_ ?_ GE168 | refine bS_ ?_ GE169 | refine bS_ ?_ GE170 | refine bS_ ?_ GE171) | exact HB.out)) hb)
  (try clear hb)
  (try clear hb2)
  (try clear hk)
  (try clear hi)
  refine hK.out _ _ (cc6 BK168 (cc6 BK170 (cc6 BK171 (cd6 BK169)))) (fun hHeld => ?_)
  clear hK K
  refine norm_ (a' := ?_) ?_ ?_
  rotate_left
  ·
   show Act.put _ (some 27) _ = _
   simp only [Act.put, sT_, sO_, sN_, i64_w, i32_w]
   rfl
  refine pure_ (i := 17) (N := some 29) (v := ?_) (a' := ?_) (tf_ 18 17) rfl rfl (any_of HT_.out (by kernel_rfl)) (fun _ _ _ h => h) (Or.inl ⟨by rfl, ?_⟩) ?_ ?_
  rotate_left; · (intro w'; go_simp; with_reducible rfl)
  rotate_left; · (simp only [Act.put, sT_, sO_, sN_, i64_w, i32_w]; rfl)
  refine pure_ (i := 18) (N := some 30) (v := ?_) (a' := ?_) (tf_ 19 16) rfl rfl (any_of HT_.out (by kernel_rfl)) (fun _ _ _ h => h) (Or.inl ⟨by rfl, ?_⟩) ?_ ?_
  rotate_left; · (intro w'; go_simp; with_reducible rfl)
  rotate_left; · (simp only [Act.put, sT_, sO_, sN_, i64_w, i32_w]; rfl)
  refine pure_ (i := 19) (N := some 31) (v := ?_) (a' := ?_) (tf_ 20 15) rfl rfl (any_of HT_.out (by kernel_rfl)) (fun _ _ _ h => h) (Or.inl ⟨by rfl, ?_⟩) ?_ ?_
  rotate_left; · (intro w'; go_simp; with_reducible rfl)
  rotate_left; · (simp only [Act.put, sT_, sO_, sN_, i64_w, i32_w]; rfl)
  refine take_ (i := 20) (N := some 32) (v := ?_) (a' := ?_) (tf_ 21 14) rfl rfl (take_ofW HT_.out HW_.out (by kernel_rfl)) (fun _ _ _ h => h) (Or.inl ⟨by rfl, ?_⟩) hHeld ?_ ?_
  rotate_left; · (rintro w' ⟨s0, s1, s2, s3, s4, s5, s6, s7, s8, s9, s10, s11, s12, s13, s14, s15, s16, s17, s18, s19, s20, s21, s22, s23⟩; go_simp; with_reducible rfl)
  rotate_left; · (simp only [Act.put, sT_, sO_, sN_, i64_w, i32_w]; rfl)
  refine one_ (i := 21) (N := some 33) (tf_ 22 13) rfl rfl (one_of HT_.out (by kernel_rfl)) (by decide) (fun K hK => ?_)
  refine goes_ Try.func18 (by kernel_rfl) rfl #[.agg #[.int .i64 5, .bool false, .int .i64 0, .int .i64 2, .int .i64 0, .string (⟨#[97]⟩ : ByteArray)]] (by rfl) rfl rfl (by (try simp only [mT_, mC_, mN_]); first | done | rfl) ?_
  with_reducible refine (cell_Live.calls 5 false 0 2 0 (⟨#[97]⟩ : ByteArray) true _ A7.out).mono ?_
  rintro e w32 ⟨rfl, hb⟩
  refine ⟨_, rfl, ?_⟩
  replace BK168 := kB BK168 hb
  replace BK169 := kB BK169 hb
  replace BK170 := kB BK170 hb
  replace BK171 := kB BK171 hb
  replace HB := Aside0.mk (below_step (by repeat (first | (with_reducible first | exact HB.out | apply bA_ | apply bN_ | apply bD_ | refine bS_ ?_ GE168 | refine bS_ ?_ GE169 | refine bS_ ?_ GE170 | refine bS_ ?_ GE171) | exact HB.out)) hb)
  (try clear hb)
  (try clear hb2)
  (try clear hk)
  (try clear hi)
  refine hK.out _ _ (cc6 BK168 (cc6 BK170 (cc6 BK171 (cd6 BK169)))) (fun hHeld => ?_)
  clear hK K
  refine norm_ (a' := ?_) ?_ ?_
  rotate_left
  ·
   show Act.put _ (some 33) _ = _
   simp only [Act.put, sT_, sO_, sN_, i64_w, i32_w]
   rfl
  refine pure_ (i := 22) (N := some 34) (v := ?_) (a' := ?_) (tf_ 23 12) rfl rfl (any_of HT_.out (by kernel_rfl)) (fun _ _ _ h => h) (Or.inl ⟨by rfl, ?_⟩) ?_ ?_
  rotate_left; · (intro w'; go_simp; with_reducible rfl)
  rotate_left; · (simp only [Act.put, sT_, sO_, sN_, i64_w, i32_w]; rfl)
  refine pure_ (i := 23) (N := some 35) (v := ?_) (a' := ?_) (tf_ 24 11) rfl rfl (any_of HT_.out (by kernel_rfl)) (fun _ _ _ h => h) (Or.inl ⟨by rfl, ?_⟩) ?_ ?_
  rotate_left; · (intro w'; go_simp; with_reducible rfl)
  rotate_left; · (simp only [Act.put, sT_, sO_, sN_, i64_w, i32_w]; rfl)
  refine take_ (i := 24) (N := some 36) (v := ?_) (a' := ?_) (tf_ 25 10) rfl rfl (take_ofW HT_.out HW_.out (by kernel_rfl)) (fun _ _ _ h => h) (Or.inl ⟨by rfl, ?_⟩) hHeld ?_ ?_
  rotate_left; · (rintro w' ⟨s0, s1, s2, s3, s4, s5, s6, s7, s8, s9, s10, s11, s12, s13, s14, s15, s16, s17, s18, s19, s20, s21, s22, s23⟩; go_simp; with_reducible rfl)
  rotate_left; · (simp only [Act.put, sT_, sO_, sN_, i64_w, i32_w]; rfl)
  refine one_ (i := 25) (N := some 37) (tf_ 26 9) rfl rfl (one_of HT_.out (by kernel_rfl)) (by decide) (fun K hK => ?_)
  refine goes_ Try.func18 (by kernel_rfl) rfl #[.agg #[.int .i64 5, .bool true, .int .i64 3, .int .i64 0, .int .i64 0, .string (⟨#[]⟩ : ByteArray)]] (by rfl) rfl rfl (by (try simp only [mT_, mC_, mN_]); first | done | rfl) ?_
  with_reducible refine (cell_Live.calls 5 true 3 0 0 (⟨#[]⟩ : ByteArray) false _ A9.out).mono ?_
  rintro e w33 ⟨rfl, hb⟩
  refine ⟨_, rfl, ?_⟩
  replace BK168 := kB BK168 hb
  replace BK169 := kB BK169 hb
  replace BK170 := kB BK170 hb
  replace BK171 := kB BK171 hb
  replace HB := Aside0.mk (below_step (by repeat (first | (with_reducible first | exact HB.out | apply bA_ | apply bN_ | apply bD_ | refine bS_ ?_ GE168 | refine bS_ ?_ GE169 | refine bS_ ?_ GE170 | refine bS_ ?_ GE171) | exact HB.out)) hb)
  (try clear hb)
  (try clear hb2)
  (try clear hk)
  (try clear hi)
  refine hK.out _ _ (cc6 BK168 (cc6 BK170 (cc6 BK171 (cd6 BK169)))) (fun hHeld => ?_)
  clear hK K
  refine norm_ (a' := ?_) ?_ ?_
  rotate_left
  ·
   show Act.put _ (some 37) _ = _
   simp only [Act.put, sT_, sO_, sN_, i64_w, i32_w]
   rfl
  refine pure_ (i := 26) (N := some 38) (v := ?_) (a' := ?_) (tf_ 27 8) rfl rfl (any_of HT_.out (by kernel_rfl)) (fun _ _ _ h => h) (Or.inl ⟨by rfl, ?_⟩) ?_ ?_
  rotate_left; · (intro w'; go_simp; with_reducible rfl)
  rotate_left; · (simp only [Act.put, sT_, sO_, sN_, i64_w, i32_w]; rfl)
  refine pure_ (i := 27) (N := some 39) (v := ?_) (a' := ?_) (tf_ 28 7) rfl rfl (any_of HT_.out (by kernel_rfl)) (fun _ _ _ h => h) (Or.inl ⟨by rfl, ?_⟩) ?_ ?_
  rotate_left; · (intro w'; go_simp; with_reducible rfl)
  rotate_left; · (simp only [Act.put, sT_, sO_, sN_, i64_w, i32_w]; rfl)
  refine pure_ (i := 28) (N := some 40) (v := ?_) (a' := ?_) (tf_ 29 6) rfl rfl (any_of HT_.out (by kernel_rfl)) (fun _ _ _ h => h) (Or.inl ⟨by rfl, ?_⟩) ?_ ?_
  rotate_left; · (intro w'; go_simp; with_reducible rfl)
  rotate_left; · (simp only [Act.put, sT_, sO_, sN_, i64_w, i32_w]; rfl)
  refine take_ (i := 30) (N := some 42) (v := ?_) (a' := ?_) (tb_ 1610612735 35) rfl rfl (take_ofW HT_.out HW_.out (by kernel_rfl)) (fun _ _ _ h => h) (Or.inl ⟨by rfl, ?_⟩) hHeld ?_ ?_
  rotate_left; · (rintro w' ⟨s0, s1, s2, s3, s4, s5, s6, s7, s8, s9, s10, s11, s12, s13, s14, s15, s16, s17, s18, s19, s20, s21, s22, s23⟩; go_simp; with_reducible rfl)
  rotate_left; · (simp only [Act.put, sT_, sO_, sN_, i64_w, i32_w]; rfl)
  refine one_ (i := 29) (N := some 41) (tf_ 31 4) rfl rfl (one_of HT_.out (by kernel_rfl)) (by decide) (fun K hK => ?_)
  refine goes_ Try.func19 (by kernel_rfl) rfl #[.string (⟨#[97]⟩ : ByteArray)] (by rfl) rfl rfl (by (try simp only [mT_, mC_, mN_]); first | done | rfl) ?_
  with_reducible refine (skerrylaw05_key.calls (⟨#[97]⟩ : ByteArray) t192 t193 t194 t195 _ A11.out).mono ?_
  rintro e w34 ⟨rfl, hb⟩
  refine ⟨_, rfl, ?_⟩
  replace BK168 := kB BK168 hb
  replace BK169 := kB BK169 hb
  replace BK170 := kB BK170 hb
  replace BK171 := kB BK171 hb
  replace HB := Aside0.mk (below_step (by repeat (first | (with_reducible first | exact HB.out | apply bA_ | apply bN_ | apply bD_ | refine bS_ ?_ GE168 | refine bS_ ?_ GE169 | refine bS_ ?_ GE170 | refine bS_ ?_ GE171) | exact HB.out)) hb)
  (try clear hb)
  (try clear hb2)
  (try clear hk)
  (try clear hi)
  refine hK.out _ _ (cc6 BK168 (cc6 BK170 (cc6 BK171 (cd6 BK169)))) (fun hHeld => ?_)
  clear hK K
  refine norm_ (a' := ?_) ?_ ?_
  rotate_left
  ·
   show Act.put _ (some 41) _ = _
   simp only [Act.put, sT_, sO_, sN_, i64_w, i32_w]
   rfl
  refine pure_ (i := 31) (N := some 43) (v := ?_) (a' := ?_) (tf_ 32 3) rfl rfl (any_of HT_.out (by kernel_rfl)) (fun _ _ _ h => h) (Or.inl ⟨by rfl, ?_⟩) ?_ ?_
  rotate_left; · (intro w'; go_simp; with_reducible rfl)
  rotate_left; · (simp only [Act.put, sT_, sO_, sN_, i64_w, i32_w]; rfl)
  refine one_ (i := 32) (N := some 44) (tf_ 33 2) rfl rfl (one_of HT_.out (by kernel_rfl)) (by decide) (fun K hK => ?_)
  refine goes_ Try.func12 (by kernel_rfl) rfl #[.agg #[.string t192, .string t193, .int .i64 t194, .string t195, .int .i64 5, .bool false, .int .i64 0, .int .i64 2, .int .i64 0, .string (⟨#[97]⟩ : ByteArray)]] (by rfl) rfl rfl (by (try simp only [mT_, mC_, mN_]); first | done | rfl) ?_
  with_reducible refine (cell_Good.calls t192 t193 t194 t195 5 false 0 2 0 (⟨#[97]⟩ : ByteArray) t196 _ A12.out).mono ?_
  rintro e w35 ⟨rfl, hb⟩
  refine ⟨_, rfl, ?_⟩
  replace BK168 := kB BK168 hb
  replace BK169 := kB BK169 hb
  replace BK170 := kB BK170 hb
  replace BK171 := kB BK171 hb
  replace HB := Aside0.mk (below_step (by repeat (first | (with_reducible first | exact HB.out | apply bA_ | apply bN_ | apply bD_ | refine bS_ ?_ GE168 | refine bS_ ?_ GE169 | refine bS_ ?_ GE170 | refine bS_ ?_ GE171) | exact HB.out)) hb)
  (try clear hb)
  (try clear hb2)
  (try clear hk)
  (try clear hi)
  refine hK.out _ _ (cc6 BK168 (cc6 BK170 (cc6 BK171 (cd6 BK169)))) (fun hHeld => ?_)
  clear hK K
  refine norm_ (a' := ?_) ?_ ?_
  rotate_left
  ·
   show Act.put _ (some 44) _ = _
   simp only [Act.put, sT_, sO_, sN_, i64_w, i32_w]
   rfl
  refine pure_ (i := 33) (N := some 45) (v := ?_) (a' := ?_) (tf_ 34 1) rfl rfl (any_of HT_.out (by kernel_rfl)) (fun _ _ _ h => h) (Or.inl ⟨by rfl, ?_⟩) ?_ ?_
  rotate_left; · (intro w'; go_simp; with_reducible rfl)
  rotate_left; · (simp only [Act.put, sT_, sO_, sN_, i64_w, i32_w]; rfl)
  refine pure_ (i := 34) (N := some 0) (v := ?_) (a' := ?_) (tf_ 35 0) rfl rfl (any_of HT_.out (by kernel_rfl)) (fun _ _ _ h => h) (Or.inl ⟨by rfl, ?_⟩) ?_ ?_
  rotate_left; · (intro w'; go_simp; with_reducible rfl)
  rotate_left; · (simp only [Act.put, sT_, sO_, sN_, i64_w, i32_w]; rfl)
  refine done_ (done_of HT_.out (by kernel_rfl)) ?_
  try go_wp2
  go_ret
  exact ⟨by first | rfl | (simp <;> rfl) | (simp [*] <;> rfl), by repeat (first | (with_reducible first | exact HB.out | apply bA_ | apply bN_ | apply bD_ | refine bS_ ?_ GE168 | refine bS_ ?_ GE169 | refine bS_ ?_ GE170 | refine bS_ ?_ GE171) | exact HB.out)⟩
end Go.Proofs.Ytaedmofnhjaljaa.Q
