/- Lemmas for this claim's walk: no condition of their own. -/
import Derived.Test.YtafhnjlihhfoaaaUcSq
import Derived.Test.YtafhnjlihhfoaaaUcQx0
import Derived.Test.YtafhnjlihhfoaaaUcJ16
import Derived.Test.YtafhnjlihhfoaaaUcQx6
import Derived.Test.YtafhnjlihhfoaaaUcJ21
namespace Go.Proofs.Ytafhnjlihhfoaaa.Q
open Go.RowKit Go.Proofs.YtafhnjlihhfoaaaW.PrintWords Go.Proofs.YtafhnjlihhfoaaaW.PrintLast Go.Proofs.YtafhnjlihhfoaaaW.PrintMore
attribute [local go_sem] max2_int min2_int max_two min_two max_three min_three max_four min_four
set_option linter.unusedVariables false
set_option linter.unusedSimpArgs false
attribute [local go_sem high] eqA36
def cell_Cmp.f (k : Nat) (a0_0 : Int) (a0_1 : Bool) (a0_2 : Int) (a0_3 : Int) (a0_4 : Int) (a0_5 : ByteArray) (a1_0 : Int) (a1_1 : Bool) (a1_2 : Int) (a1_3 : Int) (a1_4 : Int) (a1_5 : ByteArray) : Option (Int) := if (a0_0 == a1_0 && (a0_1 == a1_1 && (a0_2 == a1_2 && ((a0_3 == a1_3 && (a0_4 == a1_4 && (a0_5.toList == a1_5.toList))))))) = true then (some 0) else ((cmp_Compare_int.f a0_0 a1_0).bind fun t127 => ((cell_rank.f a0_1).bind fun t128 => ((cell_rank.f a1_1).bind fun t129 => ((cmp_Compare_int.f t128 t129).bind fun t130 => ((cmp_Or_int.f k (([t127, t130] : List Int))).bind fun t134 => (if t134 = 0 then (if a0_1 = true then ((cmp_Compare_int.f a0_2 a1_2).bind fun t135 => (some t135)) else ((cmp_Compare_int.f a0_3 a1_3).bind fun t138 => ((cmp_Compare_int.f a0_4 a1_4).bind fun t139 => ((cmp_Compare_string.f a0_5 a1_5).bind fun t140 => ((cmp_Or_int.f k (([t138, t139, t140] : List Int))).bind fun t144 => (some t144)))))) else (some t134)))))))
def cell_Cmp.T3 : Bool × List (List Nat × List Nat) := (true, [([], []), ([0], [0]), ([], []), ([2], [2]), ([1, 3], [1, 3]), ([], []), ([5], [5]), ([6, 4], [6]), ([], []), ([8], [8]), ([9, 7], [9]), ([7, 10, 10], [7, 10]), ([4, 11], [4, 11]), ([12, 11], [12]), ([13, 13, 0, 1, 2, 3, 4, 5, 6, 7, 8, 9, 10, 11, 12, 13], [13])])
def cell_Cmp.B3 : List Nat := [0, 1, 0, 4, 15, 0, 32, 127, 0, 256, 1023, 2047, 4095, 8191, 16383]
theorem cell_Cmp.tab3 : rtab .any (opsOf Try.f68 3) = cell_Cmp.T3 := by kernel_rfl
theorem cell_Cmp.bits3 : waitsOk cell_Cmp.T3.2 cell_Cmp.B3 = true := by kernel_rfl
def cell_Cmp.T8 : Bool × List (List Nat × List Nat) := (true, [([], []), ([0], [0]), ([], []), ([2], [2]), ([], []), ([], []), ([4, 1, 0, 1, 4, 5], [1, 4]), ([5, 3, 6, 0, 1, 2, 3, 4, 5, 6], [3, 5])])
def cell_Cmp.B8 : List Nat := [0, 1, 0, 4, 0, 0, 51, 127]
theorem cell_Cmp.tab8 : rtab .any (opsOf Try.f68 8) = cell_Cmp.T8 := by kernel_rfl
theorem cell_Cmp.bits8 : waitsOk cell_Cmp.T8.2 cell_Cmp.B8 = true := by kernel_rfl
def cell_Cmp.T9 : Bool × List (List Nat × List Nat) := (true, [([], []), ([0], [0]), ([], []), ([2], [2]), ([1, 3], [1, 3]), ([], []), ([5], [5]), ([], []), ([7], [7]), ([6, 8, 4], [6, 8]), ([], []), ([10], [10]), ([], []), ([12], [12]), ([11, 13, 9], [11, 13]), ([4, 9, 14], [4, 9, 14]), ([15, 14], [15]), ([16, 16, 0, 1, 2, 3, 4, 5, 6, 7, 8, 9, 10, 11, 12, 13, 14, 15, 16], [16])])
def cell_Cmp.B9 : List Nat := [0, 1, 0, 4, 15, 0, 32, 0, 128, 511, 0, 1024, 0, 4096, 16383, 32767, 65535, 131071]
theorem cell_Cmp.tab9 : rtab .any (opsOf Try.f68 9) = cell_Cmp.T9 := by kernel_rfl
theorem cell_Cmp.bits9 : waitsOk cell_Cmp.T9.2 cell_Cmp.B9 = true := by kernel_rfl
set_option maxHeartbeats 8000000 in
set_option maxRecDepth 100000 in
theorem cell_Cmp.calls (k : Nat) (a0_0 : Int) (a0_1 : Bool) (a0_2 : Int) (a0_3 : Int) (a0_4 : Int) (a0_5 : ByteArray) (a1_0 : Int) (a1_1 : Bool) (a1_2 : Int) (a1_3 : Int) (a1_4 : Int) (a1_5 : ByteArray) (r : Int) (w : World) (h : cell_Cmp.f k a0_0 a0_1 a0_2 a0_3 a0_4 a0_5 a1_0 a1_1 a1_2 a1_3 a1_4 a1_5 = some r) :
  Calls Try.prog 68 #[.agg #[.int .i64 a0_0, .bool a0_1, .int .i64 a0_2, .int .i64 a0_3, .int .i64 a0_4, .string a0_5], .agg #[.int .i64 a1_0, .bool a1_1, .int .i64 a1_2, .int .i64 a1_3, .int .i64 a1_4, .string a1_5]] w fun e w' => e = .returned (.int .i64 r) ∧ Below w.heap.size w w' := by
 have hu36 := Try.underlying36
 have hu34 := Try.underlying34
 have HB := Aside0.mk (Below.refl w.heap.size w)
 have H : (if (a0_0 == a1_0 && (a0_1 == a1_1 && (a0_2 == a1_2 && ((a0_3 == a1_3 && (a0_4 == a1_4 && (a0_5.toList == a1_5.toList))))))) = true then (some 0) else ((cmp_Compare_int.f a0_0 a1_0).bind fun t127 => ((cell_rank.f a0_1).bind fun t128 => ((cell_rank.f a1_1).bind fun t129 => ((cmp_Compare_int.f t128 t129).bind fun t130 => ((cmp_Or_int.f k (([t127, t130] : List Int))).bind fun t134 => (if t134 = 0 then (if a0_1 = true then ((cmp_Compare_int.f a0_2 a1_2).bind fun t135 => (some t135)) else ((cmp_Compare_int.f a0_3 a1_3).bind fun t138 => ((cmp_Compare_int.f a0_4 a1_4).bind fun t139 => ((cmp_Compare_string.f a0_5 a1_5).bind fun t140 => ((cmp_Or_int.f k (([t138, t139, t140] : List Int))).bind fun t144 => (some t144)))))) else (some t134)))))))) = some r := h
 clear h
 by_cases c3 : (a0_0 == a1_0 && (a0_1 == a1_1 && (a0_2 == a1_2 && ((a0_3 == a1_3 && (a0_4 == a1_4 && (a0_5.toList == a1_5.toList))))))) = true
 ·
  rw [if_pos c3] at H
  have c3b0 : (a0_0 == a1_0 && (a0_1 == a1_1 && (a0_2 == a1_2 && ((a0_3 == a1_3 && (a0_4 == a1_4 && (a0_5.toList == a1_5.toList))))))) = true := c3
  (try (have c3b1 : decide (a0_0 = a1_0 && (a0_1 == a1_1 && (a0_2 == a1_2 && ((a0_3 == a1_3 && (a0_4 == a1_4 && (a0_5.toList == a1_5.toList))))))) = true := by simpa using c3))
  (try (have c3b2 : (a0_0 == a1_0 && (a0_1 == a1_1 && (a0_2 == a1_2 && ((a0_3 == a1_3 && (a0_4 == a1_4 && (a0_5.toList == a1_5.toList))))))) = true := by simpa using c3))
  clear c3
  obtain rfl := Option.some.inj H
  go_enter Try.func68, Try.ntmps68
  go_wp2_with (first | ((with_reducible refine gate_dst (N := 2) rfl ?_); refine box_event ?hg (N := 2) ?hd (cs := #[.int .i64 a0_0, .bool a0_1, .int .i64 a0_2, .int .i64 a0_3, .int .i64 a0_4, .string a0_5]) (t := 36) ?hr ?_; (case hd => rfl); (case hg => rfl); (case hr => first | (go_simp; done) | (go_simp; rfl)); intro gb125 hg w4 hbox hb; have BK125 := Aside0.mk (hbox); have GW125 := Aside0.mk ((by rw [hg]; exact (bZ_ (kwW HB)) : w.heap.size ≤ gb125)); replace HB := Aside0.mk (below_step (kwW HB) hb); have GE125 := GW125; clear hb hbox hg) | ((with_reducible refine gate_dst (N := 3) rfl ?_); refine box_event ?hg (N := 3) ?hd (cs := #[.int .i64 a1_0, .bool a1_1, .int .i64 a1_2, .int .i64 a1_3, .int .i64 a1_4, .string a1_5]) (t := 36) ?hr ?_; (case hd => rfl); (case hg => rfl); (case hr => first | (go_simp; done) | (go_simp; rfl)); intro gb126 hg w5 hbox hb; have BK126 := Aside0.mk (hbox); have GW126 := Aside0.mk ((by rw [hg]; exact (bZ_ (by repeat (first | (with_reducible first | exact HB.out | apply bA_ | apply bN_ | apply bD_ | refine bS_ ?_ GE125) | exact HB.out))) : w.heap.size ≤ gb126)); replace HB := Aside0.mk (below_step (by repeat (first | (with_reducible first | exact HB.out | apply bA_ | apply bN_ | apply bD_ | refine bS_ ?_ GE125) | exact HB.out)) hb); have GE126 := GW126; have NB125_126 := Aside0.mk ((by rw [hg]; exact Nat.ne_of_lt (blk_lt (kbW BK125)) : gb125 ≠ gb126)); have NB126_125 := Aside0.mk ((by rw [hg]; exact Nat.ne_of_gt (blk_lt (kbW BK125)) : gb126 ≠ gb125)); replace BK125 := kB BK125 hb; clear hb hbox hg; have hnb6 := NB125_126.out; have hnc6 := NB126_125.out; obtain ⟨_, _, _, _, _, _, _, _, _, _, _, _⟩ := czf6 BK125; obtain ⟨_, _, _, _, _, _, _, _, _, _, _, _⟩ := czf6 BK126))
  go_ret
  exact ⟨by first | rfl | (simp <;> rfl) | (simp [*] <;> rfl), by repeat (first | (with_reducible first | exact HB.out | apply bA_ | apply bN_ | apply bD_ | refine bS_ ?_ GE125 | refine bS_ ?_ GE126) | exact HB.out)⟩
 ·
  rw [if_neg c3] at H
  have c3b0 : (a0_0 == a1_0 && (a0_1 == a1_1 && (a0_2 == a1_2 && ((a0_3 == a1_3 && (a0_4 == a1_4 && (a0_5.toList == a1_5.toList))))))) = false := by simpa using c3
  (try (have c3b1 : decide (a0_0 = a1_0 && (a0_1 == a1_1 && (a0_2 == a1_2 && ((a0_3 == a1_3 && (a0_4 == a1_4 && (a0_5.toList == a1_5.toList))))))) = false := by simpa using c3))
  (try (have c3b2 : (a0_0 == a1_0 && (a0_1 == a1_1 && (a0_2 == a1_2 && ((a0_3 == a1_3 && (a0_4 == a1_4 && (a0_5.toList == a1_5.toList))))))) = false := by simpa using c3))
  (try (have c3b3 : ¬ (a0_0 = a1_0 && (a0_1 == a1_1 && (a0_2 == a1_2 && ((a0_3 == a1_3 && (a0_4 == a1_4 && (a0_5.toList == a1_5.toList))))))) := by simpa using c3))
  clear c3
  replace H := Option.bind_eq_some_iff.mp H
  obtain ⟨t127, A90, H⟩ := H
  have A9 := Aside0.mk A90
  clear A90
  replace H := Option.bind_eq_some_iff.mp H
  obtain ⟨t128, A100, H⟩ := H
  have A10 := Aside0.mk A100
  clear A100
  replace H := Option.bind_eq_some_iff.mp H
  obtain ⟨t129, A110, H⟩ := H
  have A11 := Aside0.mk A110
  clear A110
  replace H := Option.bind_eq_some_iff.mp H
  obtain ⟨t130, A120, H⟩ := H
  have A12 := Aside0.mk A120
  clear A120
  obtain ⟨y131, hy131⟩ : ∃ y_ : List Int, y_ = (([t127, t130] : List Int)) := ⟨_, rfl⟩
  replace H : ((cmp_Or_int.f k y131).bind fun t134 => (if t134 = 0 then (if a0_1 = true then ((cmp_Compare_int.f a0_2 a1_2).bind fun t135 => (some t135)) else ((cmp_Compare_int.f a0_3 a1_3).bind fun t138 => ((cmp_Compare_int.f a0_4 a1_4).bind fun t139 => ((cmp_Compare_string.f a0_5 a1_5).bind fun t140 => ((cmp_Or_int.f k (([t138, t139, t140] : List Int))).bind fun t144 => (some t144)))))) else (some t134))) = some r := by first | (rw [hy131]; with_reducible exact H) | (have H2_ := (Option.bind_some _ _).symm.trans H; rw [hy131]; with_reducible exact H2_) | (have H2_ := (Option.bind_some _ _).symm.trans H; with_reducible exact H2_) | with_reducible exact H | (rw [hy131]; exact H) | exact H
  have Ny131 := Aside0.mk hy131
  clear hy131
  replace H := Option.bind_eq_some_iff.mp H
  obtain ⟨t134, A130, H⟩ := H
  have A13 := Aside0.mk A130
  clear A130
  by_cases c14 : t134 = 0
  rotate_left
  ·
   rw [if_neg c14] at H
   have c14b0 : (t134 == 0) = false := beq_eq_false_iff_ne.mpr c14
   have c14b1 : (t134 != 0) = true := bne_iff_ne.mpr c14
   obtain rfl := Option.some.inj H
   go_enter Try.func68, Try.ntmps68
   try go_wp2_with (first | ((with_reducible refine gate_dst (N := 2) rfl ?_); refine box_event ?hg (N := 2) ?hd (cs := #[.int .i64 a0_0, .bool a0_1, .int .i64 a0_2, .int .i64 a0_3, .int .i64 a0_4, .string a0_5]) (t := 36) ?hr ?_; (case hd => rfl); (case hg => rfl); (case hr => first | (go_simp; done) | (go_simp; rfl)); intro gb125 hg w57 hbox hb; have BK125 := Aside0.mk (hbox); have GW125 := Aside0.mk ((by rw [hg]; exact (bZ_ (kwW HB)) : w.heap.size ≤ gb125)); replace HB := Aside0.mk (below_step (kwW HB) hb); have GE125 := GW125; clear hb hbox hg) | ((with_reducible refine gate_dst (N := 3) rfl ?_); refine box_event ?hg (N := 3) ?hd (cs := #[.int .i64 a1_0, .bool a1_1, .int .i64 a1_2, .int .i64 a1_3, .int .i64 a1_4, .string a1_5]) (t := 36) ?hr ?_; (case hd => rfl); (case hg => rfl); (case hr => first | (go_simp; done) | (go_simp; rfl)); intro gb126 hg w58 hbox hb; have BK126 := Aside0.mk (hbox); have GW126 := Aside0.mk ((by rw [hg]; exact (bZ_ (by repeat (first | (with_reducible first | exact HB.out | apply bA_ | apply bN_ | apply bD_ | refine bS_ ?_ GE125) | exact HB.out))) : w.heap.size ≤ gb126)); replace HB := Aside0.mk (below_step (by repeat (first | (with_reducible first | exact HB.out | apply bA_ | apply bN_ | apply bD_ | refine bS_ ?_ GE125) | exact HB.out)) hb); have GE126 := GW126; have NB125_126 := Aside0.mk ((by rw [hg]; exact Nat.ne_of_lt (blk_lt (kbW BK125)) : gb125 ≠ gb126)); have NB126_125 := Aside0.mk ((by rw [hg]; exact Nat.ne_of_gt (blk_lt (kbW BK125)) : gb126 ≠ gb125)); replace BK125 := kB BK125 hb; clear hb hbox hg; have hnb59 := NB125_126.out; have hnc59 := NB126_125.out; obtain ⟨_, _, _, _, _, _, _, _, _, _, _, _⟩ := czf6 BK125; obtain ⟨_, _, _, _, _, _, _, _, _, _, _, _⟩ := czf6 BK126))
   replace BK125 := Aside0.mk (blk_drew BK125.out)
   replace BK126 := Aside0.mk (blk_drew BK126.out)
   replace HB := Aside0.mk (below_drew1 HB.out)
   refine start_ (n := 15) (S := fun w' => w'.cell? ⟨gb125, 0, none⟩ = some (.int .i64 a0_0) ∧ w'.cell? ⟨gb125, 1, none⟩ = some (.bool a0_1) ∧ w'.cell? ⟨gb125, 2, none⟩ = some (.int .i64 a0_2) ∧ w'.cell? ⟨gb125, 3, none⟩ = some (.int .i64 a0_3) ∧ w'.cell? ⟨gb125, 4, none⟩ = some (.int .i64 a0_4) ∧ w'.cell? ⟨gb125, 5, none⟩ = some (.string a0_5) ∧ w'.cell? ⟨gb126, 0, none⟩ = some (.int .i64 a1_0) ∧ w'.cell? ⟨gb126, 1, none⟩ = some (.bool a1_1) ∧ w'.cell? ⟨gb126, 2, none⟩ = some (.int .i64 a1_2) ∧ w'.cell? ⟨gb126, 3, none⟩ = some (.int .i64 a1_3) ∧ w'.cell? ⟨gb126, 4, none⟩ = some (.int .i64 a1_4) ∧ w'.cell? ⟨gb126, 5, none⟩ = some (.string a1_5)) (ds := []) (tf_ 0 15) (by kernel_rfl) rfl rfl (cc6 BK125 (cd6 BK126)) (fun hHeld => ?_); refine with_tabW cell_Cmp.tab3 cell_Cmp.bits3 (fun HT_ HW_ => ?_)
   generalize w58.drew = w62 at BK125 BK126 HB hHeld ⊢
   refine pure_ (i := 0) (N := some 11) (v := ?_) (a' := ?_) (tf_ 1 14) rfl rfl (any_of HT_.out (by kernel_rfl)) (fun _ _ _ h => h) (Or.inl ⟨by rfl, ?_⟩) ?_ ?_
   rotate_left; · (intro w'; go_simp; with_reducible rfl)
   rotate_left; · (simp only [Act.put, sT_, sO_, sN_, i64_w, i32_w]; rfl)
   refine pure_ (i := 2) (N := some 13) (v := ?_) (a' := ?_) (tb_ 5 15) rfl rfl (any_of HT_.out (by kernel_rfl)) (fun _ _ _ h => h) (Or.inl ⟨by rfl, ?_⟩) ?_ ?_
   rotate_left; · (intro w'; go_simp; with_reducible rfl)
   rotate_left; · (simp only [Act.put, sT_, sO_, sN_, i64_w, i32_w]; rfl)
   refine pure_ (i := 5) (N := some 16) (v := ?_) (a' := ?_) (tb_ 37 15) rfl rfl (any_of HT_.out (by kernel_rfl)) (fun _ _ _ h => h) (Or.inl ⟨by rfl, ?_⟩) ?_ ?_
   rotate_left; · (intro w'; go_simp; with_reducible rfl)
   rotate_left; · (simp only [Act.put, sT_, sO_, sN_, i64_w, i32_w]; rfl)
   refine pure_ (i := 8) (N := some 19) (v := ?_) (a' := ?_) (tb_ 293 15) rfl rfl (any_of HT_.out (by kernel_rfl)) (fun _ _ _ h => h) (Or.inl ⟨by rfl, ?_⟩) ?_ ?_
   rotate_left; · (intro w'; go_simp; with_reducible rfl)
   rotate_left; · (simp only [Act.put, sT_, sO_, sN_, i64_w, i32_w]; rfl)
   refine take_ (i := 1) (N := some 12) (v := ?_) (a' := ?_) (tb_ 295 15) rfl rfl (take_ofW HT_.out HW_.out (by kernel_rfl)) (fun _ _ _ h => h) (Or.inl ⟨by rfl, ?_⟩) hHeld ?_ ?_
   rotate_left; · (rintro w' ⟨s0, s1, s2, s3, s4, s5, s6, s7, s8, s9, s10, s11⟩; go_simp; with_reducible rfl)
   rotate_left; · (simp only [Act.put, sT_, sO_, sN_, i64_w, i32_w]; rfl)
   refine take_ (i := 3) (N := some 14) (v := ?_) (a' := ?_) (tb_ 303 15) rfl rfl (take_ofW HT_.out HW_.out (by kernel_rfl)) (fun _ _ _ h => h) (Or.inl ⟨by rfl, ?_⟩) hHeld ?_ ?_
   rotate_left; · (rintro w' ⟨s0, s1, s2, s3, s4, s5, s6, s7, s8, s9, s10, s11⟩; go_simp; with_reducible rfl)
   rotate_left; · (simp only [Act.put, sT_, sO_, sN_, i64_w, i32_w]; rfl)
   refine take_ (i := 6) (N := some 17) (v := ?_) (a' := ?_) (tb_ 367 15) rfl rfl (take_ofW HT_.out HW_.out (by kernel_rfl)) (fun _ _ _ h => h) (Or.inl ⟨by rfl, ?_⟩) hHeld ?_ ?_
   rotate_left; · (rintro w' ⟨s0, s1, s2, s3, s4, s5, s6, s7, s8, s9, s10, s11⟩; go_simp; with_reducible rfl)
   rotate_left; · (simp only [Act.put, sT_, sO_, sN_, i64_w, i32_w]; rfl)
   refine take_ (i := 9) (N := some 20) (v := ?_) (a' := ?_) (tb_ 879 15) rfl rfl (take_ofW HT_.out HW_.out (by kernel_rfl)) (fun _ _ _ h => h) (Or.inl ⟨by rfl, ?_⟩) hHeld ?_ ?_
   rotate_left; · (rintro w' ⟨s0, s1, s2, s3, s4, s5, s6, s7, s8, s9, s10, s11⟩; go_simp; with_reducible rfl)
   rotate_left; · (simp only [Act.put, sT_, sO_, sN_, i64_w, i32_w]; rfl)
   refine one_ (i := 4) (N := some 15) (tb_ 895 15) rfl rfl (one_of HT_.out (by kernel_rfl)) (by decide) (fun K hK => ?_)
   refine goes_ Try.func67 (by kernel_rfl) rfl #[.int .i64 a0_0, .int .i64 a1_0] (by rfl) rfl rfl (by (try simp only [mT_, mC_, mN_]); first | done | rfl) ?_
   with_reducible refine (cmp_Compare_int.calls a0_0 a1_0 t127 _ A9.out).mono ?_
   rintro e w' ⟨rfl, ⟨nd, rfl⟩⟩
   refine ⟨_, rfl, ?_⟩
   refine hK.out _ _ (cc6 BK125 (cd6 BK126)) (fun hHeld => ?_)
   clear hK K
   refine norm_ (a' := ?_) ?_ ?_
   rotate_left
   ·
    show Act.put _ (some 15) _ = _
    simp only [Act.put, sT_, sO_, sN_, i64_w, i32_w]
    rfl
   refine one_ (i := 7) (N := some 18) (tf_ 10 5) rfl rfl (one_of HT_.out (by kernel_rfl)) (by decide) (fun K hK => ?_)
   refine goes_ Try.func88 (by kernel_rfl) rfl #[.bool a0_1] (by rfl) rfl rfl (by (try simp only [mT_, mC_, mN_]); first | done | rfl) ?_
   with_reducible refine (cell_rank.calls a0_1 t128 _ A10.out).mono ?_
   rintro e w' ⟨rfl, ⟨nd, rfl⟩⟩
   refine ⟨_, rfl, ?_⟩
   refine hK.out _ _ (cc6 BK125 (cd6 BK126)) (fun hHeld => ?_)
   clear hK K
   refine norm_ (a' := ?_) ?_ ?_
   rotate_left
   ·
    show Act.put _ (some 18) _ = _
    simp only [Act.put, sT_, sO_, sN_, i64_w, i32_w]
    rfl
   refine one_ (i := 10) (N := some 21) (tf_ 11 4) rfl rfl (one_of HT_.out (by kernel_rfl)) (by decide) (fun K hK => ?_)
   refine goes_ Try.func88 (by kernel_rfl) rfl #[.bool a1_1] (by rfl) rfl rfl (by (try simp only [mT_, mC_, mN_]); first | done | rfl) ?_
   with_reducible refine (cell_rank.calls a1_1 t129 _ A11.out).mono ?_
   rintro e w' ⟨rfl, ⟨nd, rfl⟩⟩
   refine ⟨_, rfl, ?_⟩
   refine hK.out _ _ (cc6 BK125 (cd6 BK126)) (fun hHeld => ?_)
   clear hK K
   refine norm_ (a' := ?_) ?_ ?_
   rotate_left
   ·
    show Act.put _ (some 21) _ = _
    simp only [Act.put, sT_, sO_, sN_, i64_w, i32_w]
    rfl
   refine one_ (i := 11) (N := some 22) (tf_ 12 3) rfl rfl (one_of HT_.out (by kernel_rfl)) (by decide) (fun K hK => ?_)
   refine goes_ Try.func67 (by kernel_rfl) rfl #[.int .i64 t128, .int .i64 t129] (by rfl) rfl rfl (by (try simp only [mT_, mC_, mN_]); first | done | rfl) ?_
   with_reducible refine (cmp_Compare_int.calls t128 t129 t130 _ A12.out).mono ?_
   rintro e w' ⟨rfl, ⟨nd, rfl⟩⟩
   refine ⟨_, rfl, ?_⟩
   refine hK.out _ _ (cc6 BK125 (cd6 BK126)) (fun hHeld => ?_)
   clear hK K
   refine norm_ (a' := ?_) ?_ ?_
   rotate_left
   ·
    show Act.put _ (some 22) _ = _
    simp only [Act.put, sT_, sO_, sN_, i64_w, i32_w]
    rfl
   refine one_ (i := 12) (N := some 23) (tf_ 13 2) rfl rfl (one_of HT_.out (by kernel_rfl)) (by decide) (fun K hK => ?_)
   refine Kd.R_lit_step (Kd.int .i64) _ 3 ?hg (N := 23) ?hd (xs := ([t127, t130] : List Int)) (inner := [.int .i64 t127, .int .i64 t130]) (ok := fun _ => True) (okp := fun _ => True) ?hr ?hp (fun _ hk => hk) trivial (Below.refl _ _) (Nat.le_refl _) (by simp) ?_; (case hd => rfl); (case hg => rfl); (case hr => first | (go_simp; done) | (go_simp; rfl)); (case hp => exact (Reps.one (show Kd.M (Kd.int .i64) _ _ _ t127 [.int .i64 t127] from rfl) (Reps.one (show Kd.M (Kd.int .i64) _ _ _ t130 [.int .i64 t130] from rfl) (Reps.none _ _))))
   intro v132 w63 ho64 hb hg_ hnew_
   clear hg_ hnew_
   (first | rw [← Ny131.out] at ho64 | (simp only [Int.reduceToNat] at ho64; rw [← Ny131.out] at ho64))
   have HO133 := Aside0.mk (Kd.R_lower ho64 (bZ_ (by repeat (first | (with_reducible first | exact HB.out | apply bA_ | apply bN_ | apply bD_ | refine bS_ ?_ GE125 | refine bS_ ?_ GE126) | exact HB.out))))
   replace BK125 := kB BK125 hb
   replace BK126 := kB BK126 hb
   replace HB := Aside0.mk (below_step (by repeat (first | (with_reducible first | exact HB.out | apply bA_ | apply bN_ | apply bD_ | refine bS_ ?_ GE125 | refine bS_ ?_ GE126) | exact HB.out)) hb)
   clear hb ho64
   obtain ⟨Ao65, co65, eo65⟩ := Kd.R_slice HO133.out
   (first | subst eo65 | (injection eo65 with f1_ f2_ f3_; have f4_ := f1_.symm; have f5_ := f3_.symm; clear f1_ f2_ f3_; subst f4_; subst f5_))
   refine hK.out _ _ (cc6 BK125 (cd6 BK126)) (fun hHeld => ?_)
   clear hK K
   refine norm_ (a' := ?_) ?_ ?_
   rotate_left
   ·
    show Act.put _ (some 23) _ = _
    simp only [Act.put, sT_, sO_, sN_, i64_w, i32_w]
    rfl
   refine one_ (i := 13) (N := some 24) (tf_ 14 1) rfl rfl (one_of HT_.out (by kernel_rfl)) (by decide) (fun K hK => ?_)
   refine goes_ Try.func87 (by kernel_rfl) rfl #[.slice Ao65 y131.length co65] (by rfl) rfl rfl (by (try simp only [mT_, mC_, mN_]); first | done | rfl) ?_
   with_reducible refine (cmp_Or_int.calls k _ _ y131 t134 _ ?side1 ?side2 A13.out).mono ?_
   (case side1 => repeat (first | exact (Kd.R_reads' HO133.out).2.2 | (with_reducible refine Kd.C_alloc ?_ _) | (with_reducible refine Kd.C_drewN ?_ _) | (with_reducible refine Kd.C_drew ?_)))
   (case side2 => exact (Kd.R_reads' HO133.out).2.1)
   rintro e w' ⟨rfl, ⟨nd, rfl⟩⟩
   refine ⟨_, rfl, ?_⟩
   refine hK.out _ _ (cc6 BK125 (cd6 BK126)) (fun hHeld => ?_)
   clear hK K
   refine norm_ (a' := ?_) ?_ ?_
   rotate_left
   ·
    show Act.put _ (some 24) _ = _
    simp only [Act.put, sT_, sO_, sN_, i64_w, i32_w]
    rfl
   refine pure_ (i := 14) (N := some 5) (v := ?_) (a' := ?_) (tf_ 15 0) rfl rfl (any_of HT_.out (by kernel_rfl)) (fun _ _ _ h => h) (Or.inl ⟨by rfl, ?_⟩) ?_ ?_
   rotate_left; · (intro w'; go_simp; with_reducible rfl)
   rotate_left; · (simp only [Act.put, sT_, sO_, sN_, i64_w, i32_w]; rfl)
   refine done_ (done_of HT_.out (by kernel_rfl)) ?_
   try go_wp2
   go_ret
   exact ⟨by first | rfl | (simp <;> rfl) | (simp [*] <;> rfl), by repeat (first | (with_reducible first | exact HB.out | apply bA_ | apply bN_ | apply bD_ | refine bS_ ?_ GE125 | refine bS_ ?_ GE126) | exact HB.out)⟩
  rw [if_pos c14] at H
  have c14b0 : (t134 == 0) = true := beq_iff_eq.mpr c14
  have c14b1 : (t134 != 0) = false := bne_eq_false_iff_eq.mpr c14
  clear c14
  by_cases c15 : a0_1 = true
  ·
   subst c15
   try simp only [Bool.true_beq, Bool.false_beq, beq_true, beq_false, Bool.true_bne, Bool.false_bne, Bool.bne_true, Bool.bne_false, Bool.not_not] at c3b0
   have H1 : ((cmp_Compare_int.f a0_2 a1_2).bind fun t135 => (some t135)) = some r := by rw [if_pos rfl] at H; exact H
   clear H
   have H := H1
   clear H1
   replace H := Option.bind_eq_some_iff.mp H
   obtain ⟨t135, A160, H⟩ := H
   have A16 := Aside0.mk A160
   clear A160
   obtain rfl := Option.some.inj H
   go_enter Try.func68, Try.ntmps68
   try go_wp2_with (first | ((with_reducible refine gate_dst (N := 2) rfl ?_); refine box_event ?hg (N := 2) ?hd (cs := #[.int .i64 a0_0, .bool true, .int .i64 a0_2, .int .i64 a0_3, .int .i64 a0_4, .string a0_5]) (t := 36) ?hr ?_; (case hd => rfl); (case hg => rfl); (case hr => first | (go_simp; done) | (go_simp; rfl)); intro gb125 hg w17 hbox hb; have BK125 := Aside0.mk (hbox); have GW125 := Aside0.mk ((by rw [hg]; exact (bZ_ (kwW HB)) : w.heap.size ≤ gb125)); replace HB := Aside0.mk (below_step (kwW HB) hb); have GE125 := GW125; clear hb hbox hg) | ((with_reducible refine gate_dst (N := 3) rfl ?_); refine box_event ?hg (N := 3) ?hd (cs := #[.int .i64 a1_0, .bool a1_1, .int .i64 a1_2, .int .i64 a1_3, .int .i64 a1_4, .string a1_5]) (t := 36) ?hr ?_; (case hd => rfl); (case hg => rfl); (case hr => first | (go_simp; done) | (go_simp; rfl)); intro gb126 hg w18 hbox hb; have BK126 := Aside0.mk (hbox); have GW126 := Aside0.mk ((by rw [hg]; exact (bZ_ (by repeat (first | (with_reducible first | exact HB.out | apply bA_ | apply bN_ | apply bD_ | refine bS_ ?_ GE125) | exact HB.out))) : w.heap.size ≤ gb126)); replace HB := Aside0.mk (below_step (by repeat (first | (with_reducible first | exact HB.out | apply bA_ | apply bN_ | apply bD_ | refine bS_ ?_ GE125) | exact HB.out)) hb); have GE126 := GW126; have NB125_126 := Aside0.mk ((by rw [hg]; exact Nat.ne_of_lt (blk_lt (kbW BK125)) : gb125 ≠ gb126)); have NB126_125 := Aside0.mk ((by rw [hg]; exact Nat.ne_of_gt (blk_lt (kbW BK125)) : gb126 ≠ gb125)); replace BK125 := kB BK125 hb; clear hb hbox hg; have hnb19 := NB125_126.out; have hnc19 := NB126_125.out; obtain ⟨_, _, _, _, _, _, _, _, _, _, _, _⟩ := czf6 BK125; obtain ⟨_, _, _, _, _, _, _, _, _, _, _, _⟩ := czf6 BK126))
   replace BK125 := Aside0.mk (blk_drew BK125.out)
   replace BK126 := Aside0.mk (blk_drew BK126.out)
   replace HB := Aside0.mk (below_drew1 HB.out)
   refine start_ (n := 15) (S := fun w' => w'.cell? ⟨gb125, 0, none⟩ = some (.int .i64 a0_0) ∧ w'.cell? ⟨gb125, 1, none⟩ = some (.bool true) ∧ w'.cell? ⟨gb125, 2, none⟩ = some (.int .i64 a0_2) ∧ w'.cell? ⟨gb125, 3, none⟩ = some (.int .i64 a0_3) ∧ w'.cell? ⟨gb125, 4, none⟩ = some (.int .i64 a0_4) ∧ w'.cell? ⟨gb125, 5, none⟩ = some (.string a0_5) ∧ w'.cell? ⟨gb126, 0, none⟩ = some (.int .i64 a1_0) ∧ w'.cell? ⟨gb126, 1, none⟩ = some (.bool a1_1) ∧ w'.cell? ⟨gb126, 2, none⟩ = some (.int .i64 a1_2) ∧ w'.cell? ⟨gb126, 3, none⟩ = some (.int .i64 a1_3) ∧ w'.cell? ⟨gb126, 4, none⟩ = some (.int .i64 a1_4) ∧ w'.cell? ⟨gb126, 5, none⟩ = some (.string a1_5)) (ds := []) (tf_ 0 15) (by kernel_rfl) rfl rfl (cc6 BK125 (cd6 BK126)) (fun hHeld => ?_); refine with_tabW cell_Cmp.tab3 cell_Cmp.bits3 (fun HT_ HW_ => ?_)
   generalize w18.drew = w22 at BK125 BK126 HB hHeld ⊢
   refine pure_ (i := 0) (N := some 11) (v := ?_) (a' := ?_) (tf_ 1 14) rfl rfl (any_of HT_.out (by kernel_rfl)) (fun _ _ _ h => h) (Or.inl ⟨by rfl, ?_⟩) ?_ ?_
   rotate_left; · (intro w'; go_simp; with_reducible rfl)
   rotate_left; · (simp only [Act.put, sT_, sO_, sN_, i64_w, i32_w]; rfl)
   refine pure_ (i := 2) (N := some 13) (v := ?_) (a' := ?_) (tb_ 5 15) rfl rfl (any_of HT_.out (by kernel_rfl)) (fun _ _ _ h => h) (Or.inl ⟨by rfl, ?_⟩) ?_ ?_
   rotate_left; · (intro w'; go_simp; with_reducible rfl)
   rotate_left; · (simp only [Act.put, sT_, sO_, sN_, i64_w, i32_w]; rfl)
   refine pure_ (i := 5) (N := some 16) (v := ?_) (a' := ?_) (tb_ 37 15) rfl rfl (any_of HT_.out (by kernel_rfl)) (fun _ _ _ h => h) (Or.inl ⟨by rfl, ?_⟩) ?_ ?_
   rotate_left; · (intro w'; go_simp; with_reducible rfl)
   rotate_left; · (simp only [Act.put, sT_, sO_, sN_, i64_w, i32_w]; rfl)
   refine pure_ (i := 8) (N := some 19) (v := ?_) (a' := ?_) (tb_ 293 15) rfl rfl (any_of HT_.out (by kernel_rfl)) (fun _ _ _ h => h) (Or.inl ⟨by rfl, ?_⟩) ?_ ?_
   rotate_left; · (intro w'; go_simp; with_reducible rfl)
   rotate_left; · (simp only [Act.put, sT_, sO_, sN_, i64_w, i32_w]; rfl)
   refine take_ (i := 1) (N := some 12) (v := ?_) (a' := ?_) (tb_ 295 15) rfl rfl (take_ofW HT_.out HW_.out (by kernel_rfl)) (fun _ _ _ h => h) (Or.inl ⟨by rfl, ?_⟩) hHeld ?_ ?_
   rotate_left; · (rintro w' ⟨s0, s1, s2, s3, s4, s5, s6, s7, s8, s9, s10, s11⟩; go_simp; with_reducible rfl)
   rotate_left; · (simp only [Act.put, sT_, sO_, sN_, i64_w, i32_w]; rfl)
   refine take_ (i := 3) (N := some 14) (v := ?_) (a' := ?_) (tb_ 303 15) rfl rfl (take_ofW HT_.out HW_.out (by kernel_rfl)) (fun _ _ _ h => h) (Or.inl ⟨by rfl, ?_⟩) hHeld ?_ ?_
   rotate_left; · (rintro w' ⟨s0, s1, s2, s3, s4, s5, s6, s7, s8, s9, s10, s11⟩; go_simp; with_reducible rfl)
   rotate_left; · (simp only [Act.put, sT_, sO_, sN_, i64_w, i32_w]; rfl)
   refine take_ (i := 6) (N := some 17) (v := ?_) (a' := ?_) (tb_ 367 15) rfl rfl (take_ofW HT_.out HW_.out (by kernel_rfl)) (fun _ _ _ h => h) (Or.inl ⟨by rfl, ?_⟩) hHeld ?_ ?_
   rotate_left; · (rintro w' ⟨s0, s1, s2, s3, s4, s5, s6, s7, s8, s9, s10, s11⟩; go_simp; with_reducible rfl)
   rotate_left; · (simp only [Act.put, sT_, sO_, sN_, i64_w, i32_w]; rfl)
   refine take_ (i := 9) (N := some 20) (v := ?_) (a' := ?_) (tb_ 879 15) rfl rfl (take_ofW HT_.out HW_.out (by kernel_rfl)) (fun _ _ _ h => h) (Or.inl ⟨by rfl, ?_⟩) hHeld ?_ ?_
   rotate_left; · (rintro w' ⟨s0, s1, s2, s3, s4, s5, s6, s7, s8, s9, s10, s11⟩; go_simp; with_reducible rfl)
   rotate_left; · (simp only [Act.put, sT_, sO_, sN_, i64_w, i32_w]; rfl)
   refine one_ (i := 4) (N := some 15) (tb_ 895 15) rfl rfl (one_of HT_.out (by kernel_rfl)) (by decide) (fun K hK => ?_)
   refine goes_ Try.func67 (by kernel_rfl) rfl #[.int .i64 a0_0, .int .i64 a1_0] (by rfl) rfl rfl (by (try simp only [mT_, mC_, mN_]); first | done | rfl) ?_
   with_reducible refine (cmp_Compare_int.calls a0_0 a1_0 t127 _ A9.out).mono ?_
   rintro e w' ⟨rfl, ⟨nd, rfl⟩⟩
   refine ⟨_, rfl, ?_⟩
   refine hK.out _ _ (cc6 BK125 (cd6 BK126)) (fun hHeld => ?_)
   clear hK K
   refine norm_ (a' := ?_) ?_ ?_
   rotate_left
   ·
    show Act.put _ (some 15) _ = _
    simp only [Act.put, sT_, sO_, sN_, i64_w, i32_w]
    rfl
   refine one_ (i := 7) (N := some 18) (tf_ 10 5) rfl rfl (one_of HT_.out (by kernel_rfl)) (by decide) (fun K hK => ?_)
   refine goes_ Try.func88 (by kernel_rfl) rfl #[.bool true] (by rfl) rfl rfl (by (try simp only [mT_, mC_, mN_]); first | done | rfl) ?_
   with_reducible refine (cell_rank.calls true t128 _ A10.out).mono ?_
   rintro e w' ⟨rfl, ⟨nd, rfl⟩⟩
   refine ⟨_, rfl, ?_⟩
   refine hK.out _ _ (cc6 BK125 (cd6 BK126)) (fun hHeld => ?_)
   clear hK K
   refine norm_ (a' := ?_) ?_ ?_
   rotate_left
   ·
    show Act.put _ (some 18) _ = _
    simp only [Act.put, sT_, sO_, sN_, i64_w, i32_w]
    rfl
   refine one_ (i := 10) (N := some 21) (tf_ 11 4) rfl rfl (one_of HT_.out (by kernel_rfl)) (by decide) (fun K hK => ?_)
   refine goes_ Try.func88 (by kernel_rfl) rfl #[.bool a1_1] (by rfl) rfl rfl (by (try simp only [mT_, mC_, mN_]); first | done | rfl) ?_
   with_reducible refine (cell_rank.calls a1_1 t129 _ A11.out).mono ?_
   rintro e w' ⟨rfl, ⟨nd, rfl⟩⟩
   refine ⟨_, rfl, ?_⟩
   refine hK.out _ _ (cc6 BK125 (cd6 BK126)) (fun hHeld => ?_)
   clear hK K
   refine norm_ (a' := ?_) ?_ ?_
   rotate_left
   ·
    show Act.put _ (some 21) _ = _
    simp only [Act.put, sT_, sO_, sN_, i64_w, i32_w]
    rfl
   refine one_ (i := 11) (N := some 22) (tf_ 12 3) rfl rfl (one_of HT_.out (by kernel_rfl)) (by decide) (fun K hK => ?_)
   refine goes_ Try.func67 (by kernel_rfl) rfl #[.int .i64 t128, .int .i64 t129] (by rfl) rfl rfl (by (try simp only [mT_, mC_, mN_]); first | done | rfl) ?_
   with_reducible refine (cmp_Compare_int.calls t128 t129 t130 _ A12.out).mono ?_
   rintro e w' ⟨rfl, ⟨nd, rfl⟩⟩
   refine ⟨_, rfl, ?_⟩
   refine hK.out _ _ (cc6 BK125 (cd6 BK126)) (fun hHeld => ?_)
   clear hK K
   refine norm_ (a' := ?_) ?_ ?_
   rotate_left
   ·
    show Act.put _ (some 22) _ = _
    simp only [Act.put, sT_, sO_, sN_, i64_w, i32_w]
    rfl
   refine one_ (i := 12) (N := some 23) (tf_ 13 2) rfl rfl (one_of HT_.out (by kernel_rfl)) (by decide) (fun K hK => ?_)
   refine Kd.R_lit_step (Kd.int .i64) _ 3 ?hg (N := 23) ?hd (xs := ([t127, t130] : List Int)) (inner := [.int .i64 t127, .int .i64 t130]) (ok := fun _ => True) (okp := fun _ => True) ?hr ?hp (fun _ hk => hk) trivial (Below.refl _ _) (Nat.le_refl _) (by simp) ?_; (case hd => rfl); (case hg => rfl); (case hr => first | (go_simp; done) | (go_simp; rfl)); (case hp => exact (Reps.one (show Kd.M (Kd.int .i64) _ _ _ t127 [.int .i64 t127] from rfl) (Reps.one (show Kd.M (Kd.int .i64) _ _ _ t130 [.int .i64 t130] from rfl) (Reps.none _ _))))
   intro v132 w23 ho24 hb hg_ hnew_
   clear hg_ hnew_
   (first | rw [← Ny131.out] at ho24 | (simp only [Int.reduceToNat] at ho24; rw [← Ny131.out] at ho24))
   have HO133 := Aside0.mk (Kd.R_lower ho24 (bZ_ (by repeat (first | (with_reducible first | exact HB.out | apply bA_ | apply bN_ | apply bD_ | refine bS_ ?_ GE125 | refine bS_ ?_ GE126) | exact HB.out))))
   replace BK125 := kB BK125 hb
   replace BK126 := kB BK126 hb
   replace HB := Aside0.mk (below_step (by repeat (first | (with_reducible first | exact HB.out | apply bA_ | apply bN_ | apply bD_ | refine bS_ ?_ GE125 | refine bS_ ?_ GE126) | exact HB.out)) hb)
   clear hb ho24
   obtain ⟨Ao25, co25, eo25⟩ := Kd.R_slice HO133.out
   (first | subst eo25 | (injection eo25 with f1_ f2_ f3_; have f4_ := f1_.symm; have f5_ := f3_.symm; clear f1_ f2_ f3_; subst f4_; subst f5_))
   refine hK.out _ _ (cc6 BK125 (cd6 BK126)) (fun hHeld => ?_)
   clear hK K
   refine norm_ (a' := ?_) ?_ ?_
   rotate_left
   ·
    show Act.put _ (some 23) _ = _
    simp only [Act.put, sT_, sO_, sN_, i64_w, i32_w]
    rfl
   refine one_ (i := 13) (N := some 24) (tf_ 14 1) rfl rfl (one_of HT_.out (by kernel_rfl)) (by decide) (fun K hK => ?_)
   refine goes_ Try.func87 (by kernel_rfl) rfl #[.slice Ao25 y131.length co25] (by rfl) rfl rfl (by (try simp only [mT_, mC_, mN_]); first | done | rfl) ?_
   with_reducible refine (cmp_Or_int.calls k _ _ y131 t134 _ ?side1 ?side2 A13.out).mono ?_
   (case side1 => repeat (first | exact (Kd.R_reads' HO133.out).2.2 | (with_reducible refine Kd.C_alloc ?_ _) | (with_reducible refine Kd.C_drewN ?_ _) | (with_reducible refine Kd.C_drew ?_)))
   (case side2 => exact (Kd.R_reads' HO133.out).2.1)
   rintro e w' ⟨rfl, ⟨nd, rfl⟩⟩
   refine ⟨_, rfl, ?_⟩
   refine hK.out _ _ (cc6 BK125 (cd6 BK126)) (fun hHeld => ?_)
   clear hK K
   refine norm_ (a' := ?_) ?_ ?_
   rotate_left
   ·
    show Act.put _ (some 24) _ = _
    simp only [Act.put, sT_, sO_, sN_, i64_w, i32_w]
    rfl
   refine pure_ (i := 14) (N := some 5) (v := ?_) (a' := ?_) (tf_ 15 0) rfl rfl (any_of HT_.out (by kernel_rfl)) (fun _ _ _ h => h) (Or.inl ⟨by rfl, ?_⟩) ?_ ?_
   rotate_left; · (intro w'; go_simp; with_reducible rfl)
   rotate_left; · (simp only [Act.put, sT_, sO_, sN_, i64_w, i32_w]; rfl)
   refine done_ (done_of HT_.out (by kernel_rfl)) ?_
   obtain ⟨_, _, _, _, _, _, _, _, _, _, _, _⟩ := czf6 BK125
   obtain ⟨_, _, _, _, _, _, _, _, _, _, _, _⟩ := czf6 BK126
   try go_wp2_with (first | ((with_reducible refine gate_callee (f := 67) rfl ?_); refine goesL_ (some 36) rfl rfl Try.func67 (by kernel_rfl) rfl #[.int .i64 a0_2, .int .i64 a1_2] rfl (by (try simp only [mT_, mC_, mN_]); first | done | rfl) ?_; (with_reducible refine (cmp_Compare_int.calls a0_2 a1_2 t135 _ A16.out).mono ?_); rintro e w' ⟨rfl, ⟨nd, rfl⟩⟩; refine ⟨_, rfl, ?_⟩))
   go_ret
   exact ⟨by first | rfl | (simp <;> rfl) | (simp [*] <;> rfl), by repeat (first | (with_reducible first | exact HB.out | apply bA_ | apply bN_ | apply bD_ | refine bS_ ?_ GE125 | refine bS_ ?_ GE126) | exact HB.out)⟩
  ·
   replace c15 := Bool.eq_false_iff.mpr c15
   subst c15
   try simp only [Bool.true_beq, Bool.false_beq, beq_true, beq_false, Bool.true_bne, Bool.false_bne, Bool.bne_true, Bool.bne_false, Bool.not_not] at c3b0
   have H1 : ((cmp_Compare_int.f a0_3 a1_3).bind fun t138 => ((cmp_Compare_int.f a0_4 a1_4).bind fun t139 => ((cmp_Compare_string.f a0_5 a1_5).bind fun t140 => ((cmp_Or_int.f k (([t138, t139, t140] : List Int))).bind fun t144 => (some t144))))) = some r := by rw [if_neg (show ¬ (false = true) by decide)] at H; exact H
   clear H
   have H := H1
   clear H1
   replace H := Option.bind_eq_some_iff.mp H
   obtain ⟨t138, A280, H⟩ := H
   have A28 := Aside0.mk A280
   clear A280
   replace H := Option.bind_eq_some_iff.mp H
   obtain ⟨t139, A290, H⟩ := H
   have A29 := Aside0.mk A290
   clear A290
   replace H := Option.bind_eq_some_iff.mp H
   obtain ⟨t140, A300, H⟩ := H
   have A30 := Aside0.mk A300
   clear A300
   obtain ⟨y141, hy141⟩ : ∃ y_ : List Int, y_ = (([t138, t139, t140] : List Int)) := ⟨_, rfl⟩
   replace H : ((cmp_Or_int.f k y141).bind fun t144 => (some t144)) = some r := by first | (rw [hy141]; with_reducible exact H) | (have H2_ := (Option.bind_some _ _).symm.trans H; rw [hy141]; with_reducible exact H2_) | (have H2_ := (Option.bind_some _ _).symm.trans H; with_reducible exact H2_) | with_reducible exact H | (rw [hy141]; exact H) | exact H
   have Ny141 := Aside0.mk hy141
   clear hy141
   replace H := Option.bind_eq_some_iff.mp H
   obtain ⟨t144, A310, H⟩ := H
   have A31 := Aside0.mk A310
   clear A310
   obtain rfl := Option.some.inj H
   go_enter Try.func68, Try.ntmps68
   try go_wp2_with (first | ((with_reducible refine gate_dst (N := 2) rfl ?_); refine box_event ?hg (N := 2) ?hd (cs := #[.int .i64 a0_0, .bool false, .int .i64 a0_2, .int .i64 a0_3, .int .i64 a0_4, .string a0_5]) (t := 36) ?hr ?_; (case hd => rfl); (case hg => rfl); (case hr => first | (go_simp; done) | (go_simp; rfl)); intro gb125 hg w32 hbox hb; have BK125 := Aside0.mk (hbox); have GW125 := Aside0.mk ((by rw [hg]; exact (bZ_ (kwW HB)) : w.heap.size ≤ gb125)); replace HB := Aside0.mk (below_step (kwW HB) hb); have GE125 := GW125; clear hb hbox hg) | ((with_reducible refine gate_dst (N := 3) rfl ?_); refine box_event ?hg (N := 3) ?hd (cs := #[.int .i64 a1_0, .bool a1_1, .int .i64 a1_2, .int .i64 a1_3, .int .i64 a1_4, .string a1_5]) (t := 36) ?hr ?_; (case hd => rfl); (case hg => rfl); (case hr => first | (go_simp; done) | (go_simp; rfl)); intro gb126 hg w33 hbox hb; have BK126 := Aside0.mk (hbox); have GW126 := Aside0.mk ((by rw [hg]; exact (bZ_ (by repeat (first | (with_reducible first | exact HB.out | apply bA_ | apply bN_ | apply bD_ | refine bS_ ?_ GE125) | exact HB.out))) : w.heap.size ≤ gb126)); replace HB := Aside0.mk (below_step (by repeat (first | (with_reducible first | exact HB.out | apply bA_ | apply bN_ | apply bD_ | refine bS_ ?_ GE125) | exact HB.out)) hb); have GE126 := GW126; have NB125_126 := Aside0.mk ((by rw [hg]; exact Nat.ne_of_lt (blk_lt (kbW BK125)) : gb125 ≠ gb126)); have NB126_125 := Aside0.mk ((by rw [hg]; exact Nat.ne_of_gt (blk_lt (kbW BK125)) : gb126 ≠ gb125)); replace BK125 := kB BK125 hb; clear hb hbox hg; have hnb34 := NB125_126.out; have hnc34 := NB126_125.out; obtain ⟨_, _, _, _, _, _, _, _, _, _, _, _⟩ := czf6 BK125; obtain ⟨_, _, _, _, _, _, _, _, _, _, _, _⟩ := czf6 BK126))
   replace BK125 := Aside0.mk (blk_drew BK125.out)
   replace BK126 := Aside0.mk (blk_drew BK126.out)
   replace HB := Aside0.mk (below_drew1 HB.out)
   refine start_ (n := 15) (S := fun w' => w'.cell? ⟨gb125, 0, none⟩ = some (.int .i64 a0_0) ∧ w'.cell? ⟨gb125, 1, none⟩ = some (.bool false) ∧ w'.cell? ⟨gb125, 2, none⟩ = some (.int .i64 a0_2) ∧ w'.cell? ⟨gb125, 3, none⟩ = some (.int .i64 a0_3) ∧ w'.cell? ⟨gb125, 4, none⟩ = some (.int .i64 a0_4) ∧ w'.cell? ⟨gb125, 5, none⟩ = some (.string a0_5) ∧ w'.cell? ⟨gb126, 0, none⟩ = some (.int .i64 a1_0) ∧ w'.cell? ⟨gb126, 1, none⟩ = some (.bool a1_1) ∧ w'.cell? ⟨gb126, 2, none⟩ = some (.int .i64 a1_2) ∧ w'.cell? ⟨gb126, 3, none⟩ = some (.int .i64 a1_3) ∧ w'.cell? ⟨gb126, 4, none⟩ = some (.int .i64 a1_4) ∧ w'.cell? ⟨gb126, 5, none⟩ = some (.string a1_5)) (ds := []) (tf_ 0 15) (by kernel_rfl) rfl rfl (cc6 BK125 (cd6 BK126)) (fun hHeld => ?_); refine with_tabW cell_Cmp.tab3 cell_Cmp.bits3 (fun HT_ HW_ => ?_)
   generalize w33.drew = w37 at BK125 BK126 HB hHeld ⊢
   refine pure_ (i := 0) (N := some 11) (v := ?_) (a' := ?_) (tf_ 1 14) rfl rfl (any_of HT_.out (by kernel_rfl)) (fun _ _ _ h => h) (Or.inl ⟨by rfl, ?_⟩) ?_ ?_
   rotate_left; · (intro w'; go_simp; with_reducible rfl)
   rotate_left; · (simp only [Act.put, sT_, sO_, sN_, i64_w, i32_w]; rfl)
   refine pure_ (i := 2) (N := some 13) (v := ?_) (a' := ?_) (tb_ 5 15) rfl rfl (any_of HT_.out (by kernel_rfl)) (fun _ _ _ h => h) (Or.inl ⟨by rfl, ?_⟩) ?_ ?_
   rotate_left; · (intro w'; go_simp; with_reducible rfl)
   rotate_left; · (simp only [Act.put, sT_, sO_, sN_, i64_w, i32_w]; rfl)
   refine pure_ (i := 5) (N := some 16) (v := ?_) (a' := ?_) (tb_ 37 15) rfl rfl (any_of HT_.out (by kernel_rfl)) (fun _ _ _ h => h) (Or.inl ⟨by rfl, ?_⟩) ?_ ?_
   rotate_left; · (intro w'; go_simp; with_reducible rfl)
   rotate_left; · (simp only [Act.put, sT_, sO_, sN_, i64_w, i32_w]; rfl)
   refine pure_ (i := 8) (N := some 19) (v := ?_) (a' := ?_) (tb_ 293 15) rfl rfl (any_of HT_.out (by kernel_rfl)) (fun _ _ _ h => h) (Or.inl ⟨by rfl, ?_⟩) ?_ ?_
   rotate_left; · (intro w'; go_simp; with_reducible rfl)
   rotate_left; · (simp only [Act.put, sT_, sO_, sN_, i64_w, i32_w]; rfl)
   refine take_ (i := 1) (N := some 12) (v := ?_) (a' := ?_) (tb_ 295 15) rfl rfl (take_ofW HT_.out HW_.out (by kernel_rfl)) (fun _ _ _ h => h) (Or.inl ⟨by rfl, ?_⟩) hHeld ?_ ?_
   rotate_left; · (rintro w' ⟨s0, s1, s2, s3, s4, s5, s6, s7, s8, s9, s10, s11⟩; go_simp; with_reducible rfl)
   rotate_left; · (simp only [Act.put, sT_, sO_, sN_, i64_w, i32_w]; rfl)
   refine take_ (i := 3) (N := some 14) (v := ?_) (a' := ?_) (tb_ 303 15) rfl rfl (take_ofW HT_.out HW_.out (by kernel_rfl)) (fun _ _ _ h => h) (Or.inl ⟨by rfl, ?_⟩) hHeld ?_ ?_
   rotate_left; · (rintro w' ⟨s0, s1, s2, s3, s4, s5, s6, s7, s8, s9, s10, s11⟩; go_simp; with_reducible rfl)
   rotate_left; · (simp only [Act.put, sT_, sO_, sN_, i64_w, i32_w]; rfl)
   refine take_ (i := 6) (N := some 17) (v := ?_) (a' := ?_) (tb_ 367 15) rfl rfl (take_ofW HT_.out HW_.out (by kernel_rfl)) (fun _ _ _ h => h) (Or.inl ⟨by rfl, ?_⟩) hHeld ?_ ?_
   rotate_left; · (rintro w' ⟨s0, s1, s2, s3, s4, s5, s6, s7, s8, s9, s10, s11⟩; go_simp; with_reducible rfl)
   rotate_left; · (simp only [Act.put, sT_, sO_, sN_, i64_w, i32_w]; rfl)
   refine take_ (i := 9) (N := some 20) (v := ?_) (a' := ?_) (tb_ 879 15) rfl rfl (take_ofW HT_.out HW_.out (by kernel_rfl)) (fun _ _ _ h => h) (Or.inl ⟨by rfl, ?_⟩) hHeld ?_ ?_
   rotate_left; · (rintro w' ⟨s0, s1, s2, s3, s4, s5, s6, s7, s8, s9, s10, s11⟩; go_simp; with_reducible rfl)
   rotate_left; · (simp only [Act.put, sT_, sO_, sN_, i64_w, i32_w]; rfl)
   refine one_ (i := 4) (N := some 15) (tb_ 895 15) rfl rfl (one_of HT_.out (by kernel_rfl)) (by decide) (fun K hK => ?_)
   refine goes_ Try.func67 (by kernel_rfl) rfl #[.int .i64 a0_0, .int .i64 a1_0] (by rfl) rfl rfl (by (try simp only [mT_, mC_, mN_]); first | done | rfl) ?_
   with_reducible refine (cmp_Compare_int.calls a0_0 a1_0 t127 _ A9.out).mono ?_
   rintro e w' ⟨rfl, ⟨nd, rfl⟩⟩
   refine ⟨_, rfl, ?_⟩
   refine hK.out _ _ (cc6 BK125 (cd6 BK126)) (fun hHeld => ?_)
   clear hK K
   refine norm_ (a' := ?_) ?_ ?_
   rotate_left
   ·
    show Act.put _ (some 15) _ = _
    simp only [Act.put, sT_, sO_, sN_, i64_w, i32_w]
    rfl
   refine one_ (i := 7) (N := some 18) (tf_ 10 5) rfl rfl (one_of HT_.out (by kernel_rfl)) (by decide) (fun K hK => ?_)
   refine goes_ Try.func88 (by kernel_rfl) rfl #[.bool false] (by rfl) rfl rfl (by (try simp only [mT_, mC_, mN_]); first | done | rfl) ?_
   with_reducible refine (cell_rank.calls false t128 _ A10.out).mono ?_
   rintro e w' ⟨rfl, ⟨nd, rfl⟩⟩
   refine ⟨_, rfl, ?_⟩
   refine hK.out _ _ (cc6 BK125 (cd6 BK126)) (fun hHeld => ?_)
   clear hK K
   refine norm_ (a' := ?_) ?_ ?_
   rotate_left
   ·
    show Act.put _ (some 18) _ = _
    simp only [Act.put, sT_, sO_, sN_, i64_w, i32_w]
    rfl
   refine one_ (i := 10) (N := some 21) (tf_ 11 4) rfl rfl (one_of HT_.out (by kernel_rfl)) (by decide) (fun K hK => ?_)
   refine goes_ Try.func88 (by kernel_rfl) rfl #[.bool a1_1] (by rfl) rfl rfl (by (try simp only [mT_, mC_, mN_]); first | done | rfl) ?_
   with_reducible refine (cell_rank.calls a1_1 t129 _ A11.out).mono ?_
   rintro e w' ⟨rfl, ⟨nd, rfl⟩⟩
   refine ⟨_, rfl, ?_⟩
   refine hK.out _ _ (cc6 BK125 (cd6 BK126)) (fun hHeld => ?_)
   clear hK K
   refine norm_ (a' := ?_) ?_ ?_
   rotate_left
   ·
    show Act.put _ (some 21) _ = _
    simp only [Act.put, sT_, sO_, sN_, i64_w, i32_w]
    rfl
   refine one_ (i := 11) (N := some 22) (tf_ 12 3) rfl rfl (one_of HT_.out (by kernel_rfl)) (by decide) (fun K hK => ?_)
   refine goes_ Try.func67 (by kernel_rfl) rfl #[.int .i64 t128, .int .i64 t129] (by rfl) rfl rfl (by (try simp only [mT_, mC_, mN_]); first | done | rfl) ?_
   with_reducible refine (cmp_Compare_int.calls t128 t129 t130 _ A12.out).mono ?_
   rintro e w' ⟨rfl, ⟨nd, rfl⟩⟩
   refine ⟨_, rfl, ?_⟩
   refine hK.out _ _ (cc6 BK125 (cd6 BK126)) (fun hHeld => ?_)
   clear hK K
   refine norm_ (a' := ?_) ?_ ?_
   rotate_left
   ·
    show Act.put _ (some 22) _ = _
    simp only [Act.put, sT_, sO_, sN_, i64_w, i32_w]
    rfl
   refine one_ (i := 12) (N := some 23) (tf_ 13 2) rfl rfl (one_of HT_.out (by kernel_rfl)) (by decide) (fun K hK => ?_)
   refine Kd.R_lit_step (Kd.int .i64) _ 3 ?hg (N := 23) ?hd (xs := ([t127, t130] : List Int)) (inner := [.int .i64 t127, .int .i64 t130]) (ok := fun _ => True) (okp := fun _ => True) ?hr ?hp (fun _ hk => hk) trivial (Below.refl _ _) (Nat.le_refl _) (by simp) ?_; (case hd => rfl); (case hg => rfl); (case hr => first | (go_simp; done) | (go_simp; rfl)); (case hp => exact (Reps.one (show Kd.M (Kd.int .i64) _ _ _ t127 [.int .i64 t127] from rfl) (Reps.one (show Kd.M (Kd.int .i64) _ _ _ t130 [.int .i64 t130] from rfl) (Reps.none _ _))))
   intro v132 w38 ho39 hb hg_ hnew_
   clear hg_ hnew_
   (first | rw [← Ny131.out] at ho39 | (simp only [Int.reduceToNat] at ho39; rw [← Ny131.out] at ho39))
   have HO133 := Aside0.mk (Kd.R_lower ho39 (bZ_ (by repeat (first | (with_reducible first | exact HB.out | apply bA_ | apply bN_ | apply bD_ | refine bS_ ?_ GE125 | refine bS_ ?_ GE126) | exact HB.out))))
   replace BK125 := kB BK125 hb
   replace BK126 := kB BK126 hb
   replace HB := Aside0.mk (below_step (by repeat (first | (with_reducible first | exact HB.out | apply bA_ | apply bN_ | apply bD_ | refine bS_ ?_ GE125 | refine bS_ ?_ GE126) | exact HB.out)) hb)
   clear hb ho39
   obtain ⟨Ao40, co40, eo40⟩ := Kd.R_slice HO133.out
   (first | subst eo40 | (injection eo40 with f1_ f2_ f3_; have f4_ := f1_.symm; have f5_ := f3_.symm; clear f1_ f2_ f3_; subst f4_; subst f5_))
   refine hK.out _ _ (cc6 BK125 (cd6 BK126)) (fun hHeld => ?_)
   clear hK K
   refine norm_ (a' := ?_) ?_ ?_
   rotate_left
   ·
    show Act.put _ (some 23) _ = _
    simp only [Act.put, sT_, sO_, sN_, i64_w, i32_w]
    rfl
   refine one_ (i := 13) (N := some 24) (tf_ 14 1) rfl rfl (one_of HT_.out (by kernel_rfl)) (by decide) (fun K hK => ?_)
   refine goes_ Try.func87 (by kernel_rfl) rfl #[.slice Ao40 y131.length co40] (by rfl) rfl rfl (by (try simp only [mT_, mC_, mN_]); first | done | rfl) ?_
   with_reducible refine (cmp_Or_int.calls k _ _ y131 t134 _ ?side1 ?side2 A13.out).mono ?_
   (case side1 => repeat (first | exact (Kd.R_reads' HO133.out).2.2 | (with_reducible refine Kd.C_alloc ?_ _) | (with_reducible refine Kd.C_drewN ?_ _) | (with_reducible refine Kd.C_drew ?_)))
   (case side2 => exact (Kd.R_reads' HO133.out).2.1)
   rintro e w' ⟨rfl, ⟨nd, rfl⟩⟩
   refine ⟨_, rfl, ?_⟩
   refine hK.out _ _ (cc6 BK125 (cd6 BK126)) (fun hHeld => ?_)
   clear hK K
   refine norm_ (a' := ?_) ?_ ?_
   rotate_left
   ·
    show Act.put _ (some 24) _ = _
    simp only [Act.put, sT_, sO_, sN_, i64_w, i32_w]
    rfl
   refine pure_ (i := 14) (N := some 5) (v := ?_) (a' := ?_) (tf_ 15 0) rfl rfl (any_of HT_.out (by kernel_rfl)) (fun _ _ _ h => h) (Or.inl ⟨by rfl, ?_⟩) ?_ ?_
   rotate_left; · (intro w'; go_simp; with_reducible rfl)
   rotate_left; · (simp only [Act.put, sT_, sO_, sN_, i64_w, i32_w]; rfl)
   refine done_ (done_of HT_.out (by kernel_rfl)) ?_
   obtain ⟨_, _, _, _, _, _, _, _, _, _, _, _⟩ := czf6 BK125
   try go_wp2
   (try (rw [drewN_self w38]; generalize hq_ : World.drewN w38 _ = w38; have n0_ : Aside0 (Kd.R (Kd.int .i64) 3 w38 w.heap.size (fun _ => True) (.slice Ao40 y131.length co40) y131) := ⟨by rw [← hq_]; exact (krW HO133)⟩; have n1_ : Aside0 (w38.heap[gb125]? = some (.cells #[.int .i64 a0_0, .bool false, .int .i64 a0_2, .int .i64 a0_3, .int .i64 a0_4, .string a0_5] 36 (0, 0))) := ⟨by rw [← hq_]; exact (kbW BK125)⟩; have n2_ : Aside0 (w38.heap[gb126]? = some (.cells #[.int .i64 a1_0, .bool a1_1, .int .i64 a1_2, .int .i64 a1_3, .int .i64 a1_4, .string a1_5] 36 (0, 0))) := ⟨by rw [← hq_]; exact (kbW BK126)⟩; have n3_ : Aside0 (Below w.heap.size w w38) := ⟨by rw [← hq_]; exact (by repeat (first | (with_reducible first | exact HB.out | apply bA_ | apply bN_ | apply bD_ | refine bS_ ?_ GE125 | refine bS_ ?_ GE126) | exact HB.out))⟩; clear HO133 BK125 BK126 HB hq_; have HO133 := n0_; have BK125 := n1_; have BK126 := n2_; have HB := n3_; clear n0_ n1_ n2_ n3_))
   replace HO133 := Aside0.mk (Kd.R_drew HO133.out)
   replace BK125 := Aside0.mk (blk_drew BK125.out)
   replace BK126 := Aside0.mk (blk_drew BK126.out)
   replace HB := Aside0.mk (below_drew1 HB.out)
   refine start_ (n := 8) (S := fun w' => w'.cell? ⟨gb125, 0, none⟩ = some (.int .i64 a0_0) ∧ w'.cell? ⟨gb125, 1, none⟩ = some (.bool false) ∧ w'.cell? ⟨gb125, 2, none⟩ = some (.int .i64 a0_2) ∧ w'.cell? ⟨gb125, 3, none⟩ = some (.int .i64 a0_3) ∧ w'.cell? ⟨gb125, 4, none⟩ = some (.int .i64 a0_4) ∧ w'.cell? ⟨gb125, 5, none⟩ = some (.string a0_5) ∧ w'.cell? ⟨gb126, 0, none⟩ = some (.int .i64 a1_0) ∧ w'.cell? ⟨gb126, 1, none⟩ = some (.bool a1_1) ∧ w'.cell? ⟨gb126, 2, none⟩ = some (.int .i64 a1_2) ∧ w'.cell? ⟨gb126, 3, none⟩ = some (.int .i64 a1_3) ∧ w'.cell? ⟨gb126, 4, none⟩ = some (.int .i64 a1_4) ∧ w'.cell? ⟨gb126, 5, none⟩ = some (.string a1_5)) (ds := []) (tf_ 0 8) (by kernel_rfl) rfl rfl (cc6 BK125 (cd6 BK126)) (fun hHeld => ?_); refine with_tabW cell_Cmp.tab8 cell_Cmp.bits8 (fun HT_ HW_ => ?_)
   generalize w38.drew = w42 at HO133 BK125 BK126 HB hHeld ⊢
   refine pure_ (i := 0) (N := some 37) (v := ?_) (a' := ?_) (tf_ 1 7) rfl rfl (any_of HT_.out (by kernel_rfl)) (fun _ _ _ h => h) (Or.inl ⟨by rfl, ?_⟩) ?_ ?_
   rotate_left; · (intro w'; go_simp; with_reducible rfl)
   rotate_left; · (simp only [Act.put, sT_, sO_, sN_, i64_w, i32_w]; rfl)
   refine pure_ (i := 2) (N := some 39) (v := ?_) (a' := ?_) (tb_ 5 8) rfl rfl (any_of HT_.out (by kernel_rfl)) (fun _ _ _ h => h) (Or.inl ⟨by rfl, ?_⟩) ?_ ?_
   rotate_left; · (intro w'; go_simp; with_reducible rfl)
   rotate_left; · (simp only [Act.put, sT_, sO_, sN_, i64_w, i32_w]; rfl)
   refine take_ (i := 1) (N := some 38) (v := ?_) (a' := ?_) (tf_ 3 5) rfl rfl (take_ofW HT_.out HW_.out (by kernel_rfl)) (fun _ _ _ h => h) (Or.inl ⟨by rfl, ?_⟩) hHeld ?_ ?_
   rotate_left; · (rintro w' ⟨s0, s1, s2, s3, s4, s5, s6, s7, s8, s9, s10, s11⟩; go_simp; with_reducible rfl)
   rotate_left; · (simp only [Act.put, sT_, sO_, sN_, i64_w, i32_w]; rfl)
   refine take_ (i := 3) (N := some 40) (v := ?_) (a' := ?_) (tf_ 4 4) rfl rfl (take_ofW HT_.out HW_.out (by kernel_rfl)) (fun _ _ _ h => h) (Or.inl ⟨by rfl, ?_⟩) hHeld ?_ ?_
   rotate_left; · (rintro w' ⟨s0, s1, s2, s3, s4, s5, s6, s7, s8, s9, s10, s11⟩; go_simp; with_reducible rfl)
   rotate_left; · (simp only [Act.put, sT_, sO_, sN_, i64_w, i32_w]; rfl)
   refine join_ (σ := Nat × Nat) 2 (tf_ 6 2) (fun s_ => [(6, .pointer (some ⟨s_.1, 0, none⟩)), (7, .pointer (some ⟨s_.2, 0, none⟩))]) (fun s_ w' => (w'.cell? ⟨gb125, 0, none⟩ = some (.int .i64 a0_0) ∧ w'.cell? ⟨gb125, 1, none⟩ = some (.bool false) ∧ w'.cell? ⟨gb125, 2, none⟩ = some (.int .i64 a0_2) ∧ w'.cell? ⟨gb125, 3, none⟩ = some (.int .i64 a0_3) ∧ w'.cell? ⟨gb125, 4, none⟩ = some (.int .i64 a0_4) ∧ w'.cell? ⟨gb125, 5, none⟩ = some (.string a0_5) ∧ w'.cell? ⟨gb126, 0, none⟩ = some (.int .i64 a1_0) ∧ w'.cell? ⟨gb126, 1, none⟩ = some (.bool a1_1) ∧ w'.cell? ⟨gb126, 2, none⟩ = some (.int .i64 a1_2) ∧ w'.cell? ⟨gb126, 3, none⟩ = some (.int .i64 a1_3) ∧ w'.cell? ⟨gb126, 4, none⟩ = some (.int .i64 a1_4) ∧ w'.cell? ⟨gb126, 5, none⟩ = some (.string a1_5)) ∧ (Kd.R (Kd.int .i64) 3 w' w.heap.size (fun _ => True) (.slice Ao40 y131.length co40) y131) ∧ (w'.heap[gb125]? = some (.cells #[.int .i64 a0_0, .bool false, .int .i64 a0_2, .int .i64 a0_3, .int .i64 a0_4, .string a0_5] 36 (0, 0))) ∧ (w'.heap[gb126]? = some (.cells #[.int .i64 a1_0, .bool a1_1, .int .i64 a1_2, .int .i64 a1_3, .int .i64 a1_4, .string a1_5] 36 (0, 0))) ∧ (w'.heap[s_.1]? = some (.cells #[.int .i64 0, .int .i64 0, .string (⟨#[]⟩ : ByteArray)] 34 (0, 0))) ∧ (w'.heap[s_.2]? = some (.cells #[.int .i64 0, .int .i64 0, .string (⟨#[]⟩ : ByteArray)] 34 (0, 0))) ∧ (w.heap.size ≤ s_.1) ∧ (w.heap.size ≤ s_.1) ∧ (gb125 ≠ s_.1) ∧ (s_.1 ≠ gb125) ∧ (gb126 ≠ s_.1) ∧ (s_.1 ≠ gb126) ∧ (s_.2 ≠ s_.1) ∧ (s_.1 ≠ s_.2) ∧ (w.heap.size ≤ s_.2) ∧ (w.heap.size ≤ s_.2) ∧ (gb125 ≠ s_.2) ∧ (s_.2 ≠ gb125) ∧ (gb126 ≠ s_.2) ∧ (s_.2 ≠ gb126) ∧ (Below w.heap.size w w')) ?_ ?_
   rotate_left
   ·
    intro hCont
    refine two_ (i := 4) (j := 5) (Ni := some 6) (Nj := some 7) (tf_ 5 3) (tb_ 47 8) rfl rfl rfl rfl (two_of HT_.out (by kernel_rfl)) (by decide) (by decide) (fun K hK => ?_) (fun K hK => ?_)
    ·
     skip
     refine box_step ?hg (N := 6) ?hd (cs := #[.int .i64 0, .int .i64 0, .string (⟨#[]⟩ : ByteArray)]) (t := 34) ?hr ?_; (case hd => rfl); (case hg => rfl); (case hr => first | (go_simp; done) | (go_simp; rfl))
     intro gb136 hg w43 hbox hb
     replace HO133 := kR HO133 hb
     have BK136 := Aside0.mk (hbox)
     have GW136 := Aside0.mk ((by rw [hg]; exact (bZ_ (by repeat (first | (with_reducible first | exact HB.out | apply bA_ | apply bN_ | apply bD_ | refine bS_ ?_ GE125 | refine bS_ ?_ GE126) | exact HB.out))) : w.heap.size ≤ gb136))
     replace HB := Aside0.mk (below_step (by repeat (first | (with_reducible first | exact HB.out | apply bA_ | apply bN_ | apply bD_ | refine bS_ ?_ GE125 | refine bS_ ?_ GE126) | exact HB.out)) hb)
     have GE136 := GW136
     have NB125_136 := Aside0.mk ((by rw [hg]; exact Nat.ne_of_lt (blk_lt (kbW BK125)) : gb125 ≠ gb136))
     have NB136_125 := Aside0.mk ((by rw [hg]; exact Nat.ne_of_gt (blk_lt (kbW BK125)) : gb136 ≠ gb125))
     replace BK125 := kB BK125 hb
     have NB126_136 := Aside0.mk ((by rw [hg]; exact Nat.ne_of_lt (blk_lt (kbW BK126)) : gb126 ≠ gb136))
     have NB136_126 := Aside0.mk ((by rw [hg]; exact Nat.ne_of_gt (blk_lt (kbW BK126)) : gb136 ≠ gb126))
     replace BK126 := kB BK126 hb
     clear hb hbox hg
     refine hK.out _ _ (cc6 BK125 (cd6 BK126)) (fun hHeld => ?_)
     clear hK K
     refine norm_ (a' := ?_) ?_ ?_
     rotate_left
     ·
      show Act.put _ (some 6) _ = _
      simp only [Act.put, sT_, sO_, sN_, i64_w, i32_w]
      rfl
     refine one_ (i := 5) (N := some 7) (tf_ 6 2) rfl rfl (one_of HT_.out (by kernel_rfl)) (by decide) (fun K hK => ?_)
     refine box_step ?hg (N := 7) ?hd (cs := #[.int .i64 0, .int .i64 0, .string (⟨#[]⟩ : ByteArray)]) (t := 34) ?hr ?_; (case hd => rfl); (case hg => rfl); (case hr => first | (go_simp; done) | (go_simp; rfl))
     intro gb137 hg w44 hbox hb
     replace HO133 := kR HO133 hb
     have BK137 := Aside0.mk (hbox)
     have GW137 := Aside0.mk ((by rw [hg]; exact (bZ_ (by repeat (first | (with_reducible first | exact HB.out | apply bA_ | apply bN_ | apply bD_ | refine bS_ ?_ GE125 | refine bS_ ?_ GE126 | refine bS_ ?_ GE136) | exact HB.out))) : w.heap.size ≤ gb137))
     replace HB := Aside0.mk (below_step (by repeat (first | (with_reducible first | exact HB.out | apply bA_ | apply bN_ | apply bD_ | refine bS_ ?_ GE125 | refine bS_ ?_ GE126 | refine bS_ ?_ GE136) | exact HB.out)) hb)
     have GE137 := GW137
     have NB125_137 := Aside0.mk ((by rw [hg]; exact Nat.ne_of_lt (blk_lt (kbW BK125)) : gb125 ≠ gb137))
     have NB137_125 := Aside0.mk ((by rw [hg]; exact Nat.ne_of_gt (blk_lt (kbW BK125)) : gb137 ≠ gb125))
     replace BK125 := kB BK125 hb
     have NB126_137 := Aside0.mk ((by rw [hg]; exact Nat.ne_of_lt (blk_lt (kbW BK126)) : gb126 ≠ gb137))
     have NB137_126 := Aside0.mk ((by rw [hg]; exact Nat.ne_of_gt (blk_lt (kbW BK126)) : gb137 ≠ gb126))
     replace BK126 := kB BK126 hb
     have NB136_137 := Aside0.mk ((by rw [hg]; exact Nat.ne_of_lt (blk_lt (kbW BK136)) : gb136 ≠ gb137))
     have NB137_136 := Aside0.mk ((by rw [hg]; exact Nat.ne_of_gt (blk_lt (kbW BK136)) : gb137 ≠ gb136))
     replace BK136 := kB BK136 hb
     clear hb hbox hg
     refine hK.out _ _ (cc6 BK125 (cd6 BK126)) (fun hHeld => ?_)
     clear hK K
     refine norm_ (a' := ?_) ?_ ?_
     rotate_left
     ·
      show Act.put _ (some 7) _ = _
      simp only [Act.put, sT_, sO_, sN_, i64_w, i32_w]
      rfl
     exact norm_ (by simp only [putAll, Act.put, sT_, sO_, sN_]) (hCont (gb136, gb137) _ ⟨hHeld, (krW HO133), (kbW BK125), (kbW BK126), (kbW BK136), (kbW BK137), GW136.out, GE136.out, NB125_136.out, NB136_125.out, NB126_136.out, NB136_126.out, NB137_136.out, NB136_137.out, GW137.out, GE137.out, NB125_137.out, NB137_125.out, NB126_137.out, NB137_126.out, (by repeat (first | (with_reducible first | exact HB.out | apply bA_ | apply bN_ | apply bD_ | refine bS_ ?_ GE125 | refine bS_ ?_ GE126 | refine bS_ ?_ GE136 | refine bS_ ?_ GE137) | exact HB.out))⟩)
    ·
     skip
     refine box_step ?hg (N := 7) ?hd (cs := #[.int .i64 0, .int .i64 0, .string (⟨#[]⟩ : ByteArray)]) (t := 34) ?hr ?_; (case hd => rfl); (case hg => rfl); (case hr => first | (go_simp; done) | (go_simp; rfl))
     intro gb137 hg w43 hbox hb
     replace HO133 := kR HO133 hb
     have BK137 := Aside0.mk (hbox)
     have GW137 := Aside0.mk ((by rw [hg]; exact (bZ_ (by repeat (first | (with_reducible first | exact HB.out | apply bA_ | apply bN_ | apply bD_ | refine bS_ ?_ GE125 | refine bS_ ?_ GE126) | exact HB.out))) : w.heap.size ≤ gb137))
     replace HB := Aside0.mk (below_step (by repeat (first | (with_reducible first | exact HB.out | apply bA_ | apply bN_ | apply bD_ | refine bS_ ?_ GE125 | refine bS_ ?_ GE126) | exact HB.out)) hb)
     have GE137 := GW137
     have NB125_137 := Aside0.mk ((by rw [hg]; exact Nat.ne_of_lt (blk_lt (kbW BK125)) : gb125 ≠ gb137))
     have NB137_125 := Aside0.mk ((by rw [hg]; exact Nat.ne_of_gt (blk_lt (kbW BK125)) : gb137 ≠ gb125))
     replace BK125 := kB BK125 hb
     have NB126_137 := Aside0.mk ((by rw [hg]; exact Nat.ne_of_lt (blk_lt (kbW BK126)) : gb126 ≠ gb137))
     have NB137_126 := Aside0.mk ((by rw [hg]; exact Nat.ne_of_gt (blk_lt (kbW BK126)) : gb137 ≠ gb126))
     replace BK126 := kB BK126 hb
     clear hb hbox hg
     refine hK.out _ _ (cc6 BK125 (cd6 BK126)) (fun hHeld => ?_)
     clear hK K
     refine norm_ (a' := ?_) ?_ ?_
     rotate_left
     ·
      show Act.put _ (some 7) _ = _
      simp only [Act.put, sT_, sO_, sN_, i64_w, i32_w]
      rfl
     refine one_ (i := 4) (N := some 6) (tf_ 6 2) rfl rfl (one_of HT_.out (by kernel_rfl)) (by decide) (fun K hK => ?_)
     refine box_step ?hg (N := 6) ?hd (cs := #[.int .i64 0, .int .i64 0, .string (⟨#[]⟩ : ByteArray)]) (t := 34) ?hr ?_; (case hd => rfl); (case hg => rfl); (case hr => first | (go_simp; done) | (go_simp; rfl))
     intro gb136 hg w44 hbox hb
     replace HO133 := kR HO133 hb
     have BK136 := Aside0.mk (hbox)
     have GW136 := Aside0.mk ((by rw [hg]; exact (bZ_ (by repeat (first | (with_reducible first | exact HB.out | apply bA_ | apply bN_ | apply bD_ | refine bS_ ?_ GE125 | refine bS_ ?_ GE126 | refine bS_ ?_ GE137) | exact HB.out))) : w.heap.size ≤ gb136))
     replace HB := Aside0.mk (below_step (by repeat (first | (with_reducible first | exact HB.out | apply bA_ | apply bN_ | apply bD_ | refine bS_ ?_ GE125 | refine bS_ ?_ GE126 | refine bS_ ?_ GE137) | exact HB.out)) hb)
     have GE136 := GW136
     have NB125_136 := Aside0.mk ((by rw [hg]; exact Nat.ne_of_lt (blk_lt (kbW BK125)) : gb125 ≠ gb136))
     have NB136_125 := Aside0.mk ((by rw [hg]; exact Nat.ne_of_gt (blk_lt (kbW BK125)) : gb136 ≠ gb125))
     replace BK125 := kB BK125 hb
     have NB126_136 := Aside0.mk ((by rw [hg]; exact Nat.ne_of_lt (blk_lt (kbW BK126)) : gb126 ≠ gb136))
     have NB136_126 := Aside0.mk ((by rw [hg]; exact Nat.ne_of_gt (blk_lt (kbW BK126)) : gb136 ≠ gb126))
     replace BK126 := kB BK126 hb
     have NB137_136 := Aside0.mk ((by rw [hg]; exact Nat.ne_of_lt (blk_lt (kbW BK137)) : gb137 ≠ gb136))
     have NB136_137 := Aside0.mk ((by rw [hg]; exact Nat.ne_of_gt (blk_lt (kbW BK137)) : gb136 ≠ gb137))
     replace BK137 := kB BK137 hb
     clear hb hbox hg
     refine hK.out _ _ (cc6 BK125 (cd6 BK126)) (fun hHeld => ?_)
     clear hK K
     refine norm_ (a' := ?_) ?_ ?_
     rotate_left
     ·
      show Act.put _ (some 6) _ = _
      simp only [Act.put, sT_, sO_, sN_, i64_w, i32_w]
      rfl
     exact norm_ (by simp only [putAll, Act.put, sT_, sO_, sN_]) (hCont (gb136, gb137) _ ⟨hHeld, (krW HO133), (kbW BK125), (kbW BK126), (kbW BK136), (kbW BK137), GW136.out, GE136.out, NB125_136.out, NB136_125.out, NB126_136.out, NB136_126.out, NB137_136.out, NB136_137.out, GW137.out, GE137.out, NB125_137.out, NB137_125.out, NB126_137.out, NB137_126.out, (by repeat (first | (with_reducible first | exact HB.out | apply bA_ | apply bN_ | apply bD_ | refine bS_ ?_ GE125 | refine bS_ ?_ GE126 | refine bS_ ?_ GE137 | refine bS_ ?_ GE136) | exact HB.out))⟩)
   rintro ⟨gb136, gb137⟩ w45 ⟨hS_, h0_, h1_, h2_, h3_, h4_, h5_, h6_, h7_, h8_, h9_, h10_, h11_, h12_, h13_, h14_, h15_, h16_, h17_, h18_, h19_⟩
   have n0_ : Aside0 (Kd.R (Kd.int .i64) 3 w45 w.heap.size (fun _ => True) (.slice Ao40 y131.length co40) y131) := ⟨h0_⟩
   have n1_ : Aside0 (w45.heap[gb125]? = some (.cells #[.int .i64 a0_0, .bool false, .int .i64 a0_2, .int .i64 a0_3, .int .i64 a0_4, .string a0_5] 36 (0, 0))) := ⟨h1_⟩
   have n2_ : Aside0 (w45.heap[gb126]? = some (.cells #[.int .i64 a1_0, .bool a1_1, .int .i64 a1_2, .int .i64 a1_3, .int .i64 a1_4, .string a1_5] 36 (0, 0))) := ⟨h2_⟩
   have n3_ : Aside0 (w45.heap[gb136]? = some (.cells #[.int .i64 0, .int .i64 0, .string (⟨#[]⟩ : ByteArray)] 34 (0, 0))) := ⟨h3_⟩
   have n4_ : Aside0 (w45.heap[gb137]? = some (.cells #[.int .i64 0, .int .i64 0, .string (⟨#[]⟩ : ByteArray)] 34 (0, 0))) := ⟨h4_⟩
   have n5_ : Aside0 (w.heap.size ≤ gb136) := ⟨h5_⟩
   have n6_ : Aside0 (w.heap.size ≤ gb136) := ⟨h6_⟩
   have n7_ : Aside0 (gb125 ≠ gb136) := ⟨h7_⟩
   have n8_ : Aside0 (gb136 ≠ gb125) := ⟨h8_⟩
   have n9_ : Aside0 (gb126 ≠ gb136) := ⟨h9_⟩
   have n10_ : Aside0 (gb136 ≠ gb126) := ⟨h10_⟩
   have n11_ : Aside0 (gb137 ≠ gb136) := ⟨h11_⟩
   have n12_ : Aside0 (gb136 ≠ gb137) := ⟨h12_⟩
   have n13_ : Aside0 (w.heap.size ≤ gb137) := ⟨h13_⟩
   have n14_ : Aside0 (w.heap.size ≤ gb137) := ⟨h14_⟩
   have n15_ : Aside0 (gb125 ≠ gb137) := ⟨h15_⟩
   have n16_ : Aside0 (gb137 ≠ gb125) := ⟨h16_⟩
   have n17_ : Aside0 (gb126 ≠ gb137) := ⟨h17_⟩
   have n18_ : Aside0 (gb137 ≠ gb126) := ⟨h18_⟩
   have n19_ : Aside0 (Below w.heap.size w w45) := ⟨h19_⟩
   clear HO133
   clear BK125
   clear BK126
   clear HB
   clear h0_ h1_ h2_ h3_ h4_ h5_ h6_ h7_ h8_ h9_ h10_ h11_ h12_ h13_ h14_ h15_ h16_ h17_ h18_ h19_
   have HO133 := n0_
   have BK125 := n1_
   have BK126 := n2_
   have BK136 := n3_
   have BK137 := n4_
   have GW136 := n5_
   have GE136 := n6_
   have NB125_136 := n7_
   have NB136_125 := n8_
   have NB126_136 := n9_
   have NB136_126 := n10_
   have NB137_136 := n11_
   have NB136_137 := n12_
   have GW137 := n13_
   have GE137 := n14_
   have NB125_137 := n15_
   have NB137_125 := n16_
   have NB126_137 := n17_
   have NB137_126 := n18_
   have HB := n19_
   clear n0_ n1_ n2_ n3_ n4_ n5_ n6_ n7_ n8_ n9_ n10_ n11_ n12_ n13_ n14_ n15_ n16_ n17_ n18_ n19_
   have hHeld : w45.cell? ⟨gb125, 0, none⟩ = some (.int .i64 a0_0) ∧ w45.cell? ⟨gb125, 1, none⟩ = some (.bool false) ∧ w45.cell? ⟨gb125, 2, none⟩ = some (.int .i64 a0_2) ∧ w45.cell? ⟨gb125, 3, none⟩ = some (.int .i64 a0_3) ∧ w45.cell? ⟨gb125, 4, none⟩ = some (.int .i64 a0_4) ∧ w45.cell? ⟨gb125, 5, none⟩ = some (.string a0_5) ∧ w45.cell? ⟨gb126, 0, none⟩ = some (.int .i64 a1_0) ∧ w45.cell? ⟨gb126, 1, none⟩ = some (.bool a1_1) ∧ w45.cell? ⟨gb126, 2, none⟩ = some (.int .i64 a1_2) ∧ w45.cell? ⟨gb126, 3, none⟩ = some (.int .i64 a1_3) ∧ w45.cell? ⟨gb126, 4, none⟩ = some (.int .i64 a1_4) ∧ w45.cell? ⟨gb126, 5, none⟩ = some (.string a1_5) := hS_
   refine norm_ (a' := ?_) ?_ ?_
   rotate_left
   ·
    simp only [putAll, Act.put, sT_, sO_, sN_]
    rfl
   refine one_ (i := 6) (N := none) (tf_ 7 1) rfl rfl (one_of HT_.out (by kernel_rfl)) (by decide) (fun K hK => ?_)
   have hs46 : w45.cell? ⟨gb136, 0, none⟩ = some (.int .i64 0) := (blk_cell BK136.out 0).trans rfl
   have hfs46 := blk_frozen BK136.out 0
   have hns46_0 := NB125_136.out
   have hns46_1 := NB126_136.out
   have hns46_3 := NB137_136.out
   have hms46_0 := NB136_125.out
   have hms46_1 := NB136_126.out
   have hms46_3 := NB136_137.out
   have hs47 : w45.cell? ⟨gb136, 1, none⟩ = some (.int .i64 0) := (blk_cell BK136.out 1).trans rfl
   have hfs47 := blk_frozen BK136.out 1
   have hns47_0 := NB125_136.out
   have hns47_1 := NB126_136.out
   have hns47_3 := NB137_136.out
   have hms47_0 := NB136_125.out
   have hms47_1 := NB136_126.out
   have hms47_3 := NB136_137.out
   have hs48 : w45.cell? ⟨gb136, 2, none⟩ = some (.string (⟨#[]⟩ : ByteArray)) := (blk_cell BK136.out 2).trans rfl
   have hfs48 := blk_frozen BK136.out 2
   have hns48_0 := NB125_136.out
   have hns48_1 := NB126_136.out
   have hns48_3 := NB137_136.out
   have hms48_0 := NB136_125.out
   have hms48_1 := NB136_126.out
   have hms48_3 := NB136_137.out
   refine skip_ (w1 := ?_) (by rfl) rfl ?_ ?_
   rotate_left
   ·
    go_simp
    rfl
   refine hK.out _ _ ⟨(cf_ NB125_136 ((cf_ NB125_136 ((cf_ NB125_136 (hHeld.1)))))), (cf_ NB125_136 ((cf_ NB125_136 ((cf_ NB125_136 (hHeld.2.1)))))), (cf_ NB125_136 ((cf_ NB125_136 ((cf_ NB125_136 (hHeld.2.2.1)))))), (cf_ NB125_136 ((cf_ NB125_136 ((cf_ NB125_136 (hHeld.2.2.2.1)))))), (cf_ NB125_136 ((cf_ NB125_136 ((cf_ NB125_136 (hHeld.2.2.2.2.1)))))), (cf_ NB125_136 ((cf_ NB125_136 ((cf_ NB125_136 (hHeld.2.2.2.2.2.1)))))), (cf_ NB126_136 ((cf_ NB126_136 ((cf_ NB126_136 (hHeld.2.2.2.2.2.2.1)))))), (cf_ NB126_136 ((cf_ NB126_136 ((cf_ NB126_136 (hHeld.2.2.2.2.2.2.2.1)))))), (cf_ NB126_136 ((cf_ NB126_136 ((cf_ NB126_136 (hHeld.2.2.2.2.2.2.2.2.1)))))), (cf_ NB126_136 ((cf_ NB126_136 ((cf_ NB126_136 (hHeld.2.2.2.2.2.2.2.2.2.1)))))), (cf_ NB126_136 ((cf_ NB126_136 ((cf_ NB126_136 (hHeld.2.2.2.2.2.2.2.2.2.2.1)))))), (cf_ NB126_136 ((cf_ NB126_136 ((cf_ NB126_136 (hHeld.2.2.2.2.2.2.2.2.2.2.2))))))⟩ (fun hHeld => ?_)
   clear hK K
   refine one_ (i := 7) (N := none) (tf_ 8 0) rfl rfl (one_of HT_.out (by kernel_rfl)) (by decide) (fun K hK => ?_)
   have hs49 : w45.cell? ⟨gb137, 0, none⟩ = some (.int .i64 0) := (blk_cell BK137.out 0).trans rfl
   have hfs49 := blk_frozen BK137.out 0
   have hns49_0 := NB125_137.out
   have hns49_1 := NB126_137.out
   have hns49_2 := NB136_137.out
   have hms49_0 := NB137_125.out
   have hms49_1 := NB137_126.out
   have hms49_2 := NB137_136.out
   have hs50 : w45.cell? ⟨gb137, 1, none⟩ = some (.int .i64 0) := (blk_cell BK137.out 1).trans rfl
   have hfs50 := blk_frozen BK137.out 1
   have hns50_0 := NB125_137.out
   have hns50_1 := NB126_137.out
   have hns50_2 := NB136_137.out
   have hms50_0 := NB137_125.out
   have hms50_1 := NB137_126.out
   have hms50_2 := NB137_136.out
   have hs51 : w45.cell? ⟨gb137, 2, none⟩ = some (.string (⟨#[]⟩ : ByteArray)) := (blk_cell BK137.out 2).trans rfl
   have hfs51 := blk_frozen BK137.out 2
   have hns51_0 := NB125_137.out
   have hns51_1 := NB126_137.out
   have hns51_2 := NB136_137.out
   have hms51_0 := NB137_125.out
   have hms51_1 := NB137_126.out
   have hms51_2 := NB137_136.out
   refine skip_ (w1 := ?_) (by rfl) rfl ?_ ?_
   rotate_left
   ·
    go_simp
    rfl
   refine hK.out _ _ ⟨(cf_ NB125_137 ((cf_ NB125_137 ((cf_ NB125_137 (hHeld.1)))))), (cf_ NB125_137 ((cf_ NB125_137 ((cf_ NB125_137 (hHeld.2.1)))))), (cf_ NB125_137 ((cf_ NB125_137 ((cf_ NB125_137 (hHeld.2.2.1)))))), (cf_ NB125_137 ((cf_ NB125_137 ((cf_ NB125_137 (hHeld.2.2.2.1)))))), (cf_ NB125_137 ((cf_ NB125_137 ((cf_ NB125_137 (hHeld.2.2.2.2.1)))))), (cf_ NB125_137 ((cf_ NB125_137 ((cf_ NB125_137 (hHeld.2.2.2.2.2.1)))))), (cf_ NB126_137 ((cf_ NB126_137 ((cf_ NB126_137 (hHeld.2.2.2.2.2.2.1)))))), (cf_ NB126_137 ((cf_ NB126_137 ((cf_ NB126_137 (hHeld.2.2.2.2.2.2.2.1)))))), (cf_ NB126_137 ((cf_ NB126_137 ((cf_ NB126_137 (hHeld.2.2.2.2.2.2.2.2.1)))))), (cf_ NB126_137 ((cf_ NB126_137 ((cf_ NB126_137 (hHeld.2.2.2.2.2.2.2.2.2.1)))))), (cf_ NB126_137 ((cf_ NB126_137 ((cf_ NB126_137 (hHeld.2.2.2.2.2.2.2.2.2.2.1)))))), (cf_ NB126_137 ((cf_ NB126_137 ((cf_ NB126_137 (hHeld.2.2.2.2.2.2.2.2.2.2.2))))))⟩ (fun hHeld => ?_)
   clear hK K
   refine done_ (done_of HT_.out (by kernel_rfl)) ?_
   try go_wp2
   have n0_ : Aside0 (Kd.R (Kd.int .i64) 3 ((((((w45.setCell ⟨gb136, 0, none⟩ (.int .i64 a0_3)).setCell ⟨gb136, 1, none⟩ (.int .i64 a0_4)).setCell ⟨gb136, 2, none⟩ (.string a0_5)).setCell ⟨gb137, 0, none⟩ (.int .i64 a1_3)).setCell ⟨gb137, 1, none⟩ (.int .i64 a1_4)).setCell ⟨gb137, 2, none⟩ (.string a1_5)) w.heap.size (fun _ => True) (.slice Ao40 y131.length co40) y131) := ⟨by (with_reducible repeat (first | apply Kd.R_alloc | apply Kd.R_drewN | apply Kd.R_drew)); exact Kd.R_mono (rf3 (Kd.R_far (p := ⟨gb136, 2, none⟩) (Kd.R_far (p := ⟨gb136, 1, none⟩) (Kd.R_far (p := ⟨gb136, 0, none⟩) (Kd.R_types (Kd.R_types HO133.out BK136.out (by decide)) BK137.out (by decide)) (fun _ hk => hk.1.2) (.int .i64 a0_3)) (fun _ hk => hk.1.2) (.int .i64 a0_4)) (fun _ hk => hk.1.2) (.string a0_5)) (fun _ hk => hk.2)) (fun _ hk => trivial)⟩
   have n1_ : Aside0 (((((((w45.setCell ⟨gb136, 0, none⟩ (.int .i64 a0_3)).setCell ⟨gb136, 1, none⟩ (.int .i64 a0_4)).setCell ⟨gb136, 2, none⟩ (.string a0_5)).setCell ⟨gb137, 0, none⟩ (.int .i64 a1_3)).setCell ⟨gb137, 1, none⟩ (.int .i64 a1_4)).setCell ⟨gb137, 2, none⟩ (.string a1_5)).heap[gb125]? = some (.cells #[.int .i64 a0_0, .bool false, .int .i64 a0_2, .int .i64 a0_3, .int .i64 a0_4, .string a0_5] 36 (0, 0))) := ⟨by (with_reducible repeat (first | refine blk_drewN ?_ _ | refine blk_drew ?_ | refine blk_alloc ?_ _)); refine bf3 ?_ NB125_137.out; (with_reducible repeat (first | refine blk_drewN ?_ _ | refine blk_drew ?_ | refine blk_alloc ?_ _)); refine bf3 ?_ NB125_136.out; (with_reducible repeat (first | refine blk_drewN ?_ _ | refine blk_drew ?_ | refine blk_alloc ?_ _)); exact BK125.out⟩
   have n2_ : Aside0 (((((((w45.setCell ⟨gb136, 0, none⟩ (.int .i64 a0_3)).setCell ⟨gb136, 1, none⟩ (.int .i64 a0_4)).setCell ⟨gb136, 2, none⟩ (.string a0_5)).setCell ⟨gb137, 0, none⟩ (.int .i64 a1_3)).setCell ⟨gb137, 1, none⟩ (.int .i64 a1_4)).setCell ⟨gb137, 2, none⟩ (.string a1_5)).heap[gb126]? = some (.cells #[.int .i64 a1_0, .bool a1_1, .int .i64 a1_2, .int .i64 a1_3, .int .i64 a1_4, .string a1_5] 36 (0, 0))) := ⟨by (with_reducible repeat (first | refine blk_drewN ?_ _ | refine blk_drew ?_ | refine blk_alloc ?_ _)); refine bf3 ?_ NB126_137.out; (with_reducible repeat (first | refine blk_drewN ?_ _ | refine blk_drew ?_ | refine blk_alloc ?_ _)); refine bf3 ?_ NB126_136.out; (with_reducible repeat (first | refine blk_drewN ?_ _ | refine blk_drew ?_ | refine blk_alloc ?_ _)); exact BK126.out⟩
   have n3_ : Aside0 (((((((w45.setCell ⟨gb136, 0, none⟩ (.int .i64 a0_3)).setCell ⟨gb136, 1, none⟩ (.int .i64 a0_4)).setCell ⟨gb136, 2, none⟩ (.string a0_5)).setCell ⟨gb137, 0, none⟩ (.int .i64 a1_3)).setCell ⟨gb137, 1, none⟩ (.int .i64 a1_4)).setCell ⟨gb137, 2, none⟩ (.string a1_5)).heap[gb136]? = some (.cells #[.int .i64 a0_3, .int .i64 a0_4, .string a0_5] 34 (0, 0))) := ⟨by (with_reducible repeat (first | refine blk_drewN ?_ _ | refine blk_drew ?_ | refine blk_alloc ?_ _)); refine bf3 ?_ NB136_137.out; (with_reducible repeat (first | refine blk_drewN ?_ _ | refine blk_drew ?_ | refine blk_alloc ?_ _)); exact bp3 (kbW BK136)⟩
   have n4_ : Aside0 (((((((w45.setCell ⟨gb136, 0, none⟩ (.int .i64 a0_3)).setCell ⟨gb136, 1, none⟩ (.int .i64 a0_4)).setCell ⟨gb136, 2, none⟩ (.string a0_5)).setCell ⟨gb137, 0, none⟩ (.int .i64 a1_3)).setCell ⟨gb137, 1, none⟩ (.int .i64 a1_4)).setCell ⟨gb137, 2, none⟩ (.string a1_5)).heap[gb137]? = some (.cells #[.int .i64 a1_3, .int .i64 a1_4, .string a1_5] 34 (0, 0))) := ⟨by (with_reducible repeat (first | refine blk_drewN ?_ _ | refine blk_drew ?_ | refine blk_alloc ?_ _)); apply bp3; (with_reducible repeat (first | refine blk_drewN ?_ _ | refine blk_drew ?_ | refine blk_alloc ?_ _)); refine bf3 ?_ NB137_136.out; (with_reducible repeat (first | refine blk_drewN ?_ _ | refine blk_drew ?_ | refine blk_alloc ?_ _)); exact BK137.out⟩
   have n5_ : Aside0 (Below w.heap.size w ((((((w45.setCell ⟨gb136, 0, none⟩ (.int .i64 a0_3)).setCell ⟨gb136, 1, none⟩ (.int .i64 a0_4)).setCell ⟨gb136, 2, none⟩ (.string a0_5)).setCell ⟨gb137, 0, none⟩ (.int .i64 a1_3)).setCell ⟨gb137, 1, none⟩ (.int .i64 a1_4)).setCell ⟨gb137, 2, none⟩ (.string a1_5))) := ⟨by repeat (first | (with_reducible first | exact HB.out | apply bA_ | apply bN_ | apply bD_ | refine bS_ ?_ GE125 | refine bS_ ?_ GE126 | refine bS_ ?_ GE136 | refine bS_ ?_ GE137) | exact HB.out)⟩
   (try clear HO133)
   (try clear BK125)
   (try clear BK126)
   (try clear BK136)
   (try clear BK137)
   (try clear HB)
   generalize ((((((w45.setCell ⟨gb136, 0, none⟩ (.int .i64 a0_3)).setCell ⟨gb136, 1, none⟩ (.int .i64 a0_4)).setCell ⟨gb136, 2, none⟩ (.string a0_5)).setCell ⟨gb137, 0, none⟩ (.int .i64 a1_3)).setCell ⟨gb137, 1, none⟩ (.int .i64 a1_4)).setCell ⟨gb137, 2, none⟩ (.string a1_5)) = w52 at n0_ n1_ n2_ n3_ n4_ n5_ ⊢
   have HO133 := n0_
   have BK125 := n1_
   have BK126 := n2_
   have BK136 := n3_
   have BK137 := n4_
   have HB := n5_
   clear n0_ n1_ n2_ n3_ n4_ n5_
   replace HO133 := Aside0.mk (Kd.R_drew HO133.out)
   replace BK125 := Aside0.mk (blk_drew BK125.out)
   replace BK126 := Aside0.mk (blk_drew BK126.out)
   replace BK136 := Aside0.mk (blk_drew BK136.out)
   replace BK137 := Aside0.mk (blk_drew BK137.out)
   replace HB := Aside0.mk (below_drew1 HB.out)
   refine start_ (n := 18) (S := fun w' => w'.cell? ⟨gb136, 0, none⟩ = some (.int .i64 a0_3) ∧ w'.cell? ⟨gb136, 1, none⟩ = some (.int .i64 a0_4) ∧ w'.cell? ⟨gb136, 2, none⟩ = some (.string a0_5) ∧ w'.cell? ⟨gb137, 0, none⟩ = some (.int .i64 a1_3) ∧ w'.cell? ⟨gb137, 1, none⟩ = some (.int .i64 a1_4) ∧ w'.cell? ⟨gb137, 2, none⟩ = some (.string a1_5)) (ds := []) (tf_ 0 18) (by kernel_rfl) rfl rfl (cc3 BK136 (cd3 BK137)) (fun hHeld => ?_); refine with_tabW cell_Cmp.tab9 cell_Cmp.bits9 (fun HT_ HW_ => ?_)
   generalize w52.drew = w53 at HO133 BK125 BK126 BK136 BK137 HB hHeld ⊢
   refine pure_ (i := 0) (N := some 41) (v := ?_) (a' := ?_) (tf_ 1 17) rfl rfl (any_of HT_.out (by kernel_rfl)) (fun _ _ _ h => h) (Or.inl ⟨by rfl, ?_⟩) ?_ ?_
   rotate_left; · (intro w'; go_simp; with_reducible rfl)
   rotate_left; · (simp only [Act.put, sT_, sO_, sN_, i64_w, i32_w]; rfl)
   refine pure_ (i := 2) (N := some 43) (v := ?_) (a' := ?_) (tb_ 5 18) rfl rfl (any_of HT_.out (by kernel_rfl)) (fun _ _ _ h => h) (Or.inl ⟨by rfl, ?_⟩) ?_ ?_
   rotate_left; · (intro w'; go_simp; with_reducible rfl)
   rotate_left; · (simp only [Act.put, sT_, sO_, sN_, i64_w, i32_w]; rfl)
   refine pure_ (i := 5) (N := some 46) (v := ?_) (a' := ?_) (tb_ 37 18) rfl rfl (any_of HT_.out (by kernel_rfl)) (fun _ _ _ h => h) (Or.inl ⟨by rfl, ?_⟩) ?_ ?_
   rotate_left; · (intro w'; go_simp; with_reducible rfl)
   rotate_left; · (simp only [Act.put, sT_, sO_, sN_, i64_w, i32_w]; rfl)
   refine pure_ (i := 7) (N := some 48) (v := ?_) (a' := ?_) (tb_ 165 18) rfl rfl (any_of HT_.out (by kernel_rfl)) (fun _ _ _ h => h) (Or.inl ⟨by rfl, ?_⟩) ?_ ?_
   rotate_left; · (intro w'; go_simp; with_reducible rfl)
   rotate_left; · (simp only [Act.put, sT_, sO_, sN_, i64_w, i32_w]; rfl)
   refine pure_ (i := 10) (N := some 51) (v := ?_) (a' := ?_) (tb_ 1189 18) rfl rfl (any_of HT_.out (by kernel_rfl)) (fun _ _ _ h => h) (Or.inl ⟨by rfl, ?_⟩) ?_ ?_
   rotate_left; · (intro w'; go_simp; with_reducible rfl)
   rotate_left; · (simp only [Act.put, sT_, sO_, sN_, i64_w, i32_w]; rfl)
   refine pure_ (i := 12) (N := some 53) (v := ?_) (a' := ?_) (tb_ 5285 18) rfl rfl (any_of HT_.out (by kernel_rfl)) (fun _ _ _ h => h) (Or.inl ⟨by rfl, ?_⟩) ?_ ?_
   rotate_left; · (intro w'; go_simp; with_reducible rfl)
   rotate_left; · (simp only [Act.put, sT_, sO_, sN_, i64_w, i32_w]; rfl)
   refine take_ (i := 1) (N := some 42) (v := ?_) (a' := ?_) (tb_ 5287 18) rfl rfl (take_ofW HT_.out HW_.out (by kernel_rfl)) (fun _ _ _ h => h) (Or.inl ⟨by rfl, ?_⟩) hHeld ?_ ?_
   rotate_left; · (rintro w' ⟨s0, s1, s2, s3, s4, s5⟩; go_simp; with_reducible rfl)
   rotate_left; · (simp only [Act.put, sT_, sO_, sN_, i64_w, i32_w]; rfl)
   refine take_ (i := 3) (N := some 44) (v := ?_) (a' := ?_) (tb_ 5295 18) rfl rfl (take_ofW HT_.out HW_.out (by kernel_rfl)) (fun _ _ _ h => h) (Or.inl ⟨by rfl, ?_⟩) hHeld ?_ ?_
   rotate_left; · (rintro w' ⟨s0, s1, s2, s3, s4, s5⟩; go_simp; with_reducible rfl)
   rotate_left; · (simp only [Act.put, sT_, sO_, sN_, i64_w, i32_w]; rfl)
   refine take_ (i := 6) (N := some 47) (v := ?_) (a' := ?_) (tb_ 5359 18) rfl rfl (take_ofW HT_.out HW_.out (by kernel_rfl)) (fun _ _ _ h => h) (Or.inl ⟨by rfl, ?_⟩) hHeld ?_ ?_
   rotate_left; · (rintro w' ⟨s0, s1, s2, s3, s4, s5⟩; go_simp; with_reducible rfl)
   rotate_left; · (simp only [Act.put, sT_, sO_, sN_, i64_w, i32_w]; rfl)
   refine take_ (i := 8) (N := some 49) (v := ?_) (a' := ?_) (tb_ 5615 18) rfl rfl (take_ofW HT_.out HW_.out (by kernel_rfl)) (fun _ _ _ h => h) (Or.inl ⟨by rfl, ?_⟩) hHeld ?_ ?_
   rotate_left; · (rintro w' ⟨s0, s1, s2, s3, s4, s5⟩; go_simp; with_reducible rfl)
   rotate_left; · (simp only [Act.put, sT_, sO_, sN_, i64_w, i32_w]; rfl)
   refine take_ (i := 11) (N := some 52) (v := ?_) (a' := ?_) (tb_ 7663 18) rfl rfl (take_ofW HT_.out HW_.out (by kernel_rfl)) (fun _ _ _ h => h) (Or.inl ⟨by rfl, ?_⟩) hHeld ?_ ?_
   rotate_left; · (rintro w' ⟨s0, s1, s2, s3, s4, s5⟩; go_simp; with_reducible rfl)
   rotate_left; · (simp only [Act.put, sT_, sO_, sN_, i64_w, i32_w]; rfl)
   refine take_ (i := 13) (N := some 54) (v := ?_) (a' := ?_) (tb_ 15855 18) rfl rfl (take_ofW HT_.out HW_.out (by kernel_rfl)) (fun _ _ _ h => h) (Or.inl ⟨by rfl, ?_⟩) hHeld ?_ ?_
   rotate_left; · (rintro w' ⟨s0, s1, s2, s3, s4, s5⟩; go_simp; with_reducible rfl)
   rotate_left; · (simp only [Act.put, sT_, sO_, sN_, i64_w, i32_w]; rfl)
   refine one_ (i := 4) (N := some 45) (tb_ 15871 18) rfl rfl (one_of HT_.out (by kernel_rfl)) (by decide) (fun K hK => ?_)
   refine goes_ Try.func67 (by kernel_rfl) rfl #[.int .i64 a0_3, .int .i64 a1_3] (by rfl) rfl rfl (by (try simp only [mT_, mC_, mN_]); first | done | rfl) ?_
   with_reducible refine (cmp_Compare_int.calls a0_3 a1_3 t138 _ A28.out).mono ?_
   rintro e w' ⟨rfl, ⟨nd, rfl⟩⟩
   refine ⟨_, rfl, ?_⟩
   refine hK.out _ _ (cc3 BK136 (cd3 BK137)) (fun hHeld => ?_)
   clear hK K
   refine norm_ (a' := ?_) ?_ ?_
   rotate_left
   ·
    show Act.put _ (some 45) _ = _
    simp only [Act.put, sT_, sO_, sN_, i64_w, i32_w]
    rfl
   refine one_ (i := 9) (N := some 50) (tf_ 14 4) rfl rfl (one_of HT_.out (by kernel_rfl)) (by decide) (fun K hK => ?_)
   refine goes_ Try.func67 (by kernel_rfl) rfl #[.int .i64 a0_4, .int .i64 a1_4] (by rfl) rfl rfl (by (try simp only [mT_, mC_, mN_]); first | done | rfl) ?_
   with_reducible refine (cmp_Compare_int.calls a0_4 a1_4 t139 _ A29.out).mono ?_
   rintro e w' ⟨rfl, ⟨nd, rfl⟩⟩
   refine ⟨_, rfl, ?_⟩
   refine hK.out _ _ (cc3 BK136 (cd3 BK137)) (fun hHeld => ?_)
   clear hK K
   refine norm_ (a' := ?_) ?_ ?_
   rotate_left
   ·
    show Act.put _ (some 50) _ = _
    simp only [Act.put, sT_, sO_, sN_, i64_w, i32_w]
    rfl
   refine one_ (i := 14) (N := some 55) (tf_ 15 3) rfl rfl (one_of HT_.out (by kernel_rfl)) (by decide) (fun K hK => ?_)
   refine goes_ Try.func66 (by kernel_rfl) rfl #[.string a0_5, .string a1_5] (by rfl) rfl rfl (by (try simp only [mT_, mC_, mN_]); first | done | rfl) ?_
   with_reducible refine (cmp_Compare_string.calls a0_5 a1_5 t140 _ A30.out).mono ?_
   rintro e w' ⟨rfl, ⟨nd, rfl⟩⟩
   refine ⟨_, rfl, ?_⟩
   refine hK.out _ _ (cc3 BK136 (cd3 BK137)) (fun hHeld => ?_)
   clear hK K
   refine norm_ (a' := ?_) ?_ ?_
   rotate_left
   ·
    show Act.put _ (some 55) _ = _
    simp only [Act.put, sT_, sO_, sN_, i64_w, i32_w]
    rfl
   refine one_ (i := 15) (N := some 56) (tf_ 16 2) rfl rfl (one_of HT_.out (by kernel_rfl)) (by decide) (fun K hK => ?_)
   refine Kd.R_lit_step (Kd.int .i64) _ 3 ?hg (N := 56) ?hd (xs := ([t138, t139, t140] : List Int)) (inner := [.int .i64 t138, .int .i64 t139, .int .i64 t140]) (ok := fun _ => True) (okp := fun _ => True) ?hr ?hp (fun _ hk => hk) trivial (Below.refl _ _) (Nat.le_refl _) (by simp) ?_; (case hd => rfl); (case hg => rfl); (case hr => first | (go_simp; done) | (go_simp; rfl)); (case hp => exact (Reps.one (show Kd.M (Kd.int .i64) _ _ _ t138 [.int .i64 t138] from rfl) (Reps.one (show Kd.M (Kd.int .i64) _ _ _ t139 [.int .i64 t139] from rfl) (Reps.one (show Kd.M (Kd.int .i64) _ _ _ t140 [.int .i64 t140] from rfl) (Reps.none _ _)))))
   intro v142 w54 ho55 hb hg_ hnew_
   clear hg_ hnew_
   (first | rw [← Ny141.out] at ho55 | (simp only [Int.reduceToNat] at ho55; rw [← Ny141.out] at ho55))
   have HO143 := Aside0.mk (Kd.R_lower (Kd.R_new' ho55 (Kd.R_lt (krW HO133))) (bZ_ (by repeat (first | (with_reducible first | exact HB.out | apply bA_ | apply bN_ | apply bD_ | refine bS_ ?_ GE125 | refine bS_ ?_ GE126 | refine bS_ ?_ GE136 | refine bS_ ?_ GE137) | exact HB.out))))
   replace HO133 := Aside0.mk (Kd.R_elder' (krW HO133) (Kd.R_base ho55) hb)
   replace BK125 := kB BK125 hb
   replace BK126 := kB BK126 hb
   replace BK136 := kB BK136 hb
   replace BK137 := kB BK137 hb
   replace HB := Aside0.mk (below_step (by repeat (first | (with_reducible first | exact HB.out | apply bA_ | apply bN_ | apply bD_ | refine bS_ ?_ GE125 | refine bS_ ?_ GE126 | refine bS_ ?_ GE136 | refine bS_ ?_ GE137) | exact HB.out)) hb)
   clear hb ho55
   obtain ⟨Ao56, co56, eo56⟩ := Kd.R_slice HO143.out
   (first | subst eo56 | (injection eo56 with f1_ f2_ f3_; have f4_ := f1_.symm; have f5_ := f3_.symm; clear f1_ f2_ f3_; subst f4_; subst f5_))
   refine hK.out _ _ (cc3 BK136 (cd3 BK137)) (fun hHeld => ?_)
   clear hK K
   refine norm_ (a' := ?_) ?_ ?_
   rotate_left
   ·
    show Act.put _ (some 56) _ = _
    simp only [Act.put, sT_, sO_, sN_, i64_w, i32_w]
    rfl
   refine one_ (i := 16) (N := some 57) (tf_ 17 1) rfl rfl (one_of HT_.out (by kernel_rfl)) (by decide) (fun K hK => ?_)
   refine goes_ Try.func87 (by kernel_rfl) rfl #[.slice Ao56 y141.length co56] (by rfl) rfl rfl (by (try simp only [mT_, mC_, mN_]); first | done | rfl) ?_
   with_reducible refine (cmp_Or_int.calls k _ _ y141 t144 _ ?side1 ?side2 A31.out).mono ?_
   (case side1 => repeat (first | exact (Kd.R_reads' HO143.out).2.2 | (with_reducible refine Kd.C_alloc ?_ _) | (with_reducible refine Kd.C_drewN ?_ _) | (with_reducible refine Kd.C_drew ?_)))
   (case side2 => exact (Kd.R_reads' HO143.out).2.1)
   rintro e w' ⟨rfl, ⟨nd, rfl⟩⟩
   refine ⟨_, rfl, ?_⟩
   refine hK.out _ _ (cc3 BK136 (cd3 BK137)) (fun hHeld => ?_)
   clear hK K
   refine norm_ (a' := ?_) ?_ ?_
   rotate_left
   ·
    show Act.put _ (some 57) _ = _
    simp only [Act.put, sT_, sO_, sN_, i64_w, i32_w]
    rfl
   refine pure_ (i := 17) (N := some 4) (v := ?_) (a' := ?_) (tf_ 18 0) rfl rfl (any_of HT_.out (by kernel_rfl)) (fun _ _ _ h => h) (Or.inl ⟨by rfl, ?_⟩) ?_ ?_
   rotate_left; · (intro w'; go_simp; with_reducible rfl)
   rotate_left; · (simp only [Act.put, sT_, sO_, sN_, i64_w, i32_w]; rfl)
   refine done_ (done_of HT_.out (by kernel_rfl)) ?_
   try go_wp2
   go_ret
   exact ⟨by first | rfl | (simp <;> rfl) | (simp [*] <;> rfl), by repeat (first | (with_reducible first | exact HB.out | apply bA_ | apply bN_ | apply bD_ | refine bS_ ?_ GE125 | refine bS_ ?_ GE126 | refine bS_ ?_ GE136 | refine bS_ ?_ GE137) | exact HB.out)⟩
end Go.Proofs.Ytafhnjlihhfoaaa.Q
