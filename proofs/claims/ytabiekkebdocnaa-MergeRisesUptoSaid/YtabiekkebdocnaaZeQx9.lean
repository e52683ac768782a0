/- Lemmas for this claim's walk: no condition of their own. -/
import Derived.Test.YtabiekkebdocnaaZeSq
import Derived.Test.YtabiekkebdocnaaZeQx0
import Derived.Test.YtabiekkebdocnaaZeQx8
namespace Go.Proofs.Ytabiekkebdocnaa.Q
open Go.RowKit Go.Proofs.YtabiekkebdocnaaW.PrintWords Go.Proofs.YtabiekkebdocnaaW.PrintLast Go.Proofs.YtabiekkebdocnaaW.PrintMore
attribute [local go_sem] max2_int min2_int max_two min_two max_three min_three max_four min_four
set_option linter.unusedVariables false
set_option linter.unusedSimpArgs false
def cell_Norm_3.f (k : Nat) (a0_0 : ByteArray) (a0_1 : ByteArray) (a0_2 : Int) (a0_3 : ByteArray) (a0_4 : Int) (a0_5 : Bool) (a0_6 : Int) (a0_7 : Int) (a0_8 : Int) (a0_9 : ByteArray) (a1_0 : ByteArray) (a1_1 : ByteArray) (a1_2 : Int) (a1_3 : ByteArray) (a1_4 : Int) (a1_5 : Bool) (a1_6 : Int) (a1_7 : Int) (a1_8 : Int) (a1_9 : ByteArray) : Option (ByteArray × ByteArray × Int × ByteArray × Int × Bool × Int × Int × Int × ByteArray) := (cell_Join.f k a0_4 a0_5 a0_6 a0_7 a0_8 a0_9 a1_4 a1_5 a1_6 a1_7 a1_8 a1_9).bind fun bt132 => (some (a0_0, a0_1, a0_2, a0_3, bt132.1, bt132.2.1, bt132.2.2.1, bt132.2.2.2.1, bt132.2.2.2.2.1, bt132.2.2.2.2.2))
def cell_Norm_3.T1 : Bool × List (List Nat × List Nat) := (true, [([], []), ([0], [0]), ([], []), ([2], [2]), ([], []), ([4], [4]), ([3, 5], [3, 5]), ([1, 6], [1, 6]), ([7, 6, 0, 1, 2, 3, 4, 5, 6, 7], [7])])
def cell_Norm_3.B1 : List Nat := [0, 1, 0, 4, 0, 16, 60, 127, 255]
theorem cell_Norm_3.tab1 : rtab .any (opsOf Try.f45 1) = cell_Norm_3.T1 := by kernel_rfl
theorem cell_Norm_3.bits1 : waitsOk cell_Norm_3.T1.2 cell_Norm_3.B1 = true := by kernel_rfl
set_option maxHeartbeats 8000000 in
set_option maxRecDepth 100000 in
theorem cell_Norm_3.calls (k : Nat) (a0_0 : ByteArray) (a0_1 : ByteArray) (a0_2 : Int) (a0_3 : ByteArray) (a0_4 : Int) (a0_5 : Bool) (a0_6 : Int) (a0_7 : Int) (a0_8 : Int) (a0_9 : ByteArray) (a1_0 : ByteArray) (a1_1 : ByteArray) (a1_2 : Int) (a1_3 : ByteArray) (a1_4 : Int) (a1_5 : Bool) (a1_6 : Int) (a1_7 : Int) (a1_8 : Int) (a1_9 : ByteArray) (r1 : ByteArray) (r2 : ByteArray) (r3 : Int) (r4 : ByteArray) (r5 : Int) (r6 : Bool) (r7 : Int) (r8 : Int) (r9 : Int) (r10 : ByteArray) (w : World) (h : cell_Norm_3.f k a0_0 a0_1 a0_2 a0_3 a0_4 a0_5 a0_6 a0_7 a0_8 a0_9 a1_0 a1_1 a1_2 a1_3 a1_4 a1_5 a1_6 a1_7 a1_8 a1_9 = some (r1, r2, r3, r4, r5, r6, r7, r8, r9, r10)) :
  Calls Try.prog 45 #[.agg #[.string a0_0, .string a0_1, .int .i64 a0_2, .string a0_3, .int .i64 a0_4, .bool a0_5, .int .i64 a0_6, .int .i64 a0_7, .int .i64 a0_8, .string a0_9], .agg #[.string a1_0, .string a1_1, .int .i64 a1_2, .string a1_3, .int .i64 a1_4, .bool a1_5, .int .i64 a1_6, .int .i64 a1_7, .int .i64 a1_8, .string a1_9]] w fun e w' => e = .returned (.agg #[.string r1, .string r2, .int .i64 r3, .string r4, .int .i64 r5, .bool r6, .int .i64 r7, .int .i64 r8, .int .i64 r9, .string r10]) ∧ Below w.heap.size w w' := by
 have hu39 := Try.underlying39
 have hu33 := Try.underlying33
 have hu37 := Try.underlying37
 have HB := Aside0.mk (Below.refl w.heap.size w)
 have H : ((cell_Join.f k a0_4 a0_5 a0_6 a0_7 a0_8 a0_9 a1_4 a1_5 a1_6 a1_7 a1_8 a1_9).bind fun bt132 => (some (a0_0, a0_1, a0_2, a0_3, bt132.1, bt132.2.1, bt132.2.2.1, bt132.2.2.2.1, bt132.2.2.2.2.1, bt132.2.2.2.2.2))) = some (r1, r2, r3, r4, r5, r6, r7, r8, r9, r10) := h
 clear h
 replace H := Option.bind_eq_some_iff.mp H
 obtain ⟨⟨t132, t133, t134, t135, t136, t137⟩, A30, H⟩ := H
 have A3 := Aside0.mk A30
 clear A30
 simp only [Option.some.injEq, Prod.mk.injEq] at H
 obtain ⟨rfl, rfl, rfl, rfl, rfl, rfl, rfl, rfl, rfl, rfl⟩ := H
 go_enter Try.func45, Try.ntmps45
 try go_wp2_with (first | ((with_reducible refine gate_dst (N := 2) rfl ?_); refine box_event ?hg (N := 2) ?hd (cs := #[.string a0_0, .string a0_1, .int .i64 a0_2, .string a0_3, .int .i64 a0_4, .bool a0_5, .int .i64 a0_6, .int .i64 a0_7, .int .i64 a0_8, .string a0_9]) (t := 39) ?hr ?_; (case hd => rfl); (case hg => rfl); (case hr => first | (go_simp; done) | (go_simp; rfl)); intro gb129 hg w4 hbox hb; have BK129 := Aside0.mk (hbox); have GW129 := Aside0.mk ((by rw [hg]; exact (bZ_ (kwW HB)) : w.heap.size ≤ gb129)); replace HB := Aside0.mk (below_step (kwW HB) hb); have GE129 := GW129; clear hb hbox hg) | ((with_reducible refine gate_dst (N := 3) rfl ?_); refine box_event ?hg (N := 3) ?hd (cs := #[.string a1_0, .string a1_1, .int .i64 a1_2, .string a1_3, .int .i64 a1_4, .bool a1_5, .int .i64 a1_6, .int .i64 a1_7, .int .i64 a1_8, .string a1_9]) (t := 39) ?hr ?_; (case hd => rfl); (case hg => rfl); (case hr => first | (go_simp; done) | (go_simp; rfl)); intro gb130 hg w5 hbox hb; have BK130 := Aside0.mk (hbox); have GW130 := Aside0.mk ((by rw [hg]; exact (bZ_ (by repeat (first | (with_reducible first | exact HB.out | apply bA_ | apply bN_ | apply bD_ | refine bS_ ?_ GE129) | exact HB.out))) : w.heap.size ≤ gb130)); replace HB := Aside0.mk (below_step (by repeat (first | (with_reducible first | exact HB.out | apply bA_ | apply bN_ | apply bD_ | refine bS_ ?_ GE129) | exact HB.out)) hb); have GE130 := GW130; have NB129_130 := Aside0.mk ((by rw [hg]; exact Nat.ne_of_lt (blk_lt (kbW BK129)) : gb129 ≠ gb130)); have NB130_129 := Aside0.mk ((by rw [hg]; exact Nat.ne_of_gt (blk_lt (kbW BK129)) : gb130 ≠ gb129)); replace BK129 := kB BK129 hb; clear hb hbox hg) | ((with_reducible refine gate_dst (N := 4) rfl ?_); refine box_event ?hg (N := 4) ?hd (cs := #[.string (⟨#[]⟩ : ByteArray), .string (⟨#[]⟩ : ByteArray), .int .i64 0, .string (⟨#[]⟩ : ByteArray), .int .i64 0, .bool false, .int .i64 0, .int .i64 0, .int .i64 0, .string (⟨#[]⟩ : ByteArray)]) (t := 39) ?hr ?_; (case hd => rfl); (case hg => rfl); (case hr => first | (go_simp; done) | (go_simp; rfl)); intro gb131 hg w6 hbox hb; have BK131 := Aside0.mk (hbox); have GW131 := Aside0.mk ((by rw [hg]; exact (bZ_ (by repeat (first | (with_reducible first | exact HB.out | apply bA_ | apply bN_ | apply bD_ | refine bS_ ?_ GE129 | refine bS_ ?_ GE130) | exact HB.out))) : w.heap.size ≤ gb131)); replace HB := Aside0.mk (below_step (by repeat (first | (with_reducible first | exact HB.out | apply bA_ | apply bN_ | apply bD_ | refine bS_ ?_ GE129 | refine bS_ ?_ GE130) | exact HB.out)) hb); have GE131 := GW131; have NB129_131 := Aside0.mk ((by rw [hg]; exact Nat.ne_of_lt (blk_lt (kbW BK129)) : gb129 ≠ gb131)); have NB131_129 := Aside0.mk ((by rw [hg]; exact Nat.ne_of_gt (blk_lt (kbW BK129)) : gb131 ≠ gb129)); replace BK129 := kB BK129 hb; have NB130_131 := Aside0.mk ((by rw [hg]; exact Nat.ne_of_lt (blk_lt (kbW BK130)) : gb130 ≠ gb131)); have NB131_130 := Aside0.mk ((by rw [hg]; exact Nat.ne_of_gt (blk_lt (kbW BK130)) : gb131 ≠ gb130)); replace BK130 := kB BK130 hb; clear hb hbox hg))
 replace BK129 := Aside0.mk (blk_drew BK129.out)
 replace BK130 := Aside0.mk (blk_drew BK130.out)
 replace BK131 := Aside0.mk (blk_drew BK131.out)
 replace HB := Aside0.mk (below_drew1 HB.out)
 refine start_ (n := 9) (S := fun w' => w'.cell? ⟨gb129, 0, none⟩ = some (.string a0_0) ∧ w'.cell? ⟨gb129, 1, none⟩ = some (.string a0_1) ∧ w'.cell? ⟨gb129, 2, none⟩ = some (.int .i64 a0_2) ∧ w'.cell? ⟨gb129, 3, none⟩ = some (.string a0_3) ∧ w'.cell? ⟨gb129, 4, none⟩ = some (.int .i64 a0_4) ∧ w'.cell? ⟨gb129, 5, none⟩ = some (.bool a0_5) ∧ w'.cell? ⟨gb129, 6, none⟩ = some (.int .i64 a0_6) ∧ w'.cell? ⟨gb129, 7, none⟩ = some (.int .i64 a0_7) ∧ w'.cell? ⟨gb129, 8, none⟩ = some (.int .i64 a0_8) ∧ w'.cell? ⟨gb129, 9, none⟩ = some (.string a0_9) ∧ w'.cell? ⟨gb130, 0, none⟩ = some (.string a1_0) ∧ w'.cell? ⟨gb130, 1, none⟩ = some (.string a1_1) ∧ w'.cell? ⟨gb130, 2, none⟩ = some (.int .i64 a1_2) ∧ w'.cell? ⟨gb130, 3, none⟩ = some (.string a1_3) ∧ w'.cell? ⟨gb130, 4, none⟩ = some (.int .i64 a1_4) ∧ w'.cell? ⟨gb130, 5, none⟩ = some (.bool a1_5) ∧ w'.cell? ⟨gb130, 6, none⟩ = some (.int .i64 a1_6) ∧ w'.cell? ⟨gb130, 7, none⟩ = some (.int .i64 a1_7) ∧ w'.cell? ⟨gb130, 8, none⟩ = some (.int .i64 a1_8) ∧ w'.cell? ⟨gb130, 9, none⟩ = some (.string a1_9)) (ds := []) (tf_ 0 9) (by kernel_rfl) rfl rfl (cc10 BK129 (cd10 BK130)) (fun hHeld => ?_); refine with_tabW cell_Norm_3.tab1 cell_Norm_3.bits1 (fun HT_ HW_ => ?_)
 generalize w6.drew = w7 at BK129 BK130 BK131 HB hHeld ⊢
 refine pure_ (i := 0) (N := some 5) (v := ?_) (a' := ?_) (tf_ 1 8) rfl rfl (any_of HT_.out (by kernel_rfl)) (fun _ _ _ h => h) (Or.inl ⟨by rfl, ?_⟩) ?_ ?_
 rotate_left; · (intro w'; go_simp; with_reducible rfl)
 rotate_left; · (simp only [Act.put, sT_, sO_, sN_, i64_w, i32_w]; rfl)
 refine pure_ (i := 2) (N := some 7) (v := ?_) (a' := ?_) (tb_ 5 9) rfl rfl (any_of HT_.out (by kernel_rfl)) (fun _ _ _ h => h) (Or.inl ⟨by rfl, ?_⟩) ?_ ?_
 rotate_left; · (intro w'; go_simp; with_reducible rfl)
 rotate_left; · (simp only [Act.put, sT_, sO_, sN_, i64_w, i32_w]; rfl)
 refine pure_ (i := 4) (N := some 9) (v := ?_) (a' := ?_) (tb_ 21 9) rfl rfl (any_of HT_.out (by kernel_rfl)) (fun _ _ _ h => h) (Or.inl ⟨by rfl, ?_⟩) ?_ ?_
 rotate_left; · (intro w'; go_simp; with_reducible rfl)
 rotate_left; · (simp only [Act.put, sT_, sO_, sN_, i64_w, i32_w]; rfl)
 refine take_ (i := 1) (N := some 6) (v := ?_) (a' := ?_) (tb_ 23 9) rfl rfl (take_ofW HT_.out HW_.out (by kernel_rfl)) (fun _ _ _ h => h) (Or.inl ⟨by rfl, ?_⟩) hHeld ?_ ?_
 rotate_left; · (rintro w' ⟨s0, s1, s2, s3, s4, s5, s6, s7, s8, s9, s10, s11, s12, s13, s14, s15, s16, s17, s18, s19⟩; go_simp; with_reducible rfl)
 rotate_left; · (simp only [Act.put, sT_, sO_, sN_, i64_w, i32_w]; rfl)
 refine take_ (i := 3) (N := some 8) (v := ?_) (a' := ?_) (tf_ 5 4) rfl rfl (take_ofW HT_.out HW_.out (by kernel_rfl)) (fun _ _ _ h => h) (Or.inl ⟨by rfl, ?_⟩) hHeld ?_ ?_
 rotate_left; · (rintro w' ⟨s0, s1, s2, s3, s4, s5, s6, s7, s8, s9, s10, s11, s12, s13, s14, s15, s16, s17, s18, s19⟩; go_simp; with_reducible rfl)
 rotate_left; · (simp only [Act.put, sT_, sO_, sN_, i64_w, i32_w]; rfl)
 refine take_ (i := 5) (N := some 10) (v := ?_) (a' := ?_) (tf_ 6 3) rfl rfl (take_ofW HT_.out HW_.out (by kernel_rfl)) (fun _ _ _ h => h) (Or.inl ⟨by rfl, ?_⟩) hHeld ?_ ?_
 rotate_left; · (rintro w' ⟨s0, s1, s2, s3, s4, s5, s6, s7, s8, s9, s10, s11, s12, s13, s14, s15, s16, s17, s18, s19⟩; go_simp; with_reducible rfl)
 rotate_left; · (simp only [Act.put, sT_, sO_, sN_, i64_w, i32_w]; rfl)
 refine one_ (i := 6) (N := some 11) (tf_ 7 2) rfl rfl (one_of HT_.out (by kernel_rfl)) (by decide) (fun K hK => ?_)
 refine goes_ Try.func32 (by kernel_rfl) rfl #[.agg #[.int .i64 a0_4, .bool a0_5, .int .i64 a0_6, .int .i64 a0_7, .int .i64 a0_8, .string a0_9], .agg #[.int .i64 a1_4, .bool a1_5, .int .i64 a1_6, .int .i64 a1_7, .int .i64 a1_8, .string a1_9]] (by rfl) rfl rfl (by (try simp only [mT_, mC_, mN_]); first | done | rfl) ?_
 with_reducible refine (cell_Join.calls k a0_4 a0_5 a0_6 a0_7 a0_8 a0_9 a1_4 a1_5 a1_6 a1_7 a1_8 a1_9 t132 t133 t134 t135 t136 t137 _ A3.out).mono ?_
 rintro e w8 ⟨rfl, hb⟩
 refine ⟨_, rfl, ?_⟩
 replace BK129 := kB BK129 hb
 replace BK130 := kB BK130 hb
 replace BK131 := kB BK131 hb
 replace HB := Aside0.mk (below_step (by repeat (first | (with_reducible first | exact HB.out | apply bA_ | apply bN_ | apply bD_ | refine bS_ ?_ GE129 | refine bS_ ?_ GE130 | refine bS_ ?_ GE131) | exact HB.out)) hb)
 (try clear hb)
 (try clear hb2)
 (try clear hk)
 (try clear hi)
 refine hK.out _ _ (cc10 BK129 (cd10 BK130)) (fun hHeld => ?_)
 clear hK K
 refine norm_ (a' := ?_) ?_ ?_
 rotate_left
 ·
  show Act.put _ (some 11) _ = _
  simp only [Act.put, sT_, sO_, sN_, i64_w, i32_w]
  rfl
 refine pure_ (i := 7) (N := some 12) (v := ?_) (a' := ?_) (tf_ 8 1) rfl rfl (any_of HT_.out (by kernel_rfl)) (fun _ _ _ h => h) (Or.inl ⟨by rfl, ?_⟩) ?_ ?_
 rotate_left; · (intro w'; go_simp; with_reducible rfl)
 rotate_left; · (simp only [Act.put, sT_, sO_, sN_, i64_w, i32_w]; rfl)
 refine one_ (i := 8) (N := none) (tf_ 9 0) rfl rfl (one_of HT_.out (by kernel_rfl)) (by decide) (fun K hK => ?_)
 have hs9 : w8.cell? ⟨gb131, 0, none⟩ = some (.string (⟨#[]⟩ : ByteArray)) := (blk_cell BK131.out 0).trans rfl
 have hfs9 := blk_frozen BK131.out 0
 have hns9_0 := NB129_131.out
 have hns9_1 := NB130_131.out
 have hms9_0 := NB131_129.out
 have hms9_1 := NB131_130.out
 have hs10 : w8.cell? ⟨gb131, 1, none⟩ = some (.string (⟨#[]⟩ : ByteArray)) := (blk_cell BK131.out 1).trans rfl
 have hfs10 := blk_frozen BK131.out 1
 have hns10_0 := NB129_131.out
 have hns10_1 := NB130_131.out
 have hms10_0 := NB131_129.out
 have hms10_1 := NB131_130.out
 have hs11 : w8.cell? ⟨gb131, 2, none⟩ = some (.int .i64 0) := (blk_cell BK131.out 2).trans rfl
 have hfs11 := blk_frozen BK131.out 2
 have hns11_0 := NB129_131.out
 have hns11_1 := NB130_131.out
 have hms11_0 := NB131_129.out
 have hms11_1 := NB131_130.out
 have hs12 : w8.cell? ⟨gb131, 3, none⟩ = some (.string (⟨#[]⟩ : ByteArray)) := (blk_cell BK131.out 3).trans rfl
 have hfs12 := blk_frozen BK131.out 3
 have hns12_0 := NB129_131.out
 have hns12_1 := NB130_131.out
 have hms12_0 := NB131_129.out
 have hms12_1 := NB131_130.out
 have hs13 : w8.cell? ⟨gb131, 4, none⟩ = some (.int .i64 0) := (blk_cell BK131.out 4).trans rfl
 have hfs13 := blk_frozen BK131.out 4
 have hns13_0 := NB129_131.out
 have hns13_1 := NB130_131.out
 have hms13_0 := NB131_129.out
 have hms13_1 := NB131_130.out
 have hs14 : w8.cell? ⟨gb131, 5, none⟩ = some (.bool false) := (blk_cell BK131.out 5).trans rfl
 have hfs14 := blk_frozen BK131.out 5
 have hns14_0 := NB129_131.out
 have hns14_1 := NB130_131.out
 have hms14_0 := NB131_129.out
 have hms14_1 := NB131_130.out
 have hs15 : w8.cell? ⟨gb131, 6, none⟩ = some (.int .i64 0) := (blk_cell BK131.out 6).trans rfl
 have hfs15 := blk_frozen BK131.out 6
 have hns15_0 := NB129_131.out
 have hns15_1 := NB130_131.out
 have hms15_0 := NB131_129.out
 have hms15_1 := NB131_130.out
 have hs16 : w8.cell? ⟨gb131, 7, none⟩ = some (.int .i64 0) := (blk_cell BK131.out 7).trans rfl
 have hfs16 := blk_frozen BK131.out 7
 have hns16_0 := NB129_131.out
 have hns16_1 := NB130_131.out
 have hms16_0 := NB131_129.out
 have hms16_1 := NB131_130.out
 have hs17 : w8.cell? ⟨gb131, 8, none⟩ = some (.int .i64 0) := (blk_cell BK131.out 8).trans rfl
 have hfs17 := blk_frozen BK131.out 8
 have hns17_0 := NB129_131.out
 have hns17_1 := NB130_131.out
 have hms17_0 := NB131_129.out
 have hms17_1 := NB131_130.out
 have hs18 : w8.cell? ⟨gb131, 9, none⟩ = some (.string (⟨#[]⟩ : ByteArray)) := (blk_cell BK131.out 9).trans rfl
 have hfs18 := blk_frozen BK131.out 9
 have hns18_0 := NB129_131.out
 have hns18_1 := NB130_131.out
 have hms18_0 := NB131_129.out
 have hms18_1 := NB131_130.out
 refine skip_ (w1 := ?_) (by rfl) rfl ?_ ?_
 rotate_left
 ·
  go_simp
  rfl
 refine hK.out _ _ ⟨(cf_ NB129_131 ((cf_ NB129_131 ((cf_ NB129_131 ((cf_ NB129_131 ((cf_ NB129_131 ((cf_ NB129_131 ((cf_ NB129_131 ((cf_ NB129_131 ((cf_ NB129_131 ((cf_ NB129_131 (hHeld.1)))))))))))))))))))), (cf_ NB129_131 ((cf_ NB129_131 ((cf_ NB129_131 ((cf_ NB129_131 ((cf_ NB129_131 ((cf_ NB129_131 ((cf_ NB129_131 ((cf_ NB129_131 ((cf_ NB129_131 ((cf_ NB129_131 (hHeld.2.1)))))))))))))))))))), (cf_ NB129_131 ((cf_ NB129_131 ((cf_ NB129_131 ((cf_ NB129_131 ((cf_ NB129_131 ((cf_ NB129_131 ((cf_ NB129_131 ((cf_ NB129_131 ((cf_ NB129_131 ((cf_ NB129_131 (hHeld.2.2.1)))))))))))))))))))), (cf_ NB129_131 ((cf_ NB129_131 ((cf_ NB129_131 ((cf_ NB129_131 ((cf_ NB129_131 ((cf_ NB129_131 ((cf_ NB129_131 ((cf_ NB129_131 ((cf_ NB129_131 ((cf_ NB129_131 (hHeld.2.2.2.1)))))))))))))))))))), (cf_ NB129_131 ((cf_ NB129_131 ((cf_ NB129_131 ((cf_ NB129_131 ((cf_ NB129_131 ((cf_ NB129_131 ((cf_ NB129_131 ((cf_ NB129_131 ((cf_ NB129_131 ((cf_ NB129_131 (hHeld.2.2.2.2.1)))))))))))))))))))), (cf_ NB129_131 ((cf_ NB129_131 ((cf_ NB129_131 ((cf_ NB129_131 ((cf_ NB129_131 ((cf_ NB129_131 ((cf_ NB129_131 ((cf_ NB129_131 ((cf_ NB129_131 ((cf_ NB129_131 (hHeld.2.2.2.2.2.1)))))))))))))))))))), (cf_ NB129_131 ((cf_ NB129_131 ((cf_ NB129_131 ((cf_ NB129_131 ((cf_ NB129_131 ((cf_ NB129_131 ((cf_ NB129_131 ((cf_ NB129_131 ((cf_ NB129_131 ((cf_ NB129_131 (hHeld.2.2.2.2.2.2.1)))))))))))))))))))), (cf_ NB129_131 ((cf_ NB129_131 ((cf_ NB129_131 ((cf_ NB129_131 ((cf_ NB129_131 ((cf_ NB129_131 ((cf_ NB129_131 ((cf_ NB129_131 ((cf_ NB129_131 ((cf_ NB129_131 (hHeld.2.2.2.2.2.2.2.1)))))))))))))))))))), (cf_ NB129_131 ((cf_ NB129_131 ((cf_ NB129_131 ((cf_ NB129_131 ((cf_ NB129_131 ((cf_ NB129_131 ((cf_ NB129_131 ((cf_ NB129_131 ((cf_ NB129_131 ((cf_ NB129_131 (hHeld.2.2.2.2.2.2.2.2.1)))))))))))))))))))), (cf_ NB129_131 ((cf_ NB129_131 ((cf_ NB129_131 ((cf_ NB129_131 ((cf_ NB129_131 ((cf_ NB129_131 ((cf_ NB129_131 ((cf_ NB129_131 ((cf_ NB129_131 ((cf_ NB129_131 (hHeld.2.2.2.2.2.2.2.2.2.1)))))))))))))))))))), (cf_ NB130_131 ((cf_ NB130_131 ((cf_ NB130_131 ((cf_ NB130_131 ((cf_ NB130_131 ((cf_ NB130_131 ((cf_ NB130_131 ((cf_ NB130_131 ((cf_ NB130_131 ((cf_ NB130_131 (hHeld.2.2.2.2.2.2.2.2.2.2.1)))))))))))))))))))), (cf_ NB130_131 ((cf_ NB130_131 ((cf_ NB130_131 ((cf_ NB130_131 ((cf_ NB130_131 ((cf_ NB130_131 ((cf_ NB130_131 ((cf_ NB130_131 ((cf_ NB130_131 ((cf_ NB130_131 (hHeld.2.2.2.2.2.2.2.2.2.2.2.1)))))))))))))))))))), (cf_ NB130_131 ((cf_ NB130_131 ((cf_ NB130_131 ((cf_ NB130_131 ((cf_ NB130_131 ((cf_ NB130_131 ((cf_ NB130_131 ((cf_ NB130_131 ((cf_ NB130_131 ((cf_ NB130_131 (hHeld.2.2.2.2.2.2.2.2.2.2.2.2.1)))))))))))))))))))), (cf_ NB130_131 ((cf_ NB130_131 ((cf_ NB130_131 ((cf_ NB130_131 ((cf_ NB130_131 ((cf_ NB130_131 ((cf_ NB130_131 ((cf_ NB130_131 ((cf_ NB130_131 ((cf_ NB130_131 (hHeld.2.2.2.2.2.2.2.2.2.2.2.2.2.1)))))))))))))))))))), (cf_ NB130_131 ((cf_ NB130_131 ((cf_ NB130_131 ((cf_ NB130_131 ((cf_ NB130_131 ((cf_ NB130_131 ((cf_ NB130_131 ((cf_ NB130_131 ((cf_ NB130_131 ((cf_ NB130_131 (hHeld.2.2.2.2.2.2.2.2.2.2.2.2.2.2.1)))))))))))))))))))), (cf_ NB130_131 ((cf_ NB130_131 ((cf_ NB130_131 ((cf_ NB130_131 ((cf_ NB130_131 ((cf_ NB130_131 ((cf_ NB130_131 ((cf_ NB130_131 ((cf_ NB130_131 ((cf_ NB130_131 (hHeld.2.2.2.2.2.2.2.2.2.2.2.2.2.2.2.1)))))))))))))))))))), (cf_ NB130_131 ((cf_ NB130_131 ((cf_ NB130_131 ((cf_ NB130_131 ((cf_ NB130_131 ((cf_ NB130_131 ((cf_ NB130_131 ((cf_ NB130_131 ((cf_ NB130_131 ((cf_ NB130_131 (hHeld.2.2.2.2.2.2.2.2.2.2.2.2.2.2.2.2.1)))))))))))))))))))), (cf_ NB130_131 ((cf_ NB130_131 ((cf_ NB130_131 ((cf_ NB130_131 ((cf_ NB130_131 ((cf_ NB130_131 ((cf_ NB130_131 ((cf_ NB130_131 ((cf_ NB130_131 ((cf_ NB130_131 (hHeld.2.2.2.2.2.2.2.2.2.2.2.2.2.2.2.2.2.1)))))))))))))))))))), (cf_ NB130_131 ((cf_ NB130_131 ((cf_ NB130_131 ((cf_ NB130_131 ((cf_ NB130_131 ((cf_ NB130_131 ((cf_ NB130_131 ((cf_ NB130_131 ((cf_ NB130_131 ((cf_ NB130_131 (hHeld.2.2.2.2.2.2.2.2.2.2.2.2.2.2.2.2.2.2.1)))))))))))))))))))), (cf_ NB130_131 ((cf_ NB130_131 ((cf_ NB130_131 ((cf_ NB130_131 ((cf_ NB130_131 ((cf_ NB130_131 ((cf_ NB130_131 ((cf_ NB130_131 ((cf_ NB130_131 ((cf_ NB130_131 (hHeld.2.2.2.2.2.2.2.2.2.2.2.2.2.2.2.2.2.2.2))))))))))))))))))))⟩ (fun hHeld => ?_)
 clear hK K
 refine done_ (done_of HT_.out (by kernel_rfl)) ?_
 try go_wp2
 refine bodyPost_ret (results_cell_row rfl _ _ gb131 39 #[.string a0_0, .string a0_1, .int .i64 a0_2, .string a0_3, .int .i64 t132, .bool t133, .int .i64 t134, .int .i64 t135, .int .i64 t136, .string t137] (0, 0) _ rfl (by (with_reducible repeat (first | refine blk_drewN ?_ _ | refine blk_drew ?_ | refine blk_alloc ?_ _)); exact bp10 (kbW BK131)) Try.underlying39 rfl (by kernel_rfl)) rfl ?_
 exact ⟨by first | rfl | (simp <;> rfl) | (simp [*] <;> rfl), by repeat (first | (with_reducible first | exact HB.out | apply bA_ | apply bN_ | apply bD_ | refine bS_ ?_ GE129 | refine bS_ ?_ GE130 | refine bS_ ?_ GE131) | exact HB.out)⟩
end Go.Proofs.Ytabiekkebdocnaa.Q
