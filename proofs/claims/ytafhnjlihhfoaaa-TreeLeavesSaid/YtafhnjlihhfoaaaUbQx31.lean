/- Lemmas for this claim's walk: no condition of their own. -/
import Derived.Test.YtafhnjlihhfoaaaUbJ13
import Derived.Test.YtafhnjlihhfoaaaUbQx0
import Derived.Test.YtafhnjlihhfoaaaUbJ15
import Derived.Test.YtafhnjlihhfoaaaUbQx30
namespace Go.Proofs.Ytafhnjlihhfoaaa.Q
open Go.RowKit Go.Proofs.YtafhnjlihhfoaaaW.PrintWords Go.Proofs.YtafhnjlihhfoaaaW.PrintLast Go.Proofs.YtafhnjlihhfoaaaW.PrintMore
attribute [local go_sem] max2_int min2_int max_two min_two max_three min_three max_four min_four
set_option linter.unusedVariables false
set_option linter.unusedSimpArgs false
def bucketR (h d : Int) : Int := if d = 0 then 0 else wrap64 (h / 2 ^ (64 - d).toNat)
def skerryref22_Bucket.f (k : Nat) (a0 : ByteArray) (a1 : Int) : Option (Int) := if a0.size ≤ 9223372036854775807 then (skerryref02_Sum.f k (bytesOf a0) 0).map fun x => bucketR x.2 (mn (mx a1 0) 6) else none
theorem ref22_dep (a1 : Int) : skerryref22_Depth.f a1 = some (mn (mx a1 0) 6) := by
 unfold skerryref22_Depth.f mn mx
 repeat' split
 all_goals first | rfl | (congr 1; omega) | omega
set_option maxHeartbeats 1000000 in
set_option maxRecDepth 100000 in
theorem skerryref22_Bucket.calls (k : Nat) (a0 : ByteArray) (a1 : Int) (r : Int) (w : World) (h : skerryref22_Bucket.f k a0 a1 = some r) :
  Calls Try.prog 17 #[.string a0, .int .i64 a1] w fun e w' => e = .returned (.int .i64 r) ∧ Below w.heap.size w w' := by
 unfold skerryref22_Bucket.f at h
 split at h
 case isFalse => cases h
 rename_i hs
 obtain ⟨⟨r1, r2⟩, hr, h2⟩ := Option.map_eq_some_iff.1 h
 subst h2
 clear h
 have kb := fun W => print_bytes (P := Try.prog) 9 55 5 Try.underlying9 Try.underlying55 Try.underlying5 a0 W
 have hL := bytesOf_length a0
 have HM := fun W => calls_of_args (P := Try.prog) (f := 33) (args := #[.slice (some ⟨W.heap.size, 0, none⟩) a0.size (grownCap W a0.size 0 5), .int .u64 0]) (by rw [hL]) (skerryref02_Sum.calls k (some ⟨W.heap.size, 0, none⟩) (grownCap W a0.size 0 5) (bytesOf a0) 0 r1 r2 (Lib.bytesWorld W 5 a0) (bytes_C W 5 a0 hs) (by rw [hL]; exact grownCap_ge W a0.size 0 5) hr)
 have HB := Lib.hid HM
 have HD := Lib.hid (fun W => skerryref22_Depth.calls a1 (mn (mx a1 0) 6) W (ref22_dep a1))
 have d0 : 0 ≤ mn (mx a1 0) 6 := by unfold mn mx; repeat' split <;> omega
 have d1 : mn (mx a1 0) 6 ≤ 6 := by unfold mn mx; repeat' split <;> omega
 have hb0 := bytes_below (Below.refl w.heap.size w) (Nat.le_refl _) 5 a0
 generalize mn (mx a1 0) 6 = d at *
 have d2 : 0 ≤ 64 - d := by omega
 have HQ := Lib.hid (show bucketR r2 d = if d = 0 then 0 else wrap64 (r2 / 2 ^ (64 - d).toNat) from rfl)
 clear HM hr
 by_cases hd : d = 0
 ·
  have HE := Lib.hid (HQ.out.trans (if_pos hd))
  go_enter Try.func17, Try.ntmps17
  go_wp2_with (go_at_call 33; refine (HB.out _).mono ?_; rintro e w1 ⟨rfl, hb⟩)
  go_wp2_with (go_at_call 25; refine (HD.out _).mono ?_; rintro e w2 ⟨rfl, hb2⟩)
  go_ret
  exact ⟨ret_bk_ HE.out.symm, hb0.trans (Below.trans (hb.below.mono hb0.size) (hb2.below.mono (Nat.le_trans hb0.size hb.below.size)))⟩
 ·
  have HE := Lib.hid (HQ.out.trans (if_neg hd))
  go_enter Try.func17, Try.ntmps17
  go_wp2_with (go_at_call 33; refine (HB.out _).mono ?_; rintro e w1 ⟨rfl, hb⟩)
  go_wp2_with (go_at_call 25; refine (HD.out _).mono ?_; rintro e w2 ⟨rfl, hb2⟩)
  go_ret
  exact ⟨ret_bk_ HE.out.symm, hb0.trans (Below.trans (hb.below.mono hb0.size) (hb2.below.mono (Nat.le_trans hb0.size hb.below.size)))⟩
def skerryref04_texts.f (a0 : ByteArray) (a1 : ByteArray) : Option (Int) := if (Op.bytesLess a0.toList a1.toList) = true then (some (-1)) else (if a0.toList = a1.toList then (some 0) else (some 1))
set_option maxHeartbeats 8000000 in
set_option maxRecDepth 100000 in
theorem skerryref04_texts.calls (a0 : ByteArray) (a1 : ByteArray) (r : Int) (w : World) (h : skerryref04_texts.f a0 a1 = some r) :
  Calls Try.prog 89 #[.string a0, .string a1] w fun e w' => e = .returned (.int .i64 r) ∧ Drawn0 w w' := by
 have H : (if (Op.bytesLess a0.toList a1.toList) = true then (some (-1)) else (if a0.toList = a1.toList then (some 0) else (some 1))) = some r := h
 clear h
 by_cases c3 : (Op.bytesLess a0.toList a1.toList) = true
 ·
  rw [if_pos c3] at H
  have c3b0 : (Op.bytesLess a0.toList a1.toList) = true := c3
  clear c3
  obtain rfl := Option.some.inj H
  go_enter Try.func89, Try.ntmps89
  go_wp2
  go_ret
  exact ⟨by first | rfl | (simp; done) | (simp [*]; done), by repeat (first | exact Drawn0.refl _ | apply Drawn0.step)⟩
 ·
  rw [if_neg c3] at H
  have c3b0 : (Op.bytesLess a0.toList a1.toList) = false := by simpa using c3
  clear c3
  by_cases c4 : a0.toList = a1.toList
  ·
   rw [if_pos c4] at H
   have c4b0 : (a0.toList == a1.toList) = true := beq_iff_eq.mpr c4
   have c4b1 : (a0.toList != a1.toList) = false := bne_eq_false_iff_eq.mpr c4
   clear c4
   obtain rfl := Option.some.inj H
   go_enter Try.func89, Try.ntmps89
   go_wp2
   go_ret
   exact ⟨by first | rfl | (simp; done) | (simp [*]; done), by repeat (first | exact Drawn0.refl _ | apply Drawn0.step)⟩
  ·
   rw [if_neg c4] at H
   have c4b0 : (a0.toList == a1.toList) = false := beq_eq_false_iff_ne.mpr c4
   have c4b1 : (a0.toList != a1.toList) = true := bne_iff_ne.mpr c4
   obtain rfl := Option.some.inj H
   go_enter Try.func89, Try.ntmps89
   go_wp2
   go_ret
   exact ⟨by first | rfl | (simp; done) | (simp [*]; done), by repeat (first | exact Drawn0.refl _ | apply Drawn0.step)⟩
def skerryref04_Cmp.f (a0_0 : ByteArray) (a0_1 : ByteArray) (a0_2 : Int) (a0_3 : ByteArray) (a1_0 : ByteArray) (a1_1 : ByteArray) (a1_2 : Int) (a1_3 : ByteArray) : Option (Int) := if a0_0.toList = a1_0.toList then (if a0_1.toList = a1_1.toList then (if a0_2 < a1_2 then (some (-1)) else (if a0_2 > a1_2 then (some 1) else ((skerryref04_texts.f a0_3 a1_3).bind fun t301 => (some t301)))) else ((skerryref04_texts.f a0_1 a1_1).bind fun t302 => (some t302))) else ((skerryref04_texts.f a0_0 a1_0).bind fun t303 => (some t303))
set_option maxHeartbeats 8000000 in
set_option maxRecDepth 100000 in
theorem skerryref04_Cmp.calls (a0_0 : ByteArray) (a0_1 : ByteArray) (a0_2 : Int) (a0_3 : ByteArray) (a1_0 : ByteArray) (a1_1 : ByteArray) (a1_2 : Int) (a1_3 : ByteArray) (r : Int) (w : World) (h : skerryref04_Cmp.f a0_0 a0_1 a0_2 a0_3 a1_0 a1_1 a1_2 a1_3 = some r) :
  Calls Try.prog 69 #[.agg #[.string a0_0, .string a0_1, .int .i64 a0_2, .string a0_3], .agg #[.string a1_0, .string a1_1, .int .i64 a1_2, .string a1_3]] w fun e w' => e = .returned (.int .i64 r) ∧ Below w.heap.size w w' := by
 have hu32 := Try.underlying32
 have HB := Aside0.mk (Below.refl w.heap.size w)
 have H : (if a0_0.toList = a1_0.toList then (if a0_1.toList = a1_1.toList then (if a0_2 < a1_2 then (some (-1)) else (if a0_2 > a1_2 then (some 1) else ((skerryref04_texts.f a0_3 a1_3).bind fun t301 => (some t301)))) else ((skerryref04_texts.f a0_1 a1_1).bind fun t302 => (some t302))) else ((skerryref04_texts.f a0_0 a1_0).bind fun t303 => (some t303))) = some r := h
 clear h
 by_cases c3 : a0_0.toList = a1_0.toList
 rotate_left
 ·
  rw [if_neg c3] at H
  have c3b0 : (a0_0.toList == a1_0.toList) = false := beq_eq_false_iff_ne.mpr c3
  have c3b1 : (a0_0.toList != a1_0.toList) = true := bne_iff_ne.mpr c3
  replace H := Option.bind_eq_some_iff.mp H
  obtain ⟨t303, A290, H⟩ := H
  have A29 := Aside0.mk A290
  clear A290
  obtain rfl := Option.some.inj H
  go_enter Try.func69, Try.ntmps69
  go_wp2_with (first | ((with_reducible refine gate_dst (N := 2) rfl ?_); refine box_event ?hg (N := 2) ?hd (cs := #[.string a0_0, .string a0_1, .int .i64 a0_2, .string a0_3]) (t := 32) ?hr ?_; (case hd => rfl); (case hg => rfl); (case hr => first | (go_simp; done) | (go_simp; rfl)); intro gb299 hg w30 hbox hb; have BK299 := Aside0.mk (hbox); have GW299 := Aside0.mk ((by rw [hg]; exact (bZ_ (kwW HB)) : w.heap.size ≤ gb299)); replace HB := Aside0.mk (below_step (kwW HB) hb); have GE299 := GW299; clear hb hbox hg) | ((with_reducible refine gate_dst (N := 3) rfl ?_); refine box_event ?hg (N := 3) ?hd (cs := #[.string a1_0, .string a1_1, .int .i64 a1_2, .string a1_3]) (t := 32) ?hr ?_; (case hd => rfl); (case hg => rfl); (case hr => first | (go_simp; done) | (go_simp; rfl)); intro gb300 hg w31 hbox hb; have BK300 := Aside0.mk (hbox); have GW300 := Aside0.mk ((by rw [hg]; exact (bZ_ (by repeat (first | (with_reducible first | exact HB.out | apply bA_ | apply bN_ | apply bD_ | refine bS_ ?_ GE299) | exact HB.out))) : w.heap.size ≤ gb300)); replace HB := Aside0.mk (below_step (by repeat (first | (with_reducible first | exact HB.out | apply bA_ | apply bN_ | apply bD_ | refine bS_ ?_ GE299) | exact HB.out)) hb); have GE300 := GW300; have NB299_300 := Aside0.mk ((by rw [hg]; exact Nat.ne_of_lt (blk_lt (kbW BK299)) : gb299 ≠ gb300)); have NB300_299 := Aside0.mk ((by rw [hg]; exact Nat.ne_of_gt (blk_lt (kbW BK299)) : gb300 ≠ gb299)); replace BK299 := kB BK299 hb; clear hb hbox hg; have hnb32 := NB299_300.out; have hnc32 := NB300_299.out; obtain ⟨_, _, _, _, _, _, _, _⟩ := czf4 BK299; obtain ⟨_, _, _, _, _, _, _, _⟩ := czf4 BK300) | ((with_reducible refine gate_callee (f := 89) rfl ?_); refine goesL_ (some 15) rfl rfl Try.func89 (by kernel_rfl) rfl #[.string a0_0, .string a1_0] rfl (by (try simp only [mT_, mC_, mN_]); first | done | rfl) ?_; (with_reducible refine (skerryref04_texts.calls a0_0 a1_0 t303 _ A29.out).mono ?_); rintro e w' ⟨rfl, ⟨nd, rfl⟩⟩; refine ⟨_, rfl, ?_⟩))
  go_ret
  exact ⟨by first | rfl | (simp <;> rfl) | (simp [*] <;> rfl), by repeat (first | (with_reducible first | exact HB.out | apply bA_ | apply bN_ | apply bD_ | refine bS_ ?_ GE299 | refine bS_ ?_ GE300) | exact HB.out)⟩
 rw [if_pos c3] at H
 have c3b0 : (a0_0.toList == a1_0.toList) = true := beq_iff_eq.mpr c3
 have c3b1 : (a0_0.toList != a1_0.toList) = false := bne_eq_false_iff_eq.mpr c3
 clear c3
 by_cases c4 : a0_1.toList = a1_1.toList
 rotate_left
 ·
  rw [if_neg c4] at H
  have c4b0 : (a0_1.toList == a1_1.toList) = false := beq_eq_false_iff_ne.mpr c4
  have c4b1 : (a0_1.toList != a1_1.toList) = true := bne_iff_ne.mpr c4
  replace H := Option.bind_eq_some_iff.mp H
  obtain ⟨t302, A230, H⟩ := H
  have A23 := Aside0.mk A230
  clear A230
  obtain rfl := Option.some.inj H
  go_enter Try.func69, Try.ntmps69
  go_wp2_with (first | ((with_reducible refine gate_dst (N := 2) rfl ?_); refine box_event ?hg (N := 2) ?hd (cs := #[.string a0_0, .string a0_1, .int .i64 a0_2, .string a0_3]) (t := 32) ?hr ?_; (case hd => rfl); (case hg => rfl); (case hr => first | (go_simp; done) | (go_simp; rfl)); intro gb299 hg w24 hbox hb; have BK299 := Aside0.mk (hbox); have GW299 := Aside0.mk ((by rw [hg]; exact (bZ_ (kwW HB)) : w.heap.size ≤ gb299)); replace HB := Aside0.mk (below_step (kwW HB) hb); have GE299 := GW299; clear hb hbox hg) | ((with_reducible refine gate_dst (N := 3) rfl ?_); refine box_event ?hg (N := 3) ?hd (cs := #[.string a1_0, .string a1_1, .int .i64 a1_2, .string a1_3]) (t := 32) ?hr ?_; (case hd => rfl); (case hg => rfl); (case hr => first | (go_simp; done) | (go_simp; rfl)); intro gb300 hg w25 hbox hb; have BK300 := Aside0.mk (hbox); have GW300 := Aside0.mk ((by rw [hg]; exact (bZ_ (by repeat (first | (with_reducible first | exact HB.out | apply bA_ | apply bN_ | apply bD_ | refine bS_ ?_ GE299) | exact HB.out))) : w.heap.size ≤ gb300)); replace HB := Aside0.mk (below_step (by repeat (first | (with_reducible first | exact HB.out | apply bA_ | apply bN_ | apply bD_ | refine bS_ ?_ GE299) | exact HB.out)) hb); have GE300 := GW300; have NB299_300 := Aside0.mk ((by rw [hg]; exact Nat.ne_of_lt (blk_lt (kbW BK299)) : gb299 ≠ gb300)); have NB300_299 := Aside0.mk ((by rw [hg]; exact Nat.ne_of_gt (blk_lt (kbW BK299)) : gb300 ≠ gb299)); replace BK299 := kB BK299 hb; clear hb hbox hg; have hnb26 := NB299_300.out; have hnc26 := NB300_299.out; obtain ⟨_, _, _, _, _, _, _, _⟩ := czf4 BK299; obtain ⟨_, _, _, _, _, _, _, _⟩ := czf4 BK300) | ((with_reducible refine gate_callee (f := 89) rfl ?_); refine goesL_ (some 26) rfl rfl Try.func89 (by kernel_rfl) rfl #[.string a0_1, .string a1_1] rfl (by (try simp only [mT_, mC_, mN_]); first | done | rfl) ?_; (with_reducible refine (skerryref04_texts.calls a0_1 a1_1 t302 _ A23.out).mono ?_); rintro e w' ⟨rfl, ⟨nd, rfl⟩⟩; refine ⟨_, rfl, ?_⟩))
  go_ret
  exact ⟨by first | rfl | (simp <;> rfl) | (simp [*] <;> rfl), by repeat (first | (with_reducible first | exact HB.out | apply bA_ | apply bN_ | apply bD_ | refine bS_ ?_ GE299 | refine bS_ ?_ GE300) | exact HB.out)⟩
 rw [if_pos c4] at H
 have c4b0 : (a0_1.toList == a1_1.toList) = true := beq_iff_eq.mpr c4
 have c4b1 : (a0_1.toList != a1_1.toList) = false := bne_eq_false_iff_eq.mpr c4
 clear c4
 by_cases c5 : a0_2 < a1_2
 ·
  rw [if_pos c5] at H
  have c5b0 : decide (a0_2 < a1_2) = true := decide_eq_true c5
  clear c5
  obtain rfl := Option.some.inj H
  go_enter Try.func69, Try.ntmps69
  go_wp2_with (first | ((with_reducible refine gate_dst (N := 2) rfl ?_); refine box_event ?hg (N := 2) ?hd (cs := #[.string a0_0, .string a0_1, .int .i64 a0_2, .string a0_3]) (t := 32) ?hr ?_; (case hd => rfl); (case hg => rfl); (case hr => first | (go_simp; done) | (go_simp; rfl)); intro gb299 hg w6 hbox hb; have BK299 := Aside0.mk (hbox); have GW299 := Aside0.mk ((by rw [hg]; exact (bZ_ (kwW HB)) : w.heap.size ≤ gb299)); replace HB := Aside0.mk (below_step (kwW HB) hb); have GE299 := GW299; clear hb hbox hg) | ((with_reducible refine gate_dst (N := 3) rfl ?_); refine box_event ?hg (N := 3) ?hd (cs := #[.string a1_0, .string a1_1, .int .i64 a1_2, .string a1_3]) (t := 32) ?hr ?_; (case hd => rfl); (case hg => rfl); (case hr => first | (go_simp; done) | (go_simp; rfl)); intro gb300 hg w7 hbox hb; have BK300 := Aside0.mk (hbox); have GW300 := Aside0.mk ((by rw [hg]; exact (bZ_ (by repeat (first | (with_reducible first | exact HB.out | apply bA_ | apply bN_ | apply bD_ | refine bS_ ?_ GE299) | exact HB.out))) : w.heap.size ≤ gb300)); replace HB := Aside0.mk (below_step (by repeat (first | (with_reducible first | exact HB.out | apply bA_ | apply bN_ | apply bD_ | refine bS_ ?_ GE299) | exact HB.out)) hb); have GE300 := GW300; have NB299_300 := Aside0.mk ((by rw [hg]; exact Nat.ne_of_lt (blk_lt (kbW BK299)) : gb299 ≠ gb300)); have NB300_299 := Aside0.mk ((by rw [hg]; exact Nat.ne_of_gt (blk_lt (kbW BK299)) : gb300 ≠ gb299)); replace BK299 := kB BK299 hb; clear hb hbox hg; have hnb8 := NB299_300.out; have hnc8 := NB300_299.out; obtain ⟨_, _, _, _, _, _, _, _⟩ := czf4 BK299; obtain ⟨_, _, _, _, _, _, _, _⟩ := czf4 BK300))
  go_ret
  exact ⟨by first | rfl | (simp <;> rfl) | (simp [*] <;> rfl), by repeat (first | (with_reducible first | exact HB.out | apply bA_ | apply bN_ | apply bD_ | refine bS_ ?_ GE299 | refine bS_ ?_ GE300) | exact HB.out)⟩
 ·
  rw [if_neg c5] at H
  have c5b0 : decide (a0_2 < a1_2) = false := decide_eq_false c5
  clear c5
  by_cases c11 : a0_2 > a1_2
  ·
   rw [if_pos c11] at H
   have c11b0 : decide (a1_2 < a0_2) = true := decide_eq_true c11
   clear c11
   obtain rfl := Option.some.inj H
   go_enter Try.func69, Try.ntmps69
   go_wp2_with (first | ((with_reducible refine gate_dst (N := 2) rfl ?_); refine box_event ?hg (N := 2) ?hd (cs := #[.string a0_0, .string a0_1, .int .i64 a0_2, .string a0_3]) (t := 32) ?hr ?_; (case hd => rfl); (case hg => rfl); (case hr => first | (go_simp; done) | (go_simp; rfl)); intro gb299 hg w12 hbox hb; have BK299 := Aside0.mk (hbox); have GW299 := Aside0.mk ((by rw [hg]; exact (bZ_ (kwW HB)) : w.heap.size ≤ gb299)); replace HB := Aside0.mk (below_step (kwW HB) hb); have GE299 := GW299; clear hb hbox hg) | ((with_reducible refine gate_dst (N := 3) rfl ?_); refine box_event ?hg (N := 3) ?hd (cs := #[.string a1_0, .string a1_1, .int .i64 a1_2, .string a1_3]) (t := 32) ?hr ?_; (case hd => rfl); (case hg => rfl); (case hr => first | (go_simp; done) | (go_simp; rfl)); intro gb300 hg w13 hbox hb; have BK300 := Aside0.mk (hbox); have GW300 := Aside0.mk ((by rw [hg]; exact (bZ_ (by repeat (first | (with_reducible first | exact HB.out | apply bA_ | apply bN_ | apply bD_ | refine bS_ ?_ GE299) | exact HB.out))) : w.heap.size ≤ gb300)); replace HB := Aside0.mk (below_step (by repeat (first | (with_reducible first | exact HB.out | apply bA_ | apply bN_ | apply bD_ | refine bS_ ?_ GE299) | exact HB.out)) hb); have GE300 := GW300; have NB299_300 := Aside0.mk ((by rw [hg]; exact Nat.ne_of_lt (blk_lt (kbW BK299)) : gb299 ≠ gb300)); have NB300_299 := Aside0.mk ((by rw [hg]; exact Nat.ne_of_gt (blk_lt (kbW BK299)) : gb300 ≠ gb299)); replace BK299 := kB BK299 hb; clear hb hbox hg; have hnb14 := NB299_300.out; have hnc14 := NB300_299.out; obtain ⟨_, _, _, _, _, _, _, _⟩ := czf4 BK299; obtain ⟨_, _, _, _, _, _, _, _⟩ := czf4 BK300))
   go_ret
   exact ⟨by first | rfl | (simp <;> rfl) | (simp [*] <;> rfl), by repeat (first | (with_reducible first | exact HB.out | apply bA_ | apply bN_ | apply bD_ | refine bS_ ?_ GE299 | refine bS_ ?_ GE300) | exact HB.out)⟩
  ·
   rw [if_neg c11] at H
   have c11b0 : decide (a1_2 < a0_2) = false := decide_eq_false c11
   clear c11
   replace H := Option.bind_eq_some_iff.mp H
   obtain ⟨t301, A170, H⟩ := H
   have A17 := Aside0.mk A170
   clear A170
   obtain rfl := Option.some.inj H
   go_enter Try.func69, Try.ntmps69
   go_wp2_with (first | ((with_reducible refine gate_dst (N := 2) rfl ?_); refine box_event ?hg (N := 2) ?hd (cs := #[.string a0_0, .string a0_1, .int .i64 a0_2, .string a0_3]) (t := 32) ?hr ?_; (case hd => rfl); (case hg => rfl); (case hr => first | (go_simp; done) | (go_simp; rfl)); intro gb299 hg w18 hbox hb; have BK299 := Aside0.mk (hbox); have GW299 := Aside0.mk ((by rw [hg]; exact (bZ_ (kwW HB)) : w.heap.size ≤ gb299)); replace HB := Aside0.mk (below_step (kwW HB) hb); have GE299 := GW299; clear hb hbox hg) | ((with_reducible refine gate_dst (N := 3) rfl ?_); refine box_event ?hg (N := 3) ?hd (cs := #[.string a1_0, .string a1_1, .int .i64 a1_2, .string a1_3]) (t := 32) ?hr ?_; (case hd => rfl); (case hg => rfl); (case hr => first | (go_simp; done) | (go_simp; rfl)); intro gb300 hg w19 hbox hb; have BK300 := Aside0.mk (hbox); have GW300 := Aside0.mk ((by rw [hg]; exact (bZ_ (by repeat (first | (with_reducible first | exact HB.out | apply bA_ | apply bN_ | apply bD_ | refine bS_ ?_ GE299) | exact HB.out))) : w.heap.size ≤ gb300)); replace HB := Aside0.mk (below_step (by repeat (first | (with_reducible first | exact HB.out | apply bA_ | apply bN_ | apply bD_ | refine bS_ ?_ GE299) | exact HB.out)) hb); have GE300 := GW300; have NB299_300 := Aside0.mk ((by rw [hg]; exact Nat.ne_of_lt (blk_lt (kbW BK299)) : gb299 ≠ gb300)); have NB300_299 := Aside0.mk ((by rw [hg]; exact Nat.ne_of_gt (blk_lt (kbW BK299)) : gb300 ≠ gb299)); replace BK299 := kB BK299 hb; clear hb hbox hg; have hnb20 := NB299_300.out; have hnc20 := NB300_299.out; obtain ⟨_, _, _, _, _, _, _, _⟩ := czf4 BK299; obtain ⟨_, _, _, _, _, _, _, _⟩ := czf4 BK300) | ((with_reducible refine gate_callee (f := 89) rfl ?_); refine goesL_ (some 43) rfl rfl Try.func89 (by kernel_rfl) rfl #[.string a0_3, .string a1_3] rfl (by (try simp only [mT_, mC_, mN_]); first | done | rfl) ?_; (with_reducible refine (skerryref04_texts.calls a0_3 a1_3 t301 _ A17.out).mono ?_); rintro e w' ⟨rfl, ⟨nd, rfl⟩⟩; refine ⟨_, rfl, ?_⟩))
   go_ret
   exact ⟨by first | rfl | (simp <;> rfl) | (simp [*] <;> rfl), by repeat (first | (with_reducible first | exact HB.out | apply bA_ | apply bN_ | apply bD_ | refine bS_ ?_ GE299 | refine bS_ ?_ GE300) | exact HB.out)⟩
def skerryref05_ints.f (a0 : Int) (a1 : Int) : Option (Int) := if a0 < a1 then (some (-1)) else (if a0 > a1 then (some 1) else (some 0))
set_option maxHeartbeats 8000000 in
set_option maxRecDepth 100000 in
theorem skerryref05_ints.calls (a0 : Int) (a1 : Int) (r : Int) (w : World) (h : skerryref05_ints.f a0 a1 = some r) :
  Calls Try.prog 94 #[.int .i64 a0, .int .i64 a1] w fun e w' => e = .returned (.int .i64 r) ∧ Drawn0 w w' := by
 have H : (if a0 < a1 then (some (-1)) else (if a0 > a1 then (some 1) else (some 0))) = some r := h
 clear h
 by_cases c3 : a0 < a1
 ·
  rw [if_pos c3] at H
  have c3b0 : decide (a0 < a1) = true := decide_eq_true c3
  clear c3
  obtain rfl := Option.some.inj H
  go_enter Try.func94, Try.ntmps94
  go_wp2
  go_ret
  exact ⟨by first | rfl | (simp; done) | (simp [*]; done), by repeat (first | exact Drawn0.refl _ | apply Drawn0.step)⟩
 ·
  rw [if_neg c3] at H
  have c3b0 : decide (a0 < a1) = false := decide_eq_false c3
  clear c3
  by_cases c4 : a0 > a1
  ·
   rw [if_pos c4] at H
   have c4b0 : decide (a1 < a0) = true := decide_eq_true c4
   clear c4
   obtain rfl := Option.some.inj H
   go_enter Try.func94, Try.ntmps94
   go_wp2
   go_ret
   exact ⟨by first | rfl | (simp; done) | (simp [*]; done), by repeat (first | exact Drawn0.refl _ | apply Drawn0.step)⟩
  ·
   rw [if_neg c4] at H
   have c4b0 : decide (a1 < a0) = false := decide_eq_false c4
   clear c4
   obtain rfl := Option.some.inj H
   go_enter Try.func94, Try.ntmps94
   go_wp2
   go_ret
   exact ⟨by first | rfl | (simp; done) | (simp [*]; done), by repeat (first | exact Drawn0.refl _ | apply Drawn0.step)⟩
end Go.Proofs.Ytafhnjlihhfoaaa.Q
