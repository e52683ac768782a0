/- Lemmas for this claim's walk: no condition of their own. -/
import Derived.Test.YtafhnjlihhfoaaaUcSq
import Derived.Test.YtafhnjlihhfoaaaUcQx0
import Derived.Test.YtafhnjlihhfoaaaUcQx9
import Derived.Test.YtafhnjlihhfoaaaUcJ0
import Derived.Test.YtafhnjlihhfoaaaUcQx34
import Derived.Test.YtafhnjlihhfoaaaUcQx33
import Derived.Test.YtafhnjlihhfoaaaUcQx7
import Derived.Test.YtafhnjlihhfoaaaUcJ21
namespace Go.Proofs.Ytafhnjlihhfoaaa.Q
open Go.RowKit Go.Proofs.YtafhnjlihhfoaaaW.PrintWords Go.Proofs.YtafhnjlihhfoaaaW.PrintLast Go.Proofs.YtafhnjlihhfoaaaW.PrintMore
attribute [local go_sem] max2_int min2_int max_two min_two max_three min_three max_four min_four
set_option linter.unusedVariables false
set_option linter.unusedSimpArgs false
def cell_Join.f (k : Nat) (a0_0 : Int) (a0_1 : Bool) (a0_2 : Int) (a0_3 : Int) (a0_4 : Int) (a0_5 : ByteArray) (a1_0 : Int) (a1_1 : Bool) (a1_2 : Int) (a1_3 : Int) (a1_4 : Int) (a1_5 : ByteArray) : Option (Int × Bool × Int × Int × Int × ByteArray) := (cell_Cmp.f k a0_0 a0_1 a0_2 a0_3 a0_4 a0_5 a1_0 a1_1 a1_2 a1_3 a1_4 a1_5).bind fun t148 => (if t148 < 0 then (some (a1_0, a1_1, a1_2, a1_3, a1_4, a1_5)) else (some (a0_0, a0_1, a0_2, a0_3, a0_4, a0_5)))
set_option maxHeartbeats 8000000 in
set_option maxRecDepth 100000 in
theorem cell_Join.calls (k : Nat) (a0_0 : Int) (a0_1 : Bool) (a0_2 : Int) (a0_3 : Int) (a0_4 : Int) (a0_5 : ByteArray) (a1_0 : Int) (a1_1 : Bool) (a1_2 : Int) (a1_3 : Int) (a1_4 : Int) (a1_5 : ByteArray) (r1 : Int) (r2 : Bool) (r3 : Int) (r4 : Int) (r5 : Int) (r6 : ByteArray) (w : World) (h : cell_Join.f k a0_0 a0_1 a0_2 a0_3 a0_4 a0_5 a1_0 a1_1 a1_2 a1_3 a1_4 a1_5 = some (r1, r2, r3, r4, r5, r6)) :
  Calls Try.prog 48 #[.agg #[.int .i64 a0_0, .bool a0_1, .int .i64 a0_2, .int .i64 a0_3, .int .i64 a0_4, .string a0_5], .agg #[.int .i64 a1_0, .bool a1_1, .int .i64 a1_2, .int .i64 a1_3, .int .i64 a1_4, .string a1_5]] w fun e w' => e = .returned (.agg #[.int .i64 r1, .bool r2, .int .i64 r3, .int .i64 r4, .int .i64 r5, .string r6]) ∧ Below w.heap.size w w' := by
 have hu36 := Try.underlying36
 have HB := Aside0.mk (Below.refl w.heap.size w)
 have H : ((cell_Cmp.f k a0_0 a0_1 a0_2 a0_3 a0_4 a0_5 a1_0 a1_1 a1_2 a1_3 a1_4 a1_5).bind fun t148 => (if t148 < 0 then (some (a1_0, a1_1, a1_2, a1_3, a1_4, a1_5)) else (some (a0_0, a0_1, a0_2, a0_3, a0_4, a0_5)))) = some (r1, r2, r3, r4, r5, r6) := h
 clear h
 replace H := Option.bind_eq_some_iff.mp H
 obtain ⟨t148, A30, H⟩ := H
 have A3 := Aside0.mk A30
 clear A30
 by_cases c4 : t148 < 0
 ·
  rw [if_pos c4] at H
  have c4b0 : decide (t148 < 0) = true := decide_eq_true c4
  clear c4
  simp only [Option.some.injEq, Prod.mk.injEq] at H
  obtain ⟨rfl, rfl, rfl, rfl, rfl, rfl⟩ := H
  go_enter Try.func48, Try.ntmps48
  go_wp2_with (first | ((with_reducible refine gate_dst (N := 2) rfl ?_); refine box_event ?hg (N := 2) ?hd (cs := #[.int .i64 a0_0, .bool a0_1, .int .i64 a0_2, .int .i64 a0_3, .int .i64 a0_4, .string a0_5]) (t := 36) ?hr ?_; (case hd => rfl); (case hg => rfl); (case hr => first | (go_simp; done) | (go_simp; rfl)); intro gb145 hg w5 hbox hb; have BK145 := Aside0.mk (hbox); have GW145 := Aside0.mk ((by rw [hg]; exact (bZ_ (kwW HB)) : w.heap.size ≤ gb145)); replace HB := Aside0.mk (below_step (kwW HB) hb); have GE145 := GW145; clear hb hbox hg) | ((with_reducible refine gate_dst (N := 3) rfl ?_); refine box_event ?hg (N := 3) ?hd (cs := #[.int .i64 a1_0, .bool a1_1, .int .i64 a1_2, .int .i64 a1_3, .int .i64 a1_4, .string a1_5]) (t := 36) ?hr ?_; (case hd => rfl); (case hg => rfl); (case hr => first | (go_simp; done) | (go_simp; rfl)); intro gb146 hg w6 hbox hb; have BK146 := Aside0.mk (hbox); have GW146 := Aside0.mk ((by rw [hg]; exact (bZ_ (by repeat (first | (with_reducible first | exact HB.out | apply bA_ | apply bN_ | apply bD_ | refine bS_ ?_ GE145) | exact HB.out))) : w.heap.size ≤ gb146)); replace HB := Aside0.mk (below_step (by repeat (first | (with_reducible first | exact HB.out | apply bA_ | apply bN_ | apply bD_ | refine bS_ ?_ GE145) | exact HB.out)) hb); have GE146 := GW146; have NB145_146 := Aside0.mk ((by rw [hg]; exact Nat.ne_of_lt (blk_lt (kbW BK145)) : gb145 ≠ gb146)); have NB146_145 := Aside0.mk ((by rw [hg]; exact Nat.ne_of_gt (blk_lt (kbW BK145)) : gb146 ≠ gb145)); replace BK145 := kB BK145 hb; clear hb hbox hg) | ((with_reducible refine gate_dst (N := 4) rfl ?_); refine box_event ?hg (N := 4) ?hd (cs := #[.int .i64 0, .bool false, .int .i64 0, .int .i64 0, .int .i64 0, .string (⟨#[]⟩ : ByteArray)]) (t := 36) ?hr ?_; (case hd => rfl); (case hg => rfl); (case hr => first | (go_simp; done) | (go_simp; rfl)); intro gb147 hg w7 hbox hb; have BK147 := Aside0.mk (hbox); have GW147 := Aside0.mk ((by rw [hg]; exact (bZ_ (by repeat (first | (with_reducible first | exact HB.out | apply bA_ | apply bN_ | apply bD_ | refine bS_ ?_ GE145 | refine bS_ ?_ GE146) | exact HB.out))) : w.heap.size ≤ gb147)); replace HB := Aside0.mk (below_step (by repeat (first | (with_reducible first | exact HB.out | apply bA_ | apply bN_ | apply bD_ | refine bS_ ?_ GE145 | refine bS_ ?_ GE146) | exact HB.out)) hb); have GE147 := GW147; have NB145_147 := Aside0.mk ((by rw [hg]; exact Nat.ne_of_lt (blk_lt (kbW BK145)) : gb145 ≠ gb147)); have NB147_145 := Aside0.mk ((by rw [hg]; exact Nat.ne_of_gt (blk_lt (kbW BK145)) : gb147 ≠ gb145)); replace BK145 := kB BK145 hb; have NB146_147 := Aside0.mk ((by rw [hg]; exact Nat.ne_of_lt (blk_lt (kbW BK146)) : gb146 ≠ gb147)); have NB147_146 := Aside0.mk ((by rw [hg]; exact Nat.ne_of_gt (blk_lt (kbW BK146)) : gb147 ≠ gb146)); replace BK146 := kB BK146 hb; clear hb hbox hg; have hnb8 := NB145_146.out; have hnc8 := NB146_145.out; have hnb9 := NB145_147.out; have hnc9 := NB147_145.out; obtain ⟨_, _, _, _, _, _, _, _, _, _, _, _⟩ := czf6 BK145; have hnb11 := NB146_147.out; have hnc11 := NB147_146.out; obtain ⟨_, _, _, _, _, _, _, _, _, _, _, _⟩ := czf6 BK146) | ((with_reducible refine gate_callee (f := 68) rfl ?_); refine goesL_ (some 7) rfl rfl Try.func68 (by kernel_rfl) rfl #[.agg #[.int .i64 a0_0, .bool a0_1, .int .i64 a0_2, .int .i64 a0_3, .int .i64 a0_4, .string a0_5], .agg #[.int .i64 a1_0, .bool a1_1, .int .i64 a1_2, .int .i64 a1_3, .int .i64 a1_4, .string a1_5]] rfl (by (try simp only [mT_, mC_, mN_]); first | done | rfl) ?_; (with_reducible refine (cell_Cmp.calls k a0_0 a0_1 a0_2 a0_3 a0_4 a0_5 a1_0 a1_1 a1_2 a1_3 a1_4 a1_5 t148 _ A3.out).mono ?_); rintro e w13 ⟨rfl, hb⟩; refine ⟨_, rfl, ?_⟩; replace BK145 := kB BK145 hb; replace BK146 := kB BK146 hb; replace BK147 := kB BK147 hb; replace HB := Aside0.mk (below_step (by repeat (first | (with_reducible first | exact HB.out | apply bA_ | apply bN_ | apply bD_ | refine bS_ ?_ GE145 | refine bS_ ?_ GE146 | refine bS_ ?_ GE147) | exact HB.out)) hb); (try clear hb); (try clear hb2); (try clear hk); (try clear hi); obtain ⟨_, _, _, _, _, _, _, _, _, _, _, _⟩ := czf6 BK146; obtain ⟨_, _, _, _, _, _, _, _, _, _, _, _⟩ := czf6 BK147))
  refine bodyPost_ret (results_cell_row rfl _ _ gb147 36 #[.int .i64 a1_0, .bool a1_1, .int .i64 a1_2, .int .i64 a1_3, .int .i64 a1_4, .string a1_5] (0, 0) _ rfl (by (with_reducible repeat (first | refine blk_drewN ?_ _ | refine blk_drew ?_ | refine blk_alloc ?_ _)); exact bp6 (kbW BK147)) Try.underlying36 rfl (by kernel_rfl)) rfl ?_
  exact ⟨by first | rfl | (simp <;> rfl) | (simp [*] <;> rfl), by repeat (first | (with_reducible first | exact HB.out | apply bA_ | apply bN_ | apply bD_ | refine bS_ ?_ GE145 | refine bS_ ?_ GE146 | refine bS_ ?_ GE147) | exact HB.out)⟩
 ·
  rw [if_neg c4] at H
  have c4b0 : decide (t148 < 0) = false := decide_eq_false c4
  clear c4
  simp only [Option.some.injEq, Prod.mk.injEq] at H
  obtain ⟨rfl, rfl, rfl, rfl, rfl, rfl⟩ := H
  go_enter Try.func48, Try.ntmps48
  go_wp2_with (first | ((with_reducible refine gate_dst (N := 2) rfl ?_); refine box_event ?hg (N := 2) ?hd (cs := #[.int .i64 a0_0, .bool a0_1, .int .i64 a0_2, .int .i64 a0_3, .int .i64 a0_4, .string a0_5]) (t := 36) ?hr ?_; (case hd => rfl); (case hg => rfl); (case hr => first | (go_simp; done) | (go_simp; rfl)); intro gb145 hg w16 hbox hb; have BK145 := Aside0.mk (hbox); have GW145 := Aside0.mk ((by rw [hg]; exact (bZ_ (kwW HB)) : w.heap.size ≤ gb145)); replace HB := Aside0.mk (below_step (kwW HB) hb); have GE145 := GW145; clear hb hbox hg) | ((with_reducible refine gate_dst (N := 3) rfl ?_); refine box_event ?hg (N := 3) ?hd (cs := #[.int .i64 a1_0, .bool a1_1, .int .i64 a1_2, .int .i64 a1_3, .int .i64 a1_4, .string a1_5]) (t := 36) ?hr ?_; (case hd => rfl); (case hg => rfl); (case hr => first | (go_simp; done) | (go_simp; rfl)); intro gb146 hg w17 hbox hb; have BK146 := Aside0.mk (hbox); have GW146 := Aside0.mk ((by rw [hg]; exact (bZ_ (by repeat (first | (with_reducible first | exact HB.out | apply bA_ | apply bN_ | apply bD_ | refine bS_ ?_ GE145) | exact HB.out))) : w.heap.size ≤ gb146)); replace HB := Aside0.mk (below_step (by repeat (first | (with_reducible first | exact HB.out | apply bA_ | apply bN_ | apply bD_ | refine bS_ ?_ GE145) | exact HB.out)) hb); have GE146 := GW146; have NB145_146 := Aside0.mk ((by rw [hg]; exact Nat.ne_of_lt (blk_lt (kbW BK145)) : gb145 ≠ gb146)); have NB146_145 := Aside0.mk ((by rw [hg]; exact Nat.ne_of_gt (blk_lt (kbW BK145)) : gb146 ≠ gb145)); replace BK145 := kB BK145 hb; clear hb hbox hg) | ((with_reducible refine gate_dst (N := 4) rfl ?_); refine box_event ?hg (N := 4) ?hd (cs := #[.int .i64 0, .bool false, .int .i64 0, .int .i64 0, .int .i64 0, .string (⟨#[]⟩ : ByteArray)]) (t := 36) ?hr ?_; (case hd => rfl); (case hg => rfl); (case hr => first | (go_simp; done) | (go_simp; rfl)); intro gb147 hg w18 hbox hb; have BK147 := Aside0.mk (hbox); have GW147 := Aside0.mk ((by rw [hg]; exact (bZ_ (by repeat (first | (with_reducible first | exact HB.out | apply bA_ | apply bN_ | apply bD_ | refine bS_ ?_ GE145 | refine bS_ ?_ GE146) | exact HB.out))) : w.heap.size ≤ gb147)); replace HB := Aside0.mk (below_step (by repeat (first | (with_reducible first | exact HB.out | apply bA_ | apply bN_ | apply bD_ | refine bS_ ?_ GE145 | refine bS_ ?_ GE146) | exact HB.out)) hb); have GE147 := GW147; have NB145_147 := Aside0.mk ((by rw [hg]; exact Nat.ne_of_lt (blk_lt (kbW BK145)) : gb145 ≠ gb147)); have NB147_145 := Aside0.mk ((by rw [hg]; exact Nat.ne_of_gt (blk_lt (kbW BK145)) : gb147 ≠ gb145)); replace BK145 := kB BK145 hb; have NB146_147 := Aside0.mk ((by rw [hg]; exact Nat.ne_of_lt (blk_lt (kbW BK146)) : gb146 ≠ gb147)); have NB147_146 := Aside0.mk ((by rw [hg]; exact Nat.ne_of_gt (blk_lt (kbW BK146)) : gb147 ≠ gb146)); replace BK146 := kB BK146 hb; clear hb hbox hg; have hnb19 := NB145_146.out; have hnc19 := NB146_145.out; have hnb20 := NB145_147.out; have hnc20 := NB147_145.out; obtain ⟨_, _, _, _, _, _, _, _, _, _, _, _⟩ := czf6 BK145; have hnb22 := NB146_147.out; have hnc22 := NB147_146.out; obtain ⟨_, _, _, _, _, _, _, _, _, _, _, _⟩ := czf6 BK146) | ((with_reducible refine gate_callee (f := 68) rfl ?_); refine goesL_ (some 7) rfl rfl Try.func68 (by kernel_rfl) rfl #[.agg #[.int .i64 a0_0, .bool a0_1, .int .i64 a0_2, .int .i64 a0_3, .int .i64 a0_4, .string a0_5], .agg #[.int .i64 a1_0, .bool a1_1, .int .i64 a1_2, .int .i64 a1_3, .int .i64 a1_4, .string a1_5]] rfl (by (try simp only [mT_, mC_, mN_]); first | done | rfl) ?_; (with_reducible refine (cell_Cmp.calls k a0_0 a0_1 a0_2 a0_3 a0_4 a0_5 a1_0 a1_1 a1_2 a1_3 a1_4 a1_5 t148 _ A3.out).mono ?_); rintro e w24 ⟨rfl, hb⟩; refine ⟨_, rfl, ?_⟩; replace BK145 := kB BK145 hb; replace BK146 := kB BK146 hb; replace BK147 := kB BK147 hb; replace HB := Aside0.mk (below_step (by repeat (first | (with_reducible first | exact HB.out | apply bA_ | apply bN_ | apply bD_ | refine bS_ ?_ GE145 | refine bS_ ?_ GE146 | refine bS_ ?_ GE147) | exact HB.out)) hb); (try clear hb); (try clear hb2); (try clear hk); (try clear hi); obtain ⟨_, _, _, _, _, _, _, _, _, _, _, _⟩ := czf6 BK145; obtain ⟨_, _, _, _, _, _, _, _, _, _, _, _⟩ := czf6 BK147))
  refine bodyPost_ret (results_cell_row rfl _ _ gb147 36 #[.int .i64 a0_0, .bool a0_1, .int .i64 a0_2, .int .i64 a0_3, .int .i64 a0_4, .string a0_5] (0, 0) _ rfl (by (with_reducible repeat (first | refine blk_drewN ?_ _ | refine blk_drew ?_ | refine blk_alloc ?_ _)); exact bp6 (kbW BK147)) Try.underlying36 rfl (by kernel_rfl)) rfl ?_
  exact ⟨by first | rfl | (simp <;> rfl) | (simp [*] <;> rfl), by repeat (first | (with_reducible first | exact HB.out | apply bA_ | apply bN_ | apply bD_ | refine bS_ ?_ GE145 | refine bS_ ?_ GE146 | refine bS_ ?_ GE147) | exact HB.out)⟩
end Go.Proofs.Ytafhnjlihhfoaaa.Q
namespace Go.Proofs.Ytafhnjlihhfoaaa.Pl
open Go.RowKit Go.Proofs.YtafhnjlihhfoaaaW.PrintWords
open Go.Proofs.Ytafhnjlihhfoaaa.Q Go.Proofs.Ytafhnjlihhfoaaa.Ord
theorem compare_int (a b : Int) : cmp_Compare_int.f a b = some (ci a b) := by
 unfold cmp_Compare_int.f cmp_isNaN_int.f ci
 simp only [Option.bind_some, bne_self_eq_false, Bool.false_eq_true, if_false]
 repeat' split
 all_goals first | rfl | omega
theorem compare_string (a b : ByteArray) : cmp_Compare_string.f a b = some (cs a b) := by
 unfold cmp_Compare_string.f cmp_isNaN_string.f cs cl
 simp only [Option.bind_some, bne_self_eq_false, Bool.false_eq_true, if_false]
 repeat' split
 all_goals rfl
theorem rank (b : Bool) : cell_rank.f b = some (if b = true then 1 else 0) := by unfold cell_rank.f; split <;> rfl
theorem or2 (k : Nat) (hk : 4 ≤ k) (a b : Int) : cmp_Or_int.f k [a, b] = some (if a = 0 then b else a) := by
 obtain ⟨n, rfl⟩ : ∃ n, k = n + 4 := ⟨k - 4, by omega⟩
 unfold cmp_Or_int.f
 by_cases ha : a = 0 <;> by_cases hb : b = 0 <;> simp [cmp_Or_int.l0, rd, wrap64, ha, hb]
theorem or3 (k : Nat) (hk : 5 ≤ k) (a b c : Int) : cmp_Or_int.f k [a, b, c] = some (if a = 0 then (if b = 0 then c else b) else a) := by
 obtain ⟨n, rfl⟩ : ∃ n, k = n + 5 := ⟨k - 5, by omega⟩
 unfold cmp_Or_int.f
 by_cases ha : a = 0 <;> by_cases hb : b = 0 <;> by_cases hc : c = 0 <;> simp [cmp_Or_int.l0, rd, wrap64, ha, hb, hc]
def rk (x : S36) : Int := if x.f1 = true then 1 else 0
def v1 (x : S36) : Int := if x.f1 = true then x.f2 else x.f3.f0
def v2 (x : S36) : Int := if x.f1 = true then 0 else x.f3.f1
def v3 (x : S36) : List UInt8 := if x.f1 = true then [] else x.f3.f2.toList
def cmpV (x y : S36) : Int :=
 lex (fun x y => ci x.f0 y.f0) (lex (fun x y => ci (rk x) (rk y)) (lex (fun x y => ci (v1 x) (v1 y)) (lex (fun x y => ci (v2 x) (v2 y)) (fun x y => cl (v3 x) (v3 y))))) x y
theorem cmpV_cmp : Cmp3 cmpV :=
 (ci_cmp.on (fun x : S36 => x.f0)).lex ((ci_cmp.on rk).lex ((ci_cmp.on v1).lex ((ci_cmp.on v2).lex (cl_cmp.on v3))))
theorem cmpV_zero {x y : S36} : cmpV x y = 0 ↔ x.f0 = y.f0 ∧ x.f1 = y.f1 ∧ v1 x = v1 y ∧ v2 x = v2 y ∧ v3 x = v3 y := by
 unfold cmpV
 simp only [lex_zero, ci_zero, cl_zero]
 have : rk x = rk y ↔ x.f1 = y.f1 := by
  unfold rk
  cases x.f1 <;> cases y.f1 <;> simp
 rw [this]
theorem cmp_f (k : Nat) (hk : 5 ≤ k) (a0 : Int) (a1 : Bool) (a2 a3 a4 : Int) (a5 : ByteArray) (b0 : Int) (b1 : Bool) (b2 b3 b4 : Int) (b5 : ByteArray) :
  cell_Cmp.f k a0 a1 a2 a3 a4 a5 b0 b1 b2 b3 b4 b5 = some (cmpV ⟨a0, a1, a2, ⟨a3, a4, a5⟩⟩ ⟨b0, b1, b2, ⟨b3, b4, b5⟩⟩) := by
 unfold cell_Cmp.f
 by_cases h : (a0 == b0 && (a1 == b1 && (a2 == b2 && ((a3 == b3 && (a4 == b4 && (a5.toList == b5.toList))))))) = true
 ·
  rw [if_pos h]
  simp only [Bool.and_eq_true, beq_iff_eq] at h
  obtain ⟨rfl, rfl, rfl, rfl, rfl, h5⟩ := h
  rw [(cmpV_zero (x := ⟨a0, a1, a2, ⟨a3, a4, a5⟩⟩) (y := ⟨a0, a1, a2, ⟨a3, a4, b5⟩⟩)).2 ⟨rfl, rfl, rfl, rfl, by simp only [v3, h5]⟩]
 ·
  rw [if_neg h]
  simp only [compare_int, compare_string, rank, or2 k (by omega), or3 k hk, Option.bind_some]
  have ci0 : ∀ z : Int, ci z z = 0 := fun z => ci_cmp.refl z
  have cl0 : ∀ z : List UInt8, cl z z = 0 := fun z => cl_cmp.refl z
  have h10 : ci 1 0 = 1 := by decide
  have h01 : ci 0 1 = -1 := by decide
  by_cases hA : ci a0 b0 = 0
  ·
   cases a1 <;> cases b1 <;> simp only [cmpV, lex, rk, v1, v2, v3, cs, hA, ci0, cl0, h10, h01, if_true, if_false, Bool.false_eq_true, show ¬((-1 : Int) = 0) by decide, show ¬((1 : Int) = 0) by decide]
   ·
    by_cases h1 : ci a2 b2 = 0 <;> simp only [h1, if_true, if_false]
  ·
   simp only [cmpV, lex, hA, if_false]
def joinV (x y : S36) : S36 := if cmpV x y < 0 then y else x
def tupV (x : S36) : Int × Bool × Int × Int × Int × ByteArray := (x.f0, x.f1, x.f2, x.f3.f0, x.f3.f1, x.f3.f2)
theorem join_f (k : Nat) (hk : 5 ≤ k) (a0 : Int) (a1 : Bool) (a2 a3 a4 : Int) (a5 : ByteArray) (b0 : Int) (b1 : Bool) (b2 b3 b4 : Int) (b5 : ByteArray) :
  cell_Join.f k a0 a1 a2 a3 a4 a5 b0 b1 b2 b3 b4 b5 = some (tupV (joinV ⟨a0, a1, a2, ⟨a3, a4, a5⟩⟩ ⟨b0, b1, b2, ⟨b3, b4, b5⟩⟩)) := by
 unfold cell_Join.f
 rw [cmp_f k hk]
 simp only [Option.bind_some, joinV]
 split <;> rfl
end Go.Proofs.Ytafhnjlihhfoaaa.Pl
namespace Go.Proofs.Ytafhnjlihhfoaaa.Pl
open Go.RowKit Go.Proofs.YtafhnjlihhfoaaaW.PrintWords
open Go.Proofs.Ytafhnjlihhfoaaa.Q Go.Proofs.Ytafhnjlihhfoaaa.Ord
theorem ints_f (a b : Int) : skerryref05_ints.f a b = some (ci a b) := by
 unfold skerryref05_ints.f ci
 repeat' split
 all_goals first | rfl | omega
theorem rcmp_f (a0 : Int) (a1 : Bool) (a2 a3 a4 : Int) (a5 : ByteArray) (b0 : Int) (b1 : Bool) (b2 b3 b4 : Int) (b5 : ByteArray) :
  skerryref05_Cmp.f a0 a1 a2 a3 a4 a5 b0 b1 b2 b3 b4 b5 = some (cmpV ⟨a0, a1, a2, ⟨a3, a4, a5⟩⟩ ⟨b0, b1, b2, ⟨b3, b4, b5⟩⟩) := by
 unfold skerryref05_Cmp.f
 simp only [ints_f, Option.bind_some]
 have ci0 : ∀ z : Int, ci z z = 0 := fun z => ci_cmp.refl z
 have cl0 : ∀ z : List UInt8, cl z z = 0 := fun z => cl_cmp.refl z
 have h10 : ci 1 0 = 1 := by decide
 have h01 : ci 0 1 = -1 := by decide
 by_cases h : a0 = b0
 ·
  rw [if_pos h]; subst h
  cases a1 <;> cases b1 <;> simp only [cmpV, lex, rk, v1, v2, v3, ci0, cl0, h10, h01, if_true, if_false, Bool.false_eq_true, show ¬((-1 : Int) = 0) by decide, show ¬((1 : Int) = 0) by decide, bne_self_eq_false, show (false != true) = true from rfl, show (true != false) = true from rfl]
  ·
   by_cases h1 : a3 = b3
   ·
    subst h1
    simp only [ci0, if_true]
    by_cases h2 : a4 = b4
    ·
     subst h2; simp only [ci0, if_true, cl]
     repeat' split
     all_goals rfl
    ·
     have : ¬ ci a4 b4 = 0 := fun z => h2 (ci_zero.1 z)
     simp only [h2, this, if_false]
   ·
    have : ¬ ci a3 b3 = 0 := fun z => h1 (ci_zero.1 z)
    simp only [h1, this, if_false]
  ·
   by_cases h1 : ci a2 b2 = 0 <;> simp only [h1, if_true, if_false]
 ·
  have : ¬ ci a0 b0 = 0 := fun z => h (ci_zero.1 z)
  simp only [cmpV, lex, h, this, if_false]
theorem rjoin_f (a0 : Int) (a1 : Bool) (a2 a3 a4 : Int) (a5 : ByteArray) (b0 : Int) (b1 : Bool) (b2 b3 b4 : Int) (b5 : ByteArray) :
  skerryref05_Join.f a0 a1 a2 a3 a4 a5 b0 b1 b2 b3 b4 b5 = some (tupV (joinV ⟨a0, a1, a2, ⟨a3, a4, a5⟩⟩ ⟨b0, b1, b2, ⟨b3, b4, b5⟩⟩)) := by
 unfold skerryref05_Join.f
 rw [rcmp_f]
 simp only [Option.bind_some, joinV]
 have := cmpV_cmp.anti ⟨a0, a1, a2, ⟨a3, a4, a5⟩⟩ ⟨b0, b1, b2, ⟨b3, b4, b5⟩⟩
 by_cases h : cmpV ⟨a0, a1, a2, ⟨a3, a4, a5⟩⟩ ⟨b0, b1, b2, ⟨b3, b4, b5⟩⟩ < 0
 ·
  rw [if_pos h, if_pos (by omega)]; rfl
 ·
  rw [if_neg h, if_neg (by omega)]; rfl
theorem rtexts_f (a b : ByteArray) : skerryref04_texts.f a b = some (cs a b) := by
 unfold skerryref04_texts.f cs cl
 repeat' split
 all_goals rfl
theorem rkey_f (x y : S32) : skerryref04_Cmp.f x.f0 x.f1 x.f2 x.f3 y.f0 y.f1 y.f2 y.f3 = some (cmpK x y) := by
 unfold skerryref04_Cmp.f
 simp only [rtexts_f, Option.bind_some]
 by_cases h0 : x.f0.toList = y.f0.toList
 ·
  have e0 : cs x.f0 y.f0 = 0 := cs_zero.2 h0
  rw [if_pos h0]
  by_cases h1 : x.f1.toList = y.f1.toList
  ·
   have e1 : cs x.f1 y.f1 = 0 := cs_zero.2 h1
   rw [if_pos h1]
   simp only [cmpK, lex, e0, e1, if_true]
   by_cases h2 : x.f2 < y.f2
   ·
    have e2 : ci x.f2 y.f2 = -1 := by unfold ci; rw [if_pos h2]
    rw [if_pos h2, e2]; rfl
   ·
    by_cases h3 : y.f2 < x.f2
    ·
     have e2 : ci x.f2 y.f2 = 1 := by unfold ci; rw [if_neg h2, if_pos h3]
     rw [if_neg h2, if_pos h3, e2]; rfl
    ·
     have e2 : ci x.f2 y.f2 = 0 := by unfold ci; rw [if_neg h2, if_neg h3]
     rw [if_neg h2, if_neg h3, e2, if_pos rfl]
  ·
   have e1 : ¬ cs x.f1 y.f1 = 0 := fun z => h1 (cs_zero.1 z)
   rw [if_neg h1]
   simp only [cmpK, lex, e0, e1, if_true, if_false]
 ·
  have e0 : ¬ cs x.f0 y.f0 = 0 := fun z => h0 (cs_zero.1 z)
  rw [if_neg h0]
  simp only [cmpK, lex, e0, if_false]
theorem keyB_cmp (x y : S32) : (x.f0.toList == y.f0.toList && (x.f1.toList == y.f1.toList && (x.f2 == y.f2 && (x.f3.toList == y.f3.toList)))) = (cmpK x y == 0) := by
 rw [Bool.eq_iff_iff]
 simp only [Bool.and_eq_true, beq_iff_eq, cmpK, lex_zero, cs_zero, ci_zero]
end Go.Proofs.Ytafhnjlihhfoaaa.Pl
