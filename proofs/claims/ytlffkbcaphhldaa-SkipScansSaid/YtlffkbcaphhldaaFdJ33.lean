/- Good cells: of one key only those that are the same are alike; joining takes the greater. -/
import Derived.Test.YtlffkbcaphhldaaFdQx6
import Derived.Test.YtlffkbcaphhldaaFdJ24
import Derived.Test.YtlffkbcaphhldaaFdJ0
import Derived.Test.YtlffkbcaphhldaaFdQx9
import Derived.Test.YtlffkbcaphhldaaFdQx11
import Derived.Test.YtlffkbcaphhldaaFdQx0
import Derived.Test.YtlffkbcaphhldaaFdJ10
import Derived.Test.YtlffkbcaphhldaaFdSkA
import Derived.Test.YtlffkbcaphhldaaFdAhead
import Derived.BigQuiet
import Derived.Deep.QuietTactic
import Derived.Deep.MidRow
import Derived.WalkLawsBesides
import Derived.WalkSpells
import Derived.Lib.Hide
import Derived.Deep.DeepFit
import Derived.Outline
import Derived.Test.YtlffkbcaphhldaaFdSL
import Derived.Test.YtlffkbcaphhldaaFdPWeigh
namespace Go.Proofs.Ytlffkbcaphhldaa.Pl
open Go Go.RowKit Go.Proofs.YtlffkbcaphhldaaW.PrintWords Go.Proofs.Ytlffkbcaphhldaa.Q Go.Proofs.Ytlffkbcaphhldaa.Ord Go.Proofs.Ytlffkbcaphhldaa.Nm
set_option linter.unusedVariables false
set_option linter.unusedSimpArgs false
theorem kg_some (a0 a1 : ByteArray) (a2 : Int) (a3 : ByteArray) : ∃ b, key_Good.f a0 a1 a2 a3 = some b := by
 unfold key_Good.f key_Name.f
 simp only [Option.bind_some]
 repeat' split
 all_goals exact ⟨_, rfl⟩
theorem cg_some (a0 a1 : ByteArray) (a2 : Int) (a3 : ByteArray) (x : S35) : ∃ b, cell_Good.f a0 a1 a2 a3 x.f0 x.f1 x.f2 x.f3.f0 x.f3.f1 x.f3.f2 = some b := by
 unfold cell_Good.f
 obtain ⟨b, hb⟩ := kg_some a0 a1 a2 a3
 rw [hb]
 simp only [Option.bind_some]
 repeat' split
 all_goals exact ⟨_, rfl⟩
def goodB (c : S37) : Bool := (cell_Good.f c.f0.f0 c.f0.f1 c.f0.f2 c.f0.f3 c.f1.f0 c.f1.f1 c.f1.f2 c.f1.f3.f0 c.f1.f3.f1 c.f1.f3.f2).getD false
theorem good_f (c : S37) : cell_Good.f c.f0.f0 c.f0.f1 c.f0.f2 c.f0.f3 c.f1.f0 c.f1.f1 c.f1.f2 c.f1.f3.f0 c.f1.f3.f1 c.f1.f3.f2 = some (goodB c) := by
 obtain ⟨b, hb⟩ := cg_some c.f0.f0 c.f0.f1 c.f0.f2 c.f0.f3 c.f1
 unfold goodB
 rw [hb]; rfl
end Go.Proofs.Ytlffkbcaphhldaa.Pl
namespace Go.Proofs.Ytlffkbcaphhldaa.Q
open Go.RowKit Go.Proofs.YtlffkbcaphhldaaW.PrintWords Go.Proofs.YtlffkbcaphhldaaW.PrintLast Go.Proofs.YtlffkbcaphhldaaW.PrintMore
attribute [local go_sem] max2_int min2_int max_two min_two max_three min_three max_four min_four
set_option linter.unusedVariables false
set_option linter.unusedSimpArgs false
open Go.Lib Go.Proofs.Ytlffkbcaphhldaa.Sk Go.Proofs.Ytlffkbcaphhldaa.Pl Go.Proofs.Ytlffkbcaphhldaa.Ord Go.Proofs.Ytlffkbcaphhldaa.Nm
attribute [local go_sem high] eqA31
abbrev va (v : S35) : Array Value := #[.int .i64 v.f0, .bool v.f1, .int .i64 v.f2, .int .i64 v.f3.f0, .int .i64 v.f3.f1, .string v.f3.f2]
theorem ahead_first (l : Nat) (T : List Tw) (k : Ky) (u1 u2 : Value) (w : World) (hb : w.heap[l]? = some (.cells #[.pointer (some ⟨(tg T 0).b, 0, none⟩), u1, u2] 67 (0, 0))) (hM : Mem w T) (hU : Up T) :
  Calls Try.prog 30 #[.pointer (some ⟨l, 0, none⟩), .agg #[.string k.f0, .string k.f1, .int .i64 k.f2, .string k.f3]] w fun e w' => (∃ p1 p2 p3 p4 p5 p6 p7 : Value, e = .returned (.agg #[.pointer (some ⟨(tg T (Sk.below T k)).b, 0, none⟩), p1, p2, p3, p4, p5, p6, p7])) ∧ Below w.heap.size w w' := by
 refine (ahead_calls l T k u1 u2 (.int .i64 0) w hb hM hU).mono ?_
 rintro e w1 ⟨rfl, hb⟩
 refine ⟨⟨_, _, _, _, _, _, _, congrArg (fun z => Ending.returned (Value.agg #[pw (some (tg T z).b), _, _, _, _, _, _, _])) (spot_zero (T := T) (Sk.below T k) fun p hp => (hM.hi p ?_).1)⟩, hb⟩
 have := below_le T k
 have := hM.len
 omega
theorem idx8 (p0 p1 p2 p3 p4 p5 p6 p7 : Value) (w : World) : (Instr.index 70 (.agg #[p0, p1, p2, p3, p4, p5, p6, p7]) (.int .i64 0)).run Try.prog w = .ok p0 w := by kernel_rfl
attribute [local go_sem high] idx8
end Go.Proofs.Ytlffkbcaphhldaa.Q
namespace Go.Proofs.Ytlffkbcaphhldaa.Sk
open Go Go.RowKit Go.Lib Go.Proofs Go.Proofs.YtlffkbcaphhldaaW.PrintWords Go.Proofs.YtlffkbcaphhldaaW.PrintLast Go.Proofs.YtlffkbcaphhldaaW.PrintMore Go.Proofs.Ytlffkbcaphhldaa.Q Go.Proofs.Ytlffkbcaphhldaa.Pl Go.Proofs.Ytlffkbcaphhldaa.Ord Go.Proofs.Ytlffkbcaphhldaa.Nm
set_option linter.unusedVariables false
set_option linter.unusedSimpArgs false
theorem has_lk {T : List Tw} (hU : Up T) (k : Ky) : hasT T k ↔ (lk cmpK keyC k (cellsT T)).isSome = true := by
 constructor
 ·
  rintro ⟨h1, h2⟩
  unfold lk
  rw [List.find?_isSome]
  have h3 : (cellsT T)[Sk.below T k]? = some (tg T (Sk.below T k + 1)).c := cells_get (Nat.succ_pos _) h1
  exact ⟨_, List.mem_of_getElem? h3, by simpa [keyC] using h2⟩
 ·
  intro h
  obtain ⟨y, hy⟩ := Option.isSome_iff_exists.1 h
  obtain ⟨hm, h0⟩ := lk_some hy
  obtain ⟨i, hi, rfl⟩ := List.getElem_of_mem hm
  rw [cells_len] at hi
  have hp : i + 1 < T.length := by omega
  have h3 : (cellsT T)[i]? = some (tg T (i + 1)).c := cells_get (Nat.succ_pos _) hp
  have h4 : (cellsT T)[i]'(by rw [cells_len]; exact hi) = (tg T (i + 1)).c := by
   rw [List.getElem?_eq_getElem (by rw [cells_len]; exact hi)] at h3
   injection h3
  rw [h4] at h0
  have h0 : cmpK (tg T (i + 1)).c.f0 k = 0 := h0
  have h5 : cmpK (tg T (i + 1)).c.f0 k < 0 ↔ i + 1 ≤ Sk.below T k := below_iff hU k (Nat.succ_pos i) hp
  have hlt : Sk.below T k + 1 < T.length := by
   have := below_le T k
   have : ¬ i + 1 ≤ Sk.below T k := fun h => by have := h5.2 h; omega
   omega
  refine ⟨hlt, ?_⟩
  have h6 : cmpK (tg T (Sk.below T k + 1)).c.f0 k < 0 ↔ Sk.below T k + 1 ≤ Sk.below T k := below_iff hU k (Nat.succ_pos _) hlt
  by_cases e : i = Sk.below T k
  ·
   rw [← e]; exact h0
  ·
   have hgt : Sk.below T k + 1 < i + 1 := by
    have : ¬ i + 1 ≤ Sk.below T k := fun h => by have := h5.2 h; omega
    omega
   have h7 : cmpK (tg T (Sk.below T k + 1)).c.f0 (tg T (i + 1)).c.f0 < 0 := up_get hU (Nat.succ_pos _) hgt hp
   have h8 := cmpK_cmp.trans (tg T (Sk.below T k + 1)).c.f0 (tg T (i + 1)).c.f0 k (by omega) (by omega)
   have h9 : ¬ cmpK (tg T (Sk.below T k + 1)).c.f0 k < 0 := fun h => by have := h6.1 h; omega
   omega
def hisP (C : List Cl) (H : List Int) (lv : List Int) (x : Cl) : List Int :=
 if (lk cmpK keyC x.f0 C).isSome = true then H else H.take (C.filter fun y => decide (cmpK y.f0 x.f0 < 0)).length ++ htv lv C.length :: H.drop (C.filter fun y => decide (cmpK y.f0 x.f0 < 0)).length
theorem put_hisP {T : List Tw} (hU : Up T) (h0 : 0 < T.length) (lv : List Int) (x : Cl) (b : Nat) : hisT (putT T lv x b) = hisP (cellsT T) (hisT T) lv x := by
 unfold hisP
 rw [low_len, cells_len]
 by_cases hh : hasT T x.f0
 ·
  rw [if_pos ((has_lk hU _).1 hh), (put_his h0 lv x b).1 hh]
 ·
  rw [if_neg fun h => hh ((has_lk hU _).2 h), (put_his h0 lv x b).2 hh]
def scanP (C : List Cl) (f u : Ky) : List Cl := C.filter fun y => decide (0 ≤ cmpK y.f0 f) && decide (cmpK y.f0 u < 0)
theorem cmp_lt {a b k : Ky} (h1 : cmpK a b < 0) (h2 : cmpK b k < 0) : cmpK a k < 0 := by
 have h3 := cmpK_cmp.trans a b k (by omega) (by omega)
 have h4 := cmpK_cmp.trans k a b
 have h5 := cmpK_cmp.anti k a
 have h6 := cmpK_cmp.anti k b
 have h7 := cmpK_cmp.trans b k a
 have h8 := cmpK_cmp.anti a b
 omega
theorem scan_gen (f u : Ky) : ∀ C : List Cl, Inc cmpK keyC C → (C.drop (C.filter fun y => decide (cmpK y.f0 f < 0)).length).takeWhile (fun y => decide (cmpK y.f0 u < 0)) = scanP C f u
 | [], _ => rfl
 | x :: C, h => by
  unfold Inc at h
  rw [List.pairwise_cons] at h
  have ih := scan_gen f u C h.2
  unfold scanP at ih ⊢
  by_cases hx : cmpK x.f0 f < 0
  ·
   rw [List.filter_cons, if_pos (by simpa using hx), List.length_cons, List.drop_succ_cons, ih, List.filter_cons, if_neg (by simp; omega)]
  ·
   have hn : C.filter (fun y => decide (cmpK y.f0 f < 0)) = [] := List.filter_eq_nil_iff.2 fun z hz => by
    have h1 : cmpK x.f0 z.f0 < 0 := h.1 z hz
    simp only [decide_eq_true_eq]
    intro h2
    exact hx (cmp_lt h1 h2)
   rw [hn, List.length_nil, List.drop_zero] at ih
   rw [List.filter_cons, if_neg (by simpa using hx), hn, List.length_nil, List.drop_zero, List.takeWhile_cons, List.filter_cons]
   by_cases hu : cmpK x.f0 u < 0
   ·
    rw [if_pos (by simpa using hu), if_pos (by simp; omega), ih]
   ·
    rw [if_neg (by simpa using hu), if_neg (by simp; omega)]
    symm
    rw [List.filter_eq_nil_iff]
    intro z hz
    have h1 : cmpK x.f0 z.f0 < 0 := h.1 z hz
    simp only [Bool.and_eq_true, decide_eq_true_eq, not_and]
    intro _ h2
    exact hu (cmp_lt h1 h2)
end Go.Proofs.Ytlffkbcaphhldaa.Sk
namespace Go.Proofs.Ytlffkbcaphhldaa.Sk
open Go Go.RowKit Go.Lib Go.Proofs Go.Proofs.YtlffkbcaphhldaaW.PrintWords Go.Proofs.YtlffkbcaphhldaaW.PrintLast Go.Proofs.YtlffkbcaphhldaaW.PrintMore Go.Proofs.Ytlffkbcaphhldaa.Q Go.Proofs.Ytlffkbcaphhldaa.Pl Go.Proofs.Ytlffkbcaphhldaa.Ord Go.Proofs.Ytlffkbcaphhldaa.Nm
set_option linter.unusedVariables false
set_option linter.unusedSimpArgs false
def stp (lv : List Int) (p : List Cl × List Int) (x : Cl) : List Cl × List Int := if goodB x = true then (add cmpK keyC joinC x p.1, hisP p.1 p.2 lv x) else p
def Ps (lv : List Int) (l : List Cl) : List Cl × List Int := l.foldl (stp lv) ([], [])
theorem Ps_snoc (lv : List Int) {l : List Cl} {i : Nat} (hi : i < l.length) : Ps lv (l.take (i + 1)) = stp lv (Ps lv (l.take i)) l[i] := by
 unfold Ps
 rw [List.take_succ_eq_append_getElem hi, List.foldl_append]; rfl
theorem run_cells (lv : List Int) : ∀ (l : List Cl) (p : List Cl × List Int), (l.foldl (stp lv) p).1 = (l.filter goodB).foldl (fun s x => add cmpK keyC joinC x s) p.1
 | [], p => rfl
 | x :: l, p => by
  rw [List.foldl_cons, run_cells lv l]
  unfold stp
  by_cases h : goodB x = true
  ·
   rw [if_pos h, List.filter_cons, if_pos h, List.foldl_cons]
  ·
   rw [if_neg h, List.filter_cons, if_neg h]
theorem Ps_cells (lv : List Int) (l : List Cl) : (Ps lv l).1 = normC (l.filter goodB) := run_cells lv l _
theorem Ps_inc (lv : List Int) (l : List Cl) : Inc cmpK keyC (Ps lv l).1 := by rw [Ps_cells]; exact norm_inc cmpK_cmp joinC_key _
theorem Ps_len (lv : List Int) (l : List Cl) : (Ps lv l).1.length ≤ l.length := by
 rw [Ps_cells]
 exact Nat.le_trans (norm_len _) (List.length_filter_le _ _)
end Go.Proofs.Ytlffkbcaphhldaa.Sk
