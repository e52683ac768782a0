/- Good cells: of one key only those that are the same are alike; joining takes the greater. -/
import Derived.Test.YtlffkbcaphhldaaFcQx6
import Derived.Test.YtlffkbcaphhldaaFcJ28
import Derived.Test.YtlffkbcaphhldaaFcNormT
import Derived.Test.YtlffkbcaphhldaaFcQx9
import Derived.Test.YtlffkbcaphhldaaFcQx11
import Derived.Test.YtlffkbcaphhldaaFcQx0
import Derived.Test.YtlffkbcaphhldaaFcJ17
import Derived.Test.YtlffkbcaphhldaaFcSkA
import Derived.Test.YtlffkbcaphhldaaFcAhead
import Derived.BigQuiet
import Derived.Deep.QuietTactic
import Derived.Deep.MidRow
import Derived.WalkLawsBesides
import Derived.WalkSpells
import Derived.Lib.Hide
import Derived.Deep.DeepFit
import Derived.Outline
import Derived.Test.YtlffkbcaphhldaaFcSkAll
import Derived.Test.YtlffkbcaphhldaaFcJ25
import Derived.Test.YtlffkbcaphhldaaFcSL
namespace Go.Proofs.Ytlffkbcaphhldaa.Pl
open Go Go.RowKit Go.Proofs.YtlffkbcaphhldaaW.PrintWords Go.Proofs.Ytlffkbcaphhldaa.Q Go.Proofs.Ytlffkbcaphhldaa.Ord Go.Proofs.Ytlffkbcaphhldaa.Nm
set_option linter.unusedVariables false
set_option linter.unusedSimpArgs false
theorem kg_some (a0 a1 : ByteArray) (a2 : Int) (a3 : ByteArray) : ∃ b, key_Good.f a0 a1 a2 a3 = some b := by
 unfold key_Good.f key_Name.f
 simp only [Option.bind_some]
 repeat' split
 all_goals exact ⟨_, rfl⟩
theorem cg_some (a0 a1 : ByteArray) (a2 : Int) (a3 : ByteArray) (x : S35) : ∃ b, cell_Good.f a0 a1 a2 a3 x.f0 x.f1 x.f2 x.f3.f0 x.f3.f1 x.f3.f2 = some b := by
 unfold cell_Good.f
 obtain ⟨b, hb⟩ := kg_some a0 a1 a2 a3
 rw [hb]
 simp only [Option.bind_some]
 repeat' split
 all_goals exact ⟨_, rfl⟩
def goodB (c : S37) : Bool := (cell_Good.f c.f0.f0 c.f0.f1 c.f0.f2 c.f0.f3 c.f1.f0 c.f1.f1 c.f1.f2 c.f1.f3.f0 c.f1.f3.f1 c.f1.f3.f2).getD false
theorem good_f (c : S37) : cell_Good.f c.f0.f0 c.f0.f1 c.f0.f2 c.f0.f3 c.f1.f0 c.f1.f1 c.f1.f2 c.f1.f3.f0 c.f1.f3.f1 c.f1.f3.f2 = some (goodB c) := by
 obtain ⟨b, hb⟩ := cg_some c.f0.f0 c.f0.f1 c.f0.f2 c.f0.f3 c.f1
 unfold goodB
 rw [hb]; rfl
end Go.Proofs.Ytlffkbcaphhldaa.Pl
namespace Go.Proofs.Ytlffkbcaphhldaa.Q
open Go.RowKit Go.Proofs.YtlffkbcaphhldaaW.PrintWords Go.Proofs.YtlffkbcaphhldaaW.PrintLast Go.Proofs.YtlffkbcaphhldaaW.PrintMore
attribute [local go_sem] max2_int min2_int max_two min_two max_three min_three max_four min_four
set_option linter.unusedVariables false
set_option linter.unusedSimpArgs false
open Go.Lib Go.Proofs.Ytlffkbcaphhldaa.Sk Go.Proofs.Ytlffkbcaphhldaa.Pl Go.Proofs.Ytlffkbcaphhldaa.Ord Go.Proofs.Ytlffkbcaphhldaa.Nm
attribute [local go_sem high] eqA31
abbrev va (v : S35) : Array Value := #[.int .i64 v.f0, .bool v.f1, .int .i64 v.f2, .int .i64 v.f3.f0, .int .i64 v.f3.f1, .string v.f3.f2]
theorem idx8 (p0 p1 p2 p3 p4 p5 p6 p7 : Value) (w : World) : (Instr.index 70 (.agg #[p0, p1, p2, p3, p4, p5, p6, p7]) (.int .i64 0)).run Try.prog w = .ok p0 w := by kernel_rfl
attribute [local go_sem high] idx8
end Go.Proofs.Ytlffkbcaphhldaa.Q
namespace Go.Proofs.Ytlffkbcaphhldaa.Q
open Go.RowKit Go.Proofs.YtlffkbcaphhldaaW.PrintWords Go.Proofs.YtlffkbcaphhldaaW.PrintLast Go.Proofs.YtlffkbcaphhldaaW.PrintMore
attribute [local go_sem] max2_int min2_int max_two min_two max_three min_three max_four min_four
set_option linter.unusedVariables false
set_option linter.unusedSimpArgs false
open Go.Lib Go.Proofs.Ytlffkbcaphhldaa.Sk Go.Proofs.Ytlffkbcaphhldaa.Pl Go.Proofs.Ytlffkbcaphhldaa.Ord Go.Proofs.Ytlffkbcaphhldaa.Nm Go.Proofs.Ytlffkbcaphhldaa.Rh
attribute [local go_sem] Oper.semAt_some
attribute [local go_sem high] idx8
theorem values_calls (v : Value) (A : Option Addr) (n c : Nat) (hv : v = .slice A n c) (w : World) : Calls Try.prog 38 #[v] w fun e w' => e = .returned (.func (.func 48) #[] #[.pointer (some ⟨w.heap.size, 0, none⟩)]) ∧ w.alloc (.cells #[v] 23) = w' := by
 subst hv
 go_enter Try.func38, Try.ntmps38
 go_wp2
 go_ret
 exact ⟨rfl, rfl⟩
abbrev ka (k : Ky) : Array Value := #[.string k.f0, .string k.f1, .int .i64 k.f2, .string k.f3]
structure SI (w : World) (T : List Tw) (u : Ky) (pre : List Tw) (W : World) : Prop where
 out : OutB k37 37 23 w (w.heap.size + 1 + 1) W (pre.map (·.c))
 mem : Mem W T
 ub : W.heap[w.heap.size + 1]? = some (.cells (ka u) 31 (0, 0))
 lt : ∀ y ∈ pre, cmpK y.c.f0 u < 0
theorem SI.mvb {w : World} {T : List Tw} {u : Ky} {pre : List Tw} {A C : World} {B : Nat} (h : SI w T u pre A) (h1 : ∀ q, q < T.length → (tg T q).b < w.heap.size) (hB : w.heap.size ≤ B) (hm : MvB 65 w.heap.size B A C) : SI w T u pre C :=
 ⟨OutB.mvb rfl (by decide) (by decide) (Nat.le_refl _) hB h.out hm, Mem.mvb h.mem h1 hB hm, (hm.same _ (blk_lt h.ub) (.inr (typed_ne h.ub (by decide))) (.inr ⟨_, h.ub, rfl⟩)).trans h.ub, h.lt⟩
theorem SI.below {w : World} {T : List Tw} {u : Ky} {pre : List Tw} {A C : World} (h : SI w T u pre A) (hb : Below A.heap.size A C) : SI w T u pre C := ⟨h.out.below hb, h.mem.below hb, blk_below h.ub hb, h.lt⟩
end Go.Proofs.Ytlffkbcaphhldaa.Q
namespace Go.Proofs.Ytlffkbcaphhldaa.Sk
open Go Go.RowKit Go.Lib Go.Proofs Go.Proofs.YtlffkbcaphhldaaW.PrintWords Go.Proofs.YtlffkbcaphhldaaW.PrintLast Go.Proofs.YtlffkbcaphhldaaW.PrintMore Go.Proofs.Ytlffkbcaphhldaa.Q Go.Proofs.Ytlffkbcaphhldaa.Pl Go.Proofs.Ytlffkbcaphhldaa.Ord Go.Proofs.Ytlffkbcaphhldaa.Nm
set_option linter.unusedVariables false
set_option linter.unusedSimpArgs false
theorem has_lk {T : List Tw} (hU : Up T) (k : Ky) : hasT T k ↔ (lk cmpK keyC k (cellsT T)).isSome = true := by
 constructor
 ·
  rintro ⟨h1, h2⟩
  unfold lk
  rw [List.find?_isSome]
  have h3 : (cellsT T)[Sk.below T k]? = some (tg T (Sk.below T k + 1)).c := cells_get (Nat.succ_pos _) h1
  exact ⟨_, List.mem_of_getElem? h3, by simpa [keyC] using h2⟩
 ·
  intro h
  obtain ⟨y, hy⟩ := Option.isSome_iff_exists.1 h
  obtain ⟨hm, h0⟩ := lk_some hy
  obtain ⟨i, hi, rfl⟩ := List.getElem_of_mem hm
  rw [cells_len] at hi
  have hp : i + 1 < T.length := by omega
  have h3 : (cellsT T)[i]? = some (tg T (i + 1)).c := cells_get (Nat.succ_pos _) hp
  have h4 : (cellsT T)[i]'(by rw [cells_len]; exact hi) = (tg T (i + 1)).c := by
   rw [List.getElem?_eq_getElem (by rw [cells_len]; exact hi)] at h3
   injection h3
  rw [h4] at h0
  have h0 : cmpK (tg T (i + 1)).c.f0 k = 0 := h0
  have h5 : cmpK (tg T (i + 1)).c.f0 k < 0 ↔ i + 1 ≤ Sk.below T k := below_iff hU k (Nat.succ_pos i) hp
  have hlt : Sk.below T k + 1 < T.length := by
   have := below_le T k
   have : ¬ i + 1 ≤ Sk.below T k := fun h => by have := h5.2 h; omega
   omega
  refine ⟨hlt, ?_⟩
  have h6 : cmpK (tg T (Sk.below T k + 1)).c.f0 k < 0 ↔ Sk.below T k + 1 ≤ Sk.below T k := below_iff hU k (Nat.succ_pos _) hlt
  by_cases e : i = Sk.below T k
  ·
   rw [← e]; exact h0
  ·
   have hgt : Sk.below T k + 1 < i + 1 := by
    have : ¬ i + 1 ≤ Sk.below T k := fun h => by have := h5.2 h; omega
    omega
   have h7 : cmpK (tg T (Sk.below T k + 1)).c.f0 (tg T (i + 1)).c.f0 < 0 := up_get hU (Nat.succ_pos _) hgt hp
   have h8 := cmpK_cmp.trans (tg T (Sk.below T k + 1)).c.f0 (tg T (i + 1)).c.f0 k (by omega) (by omega)
   have h9 : ¬ cmpK (tg T (Sk.below T k + 1)).c.f0 k < 0 := fun h => by have := h6.1 h; omega
   omega
def hisP (C : List Cl) (H : List Int) (lv : List Int) (x : Cl) : List Int :=
 if (lk cmpK keyC x.f0 C).isSome = true then H else H.take (C.filter fun y => decide (cmpK y.f0 x.f0 < 0)).length ++ htv lv C.length :: H.drop (C.filter fun y => decide (cmpK y.f0 x.f0 < 0)).length
theorem put_hisP {T : List Tw} (hU : Up T) (h0 : 0 < T.length) (lv : List Int) (x : Cl) (b : Nat) : hisT (putT T lv x b) = hisP (cellsT T) (hisT T) lv x := by
 unfold hisP
 rw [low_len, cells_len]
 by_cases hh : hasT T x.f0
 ·
  rw [if_pos ((has_lk hU _).1 hh), (put_his h0 lv x b).1 hh]
 ·
  rw [if_neg fun h => hh ((has_lk hU _).2 h), (put_his h0 lv x b).2 hh]
end Go.Proofs.Ytlffkbcaphhldaa.Sk
