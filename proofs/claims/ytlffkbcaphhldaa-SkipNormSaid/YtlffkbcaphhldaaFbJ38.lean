/- Good cells: of one key only those that are the same are alike; joining takes the greater. -/
import Derived.Test.YtlffkbcaphhldaaFbQx6
import Derived.Test.YtlffkbcaphhldaaFbJ29
import Derived.Test.YtlffkbcaphhldaaFbNormG
import Derived.Test.YtlffkbcaphhldaaFbSL
import Derived.Test.YtlffkbcaphhldaaFbPWeigh
namespace Go.Proofs.Ytlffkbcaphhldaa.Pl
open Go Go.RowKit Go.Proofs.YtlffkbcaphhldaaW.PrintWords Go.Proofs.Ytlffkbcaphhldaa.Q Go.Proofs.Ytlffkbcaphhldaa.Ord Go.Proofs.Ytlffkbcaphhldaa.Nm
set_option linter.unusedVariables false
set_option linter.unusedSimpArgs false
theorem kg_some (a0 a1 : ByteArray) (a2 : Int) (a3 : ByteArray) : ∃ b, key_Good.f a0 a1 a2 a3 = some b := by
 unfold key_Good.f key_Name.f
 simp only [Option.bind_some]
 repeat' split
 all_goals exact ⟨_, rfl⟩
theorem cg_some (a0 a1 : ByteArray) (a2 : Int) (a3 : ByteArray) (x : S35) : ∃ b, cell_Good.f a0 a1 a2 a3 x.f0 x.f1 x.f2 x.f3.f0 x.f3.f1 x.f3.f2 = some b := by
 unfold cell_Good.f
 obtain ⟨b, hb⟩ := kg_some a0 a1 a2 a3
 rw [hb]
 simp only [Option.bind_some]
 repeat' split
 all_goals exact ⟨_, rfl⟩
theorem cg_true {a0 a1 : ByteArray} {a2 : Int} {a3 : ByteArray} {x : S35} (h : cell_Good.f a0 a1 a2 a3 x.f0 x.f1 x.f2 x.f3.f0 x.f3.f1 x.f3.f2 = some true) :
  (x.f1 = true → x.f3.f0 = 0 ∧ x.f3.f1 = 0 ∧ x.f3.f2.toList = []) ∧ (x.f1 = false → x.f2 = 0) := by
 unfold cell_Good.f at h
 obtain ⟨b, hb⟩ := kg_some a0 a1 a2 a3
 rw [hb] at h
 simp only [Option.bind_some] at h
 cases b with
 | false => simp at h
 | true =>
  rw [if_pos rfl] at h
  by_cases h1 : x.f1 = true
  ·
   rw [if_pos h1] at h
   simp only [Option.some.injEq, Bool.and_eq_true, beq_iff_eq] at h
   exact ⟨fun _ => h, fun z => by rw [h1] at z; cases z⟩
  ·
   rw [if_neg h1] at h
   refine ⟨fun z => absurd z h1, fun _ => ?_⟩
   by_cases h2 : x.f2 = 0
   ·
    exact h2
   ·
    rw [if_neg h2] at h; cases h
theorem good_eq {x y : S35} (hx : (x.f1 = true → x.f3.f0 = 0 ∧ x.f3.f1 = 0 ∧ x.f3.f2.toList = []) ∧ (x.f1 = false → x.f2 = 0)) (hy : (y.f1 = true → y.f3.f0 = 0 ∧ y.f3.f1 = 0 ∧ y.f3.f2.toList = []) ∧ (y.f1 = false → y.f2 = 0)) :
  cmpV x y = 0 ↔ x.f0 = y.f0 ∧ x.f1 = y.f1 ∧ x.f2 = y.f2 ∧ x.f3.f0 = y.f3.f0 ∧ x.f3.f1 = y.f3.f1 ∧ x.f3.f2.toList = y.f3.f2.toList := by
 rw [cmpV_zero]
 obtain ⟨x0, x1, x2, x3, x4, x5⟩ := x
 obtain ⟨y0, y1, y2, y3, y4, y5⟩ := y
 cases x1 <;> cases y1 <;> simp_all [v1, v2, v3]
theorem bytes_ext {a b : ByteArray} (h : a.toList = b.toList) : a = b := by
 rw [Lib.toList_data, Lib.toList_data] at h
 cases a; cases b
 simp only [ByteArray.mk.injEq]
 exact Array.toList_inj.1 h
theorem good_same {x y : S35} (hx : (x.f1 = true → x.f3.f0 = 0 ∧ x.f3.f1 = 0 ∧ x.f3.f2.toList = []) ∧ (x.f1 = false → x.f2 = 0)) (hy : (y.f1 = true → y.f3.f0 = 0 ∧ y.f3.f1 = 0 ∧ y.f3.f2.toList = []) ∧ (y.f1 = false → y.f2 = 0))
  (h : cmpV x y = 0) : x = y := by
 obtain ⟨h0, h1, h2, h3, h4, h5⟩ := (good_eq hx hy).1 h
 obtain ⟨x0, x1, x2, x3, x4, x5⟩ := x
 obtain ⟨y0, y1, y2, y3, y4, y5⟩ := y
 have h6 := bytes_ext h5
 clear h5
 simp only at h0 h1 h2 h3 h4 h6
 subst h0; subst h1; subst h2; subst h3; subst h4; subst h6
 rfl
theorem join_or (x y : S35) : joinV x y = x ∨ joinV x y = y := by unfold joinV; split <;> simp
theorem join_ge (x y : S35) : 0 ≤ cmpV (joinV x y) x ∧ 0 ≤ cmpV (joinV x y) y := by
 have a := cmpV_cmp.anti x y
 unfold joinV
 split
 ·
  rw [cmpV_cmp.refl y]; omega
 ·
  rw [cmpV_cmp.refl x]; omega
def goodB (c : S37) : Bool := (cell_Good.f c.f0.f0 c.f0.f1 c.f0.f2 c.f0.f3 c.f1.f0 c.f1.f1 c.f1.f2 c.f1.f3.f0 c.f1.f3.f1 c.f1.f3.f2).getD false
theorem good_f (c : S37) : cell_Good.f c.f0.f0 c.f0.f1 c.f0.f2 c.f0.f3 c.f1.f0 c.f1.f1 c.f1.f2 c.f1.f3.f0 c.f1.f3.f1 c.f1.f3.f2 = some (goodB c) := by
 obtain ⟨b, hb⟩ := cg_some c.f0.f0 c.f0.f1 c.f0.f2 c.f0.f3 c.f1
 unfold goodB
 rw [hb]; rfl
def PG (c : S37) : Prop := goodB c = true
def verC (a b : S37) : Int := cmpV a.f1 b.f1
theorem verC_cmp : Cmp3 verC := cmpV_cmp.on (fun a : S37 => a.f1)
theorem key_same {x y : S31} (h : cmpK x y = 0) : x = y := by
 simp only [cmpK, lex_zero, cs_zero, ci_zero] at h
 obtain ⟨h0, h1, h2, h3⟩ := h
 obtain ⟨x0, x1, x2, x3⟩ := x
 obtain ⟨y0, y1, y2, y3⟩ := y
 have e0 := bytes_ext h0; have e1 := bytes_ext h1; have e3 := bytes_ext h3
 simp only at h2 e0 e1 e3
 subst e0; subst e1; subst h2; subst e3; rfl
theorem gdC : Gd cmpK keyC joinC verC PG where
 cc := cmpK_cmp
 vv := verC_cmp
 hj := joinC_key
 or := fun a b h _ _ => by
  have hk := key_same h
  unfold joinC
  rcases join_or a.f1 b.f1 with e | e
  ·
   exact .inl (by rw [e])
  ·
   exact .inr (by rw [e, show a.f0 = b.f0 from hk])
 ge := fun a b => join_ge a.f1 b.f1
 eq := fun a b h ha hb hv => by
  have hk := key_same h
  have ga := cg_true ((good_f a).trans (congrArg some ha))
  have gb := cg_true ((good_f b).trans (congrArg some hb))
  have := good_same ga gb hv
  obtain ⟨a0, a1⟩ := a
  obtain ⟨b0, b1⟩ := b
  simp only [keyC] at hk this
  rw [hk, this]
end Go.Proofs.Ytlffkbcaphhldaa.Pl
namespace Go.Proofs.Ytlffkbcaphhldaa.Sk
open Go Go.RowKit Go.Lib Go.Proofs Go.Proofs.YtlffkbcaphhldaaW.PrintWords Go.Proofs.YtlffkbcaphhldaaW.PrintLast Go.Proofs.YtlffkbcaphhldaaW.PrintMore Go.Proofs.Ytlffkbcaphhldaa.Q Go.Proofs.Ytlffkbcaphhldaa.Pl Go.Proofs.Ytlffkbcaphhldaa.Ord Go.Proofs.Ytlffkbcaphhldaa.Nm
set_option linter.unusedVariables false
set_option linter.unusedSimpArgs false
theorem has_lk {T : List Tw} (hU : Up T) (k : Ky) : hasT T k ↔ (lk cmpK keyC k (cellsT T)).isSome = true := by
 constructor
 ·
  rintro ⟨h1, h2⟩
  unfold lk
  rw [List.find?_isSome]
  have h3 : (cellsT T)[Sk.below T k]? = some (tg T (Sk.below T k + 1)).c := cells_get (Nat.succ_pos _) h1
  exact ⟨_, List.mem_of_getElem? h3, by simpa [keyC] using h2⟩
 ·
  intro h
  obtain ⟨y, hy⟩ := Option.isSome_iff_exists.1 h
  obtain ⟨hm, h0⟩ := lk_some hy
  obtain ⟨i, hi, rfl⟩ := List.getElem_of_mem hm
  rw [cells_len] at hi
  have hp : i + 1 < T.length := by omega
  have h3 : (cellsT T)[i]? = some (tg T (i + 1)).c := cells_get (Nat.succ_pos _) hp
  have h4 : (cellsT T)[i]'(by rw [cells_len]; exact hi) = (tg T (i + 1)).c := by
   rw [List.getElem?_eq_getElem (by rw [cells_len]; exact hi)] at h3
   injection h3
  rw [h4] at h0
  have h0 : cmpK (tg T (i + 1)).c.f0 k = 0 := h0
  have h5 : cmpK (tg T (i + 1)).c.f0 k < 0 ↔ i + 1 ≤ Sk.below T k := below_iff hU k (Nat.succ_pos i) hp
  have hlt : Sk.below T k + 1 < T.length := by
   have := below_le T k
   have : ¬ i + 1 ≤ Sk.below T k := fun h => by have := h5.2 h; omega
   omega
  refine ⟨hlt, ?_⟩
  have h6 : cmpK (tg T (Sk.below T k + 1)).c.f0 k < 0 ↔ Sk.below T k + 1 ≤ Sk.below T k := below_iff hU k (Nat.succ_pos _) hlt
  by_cases e : i = Sk.below T k
  ·
   rw [← e]; exact h0
  ·
   have hgt : Sk.below T k + 1 < i + 1 := by
    have : ¬ i + 1 ≤ Sk.below T k := fun h => by have := h5.2 h; omega
    omega
   have h7 : cmpK (tg T (Sk.below T k + 1)).c.f0 (tg T (i + 1)).c.f0 < 0 := up_get hU (Nat.succ_pos _) hgt hp
   have h8 := cmpK_cmp.trans (tg T (Sk.below T k + 1)).c.f0 (tg T (i + 1)).c.f0 k (by omega) (by omega)
   have h9 : ¬ cmpK (tg T (Sk.below T k + 1)).c.f0 k < 0 := fun h => by have := h6.1 h; omega
   omega
theorem get_lk {T : List Tw} (hU : Up T) (k : Ky) (hh : hasT T k) : lk cmpK keyC k (cellsT T) = some (tg T (Sk.below T k + 1)).c := by
 obtain ⟨y, hy⟩ := Option.isSome_iff_exists.1 ((has_lk hU k).1 hh)
 rw [hy]
 have hm : (tg T (Sk.below T k + 1)).c ∈ cellsT T := List.mem_of_getElem? (cells_get (Nat.succ_pos _) hh.1 : (cellsT T)[Sk.below T k]? = _)
 obtain ⟨h1, h2⟩ := lk_some hy
 have h3 := lk_mem cmpK_cmp hU hm
 have h4 := lk_mem cmpK_cmp hU h1
 have e : cmpK (keyC y) (keyC (tg T (Sk.below T k + 1)).c) = 0 := same_key cmpK_cmp h2 hh.2
 by_cases heq : y = (tg T (Sk.below T k + 1)).c
 ·
  rw [heq]
 ·
  exfalso
  have e2 : keyC y = keyC (tg T (Sk.below T k + 1)).c := key_same e
  rw [e2, h3] at h4
  injection h4 with h4
  exact heq h4.symm
def hisP (C : List Cl) (H : List Int) (lv : List Int) (x : Cl) : List Int :=
 if (lk cmpK keyC x.f0 C).isSome = true then H else H.take (C.filter fun y => decide (cmpK y.f0 x.f0 < 0)).length ++ htv lv C.length :: H.drop (C.filter fun y => decide (cmpK y.f0 x.f0 < 0)).length
theorem put_hisP {T : List Tw} (hU : Up T) (h0 : 0 < T.length) (lv : List Int) (x : Cl) (b : Nat) : hisT (putT T lv x b) = hisP (cellsT T) (hisT T) lv x := by
 unfold hisP
 rw [low_len, cells_len]
 by_cases hh : hasT T x.f0
 ·
  rw [if_pos ((has_lk hU _).1 hh), (put_his h0 lv x b).1 hh]
 ·
  rw [if_neg fun h => hh ((has_lk hU _).2 h), (put_his h0 lv x b).2 hh]
end Go.Proofs.Ytlffkbcaphhldaa.Sk
namespace Go.Proofs.Ytlffkbcaphhldaa.Sk
open Go Go.RowKit Go.Lib Go.Proofs Go.Proofs.YtlffkbcaphhldaaW.PrintWords Go.Proofs.YtlffkbcaphhldaaW.PrintLast Go.Proofs.YtlffkbcaphhldaaW.PrintMore Go.Proofs.Ytlffkbcaphhldaa.Q Go.Proofs.Ytlffkbcaphhldaa.Pl Go.Proofs.Ytlffkbcaphhldaa.Ord Go.Proofs.Ytlffkbcaphhldaa.Nm
set_option linter.unusedVariables false
set_option linter.unusedSimpArgs false
def stp (lv : List Int) (p : List Cl × List Int) (x : Cl) : List Cl × List Int := if goodB x = true then (add cmpK keyC joinC x p.1, hisP p.1 p.2 lv x) else p
def Ps (lv : List Int) (l : List Cl) : List Cl × List Int := l.foldl (stp lv) ([], [])
theorem Ps_snoc (lv : List Int) {l : List Cl} {i : Nat} (hi : i < l.length) : Ps lv (l.take (i + 1)) = stp lv (Ps lv (l.take i)) l[i] := by
 unfold Ps
 rw [List.take_succ_eq_append_getElem hi, List.foldl_append]; rfl
theorem run_cells (lv : List Int) : ∀ (l : List Cl) (p : List Cl × List Int), (l.foldl (stp lv) p).1 = (l.filter goodB).foldl (fun s x => add cmpK keyC joinC x s) p.1
 | [], p => rfl
 | x :: l, p => by
  rw [List.foldl_cons, run_cells lv l]
  unfold stp
  by_cases h : goodB x = true
  ·
   rw [if_pos h, List.filter_cons, if_pos h, List.foldl_cons]
  ·
   rw [if_neg h, List.filter_cons, if_neg h]
theorem Ps_cells (lv : List Int) (l : List Cl) : (Ps lv l).1 = normC (l.filter goodB) := run_cells lv l _
theorem Ps_len (lv : List Int) (l : List Cl) : (Ps lv l).1.length ≤ l.length := by
 rw [Ps_cells]
 exact Nat.le_trans (norm_len _) (List.length_filter_le _ _)
def gv (k : Ky) (C : List Cl) : S35 × Bool := match lk cmpK keyC k C with | some y => (y.f1, true) | none => (z35, false)
end Go.Proofs.Ytlffkbcaphhldaa.Sk
