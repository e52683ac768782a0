/- Norm: the program's and the document's. -/
import Derived.Test.YtafhnjlihhfoaaaUdQx26
import Derived.Test.YtafhnjlihhfoaaaUdQx0
import Derived.Test.YtafhnjlihhfoaaaUdJ31
import Derived.Test.YtafhnjlihhfoaaaUdJ38
import Derived.Test.YtafhnjlihhfoaaaUdNormT
import Derived.Test.YtafhnjlihhfoaaaUdQx53
import Derived.Test.YtafhnjlihhfoaaaUdNormG
namespace Go.Proofs.Ytafhnjlihhfoaaa.Pl
open Go Go.RowKit Go.Proofs.YtafhnjlihhfoaaaW.PrintWords Go.Proofs.Ytafhnjlihhfoaaa.Q Go.Proofs.Ytafhnjlihhfoaaa.Ord Go.Proofs.Ytafhnjlihhfoaaa.Nm
def keyC (x : S38) : S32 := x.f0
def joinC (a b : S38) : S38 := ⟨a.f0, joinV a.f1 b.f1⟩
theorem joinC_key (a b : S38) : keyC (joinC a b) = keyC a := rfl
abbrev normC (l : List (S38)) : List (S38) := norm cmpK keyC joinC l
theorem ltC_eq : ltC = ltK cmpK keyC := rfl
theorem rd_cell (l : List (S38)) (i : Nat) (hi : i < l.length) : rd_T38 l (i : Int) = l[i] := by
 unfold rd_T38; simp [List.getD_eq_getElem?_getD, List.getElem?_eq_getElem hi]
theorem next_n {i n : Nat} (hi : i < n) (hn : n ≤ 1256584717400) : wrap64 ((i : Int) + 1) = ((i + 1 : Nat) : Int) := by unfold wrap64; omega
theorem last_n {n : Nat} (hn : n ≤ 1256584717458) : wrap64 (((n + 1 : Nat) : Int) - 1) = (n : Int) := by unfold wrap64; omega
theorem norm2_f (x y : S38) : cell_Norm_2.f x.f0.f0 x.f0.f1 x.f0.f2 x.f0.f3 x.f1.f0 x.f1.f1 x.f1.f2 x.f1.f3.f0 x.f1.f3.f1 x.f1.f3.f2 y.f0.f0 y.f0.f1 y.f0.f2 y.f0.f3 y.f1.f0 y.f1.f1 y.f1.f2 y.f1.f3.f0 y.f1.f3.f1 y.f1.f3.f2 = some (cmpK x.f0 y.f0 == 0) := by
 unfold cell_Norm_2.f; rw [keyB_cmp]
theorem norm3_f (k : Nat) (hk : 5 ≤ k) (x y : S38) : cell_Norm_3.f k x.f0.f0 x.f0.f1 x.f0.f2 x.f0.f3 x.f1.f0 x.f1.f1 x.f1.f2 x.f1.f3.f0 x.f1.f3.f1 x.f1.f3.f2 y.f0.f0 y.f0.f1 y.f0.f2 y.f0.f3 y.f1.f0 y.f1.f1 y.f1.f2 y.f1.f3.f0 y.f1.f3.f1 y.f1.f3.f2 =
  some (x.f0.f0, x.f0.f1, x.f0.f2, x.f0.f3, tupV (joinV x.f1 y.f1)) := by
 unfold cell_Norm_3.f; rw [join_f k hk]; rfl
theorem fold_l0 (l : List (S38)) (hl : l.length ≤ 1256584717400) : ∀ (d i k : Nat) (p : List (S38)) (acc : S38), i + d = l.length → d + 5 < k → p.length + d < 1256584717400 →
  api_Cell_45.l0 k (p ++ [acc]) l (l.length : Int) (i : Int) = some (p ++ grp cmpK keyC joinC acc (l.drop i))
 | d, i, 0, p, acc, _, hk, _ => by omega
 | 0, i, k + 1, p, acc, hd, hk, _ => by
  rw [api_Cell_45.l0, if_neg (by omega), List.drop_eq_nil_of_le (by omega)]; rfl
 | d + 1, i, k + 1, p, acc, hd, hk, hp => by
  have hi : i < l.length := by omega
  obtain ⟨c, hc⟩ : ∃ c, l[i] = c := ⟨_, rfl⟩
  have hrd : rd_T38 l (i : Int) = c := (rd_cell l i hi).trans hc
  have hlen : ((p ++ [acc]).length : Int) = ((p.length + 1 : Nat) : Int) := by rw [List.length_append]; rfl
  have hla := last_n (n := p.length) (by omega)
  have hrl : rd_T38 (p ++ [acc]) (p.length : Int) = acc := by rw [rd_cell _ _ (by rw [List.length_append, List.length_singleton]; omega)]; simp
  have hdr : l.drop i = c :: l.drop (i + 1) := by rw [List.drop_eq_getElem_cons hi, hc]
  rw [api_Cell_45.l0]
  simp only [hlen, hla, hrl, hrd, next_n hi hl]
  rw [if_pos (by omega), if_pos (by omega), if_pos (by omega), if_pos (by omega), if_pos (by omega), if_pos (by omega), norm2_f, Option.bind_some, hdr]
  by_cases e : cmpK acc.f0 c.f0 = 0
  ·
   rw [if_pos (by rw [e]; rfl), norm3_f k (by omega), Option.bind_some]
   have hset : ∀ v : S38, (p ++ [acc]).set ((p.length : Int)).toNat v = p ++ [v] := fun v => by simp
   rw [hset]
   rw [grp_same _ (show cmpK (keyC acc) (keyC c) = 0 from e)]
   exact fold_l0 l hl d (i + 1) k p (joinC acc c) (by omega) (by omega) (by omega)
  ·
   rw [if_neg (by simp [e]), if_pos (by rw [List.length_append, List.length_singleton]; omega), grp_other _ (show ¬ cmpK (keyC acc) (keyC c) = 0 from e)]
   have := fold_l0 l hl d (i + 1) k (p ++ [acc]) c (by omega) (by omega) (by rw [List.length_append, List.length_singleton]; omega)
   rw [show p ++ acc :: grp cmpK keyC joinC c (l.drop (i + 1)) = p ++ [acc] ++ grp cmpK keyC joinC c (l.drop (i + 1)) by simp]
   exact this
theorem fold_f (l : List (S38)) (hl : l.length ≤ 1256584717399) (k : Nat) (hk : l.length + 6 < k) : api_Cell_45.f k l = some (fold1 cmpK keyC joinC l) := by
 unfold api_Cell_45.f
 obtain ⟨k, rfl⟩ : ∃ n, k = n + 1 := ⟨k - 1, by omega⟩
 rw [api_Cell_45.l0]
 cases l with
 | nil => rfl
 | cons x l =>
  have hrd : rd_T38 (x :: l) (0 : Int) = x := rfl
  have h1 : wrap64 ((0 : Int) + 1) = ((1 : Nat) : Int) := by unfold wrap64; omega
  simp only [hrd, h1]
  rw [if_pos (by simp), if_pos (by omega), if_pos (by simp), if_neg (by simp), if_pos (by simp)]
  have := fold_l0 (x :: l) (by omega) l.length 1 k [] x (by simp; omega) (by simp at hk; omega) (by simp at hl ⊢; omega)
  exact this
theorem norm_f (l : List (S38)) (hl : l.length ≤ 1000000000000) (k : Nat) (hk : l.length + 6 < k) : cell_Norm.f k l = some (normC l) := by
 have hs := isort_len ltC ltC_ord l
 unfold cell_Norm.f api_Cell_41.f api_Cell_42.f api_Cell_64.f
 rw [if_pos (by omega), Option.bind_some, if_pos ⟨rfl, by omega⟩, Option.bind_some, Option.bind_some, fold_f _ (by omega) k (by omega), Option.bind_some, ltC_eq, fold1_isort cmpK_cmp joinC_key]
end Go.Proofs.Ytafhnjlihhfoaaa.Pl
namespace Go.Proofs.Ytafhnjlihhfoaaa.Pl
open Go Go.RowKit Go.Proofs.YtafhnjlihhfoaaaW.PrintWords Go.Proofs.Ytafhnjlihhfoaaa.Q Go.Proofs.Ytafhnjlihhfoaaa.Ord Go.Proofs.Ytafhnjlihhfoaaa.Nm
theorem kg_some (a0 a1 : ByteArray) (a2 : Int) (a3 : ByteArray) : ∃ b, key_Good.f a0 a1 a2 a3 = some b := by
 unfold key_Good.f key_Name.f
 simp only [Option.bind_some]
 repeat' split
 all_goals exact ⟨_, rfl⟩
theorem cg_some (a0 a1 : ByteArray) (a2 : Int) (a3 : ByteArray) (x : S36) : ∃ b, cell_Good.f a0 a1 a2 a3 x.f0 x.f1 x.f2 x.f3.f0 x.f3.f1 x.f3.f2 = some b := by
 unfold cell_Good.f
 obtain ⟨b, hb⟩ := kg_some a0 a1 a2 a3
 rw [hb]
 simp only [Option.bind_some]
 repeat' split
 all_goals exact ⟨_, rfl⟩
theorem cg_true {a0 a1 : ByteArray} {a2 : Int} {a3 : ByteArray} {x : S36} (h : cell_Good.f a0 a1 a2 a3 x.f0 x.f1 x.f2 x.f3.f0 x.f3.f1 x.f3.f2 = some true) :
  (x.f1 = true → x.f3.f0 = 0 ∧ x.f3.f1 = 0 ∧ x.f3.f2.toList = []) ∧ (x.f1 = false → x.f2 = 0) := by
 unfold cell_Good.f at h
 obtain ⟨b, hb⟩ := kg_some a0 a1 a2 a3
 rw [hb] at h
 simp only [Option.bind_some] at h
 cases b with
 | false => simp at h
 | true =>
  rw [if_pos rfl] at h
  by_cases h1 : x.f1 = true
  ·
   rw [if_pos h1] at h
   simp only [Option.some.injEq, Bool.and_eq_true, beq_iff_eq] at h
   exact ⟨fun _ => h, fun z => by rw [h1] at z; cases z⟩
  ·
   rw [if_neg h1] at h
   refine ⟨fun z => absurd z h1, fun _ => ?_⟩
   by_cases h2 : x.f2 = 0
   ·
    exact h2
   ·
    rw [if_neg h2] at h; cases h
theorem good_eq {x y : S36} (hx : (x.f1 = true → x.f3.f0 = 0 ∧ x.f3.f1 = 0 ∧ x.f3.f2.toList = []) ∧ (x.f1 = false → x.f2 = 0)) (hy : (y.f1 = true → y.f3.f0 = 0 ∧ y.f3.f1 = 0 ∧ y.f3.f2.toList = []) ∧ (y.f1 = false → y.f2 = 0)) :
  cmpV x y = 0 ↔ x.f0 = y.f0 ∧ x.f1 = y.f1 ∧ x.f2 = y.f2 ∧ x.f3.f0 = y.f3.f0 ∧ x.f3.f1 = y.f3.f1 ∧ x.f3.f2.toList = y.f3.f2.toList := by
 rw [cmpV_zero]
 obtain ⟨x0, x1, x2, x3, x4, x5⟩ := x
 obtain ⟨y0, y1, y2, y3, y4, y5⟩ := y
 cases x1 <;> cases y1 <;> simp_all [v1, v2, v3]
theorem bytes_ext {a b : ByteArray} (h : a.toList = b.toList) : a = b := by
 rw [Lib.toList_data, Lib.toList_data] at h
 cases a; cases b
 simp only [ByteArray.mk.injEq]
 exact Array.toList_inj.1 h
theorem good_same {x y : S36} (hx : (x.f1 = true → x.f3.f0 = 0 ∧ x.f3.f1 = 0 ∧ x.f3.f2.toList = []) ∧ (x.f1 = false → x.f2 = 0)) (hy : (y.f1 = true → y.f3.f0 = 0 ∧ y.f3.f1 = 0 ∧ y.f3.f2.toList = []) ∧ (y.f1 = false → y.f2 = 0))
  (h : cmpV x y = 0) : x = y := by
 obtain ⟨h0, h1, h2, h3, h4, h5⟩ := (good_eq hx hy).1 h
 obtain ⟨x0, x1, x2, x3, x4, x5⟩ := x
 obtain ⟨y0, y1, y2, y3, y4, y5⟩ := y
 have h6 := bytes_ext h5
 clear h5
 simp only at h0 h1 h2 h3 h4 h6
 subst h0; subst h1; subst h2; subst h3; subst h4; subst h6
 rfl
theorem join_or (x y : S36) : joinV x y = x ∨ joinV x y = y := by unfold joinV; split <;> simp
theorem join_ge (x y : S36) : 0 ≤ cmpV (joinV x y) x ∧ 0 ≤ cmpV (joinV x y) y := by
 have a := cmpV_cmp.anti x y
 unfold joinV
 split
 ·
  rw [cmpV_cmp.refl y]; omega
 ·
  rw [cmpV_cmp.refl x]; omega
def goodB (c : S38) : Bool := (cell_Good.f c.f0.f0 c.f0.f1 c.f0.f2 c.f0.f3 c.f1.f0 c.f1.f1 c.f1.f2 c.f1.f3.f0 c.f1.f3.f1 c.f1.f3.f2).getD false
theorem good_f (c : S38) : cell_Good.f c.f0.f0 c.f0.f1 c.f0.f2 c.f0.f3 c.f1.f0 c.f1.f1 c.f1.f2 c.f1.f3.f0 c.f1.f3.f1 c.f1.f3.f2 = some (goodB c) := by
 obtain ⟨b, hb⟩ := cg_some c.f0.f0 c.f0.f1 c.f0.f2 c.f0.f3 c.f1
 unfold goodB
 rw [hb]; rfl
def PG (c : S38) : Prop := goodB c = true
def verC (a b : S38) : Int := cmpV a.f1 b.f1
theorem verC_cmp : Cmp3 verC := cmpV_cmp.on (fun a : S38 => a.f1)
theorem key_same {x y : S32} (h : cmpK x y = 0) : x = y := by
 simp only [cmpK, lex_zero, cs_zero, ci_zero] at h
 obtain ⟨h0, h1, h2, h3⟩ := h
 obtain ⟨x0, x1, x2, x3⟩ := x
 obtain ⟨y0, y1, y2, y3⟩ := y
 have e0 := bytes_ext h0; have e1 := bytes_ext h1; have e3 := bytes_ext h3
 simp only at h2 e0 e1 e3
 subst e0; subst e1; subst h2; subst e3; rfl
theorem gdC : Gd cmpK keyC joinC verC PG where
 cc := cmpK_cmp
 vv := verC_cmp
 hj := joinC_key
 or := fun a b h _ _ => by
  have hk := key_same h
  unfold joinC
  rcases join_or a.f1 b.f1 with e | e
  ·
   exact .inl (by rw [e])
  ·
   exact .inr (by rw [e, show a.f0 = b.f0 from hk])
 ge := fun a b => join_ge a.f1 b.f1
 eq := fun a b h ha hb hv => by
  have hk := key_same h
  have ga := cg_true ((good_f a).trans (congrArg some ha))
  have gb := cg_true ((good_f b).trans (congrArg some hb))
  have := good_same ga gb hv
  obtain ⟨a0, a1⟩ := a
  obtain ⟨b0, b1⟩ := b
  simp only [keyC] at hk this
  rw [hk, this]
end Go.Proofs.Ytafhnjlihhfoaaa.Pl
