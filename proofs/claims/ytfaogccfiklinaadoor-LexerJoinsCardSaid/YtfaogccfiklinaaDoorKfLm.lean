/- Lists of tokens, put together. -/
import Derived.Test.YtfaogccfiklinaaDoorKfLk
set_option linter.unusedVariables false
set_option linter.unusedSimpArgs false
namespace Go.Proofs.YtfaogccfiklinaaDoor.Pl
open Go.RowKit Go.Proofs.YtfaogccfiklinaaDoorW.PrintWords
open Go.Proofs.YtfaogccfiklinaaDoor.Q
inductive TL (s : ByteArray) : Nat → List S25 → Prop
 | fin {e : Nat} : Sk s e s.size → TL s e [⟨0, (⟨#[]⟩ : ByteArray), ⟨0, 0, (⟨#[]⟩ : ByteArray)⟩, (s.size : Int), (s.size : Int)⟩]
 | cons {e i j : Nat} {kd x y : Int} {S z : ByteArray} {l : List S25} : Sk s e i → i < j → j ≤ s.size → 1 ≤ kd → kd ≤ 4 → (kd = 1 → S = s.extract i j) → OneR s i (kd, S, x, y, z, (i : Int), (j : Int), (-1)) → TL s j l → TL s e (⟨kd, S, ⟨x, y, z⟩, (i : Int), (j : Int)⟩ :: l)
theorem NextR.inv {s : ByteArray} {a : Nat} {r : Tok9} (h : NextR s a r) : r.2.2.2.2.2.2.2.2 = 11 ∨ (Sk s a s.size ∧ r.1 = 0) ∨ (∃ i j : Nat, Sk s a i ∧ i < j ∧ j ≤ s.size ∧ OneR s i (r.1, r.2.1, r.2.2.1, r.2.2.2.1, r.2.2.2.2.1, (i : Int), (j : Int), (-1)) ∧ r.2.2.2.2.2.1 = (i : Int) ∧ r.2.2.2.2.2.2.1 = (j : Int)) := by
 cases h with
 | fin h => exact .inr (.inl ⟨h, rfl⟩)
 | @tok j q h1 h2 h3 =>
  have hf := h3.facts h2
  cases hf with
  | wrong p hp =>
   refine .inl ?_
   unfold next_end bad
   simp only
   rw [if_pos (by omega)]
  | tok kd S x y z e g1 g2 g3 g4 g5 => exact .inr (.inr ⟨j, e, h1, g1, g2, h3, rfl, rfl⟩)
theorem LexR.toks {s : ByteArray} {a : Nat} {l : List S25} {q : List S25 × Int × Int} (h : LexR s a l q) : q.2.2 = 0 → ∃ m, q.1 = l ++ m ∧ TL s a m := by
 induction h with
 | wrong _ _ => intro e; simp at e
 | @fin a l h1 =>
  intro _
  refine ⟨_, rfl, .fin ?_⟩
  rcases h1.inv with e | ⟨e, _⟩ | ⟨i, j, e1, e2, e3, e4, e5, e6⟩
  ·
   simp at e
  ·
   exact e
  ·
   exfalso; simp only at e5 e6; omega
 | @more a l kd S x y z i j q h1 g1 g2 g3 g4 g5 g6 _ ih =>
  intro e
  obtain ⟨m, e1, hm⟩ := ih e
  refine ⟨⟨kd, S, ⟨x, y, z⟩, (i : Int), (j : Int)⟩ :: m, by rw [e1]; simp, ?_⟩
  rcases h1.inv with e | ⟨_, e⟩ | ⟨i', j', e1, e2, e3, e4, e5, e6⟩
  ·
   simp at e
  ·
   simp only at e; omega
  ·
   simp only at e4 e5 e6
   obtain rfl : i = i' := by omega
   obtain rfl : j = j' := by omega
   exact .cons e1 g2 g3 g4 g5 g6 e4 hm
theorem TL.lex {s : ByteArray} {a : Nat} {m : List S25} (h : TL s a m) : ∀ l, a ≤ s.size → LexR s a l (l ++ m, 0, 0) := by
 induction h with
 | fin h => intro l _; exact .fin (.fin h)
 | @cons e i j kd x y S z t h1 g2 g3 g4 g5 g6 h3 _ ih =>
  intro l ha
  have hn : NextR s e (kd, S, x, y, z, (i : Int), (j : Int), 0, 0) := NextR.tok h1 (by omega) h3
  have := ih (l ++ [⟨kd, S, ⟨x, y, z⟩, (i : Int), (j : Int)⟩]) g3
  rw [List.append_assoc] at this
  exact .more hn (h1.le ha).1 g2 g3 g4 g5 g6 this
def mvT (d : Nat) (t : S25) : S25 := ⟨t.f0, t.f1, t.f2, t.f3 + (d : Int), t.f4 + (d : Int)⟩
theorem TL.tail {d : Nat} {b s : ByteArray} (hT : Tl d b s) {e : Nat} {m : List S25} (h : TL b e m) : TL s (d + e) (m.map (mvT d)) := by
 induction h with
 | @fin e h =>
  have := hT.sk h
  rw [← hT.size] at this
  have h2 := TL.fin this
  have e1 : (⟨0, (⟨#[]⟩ : ByteArray), ⟨0, 0, (⟨#[]⟩ : ByteArray)⟩, (s.size : Int), (s.size : Int)⟩ : S25) = mvT d ⟨0, (⟨#[]⟩ : ByteArray), ⟨0, 0, (⟨#[]⟩ : ByteArray)⟩, (b.size : Int), (b.size : Int)⟩ := by
   unfold mvT
   rw [hT.size]
   simp only [S25.mk.injEq, true_and]
   omega
  rw [e1] at h2
  exact h2
 | @cons e i j kd x y S z t h1 g2 g3 g4 g5 g6 h3 _ ih =>
  have ho := hT.one h3 (by simp only; omega)
  have e8 : mv8 d (kd, S, x, y, z, (i : Int), (j : Int), (-1)) = (kd, S, x, y, z, ((d + i : Nat) : Int), ((d + j : Nat) : Int), (-1)) := by
   unfold mv8
   simp only [Prod.mk.injEq, true_and, and_true]
   omega
  rw [e8] at ho
  have := TL.cons (hT.sk h1) (by omega) (by rw [hT.size]; omega) g4 g5 (fun e => by rw [hT.cut]; exact g6 e) ho ih
  have e1 : (⟨kd, S, ⟨x, y, z⟩, ((d + i : Nat) : Int), ((d + j : Nat) : Int)⟩ : S25) = mvT d ⟨kd, S, ⟨x, y, z⟩, (i : Int), (j : Int)⟩ := by
   unfold mvT
   simp only [S25.mk.injEq, true_and]
   omega
  rw [e1] at this
  exact this
theorem TL.pre {a s : ByteArray} (hH : Hd a s) {e : Nat} {m X : List S25} (h : TL a e m) (hX : TL s (a.size + 1) X) : e ≤ a.size → TL s e (m.dropLast ++ X) := by
 induction h with
 | @fin e h =>
  intro he
  show TL s e X
  cases hX with
  | fin hk => exact .fin (hH.skf h hk he rfl)
  | cons h1 g2 g3 g4 g5 g6 h3 ht => exact .cons (hH.skf h h1 he rfl) g2 g3 g4 g5 g6 h3 ht
 | @cons e i j kd x y S z t h1 g2 g3 g4 g5 g6 h3 ht ih =>
  intro he
  have hne : t ≠ [] := by cases ht <;> simp
  rw [List.dropLast_cons_of_ne_nil hne]
  have hlt := hH.lt
  exact .cons (hH.sk h1 he (by omega)) g2 (by omega) g4 g5 (fun e => by rw [hH.cut i j g3]; exact g6 e) (hH.one h3 (by omega) (by simp only; omega)) (ih g3)
theorem cb_list (s : ByteArray) (i : Nat) : cb s i = ((s.data.toList[i]?).map (fun b : UInt8 => b.toNat)).getD 0 := by
 unfold cb
 by_cases h : i < s.size
 ·
  have h2 : i < s.data.toList.length := by rw [Array.length_toList]; exact h
  rw [dif_pos h, List.getElem?_eq_getElem h2]
  rfl
 ·
  have h2 : s.data.toList.length ≤ i := by rw [Array.length_toList]; exact Nat.le_of_not_lt h
  rw [dif_neg h, List.getElem?_eq_none h2]
  rfl
theorem join_list (a b : ByteArray) : (a ++ (⟨#[10]⟩ : ByteArray) ++ b).data.toList = a.data.toList ++ ([10] ++ b.data.toList) := by
 rw [ByteArray.data_append, ByteArray.data_append, Array.toList_append, Array.toList_append, List.append_assoc]
theorem len_list (a : ByteArray) : a.data.toList.length = a.size := Array.length_toList ..
theorem join_size (a b : ByteArray) : (a ++ (⟨#[10]⟩ : ByteArray) ++ b).size = a.size + 1 + b.size := by rw [ByteArray.size_append, ByteArray.size_append]; rfl
theorem ext_list (s : ByteArray) (i j : Nat) : (s.extract i j).data.toList = (s.data.toList.drop i).take (j - i) := by
 rw [ByteArray.data_extract]
 simp [List.extract_eq_take_drop]
theorem ba_ext {a b : ByteArray} (h : a.data.toList = b.data.toList) : a = b := by
 apply ByteArray.ext
 exact Array.ext' h
theorem hd_of (a b : ByteArray) : Hd a (a ++ (⟨#[10]⟩ : ByteArray) ++ b) where
 lt := by rw [join_size]; omega
 same i h := by rw [cb_list, cb_list, join_list, List.getElem?_append_left (by rw [len_list]; exact h)]
 feed := by
  rw [cb_list, join_list, List.getElem?_append_right (by rw [len_list]; exact Nat.le_refl _), len_list, Nat.sub_self]
  rfl
 cut i j h := by
  apply ba_ext
  rw [ext_list, ext_list, join_list]
  have hl := len_list a
  by_cases hi : i ≤ a.size
  ·
   rw [List.drop_append_of_le_length (by omega), List.take_append_of_le_length (by rw [List.length_drop]; omega)]
  ·
   rw [show j - i = 0 by omega, List.take_zero, List.take_zero]
theorem drop_past (P B : List UInt8) (i : Nat) : (P ++ B).drop (P.length + i) = B.drop i := by
 induction P with
 | nil => simp
 | cons x P ih => rw [List.length_cons, show P.length + 1 + i = (P.length + i) + 1 by omega, List.cons_append, List.drop_succ_cons, ih]
theorem tl_of (a b : ByteArray) : Tl (a.size + 1) b (a ++ (⟨#[10]⟩ : ByteArray) ++ b) where
 size := join_size a b
 same i := by
  rw [cb_list, cb_list, join_list, List.getElem?_append_right (by rw [len_list]; omega), len_list, List.getElem?_append_right (by simp; omega)]
  congr 3
  simp
  omega
 cut i j := by
  apply ba_ext
  rw [ext_list, ext_list, join_list, ← List.append_assoc]
  have hl : (a.data.toList ++ [10]).length = a.size + 1 := by rw [List.length_append, len_list]; rfl
  rw [← hl, drop_past]
  congr 1
  omega
theorem TL.bound {s : ByteArray} {e : Nat} {l : List S25} (h : TL s e l) : ∀ t, t ∈ l → 0 ≤ t.f3 ∧ t.f3 ≤ (s.size : Int) ∧ 0 ≤ t.f4 ∧ t.f4 ≤ (s.size : Int) := by
 induction h with
 | fin _ => intro t ht; rw [List.mem_singleton] at ht; subst ht; simp only; omega
 | cons _ h2 h3 _ _ _ _ _ ih =>
  intro t ht
  rcases List.mem_cons.1 ht with rfl | e
  ·
   simp only; omega
  ·
   exact ih t e
theorem TL.some {s : ByteArray} {e : Nat} {l : List S25} (h : TL s e l) : 1 ≤ l.length := by cases h <;> simp
theorem TL.size {s : ByteArray} {e : Nat} {l : List S25} (h : TL s e l) : e ≤ s.size → l.length + e ≤ s.size + 1 := by
 induction h with
 | fin _ => intro h; simp; omega
 | @cons e i j kd x y S z t h1 h2 h3 _ _ _ _ _ ih => intro h; have := (h1.le h).1; have := ih h3; simp only [List.length_cons]; omega
theorem join_toks {a b : ByteArray} {m n : List S25} (ha : TL a 0 m) (hb : TL b 0 n) : TL (a ++ (⟨#[10]⟩ : ByteArray) ++ b) 0 (m.dropLast ++ n.map (mvT (a.size + 1))) := ha.pre (hd_of a b) (hb.tail (tl_of a b)) (by omega)
end Go.Proofs.YtfaogccfiklinaaDoor.Pl
