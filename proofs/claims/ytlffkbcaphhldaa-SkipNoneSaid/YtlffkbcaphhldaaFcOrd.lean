/- Three-way comparisons: whole numbers, texts, one after another. Plain lemmas, no program in sight. -/
import Derived.Lib.ConvBytes
namespace Go.Proofs.Ytlffkbcaphhldaa.Ord
open Go
set_option linter.unusedVariables false
set_option linter.unusedSimpArgs false
structure Cmp3 {α : Type} (c : α → α → Int) : Prop where
 anti : ∀ x y, c x y = - c y x
 trans : ∀ x y z, c x y ≤ 0 → c y z ≤ 0 → c x z ≤ 0
theorem Cmp3.refl {α : Type} {c : α → α → Int} (h : Cmp3 c) (x : α) : c x x = 0 := by have := h.anti x x; omega
def lex {α : Type} (c d : α → α → Int) (x y : α) : Int := if c x y = 0 then d x y else c x y
theorem Cmp3.lex {α : Type} {c d : α → α → Int} (hc : Cmp3 c) (hd : Cmp3 d) : Cmp3 (lex c d) := by
 refine ⟨fun x y => ?_, fun x y z h1 h2 => ?_⟩
 ·
  have := hc.anti x y; have := hd.anti x y
  unfold Ord.lex
  split <;> split <;> omega
 ·
  have a1 := hc.anti x y; have a2 := hc.anti y z; have a3 := hc.anti x z
  have t1 := hc.trans x y z; have t2 := hc.trans z x y; have t3 := hc.trans y z x
  have d1 := hd.trans x y z
  unfold Ord.lex at h1 h2 ⊢
  by_cases e1 : c x y = 0 <;> by_cases e2 : c y z = 0 <;> by_cases e3 : c x z = 0 <;> simp only [e1, e2, e3, if_true, if_false] at h1 h2 ⊢ <;> omega
theorem Cmp3.on {α β : Type} {c : β → β → Int} (h : Cmp3 c) (f : α → β) : Cmp3 (fun x y => c (f x) (f y)) := ⟨fun _ _ => h.anti _ _, fun _ _ _ => h.trans _ _ _⟩
def ci (a b : Int) : Int := if a < b then -1 else if b < a then 1 else 0
theorem ci_cmp : Cmp3 ci := by
 refine ⟨fun x y => ?_, fun x y z => ?_⟩ <;> unfold ci <;> repeat' split
 all_goals omega
theorem ci_zero {a b : Int} : ci a b = 0 ↔ a = b := by unfold ci; split <;> (try split) <;> omega
theorem less_irrefl : ∀ x : List UInt8, Op.bytesLess x x = false
 | [] => by simp [Op.bytesLess]
 | a :: x => by simp [Op.bytesLess, less_irrefl x]
theorem less_asymm : ∀ x y : List UInt8, Op.bytesLess x y = true → Op.bytesLess y x = false
 | [], [], h => by simp [Op.bytesLess] at h
 | [], _ :: _, _ => by simp [Op.bytesLess]
 | _ :: _, [], h => by simp [Op.bytesLess] at h
 | a :: x, b :: y, h => by
  simp only [Op.bytesLess, Bool.or_eq_true, decide_eq_true_eq, Bool.and_eq_true, beq_iff_eq] at h
  simp only [Op.bytesLess, Bool.or_eq_false_iff, decide_eq_false_iff_not, Bool.and_eq_false_iff]
  rcases h with h | ⟨rfl, h⟩
  ·
   refine ⟨fun h' => ?_, .inl ?_⟩
   ·
    exact absurd (UInt8.lt_trans h h') (UInt8.lt_irrefl _)
   ·
    simp only [beq_eq_false_iff_ne]; rintro rfl; exact UInt8.lt_irrefl _ h
  ·
   exact ⟨UInt8.lt_irrefl _, .inr (less_asymm x y h)⟩
theorem less_total : ∀ x y : List UInt8, Op.bytesLess x y = true ∨ x = y ∨ Op.bytesLess y x = true
 | [], [] => .inr (.inl rfl)
 | [], _ :: _ => .inl (by simp [Op.bytesLess])
 | _ :: _, [] => .inr (.inr (by simp [Op.bytesLess]))
 | a :: x, b :: y => by
  simp only [Op.bytesLess, Bool.or_eq_true, decide_eq_true_eq, Bool.and_eq_true, beq_iff_eq, List.cons.injEq]
  by_cases h : a < b
  ·
   exact .inl (.inl h)
  by_cases h' : b < a
  ·
   exact .inr (.inr (.inl h'))
  have e : a = b := by
   have h1 := UInt8.not_lt.1 h; have h2 := UInt8.not_lt.1 h'
   exact UInt8.le_antisymm h2 h1
  subst e
  rcases less_total x y with h1 | h1 | h1
  ·
   exact .inl (.inr ⟨rfl, h1⟩)
  ·
   exact .inr (.inl ⟨rfl, h1⟩)
  ·
   exact .inr (.inr (.inr ⟨rfl, h1⟩))
theorem less_trans : ∀ x y z : List UInt8, Op.bytesLess x y = true → Op.bytesLess y z = true → Op.bytesLess x z = true
 | [], y, [], h1, h2 => by cases y <;> simp [Op.bytesLess] at h1 h2
 | [], _, _ :: _, _, _ => by simp [Op.bytesLess]
 | _ :: _, [], _, h1, _ => by simp [Op.bytesLess] at h1
 | _ :: _, _ :: _, [], _, h2 => by simp [Op.bytesLess] at h2
 | a :: x, b :: y, c :: z, h1, h2 => by
  simp only [Op.bytesLess, Bool.or_eq_true, decide_eq_true_eq, Bool.and_eq_true, beq_iff_eq] at h1 h2 ⊢
  rcases h1 with h1 | ⟨rfl, h1⟩ <;> rcases h2 with h2 | ⟨rfl, h2⟩
  ·
   exact .inl (UInt8.lt_trans h1 h2)
  ·
   exact .inl h1
  ·
   exact .inl h2
  ·
   exact .inr ⟨rfl, less_trans x y z h1 h2⟩
def cl (a b : List UInt8) : Int := if Op.bytesLess a b = true then -1 else if a = b then 0 else 1
theorem cl_zero {a b : List UInt8} : cl a b = 0 ↔ a = b := by
 unfold cl
 by_cases h : Op.bytesLess a b = true
 ·
  rw [if_pos h]; constructor
  ·
   intro h'; omega
  ·
   rintro rfl; rw [less_irrefl] at h; cases h
 ·
  rw [if_neg h]; split <;> simp_all
theorem cl_neg {a b : List UInt8} : cl a b < 0 ↔ Op.bytesLess a b = true := by
 unfold cl; split <;> (try split) <;> simp_all
theorem cl_cmp : Cmp3 cl := by
 have anti : ∀ x y, cl x y = - cl y x := fun x y => by
  rcases less_total x y with h | rfl | h
  ·
   have h' := less_asymm _ _ h
   have : y ≠ x := by rintro rfl; rw [less_irrefl] at h; cases h
   simp [cl, h, h', this]
  ·
   simp [cl, less_irrefl]
  ·
   have h' := less_asymm _ _ h
   have : x ≠ y := by rintro rfl; rw [less_irrefl] at h; cases h
   simp [cl, h, h', this]
 refine ⟨anti, fun x y z h1 h2 => ?_⟩
 have key : ∀ {u v}, cl u v ≤ 0 → Op.bytesLess u v = true ∨ u = v := fun {u v} h => by
  by_cases h0 : cl u v = 0
  ·
   exact .inr (cl_zero.1 h0)
  ·
   exact .inl (cl_neg.1 (by omega))
 rcases key h1 with h1 | rfl
 ·
  rcases key h2 with h2 | rfl
  ·
   have := cl_neg.2 (less_trans _ _ _ h1 h2); omega
  ·
   have := cl_neg.2 h1; omega
 ·
  exact h2
def cs (a b : ByteArray) : Int := cl a.toList b.toList
theorem cs_cmp : Cmp3 cs := cl_cmp.on _
theorem cs_zero {a b : ByteArray} : cs a b = 0 ↔ a.toList = b.toList := cl_zero
theorem lex_zero {α : Type} {c d : α → α → Int} {x y : α} : lex c d x y = 0 ↔ c x y = 0 ∧ d x y = 0 := by
 unfold lex; split <;> simp_all
end Go.Proofs.Ytlffkbcaphhldaa.Ord
