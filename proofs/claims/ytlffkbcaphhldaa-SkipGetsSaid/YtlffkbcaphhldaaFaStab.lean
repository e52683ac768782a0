/- A stable sort, told without how: what it makes is sorted, and what is alike stands as it stood. -/
import Derived.Shelf.SlSortCmp.KitK
namespace Go.Proofs.Ytlffkbcaphhldaa.Srt
open Go Go.RowKit Go.Sort
set_option linter.unusedVariables false
set_option linter.unusedSimpArgs false
variable {α : Type}
section stab
variable (lt : α → α → Bool)
structure WOrd : Prop where
 asym : ∀ x y, lt x y = true → lt y x = false
 tr : ∀ x y z, lt y x = false → lt z y = false → lt z x = false
def eqv (a b : α) : Bool := !lt a b && !lt b a
structure Stab (l r : List α) : Prop where
 perm : r.Perm l
 srt : r.Pairwise fun x y => lt y x = false
 flt : ∀ a, r.filter (eqv lt a) = l.filter (eqv lt a)
variable {lt}
theorem WOrd.irr (H : WOrd lt) (x : α) : lt x x = false := by
 cases h : lt x x
 ·
  rfl
 ·
  have := H.asym x x h; rw [h] at this; exact this
theorem eqv_self (H : WOrd lt) (x : α) : eqv lt x x = true := by simp [eqv, H.irr x]
theorem eqv_iff {a b : α} : eqv lt a b = true ↔ lt a b = false ∧ lt b a = false := by simp [eqv]
theorem Stab.refl {l : List α} (h : l.Pairwise fun x y => lt y x = false) : Stab lt l l := ⟨List.Perm.refl _, h, fun _ => rfl⟩
theorem unique (H : WOrd lt) : ∀ (r s : List α), (r.Pairwise fun x y => lt y x = false) → (s.Pairwise fun x y => lt y x = false) → (∀ a, r.filter (eqv lt a) = s.filter (eqv lt a)) → r = s
 | [], [], _, _, _ => rfl
 | [], y :: s, _, _, h => by
  have := h y
  rw [List.filter_cons_of_pos (by exact eqv_self H y)] at this
  cases this
 | x :: r, [], _, _, h => by
  have := h x
  rw [List.filter_cons_of_pos (by exact eqv_self H x)] at this
  cases this
 | x :: r, y :: s, hr, hs, h => by
  have hx : x ∈ (y :: s).filter (eqv lt x) := by rw [← h x]; exact List.mem_filter.2 ⟨List.mem_cons_self, eqv_self H x⟩
  have hy : y ∈ (x :: r).filter (eqv lt y) := by rw [h y]; exact List.mem_filter.2 ⟨List.mem_cons_self, eqv_self H y⟩
  have h1 : lt x y = false := by
   rcases List.mem_cons.1 (List.mem_filter.1 hx).1 with e | e
   ·
    rw [e]; exact H.irr y
   ·
    exact (List.pairwise_cons.1 hs).1 x e
  have h2 : lt y x = false := by
   rcases List.mem_cons.1 (List.mem_filter.1 hy).1 with e | e
   ·
    rw [e]; exact H.irr x
   ·
    exact (List.pairwise_cons.1 hr).1 y e
  have e := h x
  rw [List.filter_cons_of_pos (by exact eqv_self H x), List.filter_cons_of_pos (by exact eqv_iff.2 ⟨h1, h2⟩)] at e
  injection e with e1 _
  subst e1
  congr 1
  refine unique H r s (List.pairwise_cons.1 hr).2 (List.pairwise_cons.1 hs).2 fun a => ?_
  have e := h a
  cases ha : eqv lt a x
  ·
   rw [List.filter_cons_of_neg (by simp [ha]), List.filter_cons_of_neg (by simp [ha])] at e; exact e
  ·
   rw [List.filter_cons_of_pos ha, List.filter_cons_of_pos ha] at e; injection e
theorem Stab.eq (H : WOrd lt) {l r s : List α} (h : Stab lt l r) (h' : Stab lt l s) : r = s := unique H r s h.srt h'.srt fun a => (h.flt a).trans (h'.flt a).symm
theorem Stab.trans {l m r : List α} (h : Stab lt l m) (h' : Stab lt m r) : Stab lt l r := ⟨h'.perm.trans h.perm, h'.srt, fun a => (h'.flt a).trans (h.flt a)⟩
theorem Stab.length {l r : List α} (h : Stab lt l r) : r.length = l.length := h.perm.length_eq
theorem Stab.mem {l r : List α} (h : Stab lt l r) (x : α) : x ∈ r ↔ x ∈ l := h.perm.mem_iff
def ins (lt : α → α → Bool) (x : α) : List α → List α
 | [] => [x]
 | y :: l => if lt x y then x :: y :: l else y :: ins lt x l
end stab
section arr
variable [Inhabited α]
end arr
theorem part (l : List α) (i : Nat) (h : i ≤ l.length) : ∃ p q, l = p ++ q ∧ p.length = i := ⟨l.take i, l.drop i, (List.take_append_drop _ _).symm, by rw [List.length_take]; omega⟩
section chunks
variable (lt : α → α → Bool) (n : Nat)
inductive Chunks : List α → List α → Prop
 | last {l r : List α} : l.length ≤ n → Stab lt l r → Chunks l r
 | cons {l r ls rs : List α} : l.length = n → Stab lt l r → Chunks ls rs → Chunks (l ++ ls) (r ++ rs)
variable {lt n}
theorem Chunks.length {l r : List α} (h : Chunks lt n l r) : r.length = l.length := by
 induction h with
 | last _ h => exact h.length
 | cons _ h _ ih => rw [List.length_append, List.length_append, ih, h.length]
theorem Chunks.done {l r : List α} (h : Chunks lt n l r) (hl : l.length ≤ n) : Stab lt l r := by
 cases h with
 | last _ h => exact h
 | cons hn h hs =>
  rename_i l r ls rs
  have e : ls = [] := List.eq_nil_of_length_eq_zero (by rw [List.length_append] at hl; omega)
  have e' : rs = [] := List.eq_nil_of_length_eq_zero (by rw [hs.length, e]; rfl)
  subst e e'
  simpa using h
theorem Chunks.snoc {l r m s : List α} (h : Chunks lt n l r) (hl : n ∣ l.length) (hm : m.length ≤ n) (hs : Stab lt m s) : Chunks lt n (l ++ m) (r ++ s) := by
 induction h with
 | last hl' h =>
  rename_i l r
  rcases Nat.lt_or_ge l.length n with g | g
  ·
   have e : l = [] := List.eq_nil_of_length_eq_zero (Nat.eq_zero_of_dvd_of_lt hl g)
   subst e
   have e' : r = [] := List.eq_nil_of_length_eq_zero (by rw [h.length]; rfl)
   subst e'
   exact .last hm hs
  ·
   exact .cons (by omega) h (.last hm hs)
 | cons he h _ ih =>
  rw [List.append_assoc, List.append_assoc]
  refine .cons he h (ih ?_)
  rw [List.length_append, he] at hl
  exact (Nat.dvd_add_right (Nat.dvd_refl n)).1 hl
end chunks
section search
variable {lt : α → α → Bool}
end search
end Go.Proofs.Ytlffkbcaphhldaa.Srt
