/- A stable sort, told without how: what it makes is sorted, and what is alike stands as it stood. -/
import Derived.Shelf.SlSortCmp.KitK
namespace Go.Proofs.Ytabiekkebdocnaa.Srt
open Go Go.RowKit Go.Sort
set_option linter.unusedVariables false
set_option linter.unusedSimpArgs false
variable {α : Type}
section stab
variable (lt : α → α → Bool)
structure WOrd : Prop where
 asym : ∀ x y, lt x y = true → lt y x = false
 tr : ∀ x y z, lt y x = false → lt z y = false → lt z x = false
def eqv (a b : α) : Bool := !lt a b && !lt b a
structure Stab (l r : List α) : Prop where
 perm : r.Perm l
 srt : r.Pairwise fun x y => lt y x = false
 flt : ∀ a, r.filter (eqv lt a) = l.filter (eqv lt a)
variable {lt}
theorem WOrd.irr (H : WOrd lt) (x : α) : lt x x = false := by
 cases h : lt x x
 ·
  rfl
 ·
  have := H.asym x x h; rw [h] at this; exact this
theorem eqv_self (H : WOrd lt) (x : α) : eqv lt x x = true := by simp [eqv, H.irr x]
theorem eqv_iff {a b : α} : eqv lt a b = true ↔ lt a b = false ∧ lt b a = false := by simp [eqv]
theorem Stab.refl {l : List α} (h : l.Pairwise fun x y => lt y x = false) : Stab lt l l := ⟨List.Perm.refl _, h, fun _ => rfl⟩
theorem unique (H : WOrd lt) : ∀ (r s : List α), (r.Pairwise fun x y => lt y x = false) → (s.Pairwise fun x y => lt y x = false) → (∀ a, r.filter (eqv lt a) = s.filter (eqv lt a)) → r = s
 | [], [], _, _, _ => rfl
 | [], y :: s, _, _, h => by
  have := h y
  rw [List.filter_cons_of_pos (by exact eqv_self H y)] at this
  cases this
 | x :: r, [], _, _, h => by
  have := h x
  rw [List.filter_cons_of_pos (by exact eqv_self H x)] at this
  cases this
 | x :: r, y :: s, hr, hs, h => by
  have hx : x ∈ (y :: s).filter (eqv lt x) := by rw [← h x]; exact List.mem_filter.2 ⟨List.mem_cons_self, eqv_self H x⟩
  have hy : y ∈ (x :: r).filter (eqv lt y) := by rw [h y]; exact List.mem_filter.2 ⟨List.mem_cons_self, eqv_self H y⟩
  have h1 : lt x y = false := by
   rcases List.mem_cons.1 (List.mem_filter.1 hx).1 with e | e
   ·
    rw [e]; exact H.irr y
   ·
    exact (List.pairwise_cons.1 hs).1 x e
  have h2 : lt y x = false := by
   rcases List.mem_cons.1 (List.mem_filter.1 hy).1 with e | e
   ·
    rw [e]; exact H.irr x
   ·
    exact (List.pairwise_cons.1 hr).1 y e
  have e := h x
  rw [List.filter_cons_of_pos (by exact eqv_self H x), List.filter_cons_of_pos (by exact eqv_iff.2 ⟨h1, h2⟩)] at e
  injection e with e1 _
  subst e1
  congr 1
  refine unique H r s (List.pairwise_cons.1 hr).2 (List.pairwise_cons.1 hs).2 fun a => ?_
  have e := h a
  cases ha : eqv lt a x
  ·
   rw [List.filter_cons_of_neg (by simp [ha]), List.filter_cons_of_neg (by simp [ha])] at e; exact e
  ·
   rw [List.filter_cons_of_pos ha, List.filter_cons_of_pos ha] at e; injection e
theorem Stab.eq (H : WOrd lt) {l r s : List α} (h : Stab lt l r) (h' : Stab lt l s) : r = s := unique H r s h.srt h'.srt fun a => (h.flt a).trans (h'.flt a).symm
theorem Stab.cat {l l' m r : List α} (h : Stab lt l l') (h' : Stab lt (l' ++ m) r) : Stab lt (l ++ m) r :=
 ⟨h'.perm.trans (h.perm.append_right m), h'.srt, fun a => by rw [h'.flt a, List.filter_append, List.filter_append, h.flt a]⟩
theorem Stab.trans {l m r : List α} (h : Stab lt l m) (h' : Stab lt m r) : Stab lt l r := ⟨h'.perm.trans h.perm, h'.srt, fun a => (h'.flt a).trans (h.flt a)⟩
theorem Stab.both {l l' m m' r : List α} (h : Stab lt l l') (g : Stab lt m m') (h' : Stab lt (l' ++ m') r) : Stab lt (l ++ m) r :=
 ⟨h'.perm.trans (h.perm.append g.perm), h'.srt, fun a => by rw [h'.flt a, List.filter_append, List.filter_append, h.flt a, g.flt a]⟩
theorem Stab.length {l r : List α} (h : Stab lt l r) : r.length = l.length := h.perm.length_eq
theorem Stab.mem {l r : List α} (h : Stab lt l r) (x : α) : x ∈ r ↔ x ∈ l := h.perm.mem_iff
theorem stab_sym (H : WOrd lt) {l1 u v r2 a b : List α} (hvu : ∀ x ∈ v, ∀ y ∈ u, lt x y = true) (hl : ∀ x ∈ l1, ∀ y ∈ u ++ r2, lt y x = false) (hr : ∀ x ∈ v, ∀ y ∈ r2, lt y x = false)
  (ha : Stab lt (l1 ++ v) a) (hb : Stab lt (u ++ r2) b) : Stab lt (l1 ++ u ++ v ++ r2) (a ++ b) := by
 refine ⟨?_, ?_, fun z => ?_⟩
 ·
  refine (ha.perm.append hb.perm).trans ?_
  rw [List.append_assoc, List.append_assoc, List.append_assoc]
  refine List.Perm.append_left l1 ?_
  rw [← List.append_assoc v u r2, ← List.append_assoc u v r2]
  exact List.perm_append_comm.append_right r2
 ·
  refine List.pairwise_append.2 ⟨ha.srt, hb.srt, fun x hx y hy => ?_⟩
  have hx := (ha.mem x).1 hx
  have hy := (hb.mem y).1 hy
  rcases List.mem_append.1 hx with e | e
  ·
   exact hl x e y hy
  ·
   rcases List.mem_append.1 hy with f | f
   ·
    exact H.asym _ _ (hvu x e y f)
   ·
    exact hr x e y f
 ·
  rw [List.filter_append, ha.flt z, hb.flt z, List.filter_append, List.filter_append, List.filter_append, List.filter_append, List.filter_append]
  have : v.filter (eqv lt z) = [] ∨ u.filter (eqv lt z) = [] := by
   by_cases hv : v.filter (eqv lt z) = []
   ·
    exact .inl hv
   ·
    right
    obtain ⟨x, hx⟩ := List.exists_mem_of_ne_nil _ hv
    rw [List.filter_eq_nil_iff]
    intro y hy hz
    have h1 := eqv_iff.1 (List.mem_filter.1 hx).2
    have h2 := eqv_iff.1 hz
    have := H.tr y z x h2.1 h1.2
    rw [hvu x (List.mem_filter.1 hx).1 y hy] at this
    cases this
  rcases this with e | e <;> simp [e]
def ins (lt : α → α → Bool) (x : α) : List α → List α
 | [] => [x]
 | y :: l => if lt x y then x :: y :: l else y :: ins lt x l
def isort (lt : α → α → Bool) (l : List α) : List α := l.foldl (fun s x => ins lt x s) []
theorem ins_perm (x : α) : ∀ l : List α, (ins lt x l).Perm (l ++ [x])
 | [] => List.Perm.refl _
 | y :: l => by
  unfold ins
  split
  ·
   exact (List.perm_append_comm (l₁ := [x]) (l₂ := y :: l))
  ·
   exact (ins_perm x l).cons y
theorem ins_stab (H : WOrd lt) (x : α) : ∀ l : List α, (l.Pairwise fun a b => lt b a = false) → Stab lt (l ++ [x]) (ins lt x l)
 | [], _ => Stab.refl (List.pairwise_singleton _ _)
 | y :: l, h => by
  have hp := List.pairwise_cons.1 h
  refine ⟨ins_perm x (y :: l), ?_, fun a => ?_⟩
  ·
   unfold ins
   split
   ·
    rename_i e
    refine List.pairwise_cons.2 ⟨fun b hb => ?_, h⟩
    rcases List.mem_cons.1 hb with f | f
    ·
     rw [f]; exact H.asym _ _ e
    ·
     exact H.tr x y b (H.asym _ _ e) (hp.1 b f)
   ·
    rename_i e
    refine List.pairwise_cons.2 ⟨fun b hb => ?_, (ins_stab H x l hp.2).srt⟩
    rcases List.mem_append.1 ((ins_perm x l).mem_iff.1 hb) with f | f
    ·
     exact hp.1 b f
    ·
     rw [List.mem_singleton.1 f]; simpa using e
  ·
   unfold ins
   split
   ·
    rename_i e
    have hz : eqv lt a x = true → (y :: l).filter (eqv lt a) = [] := fun ha => by
     rw [List.filter_eq_nil_iff]
     intro b hb hz
     have h1 := eqv_iff.1 ha
     have h2 := eqv_iff.1 hz
     have h3 : lt b y = false := by
      rcases List.mem_cons.1 hb with f | f
      ·
       rw [f]; exact H.irr y
      ·
       exact hp.1 b f
     have := H.tr y a x (H.tr y b a h3 h2.1) h1.2
     rw [e] at this; cases this
    cases ha : eqv lt a x
    ·
     rw [List.filter_cons_of_neg (by simp [ha]), List.filter_append, List.filter_cons_of_neg (a := x) (by simp [ha]), List.filter_nil, List.append_nil]
    ·
     rw [List.filter_cons_of_pos ha, List.filter_append, hz ha, List.filter_cons_of_pos ha]; rfl
   ·
    have := (ins_stab H x l hp.2).flt a
    cases ha : eqv lt a y
    ·
     rw [List.filter_cons_of_neg (by simp [ha]), this, List.cons_append, List.filter_cons_of_neg (by simp [ha])]
    ·
     rw [List.filter_cons_of_pos ha, this, List.cons_append, List.filter_cons_of_pos ha]
theorem isort_run (H : WOrd lt) : ∀ (m l s : List α), Stab lt l s → Stab lt (l ++ m) (m.foldl (fun s x => ins lt x s) s)
 | [], l, s, h => by simpa using h
 | x :: m, l, s, h => by
  have := isort_run H m (l ++ [x]) (ins lt x s) (h.cat (ins_stab H x s h.srt))
  rw [List.append_assoc] at this
  exact this
theorem isort_stab (H : WOrd lt) (l : List α) : Stab lt l (isort lt l) := isort_run H l [] [] (Stab.refl List.Pairwise.nil)
theorem Stab.isort (H : WOrd lt) {l r : List α} (h : Stab lt l r) : r = Srt.isort lt l := h.eq H (isort_stab H l)
end stab
section arr
variable [Inhabited α]
theorem get_at (p : List α) (x : α) (q : List α) (i : Nat) (h : i = p.length) : (p ++ x :: q).toArray[i]! = x := by
 subst h
 simp
theorem swp_toArray (l : List α) (i j : Nat) : swp l.toArray i j = ((l.set i l.toArray[j]!).set j l.toArray[i]!).toArray := by
 simp [swp]
theorem swp_at (p : List α) (x : α) (m : List α) (y : α) (q : List α) (i j : Nat) (hi : i = p.length) (hj : j = p.length + 1 + m.length) : swp (p ++ x :: (m ++ y :: q)).toArray i j = (p ++ y :: (m ++ x :: q)).toArray := by
 have e : ∀ v w : α, p ++ v :: (m ++ w :: q) = (p ++ v :: m) ++ w :: q := fun v w => by simp
 rw [swp_toArray, get_at p x _ i hi, e x y, get_at (p ++ x :: m) y q j (by rw [hj]; simp; omega), ← e]
 congr 1
 rw [hi, List.set_append_right _ _ (Nat.le_refl _), Nat.sub_self, List.set_cons_zero, e, show j = (p ++ y :: m).length by rw [hj]; simp; omega, List.set_append_right _ _ (Nat.le_refl _), Nat.sub_self, List.set_cons_zero, ← e]
theorem swp_at' (p : List α) (x : α) (m : List α) (y : α) (q : List α) (i j : Nat) (hi : i = p.length) (hj : j = p.length + 1 + m.length) : swp (p ++ x :: (m ++ y :: q)).toArray j i = (p ++ y :: (m ++ x :: q)).toArray := by
 have e : ∀ v w : α, p ++ v :: (m ++ w :: q) = (p ++ v :: m) ++ w :: q := fun v w => by simp
 rw [swp_toArray, get_at p x _ i hi, e x y, get_at (p ++ x :: m) y q j (by rw [hj]; simp; omega)]
 congr 1
 rw [show j = (p ++ x :: m).length by rw [hj]; simp; omega, List.set_append_right _ _ (Nat.le_refl _), Nat.sub_self, List.set_cons_zero, ← e x x, hi, List.set_append_right _ _ (Nat.le_refl _), Nat.sub_self, List.set_cons_zero]
end arr
theorem part (l : List α) (i : Nat) (h : i ≤ l.length) : ∃ p q, l = p ++ q ∧ p.length = i := ⟨l.take i, l.drop i, (List.take_append_drop _ _).symm, by rw [List.length_take]; omega⟩
theorem part1 (l : List α) (i : Nat) (h : i < l.length) : ∃ p x q, l = p ++ x :: q ∧ p.length = i := by
 obtain ⟨p, q, rfl, e⟩ := part l i (by omega)
 cases q with
 | nil => simp at h; omega
 | cons x q => exact ⟨p, x, q, rfl, e⟩
theorem part_last (l : List α) (h : 0 < l.length) : ∃ p x, l = p ++ [x] := by
 obtain ⟨p, x, q, rfl, e⟩ := part1 l (l.length - 1) (by omega)
 have : q = [] := List.eq_nil_of_length_eq_zero (by simp only [List.length_append, List.length_cons] at e h; omega)
 subst this
 exact ⟨p, x, rfl⟩
section chunks
variable (lt : α → α → Bool) (n : Nat)
inductive Chunks : List α → List α → Prop
 | last {l r : List α} : l.length ≤ n → Stab lt l r → Chunks l r
 | cons {l r ls rs : List α} : l.length = n → Stab lt l r → Chunks ls rs → Chunks (l ++ ls) (r ++ rs)
variable {lt n}
theorem Chunks.length {l r : List α} (h : Chunks lt n l r) : r.length = l.length := by
 induction h with
 | last _ h => exact h.length
 | cons _ h _ ih => rw [List.length_append, List.length_append, ih, h.length]
theorem Chunks.done {l r : List α} (h : Chunks lt n l r) (hl : l.length ≤ n) : Stab lt l r := by
 cases h with
 | last _ h => exact h
 | cons hn h hs =>
  rename_i l r ls rs
  have e : ls = [] := List.eq_nil_of_length_eq_zero (by rw [List.length_append] at hl; omega)
  have e' : rs = [] := List.eq_nil_of_length_eq_zero (by rw [hs.length, e]; rfl)
  subst e e'
  simpa using h
theorem Chunks.snoc {l r m s : List α} (h : Chunks lt n l r) (hl : n ∣ l.length) (hm : m.length ≤ n) (hs : Stab lt m s) : Chunks lt n (l ++ m) (r ++ s) := by
 induction h with
 | last hl' h =>
  rename_i l r
  rcases Nat.lt_or_ge l.length n with g | g
  ·
   have e : l = [] := List.eq_nil_of_length_eq_zero (Nat.eq_zero_of_dvd_of_lt hl g)
   subst e
   have e' : r = [] := List.eq_nil_of_length_eq_zero (by rw [h.length]; rfl)
   subst e'
   exact .last hm hs
  ·
   exact .cons (by omega) h (.last hm hs)
 | cons he h _ ih =>
  rw [List.append_assoc, List.append_assoc]
  refine .cons he h (ih ?_)
  rw [List.length_append, he] at hl
  exact (Nat.dvd_add_right (Nat.dvd_refl n)).1 hl
theorem Chunks.two {l r : List α} (h : Chunks lt n l r) : (l.length ≤ n ∧ Stab lt l r) ∨ ∃ a b c a' b' c', l = a ++ b ++ c ∧ r = a' ++ b' ++ c' ∧ a.length = n ∧ Stab lt a a' ∧ b.length ≤ n ∧ Stab lt b b' ∧ ((b.length < n ∧ c = [] ∧ c' = []) ∨ b.length = n) ∧ (c ≠ [] → b.length = n) ∧ Chunks lt n c c' := by
 cases h with
 | last hl h => exact .inl ⟨hl, h⟩
 | cons hn h hs =>
  rename_i a a' ls rs
  right
  cases hs with
  | last hl hb =>
   refine ⟨a, ls, [], a', rs, [], by simp, by simp, hn, h, hl, hb, ?_, by simp, .last (Nat.zero_le _) (Stab.refl List.Pairwise.nil)⟩
   rcases Nat.lt_or_ge ls.length n with g | g
   ·
    exact .inl ⟨g, rfl, rfl⟩
   ·
    exact .inr (by omega)
  | cons hl hb hc => rename_i b b' c c'; exact ⟨a, b, c, a', b', c', by simp, by simp, hn, h, by omega, hb, .inr hl, fun _ => hl, hc⟩
end chunks
section search
variable {lt : α → α → Bool}
theorem srt_get {l : List α} (h : l.Pairwise fun x y => lt y x = false) {p q : List α} {x : α} (e : l = p ++ x :: q) : (∀ y ∈ p, lt x y = false) ∧ (∀ y ∈ q, lt y x = false) := by
 subst e
 have := List.pairwise_append.1 h
 exact ⟨fun y hy => this.2.2 y hy x List.mem_cons_self, (List.pairwise_cons.1 this.2.1).1⟩
theorem srt_app {p q : List α} (h : (p ++ q).Pairwise fun x y => lt y x = false) : (p.Pairwise fun x y => lt y x = false) ∧ (q.Pairwise fun x y => lt y x = false) ∧ ∀ x ∈ p, ∀ y ∈ q, lt y x = false := List.pairwise_append.1 h
theorem stab_one (H : WOrd lt) {x : α} {a b : List α} (h : (a ++ b).Pairwise fun x y => lt y x = false) (ha : ∀ y ∈ a, lt y x = true) (hb : ∀ y ∈ b, lt y x = false) : Stab lt ([x] ++ (a ++ b)) (a ++ x :: b) := by
 have s := srt_app h
 have := stab_sym H (l1 := []) (u := [x]) (v := a) (r2 := b) (a := a) (b := x :: b) (fun y hy z hz => by rw [List.mem_singleton.1 hz]; exact ha y hy) (by simp) (fun y hy z hz => s.2.2 y hy z hz) (Stab.refl s.1)
  (Stab.refl (List.pairwise_cons.2 ⟨fun y hy => hb y hy, s.2.1⟩))
 simpa using this
theorem stab_one' (H : WOrd lt) {x : α} {a b : List α} (h : (a ++ b).Pairwise fun x y => lt y x = false) (ha : ∀ y ∈ a, lt x y = false) (hb : ∀ y ∈ b, lt x y = true) : Stab lt (a ++ b ++ [x]) (a ++ x :: b) := by
 have s := srt_app h
 have := stab_sym H (l1 := a) (u := b) (v := [x]) (r2 := []) (a := a ++ [x]) (b := b) (fun y hy z hz => by rw [List.mem_singleton.1 hy]; exact hb z hz) (fun y hy z hz => by rw [List.append_nil] at hz; exact s.2.2 y hy z hz) (by simp)
  (Stab.refl (List.pairwise_append.2 ⟨s.1, List.pairwise_singleton _ _, fun y hy z hz => by rw [List.mem_singleton.1 hz]; exact ha y hy⟩)) (by rw [List.append_nil]; exact Stab.refl s.2.1)
 simpa using this
end search
theorem get_in [Inhabited α] (p Z q : List α) (i : Nat) (h : i < Z.length) : (p ++ Z ++ q).toArray[p.length + i]! = Z.toArray[i]! := by
 obtain ⟨a, x, b, rfl, rfl⟩ := part1 Z i h
 rw [get_at a x b _ rfl, show p ++ (a ++ x :: b) ++ q = (p ++ a) ++ x :: (b ++ q) by simp]
 exact get_at _ _ _ _ (by simp)
theorem sym_parts [Inhabited α] {lt : α → α → Bool} (H : WOrd lt) {X Y : List α} (sX : X.Pairwise fun x y => lt y x = false) (sY : Y.Pairwise fun x y => lt y x = false) (h s0 r0 s : Nat) (hh : h = (X.length + Y.length) / 2)
  (c : (h < X.length ∧ s0 = h + X.length - (X.length + Y.length) ∧ r0 = h) ∨ (X.length ≤ h ∧ s0 = 0 ∧ r0 = X.length)) (h0 : s0 ≤ s) (h1 : s ≤ r0)
  (b1 : s = s0 ∨ lt (X ++ Y).toArray[h + X.length - s]! (X ++ Y).toArray[s - 1]! = false) (b2 : s = r0 ∨ lt (X ++ Y).toArray[h + X.length - 1 - s]! (X ++ Y).toArray[s]! = true) :
  ∃ X1 U V Y2, X = X1 ++ U ∧ Y = V ++ Y2 ∧ X1.length = s ∧ V.length = h - s ∧ s ≤ h ∧ (∀ v ∈ V, ∀ u ∈ U, lt v u = true) ∧ (∀ x ∈ X1, ∀ z ∈ U ++ Y2, lt z x = false) ∧ (∀ v ∈ V, ∀ z ∈ Y2, lt z v = false) := by
 obtain ⟨X1, U, rfl, e1⟩ := part X s (by omega)
 obtain ⟨V, Y2, rfl, e2⟩ := part Y (h - s) (by omega)
 have tX := srt_app sX
 have tY := srt_app sY
 simp only [List.length_append] at hh c b1 b2
 refine ⟨X1, U, V, Y2, rfl, rfl, e1, e2, by omega, fun v hv u hu => ?_, fun x hx z hz => ?_, tY.2.2⟩
 ·
  rcases b2 with b2 | b2
  ·
   exfalso
   rcases c with ⟨c1, c2, c3⟩ | ⟨c1, c2, c3⟩
   ·
    have : V = [] := List.eq_nil_of_length_eq_zero (by omega)
    rw [this] at hv; cases hv
   ·
    have : U = [] := List.eq_nil_of_length_eq_zero (by omega)
    rw [this] at hu; cases hu
  ·
   obtain ⟨V0, v1, rfl⟩ := part_last V (List.length_pos_of_mem hv)
   cases U with
   | nil => cases hu
   | cons u1 U =>
    simp only [List.length_append, List.length_cons, List.length_nil] at e2 b2
    rw [show X1 ++ u1 :: U ++ (V0 ++ [v1] ++ Y2) = (X1 ++ u1 :: U ++ V0) ++ v1 :: Y2 by simp, get_at _ v1 _ _ (by simp only [List.length_append, List.length_cons]; omega), show (X1 ++ u1 :: U ++ V0) ++ v1 :: Y2 = X1 ++ u1 :: (U ++ V0 ++ v1 :: Y2) by simp, get_at _ u1 _ _ e1.symm] at b2
    have hv' : lt v1 v = false := by
     rcases List.mem_append.1 hv with f | f
     ·
      exact (srt_app tY.1).2.2 v f v1 (List.mem_singleton.2 rfl)
     ·
      rw [List.mem_singleton.1 f]; exact H.irr _
    have hu' : lt u u1 = false := by
     rcases List.mem_cons.1 hu with f | f
     ·
      rw [f]; exact H.irr _
     ·
      exact (List.pairwise_cons.1 tX.2.1).1 u f
    cases hvu : lt v u
    ·
     have a1 := H.tr u1 u v hu' hvu
     have a2 := H.tr u1 v v1 a1 hv'
     rw [b2] at a2; cases a2
    ·
     rfl
 ·
  rcases List.mem_append.1 hz with f | f
  ·
   exact tX.2.2 x hx z f
  ·
   rcases b1 with b1 | b1
   ·
    exfalso
    rcases c with ⟨c1, c2, c3⟩ | ⟨c1, c2, c3⟩
    ·
     have : Y2 = [] := List.eq_nil_of_length_eq_zero (by omega)
     rw [this] at f; cases f
    ·
     have : X1 = [] := List.eq_nil_of_length_eq_zero (by omega)
     rw [this] at hx; cases hx
   ·
    obtain ⟨X0, x1, rfl⟩ := part_last X1 (List.length_pos_of_mem hx)
    cases Y2 with
    | nil => cases f
    | cons y1 Y2 =>
     simp only [List.length_append, List.length_cons, List.length_nil] at e1 b1
     rw [show X0 ++ [x1] ++ U ++ (V ++ y1 :: Y2) = (X0 ++ [x1] ++ U ++ V) ++ y1 :: Y2 by simp, get_at _ y1 _ _ (by simp only [List.length_append, List.length_cons, List.length_nil]; omega), show (X0 ++ [x1] ++ U ++ V) ++ y1 :: Y2 = X0 ++ x1 :: (U ++ V ++ y1 :: Y2) by simp, get_at _ x1 _ _ (by omega)] at b1
     have hx' : lt x1 x = false := by
      rcases List.mem_append.1 hx with f | f
      ·
       exact (srt_app (srt_app sX).1).2.2 x f x1 (List.mem_singleton.2 rfl)
      ·
       rw [List.mem_singleton.1 f]; exact H.irr _
     have hz' : lt z y1 = false := by
      rcases List.mem_cons.1 f with f | f
      ·
       rw [f]; exact H.irr _
      ·
       exact (List.pairwise_cons.1 tY.2.1).1 z f
     exact H.tr x y1 z (H.tr x x1 y1 hx' b1) hz'
end Go.Proofs.Ytabiekkebdocnaa.Srt
