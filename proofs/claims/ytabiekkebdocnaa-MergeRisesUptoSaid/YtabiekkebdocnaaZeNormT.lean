/- Lists by keys, each once: what is alike joined from the left. Sorted and folded, or each added in its place: the same. Plain lemmas, no program in sight. -/
import Derived.Test.YtabiekkebdocnaaZeJ0
import Derived.Test.YtabiekkebdocnaaZeStab
namespace Go.Proofs.Ytabiekkebdocnaa.Nm
open Go.Proofs.Ytabiekkebdocnaa.Ord Go.Proofs.Ytabiekkebdocnaa.Srt
set_option linter.unusedVariables false
set_option linter.unusedSimpArgs false
section
variable {α κ : Type} (c : κ → κ → Int) (key : α → κ) (jn : α → α → α)
def grp (acc : α) : List α → List α
 | [] => [acc]
 | x :: l => if c (key acc) (key x) = 0 then grp (jn acc x) l else acc :: grp x l
def fold1 : List α → List α
 | [] => []
 | x :: l => grp c key jn x l
def add (x : α) : List α → List α
 | [] => [x]
 | y :: l => if c (key y) (key x) = 0 then jn y x :: l else if c (key y) (key x) > 0 then x :: y :: l else y :: add x l
def norm (l : List α) : List α := l.foldl (fun s x => add c key jn x s) []
def Inc (l : List α) : Prop := l.Pairwise fun x y => c (key x) (key y) < 0
def ltK (x y : α) : Bool := decide (c (key x) (key y) < 0)
def lk (k : κ) (l : List α) : Option α := l.find? fun x => c (key x) k == 0
def jo (o : Option α) (x : α) : Option α := match o with | none => some x | some a => some (jn a x)
def gets (k : κ) (l : List α) : Option α := (l.filter fun x => c (key x) k == 0).foldl (jo jn) none
variable {c key jn}
theorem ltK_ord (H : Cmp3 c) : WOrd (ltK c key) := ⟨fun x y h => by
  have h1 : c (key x) (key y) < 0 := of_decide_eq_true h
  have := H.anti (key x) (key y)
  exact decide_eq_false (by omega), fun x y z h1 h2 => by
  have h3 : ¬ c (key y) (key x) < 0 := of_decide_eq_false h1
  have h4 : ¬ c (key z) (key y) < 0 := of_decide_eq_false h2
  have a1 := H.anti (key y) (key x); have a2 := H.anti (key z) (key y); have a3 := H.anti (key z) (key x)
  have := H.trans (key x) (key y) (key z)
  exact decide_eq_false (by omega)⟩
theorem ltK_false {x y : α} (H : Cmp3 c) : ltK c key y x = false ↔ c (key x) (key y) ≤ 0 := by
 have := H.anti (key x) (key y)
 unfold ltK; rw [decide_eq_false_iff_not]; omega
theorem grp_head (hj : ∀ a b, key (jn a b) = key a) : ∀ (s : List α) (acc : α), ∃ a t, grp c key jn acc s = a :: t ∧ key a = key acc
 | [], acc => ⟨acc, [], rfl, rfl⟩
 | y :: s, acc => by
  unfold grp
  split
  ·
   obtain ⟨a, t, h1, h2⟩ := grp_head hj s (jn acc y); exact ⟨a, t, h1, h2.trans (hj _ _)⟩
  ·
   exact ⟨acc, _, rfl, rfl⟩
theorem add_less (x : α) {y : α} {l : List α} (h : c (key y) (key x) < 0) : add c key jn x (y :: l) = y :: add c key jn x l := by
 rw [add, if_neg (by omega), if_neg (by omega)]
theorem add_same (x : α) {y : α} {l : List α} (h : c (key y) (key x) = 0) : add c key jn x (y :: l) = jn y x :: l := by
 rw [add, if_pos h]
theorem add_more (x : α) {y : α} {l : List α} (h : c (key y) (key x) > 0) : add c key jn x (y :: l) = x :: y :: l := by
 rw [add, if_neg (by omega), if_pos h]
theorem grp_same {acc y : α} (s : List α) (h : c (key acc) (key y) = 0) : grp c key jn acc (y :: s) = grp c key jn (jn acc y) s := by rw [grp, if_pos h]
theorem grp_other {acc y : α} (s : List α) (h : ¬ c (key acc) (key y) = 0) : grp c key jn acc (y :: s) = acc :: grp c key jn y s := by rw [grp, if_neg h]
theorem grp_ins (H : Cmp3 c) (hj : ∀ a b, key (jn a b) = key a) (x : α) : ∀ (s : List α) (acc : α), (∀ y ∈ s, c (key acc) (key y) ≤ 0) → (s.Pairwise fun a b => c (key a) (key b) ≤ 0) → c (key acc) (key x) ≤ 0 →
  grp c key jn acc (ins (ltK c key) x s) = add c key jn x (grp c key jn acc s)
 | [], acc, _, _, h => by
  show grp c key jn acc [x] = add c key jn x [acc]
  by_cases e : c (key acc) (key x) = 0
  ·
   rw [grp_same _ e, add_same _ e]; rfl
  ·
   rw [grp_other _ e, add_less _ (by omega)]; rfl
 | y :: s, acc, hs, hp, h => by
  have hp' := List.pairwise_cons.1 hp
  have hay := hs y List.mem_cons_self
  have n1 := H.anti (key acc) (key y); have n2 := H.anti (key acc) (key x); have n3 := H.anti (key y) (key x)
  have t1 := H.trans (key acc) (key y) (key x); have t2 := H.trans (key y) (key acc) (key x); have t3 := H.trans (key x) (key acc) (key y); have t4 := H.trans (key y) (key x) (key acc); have t5 := H.trans (key acc) (key x) (key y)
  by_cases hxy : c (key x) (key y) < 0
  ·
   rw [show ins (ltK c key) x (y :: s) = x :: y :: s by rw [ins, if_pos (show ltK c key x y = true from decide_eq_true hxy)]]
   have hne : ¬ c (key acc) (key y) = 0 := by omega
   have hx : ¬ c (key x) (key y) = 0 := by omega
   rw [grp_other s hne]
   by_cases e : c (key acc) (key x) = 0
   ·
    rw [grp_same _ e, add_same _ e, grp_other s (by rw [hj]; exact hne)]
   ·
    obtain ⟨a, t, h1, h2⟩ := grp_head (c := c) hj s y
    rw [grp_other _ e, add_less _ (by omega), grp_other s hx, h1, add_more _ (by rw [h2]; omega)]
  ·
   rw [show ins (ltK c key) x (y :: s) = y :: ins (ltK c key) x s by rw [ins, if_neg (by simp [ltK, hxy])]]
   by_cases e : c (key acc) (key y) = 0
   ·
    rw [grp_same _ e, grp_same _ e]
    refine grp_ins H hj x s (jn acc y) (fun z hz => ?_) hp'.2 (by rw [hj]; exact h)
    rw [hj]; exact hs z (List.mem_cons_of_mem _ hz)
   ·
    rw [grp_other _ e, grp_other _ e, add_less _ (by omega)]
    congr 1
    exact grp_ins H hj x s y hp'.1 hp'.2 (by omega)
theorem fold1_ins (H : Cmp3 c) (hj : ∀ a b, key (jn a b) = key a) (x : α) (s : List α) (hp : s.Pairwise fun a b => c (key a) (key b) ≤ 0) : fold1 c key jn (ins (ltK c key) x s) = add c key jn x (fold1 c key jn s) := by
 cases s with
 | nil => rfl
 | cons y s =>
  have hp' := List.pairwise_cons.1 hp
  have n3 := H.anti (key y) (key x)
  unfold ins
  by_cases hxy : c (key x) (key y) < 0
  ·
   rw [if_pos (show ltK c key x y = true from decide_eq_true hxy)]
   obtain ⟨a, t, h1, h2⟩ := grp_head (c := c) hj s y
   show grp c key jn x (y :: s) = add c key jn x (grp c key jn y s)
   rw [grp_other _ (by omega), h1, add_more _ (by rw [h2]; omega)]
  ·
   rw [if_neg (by simp [ltK, hxy])]
   exact grp_ins H hj x s y hp'.1 hp'.2 (by omega)
theorem fold1_run (H : Cmp3 c) (hj : ∀ a b, key (jn a b) = key a) : ∀ (m s : List α), (s.Pairwise fun a b => c (key a) (key b) ≤ 0) →
  fold1 c key jn (m.foldl (fun s x => ins (ltK c key) x s) s) = m.foldl (fun s x => add c key jn x s) (fold1 c key jn s)
 | [], _, _ => rfl
 | x :: m, s, h => by
  rw [List.foldl_cons, List.foldl_cons, ← fold1_ins H hj x s h]
  refine fold1_run H hj m _ ?_
  have := (ins_stab (ltK_ord H) x s (h.imp fun {a b} hab => (ltK_false H).2 hab)).srt
  exact this.imp fun {a b} hab => (ltK_false H).1 hab
theorem fold1_isort (H : Cmp3 c) (hj : ∀ a b, key (jn a b) = key a) (l : List α) : fold1 c key jn (isort (ltK c key) l) = norm c key jn l := fold1_run H hj l [] List.Pairwise.nil
theorem add_key (hj : ∀ a b, key (jn a b) = key a) (x : α) : ∀ (l : List α) (z : α), z ∈ add c key jn x l → key z = key x ∨ ∃ y ∈ l, key z = key y
 | [], z, h => by rw [add, List.mem_singleton] at h; exact .inl (by rw [h])
 | y :: l, z, h => by
  unfold add at h
  split at h
  ·
   rcases List.mem_cons.1 h with rfl | h
   ·
    exact .inr ⟨y, List.mem_cons_self, hj _ _⟩
   ·
    exact .inr ⟨z, List.mem_cons_of_mem _ h, rfl⟩
  ·
   split at h
   ·
    rcases List.mem_cons.1 h with rfl | h
    ·
     exact .inl rfl
    ·
     exact .inr ⟨z, h, rfl⟩
   ·
    rcases List.mem_cons.1 h with rfl | h
    ·
     exact .inr ⟨z, List.mem_cons_self, rfl⟩
    ·
     rcases add_key hj x l z h with h | ⟨w, hw, e⟩
     ·
      exact .inl h
     ·
      exact .inr ⟨w, List.mem_cons_of_mem _ hw, e⟩
theorem add_inc (H : Cmp3 c) (hj : ∀ a b, key (jn a b) = key a) (x : α) : ∀ (l : List α), Inc c key l → Inc c key (add c key jn x l)
 | [], _ => List.pairwise_singleton _ _
 | y :: l, h => by
  have hp := List.pairwise_cons.1 h
  have n1 := H.anti (key y) (key x)
  unfold add
  split
  ·
   exact List.pairwise_cons.2 ⟨fun z hz => by rw [hj]; exact hp.1 z hz, hp.2⟩
  ·
   split
   ·
    refine List.pairwise_cons.2 ⟨fun z hz => ?_, h⟩
    rcases List.mem_cons.1 hz with rfl | hz
    ·
     omega
    ·
     have := hp.1 z hz
     have t := H.trans (key x) (key y) (key z); have t' := H.trans (key z) (key x) (key y); have a1 := H.anti (key x) (key z); have a2 := H.anti (key y) (key z)
     omega
   ·
    refine List.pairwise_cons.2 ⟨fun z hz => ?_, add_inc H hj x l hp.2⟩
    rcases add_key hj x l z hz with e | ⟨w, hw, e⟩
    ·
     rw [e]; omega
    ·
     rw [e]; exact hp.1 w hw
theorem run_inc (H : Cmp3 c) (hj : ∀ a b, key (jn a b) = key a) : ∀ (l s : List α), Inc c key s → Inc c key (l.foldl (fun s x => add c key jn x s) s)
 | [], _, h => h
 | x :: l, s, h => run_inc H hj l _ (add_inc H hj x s h)
theorem norm_inc (H : Cmp3 c) (hj : ∀ a b, key (jn a b) = key a) (l : List α) : Inc c key (norm c key jn l) := run_inc H hj l [] List.Pairwise.nil
theorem add_len (x : α) : ∀ l : List α, (add c key jn x l).length ≤ l.length + 1
 | [] => Nat.le_refl _
 | y :: l => by
  have := add_len x l
  unfold add; split <;> (try split) <;> simp <;> omega
theorem run_len : ∀ (l s : List α), (l.foldl (fun s x => add c key jn x s) s).length ≤ s.length + l.length
 | [], _ => Nat.le_refl _
 | x :: l, s => by
  have h1 := run_len l (add c key jn x s)
  have h2 := add_len (c := c) (key := key) (jn := jn) x s
  simp only [List.foldl_cons, List.length_cons]; omega
theorem norm_len (l : List α) : (norm c key jn l).length ≤ l.length := by have := run_len (c := c) (key := key) (jn := jn) l []; simpa [norm] using this
theorem add_last (x : α) : ∀ (l : List α), (∀ y ∈ l, c (key y) (key x) < 0) → add c key jn x l = l ++ [x]
 | [], _ => rfl
 | y :: l, h => by rw [add_less _ (h y List.mem_cons_self), add_last x l fun z hz => h z (List.mem_cons_of_mem _ hz)]; rfl
theorem run_self : ∀ (l s : List α), Inc c key (s ++ l) → l.foldl (fun s x => add c key jn x s) s = s ++ l
 | [], s, _ => by simp
 | x :: l, s, h => by
  have hx : ∀ y ∈ s, c (key y) (key x) < 0 := fun y hy => (List.pairwise_append.1 h).2.2 y hy x List.mem_cons_self
  rw [List.foldl_cons, add_last x s hx, run_self l (s ++ [x]) (by simpa using h)]
  simp
theorem norm_self {l : List α} (h : Inc c key l) : norm c key jn l = l := by simpa [norm] using run_self (jn := jn) l [] (by simpa using h)
theorem lk_cons (k : κ) (y : α) (l : List α) : lk c key k (y :: l) = if c (key y) k = 0 then some y else lk c key k l := by
 unfold lk
 by_cases h : c (key y) k = 0
 ·
  rw [List.find?_cons_of_pos (by simp [h]), if_pos h]
 ·
  rw [List.find?_cons_of_neg (by simp [h]), if_neg h]
theorem lk_none {k : κ} : ∀ {l : List α}, (∀ y ∈ l, ¬ c (key y) k = 0) → lk c key k l = none
 | [], _ => rfl
 | y :: l, h => by rw [lk_cons, if_neg (h y List.mem_cons_self)]; exact lk_none fun z hz => h z (List.mem_cons_of_mem _ hz)
theorem lk_add (H : Cmp3 c) (hj : ∀ a b, key (jn a b) = key a) (k : κ) (x : α) : ∀ (l : List α), Inc c key l → lk c key k (add c key jn x l) = if c (key x) k = 0 then jo jn (lk c key k l) x else lk c key k l
 | [], _ => by
  show lk c key k [x] = _
  rw [lk_cons]; rfl
 | y :: l, h => by
  have hp := List.pairwise_cons.1 h
  have n1 := H.anti (key y) (key x); have n2 := H.anti (key x) k; have n3 := H.anti (key y) k
  have t1 := H.trans (key x) (key y) k; have t2 := H.trans (key y) (key x) k; have t3 := H.trans k (key y) (key x); have t4 := H.trans k (key x) (key y); have t5 := H.trans (key x) k (key y); have t6 := H.trans (key y) k (key x)
  have rest : c (key y) k ≥ 0 → ∀ z ∈ l, ¬ c (key z) k = 0 := fun hk z hz => by
   have := hp.1 z hz
   have t := H.trans (key z) k (key y); have a1 := H.anti (key z) (key y)
   omega
  rcases Int.lt_trichotomy (c (key y) (key x)) 0 with e | e | e
  ·
   rw [add_less _ e, lk_cons, lk_cons]
   by_cases hy : c (key y) k = 0
   ·
    rw [if_pos hy, if_pos hy, if_neg (by omega)]
   ·
    rw [if_neg hy, if_neg hy]; exact lk_add H hj k x l hp.2
  ·
   rw [add_same _ e, lk_cons, lk_cons, hj]
   by_cases hy : c (key y) k = 0
   ·
    rw [if_pos hy, if_pos hy, if_pos (by omega)]; rfl
   ·
    rw [if_neg hy, if_neg hy, if_neg (by omega)]
  ·
   rw [add_more _ e, lk_cons]
   by_cases hx : c (key x) k = 0
   ·
    rw [if_pos hx, if_pos hx, lk_cons, if_neg (by omega), lk_none (rest (by omega))]; rfl
   ·
    rw [if_neg hx, if_neg hx]
theorem run_gets (H : Cmp3 c) (hj : ∀ a b, key (jn a b) = key a) (k : κ) : ∀ (l s : List α), Inc c key s →
  lk c key k (l.foldl (fun s x => add c key jn x s) s) = (l.filter fun x => c (key x) k == 0).foldl (jo jn) (lk c key k s)
 | [], _, _ => rfl
 | x :: l, s, h => by
  rw [List.foldl_cons, run_gets H hj k l _ (add_inc H hj x s h), lk_add H hj k x s h]
  by_cases hx : c (key x) k = 0
  ·
   rw [if_pos hx, List.filter_cons_of_pos (by simp [hx]), List.foldl_cons]
  ·
   rw [if_neg hx, List.filter_cons_of_neg (by simp [hx])]
theorem lk_norm (H : Cmp3 c) (hj : ∀ a b, key (jn a b) = key a) (k : κ) (l : List α) : lk c key k (norm c key jn l) = gets c key jn k l := run_gets H hj k l [] List.Pairwise.nil
theorem lk_mem (H : Cmp3 c) {l : List α} (h : Inc c key l) {y : α} (hy : y ∈ l) : lk c key (key y) l = some y := by
 induction l with
 | nil => cases hy
 | cons z l ih =>
  have hp := List.pairwise_cons.1 h
  rw [lk_cons]
  rcases List.mem_cons.1 hy with rfl | hy
  ·
   rw [if_pos (H.refl _)]
  ·
   rw [if_neg (by have := hp.1 y hy; omega)]; exact ih hp.2 hy
theorem lk_some {k : κ} {l : List α} {y : α} (h : lk c key k l = some y) : y ∈ l ∧ c (key y) k = 0 := by
 unfold lk at h
 exact ⟨List.mem_of_find?_eq_some h, by simpa using List.find?_some h⟩
theorem inc_ext (H : Cmp3 c) : ∀ {l m : List α}, Inc c key l → Inc c key m → (∀ k, lk c key k l = lk c key k m) → l = m
 | [], [], _, _, _ => rfl
 | [], y :: m, _, hm, h => by have := h (key y); rw [lk_mem H hm List.mem_cons_self] at this; cases this
 | x :: l, [], hl, _, h => by have := h (key x); rw [lk_mem H hl List.mem_cons_self] at this; cases this
 | x :: l, y :: m, hl, hm, h => by
  have pl := List.pairwise_cons.1 hl
  have pm := List.pairwise_cons.1 hm
  have h1 := h (key x); have h2 := h (key y)
  rw [lk_mem H hl List.mem_cons_self] at h1
  rw [lk_mem H hm List.mem_cons_self] at h2
  obtain ⟨m1, e1⟩ := lk_some h1.symm
  obtain ⟨m2, e2⟩ := lk_some h2
  have hxy : x = y := by
   rcases List.mem_cons.1 m1 with e | e
   ·
    exact e
   ·
    exfalso
    have q1 := pm.1 x e
    rcases List.mem_cons.1 m2 with f | f
    ·
     rw [f, H.refl] at q1; omega
    ·
     have q2 := pl.1 y f
     have := H.anti (key x) (key y); omega
  subst hxy
  congr 1
  refine inc_ext H pl.2 pm.2 fun k => ?_
  have := h k
  rw [lk_cons, lk_cons] at this
  by_cases e : c (key x) k = 0
  ·
   have f : ∀ {l : List α}, (∀ z ∈ l, c (key x) (key z) < 0) → lk c key k l = none := fun {l} hl => lk_none fun z hz he => by
    have q := hl z hz
    have t := H.trans (key z) k (key x); have a1 := H.anti (key z) (key x); have a2 := H.anti (key x) k
    omega
   rw [f pl.1, f pm.1]
  ·
   rw [if_neg e, if_neg e] at this; exact this
theorem norm_ext (H : Cmp3 c) (hj : ∀ a b, key (jn a b) = key a) {l m : List α} (h : ∀ k, gets c key jn k l = gets c key jn k m) : norm c key jn l = norm c key jn m :=
 inc_ext H (norm_inc H hj l) (norm_inc H hj m) fun k => by rw [lk_norm H hj, lk_norm H hj, h]
end
end Go.Proofs.Ytabiekkebdocnaa.Nm
