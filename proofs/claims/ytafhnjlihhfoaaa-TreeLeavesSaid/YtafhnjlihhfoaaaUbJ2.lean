/- Lists by keys, each once: what is alike joined from the left. Sorted and folded, or each added in its place: the same. Plain lemmas, no program in sight. -/
import Derived.Test.YtafhnjlihhfoaaaUbJ0
import Derived.Test.YtafhnjlihhfoaaaUbStab
namespace Go.Proofs.Ytafhnjlihhfoaaa.Nm
open Go.Proofs.Ytafhnjlihhfoaaa.Ord Go.Proofs.Ytafhnjlihhfoaaa.Srt
set_option linter.unusedVariables false
set_option linter.unusedSimpArgs false
section
variable {α κ : Type} (c : κ → κ → Int) (key : α → κ) (jn : α → α → α)
def grp (acc : α) : List α → List α
 | [] => [acc]
 | x :: l => if c (key acc) (key x) = 0 then grp (jn acc x) l else acc :: grp x l
def fold1 : List α → List α
 | [] => []
 | x :: l => grp c key jn x l
def add (x : α) : List α → List α
 | [] => [x]
 | y :: l => if c (key y) (key x) = 0 then jn y x :: l else if c (key y) (key x) > 0 then x :: y :: l else y :: add x l
def norm (l : List α) : List α := l.foldl (fun s x => add c key jn x s) []
def Inc (l : List α) : Prop := l.Pairwise fun x y => c (key x) (key y) < 0
def ltK (x y : α) : Bool := decide (c (key x) (key y) < 0)
def lk (k : κ) (l : List α) : Option α := l.find? fun x => c (key x) k == 0
def jo (o : Option α) (x : α) : Option α := match o with | none => some x | some a => some (jn a x)
def gets (k : κ) (l : List α) : Option α := (l.filter fun x => c (key x) k == 0).foldl (jo jn) none
variable {c key jn}
theorem ltK_ord (H : Cmp3 c) : WOrd (ltK c key) := ⟨fun x y h => by
  have h1 : c (key x) (key y) < 0 := of_decide_eq_true h
  have := H.anti (key x) (key y)
  exact decide_eq_false (by omega), fun x y z h1 h2 => by
  have h3 : ¬ c (key y) (key x) < 0 := of_decide_eq_false h1
  have h4 : ¬ c (key z) (key y) < 0 := of_decide_eq_false h2
  have a1 := H.anti (key y) (key x); have a2 := H.anti (key z) (key y); have a3 := H.anti (key z) (key x)
  have := H.trans (key x) (key y) (key z)
  exact decide_eq_false (by omega)⟩
theorem ltK_false {x y : α} (H : Cmp3 c) : ltK c key y x = false ↔ c (key x) (key y) ≤ 0 := by
 have := H.anti (key x) (key y)
 unfold ltK; rw [decide_eq_false_iff_not]; omega
theorem grp_head (hj : ∀ a b, key (jn a b) = key a) : ∀ (s : List α) (acc : α), ∃ a t, grp c key jn acc s = a :: t ∧ key a = key acc
 | [], acc => ⟨acc, [], rfl, rfl⟩
 | y :: s, acc => by
  unfold grp
  split
  ·
   obtain ⟨a, t, h1, h2⟩ := grp_head hj s (jn acc y); exact ⟨a, t, h1, h2.trans (hj _ _)⟩
  ·
   exact ⟨acc, _, rfl, rfl⟩
theorem add_less (x : α) {y : α} {l : List α} (h : c (key y) (key x) < 0) : add c key jn x (y :: l) = y :: add c key jn x l := by
 rw [add, if_neg (by omega), if_neg (by omega)]
theorem add_same (x : α) {y : α} {l : List α} (h : c (key y) (key x) = 0) : add c key jn x (y :: l) = jn y x :: l := by
 rw [add, if_pos h]
theorem add_more (x : α) {y : α} {l : List α} (h : c (key y) (key x) > 0) : add c key jn x (y :: l) = x :: y :: l := by
 rw [add, if_neg (by omega), if_pos h]
theorem grp_same {acc y : α} (s : List α) (h : c (key acc) (key y) = 0) : grp c key jn acc (y :: s) = grp c key jn (jn acc y) s := by rw [grp, if_pos h]
theorem grp_other {acc y : α} (s : List α) (h : ¬ c (key acc) (key y) = 0) : grp c key jn acc (y :: s) = acc :: grp c key jn y s := by rw [grp, if_neg h]
theorem grp_ins (H : Cmp3 c) (hj : ∀ a b, key (jn a b) = key a) (x : α) : ∀ (s : List α) (acc : α), (∀ y ∈ s, c (key acc) (key y) ≤ 0) → (s.Pairwise fun a b => c (key a) (key b) ≤ 0) → c (key acc) (key x) ≤ 0 →
  grp c key jn acc (ins (ltK c key) x s) = add c key jn x (grp c key jn acc s)
 | [], acc, _, _, h => by
  show grp c key jn acc [x] = add c key jn x [acc]
  by_cases e : c (key acc) (key x) = 0
  ·
   rw [grp_same _ e, add_same _ e]; rfl
  ·
   rw [grp_other _ e, add_less _ (by omega)]; rfl
 | y :: s, acc, hs, hp, h => by
  have hp' := List.pairwise_cons.1 hp
  have hay := hs y List.mem_cons_self
  have n1 := H.anti (key acc) (key y); have n2 := H.anti (key acc) (key x); have n3 := H.anti (key y) (key x)
  have t1 := H.trans (key acc) (key y) (key x); have t2 := H.trans (key y) (key acc) (key x); have t3 := H.trans (key x) (key acc) (key y); have t4 := H.trans (key y) (key x) (key acc); have t5 := H.trans (key acc) (key x) (key y)
  by_cases hxy : c (key x) (key y) < 0
  ·
   rw [show ins (ltK c key) x (y :: s) = x :: y :: s by rw [ins, if_pos (show ltK c key x y = true from decide_eq_true hxy)]]
   have hne : ¬ c (key acc) (key y) = 0 := by omega
   have hx : ¬ c (key x) (key y) = 0 := by omega
   rw [grp_other s hne]
   by_cases e : c (key acc) (key x) = 0
   ·
    rw [grp_same _ e, add_same _ e, grp_other s (by rw [hj]; exact hne)]
   ·
    obtain ⟨a, t, h1, h2⟩ := grp_head (c := c) hj s y
    rw [grp_other _ e, add_less _ (by omega), grp_other s hx, h1, add_more _ (by rw [h2]; omega)]
  ·
   rw [show ins (ltK c key) x (y :: s) = y :: ins (ltK c key) x s by rw [ins, if_neg (by simp [ltK, hxy])]]
   by_cases e : c (key acc) (key y) = 0
   ·
    rw [grp_same _ e, grp_same _ e]
    refine grp_ins H hj x s (jn acc y) (fun z hz => ?_) hp'.2 (by rw [hj]; exact h)
    rw [hj]; exact hs z (List.mem_cons_of_mem _ hz)
   ·
    rw [grp_other _ e, grp_other _ e, add_less _ (by omega)]
    congr 1
    exact grp_ins H hj x s y hp'.1 hp'.2 (by omega)
theorem fold1_ins (H : Cmp3 c) (hj : ∀ a b, key (jn a b) = key a) (x : α) (s : List α) (hp : s.Pairwise fun a b => c (key a) (key b) ≤ 0) : fold1 c key jn (ins (ltK c key) x s) = add c key jn x (fold1 c key jn s) := by
 cases s with
 | nil => rfl
 | cons y s =>
  have hp' := List.pairwise_cons.1 hp
  have n3 := H.anti (key y) (key x)
  unfold ins
  by_cases hxy : c (key x) (key y) < 0
  ·
   rw [if_pos (show ltK c key x y = true from decide_eq_true hxy)]
   obtain ⟨a, t, h1, h2⟩ := grp_head (c := c) hj s y
   show grp c key jn x (y :: s) = add c key jn x (grp c key jn y s)
   rw [grp_other _ (by omega), h1, add_more _ (by rw [h2]; omega)]
  ·
   rw [if_neg (by simp [ltK, hxy])]
   exact grp_ins H hj x s y hp'.1 hp'.2 (by omega)
theorem fold1_run (H : Cmp3 c) (hj : ∀ a b, key (jn a b) = key a) : ∀ (m s : List α), (s.Pairwise fun a b => c (key a) (key b) ≤ 0) →
  fold1 c key jn (m.foldl (fun s x => ins (ltK c key) x s) s) = m.foldl (fun s x => add c key jn x s) (fold1 c key jn s)
 | [], _, _ => rfl
 | x :: m, s, h => by
  rw [List.foldl_cons, List.foldl_cons, ← fold1_ins H hj x s h]
  refine fold1_run H hj m _ ?_
  have := (ins_stab (ltK_ord H) x s (h.imp fun {a b} hab => (ltK_false H).2 hab)).srt
  exact this.imp fun {a b} hab => (ltK_false H).1 hab
theorem fold1_isort (H : Cmp3 c) (hj : ∀ a b, key (jn a b) = key a) (l : List α) : fold1 c key jn (isort (ltK c key) l) = norm c key jn l := fold1_run H hj l [] List.Pairwise.nil
theorem add_key (hj : ∀ a b, key (jn a b) = key a) (x : α) : ∀ (l : List α) (z : α), z ∈ add c key jn x l → key z = key x ∨ ∃ y ∈ l, key z = key y
 | [], z, h => by rw [add, List.mem_singleton] at h; exact .inl (by rw [h])
 | y :: l, z, h => by
  unfold add at h
  split at h
  ·
   rcases List.mem_cons.1 h with rfl | h
   ·
    exact .inr ⟨y, List.mem_cons_self, hj _ _⟩
   ·
    exact .inr ⟨z, List.mem_cons_of_mem _ h, rfl⟩
  ·
   split at h
   ·
    rcases List.mem_cons.1 h with rfl | h
    ·
     exact .inl rfl
    ·
     exact .inr ⟨z, h, rfl⟩
   ·
    rcases List.mem_cons.1 h with rfl | h
    ·
     exact .inr ⟨z, List.mem_cons_self, rfl⟩
    ·
     rcases add_key hj x l z h with h | ⟨w, hw, e⟩
     ·
      exact .inl h
     ·
      exact .inr ⟨w, List.mem_cons_of_mem _ hw, e⟩
theorem add_inc (H : Cmp3 c) (hj : ∀ a b, key (jn a b) = key a) (x : α) : ∀ (l : List α), Inc c key l → Inc c key (add c key jn x l)
 | [], _ => List.pairwise_singleton _ _
 | y :: l, h => by
  have hp := List.pairwise_cons.1 h
  have n1 := H.anti (key y) (key x)
  unfold add
  split
  ·
   exact List.pairwise_cons.2 ⟨fun z hz => by rw [hj]; exact hp.1 z hz, hp.2⟩
  ·
   split
   ·
    refine List.pairwise_cons.2 ⟨fun z hz => ?_, h⟩
    rcases List.mem_cons.1 hz with rfl | hz
    ·
     omega
    ·
     have := hp.1 z hz
     have t := H.trans (key x) (key y) (key z); have t' := H.trans (key z) (key x) (key y); have a1 := H.anti (key x) (key z); have a2 := H.anti (key y) (key z)
     omega
   ·
    refine List.pairwise_cons.2 ⟨fun z hz => ?_, add_inc H hj x l hp.2⟩
    rcases add_key hj x l z hz with e | ⟨w, hw, e⟩
    ·
     rw [e]; omega
    ·
     rw [e]; exact hp.1 w hw
theorem add_len (x : α) : ∀ l : List α, (add c key jn x l).length ≤ l.length + 1
 | [] => Nat.le_refl _
 | y :: l => by
  have := add_len x l
  unfold add; split <;> (try split) <;> simp <;> omega
theorem run_len : ∀ (l s : List α), (l.foldl (fun s x => add c key jn x s) s).length ≤ s.length + l.length
 | [], _ => Nat.le_refl _
 | x :: l, s => by
  have h1 := run_len l (add c key jn x s)
  have h2 := add_len (c := c) (key := key) (jn := jn) x s
  simp only [List.foldl_cons, List.length_cons]; omega
theorem norm_len (l : List α) : (norm c key jn l).length ≤ l.length := by have := run_len (c := c) (key := key) (jn := jn) l []; simpa [norm] using this
theorem lk_cons (k : κ) (y : α) (l : List α) : lk c key k (y :: l) = if c (key y) k = 0 then some y else lk c key k l := by
 unfold lk
 by_cases h : c (key y) k = 0
 ·
  rw [List.find?_cons_of_pos (by simp [h]), if_pos h]
 ·
  rw [List.find?_cons_of_neg (by simp [h]), if_neg h]
theorem lk_none {k : κ} : ∀ {l : List α}, (∀ y ∈ l, ¬ c (key y) k = 0) → lk c key k l = none
 | [], _ => rfl
 | y :: l, h => by rw [lk_cons, if_neg (h y List.mem_cons_self)]; exact lk_none fun z hz => h z (List.mem_cons_of_mem _ hz)
theorem lk_add (H : Cmp3 c) (hj : ∀ a b, key (jn a b) = key a) (k : κ) (x : α) : ∀ (l : List α), Inc c key l → lk c key k (add c key jn x l) = if c (key x) k = 0 then jo jn (lk c key k l) x else lk c key k l
 | [], _ => by
  show lk c key k [x] = _
  rw [lk_cons]; rfl
 | y :: l, h => by
  have hp := List.pairwise_cons.1 h
  have n1 := H.anti (key y) (key x); have n2 := H.anti (key x) k; have n3 := H.anti (key y) k
  have t1 := H.trans (key x) (key y) k; have t2 := H.trans (key y) (key x) k; have t3 := H.trans k (key y) (key x); have t4 := H.trans k (key x) (key y); have t5 := H.trans (key x) k (key y); have t6 := H.trans (key y) k (key x)
  have rest : c (key y) k ≥ 0 → ∀ z ∈ l, ¬ c (key z) k = 0 := fun hk z hz => by
   have := hp.1 z hz
   have t := H.trans (key z) k (key y); have a1 := H.anti (key z) (key y)
   omega
  rcases Int.lt_trichotomy (c (key y) (key x)) 0 with e | e | e
  ·
   rw [add_less _ e, lk_cons, lk_cons]
   by_cases hy : c (key y) k = 0
   ·
    rw [if_pos hy, if_pos hy, if_neg (by omega)]
   ·
    rw [if_neg hy, if_neg hy]; exact lk_add H hj k x l hp.2
  ·
   rw [add_same _ e, lk_cons, lk_cons, hj]
   by_cases hy : c (key y) k = 0
   ·
    rw [if_pos hy, if_pos hy, if_pos (by omega)]; rfl
   ·
    rw [if_neg hy, if_neg hy, if_neg (by omega)]
  ·
   rw [add_more _ e, lk_cons]
   by_cases hx : c (key x) k = 0
   ·
    rw [if_pos hx, if_pos hx, lk_cons, if_neg (by omega), lk_none (rest (by omega))]; rfl
   ·
    rw [if_neg hx, if_neg hx]
theorem run_gets (H : Cmp3 c) (hj : ∀ a b, key (jn a b) = key a) (k : κ) : ∀ (l s : List α), Inc c key s →
  lk c key k (l.foldl (fun s x => add c key jn x s) s) = (l.filter fun x => c (key x) k == 0).foldl (jo jn) (lk c key k s)
 | [], _, _ => rfl
 | x :: l, s, h => by
  rw [List.foldl_cons, run_gets H hj k l _ (add_inc H hj x s h), lk_add H hj k x s h]
  by_cases hx : c (key x) k = 0
  ·
   rw [if_pos hx, List.filter_cons_of_pos (by simp [hx]), List.foldl_cons]
  ·
   rw [if_neg hx, List.filter_cons_of_neg (by simp [hx])]
theorem lk_norm (H : Cmp3 c) (hj : ∀ a b, key (jn a b) = key a) (k : κ) (l : List α) : lk c key k (norm c key jn l) = gets c key jn k l := run_gets H hj k l [] List.Pairwise.nil
theorem lk_some {k : κ} {l : List α} {y : α} (h : lk c key k l = some y) : y ∈ l ∧ c (key y) k = 0 := by
 unfold lk at h
 exact ⟨List.mem_of_find?_eq_some h, by simpa using List.find?_some h⟩
end
end Go.Proofs.Ytafhnjlihhfoaaa.Nm
namespace Go.Proofs.Ytafhnjlihhfoaaa.Nm
open Go.Proofs.Ytafhnjlihhfoaaa.Ord
set_option linter.unusedVariables false
set_option linter.unusedSimpArgs false
structure Gd {α κ : Type} (c : κ → κ → Int) (key : α → κ) (jn : α → α → α) (v : α → α → Int) (P : α → Prop) : Prop where
 cc : Cmp3 c
 vv : Cmp3 v
 hj : ∀ a b, key (jn a b) = key a
 or : ∀ a b, c (key a) (key b) = 0 → P a → P b → jn a b = a ∨ jn a b = b
 ge : ∀ a b, 0 ≤ v (jn a b) a ∧ 0 ≤ v (jn a b) b
 eq : ∀ a b, c (key a) (key b) = 0 → P a → P b → v a b = 0 → a = b
section
variable {α κ : Type} {c : κ → κ → Int} {key : α → κ} {jn : α → α → α} {v : α → α → Int} {P : α → Prop}
theorem same_key (H : Cmp3 c) {a b k : κ} (h1 : c a k = 0) (h2 : c b k = 0) : c a b = 0 := by
 have a1 := H.anti a k; have a2 := H.anti b k; have a3 := H.anti a b
 have t1 := H.trans a k b; have t2 := H.trans b k a
 omega
theorem top (H : Gd c key jn v P) (k : κ) : ∀ (l : List α) (a : α), (∀ x ∈ l, P x ∧ c (key x) k = 0) → P a → c (key a) k = 0 →
  ∃ m, l.foldl (jo jn) (some a) = some m ∧ (m = a ∨ m ∈ l) ∧ 0 ≤ v m a ∧ ∀ x ∈ l, 0 ≤ v m x
 | [], a, _, _, _ => ⟨a, rfl, .inl rfl, by rw [H.vv.refl]; omega, fun x h => by cases h⟩
 | b :: l, a, h, ha, hk => by
  obtain ⟨hb, hbk⟩ := h b List.mem_cons_self
  have hab := same_key H.cc hk hbk
  have hor := H.or a b hab ha hb
  have hge := H.ge a b
  have hP : P (jn a b) := by rcases hor with e | e <;> rw [e] <;> assumption
  have hK : c (key (jn a b)) k = 0 := by rw [H.hj]; exact hk
  obtain ⟨m, h1, h2, h3, h4⟩ := top H k l (jn a b) (fun x hx => h x (List.mem_cons_of_mem _ hx)) hP hK
  have tr : ∀ y, 0 ≤ v (jn a b) y → 0 ≤ v m y := fun y hy => by
   have a1 := H.vv.anti m y; have a2 := H.vv.anti (jn a b) y; have a3 := H.vv.anti m (jn a b)
   have t := H.vv.trans y (jn a b) m
   omega
  refine ⟨m, h1, ?_, tr a hge.1, fun x hx => ?_⟩
  ·
   rcases h2 with e | e
   ·
    rcases hor with f | f
    ·
     exact .inl (e.trans f)
    ·
     exact .inr (by rw [e, f]; exact List.mem_cons_self)
   ·
    exact .inr (List.mem_cons_of_mem _ e)
  ·
   rcases List.mem_cons.1 hx with e | e
   ·
    rw [e]; exact tr b hge.2
   ·
    exact h4 x e
theorem gets_top (H : Gd c key jn v P) (k : κ) (l : List α) (hP : ∀ x ∈ l, P x) :
  (gets c key jn k l = none ∧ ∀ x ∈ l, ¬ c (key x) k = 0) ∨ ∃ m, gets c key jn k l = some m ∧ m ∈ l ∧ c (key m) k = 0 ∧ ∀ x ∈ l, c (key x) k = 0 → 0 ≤ v m x := by
 unfold gets
 have hf : ∀ x, x ∈ l.filter (fun x => c (key x) k == 0) ↔ x ∈ l ∧ c (key x) k = 0 := fun x => by rw [List.mem_filter, beq_iff_eq]
 cases hs : l.filter (fun x => c (key x) k == 0) with
 | nil =>
  refine .inl ⟨rfl, fun x hx he => ?_⟩
  have := (hf x).2 ⟨hx, he⟩
  rw [hs] at this; cases this
 | cons a s =>
  rw [hs] at hf
  obtain ⟨ha, hak⟩ := (hf a).1 List.mem_cons_self
  obtain ⟨m, h1, h2, h3, h4⟩ := top H k s a (fun x hx => by obtain ⟨q1, q2⟩ := (hf x).1 (List.mem_cons_of_mem _ hx); exact ⟨hP x q1, q2⟩) (hP a ha) hak
  have hm : m ∈ a :: s := by
   rcases h2 with e | e
   ·
    rw [e]; exact List.mem_cons_self
   ·
    exact List.mem_cons_of_mem _ e
  obtain ⟨m1, m2⟩ := (hf m).1 hm
  refine .inr ⟨m, h1, m1, m2, fun x hx he => ?_⟩
  rcases List.mem_cons.1 ((hf x).2 ⟨hx, he⟩) with e | e
  ·
   rw [e]; exact h3
  ·
   exact h4 x e
def Dom (c : κ → κ → Int) (key : α → κ) (v : α → α → Int) (l m : List α) : Prop := ∀ x ∈ l, ∃ y ∈ m, c (key y) (key x) = 0 ∧ 0 ≤ v y x
theorem Dom.sub (H : Gd c key jn v P) {l m : List α} (h : ∀ x ∈ l, x ∈ m) : Dom c key v l m := fun x hx => ⟨x, h x hx, H.cc.refl _, by rw [H.vv.refl]; omega⟩
theorem lk_top (H : Gd c key jn v P) {l : List α} (hl : ∀ x ∈ l, P x) {x : α} (hx : x ∈ l) : ∃ m, lk c key (key x) (norm c key jn l) = some m ∧ m ∈ norm c key jn l ∧ c (key m) (key x) = 0 ∧ 0 ≤ v m x := by
 rw [lk_norm H.cc H.hj]
 rcases gets_top H (key x) l hl with ⟨_, n1⟩ | ⟨a, e1, m1, k1, t1⟩
 ·
  exact absurd (H.cc.refl _) (n1 x hx)
 ·
  refine ⟨a, e1, ?_, k1, t1 x hx (H.cc.refl _)⟩
  rw [← lk_norm H.cc H.hj] at e1
  exact (lk_some e1).1
theorem Dom.norm (H : Gd c key jn v P) {l : List α} (hl : ∀ x ∈ l, P x) : Dom c key v l (norm c key jn l) := fun x hx => by
 obtain ⟨m, _, h2, h3, h4⟩ := lk_top H hl hx
 exact ⟨m, h2, h3, h4⟩
end
end Go.Proofs.Ytafhnjlihhfoaaa.Nm
