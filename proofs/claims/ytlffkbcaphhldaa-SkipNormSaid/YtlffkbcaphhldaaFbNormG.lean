/- Lists by keys of good items: a key has the greatest of its items, whatever their order, their parts, and how often each is there. Plain lemmas, no program in sight. -/
import Derived.Test.YtlffkbcaphhldaaFbNormT
namespace Go.Proofs.Ytlffkbcaphhldaa.Nm
open Go.Proofs.Ytlffkbcaphhldaa.Ord
set_option linter.unusedVariables false
set_option linter.unusedSimpArgs false
structure Gd {α κ : Type} (c : κ → κ → Int) (key : α → κ) (jn : α → α → α) (v : α → α → Int) (P : α → Prop) : Prop where
 cc : Cmp3 c
 vv : Cmp3 v
 hj : ∀ a b, key (jn a b) = key a
 or : ∀ a b, c (key a) (key b) = 0 → P a → P b → jn a b = a ∨ jn a b = b
 ge : ∀ a b, 0 ≤ v (jn a b) a ∧ 0 ≤ v (jn a b) b
 eq : ∀ a b, c (key a) (key b) = 0 → P a → P b → v a b = 0 → a = b
section
variable {α κ : Type} {c : κ → κ → Int} {key : α → κ} {jn : α → α → α} {v : α → α → Int} {P : α → Prop}
theorem same_key (H : Cmp3 c) {a b k : κ} (h1 : c a k = 0) (h2 : c b k = 0) : c a b = 0 := by
 have a1 := H.anti a k; have a2 := H.anti b k; have a3 := H.anti a b
 have t1 := H.trans a k b; have t2 := H.trans b k a
 omega
theorem top (H : Gd c key jn v P) (k : κ) : ∀ (l : List α) (a : α), (∀ x ∈ l, P x ∧ c (key x) k = 0) → P a → c (key a) k = 0 →
  ∃ m, l.foldl (jo jn) (some a) = some m ∧ (m = a ∨ m ∈ l) ∧ 0 ≤ v m a ∧ ∀ x ∈ l, 0 ≤ v m x
 | [], a, _, _, _ => ⟨a, rfl, .inl rfl, by rw [H.vv.refl]; omega, fun x h => by cases h⟩
 | b :: l, a, h, ha, hk => by
  obtain ⟨hb, hbk⟩ := h b List.mem_cons_self
  have hab := same_key H.cc hk hbk
  have hor := H.or a b hab ha hb
  have hge := H.ge a b
  have hP : P (jn a b) := by rcases hor with e | e <;> rw [e] <;> assumption
  have hK : c (key (jn a b)) k = 0 := by rw [H.hj]; exact hk
  obtain ⟨m, h1, h2, h3, h4⟩ := top H k l (jn a b) (fun x hx => h x (List.mem_cons_of_mem _ hx)) hP hK
  have tr : ∀ y, 0 ≤ v (jn a b) y → 0 ≤ v m y := fun y hy => by
   have a1 := H.vv.anti m y; have a2 := H.vv.anti (jn a b) y; have a3 := H.vv.anti m (jn a b)
   have t := H.vv.trans y (jn a b) m
   omega
  refine ⟨m, h1, ?_, tr a hge.1, fun x hx => ?_⟩
  ·
   rcases h2 with e | e
   ·
    rcases hor with f | f
    ·
     exact .inl (e.trans f)
    ·
     exact .inr (by rw [e, f]; exact List.mem_cons_self)
   ·
    exact .inr (List.mem_cons_of_mem _ e)
  ·
   rcases List.mem_cons.1 hx with e | e
   ·
    rw [e]; exact tr b hge.2
   ·
    exact h4 x e
theorem gets_top (H : Gd c key jn v P) (k : κ) (l : List α) (hP : ∀ x ∈ l, P x) :
  (gets c key jn k l = none ∧ ∀ x ∈ l, ¬ c (key x) k = 0) ∨ ∃ m, gets c key jn k l = some m ∧ m ∈ l ∧ c (key m) k = 0 ∧ ∀ x ∈ l, c (key x) k = 0 → 0 ≤ v m x := by
 unfold gets
 have hf : ∀ x, x ∈ l.filter (fun x => c (key x) k == 0) ↔ x ∈ l ∧ c (key x) k = 0 := fun x => by rw [List.mem_filter, beq_iff_eq]
 cases hs : l.filter (fun x => c (key x) k == 0) with
 | nil =>
  refine .inl ⟨rfl, fun x hx he => ?_⟩
  have := (hf x).2 ⟨hx, he⟩
  rw [hs] at this; cases this
 | cons a s =>
  rw [hs] at hf
  obtain ⟨ha, hak⟩ := (hf a).1 List.mem_cons_self
  obtain ⟨m, h1, h2, h3, h4⟩ := top H k s a (fun x hx => by obtain ⟨q1, q2⟩ := (hf x).1 (List.mem_cons_of_mem _ hx); exact ⟨hP x q1, q2⟩) (hP a ha) hak
  have hm : m ∈ a :: s := by
   rcases h2 with e | e
   ·
    rw [e]; exact List.mem_cons_self
   ·
    exact List.mem_cons_of_mem _ e
  obtain ⟨m1, m2⟩ := (hf m).1 hm
  refine .inr ⟨m, h1, m1, m2, fun x hx he => ?_⟩
  rcases List.mem_cons.1 ((hf x).2 ⟨hx, he⟩) with e | e
  ·
   rw [e]; exact h3
  ·
   exact h4 x e
def Dom (c : κ → κ → Int) (key : α → κ) (v : α → α → Int) (l m : List α) : Prop := ∀ x ∈ l, ∃ y ∈ m, c (key y) (key x) = 0 ∧ 0 ≤ v y x
theorem Dom.sub (H : Gd c key jn v P) {l m : List α} (h : ∀ x ∈ l, x ∈ m) : Dom c key v l m := fun x hx => ⟨x, h x hx, H.cc.refl _, by rw [H.vv.refl]; omega⟩
theorem key_trans (H : Cmp3 c) {a b d : κ} (h1 : c a b = 0) (h2 : c b d = 0) : c a d = 0 := by
 have a1 := H.anti a b; have a2 := H.anti b d; have a3 := H.anti a d
 have t1 := H.trans a b d; have t2 := H.trans d b a
 omega
theorem gets_dom (H : Gd c key jn v P) (k : κ) {l m : List α} (hl : ∀ x ∈ l, P x) (hm : ∀ x ∈ m, P x) (h1 : Dom c key v l m) (h2 : Dom c key v m l) : gets c key jn k l = gets c key jn k m := by
 rcases gets_top H k l hl with ⟨e1, n1⟩ | ⟨a, e1, m1, k1, t1⟩ <;> rcases gets_top H k m hm with ⟨e2, n2⟩ | ⟨b, e2, m2, k2, t2⟩
 ·
  rw [e1, e2]
 ·
  obtain ⟨y, hy, hk, _⟩ := h2 b m2
  exact absurd (key_trans H.cc hk k2) (n1 y hy)
 ·
  obtain ⟨y, hy, hk, _⟩ := h1 a m1
  exact absurd (key_trans H.cc hk k1) (n2 y hy)
 ·
  obtain ⟨y, hy, hk, hv⟩ := h1 a m1
  obtain ⟨z, hz, hk', hv'⟩ := h2 b m2
  have g1 := t2 y hy (key_trans H.cc hk k1)
  have g2 := t1 z hz (key_trans H.cc hk' k2)
  have a1 := H.vv.anti b y; have a2 := H.vv.anti a z; have a3 := H.vv.anti y a; have a4 := H.vv.anti z b; have a5 := H.vv.anti a b
  have t1' := H.vv.trans a y b; have t2' := H.vv.trans b z a
  rw [e1, e2, H.eq a b (same_key H.cc k1 k2) (hl a m1) (hm b m2) (by omega)]
theorem norm_dom (H : Gd c key jn v P) {l m : List α} (hl : ∀ x ∈ l, P x) (hm : ∀ x ∈ m, P x) (h1 : Dom c key v l m) (h2 : Dom c key v m l) : norm c key jn l = norm c key jn m :=
 norm_ext H.cc H.hj fun k => gets_dom H k hl hm h1 h2
theorem lk_top (H : Gd c key jn v P) {l : List α} (hl : ∀ x ∈ l, P x) {x : α} (hx : x ∈ l) : ∃ m, lk c key (key x) (norm c key jn l) = some m ∧ m ∈ norm c key jn l ∧ c (key m) (key x) = 0 ∧ 0 ≤ v m x := by
 rw [lk_norm H.cc H.hj]
 rcases gets_top H (key x) l hl with ⟨_, n1⟩ | ⟨a, e1, m1, k1, t1⟩
 ·
  exact absurd (H.cc.refl _) (n1 x hx)
 ·
  refine ⟨a, e1, ?_, k1, t1 x hx (H.cc.refl _)⟩
  rw [← lk_norm H.cc H.hj] at e1
  exact (lk_some e1).1
theorem Dom.norm (H : Gd c key jn v P) {l : List α} (hl : ∀ x ∈ l, P x) : Dom c key v l (norm c key jn l) := fun x hx => by
 obtain ⟨m, _, h2, h3, h4⟩ := lk_top H hl hx
 exact ⟨m, h2, h3, h4⟩
end
end Go.Proofs.Ytlffkbcaphhldaa.Nm
