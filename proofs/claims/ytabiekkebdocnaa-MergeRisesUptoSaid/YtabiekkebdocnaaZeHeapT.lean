/- A heap in a list: an item goes down to its place. Plain lemmas, no program in sight. -/
import Derived.Test.YtabiekkebdocnaaZeStab
namespace Go.Proofs.Ytabiekkebdocnaa.Hp
open Go.Proofs.Ytabiekkebdocnaa.Srt
set_option linter.unusedVariables false
set_option linter.unusedSimpArgs false
section
variable {α : Type} (lt : α → α → Bool) (d : α)
def kid (l : List α) (i : Nat) : Nat := if 2 * i + 2 < l.length ∧ lt (l.getD (2 * i + 2) d) (l.getD (2 * i + 1) d) = true then 2 * i + 2 else 2 * i + 1
def swp (l : List α) (i k : Nat) : List α := (l.set i (l.getD k d)).set k (l.getD i d)
def down : Nat → List α → Nat → List α
 | 0, l, _ => l
 | f + 1, l, i => if l.length ≤ 2 * i + 1 then l else if lt (l.getD (kid lt d l i) d) (l.getD i d) = true then down f (swp d l i (kid lt d l i)) (kid lt d l i) else l
def dn (l : List α) (i : Nat) : List α := down lt d (l.length - i) l i
def Hp (s : Nat) (l : List α) : Prop := ∀ j, 1 ≤ j → j < l.length → s ≤ (j - 1) / 2 → lt (l.getD j d) (l.getD ((j - 1) / 2) d) = false
def Hx (s i : Nat) (l : List α) : Prop := (∀ j, 1 ≤ j → j < l.length → s ≤ (j - 1) / 2 → (j - 1) / 2 ≠ i → lt (l.getD j d) (l.getD ((j - 1) / 2) d) = false) ∧
 ∀ j, 1 ≤ j → j < l.length → (j - 1) / 2 = i → 1 ≤ i → s ≤ (i - 1) / 2 → lt (l.getD j d) (l.getD ((i - 1) / 2) d) = false
variable {lt d}
theorem swp_len (l : List α) (i k : Nat) : (swp d l i k).length = l.length := by simp [swp]
theorem swp_getD (l : List α) {i k : Nat} (hi : i < l.length) (hk : k < l.length) (j : Nat) : (swp d l i k).getD j d = if j = k then l.getD i d else if j = i then l.getD k d else l.getD j d := by
 unfold swp
 simp only [List.getD_eq_getElem?_getD, List.getElem?_set, List.length_set]
 by_cases h1 : j = k
 ·
  subst h1; simp [hk]
 ·
  have h1' : ¬ k = j := fun e => h1 e.symm
  by_cases h2 : j = i
  ·
   subst h2; simp [hi, h1, h1']
  ·
   have h2' : ¬ i = j := fun e => h2 e.symm
   simp [h1, h2, h1', h2']
theorem swp_perm (l : List α) {i k : Nat} (hi : i < l.length) (hk : k < l.length) : (swp d l i k).Perm l := by
 unfold swp
 rw [List.getD_eq_getElem?_getD, List.getD_eq_getElem?_getD, List.getElem?_eq_getElem hi, List.getElem?_eq_getElem hk]
 exact List.set_set_perm hi hk
theorem kid_lt (l : List α) {i : Nat} (h : ¬ l.length ≤ 2 * i + 1) : kid lt d l i < l.length ∧ (kid lt d l i - 1) / 2 = i ∧ i < kid lt d l i := by
 unfold kid; split <;> omega
theorem down_perm : ∀ (f : Nat) (l : List α) (i : Nat), (down lt d f l i).Perm l
 | 0, l, i => List.Perm.refl _
 | f + 1, l, i => by
  unfold down
  split
  ·
   exact List.Perm.refl _
  ·
   rename_i h
   obtain ⟨h1, h2, h3⟩ := kid_lt (lt := lt) (d := d) l h
   split
   ·
    exact (down_perm f _ _).trans (swp_perm l (by omega) h1)
   ·
    exact List.Perm.refl _
theorem dn_perm (l : List α) (i : Nat) : (dn lt d l i).Perm l := down_perm _ _ _
theorem kid_min (H : WOrd lt) (l : List α) {i j : Nat} (h : ¬ l.length ≤ 2 * i + 1) (h1 : 1 ≤ j) (hj : j < l.length) (hp : (j - 1) / 2 = i) : lt (l.getD j d) (l.getD (kid lt d l i) d) = false := by
 have irr : ∀ x, lt x x = false := fun x => by
  cases e : lt x x with
  | false => rfl
  | true => have := H.asym _ _ e; rw [e] at this; cases this
 have : j = 2 * i + 1 ∨ j = 2 * i + 2 := by omega
 unfold kid
 split
 ·
  rename_i hk
  rcases this with rfl | rfl
  ·
   exact H.asym _ _ hk.2
  ·
   exact irr _
 ·
  rename_i hk
  rcases this with rfl | rfl
  ·
   exact irr _
  ·
   cases e : lt (l.getD (2 * i + 2) d) (l.getD (2 * i + 1) d) with
   | false => rfl
   | true => exact absurd ⟨hj, e⟩ hk
theorem down_hp (H : WOrd lt) (s : Nat) : ∀ (f : Nat) (l : List α) (i : Nat), l.length ≤ f + i → s ≤ i → Hx lt d s i l → Hp lt d s (down lt d f l i)
 | 0, l, i, hf, hs, h => fun j h1 h2 h3 => by
  show lt (l.getD j d) (l.getD ((j - 1) / 2) d) = false
  have h2 : j < l.length := h2
  exact h.1 j h1 h2 h3 (by omega)
 | f + 1, l, i, hf, hs, h => by
  unfold down
  split
  case isTrue hn => exact fun j h1 h2 h3 => h.1 j h1 h2 h3 (by omega)
  rename_i hn
  obtain ⟨k1, k2, k3⟩ := kid_lt (lt := lt) (d := d) l hn
  have km := fun j a b c => kid_min (d := d) H l (i := i) (j := j) hn a b c
  generalize kid lt d l i = k at k1 k2 k3 km
  split
  case isFalse hc =>
   have hc : lt (l.getD k d) (l.getD i d) = false := by cases e : lt (l.getD k d) (l.getD i d) <;> simp_all
   intro j h1 h2 h3
   by_cases e : (j - 1) / 2 = i
   ·
    rw [e]; exact H.tr _ _ _ hc (km j h1 h2 e)
   ·
    exact h.1 j h1 h2 h3 e
  rename_i hc
  have hi : i < l.length := by omega
  refine down_hp H s f _ k (by rw [swp_len]; omega) (by omega) ⟨fun j h1 h2 h3 h4 => ?_, fun j h1 h2 h3 h4 h5 => ?_⟩
  ·
   rw [swp_len] at h2
   rw [swp_getD l hi k1, swp_getD l hi k1, if_neg h4]
   by_cases e : (j - 1) / 2 = i
   ·
    rw [if_pos e]
    by_cases ek : j = k
    ·
     rw [if_pos ek]; exact H.asym _ _ hc
    ·
     rw [if_neg ek, if_neg (by omega)]; exact km j h1 h2 e
   ·
    rw [if_neg e, if_neg (by intro e2; subst e2; exact e k2)]
    by_cases ei : j = i
    ·
     subst ei
     rw [if_pos rfl]
     exact h.2 k (by omega) k1 k2 h1 h3
    ·
     rw [if_neg ei]; exact h.1 j h1 h2 h3 e
  ·
   rw [swp_len] at h2
   rw [k2, swp_getD l hi k1, swp_getD l hi k1, if_neg (by omega), if_neg (by omega), if_neg (by omega), if_pos rfl, ← h3]
   exact h.1 j h1 h2 (by omega) (by omega)
theorem dn_hp (H : WOrd lt) {s i : Nat} {l : List α} (hs : s ≤ i) (h : Hx lt d s i l) : Hp lt d s (dn lt d l i) := down_hp H s _ l i (by omega) hs h
theorem Hx.of_hp {i : Nat} {l : List α} (h : Hp lt d (i + 1) l) : Hx lt d i i l := ⟨fun j h1 h2 h3 h4 => h j h1 h2 (by omega), fun j h1 h2 h3 h4 h5 => by omega⟩
theorem Hp.min (H : WOrd lt) {l : List α} (h : Hp lt d 0 l) : ∀ (j : Nat), j < l.length → lt (l.getD j d) (l.getD 0 d) = false
 | 0, _ => by
  cases e : lt (l.getD 0 d) (l.getD 0 d) with
  | false => rfl
  | true => have := H.asym _ _ e; rw [e] at this; cases this
 | j + 1, hj => H.tr _ _ _ (Hp.min H h (j / 2) (by omega)) (h (j + 1) (by omega) hj (by omega))
 termination_by j => j
 decreasing_by omega
theorem Hp.short {l : List α} {s : Nat} (h : l.length ≤ 2 * s + 1) : Hp lt d s l := fun j h1 h2 h3 => by omega
theorem Hx.root {l m : List α} (h : Hp lt d 0 l) (hm : m.length ≤ l.length) (he : ∀ j, 1 ≤ j → j < m.length → m.getD j d = l.getD j d) : Hx lt d 0 0 m := ⟨fun j h1 h2 h3 h4 => by
  rw [he j h1 h2, he _ (by omega) (by omega)]
  exact h j h1 (by omega) h3, fun j h1 h2 h3 h4 => by omega⟩
end
end Go.Proofs.Ytabiekkebdocnaa.Hp
