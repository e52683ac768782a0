/- The towers of a skip list: their blocks, which tower comes next at a level, where a search stands at a level. -/
import Derived.Test.YtlffkbcaphhldaaFdJ4
import Derived.Test.YtlffkbcaphhldaaFdWWords
import Derived.Test.YtlffkbcaphhldaaFdQx9
import Derived.Test.YtlffkbcaphhldaaFdJ24
namespace Go.Proofs.Ytlffkbcaphhldaa.Sk
open Go Go.RowKit Go.Lib Go.Proofs Go.Proofs.YtlffkbcaphhldaaW.PrintWords Go.Proofs.YtlffkbcaphhldaaW.PrintLast Go.Proofs.YtlffkbcaphhldaaW.PrintMore Go.Proofs.Ytlffkbcaphhldaa.Q Go.Proofs.Ytlffkbcaphhldaa.Pl Go.Proofs.Ytlffkbcaphhldaa.Ord Go.Proofs.Ytlffkbcaphhldaa.Nm
set_option linter.unusedVariables false
set_option linter.unusedSimpArgs false
abbrev Cl := S37
abbrev Ky := S31
def zc : Cl := z37
structure Tw where
 b : Nat
 c : Cl
 h : Nat
def Tw.z : Tw := ⟨0, zc, 0⟩
def pw (o : Option Nat) : Value := .pointer (o.map fun b => ⟨b, 0, none⟩)
def fst (j : Nat) (T : List Tw) : Option Nat := (T.find? fun t => decide (j < t.h)).map (·.b)
def lk' (T : List Tw) (p h j : Nat) : Option Nat := if j < h then fst j (T.drop (p + 1)) else none
def twr (c : Cl) (h : Nat) (f : Nat → Option Nat) : Array Value := #[.string c.f0.f0, .string c.f0.f1, .int .i64 c.f0.f2, .string c.f0.f3, .int .i64 c.f1.f0, .bool c.f1.f1, .int .i64 c.f1.f2, .int .i64 c.f1.f3.f0, .int .i64 c.f1.f3.f1, .string c.f1.f3.f2, .int .i64 h, pw (f 0), pw (f 1), pw (f 2), pw (f 3), pw (f 4), pw (f 5), pw (f 6), pw (f 7)]
theorem twr_next (c : Cl) (h : Nat) (f : Nat → Option Nat) (j : Nat) (hj : j < 8) : (twr c h f)[11 + j]? = some (pw (f j)) := by
 obtain rfl | rfl | rfl | rfl | rfl | rfl | rfl | rfl : j = 0 ∨ j = 1 ∨ j = 2 ∨ j = 3 ∨ j = 4 ∨ j = 5 ∨ j = 6 ∨ j = 7 := by omega
 all_goals rfl
theorem twr_put (c : Cl) (h : Nat) (f : Nat → Option Nat) (j : Nat) (hj : j < 8) (o : Option Nat) : (twr c h f).setIfInBounds (11 + j) (pw o) = twr c h (fun i => if i = j then o else f i) := by
 obtain rfl | rfl | rfl | rfl | rfl | rfl | rfl | rfl : j = 0 ∨ j = 1 ∨ j = 2 ∨ j = 3 ∨ j = 4 ∨ j = 5 ∨ j = 6 ∨ j = 7 := by omega
 all_goals rfl
def tg (T : List Tw) (p : Nat) : Tw := T.getD p Tw.z
theorem tg_lt {T : List Tw} {p : Nat} (h : p < T.length) : T[p]? = some (tg T p) := by
 unfold tg; rw [List.getD_eq_getElem?_getD, List.getElem?_eq_getElem h]; rfl
theorem fst_cases (T : List Tw) (i p : Nat) :
  (fst i (T.drop (p + 1)) = none ∧ ∀ q, p < q → q < T.length → ¬ i < (tg T q).h) ∨
  (∃ q, p < q ∧ q < T.length ∧ i < (tg T q).h ∧ (∀ r, p < r → r < q → ¬ i < (tg T r).h) ∧ fst i (T.drop (p + 1)) = some (tg T q).b) := by
 have hd : ∀ (q : Nat), p < q → q < T.length → (T.drop (p + 1))[q - (p + 1)]? = some (tg T q) := fun q h1 h2 => by
  rw [List.getElem?_drop, show p + 1 + (q - (p + 1)) = q by omega]; exact tg_lt h2
 cases hf : (T.drop (p + 1)).find? fun t => decide (i < t.h) with
 | none =>
  refine .inl ⟨by unfold fst; rw [hf]; rfl, fun q h1 h2 => ?_⟩
  have := List.find?_eq_none.1 hf (tg T q) (List.mem_of_getElem? (hd q h1 h2))
  simpa using this
 | some t =>
  obtain ⟨h1, k, hk, h2, h3⟩ := List.find?_eq_some_iff_getElem.1 hf
  rw [List.length_drop] at hk
  have hq : p + 1 + k < T.length := by omega
  have ht : tg T (p + 1 + k) = t := by
   have := hd (p + 1 + k) (by omega) hq
   rw [show p + 1 + k - (p + 1) = k by omega, List.getElem?_eq_getElem (by rw [List.length_drop]; omega), h2] at this
   injection this with this; exact this.symm
  refine .inr ⟨p + 1 + k, by omega, hq, by rw [ht]; simpa using h1, fun r hr1 hr2 => ?_, by unfold fst; rw [hf, ht]; rfl⟩
  have h4 := h3 (r - (p + 1)) (by omega)
  have h5 := hd r hr1 (by omega)
  rw [List.getElem?_eq_getElem (by rw [List.length_drop]; omega)] at h5
  injection h5 with h5
  rw [h5] at h4
  simpa using h4
def spot (T : List Tw) (i : Nat) : Nat → Nat
 | 0 => 0
 | m + 1 => if i < (tg T (m + 1)).h then m + 1 else spot T i m
theorem spot_le (T : List Tw) (i : Nat) : ∀ m, spot T i m ≤ m
 | 0 => Nat.le_refl _
 | m + 1 => by
  unfold spot
  split
  ·
   omega
  ·
   have := spot_le T i m; omega
theorem spot_high {T : List Tw} {i : Nat} (h0 : i < (tg T 0).h) : ∀ m, i < (tg T (spot T i m)).h
 | 0 => h0
 | m + 1 => by
  unfold spot
  split
  ·
   assumption
  ·
   exact spot_high h0 m
theorem spot_eq {T : List Tw} {i p : Nat} (hp : i < (tg T p).h) : ∀ m, p ≤ m → (∀ q, p < q → q ≤ m → ¬ i < (tg T q).h) → spot T i m = p
 | 0, h, _ => by
  have : p = 0 := by omega
  subst this; rfl
 | m + 1, h, hq => by
  unfold spot
  by_cases e : p = m + 1
  ·
   subst e; rw [if_pos hp]
  ·
   rw [if_neg (hq (m + 1) (by omega) (Nat.le_refl _))]
   exact spot_eq hp m (by omega) fun q h1 h2 => hq q h1 (by omega)
theorem spot_none {T : List Tw} {i : Nat} : ∀ (m q : Nat), spot T i m < q → q ≤ m → ¬ i < (tg T q).h
 | 0, q, h1, h2 => by omega
 | m + 1, q, h1, h2 => by
  unfold spot at h1
  split at h1
  ·
   omega
  ·
   rename_i hn
   by_cases e : q = m + 1
   ·
    subst e; exact hn
   ·
    exact spot_none m q h1 (by omega)
structure Mem (w : World) (T : List Tw) : Prop where
 blk : ∀ p, p < T.length → w.heap[(tg T p).b]? = some (.cells (twr (tg T p).c (tg T p).h (lk' T p (tg T p).h)) 72 (0, 0))
 hi : ∀ p, p < T.length → 1 ≤ (tg T p).h ∧ (tg T p).h ≤ 8
 nd : ∀ p q, p < T.length → q < T.length → (tg T p).b = (tg T q).b → p = q
 h0 : (tg T 0).h = 8
 len : 0 < T.length
theorem Mem.below {w w1 : World} {T : List Tw} (h : Mem w T) (hb : Below w.heap.size w w1) : Mem w1 T := ⟨fun p hp => blk_below (h.blk p hp) hb, h.hi, h.nd, h.h0, h.len⟩
theorem Mem.keep {w w1 : World} {T : List Tw} (h : Mem w T) (hb : ∀ p, p < T.length → w1.heap[(tg T p).b]? = w.heap[(tg T p).b]?) : Mem w1 T := ⟨fun p hp => (hb p hp).trans (h.blk p hp), h.hi, h.nd, h.h0, h.len⟩
def Up (T : List Tw) : Prop := Inc cmpK keyC ((T.drop 1).map (·.c))
def below (T : List Tw) (k : Ky) : Nat := ((T.drop 1).filter fun t => decide (cmpK t.c.f0 k < 0)).length
theorem up_get {T : List Tw} (h : Up T) {p q : Nat} (h0 : 0 < p) (hpq : p < q) (hq : q < T.length) : cmpK (tg T p).c.f0 (tg T q).c.f0 < 0 := by
 unfold Up Inc at h
 have h1 := List.pairwise_iff_getElem.1 h (p - 1) (q - 1) (by simp; omega) (by simp; omega) (by omega)
 simp only [List.getElem_map, List.getElem_drop, show 1 + (p - 1) = p by omega, show 1 + (q - 1) = q by omega] at h1
 have e : ∀ r (hr : r < T.length), T[r] = tg T r := fun r hr => by
  have := tg_lt hr
  rw [List.getElem?_eq_getElem hr] at this
  injection this
 rw [e p (by omega), e q hq] at h1
 exact h1
theorem below_le (T : List Tw) (k : Ky) : below T k ≤ T.length - 1 := by
 unfold below
 exact Nat.le_trans (List.length_filter_le _ _) (by simp)
theorem below_iff {T : List Tw} (h : Up T) (k : Ky) {p : Nat} (h0 : 0 < p) (hp : p < T.length) : cmpK (tg T p).c.f0 k < 0 ↔ p ≤ below T k := by
 have hc := cmpK_cmp
 have gen : ∀ (l : List Tw), (l.Pairwise fun a b => cmpK a.c.f0 b.c.f0 < 0) → ∀ (i : Nat) (hi : i < l.length), cmpK l[i].c.f0 k < 0 ↔ i < (l.filter fun t => decide (cmpK t.c.f0 k < 0)).length := by
  intro l
  induction l with
  | nil => intro _ i hi; simp at hi
  | cons x l ih =>
   intro hl i hi
   rw [List.pairwise_cons] at hl
   by_cases hx : cmpK x.c.f0 k < 0
   ·
    rw [List.filter_cons, if_pos (by simpa using hx)]
    cases i with
    | zero => simp [hx]
    | succ i => simpa using ih hl.2 i (by simpa using hi)
   ·
    have hn : ∀ y ∈ l, ¬ cmpK y.c.f0 k < 0 := fun y hy h1 => hx (by
     have h2 := hl.1 y hy
     have := hc.trans x.c.f0 y.c.f0 k (by omega) (by omega)
     have h3 := hc.anti x.c.f0 k
     by_cases e : cmpK x.c.f0 k = 0
     ·
      have h4 := hc.trans k x.c.f0 y.c.f0 (by have := hc.anti k x.c.f0; omega) (by omega)
      have := hc.anti k y.c.f0
      omega
     ·
      omega)
    rw [List.filter_cons, if_neg (by simpa using hx), List.filter_eq_nil_iff.2 (fun y hy => by simpa using hn y hy)]
    cases i with
    | zero => simp [hx]
    | succ i => simpa using hn _ (List.getElem_mem (by simpa using hi))
 have e : ∀ r (hr : r < T.length), T[r] = tg T r := fun r hr => by
  have := tg_lt hr
  rw [List.getElem?_eq_getElem hr] at this
  injection this
 have h1 := gen (T.drop 1) (by unfold Up Inc at h; rw [List.pairwise_map] at h; exact h) (p - 1) (by simp; omega)
 rw [List.getElem_drop] at h1
 simp only [show 1 + (p - 1) = p by omega] at h1
 rw [e p hp] at h1
 rw [h1]
 show p - 1 < below T k ↔ _
 omega
def ins (T : List Tw) (m : Nat) (t : Tw) : List Tw := T.take (m + 1) ++ t :: T.drop (m + 1)
theorem ins_len {T : List Tw} {m : Nat} {t : Tw} (hm : m < T.length) : (ins T m t).length = T.length + 1 := by
 unfold ins; rw [List.length_append, List.length_cons, List.length_take, List.length_drop]; omega
theorem ins_lo {T : List Tw} {m : Nat} {t : Tw} (hm : m < T.length) {p : Nat} (hp : p ≤ m) : tg (ins T m t) p = tg T p := by
 unfold tg ins
 rw [List.getD_eq_getElem?_getD, List.getD_eq_getElem?_getD, List.getElem?_append_left (by rw [List.length_take]; omega), List.getElem?_take, if_pos (by omega)]
theorem ins_at {T : List Tw} {m : Nat} {t : Tw} (hm : m < T.length) : tg (ins T m t) (m + 1) = t := by
 unfold tg ins
 rw [List.getD_eq_getElem?_getD, List.getElem?_append_right (by rw [List.length_take]; omega), List.length_take, show m + 1 - min (m + 1) T.length = 0 by omega]
 rfl
theorem ins_hi {T : List Tw} {m : Nat} {t : Tw} (hm : m < T.length) {p : Nat} (hp : m < p) : tg (ins T m t) (p + 1) = tg T p := by
 unfold tg ins
 rw [List.getD_eq_getElem?_getD, List.getD_eq_getElem?_getD, List.getElem?_append_right (by rw [List.length_take]; omega), List.length_take, show p + 1 - min (m + 1) T.length = (p - (m + 1)) + 1 by omega, List.getElem?_cons_succ, List.getElem?_drop, show m + 1 + (p - (m + 1)) = p by omega]
theorem ins_drop_lo {T : List Tw} {m : Nat} {t : Tw} (hm : m < T.length) {p : Nat} (hp : p ≤ m) : (ins T m t).drop (p + 1) = (T.take (m + 1)).drop (p + 1) ++ t :: T.drop (m + 1) := by
 unfold ins; rw [List.drop_append_of_le_length (by rw [List.length_take]; omega)]
theorem ins_drop_at {T : List Tw} {m : Nat} {t : Tw} (hm : m < T.length) : (ins T m t).drop (m + 1 + 1) = T.drop (m + 1) := by
 unfold ins
 rw [List.drop_append, List.length_take, show m + 1 + 1 - min (m + 1) T.length = 1 by omega, List.drop_eq_nil_of_le (by rw [List.length_take]; omega)]; rfl
theorem ins_drop_hi {T : List Tw} {m : Nat} {t : Tw} (hm : m < T.length) {p : Nat} (hp : m < p) : (ins T m t).drop (p + 1 + 1) = T.drop (p + 1) := by
 unfold ins
 rw [List.drop_append, List.length_take, List.drop_eq_nil_of_le (by rw [List.length_take]; omega), show p + 1 + 1 - min (m + 1) T.length = (p - m) + 1 by omega, List.drop_succ_cons, List.drop_drop, show m + 1 + (p - m) = p + 1 by omega]; rfl
theorem fst_app (j : Nat) (A B : List Tw) : fst j (A ++ B) = (fst j A).or (fst j B) := by
 unfold fst; rw [List.find?_append]; cases A.find? _ <;> rfl
theorem fst_cons (j : Nat) (t : Tw) (B : List Tw) : fst j (t :: B) = if j < t.h then some t.b else fst j B := by
 unfold fst; rw [List.find?_cons]; by_cases h : j < t.h <;> simp [h]
theorem drop_cut (T : List Tw) {m p : Nat} (hp : p ≤ m) : T.drop (p + 1) = (T.take (m + 1)).drop (p + 1) ++ T.drop (m + 1) := by
 conv => lhs; rw [← List.take_append_drop (m + 1) T]
 by_cases h : m + 1 ≤ T.length
 ·
  rw [List.drop_append_of_le_length (by rw [List.length_take]; omega)]
 ·
  rw [List.drop_eq_nil_of_le (show T.length ≤ m + 1 by omega)]; simp
theorem fst_mid {T : List Tw} {m p j : Nat} (hm : m < T.length) (hp : p ≤ m) : fst j ((T.take (m + 1)).drop (p + 1)) = none ↔ ∀ q, p < q → q ≤ m → ¬ j < (tg T q).h := by
 have e : ∀ q, p < q → q ≤ m → ((T.take (m + 1)).drop (p + 1))[q - (p + 1)]? = some (tg T q) := fun q h1 h2 => by
  rw [List.getElem?_drop, show p + 1 + (q - (p + 1)) = q by omega, List.getElem?_take, if_pos (by omega)]; exact tg_lt (by omega)
 unfold fst
 rw [Option.map_eq_none_iff, List.find?_eq_none]
 constructor
 ·
  intro h q h1 h2
  have := h (tg T q) (List.mem_of_getElem? (e q h1 h2))
  simpa using this
 ·
  intro h t ht
  obtain ⟨k, hk, rfl⟩ := List.getElem_of_mem ht
  have hk2 : k < m - p := by rw [List.length_drop, List.length_take] at hk; omega
  have h1 := e (p + 1 + k) (by omega) (by omega)
  rw [show p + 1 + k - (p + 1) = k by omega, List.getElem?_eq_getElem hk] at h1
  injection h1 with h1
  rw [h1]
  simpa using h (p + 1 + k) (by omega) (by omega)
theorem lk_ins {T : List Tw} {m : Nat} {t : Tw} (hm : m < T.length) (h0 : ∀ j, j < 8 → j < (tg T 0).h) {p j : Nat} (hp : p ≤ m) (hj8 : j < 8) :
  lk' (ins T m t) p (tg T p).h j = if j < t.h ∧ p = spot T j m then some t.b else lk' T p (tg T p).h j := by
 unfold lk'
 by_cases hj : j < (tg T p).h
 ·
  rw [if_pos hj, if_pos hj, ins_drop_lo hm hp, drop_cut T hp, fst_app, fst_app, fst_cons]
  by_cases hs : p = spot T j m
  ·
   have hn := (fst_mid (T := T) (j := j) hm hp).2 (fun q h1 h2 => spot_none m q (hs ▸ h1) h2)
   rw [hn]
   by_cases ht : j < t.h
   ·
    rw [if_pos ht, if_pos ⟨ht, hs⟩]; rfl
   ·
    rw [if_neg ht, if_neg (show ¬ (j < t.h ∧ p = spot T j m) from fun h => ht h.1)]
  ·
   rw [if_neg (show ¬ (j < t.h ∧ p = spot T j m) from fun h => hs h.2)]
   have hn : fst j ((T.take (m + 1)).drop (p + 1)) ≠ none := fun h => hs ((spot_eq hj m hp ((fst_mid hm hp).1 h)).symm)
   cases hf : fst j ((T.take (m + 1)).drop (p + 1)) with
   | none => exact absurd hf hn
   | some b => rfl
 ·
  rw [if_neg hj, if_neg hj]
  rw [if_neg (show ¬ (j < t.h ∧ p = spot T j m) from fun h => hj (h.2 ▸ spot_high (h0 j hj8) m))]
theorem lk_ins_hi {T : List Tw} {m : Nat} {t : Tw} (hm : m < T.length) {p : Nat} (hp : m < p) (h j : Nat) : lk' (ins T m t) (p + 1) h j = lk' T p h j := by
 unfold lk'; rw [ins_drop_hi hm hp]
theorem lk_ins_at {T : List Tw} {m : Nat} {t : Tw} (hm : m < T.length) (h j : Nat) : lk' (ins T m t) (m + 1) h j = if j < h then fst j (T.drop (m + 1)) else none := by
 unfold lk'; rw [ins_drop_at hm]
theorem lk_spot {T : List Tw} {m j : Nat} (hm : m < T.length) (h0 : j < (tg T 0).h) : lk' T (spot T j m) (tg T (spot T j m)).h j = fst j (T.drop (m + 1)) := by
 have hle := spot_le T j m
 unfold lk'
 rw [if_pos (spot_high h0 m), drop_cut T hle, fst_app, (fst_mid hm hle).2 (fun q h1 h2 => spot_none m q h1 h2)]
 rfl
end Go.Proofs.Ytlffkbcaphhldaa.Sk
