/- Tokens are local: those of a text are those of the text with a line feed and anything behind it, and those of what stands behind, moved. -/
import Derived.Test.YtfaogccfiklinaaDoorKfLg
set_option linter.unusedVariables false
set_option linter.unusedSimpArgs false
namespace Go.Proofs.YtfaogccfiklinaaDoor.Pl
open Go.RowKit Go.Proofs.YtfaogccfiklinaaDoorW.PrintWords
open Go.Proofs.YtfaogccfiklinaaDoor.Q
structure Hd (a s : ByteArray) : Prop where
 lt : a.size < s.size
 same : ∀ i, i < a.size → cb s i = cb a i
 feed : cb s a.size = 10
 cut : ∀ i j, j ≤ a.size → s.extract i j = a.extract i j
structure Tl (d : Nat) (b s : ByteArray) : Prop where
 size : s.size = d + b.size
 same : ∀ i, cb s (d + i) = cb b i
 cut : ∀ i j, s.extract (d + i) (d + j) = b.extract i j
theorem Hd.le {a s : ByteArray} (h : Hd a s) {i : Nat} (hi : i ≤ a.size) (p : Nat → Bool) (p0 : p 0 = p 10) : p (cb s i) = p (cb a i) := by
 rcases Nat.lt_or_ge i a.size with h' | h'
 ·
  rw [h.same i h']
 ·
  have e : i = a.size := by omega
  rw [e, h.feed, cb_out (Nat.le_refl _), p0]
theorem Hd.dgt {a s : ByteArray} (h : Hd a s) {i : Nat} (hi : i ≤ a.size) : dg s i = dg a i := h.le hi (fun b => digitB (b : Int)) rfl
theorem Hd.is {a s : ByteArray} (h : Hd a s) {i c : Nat} (hi : i ≤ a.size) (hc : c ≠ 0 ∧ c ≠ 10) : cb s i = c ↔ cb a i = c := by
 have := h.le hi (fun b => decide (b = c)) (by rw [decide_eq_false (fun e => hc.1 e.symm), decide_eq_false (fun e => hc.2 e.symm)])
 simpa using this
theorem Hd.skp {a s : ByteArray} (h : Hd a s) {i : Nat} (hi : i ≤ a.size) : skp s i = skp a i := by
 have h95 := h.is hi (c := 95) (by decide)
 unfold Pl.skp
 by_cases e : cb a i = 95
 ·
  have hlt := cb_in (s := a) (i := i) (by omega)
  rw [h.dgt (i := i + 1) (by omega), h95.2 e, e]
 ·
  rw [if_neg (fun q => e (h95.1 q.1)), if_neg (fun q => e q.1)]
theorem Hd.fn {a s : ByteArray} (h : Hd a s) {p : Nat → Bool} (p10 : p 10 = false) : ∀ (d i : Nat), a.size ≤ d + i → i ≤ a.size → fn p s i = fn p a i := by
 intro d
 induction d with
 | zero =>
  intro i h1 h2
  have e : i = a.size := by omega
  subst e
  rw [fn_no (fun _ => by rw [h.feed]; exact p10), fn_no (fun q => absurd q (Nat.lt_irrefl _))]
 | succ d ih =>
  intro i h1 h2
  rcases Nat.lt_or_ge i a.size with h' | h'
  ·
   cases hp : p (cb a i) with
   | true => rw [fn_yes (by have := h.lt; omega) (by rw [h.same i h']; exact hp), fn_yes h' hp, ih (i + 1) (by omega) (by omega)]
   | false => rw [fn_no (fun _ => by rw [h.same i h']; exact hp), fn_no (fun _ => hp)]
  ·
   have e : i = a.size := by omega
   subst e
   rw [fn_no (fun _ => by rw [h.feed]; exact p10), fn_no (fun q => absurd q (Nat.lt_irrefl _))]
theorem Hd.num {a s : ByteArray} (h : Hd a s) {i : Nat} {v : Int} {r : Option (Nat × Int)} (hr : NumR a i v r) : i ≤ a.size → NumR s i v r := by
 induction hr with
 | @over i v h1 h2 =>
  intro hi
  have hlt := dg_in h1
  exact .over (by rw [h.dgt hi]; exact h1) (by rw [h.same i hlt]; exact h2)
 | @more i v r h1 h2 _ ih =>
  intro hi
  have hlt := dg_in h1
  refine .more (by rw [h.dgt hi]; exact h1) (by rw [h.same i hlt]; exact h2) ?_
  rw [h.skp (by omega), h.same i hlt]
  exact ih (skp_le (by omega))
 | @stop i v h1 => intro hi; exact .stop (by rw [h.dgt hi]; exact h1)
theorem Hd.quo {a s : ByteArray} (h : Hd a s) {i : Nat} {b : List Int} {r : Nat × Option (List Int)} (hr : QR a i b r) : ∀ j t, r = (j, some t) → QR s i b r := by
 induction hr with
 | @stop i b h1 => intro j t _; exact .stop (by rw [h.same i (cb_in (by omega))]; exact h1)
 | fin _ => intro j t e; cases e
 | full _ _ _ => intro j t e; cases e
 | @plain i b r h1 h2 _ ih =>
  intro j t e
  have hlt := plain_in h2
  refine .plain h1 (by rw [h.same i hlt]; exact h2) ?_
  rw [h.same i hlt]
  exact ih j t e
 | @pct i b r h1 h2 _ ih =>
  intro j t e
  have hlt := hex_in h2.2.2
  have k0 := h.same i (by omega)
  have k1 := h.same (i + 1) (by omega)
  have k2 := h.same (i + 2) (by omega)
  refine .pct h1 ⟨by rw [k0]; exact h2.1, by rw [k1]; exact h2.2.1, by rw [k2]; exact h2.2.2⟩ ?_
  have : hx2 s i = hx2 a i := by unfold hx2; rw [k1, k2]
  rw [this]
  exact ih j t e
 | bad _ _ _ _ _ => intro j t e; cases e
theorem Hd.one {a s : ByteArray} (h : Hd a s) {i : Nat} {q : R8} (hq : OneR a i q) (hi : i < a.size) (hok : q.2.2.2.2.2.2.2 < 0) : OneR s i q := by
 have k0 := h.same i hi
 have k1 : dg s (i + 1) = dg a (i + 1) := h.dgt (by omega)
 have kd : dg s i = dg a i := h.dgt (by omega)
 have kn : isNum s i ↔ isNum a i := by unfold isNum; rw [k0, k1, kd]
 cases hq with
 | @num r h1 h2 =>
  have e : numAt s i = numAt a i := by unfold numAt; rw [k0]
  rw [← k0]
  refine .num (kn.2 h1) ?_
  rw [e]
  exact h.num h2 (numAt_le h1)
 | @quo r h1 h2 =>
  obtain ⟨j, o⟩ := r
  cases o with
  | none => exfalso; unfold qOut bad at hok; simp only at hok; omega
  | some t => exact .quo (by rw [k0]; exact h1) (h.quo h2 j t rfl)
 | word h1 =>
  have e : wTok s i = wTok a i := by
   have hw : wEnd s i = wEnd a i := h.fn rfl a.size i (by omega) (by omega)
   have hle := fn_le wordc a i (by omega)
   unfold wTok
   rw [hw, h.cut i (wEnd a i) hle]
  rw [← e]
  exact .word (by unfold ltr at h1 ⊢; rw [k0]; exact h1)
 | sign h1 h2 h3 =>
  have k61 := h.is (i := i + 1) (c := 61) (by omega) (by decide)
  have e : sTok s i = sTok a i := by
   unfold sTok
   rw [k0, h.cut i (i + 1) (by omega)]
   by_cases g : cb a i = 62 ∧ cb a (i + 1) = 61
   ·
    rw [if_pos g, if_pos ⟨g.1, k61.2 g.2⟩]
   ·
    rw [if_neg g, if_neg (fun q => g ⟨q.1, k61.1 q.2⟩)]
  rw [← e]
  exact .sign (fun q => h1 (kn.1 q)) (by rw [k0]; exact h2) (by unfold ltr at h3 ⊢; rw [k0]; exact h3)
theorem Hd.sk {a s : ByteArray} (h : Hd a s) {i j : Nat} (hs : Sk a i j) : i ≤ a.size → j < a.size → Sk s i j := by
 induction hs with
 | @blank i j h1 h2 _ ih => intro hi hj; exact .blank (by have := h.lt; omega) (by rw [h.same i h1]; exact h2) (ih (by omega) hj)
 | @note i j h1 h2 _ ih =>
  intro hi hj
  have l1 := cb_in (s := a) (i := i) (by omega)
  have l2 := cb_in (s := a) (i := i + 1) (by omega)
  refine .note (by rw [h.same i l1]; exact h1) (by rw [h.same (i + 1) l2]; exact h2) ?_
  rw [h.fn rfl a.size i (by omega) (by omega)]
  exact ih (fn_le _ _ _ (by omega)) hj
 | @stop i h1 h2 =>
  intro hi hj
  refine .stop (fun _ => by rw [h.same i hj]; exact h1 hj) (fun e => h2 ⟨by rw [← h.same i hj]; exact e.1, ?_⟩)
  exact (h.is (i := i + 1) (by omega) (by decide)).1 e.2
theorem Hd.skf {a s : ByteArray} (h : Hd a s) {i j k : Nat} (hs : Sk a i j) (hk : Sk s (a.size + 1) k) : i ≤ a.size → j = a.size → Sk s i k := by
 induction hs with
 | @blank i j h1 h2 _ ih => intro hi hj; exact .blank (by have := h.lt; omega) (by rw [h.same i h1]; exact h2) (ih (by omega) hj)
 | @note i j h1 h2 _ ih =>
  intro hi hj
  have l1 := cb_in (s := a) (i := i) (by omega)
  have l2 := cb_in (s := a) (i := i + 1) (by omega)
  refine .note (by rw [h.same i l1]; exact h1) (by rw [h.same (i + 1) l2]; exact h2) ?_
  rw [h.fn rfl a.size i (by omega) (by omega)]
  exact ih (fn_le _ _ _ (by omega)) hj
 | @stop i h1 h2 =>
  intro hi hj
  subst hj
  exact .blank h.lt (by rw [h.feed]; rfl) hk
end Go.Proofs.YtfaogccfiklinaaDoor.Pl
