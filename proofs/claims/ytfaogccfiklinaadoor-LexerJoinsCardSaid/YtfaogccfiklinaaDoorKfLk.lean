/- The tokens of two texts with a line feed between. -/
import Derived.Test.YtfaogccfiklinaaDoorKfLj
set_option linter.unusedVariables false
set_option linter.unusedSimpArgs false
namespace Go.Proofs.YtfaogccfiklinaaDoor.Pl
open Go.RowKit Go.Proofs.YtfaogccfiklinaaDoorW.PrintWords
open Go.Proofs.YtfaogccfiklinaaDoor.Q
theorem Tl.lt {d : Nat} {b s : ByteArray} (h : Tl d b s) {i : Nat} : d + i < s.size ↔ i < b.size := by rw [h.size]; omega
theorem Tl.dgt {d : Nat} {b s : ByteArray} (h : Tl d b s) (i : Nat) : dg s (d + i) = dg b i := by unfold dg; rw [h.same]
theorem Tl.skp {d : Nat} {b s : ByteArray} (h : Tl d b s) (i : Nat) : skp s (d + i) = d + skp b i := by
 unfold Pl.skp
 rw [h.same, Nat.add_assoc, h.dgt]
 split <;> omega
theorem Tl.fn {d : Nat} {b s : ByteArray} (h : Tl d b s) (p : Nat → Bool) : ∀ (k i : Nat), b.size ≤ k + i → fn p s (d + i) = d + fn p b i := by
 intro k
 induction k with
 | zero => intro i h1; rw [fn_no (fun q => by rw [h.lt] at q; omega), fn_no (fun q => by omega)]
 | succ k ih =>
  intro i h1
  by_cases h' : i < b.size
  ·
   cases hp : p (cb b i) with
   | true => rw [fn_yes (h.lt.2 h') (by rw [h.same]; exact hp), fn_yes h' hp, Nat.add_assoc, ih (i + 1) (by omega)]
   | false => rw [fn_no (fun _ => by rw [h.same]; exact hp), fn_no (fun _ => hp)]
  ·
   rw [fn_no (fun q => by rw [h.lt] at q; omega), fn_no (fun q => by omega)]
theorem Tl.num {d : Nat} {b s : ByteArray} (h : Tl d b s) {i : Nat} {v : Int} {r : Option (Nat × Int)} (hr : NumR b i v r) : NumR s (d + i) v (r.map fun q => (d + q.1, q.2)) := by
 induction hr with
 | @over i v h1 h2 => exact .over (by rw [h.dgt]; exact h1) (by rw [h.same]; exact h2)
 | @more i v r h1 h2 _ ih =>
  refine .more (by rw [h.dgt]; exact h1) (by rw [h.same]; exact h2) ?_
  rw [Nat.add_assoc, h.skp, h.same]
  exact ih
 | @stop i v h1 => exact .stop (by rw [h.dgt]; exact h1)
theorem Tl.quo {d : Nat} {b s : ByteArray} (h : Tl d b s) {i : Nat} {l : List Int} {r : Nat × Option (List Int)} (hr : QR b i l r) : QR s (d + i) l (d + r.1, r.2) := by
 induction hr with
 | @stop i l h1 => exact .stop (by rw [h.same]; exact h1)
 | @fin i l h1 =>
  have := QR.fin (s := s) (i := d + i) (b := l) (by rw [h.size, h1])
  rw [h.size] at this
  exact this
 | @full i l h1 h2 h3 => exact .full (h.lt.2 h1) (by rw [h.same]; exact h2) h3
 | @plain i l r h1 h2 _ ih =>
  refine .plain h1 (by rw [h.same]; exact h2) ?_
  rw [h.same, Nat.add_assoc]
  exact ih
 | @pct i l r h1 h2 _ ih =>
  have k0 := h.same i
  have k1 := h.same (i + 1)
  have k2 := h.same (i + 2)
  rw [← Nat.add_assoc] at k1 k2
  refine .pct h1 ⟨by rw [k0]; exact h2.1, by rw [k1]; exact h2.2.1, by rw [k2]; exact h2.2.2⟩ ?_
  have : hx2 s (d + i) = hx2 b i := by unfold hx2; rw [k1, k2]
  rw [this, Nat.add_assoc]
  exact ih
 | @bad i l h1 h2 h3 h4 h5 =>
  have k0 := h.same i
  have k1 := h.same (i + 1)
  have k2 := h.same (i + 2)
  rw [← Nat.add_assoc] at k1 k2
  exact .bad (h.lt.2 h1) h2 (by rw [k0]; exact h3) (by rw [k0]; exact h4) (by unfold pc at h5 ⊢; rw [k0, k1, k2]; exact h5)
theorem Tl.sk {d : Nat} {b s : ByteArray} (h : Tl d b s) {i j : Nat} (hs : Sk b i j) : Sk s (d + i) (d + j) := by
 induction hs with
 | @blank i j h1 h2 _ ih => exact .blank (h.lt.2 h1) (by rw [h.same]; exact h2) ih
 | @note i j h1 h2 _ ih =>
  refine .note (by rw [h.same]; exact h1) (by rw [Nat.add_assoc, h.same]; exact h2) ?_
  rw [h.fn noteB b.size i (by omega)]
  exact ih
 | @stop i h1 h2 => exact .stop (fun q => by rw [h.same]; exact h1 (h.lt.1 q)) (by rw [Nat.add_assoc, h.same, h.same]; exact h2)
def mv8 (d : Nat) (q : R8) : R8 := (q.1, q.2.1, q.2.2.1, q.2.2.2.1, q.2.2.2.2.1, q.2.2.2.2.2.1 + (d : Int), q.2.2.2.2.2.2.1 + (d : Int), q.2.2.2.2.2.2.2)
theorem Tl.one {d : Nat} {b s : ByteArray} (h : Tl d b s) {i : Nat} {q : R8} (hq : OneR b i q) (hok : q.2.2.2.2.2.2.2 < 0) : OneR s (d + i) (mv8 d q) := by
 have k0 := h.same i
 have k1 := h.dgt (i + 1)
 have kb := h.same (i + 1)
 rw [← Nat.add_assoc] at k1 kb
 have kd := h.dgt i
 have kn : isNum s (d + i) ↔ isNum b i := by unfold isNum; rw [k0, k1, kd]
 cases hq with
 | @num r h1 h2 =>
  have e : numAt s (d + i) = d + numAt b i := by unfold numAt; rw [k0]; split <;> omega
  have hn := h.num h2
  rw [← e] at hn
  have hr := OneR.num (kn.2 h1) hn
  rw [k0] at hr
  cases r with
  | none => exfalso; unfold numOut bad at hok; simp only at hok; omega
  | some q =>
   obtain ⟨j, w⟩ := q
   have e2 : mv8 d (numOut (i : Int) (cb b i == 45) (some (j, w))) = numOut ((d + i : Nat) : Int) (cb b i == 45) ((some (j, w)).map fun q => (d + q.1, q.2)) := by
    unfold numOut bad at hok
    simp only at hok
    simp only [Option.map_some]
    unfold numOut
    simp only
    by_cases g1 : (cb b i == 45) = true
    ·
     rw [if_pos g1, if_pos g1]; unfold mv8; simp only [Prod.mk.injEq, true_and, and_true]; omega
    ·
     rw [if_neg g1] at hok ⊢
     rw [if_neg g1]
     by_cases g2 : w = -9223372036854775808
     ·
      rw [if_pos g2] at hok; simp only at hok; omega
     ·
      rw [if_neg g2, if_neg g2]; unfold mv8; simp only [Prod.mk.injEq, true_and, and_true]; omega
   rw [e2]
   exact hr
 | @quo r h1 h2 =>
  obtain ⟨j, o⟩ := r
  cases o with
  | none => exfalso; unfold qOut bad at hok; simp only at hok; omega
  | some t =>
   have hn := h.quo h2
   rw [← Nat.add_assoc] at hn
   have hr := OneR.quo (by rw [k0]; exact h1) hn
   have e2 : mv8 d (qOut (i : Int) (j, some t)) = qOut ((d + i : Nat) : Int) (d + j, some t) := by
    unfold qOut mv8
    simp only [Prod.mk.injEq, true_and, and_true]
    omega
   rw [e2]
   exact hr
 | word h1 =>
  have hr := OneR.word (s := s) (a := d + i) (by unfold ltr at h1 ⊢; rw [k0]; exact h1)
  have hw : wEnd s (d + i) = d + wEnd b i := h.fn wordc b.size i (by omega)
  have e : wTok s (d + i) = mv8 d (wTok b i) := by
   unfold wTok at hok ⊢
   rw [hw, h.cut i (wEnd b i)]
   split
   ·
    unfold mv8; simp only [Prod.mk.injEq, true_and, and_true]; omega
   ·
    rename_i g1
    rw [if_neg g1] at hok
    split
    ·
     unfold mv8; simp only [Prod.mk.injEq, true_and, and_true]; omega
    ·
     rename_i g2
     rw [if_neg g2] at hok
     exfalso; unfold bad at hok; simp only at hok; omega
  rw [← e]
  exact hr
 | sign h1 h2 h3 =>
  have hr := OneR.sign (s := s) (a := d + i) (fun q => h1 (kn.1 q)) (by rw [k0]; exact h2) (by unfold ltr at h3 ⊢; rw [k0]; exact h3)
  have e : sTok s (d + i) = mv8 d (sTok b i) := by
   unfold sTok at hok ⊢
   rw [k0, kb, Nat.add_assoc d i 1, h.cut i (i + 1)]
   split
   ·
    unfold mv8; simp only [Prod.mk.injEq, true_and, and_true]; omega
   ·
    rename_i g1
    rw [if_neg g1] at hok
    split
    ·
     unfold mv8; simp only [Prod.mk.injEq, true_and, and_true]; omega
    ·
     rename_i g2
     rw [if_neg g2] at hok
     exfalso; unfold bad at hok; simp only at hok; omega
  rw [← e]
  exact hr
end Go.Proofs.YtfaogccfiklinaaDoor.Pl
