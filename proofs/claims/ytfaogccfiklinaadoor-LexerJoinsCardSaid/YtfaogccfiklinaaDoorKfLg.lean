/- A whole text in tokens: the program and the document come to the same. -/
import Derived.Test.YtfaogccfiklinaaDoorKfPNexts
import Derived.Test.YtfaogccfiklinaaDoorKfQx26
import Derived.Test.YtfaogccfiklinaaDoorKfJ14
set_option linter.unusedVariables false
set_option linter.unusedSimpArgs false
namespace Go.Proofs.YtfaogccfiklinaaDoor.Pl
open Go.RowKit Go.Proofs.YtfaogccfiklinaaDoorW.PrintWords
open Go.Proofs.YtfaogccfiklinaaDoor.Q
inductive OF (s : ByteArray) (a : Nat) : R8 → Prop
 | wrong (p : Nat) : p ≤ s.size → OF s a (bad (p : Int))
 | tok (kd : Int) (S : ByteArray) (x y : Int) (z : ByteArray) (j : Nat) : a < j → j ≤ s.size → 1 ≤ kd → kd ≤ 4 → (kd = 1 → S = s.extract a j) → OF s a (kd, S, x, y, z, (a : Int), (j : Int), (-1))
theorem skp_le2 {s : ByteArray} {i : Nat} (hi : i ≤ s.size) : i ≤ skp s i ∧ skp s i ≤ s.size := by
 unfold skp
 split
 ·
  rename_i h
  have := dg_in h.2
  omega
 ·
  exact ⟨Nat.le_refl _, hi⟩
theorem NumR.le {s : ByteArray} {i : Nat} {v : Int} {r : Option (Nat × Int)} (h : NumR s i v r) : i ≤ s.size → ∀ j w, r = some (j, w) → i ≤ j ∧ j ≤ s.size ∧ (dg s i = true → i < j) := by
 induction h with
 | over _ _ => intro _ j w e; cases e
 | @more i v r h1 _ _ ih =>
  intro hi j w e
  have hlt := dg_in h1
  have hs := skp_le2 (s := s) (i := i + 1) (by omega)
  have := ih hs.2 j w e
  omega
 | @stop i v h1 =>
  intro hi j w e
  cases e
  exact ⟨Nat.le_refl _, hi, fun h2 => by rw [h1] at h2; cases h2⟩
theorem QR.le {s : ByteArray} {i : Nat} {b : List Int} {r : Nat × Option (List Int)} (h : QR s i b r) : i ≤ s.size → i ≤ r.1 ∧ r.1 ≤ s.size ∧ (∀ t, r.2 = some t → r.1 < s.size) := by
 induction h with
 | @stop i b h1 => intro hi; have := cb_in (s := s) (i := i) (by omega); exact ⟨Nat.le_refl _, hi, fun _ _ => this⟩
 | @fin i b h1 => intro hi; exact ⟨hi, Nat.le_refl _, fun _ e => by cases e⟩
 | @full i b h1 _ _ => intro hi; exact ⟨Nat.le_refl _, hi, fun _ e => by cases e⟩
 | @plain i b r _ h2 _ ih => intro hi; have := plain_in h2; have := ih (by omega); exact ⟨by omega, this.2⟩
 | @pct i b r _ h2 _ ih => intro hi; have := hex_in h2.2.2; have := ih (by omega); exact ⟨by omega, this.2⟩
 | @bad i b h1 _ _ _ _ => intro hi; exact ⟨Nat.le_refl _, hi, fun _ e => by cases e⟩
theorem OneR.facts {s : ByteArray} {a : Nat} {r : R8} (h : OneR s a r) (ha : a < s.size) : OF s a r := by
 cases h with
 | @num r h1 h2 =>
  have hd : dg s (numAt s a) = true := by
   unfold numAt
   rcases h1 with h | h
   ·
    rw [if_neg]
    ·
     exact h
    ·
     intro e; unfold dg at h; rw [e] at h; cases h
   ·
    rw [if_pos h.1]; exact h.2
  cases r with
  | none => exact .wrong a (by omega)
  | some r =>
   obtain ⟨j, w⟩ := r
   have hl := h2.le (numAt_le h1) j w rfl
   have hn : a ≤ numAt s a := by unfold numAt; split <;> omega
   have := hl.2.2 hd
   unfold numOut
   simp only
   by_cases hneg : (cb s a == 45) = true
   ·
    rw [if_pos hneg]
    exact .tok 4 _ _ _ _ j (by omega) hl.2.1 (by omega) (by omega) (fun e => by omega)
   ·
    rw [if_neg hneg]
    split
    ·
     exact .wrong a (by omega)
    ·
     exact .tok 4 _ _ _ _ j (by omega) hl.2.1 (by omega) (by omega) (fun e => by omega)
 | @quo r h1 h2 =>
  obtain ⟨i, o⟩ := r
  have hl := h2.le (by omega)
  cases o with
  | none => exact .wrong i hl.2.1
  | some t =>
   have := hl.2.2 t rfl
   simp only at hl this
   exact .tok 4 _ _ _ _ (i + 1) (by omega) (by omega) (by omega) (by omega) (fun e => by omega)
 | word h1 =>
  have hw : wordc (cb s a) = true := by
   rw [wordc_eq, show letterB (cb s a : Int) = true from h1]; rfl
  have h2 : a < wEnd s a := by
   unfold wEnd
   rw [fn_yes ha hw]
   exact fn_ge _ _ _
  have h3 := fn_le wordc s a (by omega)
  unfold wTok
  split
  ·
   exact .tok 2 _ _ _ _ (wEnd s a) h2 h3 (by omega) (by omega) (fun e => by omega)
  ·
   split
   ·
    exact .tok 3 _ _ _ _ (wEnd s a) h2 h3 (by omega) (by omega) (fun e => by omega)
   ·
    exact .wrong a (by omega)
 | sign h1 h2 h3 =>
  unfold sTok
  split
  ·
   rename_i h
   have hin := cb_in (s := s) (i := a + 1) (by omega)
   exact .tok 1 _ _ _ _ (a + 2) (by omega) (by omega) (by omega) (by omega) (fun _ => (ge_ext h.1 h.2).symm)
  ·
   split
   ·
    exact .tok 1 _ _ _ _ (a + 1) (by omega) (by omega) (by omega) (by omega) (fun _ => rfl)
   ·
    exact .wrong a (by omega)
inductive NF (s : ByteArray) (a : Nat) : Tok9 → Prop
 | wrong (p : Nat) : p ≤ s.size → NF s a (0, (⟨#[]⟩ : ByteArray), 0, 0, (⟨#[]⟩ : ByteArray), 0, 0, (p : Int), 11)
 | fin : NF s a (0, (⟨#[]⟩ : ByteArray), 0, 0, (⟨#[]⟩ : ByteArray), (s.size : Int), (s.size : Int), 0, 0)
 | tok (kd : Int) (S : ByteArray) (x y : Int) (z : ByteArray) (i j : Nat) : a ≤ i → i < j → j ≤ s.size → 1 ≤ kd → kd ≤ 4 → (kd = 1 → S = s.extract i j) → NF s a (kd, S, x, y, z, (i : Int), (j : Int), 0, 0)
theorem NextR.facts {s : ByteArray} {a : Nat} {r : Tok9} (h : NextR s a r) (ha : a ≤ s.size) : NF s a r := by
 cases h with
 | fin _ => exact .fin
 | @tok j q h1 h2 h3 =>
  have hl := h1.le ha
  cases h3.facts h2 with
  | wrong p hp =>
   unfold next_end bad
   simp only
   rw [if_pos (by omega)]
   exact .wrong p hp
  | tok kd S x y z e g1 g2 g3 g4 g5 =>
   unfold next_end
   simp only
   rw [if_neg (by omega)]
   exact .tok kd S x y z j e hl.1 g1 g2 g3 g4 g5
def t9 (r : Tok9) : S25 := ⟨r.1, r.2.1, (⟨r.2.2.1, r.2.2.2.1, r.2.2.2.2.1⟩ : S23), r.2.2.2.2.2.1, r.2.2.2.2.2.2.1⟩
def u29 (t : S25) : S29 := ⟨t.f0, t.f1, t.f2, t.f3, t.f4⟩
inductive LexR (s : ByteArray) : Nat → List S25 → List S25 × Int × Int → Prop
 | wrong {a : Nat} {l : List S25} {p : Nat} : NextR s a (0, (⟨#[]⟩ : ByteArray), 0, 0, (⟨#[]⟩ : ByteArray), 0, 0, (p : Int), 11) → p ≤ s.size → LexR s a l ([], (p : Int), 11)
 | fin {a : Nat} {l : List S25} : NextR s a (0, (⟨#[]⟩ : ByteArray), 0, 0, (⟨#[]⟩ : ByteArray), (s.size : Int), (s.size : Int), 0, 0) → LexR s a l (l ++ [⟨0, (⟨#[]⟩ : ByteArray), ⟨0, 0, (⟨#[]⟩ : ByteArray)⟩, (s.size : Int), (s.size : Int)⟩], 0, 0)
 | more {a : Nat} {l : List S25} {kd : Int} {S : ByteArray} {x y : Int} {z : ByteArray} {i j : Nat} {q : List S25 × Int × Int} : NextR s a (kd, S, x, y, z, (i : Int), (j : Int), 0, 0) → a ≤ i → i < j → j ≤ s.size → 1 ≤ kd → kd ≤ 4 → (kd = 1 → S = s.extract i j) →
   LexR s j (l ++ [⟨kd, S, ⟨x, y, z⟩, (i : Int), (j : Int)⟩]) q → LexR s a l q
theorem LexR.total (s : ByteArray) : ∀ (d a : Nat) (l : List S25), s.size ≤ d + a → a ≤ s.size → ∃ q, LexR s a l q := by
 intro d
 induction d using Nat.strongRecOn with
 | ind d ih =>
  intro a l h ha
  obtain ⟨r, hr⟩ := NextR.total s a ha
  cases hr.facts ha with
  | wrong p hp => exact ⟨_, .wrong hr hp⟩
  | fin => exact ⟨_, .fin hr⟩
  | tok kd S x y z i j g1 g2 g3 g4 g5 g6 =>
   obtain ⟨q, hq⟩ := ih (d - 1) (by omega) j (l ++ [⟨kd, S, ⟨x, y, z⟩, (i : Int), (j : Int)⟩]) (by omega) g3
   exact ⟨q, .more hr g1 g2 g3 g4 g5 g6 hq⟩
theorem lex_lex {s : ByteArray} (hs : s.size ≤ 600) {a : Nat} {l : List S25} {q : List S25 × Int × Int} (h : LexR s a l q) : a ≤ s.size → l.length ≤ a → Ev (fun k => lexer_Lex.l0 k s l (a : Int)) q := by
 induction h with
 | @wrong a l p h1 hp =>
  intro ha hl
  refine Ev.step (fun k => by rw [lexer_Lex.l0]) (Ev.bind (lex_next hs ha h1) ?_)
  exact Ev.congr (fun k => if_neg (by simp)) (Ev.now _)
 | @fin a l h1 =>
  intro ha hl
  refine Ev.step (fun k => by rw [lexer_Lex.l0]) (Ev.bind (lex_next hs ha h1) ?_)
  exact Ev.congr (fun k => (if_pos rfl).trans ((if_pos (by omega)).trans ((Option.bind_some ..).trans (if_pos rfl)))) (Ev.now _)
 | @more a l kd S x y z i j q h1 g1 g2 g3 g4 g5 g6 _ ih =>
  intro ha hl
  refine Ev.step (fun k => by rw [lexer_Lex.l0]) (Ev.bind (lex_next hs ha h1) ?_)
  exact Ev.congr (fun k => (if_pos rfl).trans ((if_pos (by omega)).trans ((Option.bind_some ..).trans (if_neg (by simp only; omega))))) (ih g3 (by simp; omega))
theorem ref_lex {s : ByteArray} (hs : s.size ≤ 600) {a : Nat} {l : List S25} {q : List S25 × Int × Int} (h : LexR s a l q) : a ≤ s.size → l.length ≤ a → Ev (fun k => skerryref18_Lex.l0 k s (l.map u29) (a : Int)) (q.1.map u29, q.2.1, q.2.2) := by
 induction h with
 | @wrong a l p h1 hp =>
  intro ha hl
  refine Ev.step (fun k => by rw [skerryref18_Lex.l0]) (Ev.bind (ref_next hs ha h1) ?_)
  exact Ev.congr (fun k => if_neg (by simp)) (Ev.now _)
 | @fin a l h1 =>
  intro ha hl
  refine Ev.step (fun k => by rw [skerryref18_Lex.l0]) (Ev.bind (ref_next hs ha h1) ?_)
  refine Ev.congr (fun k => (if_pos rfl).trans ((if_pos (by simp; omega)).trans ((Option.bind_some ..).trans (if_pos rfl)))) ?_
  simp only [List.map_append]
  exact Ev.now _
 | @more a l kd S x y z i j q h1 g1 g2 g3 g4 g5 g6 _ ih =>
  intro ha hl
  refine Ev.step (fun k => by rw [skerryref18_Lex.l0]) (Ev.bind (ref_next hs ha h1) ?_)
  have ih' := ih g3 (by simp; omega)
  simp only [List.map_append] at ih'
  exact Ev.congr (fun k => (if_pos rfl).trans ((if_pos (by simp; omega)).trans ((Option.bind_some ..).trans (if_neg (by simp only; omega))))) ih'
theorem lex_long {s : ByteArray} (h1 : 600 < s.size) : Ev (fun k => lexer_Lex.f k s) (([] : List S25), 0, 17) := by
 have h0 : Ev (fun k => lexer_Next.f k s 0) (0, (⟨#[]⟩ : ByteArray), 0, 0, (⟨#[]⟩ : ByteArray), 0, 0, 0, 17) := by unfold lexer_Next.f; exact Ev.congr (fun k => if_pos h1) (Ev.now _)
 unfold lexer_Lex.f
 refine Ev.step (fun k => by rw [lexer_Lex.l0]) (Ev.bind h0 ?_)
 exact Ev.congr (fun k => if_neg (by simp)) (Ev.now _)
theorem ref_long {s : ByteArray} (h1 : 600 < s.size) : Ev (fun k => skerryref18_Lex.f k s) (([] : List S29), 0, 17) := by
 have h0 : Ev (fun k => skerryref18_Next.f k s 0) (0, (⟨#[]⟩ : ByteArray), 0, 0, (⟨#[]⟩ : ByteArray), 0, 0, 0, 17) := by unfold skerryref18_Next.f; exact Ev.congr (fun k => if_pos (by omega)) (Ev.now _)
 unfold skerryref18_Lex.f
 refine Ev.step (fun k => by rw [skerryref18_Lex.l0]) (Ev.bind h0 ?_)
 exact Ev.congr (fun k => if_neg (by simp)) (Ev.now _)
inductive Chain (s : ByteArray) : Nat → List S25 → Prop
 | last {e : Nat} : e ≤ s.size → Chain s e [⟨0, (⟨#[]⟩ : ByteArray), ⟨0, 0, (⟨#[]⟩ : ByteArray)⟩, (s.size : Int), (s.size : Int)⟩]
 | cons {e : Nat} {kd : Int} {S : ByteArray} {v : S23} {i j : Nat} {l : List S25} : e ≤ i → i < j → j ≤ s.size → 1 ≤ kd → kd ≤ 4 → (kd = 1 → S = s.extract i j) → Chain s j l → Chain s e (⟨kd, S, v, (i : Int), (j : Int)⟩ :: l)
theorem LexR.out {s : ByteArray} {a : Nat} {l : List S25} {q : List S25 × Int × Int} (h : LexR s a l q) : a ≤ s.size → (∃ p : Nat, p ≤ s.size ∧ q = ([], (p : Int), 11)) ∨ ∃ m, q = (l ++ m, 0, 0) ∧ Chain s a m := by
 induction h with
 | @wrong a l p h1 hp => intro ha; exact .inl ⟨p, hp, rfl⟩
 | @fin a l h1 => intro ha; exact .inr ⟨_, rfl, .last ha⟩
 | @more a l kd S x y z i j q h1 g1 g2 g3 g4 g5 g6 _ ih =>
  intro ha
  rcases ih g3 with ⟨p, hp, e⟩ | ⟨m, e, hm⟩
  ·
   exact .inl ⟨p, hp, e⟩
  ·
   exact .inr ⟨_, by rw [e, List.append_assoc]; rfl, .cons g1 g2 g3 g4 g5 g6 hm⟩
theorem Chain.size {s : ByteArray} {e : Nat} {l : List S25} (h : Chain s e l) : l.length + e ≤ s.size + 1 := by
 induction h with
 | last h => simp; omega
 | cons h1 h2 h3 _ _ _ _ ih => simp only [List.length_cons]; omega
theorem lex_any (s : ByteArray) : (∃ (p : Nat) (e : Int), p ≤ s.size ∧ e ≠ 0 ∧ Ev (fun k => lexer_Lex.f k s) ([], (p : Int), e) ∧ Ev (fun k => skerryref18_Lex.f k s) ([], (p : Int), e)) ∨
  (s.size ≤ 600 ∧ ∃ m, LexR s 0 [] (m, 0, 0) ∧ Chain s 0 m ∧ Ev (fun k => lexer_Lex.f k s) (m, 0, 0) ∧ Ev (fun k => skerryref18_Lex.f k s) (m.map u29, 0, 0)) := by
 by_cases h1 : 600 < s.size
 ·
  exact .inl ⟨0, 17, by omega, by decide, lex_long h1, ref_long h1⟩
 ·
  obtain ⟨q, hq⟩ := LexR.total s s.size 0 [] (by omega) (by omega)
  have e1 := lex_lex (by omega) hq (by omega) (by simp)
  have e2 := ref_lex (by omega) hq (by omega) (by simp)
  rcases hq.out (by omega) with ⟨p, hp, rfl⟩ | ⟨m, rfl, hm⟩
  ·
   exact .inl ⟨p, 11, hp, by decide, e1, e2⟩
  ·
   refine .inr ⟨by omega, m, hq, hm, e1, e2⟩
end Go.Proofs.YtfaogccfiklinaaDoor.Pl
