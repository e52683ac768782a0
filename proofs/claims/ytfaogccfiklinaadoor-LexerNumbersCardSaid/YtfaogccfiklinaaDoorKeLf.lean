/- A token, the next token: the program and the document come to the same. -/
import Derived.Test.YtfaogccfiklinaaDoorKeLe
set_option linter.unusedVariables false
set_option linter.unusedSimpArgs false
namespace Go.Proofs.YtfaogccfiklinaaDoor.Pl
open Go.RowKit Go.Proofs.YtfaogccfiklinaaDoorW.PrintWords
open Go.Proofs.YtfaogccfiklinaaDoor.Q
def ltr (s : ByteArray) (i : Nat) : Bool := letterB (cb s i : Int)
theorem wordc_eq (b : Nat) : wordc b = (letterB (b : Int) || (digitB (b : Int) || (b == 95))) := by
 unfold wordc letterB digitB
 rw [Bool.eq_iff_iff]
 simp
 omega
def isSign (c : Nat) : Bool := [61, 60, 40, 41, 44, 42].contains c
def sTok (s : ByteArray) (a : Nat) : R8 :=
 if cb s a = 62 ∧ cb s (a + 1) = 61 then (1, (⟨#[62, 61]⟩ : ByteArray), 0, 0, (⟨#[]⟩ : ByteArray), (a : Int), ((a + 2 : Nat) : Int), (-1))
 else if isSign (cb s a) = true then (1, s.extract a (a + 1), 0, 0, (⟨#[]⟩ : ByteArray), (a : Int), ((a + 1 : Nat) : Int), (-1)) else bad (a : Int)
theorem sign_ix : ∀ b : Fin 256, (Lib.indexByte [61, 60, 40, 41, 44, 42] (b.val.toUInt8) < 0) ↔ isSign b.val = false := by decide +kernel
theorem ge_ext {s : ByteArray} {a : Nat} (h1 : cb s a = 62) (h2 : cb s (a + 1) = 61) : s.extract a (a + 2) = ⟨#[62, 61]⟩ := by
 have hin := cb_in (s := s) (i := a + 1) (by omega)
 refine ext_bytes (by rw [ByteArray.size_extract]; show _ = 2; omega) (fun i hi => ?_)
 rw [ByteArray.size_extract] at hi
 rw [ext_get s a (a + 2) i (by omega) (by omega)]
 rcases (by omega : i = 0 ∨ i = 1) with rfl | rfl
 ·
  rw [Nat.add_zero, h1]; rfl
 ·
  rw [h2]; rfl
theorem lex_sign (s : ByteArray) (hs : s.size ≤ 1000) (a : Nat) (ha : a < s.size) : lexer_cutter_sign.f s (a : Int) = some (sTok s a) := by
 unfold lexer_cutter_sign.f sTok lexer_cutter_token.f
 rw [rest_f' s a (by omega), Option.bind_some, prefix_f s a (by omega) 62 61 (by decide) (by decide), Option.bind_some, show UInt8.toNat 62 = 62 from rfl, show UInt8.toNat 61 = 61 from rfl]
 by_cases h : cb s a = 62 ∧ cb s (a + 1) = 61
 ·
  have hin := cb_in (s := s) (i := a + 1) (by omega)
  have hw := wr1 (n := a) (by omega) 2 (by omega)
  rw [show ((2 : Nat) : Int) = 2 from rfl] at hw
  rw [if_pos (decide_eq_true h), if_pos h, Option.bind_some, Option.bind_some, if_pos (by omega), if_pos (by rw [ByteArray.size_extract]; omega), hw, ext_ext, Nat.min_eq_left (by omega), ge_ext h.1 h.2]
 ·
  have p0 := peek_f s hs a 0 (by omega) (by omega)
  have hw := wr1 (n := a) (by omega) 1 (by omega)
  rw [show ((1 : Nat) : Int) = 1 from rfl] at hw
  rw [show ((0 : Nat) : Int) = 0 from rfl, Nat.add_zero] at p0
  rw [if_neg (by rw [decide_eq_true_eq]; exact h), if_neg h, p0, Option.bind_some]
  unfold strings_IndexByte.f
  rw [Option.bind_some, Int.toNat_natCast]
  have hx := sign_ix ⟨cb s a, cb_lt s a⟩
  simp only at hx
  by_cases h2 : isSign (cb s a) = true
  ·
   rw [if_neg (fun e => by rw [hx.1 e] at h2; cases h2), if_pos h2, Option.bind_some, Option.bind_some, if_pos (by omega), if_pos (by rw [ByteArray.size_extract]; omega), hw, ext_ext, Nat.min_eq_left (by omega)]
  ·
   rw [if_pos (hx.2 (Bool.eq_false_iff.2 h2)), if_neg h2, wrong_f]
def isNum (s : ByteArray) (a : Nat) : Prop := dg s a = true ∨ (cb s a = 45 ∧ dg s (a + 1) = true)
instance (s : ByteArray) (a : Nat) : Decidable (isNum s a) := by unfold isNum; infer_instance
def numAt (s : ByteArray) (a : Nat) : Nat := if cb s a = 45 then a + 1 else a
inductive OneR (s : ByteArray) (a : Nat) : R8 → Prop
 | num {r : Option (Nat × Int)} : isNum s a → NumR s (numAt s a) 0 r → OneR s a (numOut (a : Int) (cb s a == 45) r)
 | quo {r : Nat × Option (List Int)} : cb s a = 39 → QR s (a + 1) [] r → OneR s a (qOut (a : Int) r)
 | word : ltr s a = true → OneR s a (wTok s a)
 | sign : ¬ isNum s a → cb s a ≠ 39 → ltr s a = false → OneR s a (sTok s a)
theorem beq45 (b : Nat) : ((b : Int) == 45) = (b == 45) := by
 by_cases h : b = 45
 ·
  rw [h]; rfl
 ·
  rw [beq_eq_false_iff_ne.2 h, beq_eq_false_iff_ne.2 (by omega)]
theorem isNum_eq (s : ByteArray) (a : Nat) : ((digitB (cb s a : Int) || ((cb s a : Int) == 45 && digitB (cb s (a + 1) : Int))) = true) = (isNum s a) := by
 unfold isNum dg
 rw [beq45]
 simp
theorem isNum_in {s : ByteArray} {a : Nat} (h : isNum s a) : a < s.size := by
 rcases h with h | h
 ·
  exact dg_in h
 ·
  exact cb_in (by omega)
theorem ltr_not {s : ByteArray} {a : Nat} (h : ltr s a = true) : ¬ isNum s a ∧ cb s a ≠ 39 := by
 have hl : (97 ≤ cb s a ∧ cb s a ≤ 122) ∨ (65 ≤ cb s a ∧ cb s a ≤ 90) := by
  unfold ltr letterB at h
  simp at h
  omega
 refine ⟨fun e => ?_, by omega⟩
 rcases e with e | e
 ·
  unfold dg digitB at e
  simp at e
  omega
 ·
  omega
theorem quo_not {s : ByteArray} {a : Nat} (h : cb s a = 39) : ¬ isNum s a := by
 rintro (e | e)
 ·
  unfold dg at e; rw [h] at e; cases e
 ·
  omega
theorem OneR.total (s : ByteArray) (a : Nat) (ha : a < s.size) : ∃ r, OneR s a r := by
 by_cases h1 : isNum s a
 ·
  obtain ⟨r, hr⟩ := NumR.total s s.size (numAt s a) 0 (by omega)
  exact ⟨_, .num h1 hr⟩
 ·
  by_cases h2 : cb s a = 39
  ·
   obtain ⟨r, hr⟩ := QR.total s s.size (a + 1) [] (by omega) (by omega) (by simp)
   exact ⟨_, .quo h2 hr⟩
  ·
   cases h3 : ltr s a with
   | true => exact ⟨_, .word h3⟩
   | false => exact ⟨_, .sign h1 h2 h3⟩
theorem numAt_le {s : ByteArray} {a : Nat} (h : isNum s a) : numAt s a ≤ s.size := by
 have := isNum_in h
 unfold numAt
 split <;> omega
theorem numAt_skp {s : ByteArray} {a : Nat} (h : isNum s a) : skp s (numAt s a) = numAt s a := by
 have hd : dg s (numAt s a) = true := by
  unfold numAt
  rcases h with h | h
  ·
   rw [if_neg]
   ·
    exact h
   ·
    intro e; unfold dg at h; rw [e] at h; cases h
  ·
   rw [if_pos h.1]; exact h.2
 unfold skp
 rw [if_neg]
 rintro ⟨e, _⟩
 unfold dg at hd
 rw [e] at hd
 cases hd
theorem lex_one {s : ByteArray} (hs : s.size ≤ 1000) {a : Nat} {r : R8} (h : OneR s a r) (ha : a < s.size) : Ev (fun k => next_way k s (a : Int) (cb s a : Int) (cb s (a + 1) : Int)) r := by
 have w1 : wrap64 ((a : Int) + 1) = ((a + 1 : Nat) : Int) := wr1 (by omega) 1 (by omega)
 have p0 := peek_f s hs a 0 (by omega) (by omega)
 rw [show ((0 : Nat) : Int) = 0 from rfl, Nat.add_zero] at p0
 unfold next_way
 cases h with
 | num h1 h2 =>
  have hl := lex_num hs h2 (numAt_le h1) (a : Int) (cb s a == 45)
  refine Ev.congr (fun k => if_pos (by rw [isNum_eq]; exact h1)) ?_
  unfold lexer_cutter_number.f
  refine Ev.congr (f := fun k => lexer_cutter_number.j0 k (a : Int) 0 (cb s a == 45) s ((numAt s a : Nat) : Int)) (fun k => ?_) (Ev.step (fun k => by rw [lexer_cutter_number.j0]) hl)
  rw [p0, Option.bind_some, beq45, w1]
  unfold numAt
  by_cases e : cb s a = 45
  ·
   rw [if_pos (by omega), if_pos e]
  ·
   rw [if_neg (by omega), if_neg e]
 | quo h1 h2 =>
  refine Ev.congr (fun k => (if_neg (by rw [isNum_eq]; exact quo_not h1)).trans (if_pos (by omega))) ?_
  have := lex_quo hs h2 (a : Int) (by omega) (by simp)
  unfold lexer_cutter_quoted.f
  rw [w1]
  exact this
 | word h1 =>
  refine Ev.congr (fun k => (if_neg (by rw [isNum_eq]; exact (ltr_not h1).1)).trans ((if_neg (by have := (ltr_not h1).2; omega)).trans (if_pos h1))) ?_
  rw [lex_word s hs a (by omega)]
  exact Ev.now _
 | sign h1 h2 h3 =>
  refine Ev.congr (fun k => (if_neg (by rw [isNum_eq]; exact h1)).trans ((if_neg (by omega)).trans (if_neg (by rw [show letterB (cb s a : Int) = false from h3]; simp)))) ?_
  rw [lex_sign s hs a ha]
  exact Ev.now _
inductive NextR (s : ByteArray) (a : Nat) : Tok9 → Prop
 | fin : Sk s a s.size → NextR s a (0, (⟨#[]⟩ : ByteArray), 0, 0, (⟨#[]⟩ : ByteArray), (s.size : Int), (s.size : Int), 0, 0)
 | tok {j : Nat} {q : R8} : Sk s a j → j < s.size → OneR s j q → NextR s a (next_end q)
theorem NextR.total (s : ByteArray) (a : Nat) (ha : a ≤ s.size) : ∃ r, NextR s a r := by
 obtain ⟨j, hj⟩ := Sk.total s s.size a (by omega)
 rcases Nat.lt_or_ge j s.size with h | h
 ·
  obtain ⟨q, hq⟩ := OneR.total s j h
  exact ⟨_, .tok hj h hq⟩
 ·
  have := hj.le ha
  obtain rfl : j = s.size := by omega
  exact ⟨_, .fin hj⟩
theorem lex_next {s : ByteArray} (hs : s.size ≤ 600) {a : Nat} (ha : a ≤ s.size) {r : Tok9} (h : NextR s a r) : Ev (fun k => lexer_Next.f k s (a : Int)) r := by
 unfold lexer_Next.f
 refine Ev.congr (fun k => (if_neg (by omega)).trans (if_neg (by omega))) ?_
 cases h with
 | fin hj =>
  refine Ev.bind (by unfold lexer_cutter_blank.f; exact blank_ev (by omega) hj ha) ?_
  refine Ev.congr (fun k => ?_) (Ev.now _)
  unfold next_at lexer_cutter_token.f
  simp only
  rw [rest_f' s _ (Nat.le_refl _), Option.bind_some, if_pos (by rw [Lib.toList_data, List.eq_nil_iff_length_eq_zero, Array.length_toList]; show (s.extract s.size s.size).size = 0; rw [ByteArray.size_extract]; omega), Option.bind_some, Int.add_zero, wr (by omega)]
 | @tok j q hj hlt hq =>
  refine Ev.bind (by unfold lexer_cutter_blank.f; exact blank_ev (by omega) hj ha) ?_
  have p0 := peek_f s (by omega) j 0 (by omega) (by omega)
  have p1 := peek_f s (by omega) j 1 (by omega) (by omega)
  rw [show ((0 : Nat) : Int) = 0 from rfl, Nat.add_zero] at p0
  rw [show ((1 : Nat) : Int) = 1 from rfl] at p1
  have c0 := cb_lt s j
  have c1 := cb_lt s (j + 1)
  refine Ev.congr (fun k => ?_) (Ev.bind (f := fun _ q => some (next_end q)) (lex_one (by omega) hq hlt) (Ev.now (next_end q)))
  unfold next_at
  simp only
  rw [rest_f' s _ (by omega), Option.bind_some, if_neg (by rw [Lib.toList_data, List.eq_nil_iff_length_eq_zero, Array.length_toList]; show ¬ (s.extract j s.size).size = 0; rw [ByteArray.size_extract]; omega), p0, Option.bind_some, p1, Option.bind_some, if_pos (by omega)]
end Go.Proofs.YtfaogccfiklinaaDoor.Pl
