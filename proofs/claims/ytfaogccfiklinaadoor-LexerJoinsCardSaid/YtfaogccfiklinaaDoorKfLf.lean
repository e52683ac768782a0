/- A token, the next token: the program and the document come to the same. -/
import Derived.Test.YtfaogccfiklinaaDoorKfLe
set_option linter.unusedVariables false
set_option linter.unusedSimpArgs false
namespace Go.Proofs.YtfaogccfiklinaaDoor.Pl
open Go.RowKit Go.Proofs.YtfaogccfiklinaaDoorW.PrintWords
open Go.Proofs.YtfaogccfiklinaaDoor.Q
theorem rletter_f (r : Int) : skerryref18_letter.f r = some (letterB r) := by
 unfold skerryref18_letter.f letterB
 repeat' split
 all_goals (congr 1; simp [*])
def ltr (s : ByteArray) (i : Nat) : Bool := letterB (cb s i : Int)
theorem wordc_eq (b : Nat) : wordc b = (letterB (b : Int) || (digitB (b : Int) || (b == 95))) := by
 unfold wordc letterB digitB
 rw [Bool.eq_iff_iff]
 simp
 omega
theorem rw_l0 (s : ByteArray) (hs : s.size ≤ 1000) (a : Nat) (q : R8) : ∀ (d i : Nat), s.size ≤ d + i → i ≤ s.size → Ev (fun k => skerryref18_word.j1 k s (a : Int) ((fn wordc s i : Nat) : Int)) q → Ev (fun k => skerryref18_word.l0 k s (a : Int) (i : Int)) q := by
 intro d
 induction d with
 | zero =>
  intro i h hi he
  rw [fn_no (fun h2 => by omega)] at he
  exact Ev.step (fun k => by rw [skerryref18_word.l0, if_neg (by omega)]) he
 | succ d ih =>
  intro i h hi he
  by_cases hlt : i < s.size
  ·
   have w1 : wrap64 ((i : Int) + 1) = ((i + 1 : Nat) : Int) := wr1 (by omega) 1 (by omega)
   by_cases hw : wordc (cb s i) = true
   ·
    rw [fn_yes hlt hw] at he
    have hnext := ih (i + 1) (by omega) (by omega) he
    refine Ev.step (fun k => ?_) hnext
    rw [skerryref18_word.l0, if_pos (by omega), if_pos (by omega), bt_cb, rletter_f, Option.bind_some, w1]
    rw [wordc_eq] at hw
    by_cases g1 : letterB (cb s i : Int) = true
    ·
     rw [if_pos g1]
    ·
     rw [if_neg g1, rdig_f, Option.bind_some]
     by_cases g2 : digitB (cb s i : Int) = true
     ·
      rw [if_pos g2]
     ·
      rw [if_neg g2]
      rw [Bool.eq_false_iff.2 g1, Bool.eq_false_iff.2 g2, Bool.false_or, Bool.false_or, beq_iff_eq] at hw
      rw [if_pos (by omega)]
   ·
    rw [fn_no (fun _ => Bool.eq_false_iff.2 hw)] at he
    refine Ev.step (fun k => ?_) he
    rw [skerryref18_word.l0, if_pos (by omega), if_pos (by omega), bt_cb, rletter_f, Option.bind_some]
    rw [wordc_eq, Bool.or_eq_true, Bool.or_eq_true, not_or, not_or, beq_iff_eq] at hw
    rw [if_neg hw.1, rdig_f, Option.bind_some, if_neg hw.2.1, if_neg (by have := hw.2.2; omega)]
  ·
   rw [fn_no (fun h2 => by omega)] at he
   exact Ev.step (fun k => by rw [skerryref18_word.l0, if_neg (by omega)]) he
theorem ref_word (s : ByteArray) (hs : s.size ≤ 1000) (a : Nat) (ha : a ≤ s.size) : Ev (fun k => skerryref18_word.f k s (a : Int)) (wTok s a) := by
 refine rw_l0 s hs a _ s.size a (by omega) ha ?_
 have h1 := fn_le wordc s a ha
 have h0 := fn_ge wordc s a
 have hz : (s.extract a (wEnd s a)).size ≤ 1000 := by rw [ByteArray.size_extract]; omega
 have hn : Ev (fun k => skerryref04_Name.f k (By.mapB lowG (s.extract a (wEnd s a)))) (nameB (By.mapB lowG (s.extract a (wEnd s a)))) := ⟨30, fun k hk => name_f k hk _⟩
 refine Ev.step (f := fun k => (skerryref18_Word.f k (s.extract a (wEnd s a))).bind fun t => if t = true then some (2, By.mapB upG (s.extract a (wEnd s a)), 0, 0, (⟨#[]⟩ : ByteArray), (a : Int), ((wEnd s a : Nat) : Int), (-1)) else (skerryref04_Name.f k (By.mapB lowG (s.extract a (wEnd s a)))).bind fun u => if u = true then some (3, By.mapB lowG (s.extract a (wEnd s a)), 0, 0, (⟨#[]⟩ : ByteArray), (a : Int), ((wEnd s a : Nat) : Int), (-1)) else some (bad (a : Int))) (fun k => ?_) ?_
 ·
  rw [skerryref18_word.j1, if_pos (by omega), if_pos (by omega), if_pos (by omega), Int.toNat_natCast, Int.toNat_natCast]
  unfold skerryref16_Upper.f skerryref18_Lower.f
  rw [if_pos (show (s.extract a (fn wordc s a)).size ≤ 9223372036854775807 from Nat.le_trans hz (by decide)), if_pos (show (s.extract a (fn wordc s a)).size ≤ 9223372036854775807 from Nat.le_trans hz (by decide)), Option.bind_some, Option.bind_some]
  rfl
 ·
  refine Ev.bind (rWord _ hz) ?_
  unfold wTok
  by_cases hw : isWord (s.extract a (wEnd s a)).data.toList = true
  ·
   rw [if_pos hw]; exact Ev.congr (fun k => if_pos hw) (Ev.now _)
  ·
   rw [if_neg hw]
   refine Ev.congr (fun k => if_neg hw) ?_
   refine Ev.bind hn ?_
   by_cases hn2 : nameB (By.mapB lowG (s.extract a (wEnd s a))) = true
   ·
    rw [if_pos hn2, if_pos hn2]; exact Ev.now _
   ·
    rw [if_neg hn2, if_neg hn2]; exact Ev.now _
def isSign (c : Nat) : Bool := [61, 60, 40, 41, 44, 42].contains c
def sTok (s : ByteArray) (a : Nat) : R8 :=
 if cb s a = 62 ∧ cb s (a + 1) = 61 then (1, (⟨#[62, 61]⟩ : ByteArray), 0, 0, (⟨#[]⟩ : ByteArray), (a : Int), ((a + 2 : Nat) : Int), (-1))
 else if isSign (cb s a) = true then (1, s.extract a (a + 1), 0, 0, (⟨#[]⟩ : ByteArray), (a : Int), ((a + 1 : Nat) : Int), (-1)) else bad (a : Int)
theorem sign_ix : ∀ b : Fin 256, (Lib.indexByte [61, 60, 40, 41, 44, 42] (b.val.toUInt8) < 0) ↔ isSign b.val = false := by decide +kernel
theorem ge_ext {s : ByteArray} {a : Nat} (h1 : cb s a = 62) (h2 : cb s (a + 1) = 61) : s.extract a (a + 2) = ⟨#[62, 61]⟩ := by
 have hin := cb_in (s := s) (i := a + 1) (by omega)
 refine ext_bytes (by rw [ByteArray.size_extract]; show _ = 2; omega) (fun i hi => ?_)
 rw [ByteArray.size_extract] at hi
 rw [ext_get s a (a + 2) i (by omega) (by omega)]
 rcases (by omega : i = 0 ∨ i = 1) with rfl | rfl
 ·
  rw [Nat.add_zero, h1]; rfl
 ·
  rw [h2]; rfl
theorem lex_sign (s : ByteArray) (hs : s.size ≤ 1000) (a : Nat) (ha : a < s.size) : lexer_cutter_sign.f s (a : Int) = some (sTok s a) := by
 unfold lexer_cutter_sign.f sTok lexer_cutter_token.f
 rw [rest_f' s a (by omega), Option.bind_some, prefix_f s a (by omega) 62 61 (by decide) (by decide), Option.bind_some, show UInt8.toNat 62 = 62 from rfl, show UInt8.toNat 61 = 61 from rfl]
 by_cases h : cb s a = 62 ∧ cb s (a + 1) = 61
 ·
  have hin := cb_in (s := s) (i := a + 1) (by omega)
  have hw := wr1 (n := a) (by omega) 2 (by omega)
  rw [show ((2 : Nat) : Int) = 2 from rfl] at hw
  rw [if_pos (decide_eq_true h), if_pos h, Option.bind_some, Option.bind_some, if_pos (by omega), if_pos (by rw [ByteArray.size_extract]; omega), hw, ext_ext, Nat.min_eq_left (by omega), ge_ext h.1 h.2]
 ·
  have p0 := peek_f s hs a 0 (by omega) (by omega)
  have hw := wr1 (n := a) (by omega) 1 (by omega)
  rw [show ((1 : Nat) : Int) = 1 from rfl] at hw
  rw [show ((0 : Nat) : Int) = 0 from rfl, Nat.add_zero] at p0
  rw [if_neg (by rw [decide_eq_true_eq]; exact h), if_neg h, p0, Option.bind_some]
  unfold strings_IndexByte.f
  rw [Option.bind_some, Int.toNat_natCast]
  have hx := sign_ix ⟨cb s a, cb_lt s a⟩
  simp only at hx
  by_cases h2 : isSign (cb s a) = true
  ·
   rw [if_neg (fun e => by rw [hx.1 e] at h2; cases h2), if_pos h2, Option.bind_some, Option.bind_some, if_pos (by omega), if_pos (by rw [ByteArray.size_extract]; omega), hw, ext_ext, Nat.min_eq_left (by omega)]
  ·
   rw [if_pos (hx.2 (Bool.eq_false_iff.2 h2)), if_neg h2, wrong_f]
theorem rs_l0 (s : ByteArray) (hs : s.size ≤ 1000) (a : Nat) (ha : a < s.size) : ∀ (d i : Nat), i + d = 6 → (∀ j, j < i → ([61, 60, 40, 41, 44, 42] : List Int).getD j 0 ≠ (cb s a : Int)) →
  Ev (fun k => skerryref18_one.l0 k s (a : Int) (cb s a : Int) ([61, 60, 40, 41, 44, 42] : List Int) 6 (i : Int)) (if isSign (cb s a) = true then (1, s.extract a (a + 1), 0, 0, (⟨#[]⟩ : ByteArray), (a : Int), ((a + 1 : Nat) : Int), (-1)) else bad (a : Int)) := by
 intro d
 induction d with
 | zero =>
  intro i h hj
  have hn : isSign (cb s a) = false := by
   rw [Bool.eq_false_iff]
   intro e
   unfold isSign at e
   have q0 := hj 0 (by omega)
   have q1 := hj 1 (by omega)
   have q2 := hj 2 (by omega)
   have q3 := hj 3 (by omega)
   have q4 := hj 4 (by omega)
   have q5 := hj 5 (by omega)
   simp at q0 q1 q2 q3 q4 q5
   simp at e
   omega
  rw [if_neg (by rw [hn]; simp)]
  exact Ev.step (fun k => by rw [skerryref18_one.l0, if_neg (by omega)]; rfl) (Ev.now _)
 | succ d ih =>
  intro i h hj
  have w1 : wrap64 ((a : Int) + 1) = ((a + 1 : Nat) : Int) := wr1 (by omega) 1 (by omega)
  have w2 : wrap64 ((i : Int) + 1) = ((i + 1 : Nat) : Int) := wr1 (by omega) 1 (by omega)
  by_cases he : ([61, 60, 40, 41, 44, 42] : List Int).getD i 0 = (cb s a : Int)
  ·
   have hy : isSign (cb s a) = true := by
    unfold isSign
    rcases (by omega : i = 0 ∨ i = 1 ∨ i = 2 ∨ i = 3 ∨ i = 4 ∨ i = 5) with rfl | rfl | rfl | rfl | rfl | rfl <;> simp at he <;> simp <;> omega
   rw [if_pos hy]
   refine Ev.step (fun k => ?_) (Ev.now _)
   rw [skerryref18_one.l0, if_pos (by omega), if_pos (by omega), if_pos (by simp; omega), if_pos (by unfold rd; rw [Int.toNat_natCast]; exact he.symm), if_pos (by omega), w1, if_pos (by omega), if_pos (by omega), Int.toNat_natCast, Int.toNat_natCast]
  ·
   refine Ev.step (fun k => ?_) (ih (i + 1) (by omega) (fun j hlt => by
    rcases Nat.lt_or_ge j i with h' | h'
    ·
     exact hj j h'
    ·
     rw [show j = i by omega]; exact he))
   rw [skerryref18_one.l0, if_pos (by omega), if_pos (by omega), if_pos (by simp; omega), if_neg (by unfold rd; rw [Int.toNat_natCast]; exact fun e => he e.symm), w2]
def isNum (s : ByteArray) (a : Nat) : Prop := dg s a = true ∨ (cb s a = 45 ∧ dg s (a + 1) = true)
instance (s : ByteArray) (a : Nat) : Decidable (isNum s a) := by unfold isNum; infer_instance
def numAt (s : ByteArray) (a : Nat) : Nat := if cb s a = 45 then a + 1 else a
inductive OneR (s : ByteArray) (a : Nat) : R8 → Prop
 | num {r : Option (Nat × Int)} : isNum s a → NumR s (numAt s a) 0 r → OneR s a (numOut (a : Int) (cb s a == 45) r)
 | quo {r : Nat × Option (List Int)} : cb s a = 39 → QR s (a + 1) [] r → OneR s a (qOut (a : Int) r)
 | word : ltr s a = true → OneR s a (wTok s a)
 | sign : ¬ isNum s a → cb s a ≠ 39 → ltr s a = false → OneR s a (sTok s a)
theorem beq45 (b : Nat) : ((b : Int) == 45) = (b == 45) := by
 by_cases h : b = 45
 ·
  rw [h]; rfl
 ·
  rw [beq_eq_false_iff_ne.2 h, beq_eq_false_iff_ne.2 (by omega)]
theorem isNum_eq (s : ByteArray) (a : Nat) : ((digitB (cb s a : Int) || ((cb s a : Int) == 45 && digitB (cb s (a + 1) : Int))) = true) = (isNum s a) := by
 unfold isNum dg
 rw [beq45]
 simp
theorem isNum_in {s : ByteArray} {a : Nat} (h : isNum s a) : a < s.size := by
 rcases h with h | h
 ·
  exact dg_in h
 ·
  exact cb_in (by omega)
theorem ltr_not {s : ByteArray} {a : Nat} (h : ltr s a = true) : ¬ isNum s a ∧ cb s a ≠ 39 := by
 have hl : (97 ≤ cb s a ∧ cb s a ≤ 122) ∨ (65 ≤ cb s a ∧ cb s a ≤ 90) := by
  unfold ltr letterB at h
  simp at h
  omega
 refine ⟨fun e => ?_, by omega⟩
 rcases e with e | e
 ·
  unfold dg digitB at e
  simp at e
  omega
 ·
  omega
theorem quo_not {s : ByteArray} {a : Nat} (h : cb s a = 39) : ¬ isNum s a := by
 rintro (e | e)
 ·
  unfold dg at e; rw [h] at e; cases e
 ·
  omega
theorem OneR.total (s : ByteArray) (a : Nat) (ha : a < s.size) : ∃ r, OneR s a r := by
 by_cases h1 : isNum s a
 ·
  obtain ⟨r, hr⟩ := NumR.total s s.size (numAt s a) 0 (by omega)
  exact ⟨_, .num h1 hr⟩
 ·
  by_cases h2 : cb s a = 39
  ·
   obtain ⟨r, hr⟩ := QR.total s s.size (a + 1) [] (by omega) (by omega) (by simp)
   exact ⟨_, .quo h2 hr⟩
  ·
   cases h3 : ltr s a with
   | true => exact ⟨_, .word h3⟩
   | false => exact ⟨_, .sign h1 h2 h3⟩
theorem numAt_le {s : ByteArray} {a : Nat} (h : isNum s a) : numAt s a ≤ s.size := by
 have := isNum_in h
 unfold numAt
 split <;> omega
theorem numAt_skp {s : ByteArray} {a : Nat} (h : isNum s a) : skp s (numAt s a) = numAt s a := by
 have hd : dg s (numAt s a) = true := by
  unfold numAt
  rcases h with h | h
  ·
   rw [if_neg]
   ·
    exact h
   ·
    intro e; unfold dg at h; rw [e] at h; cases h
  ·
   rw [if_pos h.1]; exact h.2
 unfold skp
 rw [if_neg]
 rintro ⟨e, _⟩
 unfold dg at hd
 rw [e] at hd
 cases hd
theorem lex_one {s : ByteArray} (hs : s.size ≤ 1000) {a : Nat} {r : R8} (h : OneR s a r) (ha : a < s.size) : Ev (fun k => next_way k s (a : Int) (cb s a : Int) (cb s (a + 1) : Int)) r := by
 have w1 : wrap64 ((a : Int) + 1) = ((a + 1 : Nat) : Int) := wr1 (by omega) 1 (by omega)
 have p0 := peek_f s hs a 0 (by omega) (by omega)
 rw [show ((0 : Nat) : Int) = 0 from rfl, Nat.add_zero] at p0
 unfold next_way
 cases h with
 | num h1 h2 =>
  have hl := lex_num hs h2 (numAt_le h1) (a : Int) (cb s a == 45)
  refine Ev.congr (fun k => if_pos (by rw [isNum_eq]; exact h1)) ?_
  unfold lexer_cutter_number.f
  refine Ev.congr (f := fun k => lexer_cutter_number.j0 k (a : Int) 0 (cb s a == 45) s ((numAt s a : Nat) : Int)) (fun k => ?_) (Ev.step (fun k => by rw [lexer_cutter_number.j0]) hl)
  rw [p0, Option.bind_some, beq45, w1]
  unfold numAt
  by_cases e : cb s a = 45
  ·
   rw [if_pos (by omega), if_pos e]
  ·
   rw [if_neg (by omega), if_neg e]
 | quo h1 h2 =>
  refine Ev.congr (fun k => (if_neg (by rw [isNum_eq]; exact quo_not h1)).trans (if_pos (by omega))) ?_
  have := lex_quo hs h2 (a : Int) (by omega) (by simp)
  unfold lexer_cutter_quoted.f
  rw [w1]
  exact this
 | word h1 =>
  refine Ev.congr (fun k => (if_neg (by rw [isNum_eq]; exact (ltr_not h1).1)).trans ((if_neg (by have := (ltr_not h1).2; omega)).trans (if_pos h1))) ?_
  rw [lex_word s hs a (by omega)]
  exact Ev.now _
 | sign h1 h2 h3 =>
  refine Ev.congr (fun k => (if_neg (by rw [isNum_eq]; exact h1)).trans ((if_neg (by omega)).trans (if_neg (by rw [show letterB (cb s a : Int) = false from h3]; simp)))) ?_
  rw [lex_sign s hs a ha]
  exact Ev.now _
theorem ref_number {s : ByteArray} (hs : s.size ≤ 1000) {a : Nat} {r : Option (Nat × Int)} (h1 : isNum s a) (h2 : NumR s (numAt s a) 0 r) : Ev (fun k => skerryref18_number.f k s (a : Int)) (numOut (a : Int) (cb s a == 45) r) := by
 have ha := isNum_in h1
 have w1 : wrap64 ((a : Int) + 1) = ((a + 1 : Nat) : Int) := wr1 (by omega) 1 (by omega)
 have hl := ref_num hs h2 (a : Int) (cb s a == 45) (numAt s a) (numAt_skp h1) (numAt_le h1)
 unfold skerryref18_number.f
 refine Ev.congr (f := fun k => skerryref18_number.j0 k s (a : Int) ((numAt s a : Nat) : Int) (cb s a == 45)) (fun k => ?_) (Ev.step (fun k => by rw [skerryref18_number.j0]) hl)
 rw [if_pos (by omega), if_pos (by omega), bt_cb, beq45, w1]
 unfold numAt
 by_cases e : cb s a = 45
 ·
  rw [if_pos (by omega), if_pos e]
 ·
  rw [if_neg (by omega), if_neg e]
theorem bind_id {α : Type} (x : Option α) : (x.bind fun q => some q) = x := by cases x <;> rfl
theorem ref_one {s : ByteArray} (hs : s.size ≤ 1000) {a : Nat} {r : R8} (h : OneR s a r) (ha : a < s.size) : Ev (fun k => skerryref18_one.f k s (a : Int)) r := by
 have w1 : wrap64 ((a : Int) + 1) = ((a + 1 : Nat) : Int) := wr1 (by omega) 1 (by omega)
 have w2 : wrap64 ((a : Int) + 2) = ((a + 2 : Nat) : Int) := wr1 (by omega) 2 (by omega)
 -- the first test
 have first : Ev (fun k => skerryref18_one.j0 k s (a : Int) (cb s a : Int) (decide (isNum s a))) r → Ev (fun k => skerryref18_one.f k s (a : Int)) r := by
  refine fun he => Ev.congr (fun k => ?_) he
  unfold skerryref18_one.f
  rw [if_pos (by omega), if_pos (by omega), bt_cb, rdig_f, Option.bind_some, w1]
  by_cases hd : digitB (cb s a : Int) = true
  ·
   rw [if_pos hd, hd, decide_eq_true (show isNum s a from .inl hd)]
  ·
   rw [if_neg hd]
   by_cases h45 : cb s a = 45
   ·
    rw [if_pos (by omega)]
    by_cases hlt : a + 1 < s.size
    ·
     rw [if_pos (by omega), if_pos (by omega), bt_cb, rdig_f, Option.bind_some]
     congr 1
     rw [Bool.eq_iff_iff, decide_eq_true_eq]
     unfold isNum
     exact ⟨fun e => .inr ⟨h45, e⟩, fun e => e.elim (fun e => absurd e hd) (fun e => e.2)⟩
    ·
     rw [if_neg (by omega), decide_eq_false]
     rintro (e | e)
     ·
      exact hd e
     ·
      have := dg_in e.2; omega
   ·
    rw [if_neg (by omega), decide_eq_false]
    rintro (e | e)
    ·
     exact hd e
    ·
     exact h45 e.1
 refine first ?_
 cases h with
 | num h1 h2 =>
  rw [decide_eq_true h1]
  refine Ev.step (f := fun k => skerryref18_number.f k s (a : Int)) (fun k => ?_) (ref_number hs h1 h2)
  rw [skerryref18_one.j0, if_pos rfl]
  exact bind_id _
 | quo h1 h2 =>
  rw [decide_eq_false (quo_not h1)]
  have hq := ref_quo hs h2 (a : Int) (by omega) (by simp)
  refine Ev.step (f := fun k => skerryref18_quoted.f k s (a : Int)) (fun k => ?_) (by unfold skerryref18_quoted.f; rw [w1]; exact hq)
  rw [skerryref18_one.j0, if_neg (by simp), if_pos (by omega)]
  exact bind_id _
 | word h1 =>
  rw [decide_eq_false (ltr_not h1).1]
  refine Ev.step (f := fun k => skerryref18_word.f k s (a : Int)) (fun k => ?_) (ref_word s hs a (by omega))
  rw [skerryref18_one.j0, if_neg (by simp), if_neg (by have := (ltr_not h1).2; omega), rletter_f, Option.bind_some, if_pos (show letterB (cb s a : Int) = true from h1)]
  exact bind_id _
 | sign h1 h2 h3 =>
  rw [decide_eq_false h1]
  have hl := rs_l0 s hs a ha 6 0 (by omega) (fun j hj => by omega)
  have hj1 : Ev (fun k => skerryref18_one.j1 k s (a : Int) (cb s a : Int)) (if isSign (cb s a) = true then (1, s.extract a (a + 1), 0, 0, (⟨#[]⟩ : ByteArray), (a : Int), ((a + 1 : Nat) : Int), (-1)) else bad (a : Int)) := by
   refine Ev.step (fun k => ?_) hl
   rw [skerryref18_one.j1]
   rfl
  have h3' : ¬ letterB (cb s a : Int) = true := by rw [show letterB (cb s a : Int) = false from h3]; simp
  unfold sTok
  by_cases h62 : cb s a = 62 ∧ cb s (a + 1) = 61
  ·
   rw [if_pos h62]
   have hin := cb_in (s := s) (i := a + 1) (by omega)
   refine Ev.step (fun k => ?_) (Ev.now _)
   rw [skerryref18_one.j0, if_neg (by simp), if_neg (by omega), rletter_f, Option.bind_some, if_neg h3', if_pos (by omega), w1, if_pos (by omega), if_pos (by omega), bt_cb, if_pos (by omega), w2]
  ·
   rw [if_neg h62]
   refine Ev.step (fun k => ?_) hj1
   rw [skerryref18_one.j0, if_neg (by simp), if_neg (by omega), rletter_f, Option.bind_some, if_neg h3', w1]
   by_cases g1 : cb s a = 62
   ·
    rw [if_pos (by omega)]
    by_cases g2 : a + 1 < s.size
    ·
     rw [if_pos (by omega), if_pos (by omega), bt_cb, if_neg (by omega)]
    ·
     rw [if_neg (by omega)]
   ·
    rw [if_neg (by omega)]
inductive NextR (s : ByteArray) (a : Nat) : Tok9 → Prop
 | fin : Sk s a s.size → NextR s a (0, (⟨#[]⟩ : ByteArray), 0, 0, (⟨#[]⟩ : ByteArray), (s.size : Int), (s.size : Int), 0, 0)
 | tok {j : Nat} {q : R8} : Sk s a j → j < s.size → OneR s j q → NextR s a (next_end q)
theorem NextR.total (s : ByteArray) (a : Nat) (ha : a ≤ s.size) : ∃ r, NextR s a r := by
 obtain ⟨j, hj⟩ := Sk.total s s.size a (by omega)
 rcases Nat.lt_or_ge j s.size with h | h
 ·
  obtain ⟨q, hq⟩ := OneR.total s j h
  exact ⟨_, .tok hj h hq⟩
 ·
  have := hj.le ha
  obtain rfl : j = s.size := by omega
  exact ⟨_, .fin hj⟩
theorem lex_next {s : ByteArray} (hs : s.size ≤ 600) {a : Nat} (ha : a ≤ s.size) {r : Tok9} (h : NextR s a r) : Ev (fun k => lexer_Next.f k s (a : Int)) r := by
 unfold lexer_Next.f
 refine Ev.congr (fun k => (if_neg (by omega)).trans (if_neg (by omega))) ?_
 cases h with
 | fin hj =>
  refine Ev.bind (by unfold lexer_cutter_blank.f; exact blank_ev (by omega) hj ha) ?_
  refine Ev.congr (fun k => ?_) (Ev.now _)
  unfold next_at lexer_cutter_token.f
  simp only
  rw [rest_f' s _ (Nat.le_refl _), Option.bind_some, if_pos (by rw [Lib.toList_data, List.eq_nil_iff_length_eq_zero, Array.length_toList]; show (s.extract s.size s.size).size = 0; rw [ByteArray.size_extract]; omega), Option.bind_some, Int.add_zero, wr (by omega)]
 | @tok j q hj hlt hq =>
  refine Ev.bind (by unfold lexer_cutter_blank.f; exact blank_ev (by omega) hj ha) ?_
  have p0 := peek_f s (by omega) j 0 (by omega) (by omega)
  have p1 := peek_f s (by omega) j 1 (by omega) (by omega)
  rw [show ((0 : Nat) : Int) = 0 from rfl, Nat.add_zero] at p0
  rw [show ((1 : Nat) : Int) = 1 from rfl] at p1
  have c0 := cb_lt s j
  have c1 := cb_lt s (j + 1)
  refine Ev.congr (fun k => ?_) (Ev.bind (f := fun _ q => some (next_end q)) (lex_one (by omega) hq hlt) (Ev.now (next_end q)))
  unfold next_at
  simp only
  rw [rest_f' s _ (by omega), Option.bind_some, if_neg (by rw [Lib.toList_data, List.eq_nil_iff_length_eq_zero, Array.length_toList]; show ¬ (s.extract j s.size).size = 0; rw [ByteArray.size_extract]; omega), p0, Option.bind_some, p1, Option.bind_some, if_pos (by omega)]
theorem ref_next {s : ByteArray} (hs : s.size ≤ 600) {a : Nat} (ha : a ≤ s.size) {r : Tok9} (h : NextR s a r) : Ev (fun k => skerryref18_Next.f k s (a : Int)) r := by
 unfold skerryref18_Next.f
 refine Ev.congr (f := fun k => skerryref18_Next.j0 k s (a : Int) false) (fun k => (if_neg (by omega)).trans ((if_neg (by omega)).trans (by rw [decide_eq_false (by omega)]))) ?_
 refine Ev.step (f := fun k => (skerryref18_skip.f k s (a : Int)).bind fun t => if t = (s.size : Int) then some (0, (⟨#[]⟩ : ByteArray), 0, 0, (⟨#[]⟩ : ByteArray), t, t, 0, 0) else (skerryref18_one.f k s t).bind fun q => some (next_end q)) (fun k => ?_) ?_
 ·
  rw [skerryref18_Next.j0, if_neg (by simp)]
  congr 1
  funext t
  by_cases ht : t = (s.size : Int)
  ·
   rw [if_pos ht, if_pos ht]
  ·
   rw [if_neg ht, if_neg ht]
   congr 1
   funext q
   unfold next_end
   by_cases hq : 0 ≤ q.2.2.2.2.2.2.2
   ·
    rw [if_pos (show q.2.2.2.2.2.2.2 ≥ 0 from hq), if_pos hq]
   ·
    rw [if_neg (show ¬ q.2.2.2.2.2.2.2 ≥ 0 from hq), if_neg hq]
 ·
  cases h with
  | fin hj =>
   refine Ev.bind (by unfold skerryref18_skip.f; exact ref_skip (by omega) hj ha) ?_
   exact Ev.congr (fun k => if_pos rfl) (Ev.now _)
  | @tok j q hj hlt hq =>
   refine Ev.bind (by unfold skerryref18_skip.f; exact ref_skip (by omega) hj ha) ?_
   refine Ev.congr (fun k => if_neg (by omega)) ?_
   exact Ev.bind (f := fun _ q => some (next_end q)) (ref_one (by omega) hq hlt) (Ev.now (next_end q))
end Go.Proofs.YtfaogccfiklinaaDoor.Pl
