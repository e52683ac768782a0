/- LexerQuotes, in plain words: what Quote tells is read as the text that it quotes. -/
import Derived.Test.YtfaogccfiklinaaDoorKdJ31
import Derived.Test.YtfaogccfiklinaaDoorKdQx27
import Derived.Test.YtfaogccfiklinaaDoorKdQx35
set_option linter.unusedVariables false
set_option linter.unusedSimpArgs false
namespace Go.Proofs.YtfaogccfiklinaaDoor.Pl
open Go.RowKit Go.Proofs.YtfaogccfiklinaaDoorW.PrintWords
open Go.Proofs.YtfaogccfiklinaaDoor.Q
theorem size_nums (l : List Int) : (strOfNums l).size = l.length := by
 show (List.toArray _).size = _
 simp
theorem cb_nums {s : ByteArray} (p : List Int) (x : Int) (t : List Int) (e : s = strOfNums (p ++ x :: t)) (h0 : 0 ≤ x) (h1 : x < 256) : cb s p.length = x.toNat := by
 subst e
 have hl : p.length < (strOfNums (p ++ x :: t)).size := by rw [size_nums]; simp
 unfold cb
 rw [dif_pos hl]
 show ((List.toArray ((p ++ x :: t).map fun n => UInt8.ofNat n.toNat))[p.length]'(by simp)).toNat = _
 simp
 omega
theorem nums_data (s : ByteArray) : strOfNums (s.data.toList.map (fun b => (b.toNat : Int))) = s := by
 apply ByteArray.ext
 unfold strOfNums
 simp only [List.map_map]
 apply Array.ext'
 simp
 exact (List.map_congr_left (fun b _ => by simp)).trans (List.map_id _)
def hd (n : Nat) : Nat := if n < 10 then 48 + n else 55 + n
def e1 (b : Nat) : List Int := if plainB b = true then [(b : Int)] else [37, ((hd (b / 16) : Nat) : Int), ((hd (b % 16) : Nat) : Int)]
def enc : List Nat → List Int
 | [] => []
 | b :: l => e1 b ++ enc l
theorem hd_facts : ∀ b : Fin 256, hexv (hd (b.val / 16)) = ((b.val / 16 : Nat) : Int) ∧ hexv (hd (b.val % 16)) = ((b.val % 16 : Nat) : Int) ∧ hd (b.val / 16) < 256 ∧ hd (b.val % 16) < 256 := by decide +kernel
theorem hd_bt : ∀ b : Fin 256, bt (⟨#[48, 49, 50, 51, 52, 53, 54, 55, 56, 57, 65, 66, 67, 68, 69, 70]⟩ : ByteArray) ((b.val : Int) / 16) = (hd (b.val / 16) : Int) ∧ bt (⟨#[48, 49, 50, 51, 52, 53, 54, 55, 56, 57, 65, 66, 67, 68, 69, 70]⟩ : ByteArray) (Go.bits .and .u8 (b.val : Int) 15) = (hd (b.val % 16) : Int) ∧ 0 ≤ (b.val : Int) / 16 ∧ (b.val : Int) / 16 < 16 ∧ 0 ≤ Go.bits .and .u8 (b.val : Int) 15 ∧ Go.bits .and .u8 (b.val : Int) 15 < 16 := by decide +kernel
theorem enc_app (a b : List Nat) : enc (a ++ b) = enc a ++ enc b := by
 induction a with
 | nil => rfl
 | cons x a ih => simp only [List.cons_append, enc, ih, List.append_assoc]
theorem e1_len (b : Nat) : (e1 b).length ≤ 3 := by unfold e1; split <;> simp
theorem enc_len (l : List Nat) : (enc l).length ≤ 3 * l.length := by
 induction l with
 | nil => simp [enc]
 | cons b l ih => have := e1_len b; simp only [enc, List.length_append, List.length_cons]; omega
def bl (s : ByteArray) : List Nat := s.data.toList.map (fun b => b.toNat)
theorem bl_len (s : ByteArray) : (bl s).length = s.size := by unfold bl; simp
theorem bl_drop (s : ByteArray) (i : Nat) (h : i < s.size) : (bl s).drop i = cb s i :: (bl s).drop (i + 1) := by
 have h2 : i < (bl s).length := by rw [bl_len]; exact h
 rw [List.drop_eq_getElem_cons h2]
 congr 1
 unfold cb
 rw [dif_pos h]
 exact (List.getElem_map (fun b : UInt8 => b.toNat) (l := s.data.toList) (h := h2)).trans rfl
theorem bl_lt {s : ByteArray} {x : Nat} (h : x ∈ bl s) : x < 256 := by
 unfold bl at h
 obtain ⟨b, _, rfl⟩ := List.mem_map.1 h
 exact b.toNat_lt
theorem quote_l0 (s : ByteArray) (hs : s.size ≤ 150) : ∀ (d i : Nat) (acc : List Int), i + d = s.size → acc.length ≤ 1 + 3 * i → Ev (fun k => lexer_Quote.l0 k s acc (s.size : Int) (i : Int)) (strOfNums (acc ++ enc ((bl s).drop i) ++ [39])) := by
 intro d
 induction d with
 | zero =>
  intro i acc h ha
  refine Ev.step (fun k => ?_) (Ev.now _)
  rw [lexer_Quote.l0, if_neg (by omega), if_pos (by omega), List.drop_eq_nil_of_le (by rw [bl_len]; omega)]
  simp [enc]
 | succ d ih =>
  intro i acc h ha
  have w1 : wrap64 ((i : Int) + 1) = ((i + 1 : Nat) : Int) := wr1 (by omega) 1 (by omega)
  have hb := hd_bt ⟨cb s i, cb_lt s i⟩
  simp only at hb
  have he := bl_drop s i (by omega)
  by_cases hp : plainB (cb s i) = true
  ·
   have g := ih (i + 1) (acc ++ [(cb s i : Int)]) (by omega) (by simp; omega)
   have e : acc ++ enc ((bl s).drop i) ++ [39] = acc ++ [(cb s i : Int)] ++ enc ((bl s).drop (i + 1)) ++ [39] := by
    rw [he, enc, e1, if_pos hp]; simp
   rw [e]
   refine Ev.step (fun k => ?_) g
   rw [lexer_Quote.l0, if_pos (by omega), if_pos (by omega), if_pos (by omega), bt_cb, itself_f, Option.bind_some, if_pos hp, if_pos (by omega), w1]
  ·
   have g := ih (i + 1) (acc ++ [37, ((hd (cb s i / 16) : Nat) : Int), ((hd (cb s i % 16) : Nat) : Int)]) (by omega) (by simp; omega)
   have e : acc ++ enc ((bl s).drop i) ++ [39] = acc ++ [37, ((hd (cb s i / 16) : Nat) : Int), ((hd (cb s i % 16) : Nat) : Int)] ++ enc ((bl s).drop (i + 1)) ++ [39] := by
    rw [he, enc, e1, if_neg hp]; simp
   rw [e]
   refine Ev.step (fun k => ?_) g
   rw [lexer_Quote.l0, if_pos (by omega), if_pos (by omega), if_pos (by omega), bt_cb, itself_f, Option.bind_some, if_neg hp, if_pos hb.2.2.1, if_pos hb.2.2.2.1, if_pos hb.2.2.2.2.1, if_pos hb.2.2.2.2.2, hb.1, hb.2.1, Option.bind_some, if_pos (by simp; omega), w1]
theorem quote_ev (s : ByteArray) (hs : s.size ≤ 150) : Ev (fun k => lexer_Quote.f k s) (strOfNums ([39] ++ enc (bl s) ++ [39])) := quote_l0 s hs s.size 0 [39] (by omega) (by simp)
theorem qr_enc {s : ByteArray} {r : Nat × Option (List Int)} (t : List Int) : ∀ (l : List Nat) (p b : List Int), s = strOfNums (p ++ (enc l ++ t)) → (∀ x, x ∈ l → x < 256) → b.length + l.length ≤ 64 →
  QR s (p.length + (enc l).length) (b ++ l.map (fun x : Nat => (x : Int))) r → QR s p.length b r := by
 intro l
 induction l with
 | nil => intro p b _ _ _ h; simpa [enc] using h
 | cons c l ih =>
  intro p b e hx hb h
  have hc : c < 256 := hx c (by simp)
  by_cases hp : plainB c = true
  ·
   have e2 : enc (c :: l) = (c : Int) :: enc l := by rw [enc, e1, if_pos hp]; rfl
   rw [e2] at e h
   have k0 : cb s p.length = c := cb_nums p c (enc l ++ t) e (by omega) (by omega)
   refine QR.plain (by simp at hb; omega) (by rw [k0]; exact hp) ?_
   rw [k0]
   have := ih (p ++ [(c : Int)]) (b ++ [(c : Int)]) (by rw [e]; simp) (fun x h => hx x (by simp [h])) (by simp at hb ⊢; omega)
   rw [show (p ++ [(c : Int)]).length = p.length + 1 by simp] at this
   refine this ?_
   rw [show p.length + 1 + (enc l).length = p.length + ((c : Int) :: enc l).length by simp; omega, show b ++ [(c : Int)] ++ l.map (fun x : Nat => (x : Int)) = b ++ (c :: l).map (fun x : Nat => (x : Int)) by simp]
   exact h
  ·
   have hf := hd_facts ⟨c, hc⟩
   simp only at hf
   have e2 : enc (c :: l) = 37 :: ((hd (c / 16) : Nat) : Int) :: ((hd (c % 16) : Nat) : Int) :: enc l := by rw [enc, e1, if_neg hp]; rfl
   rw [e2] at e h
   have k0 : cb s p.length = 37 := cb_nums p 37 _ e (by omega) (by omega)
   have k1 : cb s (p.length + 1) = hd (c / 16) := by
    have := cb_nums (s := s) (p ++ [37]) ((hd (c / 16) : Nat) : Int) (((hd (c % 16) : Nat) : Int) :: (enc l ++ t)) (by rw [e]; simp) (by omega) (by omega)
    simpa using this
   have k2 : cb s (p.length + 2) = hd (c % 16) := by
    have := cb_nums (s := s) (p ++ [37, ((hd (c / 16) : Nat) : Int)]) ((hd (c % 16) : Nat) : Int) (enc l ++ t) (by rw [e]; simp) (by omega) (by omega)
    simpa using this
   have hpc : pc s p.length := ⟨k0, by rw [k1, hf.1]; omega, by rw [k2, hf.2.1]; omega⟩
   have hx2c : hx2 s p.length = (c : Int) := by unfold hx2; rw [k1, k2, hf.1, hf.2.1]; omega
   refine QR.pct (by simp at hb; omega) hpc ?_
   rw [hx2c]
   have := ih (p ++ [37, ((hd (c / 16) : Nat) : Int), ((hd (c % 16) : Nat) : Int)]) (b ++ [(c : Int)]) (by rw [e]; simp) (fun x h => hx x (by simp [h])) (by simp at hb ⊢; omega)
   rw [show (p ++ [37, ((hd (c / 16) : Nat) : Int), ((hd (c % 16) : Nat) : Int)]).length = p.length + 3 by simp] at this
   refine this ?_
   rw [show p.length + 3 + (enc l).length = p.length + ((37 : Int) :: ((hd (c / 16) : Nat) : Int) :: ((hd (c % 16) : Nat) : Int) :: enc l).length by simp; omega, show b ++ [(c : Int)] ++ l.map (fun x : Nat => (x : Int)) = b ++ (c :: l).map (fun x : Nat => (x : Int)) by simp]
   exact h
theorem e1_head (b : Nat) (hb : b < 256) : ∃ y ys, e1 b = y :: ys ∧ 0 < y ∧ y < 256 ∧ y ≠ 39 := by
 unfold e1
 by_cases h : plainB b = true
 ·
  rw [if_pos h]
  refine ⟨_, _, rfl, ?_, by omega, ?_⟩
  ·
   rcases Nat.eq_zero_or_pos b with e | e
   ·
    subst e; exact absurd h (by decide)
   ·
    omega
  ·
   intro e
   have : b = 39 := by omega
   subst this
   exact absurd h (by decide)
 ·
  rw [if_neg h]; exact ⟨_, _, rfl, by omega, by omega, by omega⟩
theorem sk_here {s : ByteArray} {a : Nat} (h1 : blankB (cb s a) = false) (h2 : cb s a ≠ 45) : Sk s a a := .stop (fun _ => h1) (fun e => h2 e.1)
theorem sk_fin (s : ByteArray) : Sk s s.size s.size := .stop (fun h => absurd h (Nat.lt_irrefl _)) (fun e => by rw [cb_out (Nat.le_refl _)] at e; exact absurd e.1 (by decide))
theorem quoted_short (l : List Nat) (hl : l.length ≤ 64) (hx : ∀ x, x ∈ l → x < 256) {q : ByteArray} (e : q = strOfNums ([39] ++ enc l ++ [39])) :
  LexR q 0 [] ([⟨4, (⟨#[]⟩ : ByteArray), ⟨2, 0, strOfNums (l.map (fun x : Nat => (x : Int)))⟩, 0, (q.size : Int)⟩, ⟨0, (⟨#[]⟩ : ByteArray), ⟨0, 0, (⟨#[]⟩ : ByteArray)⟩, (q.size : Int), (q.size : Int)⟩], 0, 0) := by
 have e0 : q = strOfNums ([] ++ 39 :: (enc l ++ [39])) := by rw [e]; simp
 have k0 : cb q 0 = 39 := cb_nums [] 39 _ e0 (by omega) (by omega)
 have hz : q.size = (enc l).length + 2 := by rw [e, size_nums]; simp
 have e1' : q = strOfNums ([39] ++ enc l ++ 39 :: []) := e
 have k1 : cb q (1 + (enc l).length) = 39 := by
  have := cb_nums ([39] ++ enc l) 39 [] e1' (by omega) (by omega)
  rw [show ([39] ++ enc l : List Int).length = 1 + (enc l).length by simp; omega] at this
  exact this
 have hq : QR q 1 [] (1 + (enc l).length, some (l.map (fun x : Nat => (x : Int)))) := by
  have := qr_enc (s := q) (r := (1 + (enc l).length, some (l.map (fun x : Nat => (x : Int))))) [39] l [39] [] (by rw [e]; simp) hx (by simp; omega)
  simp only [List.length_cons, List.length_nil, Nat.zero_add, List.nil_append] at this
  exact this (.stop k1)
 have hn : NextR q 0 (4, (⟨#[]⟩ : ByteArray), 2, 0, strOfNums (l.map (fun x : Nat => (x : Int))), ((0 : Nat) : Int), ((1 + (enc l).length + 1 : Nat) : Int), 0, 0) :=
  NextR.tok (j := 0) (q := qOut ((0 : Nat) : Int) (1 + (enc l).length, some (l.map (fun x : Nat => (x : Int))))) (sk_here (by rw [k0]; rfl) (by omega)) (by omega) (.quo k0 hq)
 rw [show 1 + (enc l).length + 1 = q.size by omega] at hn
 exact .more hn (by omega) (by omega) (by omega) (by omega) (by omega) (by omega) (.fin (.fin (sk_fin q)))
theorem quoted_long (l1 l2 : List Nat) (c : Nat) (hl : l1.length = 64) (hx : ∀ x, x ∈ l1 → x < 256) (hc : c < 256) {q : ByteArray} (e : q = strOfNums ([39] ++ enc (l1 ++ c :: l2) ++ [39])) :
  LexR q 0 [] ([], ((1 + (enc l1).length : Nat) : Int), 11) := by
 obtain ⟨y, ys, he, y0, y1, y2⟩ := e1_head c hc
 have e2 : enc (l1 ++ c :: l2) = enc l1 ++ y :: (ys ++ enc l2) := by rw [enc_app, enc, he]; rfl
 rw [e2] at e
 have e0 : q = strOfNums ([] ++ 39 :: (enc l1 ++ y :: (ys ++ enc l2) ++ [39])) := by rw [e]; simp
 have k0 : cb q 0 = 39 := cb_nums [] 39 _ e0 (by omega) (by omega)
 have hz : 1 + (enc l1).length < q.size := by rw [e, size_nums]; simp; omega
 have k1 : cb q (1 + (enc l1).length) = y.toNat := by
  have := cb_nums (s := q) ([39] ++ enc l1) y (ys ++ enc l2 ++ [39]) (by rw [e]; simp) (by omega) (by omega)
  rw [show ([39] ++ enc l1 : List Int).length = 1 + (enc l1).length by simp; omega] at this
  exact this
 have hq : QR q 1 [] (1 + (enc l1).length, none) := by
  have := qr_enc (s := q) (r := (1 + (enc l1).length, none)) (y :: (ys ++ enc l2) ++ [39]) l1 [39] [] (by rw [e]; simp) hx (by simp; omega)
  simp only [List.length_cons, List.length_nil, Nat.zero_add, List.nil_append] at this
  exact this (.full hz (by omega) (by simp; omega))
 have hn : NextR q 0 (0, (⟨#[]⟩ : ByteArray), 0, 0, (⟨#[]⟩ : ByteArray), 0, 0, ((1 + (enc l1).length : Nat) : Int), 11) := by
  have := NextR.tok (j := 0) (q := qOut ((0 : Nat) : Int) (1 + (enc l1).length, none)) (sk_here (s := q) (a := 0) (by rw [k0]; rfl) (by omega)) (by omega) (.quo k0 hq)
  unfold next_end qOut bad at this
  simp only at this
  rw [if_pos (by omega)] at this
  exact this
 exact .wrong hn (by omega)
theorem quotes_ok (s : ByteArray) : ∃ k, skerrylaw18_LexerQuotes.f k s = some true := by
 refine Ev.rounds ?_
 unfold skerrylaw18_LexerQuotes.f
 by_cases h1 : (s.size : Int) > 150
 ·
  exact Ev.congr (fun k => if_pos h1) (Ev.bind lives_ok (Ev.now _))
 have hq := quote_ev s (by omega)
 have hz : (strOfNums ([39] ++ enc (bl s) ++ [39])).size ≤ 600 := by
  rw [size_nums]
  have := enc_len (bl s)
  rw [bl_len] at this
  simp
  omega
 refine Ev.congr (fun k => if_neg h1) (Ev.bind hq ?_)
 by_cases h2 : s.size ≤ 64
 ·
  have hL := lex_lex hz (quoted_short (bl s) (by rw [bl_len]; exact h2) (fun x => bl_lt) rfl) (by omega) (by simp)
  have hd : strOfNums ((bl s).map (fun x : Nat => (x : Int))) = s := by
   rw [bl, List.map_map]
   exact nums_data s
  rw [hd] at hL
  refine Ev.bind (g := fun k => lexer_Lex.f k _) hL ?_
  refine Ev.congr (fun k => ?_) (Ev.bind lives_ok (Ev.now _))
  refine (if_neg (by omega)).trans ((if_pos rfl).trans ((if_pos rfl).trans ((if_pos (by simp)).trans ((if_pos rfl).trans ((if_pos ?_).trans (if_pos rfl))))))
  show ((2 : Int) == 2 && ((0 : Int) == 0 && (s.toList == s.toList))) = true
  simp
 ·
  have hlen : 64 < (bl s).length := by rw [bl_len]; omega
  have hsp : bl s = (bl s).take 64 ++ (bl s)[64] :: (bl s).drop 65 := by
   rw [← List.drop_eq_getElem_cons hlen, List.take_append_drop]
  have hL := lex_lex hz (quoted_long ((bl s).take 64) ((bl s).drop 65) ((bl s)[64]) (by simp; omega) (fun x h => bl_lt (List.mem_of_mem_take h)) (bl_lt (List.getElem_mem _)) (by rw [← hsp])) (by omega) (by simp)
  refine Ev.bind (g := fun k => lexer_Lex.f k _) hL ?_
  have hq2 := quote_ev (s.extract 0 64) (by rw [ByteArray.size_extract]; omega)
  have hb2 : bl (s.extract 0 64) = (bl s).take 64 := by
   unfold bl
   simp [ByteArray.data_extract, List.map_take]
  rw [hb2] at hq2
  refine Ev.congr (fun k => (if_pos (by omega)).trans ((if_pos rfl).trans ((if_pos (by omega)).trans (if_pos (by omega))))) (Ev.bind hq2 ?_)
  refine Ev.congr (fun k => if_pos ?_) (Ev.bind lives_ok (Ev.now _))
  have := enc_len ((bl s).take 64)
  rw [List.length_take] at this
  rw [size_nums, wr (by simp; omega)]
  simp
  omega
end Go.Proofs.YtfaogccfiklinaaDoor.Pl
