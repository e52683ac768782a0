/- LexerJoins, in plain words. -/
import Derived.Test.YtfaogccfiklinaaDoorKfLm
import Derived.Test.YtfaogccfiklinaaDoorKfQx32
set_option linter.unusedVariables false
set_option linter.unusedSimpArgs false
namespace Go.Proofs.YtfaogccfiklinaaDoor.Pl
open Go.RowKit Go.Proofs.YtfaogccfiklinaaDoorW.PrintWords
open Go.Proofs.YtfaogccfiklinaaDoor.Q
theorem rd_left (m X : List S25) (i : Nat) (h : i + 1 < m.length) : rd_T25 (m.dropLast ++ X) (i : Int) = rd_T25 m (i : Int) := by
 unfold rd_T25
 rw [Int.toNat_natCast, List.getD_eq_getElem?_getD, List.getD_eq_getElem?_getD, List.getElem?_append_left (by rw [List.length_dropLast]; omega), List.getElem?_dropLast, if_pos (by omega)]
theorem rd_right (m n : List S25) (d i : Nat) (h : m.length ≤ i + 1) (h1 : 1 ≤ m.length) (h2 : i + 1 - m.length < n.length) : rd_T25 (m.dropLast ++ n.map (mvT d)) (i : Int) = mvT d (rd_T25 n ((i + 1 - m.length : Nat) : Int)) ∧ rd_T25 n ((i + 1 - m.length : Nat) : Int) ∈ n := by
 unfold rd_T25
 rw [Int.toNat_natCast, Int.toNat_natCast, List.getD_eq_getElem?_getD, List.getD_eq_getElem?_getD, List.getElem?_append_right (by rw [List.length_dropLast]; omega), List.length_dropLast, show i - (m.length - 1) = i + 1 - m.length by omega, List.getElem?_map, List.getElem?_eq_getElem h2]
 exact ⟨rfl, List.getElem_mem h2⟩
theorem mvw {x : Int} {z d : Nat} (h0 : 0 ≤ x) (h1 : x ≤ (z : Int)) (hz : z + d ≤ 1000) : wrap64 (x + (d : Int)) = x + (d : Int) := wr (by omega)
theorem join_step {sa sb : Nat} (hs : sa + sb + 1 ≤ 600) (t : S25) (hb : 0 ≤ t.f3 ∧ t.f3 ≤ (sb : Int) ∧ 0 ≤ t.f4 ∧ t.f4 ≤ (sb : Int)) (u v : Option Bool) : (if (!(((mvT (sa + 1) t).f0) == (t.f0)) || (!((((mvT (sa + 1) t).f1).toList) == ((t.f1).toList)) || ((!(((mvT (sa + 1) t).f2.f0) == (t.f2.f0)) || (!(((mvT (sa + 1) t).f2.f1) == (t.f2.f1)) || (!((((mvT (sa + 1) t).f2.f2).toList) == ((t.f2.f2).toList))))) || (!(((mvT (sa + 1) t).f3) == (wrap64 ((t.f3) + ((sa + 1 : Nat) : Int)))) || (!(((mvT (sa + 1) t).f4) == (wrap64 ((t.f4) + ((sa + 1 : Nat) : Int))))))))) = true then u else v) = v := by
 rw [mvw hb.1 hb.2.1 (by omega), mvw hb.2.2.1 hb.2.2.2 (by omega)]
 unfold mvT
 simp only [beq_self_eq_true, Bool.not_true, Bool.or_self, Bool.false_eq_true, if_false]
theorem joins_l0 {a b : ByteArray} (hs : a.size + b.size + 1 ≤ 600) {m n : List S25} (hm : TL a 0 m) (hn : TL b 0 n) : ∀ (d i : Nat), i + d = (m.dropLast ++ n.map (mvT (a.size + 1))).length →
  Ev (fun k => skerrylaw18_LexerJoins.l0 k a m n (m.dropLast ++ n.map (mvT (a.size + 1))) ((m.dropLast ++ n.map (mvT (a.size + 1))).length : Int) (i : Int)) true := by
 have l1 := hm.size (by omega)
 have l2 := hn.size (by omega)
 have l3 := hm.some
 have l4 := hn.some
 have hl : (m.dropLast ++ n.map (mvT (a.size + 1))).length = m.length - 1 + n.length := by simp
 intro d
 induction d with
 | zero =>
  intro i h
  exact Ev.step (fun k => by rw [skerrylaw18_LexerJoins.l0, if_neg (by omega)]) (Ev.bind lives_ok (Ev.now _))
 | succ d ih =>
  intro i h
  have w1 : wrap64 ((i : Int) + 1) = ((i + 1 : Nat) : Int) := wr1 (by omega) 1 (by omega)
  have w2 : wrap64 ((m.length : Int) - 1) = ((m.length - 1 : Nat) : Int) := by rw [wr (by omega)]; omega
  refine Ev.step (fun k => ?_) (ih (i + 1) (by omega))
  rw [skerrylaw18_LexerJoins.l0, if_pos (by omega), if_pos (by omega), if_pos (by omega), w2]
  by_cases g : i + 1 < m.length
  ·
   rw [if_pos (by omega), if_pos (by omega), rd_left m _ i g, if_neg (by simp), w1]
  ·
   have w3 : wrap64 ((wrap64 ((i : Int) - (m.length : Int))) + 1) = ((i + 1 - m.length : Nat) : Int) := by rw [wr (x := (i : Int) - (m.length : Int)) (by omega), wr (by omega)]; omega
   obtain ⟨r1, r2⟩ := rd_right m n (a.size + 1) i (by omega) l3 (by omega)
   have hb := hn.bound _ r2
   have e1 : wrap64 ((a.size : Int) + 1) = ((a.size + 1 : Nat) : Int) := wr1 (by omega) 1 (by omega)
   rw [if_neg (by omega), w3, if_pos (by omega), if_pos (by omega), r1, e1, w1]
   exact join_step hs _ hb _ _
theorem joins_ok (a b : ByteArray) (wa : a.size ≤ 140737488351232) (wb : b.size ≤ 140737488351232) : ∃ k, skerrylaw18_LexerJoins.f k a b = some true := by
 refine Ev.rounds ?_
 unfold skerrylaw18_LexerJoins.f
 have quit : ∀ l m, Ev (fun k => skerrylaw18_LexerJoins.j0 k a b l m true) true := fun l m => Ev.step (fun k => by rw [skerrylaw18_LexerJoins.j0, if_pos rfl]) (Ev.bind lives_ok (Ev.now _))
 have hw : wrap64 ((wrap64 ((a.size : Int) + (b.size : Int))) + 1) = (a.size : Int) + (b.size : Int) + 1 := by unfold wrap64; omega
 rcases lex_any a with ⟨p, e, hp, he, h1, _⟩ | ⟨ha, m, hR, hc, h1, _⟩ <;> rcases lex_any b with ⟨p2, f, hp2, hf, h2, _⟩ | ⟨hb, n, hR2, hc2, h2, _⟩
 ·
  exact Ev.bind h1 (Ev.bind h2 (Ev.congr (fun k => if_neg he) (quit _ _)))
 ·
  exact Ev.bind h1 (Ev.bind h2 (Ev.congr (fun k => if_neg he) (quit _ _)))
 ·
  exact Ev.bind h1 (Ev.bind h2 (Ev.congr (fun k => (if_pos rfl).trans (if_neg hf)) (quit _ _)))
 ·
  refine Ev.bind h1 (Ev.bind h2 ?_)
  refine Ev.congr (f := fun k => skerrylaw18_LexerJoins.j0 k a b m n (decide ((a.size : Int) + (b.size : Int) + 1 > 600))) (fun k => (if_pos rfl).trans ((if_pos rfl).trans (by rw [hw]))) ?_
  by_cases hz : (a.size : Int) + (b.size : Int) + 1 > 600
  ·
   rw [decide_eq_true hz]; exact quit _ _
  rw [decide_eq_false hz]
  obtain ⟨m', e1, hm⟩ := hR.toks rfl
  obtain ⟨n', e2, hn⟩ := hR2.toks rfl
  simp only [List.nil_append] at e1 e2
  subst e1
  subst e2
  have hj := (join_toks hm hn).lex [] (Nat.zero_le _)
  have hJ := lex_lex (by rw [join_size]; omega) hj (Nat.zero_le _) (Nat.le_refl _)
  rw [List.nil_append] at hJ
  have l1 := hm.size (by omega)
  have l2 := hn.size (by omega)
  have l3 := hm.some
  have l4 := hn.some
  refine Ev.step (f := fun k => (lexer_Lex.f k (a ++ (⟨#[10]⟩ : ByteArray) ++ b)).bind fun bt => (if bt.2.2 = 0 then (skerrylaw18_LexerJoins.j1 k a m n bt.1 ((bt.1.length : Int) != (wrap64 ((wrap64 ((m.length : Int) + (n.length : Int))) - 1)))) else (skerrylaw18_LexerJoins.j1 k a m n bt.1 true))) (fun k => ?_) (Ev.bind (g := fun k => lexer_Lex.f k (a ++ (⟨#[10]⟩ : ByteArray) ++ b)) hJ ?_)
  ·
   rw [skerrylaw18_LexerJoins.j0, if_neg (by simp), if_pos (by omega), if_pos (by rw [ByteArray.size_append]; show a.size + 1 + b.size ≤ _; omega)]
  ·
   have hl : (m.dropLast ++ n.map (mvT (a.size + 1))).length = m.length - 1 + n.length := by simp
   refine Ev.congr (f := fun k => skerrylaw18_LexerJoins.j1 k a m n (m.dropLast ++ n.map (mvT (a.size + 1))) false) (fun k => (if_pos rfl).trans ?_) ?_
   ·
    congr 1
    rw [wr (x := (m.length : Int) + (n.length : Int)) (by omega), wr (by omega)]
    rw [bne_eq_false_iff_eq]
    simp only
    omega
   ·
    refine Ev.step (fun k => by rw [skerrylaw18_LexerJoins.j1, if_neg (by simp)]; rfl) (joins_l0 (by omega) hm hn _ 0 (Nat.zero_add _))
end Go.Proofs.YtfaogccfiklinaaDoor.Pl
