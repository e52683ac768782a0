/- LexerLexes and LexerPlaces, in plain words. -/
import Derived.Test.YtfaogccfiklinaaDoorKcLg
import Derived.Test.YtfaogccfiklinaaDoorKcQx0
import Derived.Test.YtfaogccfiklinaaDoorKcQx26
import Derived.Test.YtfaogccfiklinaaDoorKcQx28
import Derived.Test.YtfaogccfiklinaaDoorKcJ14
import Derived.Test.YtfaogccfiklinaaDoorKcQx31
set_option linter.unusedVariables false
set_option linter.unusedSimpArgs false
namespace Go.Proofs.YtfaogccfiklinaaDoor.Pl
open Go.RowKit Go.Proofs.YtfaogccfiklinaaDoorW.PrintWords
open Go.Proofs.YtfaogccfiklinaaDoor.Q
theorem rd_pre (p m : List S25) (t : S25) : rd_T25 (p ++ t :: m) (p.length : Int) = t := by
 unfold rd_T25
 rw [Int.toNat_natCast, List.getD_eq_getElem?_getD, List.getElem?_append_right (Nat.le_refl _), Nat.sub_self]
 rfl
theorem places_l0 {s : ByteArray} (hs : s.size ≤ 600) {e : Nat} {m : List S25} (h : Chain s e m) : ∀ (p : List S25), e ≤ s.size → (p ++ m).length ≤ 1000 → Ev (fun k => skerrylaw18_LexerPlaces.l0 k s (p ++ m) (e : Int) (p ++ m) ((p ++ m).length : Int) (p.length : Int)) true := by
 induction h with
 | @last e he =>
  intro p _ hl
  refine Ev.step (f := fun k => skerrylaw18_LexerPlaces.j1 k s (p ++ [⟨0, (⟨#[]⟩ : ByteArray), ⟨0, 0, (⟨#[]⟩ : ByteArray)⟩, (s.size : Int), (s.size : Int)⟩]) (p ++ [⟨0, (⟨#[]⟩ : ByteArray), ⟨0, 0, (⟨#[]⟩ : ByteArray)⟩, (s.size : Int), (s.size : Int)⟩]) ((p ++ [⟨0, (⟨#[]⟩ : ByteArray), ⟨0, 0, (⟨#[]⟩ : ByteArray)⟩, (s.size : Int), (s.size : Int)⟩] : List S25).length : Int) (p.length : Int) false 0 (⟨#[]⟩ : ByteArray) 0 0 (⟨#[]⟩ : ByteArray) (s.size : Int) (s.size : Int)) (fun k => ?_) ?_
  ·
   have w1 : wrap64 ((p.length : Int) + 1) = ((p.length + 1 : Nat) : Int) := wr1 (by simp at hl; omega) 1 (by omega)
   rw [skerrylaw18_LexerPlaces.l0, rd_pre, if_pos (by simp; omega), if_pos (by omega), if_pos (by simp; omega), if_neg (by simp only; omega), if_neg (by simp only; omega), if_neg (by simp only; omega), if_neg (by simp), w1]
   congr 1
   simp
  ·
   refine Ev.step (fun k => ?_) (f := fun k => skerrylaw18_LexerPlaces.l0 k s (p ++ [⟨0, (⟨#[]⟩ : ByteArray), ⟨0, 0, (⟨#[]⟩ : ByteArray)⟩, (s.size : Int), (s.size : Int)⟩]) (s.size : Int) (p ++ [⟨0, (⟨#[]⟩ : ByteArray), ⟨0, 0, (⟨#[]⟩ : ByteArray)⟩, (s.size : Int), (s.size : Int)⟩]) ((p ++ [⟨0, (⟨#[]⟩ : ByteArray), ⟨0, 0, (⟨#[]⟩ : ByteArray)⟩, (s.size : Int), (s.size : Int)⟩] : List S25).length : Int) ((p.length + 1 : Nat) : Int)) ?_
   ·
    rw [skerrylaw18_LexerPlaces.j1, if_neg (by simp), if_neg (by simp), show ((p.length : Int) + 1) = (p.length : Int) + ((1 : Nat) : Int) from rfl, wr1 (by simp at hl; omega) 1 (by omega)]
   ·
    refine Ev.step (fun k => ?_) (Ev.bind lives_ok (Ev.now _))
    rw [skerrylaw18_LexerPlaces.l0, if_neg (by simp), if_pos (by simp), if_pos rfl]
 | @cons e kd S v i j l g1 g2 g3 g4 g5 g6 hc ih =>
  intro p he hl
  have hll : p.length + l.length + 1 ≤ 1000 := by simp at hl; omega
  have hne : l ≠ [] := by cases hc <;> simp
  have hnl : l.length ≠ 0 := fun e => hne (List.length_eq_zero_iff.1 e)
  have w1 : wrap64 ((p.length : Int) + 1) = ((p.length + 1 : Nat) : Int) := wr1 (by omega) 1 (by omega)
  have ih' := ih (p ++ [⟨kd, S, v, (i : Int), (j : Int)⟩]) g3 (by simp; omega)
  have e1 : p ++ [⟨kd, S, v, (i : Int), (j : Int)⟩] ++ l = p ++ (⟨kd, S, v, (i : Int), (j : Int)⟩ :: l) := by simp
  rw [e1, show (p ++ [(⟨kd, S, v, (i : Int), (j : Int)⟩ : S25)]).length = p.length + 1 by simp] at ih'
  refine Ev.step (f := fun k => skerrylaw18_LexerPlaces.j1 k s (p ++ (⟨kd, S, v, (i : Int), (j : Int)⟩ :: l)) (p ++ (⟨kd, S, v, (i : Int), (j : Int)⟩ :: l)) ((p ++ (⟨kd, S, v, (i : Int), (j : Int)⟩ :: l) : List S25).length : Int) (p.length : Int) false kd S v.f0 v.f1 v.f2 (i : Int) (j : Int)) (fun k => ?_) ?_
  ·
   rw [skerrylaw18_LexerPlaces.l0, rd_pre, if_pos (by simp; omega), if_pos (by omega), if_pos (by simp; omega), if_neg (by simp only; omega), if_neg (by simp only; omega), if_neg (by simp only; omega), if_neg (by
    have a1 : ((j : Int) == (i : Int)) = false := beq_eq_false_iff_ne.2 (by omega)
    have a2 : (kd == 0) = false := beq_eq_false_iff_ne.2 (by omega)
    simp only [a1, a2]; simp), w1]
   congr 1
   have a1 : (((p.length + 1 : Nat) : Int) == ((p ++ (⟨kd, S, v, (i : Int), (j : Int)⟩ :: l) : List S25).length : Int)) = false := beq_eq_false_iff_ne.2 (by simp; omega)
   have a2 : (kd == 0) = false := beq_eq_false_iff_ne.2 (by omega)
   simp only [a1, a2]
   rfl
  ·
   refine Ev.step (fun k => ?_) ih'
   rw [skerrylaw18_LexerPlaces.j1, if_neg (by simp), w1]
   by_cases h1 : kd = 1
   ·
    rw [if_pos h1, if_pos (by omega), if_pos (by omega), if_pos (by omega), Int.toNat_natCast, Int.toNat_natCast, ← g6 h1, if_pos rfl]
   ·
    rw [if_neg h1]
theorem places_ok (s : ByteArray) : ∃ k, skerrylaw18_LexerPlaces.f k s = some true := by
 refine Ev.rounds ?_
 unfold skerrylaw18_LexerPlaces.f
 rcases lex_any s with ⟨p, e, hp, he, h1, _⟩ | ⟨hs, m, _, hc, h1, _⟩
 ·
  refine Ev.bind h1 ?_
  exact Ev.congr (fun k => (if_neg he).trans ((if_pos (by simp)).trans ((if_pos (by simp only; omega)).trans (if_pos (by simp only; omega))))) (Ev.bind lives_ok (Ev.now _))
 ·
  refine Ev.bind h1 ?_
  have hl := hc.size
  exact Ev.congr (fun k => if_pos rfl) (places_l0 hs hc [] (by omega) (by simp; omega))
end Go.Proofs.YtfaogccfiklinaaDoor.Pl
