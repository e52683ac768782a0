/- LexerLexes and LexerPlaces, in plain words. -/
import Derived.Test.YtfaogccfiklinaaDoorKbLg
import Derived.Test.YtfaogccfiklinaaDoorKbQx30
import Derived.Test.YtfaogccfiklinaaDoorKbQx0
import Derived.Test.YtfaogccfiklinaaDoorKbQx26
import Derived.Test.YtfaogccfiklinaaDoorKbQx28
namespace Go.Proofs.YtfaogccfiklinaaDoor.Pl
open Go.RowKit Go.Proofs.YtfaogccfiklinaaDoorW.PrintWords
open Go.Proofs.YtfaogccfiklinaaDoor.Q
theorem rd25_map (m : List S25) (i : Nat) (h : i < m.length) : rd_T29 (m.map u29) (i : Int) = u29 (rd_T25 m (i : Int)) := by
 unfold rd_T29 rd_T25
 rw [Int.toNat_natCast, List.getD_eq_getElem?_getD, List.getD_eq_getElem?_getD, List.getElem?_map, List.getElem?_eq_getElem h]
 rfl
theorem lexes_l0 (m : List S25) (hm : m.length ≤ 1000) : ∀ (d i : Nat), i + d = m.length → Ev (fun k => skerrylaw18_LexerLexes.l0 k (m.map u29) m (m.length : Int) (i : Int)) true := by
 intro d
 induction d with
 | zero =>
  intro i h
  exact Ev.step (fun k => by rw [skerrylaw18_LexerLexes.l0, if_neg (by omega)]) (Ev.bind lives_ok (Ev.now _))
 | succ d ih =>
  intro i h
  refine Ev.step (fun k => ?_) (ih (i + 1) (by omega))
  rw [skerrylaw18_LexerLexes.l0, if_pos (by omega), if_pos (by omega), if_pos (by omega), if_pos (by simp; omega), rd25_map m i (by omega)]
  unfold u29
  simp only
  rw [like_same, Option.bind_some, if_pos rfl, show ((i : Int) + 1) = (i : Int) + ((1 : Nat) : Int) from rfl, wr1 (by omega) 1 (by omega)]
theorem lexes_ok (s : ByteArray) : ∃ k, skerrylaw18_LexerLexes.f k s = some true := by
 refine Ev.rounds ?_
 unfold skerrylaw18_LexerLexes.f
 rcases lex_any s with ⟨p, e, hp, he, h1, h2⟩ | ⟨hs, m, _, hc, h1, h2⟩
 ·
  refine Ev.bind h1 (Ev.bind h2 ?_)
  refine Ev.congr (f := fun k => skerrylaw18_LexerLexes.j0 k [] [] false) (fun k => (if_pos rfl).trans ((if_pos rfl).trans (by simp))) ?_
  exact Ev.step (fun k => by rw [skerrylaw18_LexerLexes.j0, if_neg (by simp)]; rfl) (lexes_l0 [] (by simp) 0 0 rfl)
 ·
  refine Ev.bind h1 (Ev.bind h2 ?_)
  have hl := hc.size
  refine Ev.congr (f := fun k => skerrylaw18_LexerLexes.j0 k m (m.map u29) false) (fun k => (if_pos (by simp)).trans ((if_pos rfl).trans rfl)) ?_
  exact Ev.step (fun k => by rw [skerrylaw18_LexerLexes.j0, if_neg (by simp)]; rfl) (lexes_l0 m (by omega) m.length 0 (by omega))
end Go.Proofs.YtfaogccfiklinaaDoor.Pl
