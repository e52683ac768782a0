/- LexerNexts, in plain words. -/
import Derived.Test.YtfaogccfiklinaaDoorKaLf
import Derived.Test.YtfaogccfiklinaaDoorKaQx28
import Derived.KernelRfl
namespace Go.Proofs.YtfaogccfiklinaaDoor.Pl
open Go.RowKit Go.Proofs.YtfaogccfiklinaaDoorW.PrintWords
open Go.Proofs.YtfaogccfiklinaaDoor.Q
theorem lives_ok : Ev (fun k => skerrylaw18_lives.f k) true := Ev.of (skerrylaw18_lives.mono) (k := 60) (by decide +kernel)
theorem like_same (x1 : Int) (x2 : ByteArray) (x3 x4 : Int) (x5 : ByteArray) (x6 x7 : Int) : skerrylaw18_like.f x1 x2 x3 x4 x5 x6 x7 x1 x2 x3 x4 x5 x6 x7 = some true := by
 unfold skerrylaw18_like.f
 rw [if_pos rfl, if_pos rfl, if_pos (by simp), if_pos rfl]
 simp
theorem next_both (s : ByteArray) (a : Int) : ∃ r, Ev (fun k => lexer_Next.f k s a) r ∧ Ev (fun k => skerryref18_Next.f k s a) r := by
 by_cases h1 : 600 < s.size
 ·
  refine ⟨(0, (⟨#[]⟩ : ByteArray), 0, 0, (⟨#[]⟩ : ByteArray), 0, 0, 0, 17), ?_, ?_⟩
  ·
   unfold lexer_Next.f; exact Ev.congr (fun k => if_pos h1) (Ev.now _)
  ·
   unfold skerryref18_Next.f; exact Ev.congr (fun k => if_pos (by omega)) (Ev.now _)
 by_cases h2 : a < 0 ∨ (s.size : Int) < a
 ·
  refine ⟨(0, (⟨#[]⟩ : ByteArray), 0, 0, (⟨#[]⟩ : ByteArray), 0, 0, 0, 6), ?_, ?_⟩
  ·
   unfold lexer_Next.f; exact Ev.congr (fun k => (if_neg h1).trans (if_pos h2)) (Ev.now _)
  ·
   unfold skerryref18_Next.f
   refine Ev.congr (f := fun k => skerryref18_Next.j0 k s a true) (fun k => (if_neg (by omega)).trans ?_) (Ev.step (fun k => by rw [skerryref18_Next.j0, if_pos rfl]) (Ev.now _))
   by_cases h3 : a < 0
   ·
    rw [if_pos h3]
   ·
    rw [if_neg h3, decide_eq_true (by omega)]
 obtain ⟨n, rfl⟩ := Int.eq_ofNat_of_zero_le (show 0 ≤ a by omega)
 obtain ⟨r, hr⟩ := NextR.total s n (by omega)
 exact ⟨r, lex_next (by omega) (by omega) hr, ref_next (by omega) (by omega) hr⟩
theorem nexts_ok (s : ByteArray) (a : Int) : ∃ k, skerrylaw18_LexerNexts.f k s a = some true := by
 obtain ⟨r, h1, h2⟩ := next_both s a
 refine Ev.rounds ?_
 unfold skerrylaw18_LexerNexts.f
 refine Ev.bind h1 (Ev.bind h2 ?_)
 refine Ev.congr (fun k => ?_) lives_ok
 rw [like_same, Option.bind_some, if_pos rfl, if_pos rfl, if_pos rfl, bind_id]
end Go.Proofs.YtfaogccfiklinaaDoor.Pl
