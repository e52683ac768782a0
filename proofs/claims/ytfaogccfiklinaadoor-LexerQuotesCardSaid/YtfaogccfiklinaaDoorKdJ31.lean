/- LexerNexts, in plain words. -/
import Derived.Test.YtfaogccfiklinaaDoorKdLf
import Derived.Test.YtfaogccfiklinaaDoorKdQx28
import Derived.KernelRfl
import Derived.Test.YtfaogccfiklinaaDoorKdQx26
import Derived.Test.YtfaogccfiklinaaDoorKdQx0
import Derived.Lib.SlBytesConst
import Derived.Test.YtfaogccfiklinaaDoorKdJ12
set_option linter.unusedVariables false
set_option linter.unusedSimpArgs false
namespace Go.Proofs.YtfaogccfiklinaaDoor.Pl
open Go.RowKit Go.Proofs.YtfaogccfiklinaaDoorW.PrintWords
open Go.Proofs.YtfaogccfiklinaaDoor.Q
theorem lives_ok : Ev (fun k => skerrylaw18_lives.f k) true := Ev.of (skerrylaw18_lives.mono) (k := 60) (by decide +kernel)
end Go.Proofs.YtfaogccfiklinaaDoor.Pl
set_option linter.unusedVariables false
set_option linter.unusedSimpArgs false
namespace Go.Proofs.YtfaogccfiklinaaDoor.Pl
open Go.RowKit Go.Proofs.YtfaogccfiklinaaDoorW.PrintWords
open Go.Proofs.YtfaogccfiklinaaDoor.Q
def t9 (r : Tok9) : S25 := ⟨r.1, r.2.1, (⟨r.2.2.1, r.2.2.2.1, r.2.2.2.2.1⟩ : S23), r.2.2.2.2.2.1, r.2.2.2.2.2.2.1⟩
inductive LexR (s : ByteArray) : Nat → List S25 → List S25 × Int × Int → Prop
 | wrong {a : Nat} {l : List S25} {p : Nat} : NextR s a (0, (⟨#[]⟩ : ByteArray), 0, 0, (⟨#[]⟩ : ByteArray), 0, 0, (p : Int), 11) → p ≤ s.size → LexR s a l ([], (p : Int), 11)
 | fin {a : Nat} {l : List S25} : NextR s a (0, (⟨#[]⟩ : ByteArray), 0, 0, (⟨#[]⟩ : ByteArray), (s.size : Int), (s.size : Int), 0, 0) → LexR s a l (l ++ [⟨0, (⟨#[]⟩ : ByteArray), ⟨0, 0, (⟨#[]⟩ : ByteArray)⟩, (s.size : Int), (s.size : Int)⟩], 0, 0)
 | more {a : Nat} {l : List S25} {kd : Int} {S : ByteArray} {x y : Int} {z : ByteArray} {i j : Nat} {q : List S25 × Int × Int} : NextR s a (kd, S, x, y, z, (i : Int), (j : Int), 0, 0) → a ≤ i → i < j → j ≤ s.size → 1 ≤ kd → kd ≤ 4 → (kd = 1 → S = s.extract i j) →
   LexR s j (l ++ [⟨kd, S, ⟨x, y, z⟩, (i : Int), (j : Int)⟩]) q → LexR s a l q
theorem lex_lex {s : ByteArray} (hs : s.size ≤ 600) {a : Nat} {l : List S25} {q : List S25 × Int × Int} (h : LexR s a l q) : a ≤ s.size → l.length ≤ a → Ev (fun k => lexer_Lex.l0 k s l (a : Int)) q := by
 induction h with
 | @wrong a l p h1 hp =>
  intro ha hl
  refine Ev.step (fun k => by rw [lexer_Lex.l0]) (Ev.bind (lex_next hs ha h1) ?_)
  exact Ev.congr (fun k => if_neg (by simp)) (Ev.now _)
 | @fin a l h1 =>
  intro ha hl
  refine Ev.step (fun k => by rw [lexer_Lex.l0]) (Ev.bind (lex_next hs ha h1) ?_)
  exact Ev.congr (fun k => (if_pos rfl).trans ((if_pos (by omega)).trans ((Option.bind_some ..).trans (if_pos rfl)))) (Ev.now _)
 | @more a l kd S x y z i j q h1 g1 g2 g3 g4 g5 g6 _ ih =>
  intro ha hl
  refine Ev.step (fun k => by rw [lexer_Lex.l0]) (Ev.bind (lex_next hs ha h1) ?_)
  exact Ev.congr (fun k => (if_pos rfl).trans ((if_pos (by omega)).trans ((Option.bind_some ..).trans (if_neg (by simp only; omega))))) (ih g3 (by simp; omega))
inductive Chain (s : ByteArray) : Nat → List S25 → Prop
 | last {e : Nat} : e ≤ s.size → Chain s e [⟨0, (⟨#[]⟩ : ByteArray), ⟨0, 0, (⟨#[]⟩ : ByteArray)⟩, (s.size : Int), (s.size : Int)⟩]
 | cons {e : Nat} {kd : Int} {S : ByteArray} {v : S23} {i j : Nat} {l : List S25} : e ≤ i → i < j → j ≤ s.size → 1 ≤ kd → kd ≤ 4 → (kd = 1 → S = s.extract i j) → Chain s j l → Chain s e (⟨kd, S, v, (i : Int), (j : Int)⟩ :: l)
theorem LexR.out {s : ByteArray} {a : Nat} {l : List S25} {q : List S25 × Int × Int} (h : LexR s a l q) : a ≤ s.size → (∃ p : Nat, p ≤ s.size ∧ q = ([], (p : Int), 11)) ∨ ∃ m, q = (l ++ m, 0, 0) ∧ Chain s a m := by
 induction h with
 | @wrong a l p h1 hp => intro ha; exact .inl ⟨p, hp, rfl⟩
 | @fin a l h1 => intro ha; exact .inr ⟨_, rfl, .last ha⟩
 | @more a l kd S x y z i j q h1 g1 g2 g3 g4 g5 g6 _ ih =>
  intro ha
  rcases ih g3 with ⟨p, hp, e⟩ | ⟨m, e, hm⟩
  ·
   exact .inl ⟨p, hp, e⟩
  ·
   exact .inr ⟨_, by rw [e, List.append_assoc]; rfl, .cons g1 g2 g3 g4 g5 g6 hm⟩
theorem Chain.size {s : ByteArray} {e : Nat} {l : List S25} (h : Chain s e l) : l.length + e ≤ s.size + 1 := by
 induction h with
 | last h => simp; omega
 | cons h1 h2 h3 _ _ _ _ ih => simp only [List.length_cons]; omega
end Go.Proofs.YtfaogccfiklinaaDoor.Pl
