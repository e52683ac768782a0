/- LexerQuotes, in plain words: what Quote tells is read as the text that it quotes. -/
import Derived.Test.YtfaogccfiklinaaDoorKeLg
import Derived.Test.YtfaogccfiklinaaDoorKeQx27
import Derived.Test.YtfaogccfiklinaaDoorKeQx0
import Derived.Test.YtfaogccfiklinaaDoorKeJ12
import Derived.Test.YtfaogccfiklinaaDoorKeQx26
import Derived.Test.YtfaogccfiklinaaDoorKeQx28
set_option linter.unusedVariables false
set_option linter.unusedSimpArgs false
namespace Go.Proofs.YtfaogccfiklinaaDoor.Pl
open Go.RowKit Go.Proofs.YtfaogccfiklinaaDoorW.PrintWords
open Go.Proofs.YtfaogccfiklinaaDoor.Q
theorem size_nums (l : List Int) : (strOfNums l).size = l.length := by
 show (List.toArray _).size = _
 simp
theorem cb_nums {s : ByteArray} (p : List Int) (x : Int) (t : List Int) (e : s = strOfNums (p ++ x :: t)) (h0 : 0 ≤ x) (h1 : x < 256) : cb s p.length = x.toNat := by
 subst e
 have hl : p.length < (strOfNums (p ++ x :: t)).size := by rw [size_nums]; simp
 unfold cb
 rw [dif_pos hl]
 show ((List.toArray ((p ++ x :: t).map fun n => UInt8.ofNat n.toNat))[p.length]'(by simp)).toNat = _
 simp
 omega
def hd (n : Nat) : Nat := if n < 10 then 48 + n else 55 + n
def e1 (b : Nat) : List Int := if plainB b = true then [(b : Int)] else [37, ((hd (b / 16) : Nat) : Int), ((hd (b % 16) : Nat) : Int)]
def enc : List Nat → List Int
 | [] => []
 | b :: l => e1 b ++ enc l
theorem sk_fin (s : ByteArray) : Sk s s.size s.size := .stop (fun h => absurd h (Nat.lt_irrefl _)) (fun e => by rw [cb_out (Nat.le_refl _)] at e; exact absurd e.1 (by decide))
end Go.Proofs.YtfaogccfiklinaaDoor.Pl
