/- Lemmas for this claim's walk: no condition of their own. -/
import Derived.Test.YtfaogccfiklinaaDoorKfSq
import Derived.Test.YtfaogccfiklinaaDoorKfBy
import Derived.Test.YtfaogccfiklinaaDoorKfQx0
import Derived.Test.YtfaogccfiklinaaDoorKfJ12
import Derived.Test.YtfaogccfiklinaaDoorKfQx20
import Derived.Lib.SlBytesConst
namespace Go.Proofs.YtfaogccfiklinaaDoor.Q
open Go.RowKit Go.Proofs.YtfaogccfiklinaaDoorW.PrintWords Go.Proofs.YtfaogccfiklinaaDoorW.PrintLast Go.Proofs.YtfaogccfiklinaaDoorW.PrintMore
attribute [local go_sem] max2_int min2_int max_two min_two max_three min_three max_four min_four
set_option linter.unusedVariables false
set_option linter.unusedSimpArgs false
def skerryref18_Word.f (k : Nat) (a0 : ByteArray) : Option (Bool) := (skerryref18_Lower.f a0).bind fun t265 => ((skerryref17_Word.f k t265).bind fun t266 => (some t266))
def upG (c : Int) : Int := if 97 ≤ c ∧ c ≤ 122 then (c - 32) % 256 else c
def skerryref16_Upper.f (a0 : ByteArray) : Option (ByteArray) := if a0.size ≤ 9223372036854775807 then some (By.mapB upG a0) else none
end Go.Proofs.YtfaogccfiklinaaDoor.Q
namespace Go.Proofs.YtfaogccfiklinaaDoor.Q
open Go.RowKit Go.Proofs.YtfaogccfiklinaaDoorW.PrintWords Go.Proofs.YtfaogccfiklinaaDoorW.PrintLast Go.Proofs.YtfaogccfiklinaaDoorW.PrintMore
attribute [local go_sem] max2_int min2_int max_two min_two max_three min_three max_four min_four
set_option linter.unusedVariables false
set_option linter.unusedSimpArgs false
mutual
def skerryref18_word.j1 : Nat → ByteArray → Int → Int → Option (Int × ByteArray × Int × Int × ByteArray × Int × Int × Int)
 | 0, _, _, _ => none
 | k + 1, x0, x1, x6 => if 0 ≤ x1 then (if x1 ≤ x6 then (if x6 ≤ (x0.size : Int) then ((skerryref18_Word.f k (x0.extract (x1 : Int).toNat (x6 : Int).toNat)).bind fun t270 => (if t270 = true then ((skerryref16_Upper.f (x0.extract (x1 : Int).toNat (x6 : Int).toNat)).bind fun t271 => (some (2, t271, 0, 0, (⟨#[]⟩ : ByteArray), x1, x6, (-1)))) else ((skerryref18_Lower.f (x0.extract (x1 : Int).toNat (x6 : Int).toNat)).bind fun t272 => ((skerryref04_Name.f k t272).bind fun t273 => (if t273 = true then ((skerryref18_Lower.f (x0.extract (x1 : Int).toNat (x6 : Int).toNat)).bind fun t274 => (some (3, t274, 0, 0, (⟨#[]⟩ : ByteArray), x1, x6, (-1)))) else (some (0, (⟨#[]⟩ : ByteArray), 0, 0, (⟨#[]⟩ : ByteArray), 0, 0, x1))))))) else (none)) else (none)) else (none)
def skerryref18_word.l0 : Nat → ByteArray → Int → Int → Option (Int × ByteArray × Int × Int × ByteArray × Int × Int × Int)
 | 0, _, _, _ => none
 | k + 1, x0, x1, x6 => if x6 < (x0.size : Int) then (if 0 ≤ x6 then ((skerryref18_letter.f (bt x0 x6)).bind fun t268 => (if t268 = true then (skerryref18_word.l0 k x0 x1 (wrap64 (x6 + 1))) else ((skerryref18_digit.f (bt x0 x6)).bind fun t269 => (if t269 = true then (skerryref18_word.l0 k x0 x1 (wrap64 (x6 + 1))) else (if (bt x0 x6) = 95 then (skerryref18_word.l0 k x0 x1 (wrap64 (x6 + 1))) else (skerryref18_word.j1 k x0 x1 x6)))))) else (none)) else (skerryref18_word.j1 k x0 x1 x6)
end
def skerryref18_word.f (k : Nat) (a0 : ByteArray) (a1 : Int) : Option (Int × ByteArray × Int × Int × ByteArray × Int × Int × Int) := skerryref18_word.l0 k a0 a1 a1
end Go.Proofs.YtfaogccfiklinaaDoor.Q
namespace Go.Proofs.YtfaogccfiklinaaDoor.Q
open Go.RowKit Go.Proofs.YtfaogccfiklinaaDoorW.PrintWords Go.Proofs.YtfaogccfiklinaaDoorW.PrintLast Go.Proofs.YtfaogccfiklinaaDoorW.PrintMore
attribute [local go_sem] max2_int min2_int max_two min_two max_three min_three max_four min_four
set_option linter.unusedVariables false
set_option linter.unusedSimpArgs false
mutual
def skerryref18_one.j1 : Nat → ByteArray → Int → Int → Option (Int × ByteArray × Int × Int × ByteArray × Int × Int × Int)
 | 0, _, _, _ => none
 | k + 1, x0, x1, x6 => (some (([61, 60, 40, 41, 44, 42] : List Int) : List Int)).bind fun y303 => (skerryref18_one.l0 k x0 x1 x6 y303 (y303.length : Int) 0)
def skerryref18_one.l0 : Nat → ByteArray → Int → Int → List Int → Int → Int → Option (Int × ByteArray × Int × Int × ByteArray × Int × Int × Int)
 | 0, _, _, _, _, _, _ => none
 | k + 1, x0, x1, x6, x74, x75, x76 => if x76 < x75 then (if 0 ≤ x76 then (if x76 < (x74.length : Int) then (if x6 = (rd x74 x76) then (if 0 ≤ x1 then (if x1 ≤ (wrap64 (x1 + 1)) then (if (wrap64 (x1 + 1)) ≤ (x0.size : Int) then (some (1, x0.extract (x1 : Int).toNat ((wrap64 (x1 + 1)) : Int).toNat, 0, 0, (⟨#[]⟩ : ByteArray), x1, wrap64 (x1 + 1), (-1))) else (none)) else (none)) else (none)) else (skerryref18_one.l0 k x0 x1 x6 x74 x75 (wrap64 (x76 + 1)))) else (none)) else (none)) else (some (0, (⟨#[]⟩ : ByteArray), 0, 0, (⟨#[]⟩ : ByteArray), 0, 0, x1))
def skerryref18_one.j0 : Nat → ByteArray → Int → Int → Bool → Option (Int × ByteArray × Int × Int × ByteArray × Int × Int × Int)
 | 0, _, _, _, _ => none
 | k + 1, x0, x1, x6, x12 => if x12 = true then ((skerryref18_number.f k x0 x1).bind fun bt278 => (some (bt278.1, bt278.2.1, bt278.2.2.1, bt278.2.2.2.1, bt278.2.2.2.2.1, bt278.2.2.2.2.2.1, bt278.2.2.2.2.2.2.1, bt278.2.2.2.2.2.2.2))) else (if x6 = 39 then ((skerryref18_quoted.f k x0 x1).bind fun bt286 => (some (bt286.1, bt286.2.1, bt286.2.2.1, bt286.2.2.2.1, bt286.2.2.2.2.1, bt286.2.2.2.2.2.1, bt286.2.2.2.2.2.2.1, bt286.2.2.2.2.2.2.2))) else ((skerryref18_letter.f x6).bind fun t294 => (if t294 = true then ((skerryref18_word.f k x0 x1).bind fun bt295 => (some (bt295.1, bt295.2.1, bt295.2.2.1, bt295.2.2.2.1, bt295.2.2.2.2.1, bt295.2.2.2.2.2.1, bt295.2.2.2.2.2.2.1, bt295.2.2.2.2.2.2.2))) else (if x6 = 62 then (if (wrap64 (x1 + 1)) < (x0.size : Int) then (if 0 ≤ (wrap64 (x1 + 1)) then (if (bt x0 (wrap64 (x1 + 1))) = 61 then (some (1, (⟨#[62, 61]⟩ : ByteArray), 0, 0, (⟨#[]⟩ : ByteArray), x1, wrap64 (x1 + 2), (-1))) else (skerryref18_one.j1 k x0 x1 x6)) else (none)) else (skerryref18_one.j1 k x0 x1 x6)) else (skerryref18_one.j1 k x0 x1 x6)))))
end
def skerryref18_one.f (k : Nat) (a0 : ByteArray) (a1 : Int) : Option (Int × ByteArray × Int × Int × ByteArray × Int × Int × Int) := if 0 ≤ a1 then (if a1 < (a0.size : Int) then ((skerryref18_digit.f (bt a0 a1)).bind fun t276 => (if t276 = true then (skerryref18_one.j0 k a0 a1 (bt a0 a1) t276) else (if (bt a0 a1) = 45 then (if (wrap64 (a1 + 1)) < (a0.size : Int) then (if 0 ≤ (wrap64 (a1 + 1)) then ((skerryref18_digit.f (bt a0 (wrap64 (a1 + 1)))).bind fun t277 => (skerryref18_one.j0 k a0 a1 (bt a0 a1) t277)) else (none)) else (skerryref18_one.j0 k a0 a1 (bt a0 a1) false)) else (skerryref18_one.j0 k a0 a1 (bt a0 a1) false)))) else (none)) else (none)
end Go.Proofs.YtfaogccfiklinaaDoor.Q
namespace Go.Proofs.YtfaogccfiklinaaDoor.Q
open Go.RowKit Go.Proofs.YtfaogccfiklinaaDoorW.PrintWords Go.Proofs.YtfaogccfiklinaaDoorW.PrintLast Go.Proofs.YtfaogccfiklinaaDoorW.PrintMore
attribute [local go_sem] max2_int min2_int max_two min_two max_three min_three max_four min_four
set_option linter.unusedVariables false
set_option linter.unusedSimpArgs false
def skerryref18_Next.j0 : Nat → ByteArray → Int → Bool → Option (Int × ByteArray × Int × Int × ByteArray × Int × Int × Int × Int)
 | 0, _, _, _ => none
 | k + 1, x0, x1, x20 => if x20 = true then (some (0, (⟨#[]⟩ : ByteArray), 0, 0, (⟨#[]⟩ : ByteArray), 0, 0, 0, 6)) else ((skerryref18_skip.f k x0 x1).bind fun t308 => (if t308 = (x0.size : Int) then (some (0, (⟨#[]⟩ : ByteArray), 0, 0, (⟨#[]⟩ : ByteArray), t308, t308, 0, 0)) else ((skerryref18_one.f k x0 t308).bind fun bt309 => (if bt309.2.2.2.2.2.2.2 ≥ 0 then (some (0, (⟨#[]⟩ : ByteArray), 0, 0, (⟨#[]⟩ : ByteArray), 0, 0, bt309.2.2.2.2.2.2.2, 11)) else (some (bt309.1, bt309.2.1, bt309.2.2.1, bt309.2.2.2.1, bt309.2.2.2.2.1, bt309.2.2.2.2.2.1, bt309.2.2.2.2.2.2.1, 0, 0))))))
def skerryref18_Next.f (k : Nat) (a0 : ByteArray) (a1 : Int) : Option (Int × ByteArray × Int × Int × ByteArray × Int × Int × Int × Int) := if (a0.size : Int) > 600 then (some (0, (⟨#[]⟩ : ByteArray), 0, 0, (⟨#[]⟩ : ByteArray), 0, 0, 0, 17)) else (if a1 < 0 then (skerryref18_Next.j0 k a0 a1 true) else (skerryref18_Next.j0 k a0 a1 (decide (a1 > (a0.size : Int)))))
end Go.Proofs.YtfaogccfiklinaaDoor.Q
namespace Go.Proofs.YtfaogccfiklinaaDoor.Q
open Go.RowKit Go.Proofs.YtfaogccfiklinaaDoorW.PrintWords Go.Proofs.YtfaogccfiklinaaDoorW.PrintLast Go.Proofs.YtfaogccfiklinaaDoorW.PrintMore
attribute [local go_sem] max2_int min2_int max_two min_two max_three min_three max_four min_four
set_option linter.unusedVariables false
set_option linter.unusedSimpArgs false
def skerryref18_Lex.l0 : Nat → ByteArray → List (S29) → Int → Option ((List (S29)) × Int × Int)
 | 0, _, _, _ => none
 | k + 1, x0, x5, x6 => (skerryref18_Next.f k x0 x6).bind fun bt388 => (if bt388.2.2.2.2.2.2.2.2 = 0 then (if x5.length < 1954687338268 then ((some (x5 ++ [(⟨bt388.1, bt388.2.1, (⟨bt388.2.2.1, bt388.2.2.2.1, bt388.2.2.2.2.1⟩ : S23), bt388.2.2.2.2.2.1, bt388.2.2.2.2.2.2.1⟩ : S29)] : List (S29))).bind fun y398 => (if bt388.1 = 0 then (some (y398, 0, 0)) else (skerryref18_Lex.l0 k x0 y398 bt388.2.2.2.2.2.2.1))) else (none)) else (some (([] : List (S29)), bt388.2.2.2.2.2.2.2.1, bt388.2.2.2.2.2.2.2.2)))
def skerryref18_Lex.f (k : Nat) (a0 : ByteArray) : Option ((List (S29)) × Int × Int) := skerryref18_Lex.l0 k a0 ([] : List (S29)) 0
end Go.Proofs.YtfaogccfiklinaaDoor.Q
