/- LexerNexts, in plain words. -/
import Derived.Test.YtfaogccfiklinaaDoorKbLf
import Derived.Test.YtfaogccfiklinaaDoorKbQx28
import Derived.KernelRfl
namespace Go.Proofs.YtfaogccfiklinaaDoor.Pl
open Go.RowKit Go.Proofs.YtfaogccfiklinaaDoorW.PrintWords
open Go.Proofs.YtfaogccfiklinaaDoor.Q
theorem lives_ok : Ev (fun k => skerrylaw18_lives.f k) true := Ev.of (skerrylaw18_lives.mono) (k := 60) (by decide +kernel)
theorem like_same (x1 : Int) (x2 : ByteArray) (x3 x4 : Int) (x5 : ByteArray) (x6 x7 : Int) : skerrylaw18_like.f x1 x2 x3 x4 x5 x6 x7 x1 x2 x3 x4 x5 x6 x7 = some true := by
 unfold skerrylaw18_like.f
 rw [if_pos rfl, if_pos rfl, if_pos (by simp), if_pos rfl]
 simp
end Go.Proofs.YtfaogccfiklinaaDoor.Pl
