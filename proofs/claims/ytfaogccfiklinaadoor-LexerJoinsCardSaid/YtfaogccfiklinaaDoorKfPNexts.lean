/- LexerNexts, in plain words. -/
import Derived.Test.YtfaogccfiklinaaDoorKfLf
import Derived.Test.YtfaogccfiklinaaDoorKfQx28
import Derived.KernelRfl
set_option linter.unusedVariables false
set_option linter.unusedSimpArgs false
namespace Go.Proofs.YtfaogccfiklinaaDoor.Pl
open Go.RowKit Go.Proofs.YtfaogccfiklinaaDoorW.PrintWords
open Go.Proofs.YtfaogccfiklinaaDoor.Q
theorem lives_ok : Ev (fun k => skerrylaw18_lives.f k) true := Ev.of (skerrylaw18_lives.mono) (k := 60) (by decide +kernel)
end Go.Proofs.YtfaogccfiklinaaDoor.Pl
