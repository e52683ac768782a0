/- The document's Cmp and Join of versions, and its Cmp of keys: what the program's are. -/
import Derived.Test.YtlffkbcaphhldaaFcJ21
import Derived.Test.YtlffkbcaphhldaaFcQx0
import Derived.Test.YtlffkbcaphhldaaFcQx9
import Derived.Test.YtlffkbcaphhldaaFcPVer
import Derived.Test.YtlffkbcaphhldaaFcJ25
import Derived.Test.YtlffkbcaphhldaaFcNormT
namespace Go.Proofs.Ytlffkbcaphhldaa.Pl
open Go.RowKit Go.Proofs.YtlffkbcaphhldaaW.PrintWords
open Go.Proofs.Ytlffkbcaphhldaa.Q Go.Proofs.Ytlffkbcaphhldaa.Ord
set_option linter.unusedVariables false
set_option linter.unusedSimpArgs false
theorem keyB_cmp (x y : S31) : (x.f0.toList == y.f0.toList && (x.f1.toList == y.f1.toList && (x.f2 == y.f2 && (x.f3.toList == y.f3.toList)))) = (cmpK x y == 0) := by
 rw [Bool.eq_iff_iff]
 simp only [Bool.and_eq_true, beq_iff_eq, cmpK, lex_zero, cs_zero, ci_zero]
end Go.Proofs.Ytlffkbcaphhldaa.Pl
namespace Go.Proofs.Ytlffkbcaphhldaa.Pl
open Go Go.RowKit Go.Proofs.YtlffkbcaphhldaaW.PrintWords Go.Proofs.Ytlffkbcaphhldaa.Q Go.Proofs.Ytlffkbcaphhldaa.Ord Go.Proofs.Ytlffkbcaphhldaa.Nm
set_option linter.unusedVariables false
set_option linter.unusedSimpArgs false
def keyC (x : S37) : S31 := x.f0
def joinC (a b : S37) : S37 := ⟨a.f0, joinV a.f1 b.f1⟩
theorem joinC_key (a b : S37) : keyC (joinC a b) = keyC a := rfl
end Go.Proofs.Ytlffkbcaphhldaa.Pl
