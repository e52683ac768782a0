/- TiersMost: the plain law, in the printed function's words. -/
import Derived.Test.YthlffcaaifpdeaaVbQx17
import Derived.Test.YthlffcaaifpdeaaVbPTMost
set_option linter.unusedVariables false
set_option linter.unusedSimpArgs false
namespace Go.Proofs.Ythlffcaaifpdeaa.Pure
open Go.RowKit Go.Proofs.Ythlffcaaifpdeaa.Q
theorem TiersMost : skerrylaw12_TiersMost.Pure := fun l0 a1 _ _ _ _ => Pl.most_ok l0 a1
end Go.Proofs.Ythlffcaaifpdeaa.Pure
