/- TiersParts: the plain law, in the printed function's words. -/
import Derived.Test.YthlffcaaifpdeaaVdQx16
import Derived.Test.YthlffcaaifpdeaaVdPTParts
set_option linter.unusedVariables false
set_option linter.unusedSimpArgs false
namespace Go.Proofs.Ythlffcaaifpdeaa.Pure
open Go.RowKit Go.Proofs.Ythlffcaaifpdeaa.Q
theorem TiersParts : skerrylaw12_TiersParts.Pure := fun l0 _ _ _ => Pl.parts_ok l0
end Go.Proofs.Ythlffcaaifpdeaa.Pure
