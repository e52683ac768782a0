/- TiersOne: the plain law, in the printed function's words. -/
import Derived.Test.YthlffcaaifpdeaaVcQx18
import Derived.Test.YthlffcaaifpdeaaVcPTOne
set_option linter.unusedVariables false
set_option linter.unusedSimpArgs false
namespace Go.Proofs.Ythlffcaaifpdeaa.Pure
open Go.RowKit Go.Proofs.Ythlffcaaifpdeaa.Q
theorem TiersOne : skerrylaw12_TiersOne.Pure := fun a0 a1 a2 _ h1 h2 => Pl.one_ok a0 a1 a2 h1 h2
end Go.Proofs.Ythlffcaaifpdeaa.Pure
