/- The document's examples: the law's own lives. -/
import Derived.Test.YtaedmofnhjaljaaKwQx15
import Derived.Test.YtaedmofnhjaljaaKwJ33
namespace Go.Proofs.Ytaedmofnhjaljaa.Pl
open Go Go.RowKit Go.Proofs.YtaedmofnhjaljaaW.PrintWords Go.Proofs.Ytaedmofnhjaljaa.Q Go.Proofs.Ytaedmofnhjaljaa.Ord
theorem lives_f (k : Nat) (hk : 5 ≤ k) : skerrylaw05_lives.f k = some true := by
 unfold skerrylaw05_lives.f
 simp only [join_f k hk]
 decide +kernel
end Go.Proofs.Ytaedmofnhjaljaa.Pl
