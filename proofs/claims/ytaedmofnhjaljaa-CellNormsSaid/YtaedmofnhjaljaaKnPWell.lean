/- What is told of a row's cells: their texts are not too long, their numbers are ints. -/
import Derived.Test.YtaedmofnhjaljaaKnOZ
import Derived.Test.YtaedmofnhjaljaaKnPCodec
import Derived.Test.YtaedmofnhjaljaaKnJ15
namespace Go.Proofs.Ytaedmofnhjaljaa.Pl
open Go Go.RowKit Go.Proofs.YtaedmofnhjaljaaW.PrintWords Go.Proofs.Ytaedmofnhjaljaa.Q Go.Proofs.Ytaedmofnhjaljaa.Opn
theorem WC.fine {c : S29} (h : WC c) : FineC c := ⟨h.1.1, h.1.2.1, h.1.2.2.2, h.2.2.2.2.2.2⟩
theorem WC.ok {c : S29} (h : WC c) : okC c := ⟨wf_i64 h.1.2.2.1, wf_i64 h.2.1, wf_i64 h.2.2.2.1, wf_i64 h.2.2.2.2.2.1⟩
theorem len_of {n : Nat} (h : n * 112 ≤ 140737488351232) : n ≤ 1256584717421 := by omega
end Go.Proofs.Ytaedmofnhjaljaa.Pl
