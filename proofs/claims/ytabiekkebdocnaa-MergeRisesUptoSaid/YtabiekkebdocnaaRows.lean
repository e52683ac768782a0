/-
  No cell of these rows narrows 'for every input' (looked for: loops, veiled, ifaces, maps, wideKeys, modest, calm, conditions, laid).
  DERIVED. THE GIVEN ROWS OF THIS SEAT. 6 by the template 'for every input the law returns true; each argument reads behind the call as it read before'; 0 by the template 'total and deterministic' (their statements: YtabiekkebdocnaaTotals.lean).
  GIVEN WITH THE SEED: the statements are not yours to turn. If you find one false, say at which input.
  Laid BY PROGRAM, IN A SANDBOX (cutbox-rows.mjs): the forced cells as the released guide's own fill.sh prints them over the translation f0610435c6d6c232… (all of the seat's roots in one cut). By AI agents, Wed Nov 11 2026. No macro, syntax, notation, axiom, sorry.
-/
import Derived.Test.YtabiekkebdocnaaChecked
import GoSem.Claim
import GoSem.ClaimJoined
import GoSem.ClaimMapViews
import Derived.JoinedTies
import Derived.KernelRfl
namespace Go.Proofs.Ytabiekkebdocnaa
/- THE CELL 'sum', in the pinned program and in every row, IS THE sha256 OF THE DUMP (.gsa) THAT YtabiekkebdocnaaProg.lean LOADS. Nothing in Lean hashes anything: it is a label: what it is worth is what the hold of that sum in a sandbox is worth. -/
noncomputable def Try.pinned : Pinned := { name := "ytabiekkebdocnaa", sum := "f0610435c6d6c2327caf848bba89d5a07434f654db623596b112754f3887c8b1", checked := Try.checked }
namespace Rows
def none {H : Type} : Left H := { results := [], args := [] }

/-- 'skerrylaw10.MergeEach': WHATEVER THE INPUT: true; the input reads as it did. -/
def mergeEachSpec : ChangeSpec := { name := "mergeEach", fn := fun _ => fun
  | [d1, d2] => { results := [.lit (.bool true)], args := [d1, d2] }
  | _ => none }
def mergeEachRow : OpenClaim := { program := "ytabiekkebdocnaa", sum := "f0610435c6d6c2327caf848bba89d5a07434f654db623596b112754f3887c8b1", func := "skerry/skerrylaw10.MergeEach", spec := "mergeEach", unfollowed := true, recurses := true, plainKeys := false, apart := false }
def MergeEachSaid : Prop := mergeEachRow.holds Try.pinned (OpenSpec.ofChange mergeEachSpec)

/-- ITS FALSE NEIGHBOUR: 'it returns false'. Refute it at one input. -/
def mergeEachWrong : ChangeSpec := { name := "mergeEach", fn := fun _ => fun
  | [d1, d2] => { results := [.lit (.bool false)], args := [d1, d2] }
  | _ => none }
def MergeEachWrongFalsely : Prop := mergeEachRow.holds Try.pinned (OpenSpec.ofChange mergeEachWrong)

/-- 'skerrylaw10.MergeRises': WHATEVER THE INPUT: true; the input reads as it did. -/
def mergeRisesSpec : ChangeSpec := { name := "mergeRises", fn := fun _ => fun
  | [d] => { results := [.lit (.bool true)], args := [d] }
  | _ => none }
def mergeRisesRow : OpenClaim := { program := "ytabiekkebdocnaa", sum := "f0610435c6d6c2327caf848bba89d5a07434f654db623596b112754f3887c8b1", func := "skerry/skerrylaw10.MergeRises", spec := "mergeRises", unfollowed := true, recurses := true, plainKeys := false, apart := false }
def MergeRisesSaid : Prop := mergeRisesRow.holds Try.pinned (OpenSpec.ofChange mergeRisesSpec)

/-- ITS FALSE NEIGHBOUR: 'it returns false'. Refute it at one input. -/
def mergeRisesWrong : ChangeSpec := { name := "mergeRises", fn := fun _ => fun
  | [d] => { results := [.lit (.bool false)], args := [d] }
  | _ => none }
def MergeRisesWrongFalsely : Prop := mergeRisesRow.holds Try.pinned (OpenSpec.ofChange mergeRisesWrong)

/-- 'skerrylaw10.MergeSubs': WHATEVER THE INPUT: true; the input reads as it did. -/
def mergeSubsSpec : ChangeSpec := { name := "mergeSubs", fn := fun _ => fun
  | [d1, d2, d3] => { results := [.lit (.bool true)], args := [d1, d2, d3] }
  | _ => none }
def mergeSubsRow : OpenClaim := { program := "ytabiekkebdocnaa", sum := "f0610435c6d6c2327caf848bba89d5a07434f654db623596b112754f3887c8b1", func := "skerry/skerrylaw10.MergeSubs", spec := "mergeSubs", unfollowed := true, recurses := true, plainKeys := false, apart := false }
def MergeSubsSaid : Prop := mergeSubsRow.holds Try.pinned (OpenSpec.ofChange mergeSubsSpec)

/-- ITS FALSE NEIGHBOUR: 'it returns false'. Refute it at one input. -/
def mergeSubsWrong : ChangeSpec := { name := "mergeSubs", fn := fun _ => fun
  | [d1, d2, d3] => { results := [.lit (.bool false)], args := [d1, d2, d3] }
  | _ => none }
def MergeSubsWrongFalsely : Prop := mergeSubsRow.holds Try.pinned (OpenSpec.ofChange mergeSubsWrong)

/-- 'skerrylaw10.MergeParts': WHATEVER THE INPUT: true; the input reads as it did. -/
def mergePartsSpec : ChangeSpec := { name := "mergeParts", fn := fun _ => fun
  | [d] => { results := [.lit (.bool true)], args := [d] }
  | _ => none }
def mergePartsRow : OpenClaim := { program := "ytabiekkebdocnaa", sum := "f0610435c6d6c2327caf848bba89d5a07434f654db623596b112754f3887c8b1", func := "skerry/skerrylaw10.MergeParts", spec := "mergeParts", unfollowed := true, recurses := true, plainKeys := false, apart := false }
def MergePartsSaid : Prop := mergePartsRow.holds Try.pinned (OpenSpec.ofChange mergePartsSpec)

/-- ITS FALSE NEIGHBOUR: 'it returns false'. Refute it at one input. -/
def mergePartsWrong : ChangeSpec := { name := "mergeParts", fn := fun _ => fun
  | [d] => { results := [.lit (.bool false)], args := [d] }
  | _ => none }
def MergePartsWrongFalsely : Prop := mergePartsRow.holds Try.pinned (OpenSpec.ofChange mergePartsWrong)

/-- 'skerrylaw10.MergeWhole': WHATEVER THE INPUT: true; the input reads as it did. -/
def mergeWholeSpec : ChangeSpec := { name := "mergeWhole", fn := fun _ => fun
  | [d] => { results := [.lit (.bool true)], args := [d] }
  | _ => none }
def mergeWholeRow : OpenClaim := { program := "ytabiekkebdocnaa", sum := "f0610435c6d6c2327caf848bba89d5a07434f654db623596b112754f3887c8b1", func := "skerry/skerrylaw10.MergeWhole", spec := "mergeWhole", unfollowed := true, recurses := true, plainKeys := false, apart := false }
def MergeWholeSaid : Prop := mergeWholeRow.holds Try.pinned (OpenSpec.ofChange mergeWholeSpec)

/-- ITS FALSE NEIGHBOUR: 'it returns false'. Refute it at one input. -/
def mergeWholeWrong : ChangeSpec := { name := "mergeWhole", fn := fun _ => fun
  | [d] => { results := [.lit (.bool false)], args := [d] }
  | _ => none }
def MergeWholeWrongFalsely : Prop := mergeWholeRow.holds Try.pinned (OpenSpec.ofChange mergeWholeWrong)

/-- 'skerrylaw10.MergeMends': WHATEVER THE INPUT: true; the input reads as it did. -/
def mergeMendsSpec : ChangeSpec := { name := "mergeMends", fn := fun _ => fun
  | [d1, d2] => { results := [.lit (.bool true)], args := [d1, d2] }
  | _ => none }
def mergeMendsRow : OpenClaim := { program := "ytabiekkebdocnaa", sum := "f0610435c6d6c2327caf848bba89d5a07434f654db623596b112754f3887c8b1", func := "skerry/skerrylaw10.MergeMends", spec := "mergeMends", unfollowed := true, recurses := true, plainKeys := false, apart := false }
def MergeMendsSaid : Prop := mergeMendsRow.holds Try.pinned (OpenSpec.ofChange mergeMendsSpec)

/-- ITS FALSE NEIGHBOUR: 'it returns false'. Refute it at one input. -/
def mergeMendsWrong : ChangeSpec := { name := "mergeMends", fn := fun _ => fun
  | [d1, d2] => { results := [.lit (.bool false)], args := [d1, d2] }
  | _ => none }
def MergeMendsWrongFalsely : Prop := mergeMendsRow.holds Try.pinned (OpenSpec.ofChange mergeMendsWrong)

/- THE SECOND FORM. 'bulk': how many values and letters a reading holds, each counted each time it is reached (what is shared counts as often as it is met; a slice's spare places count too). A statement '..UptoSaid' is the law's where the arguments, and the package variables that the reading takes, are together of bulk at most 1048576: NARROWER than '..Said'. Prove '..Said' where nothing that the law and all that it calls make is longer than what came in: it says more and counts as full. Else prove '..UptoSaid'. A law counts once. -/
mutual
def uptoBulk {H : Type} : DataW H → Nat
  | .lit (.string bytes) => bytes.length + 1
  | .lit _ => 1
  | .nil => 1
  | .ptr d => uptoBulk d + 1
  | .slice elems spare => uptoBulkAll elems + uptoBulkAll spare + 1
  | .agg parts => uptoBulkAll parts + 1
  | .iface _ d => uptoBulk d + 1
  | .map entries => uptoBulkEntries entries + 1
  | .held _ => 1
def uptoBulkAll {H : Type} : List (DataW H) → Nat
  | [] => 0
  | d :: r => uptoBulk d + uptoBulkAll r
def uptoBulkEntries {H : Type} : List (Lit × DataW H) → Nat
  | [] => 0
  | x :: r => uptoBulkEntry x + uptoBulkEntries r
def uptoBulkEntry {H : Type} : Lit × DataW H → Nat
  | (.string bytes, d) => bytes.length + uptoBulk d + 1
  | (_, d) => uptoBulk d + 1
 end
def uptoSmall : (H : Type) → List (DataW H) → Bool := fun _ ds => decide (uptoBulkAll ds ≤ 1048576)
def OpenSpec.upto (s : _root_.Go.ChangeSpec) : _root_.Go.OpenSpec := { _root_.Go.OpenSpec.ofChange s with cond := some uptoSmall }

/-- 'skerrylaw10.MergeEach', WHERE WHAT IT READS IS OF BULK AT MOST 1048576: true; the input reads as it did. -/
def mergeEachUptoRow : OpenClaim := { program := "ytabiekkebdocnaa", sum := "f0610435c6d6c2327caf848bba89d5a07434f654db623596b112754f3887c8b1", func := "skerry/skerrylaw10.MergeEach", spec := "mergeEach", unfollowed := true, recurses := true, plainKeys := false, apart := false, narrowed := true }
def MergeEachUptoSaid : Prop := mergeEachUptoRow.holds Try.pinned (OpenSpec.upto mergeEachSpec)

/-- 'skerrylaw10.MergeRises', WHERE WHAT IT READS IS OF BULK AT MOST 1048576: true; the input reads as it did. -/
def mergeRisesUptoRow : OpenClaim := { program := "ytabiekkebdocnaa", sum := "f0610435c6d6c2327caf848bba89d5a07434f654db623596b112754f3887c8b1", func := "skerry/skerrylaw10.MergeRises", spec := "mergeRises", unfollowed := true, recurses := true, plainKeys := false, apart := false, narrowed := true }
def MergeRisesUptoSaid : Prop := mergeRisesUptoRow.holds Try.pinned (OpenSpec.upto mergeRisesSpec)

/-- 'skerrylaw10.MergeSubs', WHERE WHAT IT READS IS OF BULK AT MOST 1048576: true; the input reads as it did. -/
def mergeSubsUptoRow : OpenClaim := { program := "ytabiekkebdocnaa", sum := "f0610435c6d6c2327caf848bba89d5a07434f654db623596b112754f3887c8b1", func := "skerry/skerrylaw10.MergeSubs", spec := "mergeSubs", unfollowed := true, recurses := true, plainKeys := false, apart := false, narrowed := true }
def MergeSubsUptoSaid : Prop := mergeSubsUptoRow.holds Try.pinned (OpenSpec.upto mergeSubsSpec)

/-- 'skerrylaw10.MergeParts', WHERE WHAT IT READS IS OF BULK AT MOST 1048576: true; the input reads as it did. -/
def mergePartsUptoRow : OpenClaim := { program := "ytabiekkebdocnaa", sum := "f0610435c6d6c2327caf848bba89d5a07434f654db623596b112754f3887c8b1", func := "skerry/skerrylaw10.MergeParts", spec := "mergeParts", unfollowed := true, recurses := true, plainKeys := false, apart := false, narrowed := true }
def MergePartsUptoSaid : Prop := mergePartsUptoRow.holds Try.pinned (OpenSpec.upto mergePartsSpec)

/-- 'skerrylaw10.MergeWhole', WHERE WHAT IT READS IS OF BULK AT MOST 1048576: true; the input reads as it did. -/
def mergeWholeUptoRow : OpenClaim := { program := "ytabiekkebdocnaa", sum := "f0610435c6d6c2327caf848bba89d5a07434f654db623596b112754f3887c8b1", func := "skerry/skerrylaw10.MergeWhole", spec := "mergeWhole", unfollowed := true, recurses := true, plainKeys := false, apart := false, narrowed := true }
def MergeWholeUptoSaid : Prop := mergeWholeUptoRow.holds Try.pinned (OpenSpec.upto mergeWholeSpec)

/-- 'skerrylaw10.MergeMends', WHERE WHAT IT READS IS OF BULK AT MOST 1048576: true; the input reads as it did. -/
def mergeMendsUptoRow : OpenClaim := { program := "ytabiekkebdocnaa", sum := "f0610435c6d6c2327caf848bba89d5a07434f654db623596b112754f3887c8b1", func := "skerry/skerrylaw10.MergeMends", spec := "mergeMends", unfollowed := true, recurses := true, plainKeys := false, apart := false, narrowed := true }
def MergeMendsUptoSaid : Prop := mergeMendsUptoRow.holds Try.pinned (OpenSpec.upto mergeMendsSpec)

end Rows
end Go.Proofs.Ytabiekkebdocnaa
