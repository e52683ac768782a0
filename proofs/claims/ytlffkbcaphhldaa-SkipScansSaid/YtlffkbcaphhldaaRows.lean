/-
  No cell of these rows narrows 'for every input' (looked for: loops, veiled, ifaces, maps, wideKeys, modest, calm, conditions, laid).
  DERIVED. THE GIVEN ROWS OF THIS SEAT. 5 by the template 'for every input the law returns true; each argument reads behind the call as it read before'; 0 by the template 'total and deterministic' (their statements: YtlffkbcaphhldaaTotals.lean).
  GIVEN WITH THE SEED: the statements are not yours to turn. If you find one false, say at which input.
  Laid BY PROGRAM, IN A SANDBOX (cutbox-rows.mjs): the forced cells as the released guide's own fill.sh prints them over the translation 61ed5a7d5ccecb9c… (all of the seat's roots in one cut). By AI agents, Wed Nov 11 2026. No macro, syntax, notation, axiom, sorry.
-/
import Derived.Test.YtlffkbcaphhldaaChecked
import GoSem.Claim
import GoSem.ClaimJoined
import GoSem.ClaimMapViews
import Derived.JoinedTies
import Derived.KernelRfl
namespace Go.Proofs.Ytlffkbcaphhldaa
/- THE CELL 'sum', in the pinned program and in every row, IS THE sha256 OF THE DUMP (.gsa) THAT YtlffkbcaphhldaaProg.lean LOADS. Nothing in Lean hashes anything: it is a label: what it is worth is what the hold of that sum in a sandbox is worth. -/
noncomputable def Try.pinned : Pinned := { name := "ytlffkbcaphhldaa", sum := "61ed5a7d5ccecb9ccca39acddad7bdff4cf8d30b6087127fce2bbc5d82ff62b7", checked := Try.checked }
namespace Rows
def none {H : Type} : Left H := { results := [], args := [] }

/-- 'skerrylaw06.SkipNorm': WHATEVER THE INPUT: true; the input reads as it did. -/
def skipNormSpec : ChangeSpec := { name := "skipNorm", fn := fun _ => fun
  | [d1, d2] => { results := [.lit (.bool true)], args := [d1, d2] }
  | _ => none }
def skipNormRow : OpenClaim := { program := "ytlffkbcaphhldaa", sum := "61ed5a7d5ccecb9ccca39acddad7bdff4cf8d30b6087127fce2bbc5d82ff62b7", func := "skerry/skerrylaw06.SkipNorm", spec := "skipNorm", unfollowed := true, recurses := true, apart := false }
def SkipNormSaid : Prop := skipNormRow.holds Try.pinned (OpenSpec.ofChange skipNormSpec)

/-- ITS FALSE NEIGHBOUR: 'it returns false'. Refute it at one input. -/
def skipNormWrong : ChangeSpec := { name := "skipNorm", fn := fun _ => fun
  | [d1, d2] => { results := [.lit (.bool false)], args := [d1, d2] }
  | _ => none }
def SkipNormWrongFalsely : Prop := skipNormRow.holds Try.pinned (OpenSpec.ofChange skipNormWrong)

/-- 'skerrylaw06.SkipGets': WHATEVER THE INPUT: true; the input reads as it did. -/
def skipGetsSpec : ChangeSpec := { name := "skipGets", fn := fun _ => fun
  | [d1, d2, d3] => { results := [.lit (.bool true)], args := [d1, d2, d3] }
  | _ => none }
def skipGetsRow : OpenClaim := { program := "ytlffkbcaphhldaa", sum := "61ed5a7d5ccecb9ccca39acddad7bdff4cf8d30b6087127fce2bbc5d82ff62b7", func := "skerry/skerrylaw06.SkipGets", spec := "skipGets", unfollowed := true, recurses := true, apart := false }
def SkipGetsSaid : Prop := skipGetsRow.holds Try.pinned (OpenSpec.ofChange skipGetsSpec)

/-- ITS FALSE NEIGHBOUR: 'it returns false'. Refute it at one input. -/
def skipGetsWrong : ChangeSpec := { name := "skipGets", fn := fun _ => fun
  | [d1, d2, d3] => { results := [.lit (.bool false)], args := [d1, d2, d3] }
  | _ => none }
def SkipGetsWrongFalsely : Prop := skipGetsRow.holds Try.pinned (OpenSpec.ofChange skipGetsWrong)

/-- 'skerrylaw06.SkipScans': WHATEVER THE INPUT: true; the input reads as it did. -/
def skipScansSpec : ChangeSpec := { name := "skipScans", fn := fun _ => fun
  | [d1, d2, d3] => { results := [.lit (.bool true)], args := [d1, d2, d3] }
  | _ => none }
def skipScansRow : OpenClaim := { program := "ytlffkbcaphhldaa", sum := "61ed5a7d5ccecb9ccca39acddad7bdff4cf8d30b6087127fce2bbc5d82ff62b7", func := "skerry/skerrylaw06.SkipScans", spec := "skipScans", unfollowed := true, recurses := true, apart := false }
def SkipScansSaid : Prop := skipScansRow.holds Try.pinned (OpenSpec.ofChange skipScansSpec)

/-- ITS FALSE NEIGHBOUR: 'it returns false'. Refute it at one input. -/
def skipScansWrong : ChangeSpec := { name := "skipScans", fn := fun _ => fun
  | [d1, d2, d3] => { results := [.lit (.bool false)], args := [d1, d2, d3] }
  | _ => none }
def SkipScansWrongFalsely : Prop := skipScansRow.holds Try.pinned (OpenSpec.ofChange skipScansWrong)

/-- 'skerrylaw06.SkipPuts': WHATEVER THE INPUT: true; the input reads as it did. -/
def skipPutsSpec : ChangeSpec := { name := "skipPuts", fn := fun _ => fun
  | [d1, d2, d3] => { results := [.lit (.bool true)], args := [d1, d2, d3] }
  | _ => none }
def skipPutsRow : OpenClaim := { program := "ytlffkbcaphhldaa", sum := "61ed5a7d5ccecb9ccca39acddad7bdff4cf8d30b6087127fce2bbc5d82ff62b7", func := "skerry/skerrylaw06.SkipPuts", spec := "skipPuts", unfollowed := true, recurses := true, apart := false }
def SkipPutsSaid : Prop := skipPutsRow.holds Try.pinned (OpenSpec.ofChange skipPutsSpec)

/-- ITS FALSE NEIGHBOUR: 'it returns false'. Refute it at one input. -/
def skipPutsWrong : ChangeSpec := { name := "skipPuts", fn := fun _ => fun
  | [d1, d2, d3] => { results := [.lit (.bool false)], args := [d1, d2, d3] }
  | _ => none }
def SkipPutsWrongFalsely : Prop := skipPutsRow.holds Try.pinned (OpenSpec.ofChange skipPutsWrong)

/-- 'skerrylaw06.SkipNone': WHATEVER THE INPUT: true; the input reads as it did. -/
def skipNoneSpec : ChangeSpec := { name := "skipNone", fn := fun _ => fun
  | [d] => { results := [.lit (.bool true)], args := [d] }
  | _ => none }
def skipNoneRow : OpenClaim := { program := "ytlffkbcaphhldaa", sum := "61ed5a7d5ccecb9ccca39acddad7bdff4cf8d30b6087127fce2bbc5d82ff62b7", func := "skerry/skerrylaw06.SkipNone", spec := "skipNone", unfollowed := true, recurses := true, apart := false }
def SkipNoneSaid : Prop := skipNoneRow.holds Try.pinned (OpenSpec.ofChange skipNoneSpec)

/-- ITS FALSE NEIGHBOUR: 'it returns false'. Refute it at one input. -/
def skipNoneWrong : ChangeSpec := { name := "skipNone", fn := fun _ => fun
  | [d] => { results := [.lit (.bool false)], args := [d] }
  | _ => none }
def SkipNoneWrongFalsely : Prop := skipNoneRow.holds Try.pinned (OpenSpec.ofChange skipNoneWrong)

/- THE SECOND FORM. 'bulk': how many values and letters a reading holds, each counted each time it is reached (what is shared counts as often as it is met; a slice's spare places count too). A statement '..UptoSaid' is the law's where the arguments, and the package variables that the reading takes, are together of bulk at most 1048576: NARROWER than '..Said'. Prove '..Said' where nothing that the law and all that it calls make is longer than what came in: it says more and counts as full. Else prove '..UptoSaid'. A law counts once. -/
mutual
def uptoBulk {H : Type} : DataW H → Nat
  | .lit (.string bytes) => bytes.length + 1
  | .lit _ => 1
  | .nil => 1
  | .ptr d => uptoBulk d + 1
  | .slice elems spare => uptoBulkAll elems + uptoBulkAll spare + 1
  | .agg parts => uptoBulkAll parts + 1
  | .iface _ d => uptoBulk d + 1
  | .map entries => uptoBulkEntries entries + 1
  | .held _ => 1
def uptoBulkAll {H : Type} : List (DataW H) → Nat
  | [] => 0
  | d :: r => uptoBulk d + uptoBulkAll r
def uptoBulkEntries {H : Type} : List (Lit × DataW H) → Nat
  | [] => 0
  | x :: r => uptoBulkEntry x + uptoBulkEntries r
def uptoBulkEntry {H : Type} : Lit × DataW H → Nat
  | (.string bytes, d) => bytes.length + uptoBulk d + 1
  | (_, d) => uptoBulk d + 1
 end
def uptoSmall : (H : Type) → List (DataW H) → Bool := fun _ ds => decide (uptoBulkAll ds ≤ 1048576)
def OpenSpec.upto (s : _root_.Go.ChangeSpec) : _root_.Go.OpenSpec := { _root_.Go.OpenSpec.ofChange s with cond := some uptoSmall }

/-- 'skerrylaw06.SkipNorm', WHERE WHAT IT READS IS OF BULK AT MOST 1048576: true; the input reads as it did. -/
def skipNormUptoRow : OpenClaim := { program := "ytlffkbcaphhldaa", sum := "61ed5a7d5ccecb9ccca39acddad7bdff4cf8d30b6087127fce2bbc5d82ff62b7", func := "skerry/skerrylaw06.SkipNorm", spec := "skipNorm", unfollowed := true, recurses := true, apart := false, narrowed := true }
def SkipNormUptoSaid : Prop := skipNormUptoRow.holds Try.pinned (OpenSpec.upto skipNormSpec)

/-- 'skerrylaw06.SkipGets', WHERE WHAT IT READS IS OF BULK AT MOST 1048576: true; the input reads as it did. -/
def skipGetsUptoRow : OpenClaim := { program := "ytlffkbcaphhldaa", sum := "61ed5a7d5ccecb9ccca39acddad7bdff4cf8d30b6087127fce2bbc5d82ff62b7", func := "skerry/skerrylaw06.SkipGets", spec := "skipGets", unfollowed := true, recurses := true, apart := false, narrowed := true }
def SkipGetsUptoSaid : Prop := skipGetsUptoRow.holds Try.pinned (OpenSpec.upto skipGetsSpec)

/-- 'skerrylaw06.SkipScans', WHERE WHAT IT READS IS OF BULK AT MOST 1048576: true; the input reads as it did. -/
def skipScansUptoRow : OpenClaim := { program := "ytlffkbcaphhldaa", sum := "61ed5a7d5ccecb9ccca39acddad7bdff4cf8d30b6087127fce2bbc5d82ff62b7", func := "skerry/skerrylaw06.SkipScans", spec := "skipScans", unfollowed := true, recurses := true, apart := false, narrowed := true }
def SkipScansUptoSaid : Prop := skipScansUptoRow.holds Try.pinned (OpenSpec.upto skipScansSpec)

/-- 'skerrylaw06.SkipPuts', WHERE WHAT IT READS IS OF BULK AT MOST 1048576: true; the input reads as it did. -/
def skipPutsUptoRow : OpenClaim := { program := "ytlffkbcaphhldaa", sum := "61ed5a7d5ccecb9ccca39acddad7bdff4cf8d30b6087127fce2bbc5d82ff62b7", func := "skerry/skerrylaw06.SkipPuts", spec := "skipPuts", unfollowed := true, recurses := true, apart := false, narrowed := true }
def SkipPutsUptoSaid : Prop := skipPutsUptoRow.holds Try.pinned (OpenSpec.upto skipPutsSpec)

/-- 'skerrylaw06.SkipNone', WHERE WHAT IT READS IS OF BULK AT MOST 1048576: true; the input reads as it did. -/
def skipNoneUptoRow : OpenClaim := { program := "ytlffkbcaphhldaa", sum := "61ed5a7d5ccecb9ccca39acddad7bdff4cf8d30b6087127fce2bbc5d82ff62b7", func := "skerry/skerrylaw06.SkipNone", spec := "skipNone", unfollowed := true, recurses := true, apart := false, narrowed := true }
def SkipNoneUptoSaid : Prop := skipNoneUptoRow.holds Try.pinned (OpenSpec.upto skipNoneSpec)

end Rows
end Go.Proofs.Ytlffkbcaphhldaa
