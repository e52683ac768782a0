/-
  No cell of these rows narrows 'for every input' (looked for: loops, veiled, ifaces, maps, wideKeys, modest, calm, conditions, laid).
  DERIVED. THE GIVEN ROWS OF THIS SEAT. 4 by the template 'for every input the law returns true; each argument reads behind the call as it read before'; 0 by the template 'total and deterministic' (their statements: YthlffcaaifpdeaaTotals.lean).
  GIVEN WITH THE SEED: the statements are not yours to turn. If you find one false, say at which input.
  Laid BY PROGRAM, IN A SANDBOX (cutbox-rows.mjs): the forced cells as the released guide's own fill.sh prints them over the translation c72475d4199e95ea… (all of the seat's roots in one cut). By AI agents, Wed Nov 11 2026. No macro, syntax, notation, axiom, sorry.
-/
import Derived.Test.YthlffcaaifpdeaaChecked
import GoSem.Claim
import GoSem.ClaimJoined
import GoSem.ClaimMapViews
import Derived.JoinedTies
import Derived.KernelRfl
namespace Go.Proofs.Ythlffcaaifpdeaa
/- THE CELL 'sum', in the pinned program and in every row, IS THE sha256 OF THE DUMP (.gsa) THAT YthlffcaaifpdeaaProg.lean LOADS. Nothing in Lean hashes anything: it is a label: what it is worth is what the hold of that sum in a sandbox is worth. -/
noncomputable def Try.pinned : Pinned := { name := "ythlffcaaifpdeaa", sum := "c72475d4199e95ea7c4598f25cdfccd7b7b391412c565c09aac55757e254ea04", checked := Try.checked }
namespace Rows
def none {H : Type} : Left H := { results := [], args := [] }

/-- 'skerrylaw12.TiersChoose': WHATEVER THE INPUT: true; the input reads as it did. -/
def tiersChooseSpec : ChangeSpec := { name := "tiersChoose", fn := fun _ => fun
  | [d1, d2] => { results := [.lit (.bool true)], args := [d1, d2] }
  | _ => none }
def tiersChooseRow : OpenClaim := { program := "ythlffcaaifpdeaa", sum := "c72475d4199e95ea7c4598f25cdfccd7b7b391412c565c09aac55757e254ea04", func := "skerry/skerrylaw12.TiersChoose", spec := "tiersChoose", unfollowed := true, recurses := true, apart := false }
def TiersChooseSaid : Prop := tiersChooseRow.holds Try.pinned (OpenSpec.ofChange tiersChooseSpec)

/-- ITS FALSE NEIGHBOUR: 'it returns false'. Refute it at one input. -/
def tiersChooseWrong : ChangeSpec := { name := "tiersChoose", fn := fun _ => fun
  | [d1, d2] => { results := [.lit (.bool false)], args := [d1, d2] }
  | _ => none }
def TiersChooseWrongFalsely : Prop := tiersChooseRow.holds Try.pinned (OpenSpec.ofChange tiersChooseWrong)

/-- 'skerrylaw12.TiersParts': WHATEVER THE INPUT: true; the input reads as it did. -/
def tiersPartsSpec : ChangeSpec := { name := "tiersParts", fn := fun _ => fun
  | [d] => { results := [.lit (.bool true)], args := [d] }
  | _ => none }
def tiersPartsRow : OpenClaim := { program := "ythlffcaaifpdeaa", sum := "c72475d4199e95ea7c4598f25cdfccd7b7b391412c565c09aac55757e254ea04", func := "skerry/skerrylaw12.TiersParts", spec := "tiersParts", unfollowed := true, recurses := true, apart := false }
def TiersPartsSaid : Prop := tiersPartsRow.holds Try.pinned (OpenSpec.ofChange tiersPartsSpec)

/-- ITS FALSE NEIGHBOUR: 'it returns false'. Refute it at one input. -/
def tiersPartsWrong : ChangeSpec := { name := "tiersParts", fn := fun _ => fun
  | [d] => { results := [.lit (.bool false)], args := [d] }
  | _ => none }
def TiersPartsWrongFalsely : Prop := tiersPartsRow.holds Try.pinned (OpenSpec.ofChange tiersPartsWrong)

/-- 'skerrylaw12.TiersMost': WHATEVER THE INPUT: true; the input reads as it did. -/
def tiersMostSpec : ChangeSpec := { name := "tiersMost", fn := fun _ => fun
  | [d1, d2] => { results := [.lit (.bool true)], args := [d1, d2] }
  | _ => none }
def tiersMostRow : OpenClaim := { program := "ythlffcaaifpdeaa", sum := "c72475d4199e95ea7c4598f25cdfccd7b7b391412c565c09aac55757e254ea04", func := "skerry/skerrylaw12.TiersMost", spec := "tiersMost", unfollowed := true, recurses := true, apart := false }
def TiersMostSaid : Prop := tiersMostRow.holds Try.pinned (OpenSpec.ofChange tiersMostSpec)

/-- ITS FALSE NEIGHBOUR: 'it returns false'. Refute it at one input. -/
def tiersMostWrong : ChangeSpec := { name := "tiersMost", fn := fun _ => fun
  | [d1, d2] => { results := [.lit (.bool false)], args := [d1, d2] }
  | _ => none }
def TiersMostWrongFalsely : Prop := tiersMostRow.holds Try.pinned (OpenSpec.ofChange tiersMostWrong)

/-- 'skerrylaw12.TiersOne': WHATEVER THE INPUT: true; the input reads as it did. -/
def tiersOneSpec : ChangeSpec := { name := "tiersOne", fn := fun _ => fun
  | [d1, d2, d3] => { results := [.lit (.bool true)], args := [d1, d2, d3] }
  | _ => none }
def tiersOneRow : OpenClaim := { program := "ythlffcaaifpdeaa", sum := "c72475d4199e95ea7c4598f25cdfccd7b7b391412c565c09aac55757e254ea04", func := "skerry/skerrylaw12.TiersOne", spec := "tiersOne", unfollowed := true, recurses := true, apart := false }
def TiersOneSaid : Prop := tiersOneRow.holds Try.pinned (OpenSpec.ofChange tiersOneSpec)

/-- ITS FALSE NEIGHBOUR: 'it returns false'. Refute it at one input. -/
def tiersOneWrong : ChangeSpec := { name := "tiersOne", fn := fun _ => fun
  | [d1, d2, d3] => { results := [.lit (.bool false)], args := [d1, d2, d3] }
  | _ => none }
def TiersOneWrongFalsely : Prop := tiersOneRow.holds Try.pinned (OpenSpec.ofChange tiersOneWrong)

/- THE SECOND FORM. 'bulk': how many values and letters a reading holds, each counted each time it is reached (what is shared counts as often as it is met; a slice's spare places count too). A statement '..UptoSaid' is the law's where the arguments, and the package variables that the reading takes, are together of bulk at most 1048576: NARROWER than '..Said'. Prove '..Said' where nothing that the law and all that it calls make is longer than what came in: it says more and counts as full. Else prove '..UptoSaid'. A law counts once. -/
mutual
def uptoBulk {H : Type} : DataW H → Nat
  | .lit (.string bytes) => bytes.length + 1
  | .lit _ => 1
  | .nil => 1
  | .ptr d => uptoBulk d + 1
  | .slice elems spare => uptoBulkAll elems + uptoBulkAll spare + 1
  | .agg parts => uptoBulkAll parts + 1
  | .iface _ d => uptoBulk d + 1
  | .map entries => uptoBulkEntries entries + 1
  | .held _ => 1
def uptoBulkAll {H : Type} : List (DataW H) → Nat
  | [] => 0
  | d :: r => uptoBulk d + uptoBulkAll r
def uptoBulkEntries {H : Type} : List (Lit × DataW H) → Nat
  | [] => 0
  | x :: r => uptoBulkEntry x + uptoBulkEntries r
def uptoBulkEntry {H : Type} : Lit × DataW H → Nat
  | (.string bytes, d) => bytes.length + uptoBulk d + 1
  | (_, d) => uptoBulk d + 1
 end
def uptoSmall : (H : Type) → List (DataW H) → Bool := fun _ ds => decide (uptoBulkAll ds ≤ 1048576)
def OpenSpec.upto (s : _root_.Go.ChangeSpec) : _root_.Go.OpenSpec := { _root_.Go.OpenSpec.ofChange s with cond := some uptoSmall }

/-- 'skerrylaw12.TiersChoose', WHERE WHAT IT READS IS OF BULK AT MOST 1048576: true; the input reads as it did. -/
def tiersChooseUptoRow : OpenClaim := { program := "ythlffcaaifpdeaa", sum := "c72475d4199e95ea7c4598f25cdfccd7b7b391412c565c09aac55757e254ea04", func := "skerry/skerrylaw12.TiersChoose", spec := "tiersChoose", unfollowed := true, recurses := true, apart := false, narrowed := true }
def TiersChooseUptoSaid : Prop := tiersChooseUptoRow.holds Try.pinned (OpenSpec.upto tiersChooseSpec)

/-- 'skerrylaw12.TiersParts', WHERE WHAT IT READS IS OF BULK AT MOST 1048576: true; the input reads as it did. -/
def tiersPartsUptoRow : OpenClaim := { program := "ythlffcaaifpdeaa", sum := "c72475d4199e95ea7c4598f25cdfccd7b7b391412c565c09aac55757e254ea04", func := "skerry/skerrylaw12.TiersParts", spec := "tiersParts", unfollowed := true, recurses := true, apart := false, narrowed := true }
def TiersPartsUptoSaid : Prop := tiersPartsUptoRow.holds Try.pinned (OpenSpec.upto tiersPartsSpec)

/-- 'skerrylaw12.TiersMost', WHERE WHAT IT READS IS OF BULK AT MOST 1048576: true; the input reads as it did. -/
def tiersMostUptoRow : OpenClaim := { program := "ythlffcaaifpdeaa", sum := "c72475d4199e95ea7c4598f25cdfccd7b7b391412c565c09aac55757e254ea04", func := "skerry/skerrylaw12.TiersMost", spec := "tiersMost", unfollowed := true, recurses := true, apart := false, narrowed := true }
def TiersMostUptoSaid : Prop := tiersMostUptoRow.holds Try.pinned (OpenSpec.upto tiersMostSpec)

/-- 'skerrylaw12.TiersOne', WHERE WHAT IT READS IS OF BULK AT MOST 1048576: true; the input reads as it did. -/
def tiersOneUptoRow : OpenClaim := { program := "ythlffcaaifpdeaa", sum := "c72475d4199e95ea7c4598f25cdfccd7b7b391412c565c09aac55757e254ea04", func := "skerry/skerrylaw12.TiersOne", spec := "tiersOne", unfollowed := true, recurses := true, apart := false, narrowed := true }
def TiersOneUptoSaid : Prop := tiersOneUptoRow.holds Try.pinned (OpenSpec.upto tiersOneSpec)

end Rows
end Go.Proofs.Ythlffcaaifpdeaa
