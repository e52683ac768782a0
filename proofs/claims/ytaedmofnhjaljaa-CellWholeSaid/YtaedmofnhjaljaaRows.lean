/-
  No cell of these rows narrows 'for every input' (looked for: loops, veiled, ifaces, maps, wideKeys, modest, calm, conditions, laid).
  DERIVED. THE GIVEN ROWS OF THIS SEAT. 7 by the template 'for every input the law returns true; each argument reads behind the call as it read before'; 0 by the template 'total and deterministic' (their statements: YtaedmofnhjaljaaTotals.lean).
  GIVEN WITH THE SEED: the statements are not yours to turn. If you find one false, say at which input.
  Laid BY PROGRAM, IN A SANDBOX (cutbox-rows.mjs): the forced cells as the released guide's own fill.sh prints them over the translation 9604f4c125b2c820… (all of the seat's roots in one cut). By AI agents, Wed Nov 11 2026. No macro, syntax, notation, axiom, sorry.
-/
import Derived.Test.YtaedmofnhjaljaaChecked
import GoSem.Claim
import GoSem.ClaimJoined
import GoSem.ClaimMapViews
import Derived.JoinedTies
import Derived.KernelRfl
namespace Go.Proofs.Ytaedmofnhjaljaa
/- THE CELL 'sum', in the pinned program and in every row, IS THE sha256 OF THE DUMP (.gsa) THAT YtaedmofnhjaljaaProg.lean LOADS. Nothing in Lean hashes anything: it is a label: what it is worth is what the hold of that sum in a sandbox is worth. -/
noncomputable def Try.pinned : Pinned := { name := "ytaedmofnhjaljaa", sum := "9604f4c125b2c8202e6bad973646398d549f898b0fd924b0f013b6469ef43d2b", checked := Try.checked }
namespace Rows
def none {H : Type} : Left H := { results := [], args := [] }

/-- 'skerrylaw05.CellTells': WHATEVER THE INPUT: true; the input reads as it did. -/
def cellTellsSpec : ChangeSpec := { name := "cellTells", fn := fun _ => fun
  | [d1, d2] => { results := [.lit (.bool true)], args := [d1, d2] }
  | _ => none }
def cellTellsRow : OpenClaim := { program := "ytaedmofnhjaljaa", sum := "9604f4c125b2c8202e6bad973646398d549f898b0fd924b0f013b6469ef43d2b", func := "skerry/skerrylaw05.CellTells", spec := "cellTells", unfollowed := true, recurses := true, apart := false }
def CellTellsSaid : Prop := cellTellsRow.holds Try.pinned (OpenSpec.ofChange cellTellsSpec)

/-- ITS FALSE NEIGHBOUR: 'it returns false'. Refute it at one input. -/
def cellTellsWrong : ChangeSpec := { name := "cellTells", fn := fun _ => fun
  | [d1, d2] => { results := [.lit (.bool false)], args := [d1, d2] }
  | _ => none }
def CellTellsWrongFalsely : Prop := cellTellsRow.holds Try.pinned (OpenSpec.ofChange cellTellsWrong)

/-- 'skerrylaw05.CellOrder': WHATEVER THE INPUT: true; the input reads as it did. -/
def cellOrderSpec : ChangeSpec := { name := "cellOrder", fn := fun _ => fun
  | [d1, d2, d3] => { results := [.lit (.bool true)], args := [d1, d2, d3] }
  | _ => none }
def cellOrderRow : OpenClaim := { program := "ytaedmofnhjaljaa", sum := "9604f4c125b2c8202e6bad973646398d549f898b0fd924b0f013b6469ef43d2b", func := "skerry/skerrylaw05.CellOrder", spec := "cellOrder", unfollowed := true, recurses := true, apart := false }
def CellOrderSaid : Prop := cellOrderRow.holds Try.pinned (OpenSpec.ofChange cellOrderSpec)

/-- ITS FALSE NEIGHBOUR: 'it returns false'. Refute it at one input. -/
def cellOrderWrong : ChangeSpec := { name := "cellOrder", fn := fun _ => fun
  | [d1, d2, d3] => { results := [.lit (.bool false)], args := [d1, d2, d3] }
  | _ => none }
def CellOrderWrongFalsely : Prop := cellOrderRow.holds Try.pinned (OpenSpec.ofChange cellOrderWrong)

/-- 'skerrylaw05.CellJoins': WHATEVER THE INPUT: true; the input reads as it did. -/
def cellJoinsSpec : ChangeSpec := { name := "cellJoins", fn := fun _ => fun
  | [d1, d2, d3] => { results := [.lit (.bool true)], args := [d1, d2, d3] }
  | _ => none }
def cellJoinsRow : OpenClaim := { program := "ytaedmofnhjaljaa", sum := "9604f4c125b2c8202e6bad973646398d549f898b0fd924b0f013b6469ef43d2b", func := "skerry/skerrylaw05.CellJoins", spec := "cellJoins", unfollowed := true, recurses := true, apart := false }
def CellJoinsSaid : Prop := cellJoinsRow.holds Try.pinned (OpenSpec.ofChange cellJoinsSpec)

/-- ITS FALSE NEIGHBOUR: 'it returns false'. Refute it at one input. -/
def cellJoinsWrong : ChangeSpec := { name := "cellJoins", fn := fun _ => fun
  | [d1, d2, d3] => { results := [.lit (.bool false)], args := [d1, d2, d3] }
  | _ => none }
def CellJoinsWrongFalsely : Prop := cellJoinsRow.holds Try.pinned (OpenSpec.ofChange cellJoinsWrong)

/-- 'skerrylaw05.CellLater': WHATEVER THE INPUT: true; the input reads as it did. -/
def cellLaterSpec : ChangeSpec := { name := "cellLater", fn := fun _ => fun
  | [d1, d2] => { results := [.lit (.bool true)], args := [d1, d2] }
  | _ => none }
def cellLaterRow : OpenClaim := { program := "ytaedmofnhjaljaa", sum := "9604f4c125b2c8202e6bad973646398d549f898b0fd924b0f013b6469ef43d2b", func := "skerry/skerrylaw05.CellLater", spec := "cellLater", unfollowed := true, recurses := true, apart := false }
def CellLaterSaid : Prop := cellLaterRow.holds Try.pinned (OpenSpec.ofChange cellLaterSpec)

/-- ITS FALSE NEIGHBOUR: 'it returns false'. Refute it at one input. -/
def cellLaterWrong : ChangeSpec := { name := "cellLater", fn := fun _ => fun
  | [d1, d2] => { results := [.lit (.bool false)], args := [d1, d2] }
  | _ => none }
def CellLaterWrongFalsely : Prop := cellLaterRow.holds Try.pinned (OpenSpec.ofChange cellLaterWrong)

/-- 'skerrylaw05.CellDigests': WHATEVER THE INPUT: true; the input reads as it did. -/
def cellDigestsSpec : ChangeSpec := { name := "cellDigests", fn := fun _ => fun
  | [d1, d2, d3] => { results := [.lit (.bool true)], args := [d1, d2, d3] }
  | _ => none }
def cellDigestsRow : OpenClaim := { program := "ytaedmofnhjaljaa", sum := "9604f4c125b2c8202e6bad973646398d549f898b0fd924b0f013b6469ef43d2b", func := "skerry/skerrylaw05.CellDigests", spec := "cellDigests", unfollowed := true, recurses := true, apart := false }
def CellDigestsSaid : Prop := cellDigestsRow.holds Try.pinned (OpenSpec.ofChange cellDigestsSpec)

/-- ITS FALSE NEIGHBOUR: 'it returns false'. Refute it at one input. -/
def cellDigestsWrong : ChangeSpec := { name := "cellDigests", fn := fun _ => fun
  | [d1, d2, d3] => { results := [.lit (.bool false)], args := [d1, d2, d3] }
  | _ => none }
def CellDigestsWrongFalsely : Prop := cellDigestsRow.holds Try.pinned (OpenSpec.ofChange cellDigestsWrong)

/-- 'skerrylaw05.CellWhole': WHATEVER THE INPUT: true; the input reads as it did. -/
def cellWholeSpec : ChangeSpec := { name := "cellWhole", fn := fun _ => fun
  | [d1, d2] => { results := [.lit (.bool true)], args := [d1, d2] }
  | _ => none }
def cellWholeRow : OpenClaim := { program := "ytaedmofnhjaljaa", sum := "9604f4c125b2c8202e6bad973646398d549f898b0fd924b0f013b6469ef43d2b", func := "skerry/skerrylaw05.CellWhole", spec := "cellWhole", unfollowed := true, recurses := true, apart := false }
def CellWholeSaid : Prop := cellWholeRow.holds Try.pinned (OpenSpec.ofChange cellWholeSpec)

/-- ITS FALSE NEIGHBOUR: 'it returns false'. Refute it at one input. -/
def cellWholeWrong : ChangeSpec := { name := "cellWhole", fn := fun _ => fun
  | [d1, d2] => { results := [.lit (.bool false)], args := [d1, d2] }
  | _ => none }
def CellWholeWrongFalsely : Prop := cellWholeRow.holds Try.pinned (OpenSpec.ofChange cellWholeWrong)

/-- 'skerrylaw05.CellNorms': WHATEVER THE INPUT: true; the input reads as it did. -/
def cellNormsSpec : ChangeSpec := { name := "cellNorms", fn := fun _ => fun
  | [d1, d2] => { results := [.lit (.bool true)], args := [d1, d2] }
  | _ => none }
def cellNormsRow : OpenClaim := { program := "ytaedmofnhjaljaa", sum := "9604f4c125b2c8202e6bad973646398d549f898b0fd924b0f013b6469ef43d2b", func := "skerry/skerrylaw05.CellNorms", spec := "cellNorms", unfollowed := true, recurses := true, apart := false }
def CellNormsSaid : Prop := cellNormsRow.holds Try.pinned (OpenSpec.ofChange cellNormsSpec)

/-- ITS FALSE NEIGHBOUR: 'it returns false'. Refute it at one input. -/
def cellNormsWrong : ChangeSpec := { name := "cellNorms", fn := fun _ => fun
  | [d1, d2] => { results := [.lit (.bool false)], args := [d1, d2] }
  | _ => none }
def CellNormsWrongFalsely : Prop := cellNormsRow.holds Try.pinned (OpenSpec.ofChange cellNormsWrong)

/- THE SECOND FORM. 'bulk': how many values and letters a reading holds, each counted each time it is reached (what is shared counts as often as it is met; a slice's spare places count too). A statement '..UptoSaid' is the law's where the arguments, and the package variables that the reading takes, are together of bulk at most 1048576: NARROWER than '..Said'. Prove '..Said' where nothing that the law and all that it calls make is longer than what came in: it says more and counts as full. Else prove '..UptoSaid'. A law counts once. -/
mutual
def uptoBulk {H : Type} : DataW H → Nat
  | .lit (.string bytes) => bytes.length + 1
  | .lit _ => 1
  | .nil => 1
  | .ptr d => uptoBulk d + 1
  | .slice elems spare => uptoBulkAll elems + uptoBulkAll spare + 1
  | .agg parts => uptoBulkAll parts + 1
  | .iface _ d => uptoBulk d + 1
  | .map entries => uptoBulkEntries entries + 1
  | .held _ => 1
def uptoBulkAll {H : Type} : List (DataW H) → Nat
  | [] => 0
  | d :: r => uptoBulk d + uptoBulkAll r
def uptoBulkEntries {H : Type} : List (Lit × DataW H) → Nat
  | [] => 0
  | x :: r => uptoBulkEntry x + uptoBulkEntries r
def uptoBulkEntry {H : Type} : Lit × DataW H → Nat
  | (.string bytes, d) => bytes.length + uptoBulk d + 1
  | (_, d) => uptoBulk d + 1
 end
def uptoSmall : (H : Type) → List (DataW H) → Bool := fun _ ds => decide (uptoBulkAll ds ≤ 1048576)
def OpenSpec.upto (s : _root_.Go.ChangeSpec) : _root_.Go.OpenSpec := { _root_.Go.OpenSpec.ofChange s with cond := some uptoSmall }

/-- 'skerrylaw05.CellTells', WHERE WHAT IT READS IS OF BULK AT MOST 1048576: true; the input reads as it did. -/
def cellTellsUptoRow : OpenClaim := { program := "ytaedmofnhjaljaa", sum := "9604f4c125b2c8202e6bad973646398d549f898b0fd924b0f013b6469ef43d2b", func := "skerry/skerrylaw05.CellTells", spec := "cellTells", unfollowed := true, recurses := true, apart := false, narrowed := true }
def CellTellsUptoSaid : Prop := cellTellsUptoRow.holds Try.pinned (OpenSpec.upto cellTellsSpec)

/-- 'skerrylaw05.CellOrder', WHERE WHAT IT READS IS OF BULK AT MOST 1048576: true; the input reads as it did. -/
def cellOrderUptoRow : OpenClaim := { program := "ytaedmofnhjaljaa", sum := "9604f4c125b2c8202e6bad973646398d549f898b0fd924b0f013b6469ef43d2b", func := "skerry/skerrylaw05.CellOrder", spec := "cellOrder", unfollowed := true, recurses := true, apart := false, narrowed := true }
def CellOrderUptoSaid : Prop := cellOrderUptoRow.holds Try.pinned (OpenSpec.upto cellOrderSpec)

/-- 'skerrylaw05.CellJoins', WHERE WHAT IT READS IS OF BULK AT MOST 1048576: true; the input reads as it did. -/
def cellJoinsUptoRow : OpenClaim := { program := "ytaedmofnhjaljaa", sum := "9604f4c125b2c8202e6bad973646398d549f898b0fd924b0f013b6469ef43d2b", func := "skerry/skerrylaw05.CellJoins", spec := "cellJoins", unfollowed := true, recurses := true, apart := false, narrowed := true }
def CellJoinsUptoSaid : Prop := cellJoinsUptoRow.holds Try.pinned (OpenSpec.upto cellJoinsSpec)

/-- 'skerrylaw05.CellLater', WHERE WHAT IT READS IS OF BULK AT MOST 1048576: true; the input reads as it did. -/
def cellLaterUptoRow : OpenClaim := { program := "ytaedmofnhjaljaa", sum := "9604f4c125b2c8202e6bad973646398d549f898b0fd924b0f013b6469ef43d2b", func := "skerry/skerrylaw05.CellLater", spec := "cellLater", unfollowed := true, recurses := true, apart := false, narrowed := true }
def CellLaterUptoSaid : Prop := cellLaterUptoRow.holds Try.pinned (OpenSpec.upto cellLaterSpec)

/-- 'skerrylaw05.CellDigests', WHERE WHAT IT READS IS OF BULK AT MOST 1048576: true; the input reads as it did. -/
def cellDigestsUptoRow : OpenClaim := { program := "ytaedmofnhjaljaa", sum := "9604f4c125b2c8202e6bad973646398d549f898b0fd924b0f013b6469ef43d2b", func := "skerry/skerrylaw05.CellDigests", spec := "cellDigests", unfollowed := true, recurses := true, apart := false, narrowed := true }
def CellDigestsUptoSaid : Prop := cellDigestsUptoRow.holds Try.pinned (OpenSpec.upto cellDigestsSpec)

/-- 'skerrylaw05.CellWhole', WHERE WHAT IT READS IS OF BULK AT MOST 1048576: true; the input reads as it did. -/
def cellWholeUptoRow : OpenClaim := { program := "ytaedmofnhjaljaa", sum := "9604f4c125b2c8202e6bad973646398d549f898b0fd924b0f013b6469ef43d2b", func := "skerry/skerrylaw05.CellWhole", spec := "cellWhole", unfollowed := true, recurses := true, apart := false, narrowed := true }
def CellWholeUptoSaid : Prop := cellWholeUptoRow.holds Try.pinned (OpenSpec.upto cellWholeSpec)

/-- 'skerrylaw05.CellNorms', WHERE WHAT IT READS IS OF BULK AT MOST 1048576: true; the input reads as it did. -/
def cellNormsUptoRow : OpenClaim := { program := "ytaedmofnhjaljaa", sum := "9604f4c125b2c8202e6bad973646398d549f898b0fd924b0f013b6469ef43d2b", func := "skerry/skerrylaw05.CellNorms", spec := "cellNorms", unfollowed := true, recurses := true, apart := false, narrowed := true }
def CellNormsUptoSaid : Prop := cellNormsUptoRow.holds Try.pinned (OpenSpec.upto cellNormsSpec)

end Rows
end Go.Proofs.Ytaedmofnhjaljaa
