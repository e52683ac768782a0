/-
  NARROWER THAN 'FOR EVERY INPUT', by the rows' own cells (each row's printed sentence says how): LevelTells: laid · LevelMeets: laid · LevelGrows: laid · LevelNames: laid.
  DERIVED. THE GIVEN ROWS OF THIS SEAT. 4 by the template 'for every input the law returns true; each argument reads behind the call as it read before'; 0 by the template 'total and deterministic' (their statements: YtojgecnhhaelkaaDoorTotals.lean).
  GIVEN WITH THE SEED: the statements are not yours to turn. If you find one false, say at which input.
  Laid BY PROGRAM, IN A SANDBOX (cutbox-rows.mjs): the forced cells as the released guide's own fill.sh prints them over the translation d319ecd45c313e44… (all of the seat's roots in one cut). By AI agents, Wed Nov 11 2026. No macro, syntax, notation, axiom, sorry.
-/
import Derived.Test.YtojgecnhhaelkaaDoorChecked
import GoSem.PinnedTables
import GoSem.Claim
import GoSem.ClaimJoined
import GoSem.ClaimMapViews
import Derived.JoinedTies
import Derived.KernelRfl
namespace Go.Proofs.YtojgecnhhaelkaaDoor
/- THE CELL 'sum', in the pinned program and in every row, IS THE sha256 OF THE DUMP (.gsa) THAT YtojgecnhhaelkaaDoorProg.lean LOADS. Nothing in Lean hashes anything: it is a label: what it is worth is what the hold of that sum in a sandbox is worth. -/
noncomputable def Tryd.pinned : Pinned := { name := "ytojgecnhhaelkaadoor", sum := "d319ecd45c313e44a719a2348be8e01a350b6495bd33fbbf3cd221d9ff6b6540", checked := Tryd.checked }
namespace Rows
def none {H : Type} : Left H := { results := [], args := [] }

/- WHAT THE LISTED PACKAGE-LEVEL VARIABLES READ AS WHEN THE CALL BEGINS. Each datum BY PROGRAM (the guide's laid-datum.mjs) off the statement by which the dump's own 'gosem.cut.vars' lays the variable. In a bare row this is a premise. The card (YtojgecnhhaelkaaDoorCards.lean) ties it to the program's text. -/
def laid_skerry_level_names {H : Type} : DataW H := .agg [.lit (.string []), .lit (.string [79, 78, 69]), .lit (.string [81, 85, 79, 82, 85, 77]), .lit (.string [65, 76, 76])]
def laid_unicode_utf8_acceptRanges {H : Type} : DataW H := .agg [.agg [.lit (.int .u8 128), .lit (.int .u8 191)], .agg [.lit (.int .u8 160), .lit (.int .u8 191)], .agg [.lit (.int .u8 128), .lit (.int .u8 159)], .agg [.lit (.int .u8 144), .lit (.int .u8 191)], .agg [.lit (.int .u8 128), .lit (.int .u8 143)], .agg [.lit (.int .u8 0), .lit (.int .u8 0)], .agg [.lit (.int .u8 0), .lit (.int .u8 0)], .agg [.lit (.int .u8 0), .lit (.int .u8 0)], .agg [.lit (.int .u8 0), .lit (.int .u8 0)], .agg [.lit (.int .u8 0), .lit (.int .u8 0)], .agg [.lit (.int .u8 0), .lit (.int .u8 0)], .agg [.lit (.int .u8 0), .lit (.int .u8 0)], .agg [.lit (.int .u8 0), .lit (.int .u8 0)], .agg [.lit (.int .u8 0), .lit (.int .u8 0)], .agg [.lit (.int .u8 0), .lit (.int .u8 0)], .agg [.lit (.int .u8 0), .lit (.int .u8 0)]]
/-- One of Go's own tables, pinned by name: the form's constant. -/
def laid_unicode_utf8_first : DataW Unit := Go.Pinned.utf8First

/-- 'skerrylaw16.LevelTells': WHATEVER THE INPUT: true; the input reads as it did. -/
def levelTellsSpec : ChangeSpec := { name := "levelTells", fn := fun _ => fun
  | [d1, d2, d3] => { results := [.lit (.bool true)], args := [d1, d2, d3] }
  | _ => none }
def levelTellsRow : OpenClaim := { program := "ytojgecnhhaelkaadoor", sum := "d319ecd45c313e44a719a2348be8e01a350b6495bd33fbbf3cd221d9ff6b6540", func := "skerry/skerrylaw16.LevelTells", spec := "levelTells", named := ["skerry/level.names"], apart := false, laid := [("skerry/level.names", laid_skerry_level_names)] }
def LevelTellsSaid : Prop := levelTellsRow.holds Tryd.pinned (OpenSpec.ofChange levelTellsSpec)

/-- ITS FALSE NEIGHBOUR: 'it returns false'. Refute it at one input. -/
def levelTellsWrong : ChangeSpec := { name := "levelTells", fn := fun _ => fun
  | [d1, d2, d3] => { results := [.lit (.bool false)], args := [d1, d2, d3] }
  | _ => none }
def LevelTellsWrongFalsely : Prop := levelTellsRow.holds Tryd.pinned (OpenSpec.ofChange levelTellsWrong)

/-- 'skerrylaw16.LevelMeets': WHATEVER THE INPUT: true; the input reads as it did. -/
def levelMeetsSpec : ChangeSpec := { name := "levelMeets", fn := fun _ => fun
  | [d1, d2, d3] => { results := [.lit (.bool true)], args := [d1, d2, d3] }
  | _ => none }
def levelMeetsRow : OpenClaim := { program := "ytojgecnhhaelkaadoor", sum := "d319ecd45c313e44a719a2348be8e01a350b6495bd33fbbf3cd221d9ff6b6540", func := "skerry/skerrylaw16.LevelMeets", spec := "levelMeets", named := ["skerry/level.names"], apart := false, laid := [("skerry/level.names", laid_skerry_level_names)] }
def LevelMeetsSaid : Prop := levelMeetsRow.holds Tryd.pinned (OpenSpec.ofChange levelMeetsSpec)

/-- ITS FALSE NEIGHBOUR: 'it returns false'. Refute it at one input. -/
def levelMeetsWrong : ChangeSpec := { name := "levelMeets", fn := fun _ => fun
  | [d1, d2, d3] => { results := [.lit (.bool false)], args := [d1, d2, d3] }
  | _ => none }
def LevelMeetsWrongFalsely : Prop := levelMeetsRow.holds Tryd.pinned (OpenSpec.ofChange levelMeetsWrong)

/-- 'skerrylaw16.LevelGrows': WHATEVER THE INPUT: true; the input reads as it did. -/
def levelGrowsSpec : ChangeSpec := { name := "levelGrows", fn := fun _ => fun
  | [d] => { results := [.lit (.bool true)], args := [d] }
  | _ => none }
def levelGrowsRow : OpenClaim := { program := "ytojgecnhhaelkaadoor", sum := "d319ecd45c313e44a719a2348be8e01a350b6495bd33fbbf3cd221d9ff6b6540", func := "skerry/skerrylaw16.LevelGrows", spec := "levelGrows", named := ["skerry/level.names"], apart := false, laid := [("skerry/level.names", laid_skerry_level_names)] }
def LevelGrowsSaid : Prop := levelGrowsRow.holds Tryd.pinned (OpenSpec.ofChange levelGrowsSpec)

/-- ITS FALSE NEIGHBOUR: 'it returns false'. Refute it at one input. -/
def levelGrowsWrong : ChangeSpec := { name := "levelGrows", fn := fun _ => fun
  | [d] => { results := [.lit (.bool false)], args := [d] }
  | _ => none }
def LevelGrowsWrongFalsely : Prop := levelGrowsRow.holds Tryd.pinned (OpenSpec.ofChange levelGrowsWrong)

/-- 'skerrylaw16.LevelNames': WHATEVER THE INPUT: true; the input reads as it did. -/
def levelNamesSpec : ChangeSpec := { name := "levelNames", fn := fun _ => fun
  | [d] => { results := [.lit (.bool true)], args := [d] }
  | _ => none }
def levelNamesRow : OpenClaim := { program := "ytojgecnhhaelkaadoor", sum := "d319ecd45c313e44a719a2348be8e01a350b6495bd33fbbf3cd221d9ff6b6540", func := "skerry/skerrylaw16.LevelNames", spec := "levelNames", inPlace := ["internal/abi.NoEscape", "internal/bytealg.MakeNoZero"], unfollowed := true, recurses := true, named := ["skerry/level.names", "unicode/utf8.first", "unicode/utf8.acceptRanges"], apart := false, laid := [("unicode/utf8.acceptRanges", laid_unicode_utf8_acceptRanges), ("skerry/level.names", laid_skerry_level_names), ("unicode/utf8.first", laid_unicode_utf8_first)] }
def LevelNamesSaid : Prop := levelNamesRow.holds Tryd.pinned (OpenSpec.ofChange levelNamesSpec)

/-- ITS FALSE NEIGHBOUR: 'it returns false'. Refute it at one input. -/
def levelNamesWrong : ChangeSpec := { name := "levelNames", fn := fun _ => fun
  | [d] => { results := [.lit (.bool false)], args := [d] }
  | _ => none }
def LevelNamesWrongFalsely : Prop := levelNamesRow.holds Tryd.pinned (OpenSpec.ofChange levelNamesWrong)

/- THE SECOND FORM. 'bulk': how many values and letters a reading holds, each counted each time it is reached (what is shared counts as often as it is met; a slice's spare places count too). A statement '..UptoSaid' is the law's where the arguments, and the package variables that the reading takes, are together of bulk at most 1048576: NARROWER than '..Said'. Prove '..Said' where nothing that the law and all that it calls make is longer than what came in: it says more and counts as full. Else prove '..UptoSaid'. A law counts once. -/
mutual
def uptoBulk {H : Type} : DataW H → Nat
  | .lit (.string bytes) => bytes.length + 1
  | .lit _ => 1
  | .nil => 1
  | .ptr d => uptoBulk d + 1
  | .slice elems spare => uptoBulkAll elems + uptoBulkAll spare + 1
  | .agg parts => uptoBulkAll parts + 1
  | .iface _ d => uptoBulk d + 1
  | .map entries => uptoBulkEntries entries + 1
  | .held _ => 1
def uptoBulkAll {H : Type} : List (DataW H) → Nat
  | [] => 0
  | d :: r => uptoBulk d + uptoBulkAll r
def uptoBulkEntries {H : Type} : List (Lit × DataW H) → Nat
  | [] => 0
  | x :: r => uptoBulkEntry x + uptoBulkEntries r
def uptoBulkEntry {H : Type} : Lit × DataW H → Nat
  | (.string bytes, d) => bytes.length + uptoBulk d + 1
  | (_, d) => uptoBulk d + 1
 end
def uptoSmall : (H : Type) → List (DataW H) → Bool := fun _ ds => decide (uptoBulkAll ds ≤ 1048576)
def OpenSpec.upto (s : _root_.Go.ChangeSpec) : _root_.Go.OpenSpec := { _root_.Go.OpenSpec.ofChange s with cond := some uptoSmall }

/-- 'skerrylaw16.LevelTells', WHERE WHAT IT READS IS OF BULK AT MOST 1048576: true; the input reads as it did. -/
def levelTellsUptoRow : OpenClaim := { program := "ytojgecnhhaelkaadoor", sum := "d319ecd45c313e44a719a2348be8e01a350b6495bd33fbbf3cd221d9ff6b6540", func := "skerry/skerrylaw16.LevelTells", spec := "levelTells", named := ["skerry/level.names"], apart := false, laid := [("skerry/level.names", laid_skerry_level_names)], narrowed := true }
def LevelTellsUptoSaid : Prop := levelTellsUptoRow.holds Tryd.pinned (OpenSpec.upto levelTellsSpec)

/-- 'skerrylaw16.LevelMeets', WHERE WHAT IT READS IS OF BULK AT MOST 1048576: true; the input reads as it did. -/
def levelMeetsUptoRow : OpenClaim := { program := "ytojgecnhhaelkaadoor", sum := "d319ecd45c313e44a719a2348be8e01a350b6495bd33fbbf3cd221d9ff6b6540", func := "skerry/skerrylaw16.LevelMeets", spec := "levelMeets", named := ["skerry/level.names"], apart := false, laid := [("skerry/level.names", laid_skerry_level_names)], narrowed := true }
def LevelMeetsUptoSaid : Prop := levelMeetsUptoRow.holds Tryd.pinned (OpenSpec.upto levelMeetsSpec)

/-- 'skerrylaw16.LevelGrows', WHERE WHAT IT READS IS OF BULK AT MOST 1048576: true; the input reads as it did. -/
def levelGrowsUptoRow : OpenClaim := { program := "ytojgecnhhaelkaadoor", sum := "d319ecd45c313e44a719a2348be8e01a350b6495bd33fbbf3cd221d9ff6b6540", func := "skerry/skerrylaw16.LevelGrows", spec := "levelGrows", named := ["skerry/level.names"], apart := false, laid := [("skerry/level.names", laid_skerry_level_names)], narrowed := true }
def LevelGrowsUptoSaid : Prop := levelGrowsUptoRow.holds Tryd.pinned (OpenSpec.upto levelGrowsSpec)

/-- 'skerrylaw16.LevelNames', WHERE WHAT IT READS IS OF BULK AT MOST 1048576: true; the input reads as it did. -/
def levelNamesUptoRow : OpenClaim := { program := "ytojgecnhhaelkaadoor", sum := "d319ecd45c313e44a719a2348be8e01a350b6495bd33fbbf3cd221d9ff6b6540", func := "skerry/skerrylaw16.LevelNames", spec := "levelNames", inPlace := ["internal/abi.NoEscape", "internal/bytealg.MakeNoZero"], unfollowed := true, recurses := true, named := ["skerry/level.names", "unicode/utf8.first", "unicode/utf8.acceptRanges"], apart := false, laid := [("unicode/utf8.acceptRanges", laid_unicode_utf8_acceptRanges), ("skerry/level.names", laid_skerry_level_names), ("unicode/utf8.first", laid_unicode_utf8_first)], narrowed := true }
def LevelNamesUptoSaid : Prop := levelNamesUptoRow.holds Tryd.pinned (OpenSpec.upto levelNamesSpec)

end Rows
end Go.Proofs.YtojgecnhhaelkaaDoor
