/-
  DERIVED. GIVEN WITH THE SEED: THE CARDS: each row of YtojgecnhhaelkaaDoorRows.lean that lists a variable, with what it lists TIED to the program's text (the seventh form; the later family's looks); each row that meets fmt, with fmt's text TOLD by the authors' own Lean function (tested against real Go, not proved from fmt's source: count such statements apart). THE CARD IS WHAT COUNTS. Prove the row's statement (the work); the ties are given (YtojgecnhhaelkaaDoorTie.lean); close each card by the builder's one call (the guide's Derived/Test/ToyasCard.lean, 'card_holds'). Laid BY PROGRAM, IN A SANDBOX (cutbox-door.mjs). By AI agents, Wed Nov 11 2026. No macro, syntax, notation, axiom, sorry.
-/
import Derived.Test.YtojgecnhhaelkaaDoorRows
import GoSem.ClaimSeven
namespace Go.Proofs.YtojgecnhhaelkaaDoor
namespace Rows

/-- THE TIED CARD OF 'skerrylaw16.LevelTells'. -/
def levelTellsCard : Claim7 := { stood := { row := levelTellsRow, standIns := [], harness := (true, "8f9d02c5014dd031f66e0c690530f054f9c26e0b053035af7d44b54231309309"), looks := false }, kinds := [], alts := [], laidByText := true, laidKinds := [.widerDeep], laidTests := true, laidLooks := .later }
def LevelTellsCardSaid : Prop := Claim7.holds Tryd.pinned (.plain (OpenSpec.ofChange levelTellsSpec)) levelTellsCard

/-- THE TIED CARD OF 'skerrylaw16.LevelMeets'. -/
def levelMeetsCard : Claim7 := { stood := { row := levelMeetsRow, standIns := [], harness := (true, "8f9d02c5014dd031f66e0c690530f054f9c26e0b053035af7d44b54231309309"), looks := false }, kinds := [], alts := [], laidByText := true, laidKinds := [.widerDeep], laidTests := true, laidLooks := .later }
def LevelMeetsCardSaid : Prop := Claim7.holds Tryd.pinned (.plain (OpenSpec.ofChange levelMeetsSpec)) levelMeetsCard

/-- THE TIED CARD OF 'skerrylaw16.LevelGrows'. -/
def levelGrowsCard : Claim7 := { stood := { row := levelGrowsRow, standIns := [], harness := (true, "8f9d02c5014dd031f66e0c690530f054f9c26e0b053035af7d44b54231309309"), looks := false }, kinds := [], alts := [], laidByText := true, laidKinds := [.widerDeep], laidTests := true, laidLooks := .later }
def LevelGrowsCardSaid : Prop := Claim7.holds Tryd.pinned (.plain (OpenSpec.ofChange levelGrowsSpec)) levelGrowsCard

/-- THE TIED CARD OF 'skerrylaw16.LevelNames'. -/
def levelNamesCard : Claim7 := { stood := { row := levelNamesRow, standIns := [], harness := (true, "8f9d02c5014dd031f66e0c690530f054f9c26e0b053035af7d44b54231309309"), looks := false }, kinds := [], alts := [], laidByText := true, laidKinds := [.data, .widerDeep, .pinned], laidTests := true, laidLooks := .later }
def LevelNamesCardSaid : Prop := Claim7.holds Tryd.pinned (.plain (OpenSpec.ofChange levelNamesSpec)) levelNamesCard

/-- THE SECOND FORM's CARD OF 'skerrylaw16.LevelTells'. -/
def levelTellsUptoCard : Claim7 := { stood := { row := levelTellsUptoRow, standIns := [], harness := (true, "8f9d02c5014dd031f66e0c690530f054f9c26e0b053035af7d44b54231309309"), looks := false }, kinds := [], alts := [], laidByText := true, laidKinds := [.widerDeep], laidTests := true, laidLooks := .later }
def LevelTellsUptoCardSaid : Prop := Claim7.holds Tryd.pinned (.plain (OpenSpec.upto levelTellsSpec)) levelTellsUptoCard

/-- THE SECOND FORM's CARD OF 'skerrylaw16.LevelMeets'. -/
def levelMeetsUptoCard : Claim7 := { stood := { row := levelMeetsUptoRow, standIns := [], harness := (true, "8f9d02c5014dd031f66e0c690530f054f9c26e0b053035af7d44b54231309309"), looks := false }, kinds := [], alts := [], laidByText := true, laidKinds := [.widerDeep], laidTests := true, laidLooks := .later }
def LevelMeetsUptoCardSaid : Prop := Claim7.holds Tryd.pinned (.plain (OpenSpec.upto levelMeetsSpec)) levelMeetsUptoCard

/-- THE SECOND FORM's CARD OF 'skerrylaw16.LevelGrows'. -/
def levelGrowsUptoCard : Claim7 := { stood := { row := levelGrowsUptoRow, standIns := [], harness := (true, "8f9d02c5014dd031f66e0c690530f054f9c26e0b053035af7d44b54231309309"), looks := false }, kinds := [], alts := [], laidByText := true, laidKinds := [.widerDeep], laidTests := true, laidLooks := .later }
def LevelGrowsUptoCardSaid : Prop := Claim7.holds Tryd.pinned (.plain (OpenSpec.upto levelGrowsSpec)) levelGrowsUptoCard

/-- THE SECOND FORM's CARD OF 'skerrylaw16.LevelNames'. -/
def levelNamesUptoCard : Claim7 := { stood := { row := levelNamesUptoRow, standIns := [], harness := (true, "8f9d02c5014dd031f66e0c690530f054f9c26e0b053035af7d44b54231309309"), looks := false }, kinds := [], alts := [], laidByText := true, laidKinds := [.data, .widerDeep, .pinned], laidTests := true, laidLooks := .later }
def LevelNamesUptoCardSaid : Prop := Claim7.holds Tryd.pinned (.plain (OpenSpec.upto levelNamesSpec)) levelNamesUptoCard
end Rows
end Go.Proofs.YtojgecnhhaelkaaDoor
