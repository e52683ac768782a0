/-
  DERIVED. GIVEN WITH THE SEED: THE CARDS: each row of YtdagddhccdchoaaDoorRows.lean that lists a variable, with what it lists TIED to the program's text (the seventh form; the later family's looks); each row that meets fmt, with fmt's text TOLD by the authors' own Lean function (tested against real Go, not proved from fmt's source: count such statements apart). THE CARD IS WHAT COUNTS. Prove the row's statement (the work); the ties are given (YtdagddhccdchoaaDoorTie.lean); close each card by the builder's one call (the guide's Derived/Test/ToyasCard.lean, 'card_holds'). Laid BY PROGRAM, IN A SANDBOX (cutbox-door.mjs). By AI agents, Wed Nov 11 2026. No macro, syntax, notation, axiom, sorry.
-/
import Derived.Test.YtdagddhccdchoaaDoorRows
import GoSem.ClaimSeven
namespace Go.Proofs.YtdagddhccdchoaaDoor
namespace Rows

/-- THE TIED CARD OF 'skerrylaw17.SchemaNames'. -/
def schemaNamesCard : Claim7 := { stood := { row := schemaNamesRow, standIns := [], harness := (true, "8673400cc53d4089a37f4c6fb12ae309a2ee3d95bd668207ad9e847f0fd8a81f"), looks := false }, kinds := [], alts := [], laidByText := true, laidKinds := [.data, .pinned], laidTests := true, laidLooks := .later }
def SchemaNamesCardSaid : Prop := Claim7.holds Tryd.pinned (.plain (OpenSpec.ofChange schemaNamesSpec)) schemaNamesCard

/-- THE TIED CARD OF 'skerrylaw17.SchemaTables'. -/
def schemaTablesCard : Claim7 := { stood := { row := schemaTablesRow, standIns := [], harness := (true, "8673400cc53d4089a37f4c6fb12ae309a2ee3d95bd668207ad9e847f0fd8a81f"), looks := false }, kinds := [], alts := [], laidByText := true, laidKinds := [.data, .pinned], laidTests := true, laidLooks := .later }
def SchemaTablesCardSaid : Prop := Claim7.holds Tryd.pinned (.plain (OpenSpec.ofChange schemaTablesSpec)) schemaTablesCard

/-- THE TIED CARD OF 'skerrylaw17.SchemaOrders'. -/
def schemaOrdersCard : Claim7 := { stood := { row := schemaOrdersRow, standIns := [], harness := (true, "8673400cc53d4089a37f4c6fb12ae309a2ee3d95bd668207ad9e847f0fd8a81f"), looks := false }, kinds := [], alts := [], laidByText := true, laidKinds := [.data, .pinned], laidTests := true, laidLooks := .later }
def SchemaOrdersCardSaid : Prop := Claim7.holds Tryd.pinned (.plain (OpenSpec.ofChange schemaOrdersSpec)) schemaOrdersCard

/-- THE TIED CARD OF 'skerrylaw17.SchemaWords'. -/
def schemaWordsCard : Claim7 := { stood := { row := schemaWordsRow, standIns := [], harness := (true, "8673400cc53d4089a37f4c6fb12ae309a2ee3d95bd668207ad9e847f0fd8a81f"), looks := false }, kinds := [], alts := [], laidByText := true, laidKinds := [.data, .pinned], laidTests := true, laidLooks := .later }
def SchemaWordsCardSaid : Prop := Claim7.holds Tryd.pinned (.plain (OpenSpec.ofChange schemaWordsSpec)) schemaWordsCard

/-- THE TIED CARD OF 'skerrylaw17.SchemaFits'. -/
def schemaFitsCard : Claim7 := { stood := { row := schemaFitsRow, standIns := [], harness := (true, "8673400cc53d4089a37f4c6fb12ae309a2ee3d95bd668207ad9e847f0fd8a81f"), looks := false }, kinds := [], alts := [], laidByText := true, laidKinds := [.data, .pinned], laidTests := true, laidLooks := .later }
def SchemaFitsCardSaid : Prop := Claim7.holds Tryd.pinned (.plain (OpenSpec.ofChange schemaFitsSpec)) schemaFitsCard

/-- THE SECOND FORM's CARD OF 'skerrylaw17.SchemaNames'. -/
def schemaNamesUptoCard : Claim7 := { stood := { row := schemaNamesUptoRow, standIns := [], harness := (true, "8673400cc53d4089a37f4c6fb12ae309a2ee3d95bd668207ad9e847f0fd8a81f"), looks := false }, kinds := [], alts := [], laidByText := true, laidKinds := [.data, .pinned], laidTests := true, laidLooks := .later }
def SchemaNamesUptoCardSaid : Prop := Claim7.holds Tryd.pinned (.plain (OpenSpec.upto schemaNamesSpec)) schemaNamesUptoCard

/-- THE SECOND FORM's CARD OF 'skerrylaw17.SchemaTables'. -/
def schemaTablesUptoCard : Claim7 := { stood := { row := schemaTablesUptoRow, standIns := [], harness := (true, "8673400cc53d4089a37f4c6fb12ae309a2ee3d95bd668207ad9e847f0fd8a81f"), looks := false }, kinds := [], alts := [], laidByText := true, laidKinds := [.data, .pinned], laidTests := true, laidLooks := .later }
def SchemaTablesUptoCardSaid : Prop := Claim7.holds Tryd.pinned (.plain (OpenSpec.upto schemaTablesSpec)) schemaTablesUptoCard

/-- THE SECOND FORM's CARD OF 'skerrylaw17.SchemaOrders'. -/
def schemaOrdersUptoCard : Claim7 := { stood := { row := schemaOrdersUptoRow, standIns := [], harness := (true, "8673400cc53d4089a37f4c6fb12ae309a2ee3d95bd668207ad9e847f0fd8a81f"), looks := false }, kinds := [], alts := [], laidByText := true, laidKinds := [.data, .pinned], laidTests := true, laidLooks := .later }
def SchemaOrdersUptoCardSaid : Prop := Claim7.holds Tryd.pinned (.plain (OpenSpec.upto schemaOrdersSpec)) schemaOrdersUptoCard

/-- THE SECOND FORM's CARD OF 'skerrylaw17.SchemaWords'. -/
def schemaWordsUptoCard : Claim7 := { stood := { row := schemaWordsUptoRow, standIns := [], harness := (true, "8673400cc53d4089a37f4c6fb12ae309a2ee3d95bd668207ad9e847f0fd8a81f"), looks := false }, kinds := [], alts := [], laidByText := true, laidKinds := [.data, .pinned], laidTests := true, laidLooks := .later }
def SchemaWordsUptoCardSaid : Prop := Claim7.holds Tryd.pinned (.plain (OpenSpec.upto schemaWordsSpec)) schemaWordsUptoCard

/-- THE SECOND FORM's CARD OF 'skerrylaw17.SchemaFits'. -/
def schemaFitsUptoCard : Claim7 := { stood := { row := schemaFitsUptoRow, standIns := [], harness := (true, "8673400cc53d4089a37f4c6fb12ae309a2ee3d95bd668207ad9e847f0fd8a81f"), looks := false }, kinds := [], alts := [], laidByText := true, laidKinds := [.data, .pinned], laidTests := true, laidLooks := .later }
def SchemaFitsUptoCardSaid : Prop := Claim7.holds Tryd.pinned (.plain (OpenSpec.upto schemaFitsSpec)) schemaFitsUptoCard
end Rows
end Go.Proofs.YtdagddhccdchoaaDoor
