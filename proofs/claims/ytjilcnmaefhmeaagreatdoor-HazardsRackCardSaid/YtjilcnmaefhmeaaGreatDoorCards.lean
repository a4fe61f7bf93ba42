/-
  DERIVED. GIVEN WITH THE SEED: THE CARDS: each row of YtjilcnmaefhmeaaGreatDoorRows.lean that lists a variable, with what it lists TIED to the program's text (the seventh form; the later family's looks); each row that meets fmt, with fmt's text TOLD by the authors' own Lean function (tested against real Go, not proved from fmt's source: count such statements apart). THE CARD IS WHAT COUNTS. Prove the row's statement (the work); the ties are given (YtjilcnmaefhmeaaGreatDoorTie.lean); close each card by the builder's one call (the guide's Derived/Test/ToyasCard.lean, 'card_holds'). Laid BY PROGRAM, IN A SANDBOX (cutbox-door.mjs). By AI agents, Wed Nov 11 2026. No macro, syntax, notation, axiom, sorry.
-/
import Derived.Test.YtjilcnmaefhmeaaGreatDoorRows
import GoSem.ClaimSeven
namespace Go.Proofs.YtjilcnmaefhmeaaGreatDoor
namespace Rows

/-- THE TIED CARD OF 'ganseylaw08.MachinesRun'. -/
def machinesRunCard : Claim7 := { stood := { row := machinesRunRow, standIns := [], harness := (true, "3afaf2a6e29338e596aa24048431370529ca7044853a1dd106886cd0afa2eb02"), looks := true }, kinds := [], alts := [], laidByText := true, laidKinds := [.data, .data, .data, .data, .sentinel, .sentinel, .data, .data, .data, .pinned], laidTests := true, laidLooks := .later }
def MachinesRunCardSaid : Prop := Claim7.holds Tryz.pinned (.plain (OpenSpec.ofChange machinesRunSpec)) machinesRunCard

/-- THE TIED CARD OF 'ganseylaw09.HazardsParts'. -/
def hazardsPartsCard : Claim7 := { stood := { row := hazardsPartsRow, standIns := [], harness := (true, "3afaf2a6e29338e596aa24048431370529ca7044853a1dd106886cd0afa2eb02"), looks := true }, kinds := [], alts := [], laidByText := true, laidKinds := [.data, .data, .data, .data, .sentinel, .sentinel, .data, .data, .data, .data, .pinned], laidTests := true, laidLooks := .later }
def HazardsPartsCardSaid : Prop := Claim7.holds Tryz.pinned (.plain (OpenSpec.ofChange hazardsPartsSpec)) hazardsPartsCard

/-- THE TIED CARD OF 'ganseylaw09.HazardsFloat'. -/
def hazardsFloatCard : Claim7 := { stood := { row := hazardsFloatRow, standIns := [], harness := (true, "3afaf2a6e29338e596aa24048431370529ca7044853a1dd106886cd0afa2eb02"), looks := true }, kinds := [], alts := [], laidByText := true, laidKinds := [.data, .data, .data, .data, .sentinel, .sentinel, .data, .data, .data, .data, .pinned], laidTests := true, laidLooks := .later }
def HazardsFloatCardSaid : Prop := Claim7.holds Tryz.pinned (.plain (OpenSpec.ofChange hazardsFloatSpec)) hazardsFloatCard

/-- THE TIED CARD OF 'ganseylaw09.HazardsRack'. -/
def hazardsRackCard : Claim7 := { stood := { row := hazardsRackRow, standIns := [], harness := (true, "3afaf2a6e29338e596aa24048431370529ca7044853a1dd106886cd0afa2eb02"), looks := true }, kinds := [], alts := [], laidByText := true, laidKinds := [.data, .data, .data, .data, .sentinel, .sentinel, .data, .data, .data, .data, .pinned], laidTests := true, laidLooks := .later }
def HazardsRackCardSaid : Prop := Claim7.holds Tryz.pinned (.plain (OpenSpec.ofChange hazardsRackSpec)) hazardsRackCard

/-- THE TIED CARD OF 'ganseylaw09.HazardsText'. -/
def hazardsTextCard : Claim7 := { stood := { row := hazardsTextRow, standIns := [], harness := (true, "3afaf2a6e29338e596aa24048431370529ca7044853a1dd106886cd0afa2eb02"), looks := true }, kinds := [], alts := [], laidByText := true, laidKinds := [.data, .data, .data, .data, .sentinel, .sentinel, .data, .data, .data, .data, .pinned], laidTests := true, laidLooks := .later }
def HazardsTextCardSaid : Prop := Claim7.holds Tryz.pinned (.plain (OpenSpec.ofChange hazardsTextSpec)) hazardsTextCard

/-- THE TIED CARD OF 'ganseylaw09.HazardsReport'. -/
def hazardsReportCard : Claim7 := { stood := { row := hazardsReportRow, standIns := [], harness := (true, "3afaf2a6e29338e596aa24048431370529ca7044853a1dd106886cd0afa2eb02"), looks := true }, kinds := [], alts := [], laidByText := true, laidKinds := [.data, .data, .data, .data, .sentinel, .sentinel, .data, .data, .data, .data, .pinned], laidTests := true, laidLooks := .later }
def HazardsReportCardSaid : Prop := Claim7.holds Tryz.pinned (.plain (OpenSpec.ofChange hazardsReportSpec)) hazardsReportCard

/-- THE TIED CARD OF 'ganseylaw09.HazardsPlain'. -/
def hazardsPlainCard : Claim7 := { stood := { row := hazardsPlainRow, standIns := [], harness := (true, "3afaf2a6e29338e596aa24048431370529ca7044853a1dd106886cd0afa2eb02"), looks := true }, kinds := [], alts := [], laidByText := true, laidKinds := [.data, .data, .data, .data, .sentinel, .sentinel, .data, .data, .data, .data, .pinned], laidTests := true, laidLooks := .later }
def HazardsPlainCardSaid : Prop := Claim7.holds Tryz.pinned (.plain (OpenSpec.ofChange hazardsPlainSpec)) hazardsPlainCard

/-- THE SECOND FORM's CARD OF 'ganseylaw08.MachinesRun'. -/
def machinesRunUptoCard : Claim7 := { stood := { row := machinesRunUptoRow, standIns := [], harness := (true, "3afaf2a6e29338e596aa24048431370529ca7044853a1dd106886cd0afa2eb02"), looks := true }, kinds := [], alts := [], laidByText := true, laidKinds := [.data, .data, .data, .data, .sentinel, .sentinel, .data, .data, .data, .pinned], laidTests := true, laidLooks := .later }
def MachinesRunUptoCardSaid : Prop := Claim7.holds Tryz.pinned (.plain (OpenSpec.upto machinesRunSpec)) machinesRunUptoCard

/-- THE SECOND FORM's CARD OF 'ganseylaw09.HazardsParts'. -/
def hazardsPartsUptoCard : Claim7 := { stood := { row := hazardsPartsUptoRow, standIns := [], harness := (true, "3afaf2a6e29338e596aa24048431370529ca7044853a1dd106886cd0afa2eb02"), looks := true }, kinds := [], alts := [], laidByText := true, laidKinds := [.data, .data, .data, .data, .sentinel, .sentinel, .data, .data, .data, .data, .pinned], laidTests := true, laidLooks := .later }
def HazardsPartsUptoCardSaid : Prop := Claim7.holds Tryz.pinned (.plain (OpenSpec.upto hazardsPartsSpec)) hazardsPartsUptoCard

/-- THE SECOND FORM's CARD OF 'ganseylaw09.HazardsFloat'. -/
def hazardsFloatUptoCard : Claim7 := { stood := { row := hazardsFloatUptoRow, standIns := [], harness := (true, "3afaf2a6e29338e596aa24048431370529ca7044853a1dd106886cd0afa2eb02"), looks := true }, kinds := [], alts := [], laidByText := true, laidKinds := [.data, .data, .data, .data, .sentinel, .sentinel, .data, .data, .data, .data, .pinned], laidTests := true, laidLooks := .later }
def HazardsFloatUptoCardSaid : Prop := Claim7.holds Tryz.pinned (.plain (OpenSpec.upto hazardsFloatSpec)) hazardsFloatUptoCard

/-- THE SECOND FORM's CARD OF 'ganseylaw09.HazardsRack'. -/
def hazardsRackUptoCard : Claim7 := { stood := { row := hazardsRackUptoRow, standIns := [], harness := (true, "3afaf2a6e29338e596aa24048431370529ca7044853a1dd106886cd0afa2eb02"), looks := true }, kinds := [], alts := [], laidByText := true, laidKinds := [.data, .data, .data, .data, .sentinel, .sentinel, .data, .data, .data, .data, .pinned], laidTests := true, laidLooks := .later }
def HazardsRackUptoCardSaid : Prop := Claim7.holds Tryz.pinned (.plain (OpenSpec.upto hazardsRackSpec)) hazardsRackUptoCard

/-- THE SECOND FORM's CARD OF 'ganseylaw09.HazardsText'. -/
def hazardsTextUptoCard : Claim7 := { stood := { row := hazardsTextUptoRow, standIns := [], harness := (true, "3afaf2a6e29338e596aa24048431370529ca7044853a1dd106886cd0afa2eb02"), looks := true }, kinds := [], alts := [], laidByText := true, laidKinds := [.data, .data, .data, .data, .sentinel, .sentinel, .data, .data, .data, .data, .pinned], laidTests := true, laidLooks := .later }
def HazardsTextUptoCardSaid : Prop := Claim7.holds Tryz.pinned (.plain (OpenSpec.upto hazardsTextSpec)) hazardsTextUptoCard

/-- THE SECOND FORM's CARD OF 'ganseylaw09.HazardsReport'. -/
def hazardsReportUptoCard : Claim7 := { stood := { row := hazardsReportUptoRow, standIns := [], harness := (true, "3afaf2a6e29338e596aa24048431370529ca7044853a1dd106886cd0afa2eb02"), looks := true }, kinds := [], alts := [], laidByText := true, laidKinds := [.data, .data, .data, .data, .sentinel, .sentinel, .data, .data, .data, .data, .pinned], laidTests := true, laidLooks := .later }
def HazardsReportUptoCardSaid : Prop := Claim7.holds Tryz.pinned (.plain (OpenSpec.upto hazardsReportSpec)) hazardsReportUptoCard

/-- THE SECOND FORM's CARD OF 'ganseylaw09.HazardsPlain'. -/
def hazardsPlainUptoCard : Claim7 := { stood := { row := hazardsPlainUptoRow, standIns := [], harness := (true, "3afaf2a6e29338e596aa24048431370529ca7044853a1dd106886cd0afa2eb02"), looks := true }, kinds := [], alts := [], laidByText := true, laidKinds := [.data, .data, .data, .data, .sentinel, .sentinel, .data, .data, .data, .data, .pinned], laidTests := true, laidLooks := .later }
def HazardsPlainUptoCardSaid : Prop := Claim7.holds Tryz.pinned (.plain (OpenSpec.upto hazardsPlainSpec)) hazardsPlainUptoCard
end Rows
end Go.Proofs.YtjilcnmaefhmeaaGreatDoor
