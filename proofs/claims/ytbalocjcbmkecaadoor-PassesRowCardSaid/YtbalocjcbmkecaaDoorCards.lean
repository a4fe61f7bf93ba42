/-
  DERIVED. GIVEN WITH THE SEED: THE CARDS: each row of YtbalocjcbmkecaaDoorRows.lean that lists a variable, with what it lists TIED to the program's text (the seventh form; the later family's looks); each row that meets fmt, with fmt's text TOLD by the authors' own Lean function (tested against real Go, not proved from fmt's source: count such statements apart). THE CARD IS WHAT COUNTS. Prove the row's statement (the work); the ties are given (YtbalocjcbmkecaaDoorTie.lean); close each card by the builder's one call (the guide's Derived/Test/ToyasCard.lean, 'card_holds'). Laid BY PROGRAM, IN A SANDBOX (cutbox-door.mjs). By AI agents, Wed Nov 11 2026. No macro, syntax, notation, axiom, sorry.
-/
import Derived.Test.YtbalocjcbmkecaaDoorRows
import GoSem.ClaimSeven
namespace Go.Proofs.YtbalocjcbmkecaaDoor
namespace Rows

/-- THE TIED CARD OF 'ganseylaw07.OperationsBack'. -/
def operationsBackCard : Claim7 := { stood := { row := operationsBackRow, standIns := [], harness := (true, "db6206c1ba4a096b28ffafacb74369cd9fd40c2e32287d73bf43f41d3232a63e"), looks := true }, kinds := [], alts := [], laidByText := true, laidKinds := [.data, .data, .data, .data, .sentinel, .sentinel, .data, .data, .pinned], laidTests := true, laidLooks := .later }
def OperationsBackCardSaid : Prop := Claim7.holds Tryd.pinned (.plain (OpenSpec.ofChange operationsBackSpec)) operationsBackCard

/-- THE TIED CARD OF 'ganseylaw07.OperationsNear'. -/
def operationsNearCard : Claim7 := { stood := { row := operationsNearRow, standIns := [], harness := (true, "db6206c1ba4a096b28ffafacb74369cd9fd40c2e32287d73bf43f41d3232a63e"), looks := true }, kinds := [], alts := [], laidByText := true, laidKinds := [.data, .data, .data, .data, .sentinel, .sentinel, .data, .data, .pinned], laidTests := true, laidLooks := .later }
def OperationsNearCardSaid : Prop := Claim7.holds Tryd.pinned (.plain (OpenSpec.ofChange operationsNearSpec)) operationsNearCard

/-- THE TIED CARD OF 'ganseylaw07.OperationsLines'. -/
def operationsLinesCard : Claim7 := { stood := { row := operationsLinesRow, standIns := [], harness := (true, "db6206c1ba4a096b28ffafacb74369cd9fd40c2e32287d73bf43f41d3232a63e"), looks := true }, kinds := [], alts := [], laidByText := true, laidKinds := [.data, .data, .data, .data, .sentinel, .sentinel, .data, .data, .pinned], laidTests := true, laidLooks := .later }
def OperationsLinesCardSaid : Prop := Claim7.holds Tryd.pinned (.plain (OpenSpec.ofChange operationsLinesSpec)) operationsLinesCard

/-- THE TIED CARD OF 'ganseylaw07.OperationsProgram'. -/
def operationsProgramCard : Claim7 := { stood := { row := operationsProgramRow, standIns := [], harness := (true, "db6206c1ba4a096b28ffafacb74369cd9fd40c2e32287d73bf43f41d3232a63e"), looks := true }, kinds := [], alts := [], laidByText := true, laidKinds := [.data, .data, .data, .data, .sentinel, .sentinel, .data, .data, .pinned], laidTests := true, laidLooks := .later }
def OperationsProgramCardSaid : Prop := Claim7.holds Tryd.pinned (.plain (OpenSpec.ofChange operationsProgramSpec)) operationsProgramCard

/-- THE TIED CARD OF 'ganseylaw07.OperationsLimit'. -/
def operationsLimitCard : Claim7 := { stood := { row := operationsLimitRow, standIns := [], harness := (true, "db6206c1ba4a096b28ffafacb74369cd9fd40c2e32287d73bf43f41d3232a63e"), looks := true }, kinds := [], alts := [], laidByText := true, laidKinds := [.data, .data, .data, .data, .sentinel, .sentinel, .data, .data, .pinned], laidTests := true, laidLooks := .later }
def OperationsLimitCardSaid : Prop := Claim7.holds Tryd.pinned (.plain (OpenSpec.ofChange operationsLimitSpec)) operationsLimitCard

/-- THE TIED CARD OF 'ganseylaw10.PassesTwo'. -/
def passesTwoCard : Claim7 := { stood := { row := passesTwoRow, standIns := [], harness := (true, "db6206c1ba4a096b28ffafacb74369cd9fd40c2e32287d73bf43f41d3232a63e"), looks := true }, kinds := [], alts := [], laidByText := true, laidKinds := [.data, .data, .data, .data, .sentinel, .sentinel, .data, .data, .pinned], laidTests := true, laidLooks := .later }
def PassesTwoCardSaid : Prop := Claim7.holds Tryd.pinned (.plain (OpenSpec.ofChange passesTwoSpec)) passesTwoCard

/-- THE TIED CARD OF 'ganseylaw10.PassesInOut'. -/
def passesInOutCard : Claim7 := { stood := { row := passesInOutRow, standIns := [], harness := (true, "db6206c1ba4a096b28ffafacb74369cd9fd40c2e32287d73bf43f41d3232a63e"), looks := true }, kinds := [], alts := [], laidByText := true, laidKinds := [.data, .data, .data, .data, .sentinel, .sentinel, .data, .data, .pinned], laidTests := true, laidLooks := .later }
def PassesInOutCardSaid : Prop := Claim7.holds Tryd.pinned (.plain (OpenSpec.ofChange passesInOutSpec)) passesInOutCard

/-- THE TIED CARD OF 'ganseylaw10.PassesValid'. -/
def passesValidCard : Claim7 := { stood := { row := passesValidRow, standIns := [], harness := (true, "db6206c1ba4a096b28ffafacb74369cd9fd40c2e32287d73bf43f41d3232a63e"), looks := true }, kinds := [], alts := [], laidByText := true, laidKinds := [.data, .data, .data, .data, .sentinel, .sentinel, .data, .data, .pinned], laidTests := true, laidLooks := .later }
def PassesValidCardSaid : Prop := Claim7.holds Tryd.pinned (.plain (OpenSpec.ofChange passesValidSpec)) passesValidCard

/-- THE TIED CARD OF 'ganseylaw10.PassesRow'. -/
def passesRowCard : Claim7 := { stood := { row := passesRowRow, standIns := [], harness := (true, "db6206c1ba4a096b28ffafacb74369cd9fd40c2e32287d73bf43f41d3232a63e"), looks := true }, kinds := [], alts := [], laidByText := true, laidKinds := [.data, .data, .data, .data, .sentinel, .sentinel, .data, .data, .pinned], laidTests := true, laidLooks := .later }
def PassesRowCardSaid : Prop := Claim7.holds Tryd.pinned (.plain (OpenSpec.ofChange passesRowSpec)) passesRowCard

/-- THE SECOND FORM's CARD OF 'ganseylaw07.OperationsBack'. -/
def operationsBackUptoCard : Claim7 := { stood := { row := operationsBackUptoRow, standIns := [], harness := (true, "db6206c1ba4a096b28ffafacb74369cd9fd40c2e32287d73bf43f41d3232a63e"), looks := true }, kinds := [], alts := [], laidByText := true, laidKinds := [.data, .data, .data, .data, .sentinel, .sentinel, .data, .data, .pinned], laidTests := true, laidLooks := .later }
def OperationsBackUptoCardSaid : Prop := Claim7.holds Tryd.pinned (.plain (OpenSpec.upto operationsBackSpec)) operationsBackUptoCard

/-- THE SECOND FORM's CARD OF 'ganseylaw07.OperationsNear'. -/
def operationsNearUptoCard : Claim7 := { stood := { row := operationsNearUptoRow, standIns := [], harness := (true, "db6206c1ba4a096b28ffafacb74369cd9fd40c2e32287d73bf43f41d3232a63e"), looks := true }, kinds := [], alts := [], laidByText := true, laidKinds := [.data, .data, .data, .data, .sentinel, .sentinel, .data, .data, .pinned], laidTests := true, laidLooks := .later }
def OperationsNearUptoCardSaid : Prop := Claim7.holds Tryd.pinned (.plain (OpenSpec.upto operationsNearSpec)) operationsNearUptoCard

/-- THE SECOND FORM's CARD OF 'ganseylaw07.OperationsLines'. -/
def operationsLinesUptoCard : Claim7 := { stood := { row := operationsLinesUptoRow, standIns := [], harness := (true, "db6206c1ba4a096b28ffafacb74369cd9fd40c2e32287d73bf43f41d3232a63e"), looks := true }, kinds := [], alts := [], laidByText := true, laidKinds := [.data, .data, .data, .data, .sentinel, .sentinel, .data, .data, .pinned], laidTests := true, laidLooks := .later }
def OperationsLinesUptoCardSaid : Prop := Claim7.holds Tryd.pinned (.plain (OpenSpec.upto operationsLinesSpec)) operationsLinesUptoCard

/-- THE SECOND FORM's CARD OF 'ganseylaw07.OperationsProgram'. -/
def operationsProgramUptoCard : Claim7 := { stood := { row := operationsProgramUptoRow, standIns := [], harness := (true, "db6206c1ba4a096b28ffafacb74369cd9fd40c2e32287d73bf43f41d3232a63e"), looks := true }, kinds := [], alts := [], laidByText := true, laidKinds := [.data, .data, .data, .data, .sentinel, .sentinel, .data, .data, .pinned], laidTests := true, laidLooks := .later }
def OperationsProgramUptoCardSaid : Prop := Claim7.holds Tryd.pinned (.plain (OpenSpec.upto operationsProgramSpec)) operationsProgramUptoCard

/-- THE SECOND FORM's CARD OF 'ganseylaw07.OperationsLimit'. -/
def operationsLimitUptoCard : Claim7 := { stood := { row := operationsLimitUptoRow, standIns := [], harness := (true, "db6206c1ba4a096b28ffafacb74369cd9fd40c2e32287d73bf43f41d3232a63e"), looks := true }, kinds := [], alts := [], laidByText := true, laidKinds := [.data, .data, .data, .data, .sentinel, .sentinel, .data, .data, .pinned], laidTests := true, laidLooks := .later }
def OperationsLimitUptoCardSaid : Prop := Claim7.holds Tryd.pinned (.plain (OpenSpec.upto operationsLimitSpec)) operationsLimitUptoCard

/-- THE SECOND FORM's CARD OF 'ganseylaw10.PassesTwo'. -/
def passesTwoUptoCard : Claim7 := { stood := { row := passesTwoUptoRow, standIns := [], harness := (true, "db6206c1ba4a096b28ffafacb74369cd9fd40c2e32287d73bf43f41d3232a63e"), looks := true }, kinds := [], alts := [], laidByText := true, laidKinds := [.data, .data, .data, .data, .sentinel, .sentinel, .data, .data, .pinned], laidTests := true, laidLooks := .later }
def PassesTwoUptoCardSaid : Prop := Claim7.holds Tryd.pinned (.plain (OpenSpec.upto passesTwoSpec)) passesTwoUptoCard

/-- THE SECOND FORM's CARD OF 'ganseylaw10.PassesInOut'. -/
def passesInOutUptoCard : Claim7 := { stood := { row := passesInOutUptoRow, standIns := [], harness := (true, "db6206c1ba4a096b28ffafacb74369cd9fd40c2e32287d73bf43f41d3232a63e"), looks := true }, kinds := [], alts := [], laidByText := true, laidKinds := [.data, .data, .data, .data, .sentinel, .sentinel, .data, .data, .pinned], laidTests := true, laidLooks := .later }
def PassesInOutUptoCardSaid : Prop := Claim7.holds Tryd.pinned (.plain (OpenSpec.upto passesInOutSpec)) passesInOutUptoCard

/-- THE SECOND FORM's CARD OF 'ganseylaw10.PassesValid'. -/
def passesValidUptoCard : Claim7 := { stood := { row := passesValidUptoRow, standIns := [], harness := (true, "db6206c1ba4a096b28ffafacb74369cd9fd40c2e32287d73bf43f41d3232a63e"), looks := true }, kinds := [], alts := [], laidByText := true, laidKinds := [.data, .data, .data, .data, .sentinel, .sentinel, .data, .data, .pinned], laidTests := true, laidLooks := .later }
def PassesValidUptoCardSaid : Prop := Claim7.holds Tryd.pinned (.plain (OpenSpec.upto passesValidSpec)) passesValidUptoCard

/-- THE SECOND FORM's CARD OF 'ganseylaw10.PassesRow'. -/
def passesRowUptoCard : Claim7 := { stood := { row := passesRowUptoRow, standIns := [], harness := (true, "db6206c1ba4a096b28ffafacb74369cd9fd40c2e32287d73bf43f41d3232a63e"), looks := true }, kinds := [], alts := [], laidByText := true, laidKinds := [.data, .data, .data, .data, .sentinel, .sentinel, .data, .data, .pinned], laidTests := true, laidLooks := .later }
def PassesRowUptoCardSaid : Prop := Claim7.holds Tryd.pinned (.plain (OpenSpec.upto passesRowSpec)) passesRowUptoCard
end Rows
end Go.Proofs.YtbalocjcbmkecaaDoor
