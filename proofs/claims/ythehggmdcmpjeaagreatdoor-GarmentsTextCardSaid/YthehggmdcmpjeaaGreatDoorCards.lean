/-
  DERIVED. GIVEN WITH THE SEED: THE CARDS: each row of YthehggmdcmpjeaaGreatDoorRows.lean that lists a variable, with what it lists TIED to the program's text (the seventh form; the later family's looks); each row that meets fmt, with fmt's text TOLD by the authors' own Lean function (tested against real Go, not proved from fmt's source: count such statements apart). THE CARD IS WHAT COUNTS. Prove the row's statement (the work); the ties are given (YthehggmdcmpjeaaGreatDoorTie.lean); close each card by the builder's one call (the guide's Derived/Test/ToyasCard.lean, 'card_holds'). Laid BY PROGRAM, IN A SANDBOX (cutbox-door.mjs). By AI agents, Wed Nov 11 2026. No macro, syntax, notation, axiom, sorry.
-/
import Derived.Test.YthehggmdcmpjeaaGreatDoorRows
import GoSem.ClaimSeven
namespace Go.Proofs.YthehggmdcmpjeaaGreatDoor
namespace Rows

/-- THE TIED CARD OF 'ganseylaw22.GarmentsMake'. -/
def garmentsMakeCard : Claim7 := { stood := { row := garmentsMakeRow, standIns := [], harness := (true, "2b430f1c419a9fd0d44f0d9b89ec9843232d8741122596ff420a122ae7aeb389"), looks := true }, kinds := [], alts := [], laidByText := true, laidKinds := [.data, .data, .data, .data], laidTests := true, laidLooks := .later }
def GarmentsMakeCardSaid : Prop := Claim7.holds Tryz.pinned (.plain (OpenSpec.ofChange garmentsMakeSpec)) garmentsMakeCard

/-- THE TIED CARD OF 'ganseylaw22.GarmentsText'. -/
def garmentsTextCard : Claim7 := { stood := { row := garmentsTextRow, standIns := [], harness := (true, "2b430f1c419a9fd0d44f0d9b89ec9843232d8741122596ff420a122ae7aeb389"), looks := true }, kinds := [], alts := [], laidByText := true, laidKinds := [.data, .data, .data, .data, .data, .sentinel, .sentinel, .pinned], laidTests := true, laidLooks := .later }
def GarmentsTextCardSaid : Prop := Claim7.holds Tryz.pinned (.plain (OpenSpec.ofChange garmentsTextSpec)) garmentsTextCard

/-- THE TIED CARD OF 'ganseylaw22.GarmentsParse'. -/
def garmentsParseCard : Claim7 := { stood := { row := garmentsParseRow, standIns := [], harness := (true, "2b430f1c419a9fd0d44f0d9b89ec9843232d8741122596ff420a122ae7aeb389"), looks := true }, kinds := [], alts := [], laidByText := true, laidKinds := [.data, .data, .data, .data, .data, .sentinel, .sentinel, .pinned], laidTests := true, laidLooks := .later }
def GarmentsParseCardSaid : Prop := Claim7.holds Tryz.pinned (.plain (OpenSpec.ofChange garmentsParseSpec)) garmentsParseCard

/-- THE TIED CARD OF 'ganseylaw22.GarmentsKnown'. -/
def garmentsKnownCard : Claim7 := { stood := { row := garmentsKnownRow, standIns := [], harness := (true, "2b430f1c419a9fd0d44f0d9b89ec9843232d8741122596ff420a122ae7aeb389"), looks := true }, kinds := [], alts := [], laidByText := true, laidKinds := [.data, .data, .data, .data, .data, .sentinel, .sentinel, .pinned], laidTests := true, laidLooks := .later }
def GarmentsKnownCardSaid : Prop := Claim7.holds Tryz.pinned (.plain (OpenSpec.ofChange garmentsKnownSpec)) garmentsKnownCard

/-- THE SECOND FORM's CARD OF 'ganseylaw22.GarmentsMake'. -/
def garmentsMakeUptoCard : Claim7 := { stood := { row := garmentsMakeUptoRow, standIns := [], harness := (true, "2b430f1c419a9fd0d44f0d9b89ec9843232d8741122596ff420a122ae7aeb389"), looks := true }, kinds := [], alts := [], laidByText := true, laidKinds := [.data, .data, .data, .data], laidTests := true, laidLooks := .later }
def GarmentsMakeUptoCardSaid : Prop := Claim7.holds Tryz.pinned (.plain (OpenSpec.upto garmentsMakeSpec)) garmentsMakeUptoCard

/-- THE SECOND FORM's CARD OF 'ganseylaw22.GarmentsText'. -/
def garmentsTextUptoCard : Claim7 := { stood := { row := garmentsTextUptoRow, standIns := [], harness := (true, "2b430f1c419a9fd0d44f0d9b89ec9843232d8741122596ff420a122ae7aeb389"), looks := true }, kinds := [], alts := [], laidByText := true, laidKinds := [.data, .data, .data, .data, .data, .sentinel, .sentinel, .pinned], laidTests := true, laidLooks := .later }
def GarmentsTextUptoCardSaid : Prop := Claim7.holds Tryz.pinned (.plain (OpenSpec.upto garmentsTextSpec)) garmentsTextUptoCard

/-- THE SECOND FORM's CARD OF 'ganseylaw22.GarmentsParse'. -/
def garmentsParseUptoCard : Claim7 := { stood := { row := garmentsParseUptoRow, standIns := [], harness := (true, "2b430f1c419a9fd0d44f0d9b89ec9843232d8741122596ff420a122ae7aeb389"), looks := true }, kinds := [], alts := [], laidByText := true, laidKinds := [.data, .data, .data, .data, .data, .sentinel, .sentinel, .pinned], laidTests := true, laidLooks := .later }
def GarmentsParseUptoCardSaid : Prop := Claim7.holds Tryz.pinned (.plain (OpenSpec.upto garmentsParseSpec)) garmentsParseUptoCard

/-- THE SECOND FORM's CARD OF 'ganseylaw22.GarmentsKnown'. -/
def garmentsKnownUptoCard : Claim7 := { stood := { row := garmentsKnownUptoRow, standIns := [], harness := (true, "2b430f1c419a9fd0d44f0d9b89ec9843232d8741122596ff420a122ae7aeb389"), looks := true }, kinds := [], alts := [], laidByText := true, laidKinds := [.data, .data, .data, .data, .data, .sentinel, .sentinel, .pinned], laidTests := true, laidLooks := .later }
def GarmentsKnownUptoCardSaid : Prop := Claim7.holds Tryz.pinned (.plain (OpenSpec.upto garmentsKnownSpec)) garmentsKnownUptoCard
end Rows
end Go.Proofs.YthehggmdcmpjeaaGreatDoor
