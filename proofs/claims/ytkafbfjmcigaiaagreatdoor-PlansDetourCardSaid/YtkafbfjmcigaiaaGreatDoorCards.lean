/-
  DERIVED. GIVEN WITH THE SEED: THE CARDS: each row of YtkafbfjmcigaiaaGreatDoorRows.lean that lists a variable, with what it lists TIED to the program's text (the seventh form; the later family's looks); each row that meets fmt, with fmt's text TOLD by the authors' own Lean function (tested against real Go, not proved from fmt's source: count such statements apart). THE CARD IS WHAT COUNTS. Prove the row's statement (the work); the ties are given (YtkafbfjmcigaiaaGreatDoorTie.lean); close each card by the builder's one call (the guide's Derived/Test/ToyasCard.lean, 'card_holds'). Laid BY PROGRAM, IN A SANDBOX (cutbox-door.mjs). By AI agents, Wed Nov 11 2026. No macro, syntax, notation, axiom, sorry.
-/
import Derived.Test.YtkafbfjmcigaiaaGreatDoorRows
import GoSem.ClaimSeven
namespace Go.Proofs.YtkafbfjmcigaiaaGreatDoor
namespace Rows

/-- THE TIED CARD OF 'ganseylaw26.PlansDetour'. -/
def plansDetourCard : Claim7 := { stood := { row := plansDetourRow, standIns := [], harness := (true, "0e5078e8a388406c966bc80dff5b0ff19e9ad92683e8b2583322c7d5b640cc8e"), looks := true }, kinds := [], alts := [], laidByText := true, laidKinds := [.data, .data, .data, .data, .sentinel, .sentinel, .data, .data, .data, .pinned], laidTests := true, laidLooks := .later }
def PlansDetourCardSaid : Prop := Claim7.holds Tryz.pinned (.plain (OpenSpec.ofChange plansDetourSpec)) plansDetourCard

/-- THE TIED CARD OF 'ganseylaw26.PlansSplit'. -/
def plansSplitCard : Claim7 := { stood := { row := plansSplitRow, standIns := [], harness := (true, "0e5078e8a388406c966bc80dff5b0ff19e9ad92683e8b2583322c7d5b640cc8e"), looks := true }, kinds := [], alts := [], laidByText := true, laidKinds := [.data, .data, .data, .data, .sentinel, .sentinel, .data, .data, .data, .pinned], laidTests := true, laidLooks := .later }
def PlansSplitCardSaid : Prop := Claim7.holds Tryz.pinned (.plain (OpenSpec.ofChange plansSplitSpec)) plansSplitCard

/-- THE SECOND FORM's CARD OF 'ganseylaw26.PlansDetour'. -/
def plansDetourUptoCard : Claim7 := { stood := { row := plansDetourUptoRow, standIns := [], harness := (true, "0e5078e8a388406c966bc80dff5b0ff19e9ad92683e8b2583322c7d5b640cc8e"), looks := true }, kinds := [], alts := [], laidByText := true, laidKinds := [.data, .data, .data, .data, .sentinel, .sentinel, .data, .data, .data, .pinned], laidTests := true, laidLooks := .later }
def PlansDetourUptoCardSaid : Prop := Claim7.holds Tryz.pinned (.plain (OpenSpec.upto plansDetourSpec)) plansDetourUptoCard

/-- THE SECOND FORM's CARD OF 'ganseylaw26.PlansSplit'. -/
def plansSplitUptoCard : Claim7 := { stood := { row := plansSplitUptoRow, standIns := [], harness := (true, "0e5078e8a388406c966bc80dff5b0ff19e9ad92683e8b2583322c7d5b640cc8e"), looks := true }, kinds := [], alts := [], laidByText := true, laidKinds := [.data, .data, .data, .data, .sentinel, .sentinel, .data, .data, .data, .pinned], laidTests := true, laidLooks := .later }
def PlansSplitUptoCardSaid : Prop := Claim7.holds Tryz.pinned (.plain (OpenSpec.upto plansSplitSpec)) plansSplitUptoCard
end Rows
end Go.Proofs.YtkafbfjmcigaiaaGreatDoor
