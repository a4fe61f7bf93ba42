/-
  DERIVED. GIVEN WITH THE SEED: THE CARDS: each row of YthehggmdcmpjeaaDoorRows.lean that lists a variable, with what it lists TIED to the program's text (the seventh form; the later family's looks); each row that meets fmt, with fmt's text TOLD by the authors' own Lean function (tested against real Go, not proved from fmt's source: count such statements apart). THE CARD IS WHAT COUNTS. Prove the row's statement (the work); the ties are given (YthehggmdcmpjeaaDoorTie.lean); close each card by the builder's one call (the guide's Derived/Test/ToyasCard.lean, 'card_holds'). Laid BY PROGRAM, IN A SANDBOX (cutbox-door.mjs). By AI agents, Wed Nov 11 2026. No macro, syntax, notation, axiom, sorry.
-/
import Derived.Test.YthehggmdcmpjeaaDoorRows
import GoSem.ClaimSeven
namespace Go.Proofs.YthehggmdcmpjeaaDoor
namespace Rows

/-- THE TIED CARD OF 'ganseylaw22.GarmentsCheck'. -/
def garmentsCheckCard : Claim7 := { stood := { row := garmentsCheckRow, standIns := [], harness := (true, "7caf5d1a47b90b93c82f9b766f06719065b625c025ce8c4abffd4a50928c706f"), looks := false }, kinds := [], alts := [], laidByText := true, laidKinds := [.data, .data, .data, .data], laidTests := true, laidLooks := .later }
def GarmentsCheckCardSaid : Prop := Claim7.holds Tryd.pinned (.plain (OpenSpec.ofChange garmentsCheckSpec)) garmentsCheckCard

/-- THE TIED CARD OF 'ganseylaw22.GarmentsSizes'. -/
def garmentsSizesCard : Claim7 := { stood := { row := garmentsSizesRow, standIns := [], harness := (true, "7caf5d1a47b90b93c82f9b766f06719065b625c025ce8c4abffd4a50928c706f"), looks := false }, kinds := [], alts := [], laidByText := true, laidKinds := [.data, .data, .data, .data], laidTests := true, laidLooks := .later }
def GarmentsSizesCardSaid : Prop := Claim7.holds Tryd.pinned (.plain (OpenSpec.ofChange garmentsSizesSpec)) garmentsSizesCard

/-- THE TIED CARD OF 'ganseylaw22.GarmentsMirror'. -/
def garmentsMirrorCard : Claim7 := { stood := { row := garmentsMirrorRow, standIns := [], harness := (true, "7caf5d1a47b90b93c82f9b766f06719065b625c025ce8c4abffd4a50928c706f"), looks := false }, kinds := [], alts := [], laidByText := true, laidKinds := [.data, .data, .data, .data], laidTests := true, laidLooks := .later }
def GarmentsMirrorCardSaid : Prop := Claim7.holds Tryd.pinned (.plain (OpenSpec.ofChange garmentsMirrorSpec)) garmentsMirrorCard

/-- THE SECOND FORM's CARD OF 'ganseylaw22.GarmentsCheck'. -/
def garmentsCheckUptoCard : Claim7 := { stood := { row := garmentsCheckUptoRow, standIns := [], harness := (true, "7caf5d1a47b90b93c82f9b766f06719065b625c025ce8c4abffd4a50928c706f"), looks := false }, kinds := [], alts := [], laidByText := true, laidKinds := [.data, .data, .data, .data], laidTests := true, laidLooks := .later }
def GarmentsCheckUptoCardSaid : Prop := Claim7.holds Tryd.pinned (.plain (OpenSpec.upto garmentsCheckSpec)) garmentsCheckUptoCard

/-- THE SECOND FORM's CARD OF 'ganseylaw22.GarmentsSizes'. -/
def garmentsSizesUptoCard : Claim7 := { stood := { row := garmentsSizesUptoRow, standIns := [], harness := (true, "7caf5d1a47b90b93c82f9b766f06719065b625c025ce8c4abffd4a50928c706f"), looks := false }, kinds := [], alts := [], laidByText := true, laidKinds := [.data, .data, .data, .data], laidTests := true, laidLooks := .later }
def GarmentsSizesUptoCardSaid : Prop := Claim7.holds Tryd.pinned (.plain (OpenSpec.upto garmentsSizesSpec)) garmentsSizesUptoCard

/-- THE SECOND FORM's CARD OF 'ganseylaw22.GarmentsMirror'. -/
def garmentsMirrorUptoCard : Claim7 := { stood := { row := garmentsMirrorUptoRow, standIns := [], harness := (true, "7caf5d1a47b90b93c82f9b766f06719065b625c025ce8c4abffd4a50928c706f"), looks := false }, kinds := [], alts := [], laidByText := true, laidKinds := [.data, .data, .data, .data], laidTests := true, laidLooks := .later }
def GarmentsMirrorUptoCardSaid : Prop := Claim7.holds Tryd.pinned (.plain (OpenSpec.upto garmentsMirrorSpec)) garmentsMirrorUptoCard
end Rows
end Go.Proofs.YthehggmdcmpjeaaDoor
