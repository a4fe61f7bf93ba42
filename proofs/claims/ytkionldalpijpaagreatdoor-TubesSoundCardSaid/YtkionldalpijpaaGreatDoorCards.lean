/-
  DERIVED. GIVEN WITH THE SEED: THE CARDS: each row of YtkionldalpijpaaGreatDoorRows.lean that lists a variable, with what it lists TIED to the program's text (the seventh form; the later family's looks); each row that meets fmt, with fmt's text TOLD by the authors' own Lean function (tested against real Go, not proved from fmt's source: count such statements apart). THE CARD IS WHAT COUNTS. Prove the row's statement (the work); the ties are given (YtkionldalpijpaaGreatDoorTie.lean); close each card by the builder's one call (the guide's Derived/Test/ToyasCard.lean, 'card_holds'). Laid BY PROGRAM, IN A SANDBOX (cutbox-door.mjs). By AI agents, Wed Nov 11 2026. No macro, syntax, notation, axiom, sorry.
-/
import Derived.Test.YtkionldalpijpaaGreatDoorRows
import GoSem.ClaimSeven
namespace Go.Proofs.YtkionldalpijpaaGreatDoor
namespace Rows

/-- THE TIED CARD OF 'ganseylaw21.TubesSound'. -/
def tubesSoundCard : Claim7 := { stood := { row := tubesSoundRow, standIns := [], harness := (true, "0181fcf55d1d149e3f4a9ad979a86cdc09266405e9f8a04d5f693e1790d26917"), looks := true }, kinds := [], alts := [], laidByText := true, laidKinds := [.data, .data, .data, .data, .sentinel, .sentinel, .pinned], laidTests := true, laidLooks := .later }
def TubesSoundCardSaid : Prop := Claim7.holds Tryz.pinned (.plain (OpenSpec.ofChange tubesSoundSpec)) tubesSoundCard

/-- THE SECOND FORM's CARD OF 'ganseylaw21.TubesSound'. -/
def tubesSoundUptoCard : Claim7 := { stood := { row := tubesSoundUptoRow, standIns := [], harness := (true, "0181fcf55d1d149e3f4a9ad979a86cdc09266405e9f8a04d5f693e1790d26917"), looks := true }, kinds := [], alts := [], laidByText := true, laidKinds := [.data, .data, .data, .data, .sentinel, .sentinel, .pinned], laidTests := true, laidLooks := .later }
def TubesSoundUptoCardSaid : Prop := Claim7.holds Tryz.pinned (.plain (OpenSpec.upto tubesSoundSpec)) tubesSoundUptoCard
end Rows
end Go.Proofs.YtkionldalpijpaaGreatDoor
