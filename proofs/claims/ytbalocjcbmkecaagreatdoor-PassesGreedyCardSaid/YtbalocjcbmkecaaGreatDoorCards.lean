/-
  DERIVED. GIVEN WITH THE SEED: THE CARDS: each row of YtbalocjcbmkecaaGreatDoorRows.lean that lists a variable, with what it lists TIED to the program's text (the seventh form; the later family's looks); each row that meets fmt, with fmt's text TOLD by the authors' own Lean function (tested against real Go, not proved from fmt's source: count such statements apart). THE CARD IS WHAT COUNTS. Prove the row's statement (the work); the ties are given (YtbalocjcbmkecaaGreatDoorTie.lean); close each card by the builder's one call (the guide's Derived/Test/ToyasCard.lean, 'card_holds'). Laid BY PROGRAM, IN A SANDBOX (cutbox-door.mjs). By AI agents, Wed Nov 11 2026. No macro, syntax, notation, axiom, sorry.
-/
import Derived.Test.YtbalocjcbmkecaaGreatDoorRows
import GoSem.ClaimSeven
namespace Go.Proofs.YtbalocjcbmkecaaGreatDoor
namespace Rows

/-- THE TIED CARD OF 'ganseylaw10.PassesGreedy'. -/
def passesGreedyCard : Claim7 := { stood := { row := passesGreedyRow, standIns := [], harness := (true, "1c6f1f43e0e089b609b28c57a2a94ecb3b2c9507018609bc87c6423c5de0f782"), looks := true }, kinds := [], alts := [], laidByText := true, laidKinds := [.data, .data, .data, .data, .sentinel, .sentinel, .data, .data, .pinned], laidTests := true, laidLooks := .later }
def PassesGreedyCardSaid : Prop := Claim7.holds Tryz.pinned (.plain (OpenSpec.ofChange passesGreedySpec)) passesGreedyCard

/-- THE TIED CARD OF 'ganseylaw10.PassesTime'. -/
def passesTimeCard : Claim7 := { stood := { row := passesTimeRow, standIns := [], harness := (true, "1c6f1f43e0e089b609b28c57a2a94ecb3b2c9507018609bc87c6423c5de0f782"), looks := true }, kinds := [], alts := [], laidByText := true, laidKinds := [.data, .data, .data, .data, .sentinel, .sentinel, .data, .data, .pinned], laidTests := true, laidLooks := .later }
def PassesTimeCardSaid : Prop := Claim7.holds Tryz.pinned (.plain (OpenSpec.ofChange passesTimeSpec)) passesTimeCard

/-- THE SECOND FORM's CARD OF 'ganseylaw10.PassesGreedy'. -/
def passesGreedyUptoCard : Claim7 := { stood := { row := passesGreedyUptoRow, standIns := [], harness := (true, "1c6f1f43e0e089b609b28c57a2a94ecb3b2c9507018609bc87c6423c5de0f782"), looks := true }, kinds := [], alts := [], laidByText := true, laidKinds := [.data, .data, .data, .data, .sentinel, .sentinel, .data, .data, .pinned], laidTests := true, laidLooks := .later }
def PassesGreedyUptoCardSaid : Prop := Claim7.holds Tryz.pinned (.plain (OpenSpec.upto passesGreedySpec)) passesGreedyUptoCard

/-- THE SECOND FORM's CARD OF 'ganseylaw10.PassesTime'. -/
def passesTimeUptoCard : Claim7 := { stood := { row := passesTimeUptoRow, standIns := [], harness := (true, "1c6f1f43e0e089b609b28c57a2a94ecb3b2c9507018609bc87c6423c5de0f782"), looks := true }, kinds := [], alts := [], laidByText := true, laidKinds := [.data, .data, .data, .data, .sentinel, .sentinel, .data, .data, .pinned], laidTests := true, laidLooks := .later }
def PassesTimeUptoCardSaid : Prop := Claim7.holds Tryz.pinned (.plain (OpenSpec.upto passesTimeSpec)) passesTimeUptoCard
end Rows
end Go.Proofs.YtbalocjcbmkecaaGreatDoor
