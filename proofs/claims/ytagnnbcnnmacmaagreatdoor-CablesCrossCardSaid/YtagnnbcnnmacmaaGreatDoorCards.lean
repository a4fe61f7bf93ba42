/-
  DERIVED. GIVEN WITH THE SEED: THE CARDS: each row of YtagnnbcnnmacmaaGreatDoorRows.lean that lists a variable, with what it lists TIED to the program's text (the seventh form; the later family's looks); each row that meets fmt, with fmt's text TOLD by the authors' own Lean function (tested against real Go, not proved from fmt's source: count such statements apart). THE CARD IS WHAT COUNTS. Prove the row's statement (the work); the ties are given (YtagnnbcnnmacmaaGreatDoorTie.lean); close each card by the builder's one call (the guide's Derived/Test/ToyasCard.lean, 'card_holds'). Laid BY PROGRAM, IN A SANDBOX (cutbox-door.mjs). By AI agents, Wed Nov 11 2026. No macro, syntax, notation, axiom, sorry.
-/
import Derived.Test.YtagnnbcnnmacmaaGreatDoorRows
import GoSem.ClaimSeven
namespace Go.Proofs.YtagnnbcnnmacmaaGreatDoor
namespace Rows

/-- THE TIED CARD OF 'ganseylaw28.CablesCross'. -/
def cablesCrossCard : Claim7 := { stood := { row := cablesCrossRow, standIns := [], harness := (true, "7ccfbcca4e66ae51a588f7d6a4895f97e24155faf55863aba879ff1470fd6466"), looks := false }, kinds := [], alts := [], laidByText := true, laidKinds := [.data, .data, .data, .data, .data, .data], laidTests := true, laidLooks := .later }
def CablesCrossCardSaid : Prop := Claim7.holds Tryz.pinned (.plain (OpenSpec.ofChange cablesCrossSpec)) cablesCrossCard

/-- THE TIED CARD OF 'ganseylaw28.CablesBack'. -/
def cablesBackCard : Claim7 := { stood := { row := cablesBackRow, standIns := [], harness := (true, "7ccfbcca4e66ae51a588f7d6a4895f97e24155faf55863aba879ff1470fd6466"), looks := false }, kinds := [], alts := [], laidByText := true, laidKinds := [.data, .data, .data, .data, .data, .data], laidTests := true, laidLooks := .later }
def CablesBackCardSaid : Prop := Claim7.holds Tryz.pinned (.plain (OpenSpec.ofChange cablesBackSpec)) cablesBackCard

/-- THE TIED CARD OF 'ganseylaw28.CablesWord'. -/
def cablesWordCard : Claim7 := { stood := { row := cablesWordRow, standIns := [], harness := (true, "7ccfbcca4e66ae51a588f7d6a4895f97e24155faf55863aba879ff1470fd6466"), looks := false }, kinds := [], alts := [], laidByText := true, laidKinds := [.data, .data, .data, .data, .data, .data], laidTests := true, laidLooks := .later }
def CablesWordCardSaid : Prop := Claim7.holds Tryz.pinned (.plain (OpenSpec.ofChange cablesWordSpec)) cablesWordCard

/-- THE SECOND FORM's CARD OF 'ganseylaw28.CablesCross'. -/
def cablesCrossUptoCard : Claim7 := { stood := { row := cablesCrossUptoRow, standIns := [], harness := (true, "7ccfbcca4e66ae51a588f7d6a4895f97e24155faf55863aba879ff1470fd6466"), looks := false }, kinds := [], alts := [], laidByText := true, laidKinds := [.data, .data, .data, .data, .data, .data], laidTests := true, laidLooks := .later }
def CablesCrossUptoCardSaid : Prop := Claim7.holds Tryz.pinned (.plain (OpenSpec.upto cablesCrossSpec)) cablesCrossUptoCard

/-- THE SECOND FORM's CARD OF 'ganseylaw28.CablesBack'. -/
def cablesBackUptoCard : Claim7 := { stood := { row := cablesBackUptoRow, standIns := [], harness := (true, "7ccfbcca4e66ae51a588f7d6a4895f97e24155faf55863aba879ff1470fd6466"), looks := false }, kinds := [], alts := [], laidByText := true, laidKinds := [.data, .data, .data, .data, .data, .data], laidTests := true, laidLooks := .later }
def CablesBackUptoCardSaid : Prop := Claim7.holds Tryz.pinned (.plain (OpenSpec.upto cablesBackSpec)) cablesBackUptoCard

/-- THE SECOND FORM's CARD OF 'ganseylaw28.CablesWord'. -/
def cablesWordUptoCard : Claim7 := { stood := { row := cablesWordUptoRow, standIns := [], harness := (true, "7ccfbcca4e66ae51a588f7d6a4895f97e24155faf55863aba879ff1470fd6466"), looks := false }, kinds := [], alts := [], laidByText := true, laidKinds := [.data, .data, .data, .data, .data, .data], laidTests := true, laidLooks := .later }
def CablesWordUptoCardSaid : Prop := Claim7.holds Tryz.pinned (.plain (OpenSpec.upto cablesWordSpec)) cablesWordUptoCard
end Rows
end Go.Proofs.YtagnnbcnnmacmaaGreatDoor
