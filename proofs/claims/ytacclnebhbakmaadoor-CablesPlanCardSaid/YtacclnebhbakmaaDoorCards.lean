/-
  DERIVED. GIVEN WITH THE SEED: THE CARDS: each row of YtacclnebhbakmaaDoorRows.lean that lists a variable, with what it lists TIED to the program's text (the seventh form; the later family's looks); each row that meets fmt, with fmt's text TOLD by the authors' own Lean function (tested against real Go, not proved from fmt's source: count such statements apart). THE CARD IS WHAT COUNTS. Prove the row's statement (the work); the ties are given (YtacclnebhbakmaaDoorTie.lean); close each card by the builder's one call (the guide's Derived/Test/ToyasCard.lean, 'card_holds'). Laid BY PROGRAM, IN A SANDBOX (cutbox-door.mjs). By AI agents, Wed Nov 11 2026. No macro, syntax, notation, axiom, sorry.
-/
import Derived.Test.YtacclnebhbakmaaDoorRows
import GoSem.ClaimSeven
namespace Go.Proofs.YtacclnebhbakmaaDoor
namespace Rows

/-- THE TIED CARD OF 'ganseylaw28.CablesPlan'. -/
def cablesPlanCard : Claim7 := { stood := { row := cablesPlanRow, standIns := [], harness := (true, "4a844b27d111b40c16f9bc6758dd5f9e6c82a98e75ade9f3e926a09e976ffac6"), looks := false }, kinds := [], alts := [], laidByText := true, laidKinds := [.data, .data, .data, .data, .data], laidTests := true, laidLooks := .later }
def CablesPlanCardSaid : Prop := Claim7.holds Tryd.pinned (.plain (OpenSpec.ofChange cablesPlanSpec)) cablesPlanCard

/-- THE TIED CARD OF 'ganseylaw28.CablesErrors'. -/
def cablesErrorsCard : Claim7 := { stood := { row := cablesErrorsRow, standIns := [], harness := (true, "4a844b27d111b40c16f9bc6758dd5f9e6c82a98e75ade9f3e926a09e976ffac6"), looks := false }, kinds := [], alts := [], laidByText := true, laidKinds := [.data, .data, .data, .data, .data], laidTests := true, laidLooks := .later }
def CablesErrorsCardSaid : Prop := Claim7.holds Tryd.pinned (.plain (OpenSpec.ofChange cablesErrorsSpec)) cablesErrorsCard

/-- THE SECOND FORM's CARD OF 'ganseylaw28.CablesPlan'. -/
def cablesPlanUptoCard : Claim7 := { stood := { row := cablesPlanUptoRow, standIns := [], harness := (true, "4a844b27d111b40c16f9bc6758dd5f9e6c82a98e75ade9f3e926a09e976ffac6"), looks := false }, kinds := [], alts := [], laidByText := true, laidKinds := [.data, .data, .data, .data, .data], laidTests := true, laidLooks := .later }
def CablesPlanUptoCardSaid : Prop := Claim7.holds Tryd.pinned (.plain (OpenSpec.upto cablesPlanSpec)) cablesPlanUptoCard

/-- THE SECOND FORM's CARD OF 'ganseylaw28.CablesErrors'. -/
def cablesErrorsUptoCard : Claim7 := { stood := { row := cablesErrorsUptoRow, standIns := [], harness := (true, "4a844b27d111b40c16f9bc6758dd5f9e6c82a98e75ade9f3e926a09e976ffac6"), looks := false }, kinds := [], alts := [], laidByText := true, laidKinds := [.data, .data, .data, .data, .data], laidTests := true, laidLooks := .later }
def CablesErrorsUptoCardSaid : Prop := Claim7.holds Tryd.pinned (.plain (OpenSpec.upto cablesErrorsSpec)) cablesErrorsUptoCard
end Rows
end Go.Proofs.YtacclnebhbakmaaDoor
