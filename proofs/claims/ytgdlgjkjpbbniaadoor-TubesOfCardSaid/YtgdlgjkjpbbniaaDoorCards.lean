/-
  DERIVED. GIVEN WITH THE SEED: THE CARDS: each row of YtgdlgjkjpbbniaaDoorRows.lean that lists a variable, with what it lists TIED to the program's text (the seventh form; the later family's looks); each row that meets fmt, with fmt's text TOLD by the authors' own Lean function (tested against real Go, not proved from fmt's source: count such statements apart). THE CARD IS WHAT COUNTS. Prove the row's statement (the work); the ties are given (YtgdlgjkjpbbniaaDoorTie.lean); close each card by the builder's one call (the guide's Derived/Test/ToyasCard.lean, 'card_holds'). Laid BY PROGRAM, IN A SANDBOX (cutbox-door.mjs). By AI agents, Wed Nov 11 2026. No macro, syntax, notation, axiom, sorry.
-/
import Derived.Test.YtgdlgjkjpbbniaaDoorRows
import GoSem.ClaimSeven
namespace Go.Proofs.YtgdlgjkjpbbniaaDoor
namespace Rows

/-- THE TIED CARD OF 'ganseylaw21.TubesOf'. -/
def tubesOfCard : Claim7 := { stood := { row := tubesOfRow, standIns := [], harness := (true, "9a8005a43e6576ddb89ad329f3590184701f1b927073c3cc619ed8e9721a681e"), looks := true }, kinds := [], alts := [], laidByText := true, laidKinds := [.data, .data, .data, .data, .sentinel, .sentinel, .pinned], laidTests := true, laidLooks := .later }
def TubesOfCardSaid : Prop := Claim7.holds Tryd.pinned (.plain (OpenSpec.ofChange tubesOfSpec)) tubesOfCard

/-- THE TIED CARD OF 'ganseylaw21.TubesText'. -/
def tubesTextCard : Claim7 := { stood := { row := tubesTextRow, standIns := [], harness := (true, "9a8005a43e6576ddb89ad329f3590184701f1b927073c3cc619ed8e9721a681e"), looks := true }, kinds := [], alts := [], laidByText := true, laidKinds := [.data, .data, .data, .data, .sentinel, .sentinel, .pinned], laidTests := true, laidLooks := .later }
def TubesTextCardSaid : Prop := Claim7.holds Tryd.pinned (.plain (OpenSpec.ofChange tubesTextSpec)) tubesTextCard

/-- THE TIED CARD OF 'ganseylaw21.TubesErrors'. -/
def tubesErrorsCard : Claim7 := { stood := { row := tubesErrorsRow, standIns := [], harness := (true, "9a8005a43e6576ddb89ad329f3590184701f1b927073c3cc619ed8e9721a681e"), looks := true }, kinds := [], alts := [], laidByText := true, laidKinds := [.data, .data, .data, .data, .sentinel, .sentinel, .pinned], laidTests := true, laidLooks := .later }
def TubesErrorsCardSaid : Prop := Claim7.holds Tryd.pinned (.plain (OpenSpec.ofChange tubesErrorsSpec)) tubesErrorsCard

/-- THE TIED CARD OF 'ganseylaw21.TubesTurn'. -/
def tubesTurnCard : Claim7 := { stood := { row := tubesTurnRow, standIns := [], harness := (true, "9a8005a43e6576ddb89ad329f3590184701f1b927073c3cc619ed8e9721a681e"), looks := true }, kinds := [], alts := [], laidByText := true, laidKinds := [.data, .data, .data, .data, .sentinel, .sentinel, .pinned], laidTests := true, laidLooks := .later }
def TubesTurnCardSaid : Prop := Claim7.holds Tryd.pinned (.plain (OpenSpec.ofChange tubesTurnSpec)) tubesTurnCard

/-- THE SECOND FORM's CARD OF 'ganseylaw21.TubesOf'. -/
def tubesOfUptoCard : Claim7 := { stood := { row := tubesOfUptoRow, standIns := [], harness := (true, "9a8005a43e6576ddb89ad329f3590184701f1b927073c3cc619ed8e9721a681e"), looks := true }, kinds := [], alts := [], laidByText := true, laidKinds := [.data, .data, .data, .data, .sentinel, .sentinel, .pinned], laidTests := true, laidLooks := .later }
def TubesOfUptoCardSaid : Prop := Claim7.holds Tryd.pinned (.plain (OpenSpec.upto tubesOfSpec)) tubesOfUptoCard

/-- THE SECOND FORM's CARD OF 'ganseylaw21.TubesText'. -/
def tubesTextUptoCard : Claim7 := { stood := { row := tubesTextUptoRow, standIns := [], harness := (true, "9a8005a43e6576ddb89ad329f3590184701f1b927073c3cc619ed8e9721a681e"), looks := true }, kinds := [], alts := [], laidByText := true, laidKinds := [.data, .data, .data, .data, .sentinel, .sentinel, .pinned], laidTests := true, laidLooks := .later }
def TubesTextUptoCardSaid : Prop := Claim7.holds Tryd.pinned (.plain (OpenSpec.upto tubesTextSpec)) tubesTextUptoCard

/-- THE SECOND FORM's CARD OF 'ganseylaw21.TubesErrors'. -/
def tubesErrorsUptoCard : Claim7 := { stood := { row := tubesErrorsUptoRow, standIns := [], harness := (true, "9a8005a43e6576ddb89ad329f3590184701f1b927073c3cc619ed8e9721a681e"), looks := true }, kinds := [], alts := [], laidByText := true, laidKinds := [.data, .data, .data, .data, .sentinel, .sentinel, .pinned], laidTests := true, laidLooks := .later }
def TubesErrorsUptoCardSaid : Prop := Claim7.holds Tryd.pinned (.plain (OpenSpec.upto tubesErrorsSpec)) tubesErrorsUptoCard

/-- THE SECOND FORM's CARD OF 'ganseylaw21.TubesTurn'. -/
def tubesTurnUptoCard : Claim7 := { stood := { row := tubesTurnUptoRow, standIns := [], harness := (true, "9a8005a43e6576ddb89ad329f3590184701f1b927073c3cc619ed8e9721a681e"), looks := true }, kinds := [], alts := [], laidByText := true, laidKinds := [.data, .data, .data, .data, .sentinel, .sentinel, .pinned], laidTests := true, laidLooks := .later }
def TubesTurnUptoCardSaid : Prop := Claim7.holds Tryd.pinned (.plain (OpenSpec.upto tubesTurnSpec)) tubesTurnUptoCard
end Rows
end Go.Proofs.YtgdlgjkjpbbniaaDoor
