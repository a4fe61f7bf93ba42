/-
  DERIVED. GIVEN WITH THE SEED: THE CARDS: each row of YtlfdhllfmoplgaaGreatDoorRows.lean that lists a variable, with what it lists TIED to the program's text (the seventh form; the later family's looks); each row that meets fmt, with fmt's text TOLD by the authors' own Lean function (tested against real Go, not proved from fmt's source: count such statements apart). THE CARD IS WHAT COUNTS. Prove the row's statement (the work); the ties are given (YtlfdhllfmoplgaaGreatDoorTie.lean); close each card by the builder's one call (the guide's Derived/Test/ToyasCard.lean, 'card_holds'). Laid BY PROGRAM, IN A SANDBOX (cutbox-door.mjs). By AI agents, Wed Nov 11 2026. No macro, syntax, notation, axiom, sorry.
-/
import Derived.Test.YtlfdhllfmoplgaaGreatDoorRows
import GoSem.ClaimSeven
namespace Go.Proofs.YtlfdhllfmoplgaaGreatDoor
namespace Rows

/-- THE TIED CARD OF 'ganseylaw26.PlansErrors'. -/
def plansErrorsCard : Claim7 := { stood := { row := plansErrorsRow, standIns := [], harness := (true, "65e4f3fb2722e06720aa054bf6e252d5631cdc08c95baa25e22be3ce65c9aba3"), looks := true }, kinds := [], alts := [], laidByText := true, laidKinds := [.data, .data, .data, .data, .sentinel, .sentinel, .data, .data, .data, .pinned], laidTests := true, laidLooks := .later }
def PlansErrorsCardSaid : Prop := Claim7.holds Tryz.pinned (.plain (OpenSpec.ofChange plansErrorsSpec)) plansErrorsCard

/-- THE TIED CARD OF 'ganseylaw26.PlansBraid'. -/
def plansBraidCard : Claim7 := { stood := { row := plansBraidRow, standIns := [], harness := (true, "65e4f3fb2722e06720aa054bf6e252d5631cdc08c95baa25e22be3ce65c9aba3"), looks := true }, kinds := [], alts := [], laidByText := true, laidKinds := [.data, .data, .data, .data, .sentinel, .sentinel, .data, .data, .data, .pinned], laidTests := true, laidLooks := .later }
def PlansBraidCardSaid : Prop := Claim7.holds Tryz.pinned (.plain (OpenSpec.ofChange plansBraidSpec)) plansBraidCard

/-- THE TIED CARD OF 'ganseylaw26.PlansIs'. -/
def plansIsCard : Claim7 := { stood := { row := plansIsRow, standIns := [], harness := (true, "65e4f3fb2722e06720aa054bf6e252d5631cdc08c95baa25e22be3ce65c9aba3"), looks := true }, kinds := [], alts := [], laidByText := true, laidKinds := [.data, .data, .data, .data, .sentinel, .sentinel, .data, .data, .data, .pinned], laidTests := true, laidLooks := .later }
def PlansIsCardSaid : Prop := Claim7.holds Tryz.pinned (.plain (OpenSpec.ofChange plansIsSpec)) plansIsCard

/-- THE SECOND FORM's CARD OF 'ganseylaw26.PlansErrors'. -/
def plansErrorsUptoCard : Claim7 := { stood := { row := plansErrorsUptoRow, standIns := [], harness := (true, "65e4f3fb2722e06720aa054bf6e252d5631cdc08c95baa25e22be3ce65c9aba3"), looks := true }, kinds := [], alts := [], laidByText := true, laidKinds := [.data, .data, .data, .data, .sentinel, .sentinel, .data, .data, .data, .pinned], laidTests := true, laidLooks := .later }
def PlansErrorsUptoCardSaid : Prop := Claim7.holds Tryz.pinned (.plain (OpenSpec.upto plansErrorsSpec)) plansErrorsUptoCard

/-- THE SECOND FORM's CARD OF 'ganseylaw26.PlansBraid'. -/
def plansBraidUptoCard : Claim7 := { stood := { row := plansBraidUptoRow, standIns := [], harness := (true, "65e4f3fb2722e06720aa054bf6e252d5631cdc08c95baa25e22be3ce65c9aba3"), looks := true }, kinds := [], alts := [], laidByText := true, laidKinds := [.data, .data, .data, .data, .sentinel, .sentinel, .data, .data, .data, .pinned], laidTests := true, laidLooks := .later }
def PlansBraidUptoCardSaid : Prop := Claim7.holds Tryz.pinned (.plain (OpenSpec.upto plansBraidSpec)) plansBraidUptoCard

/-- THE SECOND FORM's CARD OF 'ganseylaw26.PlansIs'. -/
def plansIsUptoCard : Claim7 := { stood := { row := plansIsUptoRow, standIns := [], harness := (true, "65e4f3fb2722e06720aa054bf6e252d5631cdc08c95baa25e22be3ce65c9aba3"), looks := true }, kinds := [], alts := [], laidByText := true, laidKinds := [.data, .data, .data, .data, .sentinel, .sentinel, .data, .data, .data, .pinned], laidTests := true, laidLooks := .later }
def PlansIsUptoCardSaid : Prop := Claim7.holds Tryz.pinned (.plain (OpenSpec.upto plansIsSpec)) plansIsUptoCard
end Rows
end Go.Proofs.YtlfdhllfmoplgaaGreatDoor
