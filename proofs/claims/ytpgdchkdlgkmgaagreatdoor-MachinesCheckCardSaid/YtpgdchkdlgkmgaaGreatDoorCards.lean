/-
  DERIVED. GIVEN WITH THE SEED: THE CARDS: each row of YtpgdchkdlgkmgaaGreatDoorRows.lean that lists a variable, with what it lists TIED to the program's text (the seventh form; the later family's looks); each row that meets fmt, with fmt's text TOLD by the authors' own Lean function (tested against real Go, not proved from fmt's source: count such statements apart). THE CARD IS WHAT COUNTS. Prove the row's statement (the work); the ties are given (YtpgdchkdlgkmgaaGreatDoorTie.lean); close each card by the builder's one call (the guide's Derived/Test/ToyasCard.lean, 'card_holds'). Laid BY PROGRAM, IN A SANDBOX (cutbox-door.mjs). By AI agents, Wed Nov 11 2026. No macro, syntax, notation, axiom, sorry.
-/
import Derived.Test.YtpgdchkdlgkmgaaGreatDoorRows
import GoSem.ClaimSeven
namespace Go.Proofs.YtpgdchkdlgkmgaaGreatDoor
namespace Rows

/-- THE TIED CARD OF 'ganseylaw08.MachinesLimit'. -/
def machinesLimitCard : Claim7 := { stood := { row := machinesLimitRow, standIns := [], harness := (true, "99201d3100ff0d695d8ea896a173961feabd4130d85e5e56af4af17c0a2eddbb"), looks := true }, kinds := [], alts := [], laidByText := true, laidKinds := [.data, .data, .data, .data, .sentinel, .sentinel, .data, .data, .data, .pinned], laidTests := true, laidLooks := .later }
def MachinesLimitCardSaid : Prop := Claim7.holds Tryz.pinned (.plain (OpenSpec.ofChange machinesLimitSpec)) machinesLimitCard

/-- THE TIED CARD OF 'ganseylaw08.MachinesRun'. -/
def machinesRunCard : Claim7 := { stood := { row := machinesRunRow, standIns := [], harness := (true, "99201d3100ff0d695d8ea896a173961feabd4130d85e5e56af4af17c0a2eddbb"), looks := true }, kinds := [], alts := [], laidByText := true, laidKinds := [.data, .data, .data, .data, .sentinel, .sentinel, .data, .data, .data, .pinned], laidTests := true, laidLooks := .later }
def MachinesRunCardSaid : Prop := Claim7.holds Tryz.pinned (.plain (OpenSpec.ofChange machinesRunSpec)) machinesRunCard

/-- THE TIED CARD OF 'ganseylaw08.MachinesStep'. -/
def machinesStepCard : Claim7 := { stood := { row := machinesStepRow, standIns := [], harness := (true, "99201d3100ff0d695d8ea896a173961feabd4130d85e5e56af4af17c0a2eddbb"), looks := true }, kinds := [], alts := [], laidByText := true, laidKinds := [.data, .data, .data, .data, .sentinel, .sentinel, .data, .data, .data, .pinned], laidTests := true, laidLooks := .later }
def MachinesStepCardSaid : Prop := Claim7.holds Tryz.pinned (.plain (OpenSpec.ofChange machinesStepSpec)) machinesStepCard

/-- THE TIED CARD OF 'ganseylaw08.MachinesBack'. -/
def machinesBackCard : Claim7 := { stood := { row := machinesBackRow, standIns := [], harness := (true, "99201d3100ff0d695d8ea896a173961feabd4130d85e5e56af4af17c0a2eddbb"), looks := true }, kinds := [], alts := [], laidByText := true, laidKinds := [.data, .data, .data, .data, .sentinel, .sentinel, .data, .data, .data, .pinned], laidTests := true, laidLooks := .later }
def MachinesBackCardSaid : Prop := Claim7.holds Tryz.pinned (.plain (OpenSpec.ofChange machinesBackSpec)) machinesBackCard

/-- THE TIED CARD OF 'ganseylaw08.MachinesExchange'. -/
def machinesExchangeCard : Claim7 := { stood := { row := machinesExchangeRow, standIns := [], harness := (true, "99201d3100ff0d695d8ea896a173961feabd4130d85e5e56af4af17c0a2eddbb"), looks := true }, kinds := [], alts := [], laidByText := true, laidKinds := [.data, .data, .data, .data, .sentinel, .sentinel, .data, .data, .data, .pinned], laidTests := true, laidLooks := .later }
def MachinesExchangeCardSaid : Prop := Claim7.holds Tryz.pinned (.plain (OpenSpec.ofChange machinesExchangeSpec)) machinesExchangeCard

/-- THE TIED CARD OF 'ganseylaw08.MachinesCheck'. -/
def machinesCheckCard : Claim7 := { stood := { row := machinesCheckRow, standIns := [], harness := (true, "99201d3100ff0d695d8ea896a173961feabd4130d85e5e56af4af17c0a2eddbb"), looks := true }, kinds := [], alts := [], laidByText := true, laidKinds := [.data, .data, .data, .data, .sentinel, .sentinel, .data, .data, .data, .pinned], laidTests := true, laidLooks := .later }
def MachinesCheckCardSaid : Prop := Claim7.holds Tryz.pinned (.plain (OpenSpec.ofChange machinesCheckSpec)) machinesCheckCard

/-- THE SECOND FORM's CARD OF 'ganseylaw08.MachinesLimit'. -/
def machinesLimitUptoCard : Claim7 := { stood := { row := machinesLimitUptoRow, standIns := [], harness := (true, "99201d3100ff0d695d8ea896a173961feabd4130d85e5e56af4af17c0a2eddbb"), looks := true }, kinds := [], alts := [], laidByText := true, laidKinds := [.data, .data, .data, .data, .sentinel, .sentinel, .data, .data, .data, .pinned], laidTests := true, laidLooks := .later }
def MachinesLimitUptoCardSaid : Prop := Claim7.holds Tryz.pinned (.plain (OpenSpec.upto machinesLimitSpec)) machinesLimitUptoCard

/-- THE SECOND FORM's CARD OF 'ganseylaw08.MachinesRun'. -/
def machinesRunUptoCard : Claim7 := { stood := { row := machinesRunUptoRow, standIns := [], harness := (true, "99201d3100ff0d695d8ea896a173961feabd4130d85e5e56af4af17c0a2eddbb"), looks := true }, kinds := [], alts := [], laidByText := true, laidKinds := [.data, .data, .data, .data, .sentinel, .sentinel, .data, .data, .data, .pinned], laidTests := true, laidLooks := .later }
def MachinesRunUptoCardSaid : Prop := Claim7.holds Tryz.pinned (.plain (OpenSpec.upto machinesRunSpec)) machinesRunUptoCard

/-- THE SECOND FORM's CARD OF 'ganseylaw08.MachinesStep'. -/
def machinesStepUptoCard : Claim7 := { stood := { row := machinesStepUptoRow, standIns := [], harness := (true, "99201d3100ff0d695d8ea896a173961feabd4130d85e5e56af4af17c0a2eddbb"), looks := true }, kinds := [], alts := [], laidByText := true, laidKinds := [.data, .data, .data, .data, .sentinel, .sentinel, .data, .data, .data, .pinned], laidTests := true, laidLooks := .later }
def MachinesStepUptoCardSaid : Prop := Claim7.holds Tryz.pinned (.plain (OpenSpec.upto machinesStepSpec)) machinesStepUptoCard

/-- THE SECOND FORM's CARD OF 'ganseylaw08.MachinesBack'. -/
def machinesBackUptoCard : Claim7 := { stood := { row := machinesBackUptoRow, standIns := [], harness := (true, "99201d3100ff0d695d8ea896a173961feabd4130d85e5e56af4af17c0a2eddbb"), looks := true }, kinds := [], alts := [], laidByText := true, laidKinds := [.data, .data, .data, .data, .sentinel, .sentinel, .data, .data, .data, .pinned], laidTests := true, laidLooks := .later }
def MachinesBackUptoCardSaid : Prop := Claim7.holds Tryz.pinned (.plain (OpenSpec.upto machinesBackSpec)) machinesBackUptoCard

/-- THE SECOND FORM's CARD OF 'ganseylaw08.MachinesExchange'. -/
def machinesExchangeUptoCard : Claim7 := { stood := { row := machinesExchangeUptoRow, standIns := [], harness := (true, "99201d3100ff0d695d8ea896a173961feabd4130d85e5e56af4af17c0a2eddbb"), looks := true }, kinds := [], alts := [], laidByText := true, laidKinds := [.data, .data, .data, .data, .sentinel, .sentinel, .data, .data, .data, .pinned], laidTests := true, laidLooks := .later }
def MachinesExchangeUptoCardSaid : Prop := Claim7.holds Tryz.pinned (.plain (OpenSpec.upto machinesExchangeSpec)) machinesExchangeUptoCard

/-- THE SECOND FORM's CARD OF 'ganseylaw08.MachinesCheck'. -/
def machinesCheckUptoCard : Claim7 := { stood := { row := machinesCheckUptoRow, standIns := [], harness := (true, "99201d3100ff0d695d8ea896a173961feabd4130d85e5e56af4af17c0a2eddbb"), looks := true }, kinds := [], alts := [], laidByText := true, laidKinds := [.data, .data, .data, .data, .sentinel, .sentinel, .data, .data, .data, .pinned], laidTests := true, laidLooks := .later }
def MachinesCheckUptoCardSaid : Prop := Claim7.holds Tryz.pinned (.plain (OpenSpec.upto machinesCheckSpec)) machinesCheckUptoCard
end Rows
end Go.Proofs.YtpgdchkdlgkmgaaGreatDoor
