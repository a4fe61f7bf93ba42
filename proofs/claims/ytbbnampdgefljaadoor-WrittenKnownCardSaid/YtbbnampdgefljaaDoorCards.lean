/-
  DERIVED. GIVEN WITH THE SEED: THE CARDS: each row of YtbbnampdgefljaaDoorRows.lean that lists a variable, with what it lists TIED to the program's text (the seventh form; the later family's looks); each row that meets fmt, with fmt's text TOLD by the authors' own Lean function (tested against real Go, not proved from fmt's source: count such statements apart). THE CARD IS WHAT COUNTS. Prove the row's statement (the work); the ties are given (YtbbnampdgefljaaDoorTie.lean); close each card by the builder's one call (the guide's Derived/Test/ToyasCard.lean, 'card_holds'). Laid BY PROGRAM, IN A SANDBOX (cutbox-door.mjs). By AI agents, Wed Nov 11 2026. No macro, syntax, notation, axiom, sorry.
-/
import Derived.Test.YtbbnampdgefljaaDoorRows
import GoSem.ClaimSeven
namespace Go.Proofs.YtbbnampdgefljaaDoor
namespace Rows

/-- THE TIED CARD OF 'ganseylaw14.WrittenExpand'. -/
def writtenExpandCard : Claim7 := { stood := { row := writtenExpandRow, standIns := [], harness := (true, "480c55a00f5f43f303dd8470afb4a1e23a5ca28c0733acb12846f953009d3145"), looks := false }, kinds := [], alts := [], laidByText := true, laidKinds := [.data, .data, .data, .data], laidTests := true, laidLooks := .later }
def WrittenExpandCardSaid : Prop := Claim7.holds Tryd.pinned (.plain (OpenSpec.ofChange writtenExpandSpec)) writtenExpandCard

/-- THE TIED CARD OF 'ganseylaw14.WrittenShorten'. -/
def writtenShortenCard : Claim7 := { stood := { row := writtenShortenRow, standIns := [], harness := (true, "480c55a00f5f43f303dd8470afb4a1e23a5ca28c0733acb12846f953009d3145"), looks := false }, kinds := [], alts := [], laidByText := true, laidKinds := [.data, .data, .data, .data], laidTests := true, laidLooks := .later }
def WrittenShortenCardSaid : Prop := Claim7.holds Tryd.pinned (.plain (OpenSpec.ofChange writtenShortenSpec)) writtenShortenCard

/-- THE TIED CARD OF 'ganseylaw14.WrittenLeast'. -/
def writtenLeastCard : Claim7 := { stood := { row := writtenLeastRow, standIns := [], harness := (true, "480c55a00f5f43f303dd8470afb4a1e23a5ca28c0733acb12846f953009d3145"), looks := false }, kinds := [], alts := [], laidByText := true, laidKinds := [.data, .data, .data, .data], laidTests := true, laidLooks := .later }
def WrittenLeastCardSaid : Prop := Claim7.holds Tryd.pinned (.plain (OpenSpec.ofChange writtenLeastSpec)) writtenLeastCard

/-- THE TIED CARD OF 'ganseylaw14.WrittenTwice'. -/
def writtenTwiceCard : Claim7 := { stood := { row := writtenTwiceRow, standIns := [], harness := (true, "480c55a00f5f43f303dd8470afb4a1e23a5ca28c0733acb12846f953009d3145"), looks := false }, kinds := [], alts := [], laidByText := true, laidKinds := [.data, .data, .data, .data], laidTests := true, laidLooks := .later }
def WrittenTwiceCardSaid : Prop := Claim7.holds Tryd.pinned (.plain (OpenSpec.ofChange writtenTwiceSpec)) writtenTwiceCard

/-- THE TIED CARD OF 'ganseylaw14.WrittenRead'. -/
def writtenReadCard : Claim7 := { stood := { row := writtenReadRow, standIns := [], harness := (true, "480c55a00f5f43f303dd8470afb4a1e23a5ca28c0733acb12846f953009d3145"), looks := false }, kinds := [], alts := [], laidByText := true, laidKinds := [.data, .data, .data, .data], laidTests := true, laidLooks := .later }
def WrittenReadCardSaid : Prop := Claim7.holds Tryd.pinned (.plain (OpenSpec.ofChange writtenReadSpec)) writtenReadCard

/-- THE TIED CARD OF 'ganseylaw14.WrittenChart'. -/
def writtenChartCard : Claim7 := { stood := { row := writtenChartRow, standIns := [], harness := (true, "480c55a00f5f43f303dd8470afb4a1e23a5ca28c0733acb12846f953009d3145"), looks := false }, kinds := [], alts := [], laidByText := true, laidKinds := [.data, .data, .data, .data], laidTests := true, laidLooks := .later }
def WrittenChartCardSaid : Prop := Claim7.holds Tryd.pinned (.plain (OpenSpec.ofChange writtenChartSpec)) writtenChartCard

/-- THE TIED CARD OF 'ganseylaw14.WrittenKnown'. -/
def writtenKnownCard : Claim7 := { stood := { row := writtenKnownRow, standIns := [], harness := (true, "480c55a00f5f43f303dd8470afb4a1e23a5ca28c0733acb12846f953009d3145"), looks := false }, kinds := [], alts := [], laidByText := true, laidKinds := [.data, .data, .data, .data], laidTests := true, laidLooks := .later }
def WrittenKnownCardSaid : Prop := Claim7.holds Tryd.pinned (.plain (OpenSpec.ofChange writtenKnownSpec)) writtenKnownCard

/-- THE SECOND FORM's CARD OF 'ganseylaw14.WrittenExpand'. -/
def writtenExpandUptoCard : Claim7 := { stood := { row := writtenExpandUptoRow, standIns := [], harness := (true, "480c55a00f5f43f303dd8470afb4a1e23a5ca28c0733acb12846f953009d3145"), looks := false }, kinds := [], alts := [], laidByText := true, laidKinds := [.data, .data, .data, .data], laidTests := true, laidLooks := .later }
def WrittenExpandUptoCardSaid : Prop := Claim7.holds Tryd.pinned (.plain (OpenSpec.upto writtenExpandSpec)) writtenExpandUptoCard

/-- THE SECOND FORM's CARD OF 'ganseylaw14.WrittenShorten'. -/
def writtenShortenUptoCard : Claim7 := { stood := { row := writtenShortenUptoRow, standIns := [], harness := (true, "480c55a00f5f43f303dd8470afb4a1e23a5ca28c0733acb12846f953009d3145"), looks := false }, kinds := [], alts := [], laidByText := true, laidKinds := [.data, .data, .data, .data], laidTests := true, laidLooks := .later }
def WrittenShortenUptoCardSaid : Prop := Claim7.holds Tryd.pinned (.plain (OpenSpec.upto writtenShortenSpec)) writtenShortenUptoCard

/-- THE SECOND FORM's CARD OF 'ganseylaw14.WrittenLeast'. -/
def writtenLeastUptoCard : Claim7 := { stood := { row := writtenLeastUptoRow, standIns := [], harness := (true, "480c55a00f5f43f303dd8470afb4a1e23a5ca28c0733acb12846f953009d3145"), looks := false }, kinds := [], alts := [], laidByText := true, laidKinds := [.data, .data, .data, .data], laidTests := true, laidLooks := .later }
def WrittenLeastUptoCardSaid : Prop := Claim7.holds Tryd.pinned (.plain (OpenSpec.upto writtenLeastSpec)) writtenLeastUptoCard

/-- THE SECOND FORM's CARD OF 'ganseylaw14.WrittenTwice'. -/
def writtenTwiceUptoCard : Claim7 := { stood := { row := writtenTwiceUptoRow, standIns := [], harness := (true, "480c55a00f5f43f303dd8470afb4a1e23a5ca28c0733acb12846f953009d3145"), looks := false }, kinds := [], alts := [], laidByText := true, laidKinds := [.data, .data, .data, .data], laidTests := true, laidLooks := .later }
def WrittenTwiceUptoCardSaid : Prop := Claim7.holds Tryd.pinned (.plain (OpenSpec.upto writtenTwiceSpec)) writtenTwiceUptoCard

/-- THE SECOND FORM's CARD OF 'ganseylaw14.WrittenRead'. -/
def writtenReadUptoCard : Claim7 := { stood := { row := writtenReadUptoRow, standIns := [], harness := (true, "480c55a00f5f43f303dd8470afb4a1e23a5ca28c0733acb12846f953009d3145"), looks := false }, kinds := [], alts := [], laidByText := true, laidKinds := [.data, .data, .data, .data], laidTests := true, laidLooks := .later }
def WrittenReadUptoCardSaid : Prop := Claim7.holds Tryd.pinned (.plain (OpenSpec.upto writtenReadSpec)) writtenReadUptoCard

/-- THE SECOND FORM's CARD OF 'ganseylaw14.WrittenChart'. -/
def writtenChartUptoCard : Claim7 := { stood := { row := writtenChartUptoRow, standIns := [], harness := (true, "480c55a00f5f43f303dd8470afb4a1e23a5ca28c0733acb12846f953009d3145"), looks := false }, kinds := [], alts := [], laidByText := true, laidKinds := [.data, .data, .data, .data], laidTests := true, laidLooks := .later }
def WrittenChartUptoCardSaid : Prop := Claim7.holds Tryd.pinned (.plain (OpenSpec.upto writtenChartSpec)) writtenChartUptoCard

/-- THE SECOND FORM's CARD OF 'ganseylaw14.WrittenKnown'. -/
def writtenKnownUptoCard : Claim7 := { stood := { row := writtenKnownUptoRow, standIns := [], harness := (true, "480c55a00f5f43f303dd8470afb4a1e23a5ca28c0733acb12846f953009d3145"), looks := false }, kinds := [], alts := [], laidByText := true, laidKinds := [.data, .data, .data, .data], laidTests := true, laidLooks := .later }
def WrittenKnownUptoCardSaid : Prop := Claim7.holds Tryd.pinned (.plain (OpenSpec.upto writtenKnownSpec)) writtenKnownUptoCard
end Rows
end Go.Proofs.YtbbnampdgefljaaDoor
