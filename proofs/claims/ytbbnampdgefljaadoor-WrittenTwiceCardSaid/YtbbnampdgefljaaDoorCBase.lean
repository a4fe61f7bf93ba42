/- What the cards of this seat share: the table of symbols as the row lays it; a world for the witnesses. Conditions: none. -/
import Derived.Test.YtbbnampdgefljaaDoorW12
import Derived.Test.YtbbnampdgefljaaDoorCards
import Derived.Test.YtbbnampdgefljaaDoorTie
import Derived.Test.YtbbnampdgefljaaDoorXCard
import Derived.ChangeMaps5
set_option linter.unusedVariables false
set_option linter.unusedSimpArgs false
namespace Go.Proofs.YtbbnampdgefljaaDoor
open Go.ChangeShapes Go.WideShapes Go.ChangeAt Go.RowKit Go.Lw Go.G14

theorem own : ownKnob Tryd.prog.godebug = none := by kernel_rfl
theorem laidOut : laidOutB Tryd.prog = true := by kernel_rfl
theorem gSym : Tryd.prog.globalNamed "gansey/stitches.symbols" = some 0 := by kernel_rfl
theorem gSymT : (Tryd.prog.globals[0]?).map (·.type) = some 94 := by kernel_rfl
theorem cells94 : Tryd.prog.cellsOf 94 = 8 := by kernel_rfl
theorem cells5 : Tryd.prog.cellsOf 5 = 1 := by kernel_rfl
/-- What the rows list. -/
def laidL : List (String × DataW Unit) := [("gansey/stitches.symbols", Rows.laid_gansey_stitches_symbols), ("math/bits.deBruijn32tab", Rows.laid_math_bits_deBruijn32tab), ("math/bits.deBruijn64tab", Rows.laid_math_bits_deBruijn64tab), ("internal/strconv.uint64pow10", Rows.laid_internal_strconv_uint64pow10)]
theorem sym_of {W : World} (h : laidMetH Tryd.prog laidL W) : Sym W := by
  have ht : Lib.TabIs Tryd.prog W "gansey/stitches.symbols" .u8 [107, 112, 111, 47, 118, 116, 115, 99] :=
    Lib.tabIs_of_head (rest := laidL.drop 1) gSym gSymT Tryd.underlying94 Tryd.underlying5 cells5 cells94 h
  intro j u hu
  have hj : j < 8 := by
    have := (List.getElem?_eq_some_iff.1 hu).1
    rwa [show (symbols.flatMap Enc.b.enc).length = 8 from rfl] at this
  have hc := ht.cell gSym j hj
  rw [lit_add, Nat.zero_add, hc]
  match j, hj, hu with
  | 0, _, hu => exact hu
  | 1, _, hu => exact hu
  | 2, _, hu => exact hu
  | 3, _, hu => exact hu
  | 4, _, hu => exact hu
  | 5, _, hu => exact hu
  | 6, _, hu => exact hu
  | 7, _, hu => exact hu
noncomputable def witW (os : Os) : World := laidW Tryd.prog os laidL
end Go.Proofs.YtbbnampdgefljaaDoor
