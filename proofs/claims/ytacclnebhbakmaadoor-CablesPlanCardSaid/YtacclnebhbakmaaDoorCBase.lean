/- What the cards of this seat share. Conditions: none. -/
import Derived.Test.YtacclnebhbakmaaDoorW2
import Derived.Test.YtacclnebhbakmaaDoorCards
import Derived.Test.YtacclnebhbakmaaDoorTie
import Derived.Test.YtacclnebhbakmaaDoorXCard
import Derived.Test.YtacclnebhbakmaaDoorXLaid
import Derived.Test.YtacclnebhbakmaaDoorShelf
import Derived.ChangeMaps5
set_option linter.unusedVariables false
set_option linter.unusedSimpArgs false
namespace Go.Proofs.YtacclnebhbakmaaDoor
open Go.ChangeShapes Go.WideShapes Go.ChangeAt Go.RowKit Go.Lw

theorem own : ownKnob Tryd.prog.godebug = none := by kernel_rfl
theorem laidOut : laidOutB Tryd.prog = true := by kernel_rfl
def laidL : List (String × DataW Unit) := [("math/bits.deBruijn32tab", Rows.laid_math_bits_deBruijn32tab), ("math/bits.deBruijn64tab", Rows.laid_math_bits_deBruijn64tab), ("internal/strconv.uint64pow10", Rows.laid_internal_strconv_uint64pow10), ("gansey/operations.words", Rows.laid_gansey_operations_words), ("gansey/operations.dirs", Rows.laid_gansey_operations_dirs)]
theorem strs_at {n : String} {zs : List (List UInt8)} {W : World} {l : List (String × DataW Unit)} {ps : List MemPlace} {g t m : Nat} (hL : DataW.LaidVars Tryd.prog W l ps) (hm : (n, .agg (zs.map fun z => .lit (.string z))) ∈ l) (hg : Tryd.prog.globalNamed n = some g) (hty : (Tryd.prog.globals[g]?).map (·.type) = some t)
    (ht : Tryd.prog.underlying t = some (.array m 9)) (hct : Tryd.prog.cellsOf t = m) : Cells W ⟨g, 0, none⟩ (zs.map S) := by
  obtain ⟨g', t', cs, fuel, p, e1, e2, e3, e4⟩ := laid_at hL hm
  cases hg.symm.trans e1
  cases hty.symm.trans e2
  have hc := cells_of_strs ht Tryd.underlying9 (by kernel_rfl) hct e4
  intro j u hu
  rw [lit_add, Nat.zero_add, World.var?_cell hg e3 j, ← Array.getElem?_toList, hc]; exact hu
theorem glob_of {W : World} (h : laidMetH Tryd.prog laidL W) (hSh : W.ShapedOpen Tryd.prog) : Glob W := by
  have h' : laidMet Tryd.prog laidL W := h
  obtain ⟨ps, hL, _, _⟩ := h'
  refine ⟨?_, ?_, (Go.Proofs.cell_of_shapedOpen_int (zero := #[.int .i64 0]) (t := 3) hSh (of_decide_eq_true (by kernel_rfl)) (by kernel_rfl) rfl (by kernel_rfl) (by kernel_rfl) Tryd.underlying3), ?_, ?_⟩
  · exact strs_at (zs := wordsL) (n := "gansey/operations.words") (t := 78) (m := 9) hL (by simp [laidL]; rfl) (by kernel_rfl) (by kernel_rfl) Tryd.underlying78 (by kernel_rfl)
  · exact strs_at (zs := dirsL) (n := "gansey/operations.dirs") (t := 80) (m := 2) hL (by simp [laidL]; rfl) (by kernel_rfl) (by kernel_rfl) Tryd.underlying80 (by kernel_rfl)
  · obtain ⟨g', t', cs, fuel, p, e1, e2, e3, e4⟩ := laid_at (n := "internal/strconv.uint64pow10") (d := Rows.laid_internal_strconv_uint64pow10) hL (by simp [laidL])
    cases gPow.symm.trans e1
    cases (show (Tryd.prog.globals[2]?).map (·.type) = some 111 by kernel_rfl).symm.trans e2
    unfold Lib.TabIs
    rw [e3]
    have := Lib.cells_of_tab (zs := Lib.pow10Tab) Tryd.underlying111 Tryd.underlying102 (by kernel_rfl) (by kernel_rfl) e4
    rw [← this]
  · obtain ⟨g', t', cs, fuel, p, e1, e2, e3, e4⟩ := laid_at (n := "math/bits.deBruijn64tab") (d := Rows.laid_math_bits_deBruijn64tab) hL (by simp [laidL])
    have := var_lt (show Tryd.prog.globalNamed "math/bits.deBruijn64tab" = some 5 by kernel_rfl) e3
    omega
noncomputable def witW (os : Os) : World := laidW Tryd.prog os laidL

end Go.Proofs.YtacclnebhbakmaaDoor
