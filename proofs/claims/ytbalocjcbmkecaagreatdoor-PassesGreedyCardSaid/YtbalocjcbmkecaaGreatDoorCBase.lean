/- What the cards of this seat share. Conditions: none. -/
import Derived.Test.YtbalocjcbmkecaaGreatDoorW2
import Derived.Test.YtbalocjcbmkecaaGreatDoorCards
import Derived.Test.YtbalocjcbmkecaaGreatDoorTie
import Derived.Test.YtbalocjcbmkecaaGreatDoorXCard
import Derived.Test.YtbalocjcbmkecaaGreatDoorXLaid
import Derived.Test.YtbalocjcbmkecaaGreatDoorShelf
import Derived.ChangeMaps5
set_option linter.unusedVariables false
set_option linter.unusedSimpArgs false
namespace Go.Proofs.YtbalocjcbmkecaaGreatDoor
open Go.ChangeShapes Go.WideShapes Go.ChangeAt Go.RowKit Go.Lw

theorem own : ownKnob Tryz.prog.godebug = none := by kernel_rfl
theorem laidOut : laidOutB Tryz.prog = true := by kernel_rfl
def laidL : List (String × DataW Unit) := [("math/bits.deBruijn32tab", Rows.laid_math_bits_deBruijn32tab), ("math/bits.deBruijn64tab", Rows.laid_math_bits_deBruijn64tab), ("internal/strconv.uint64pow10", Rows.laid_internal_strconv_uint64pow10), ("unicode/utf8.acceptRanges", Rows.laid_unicode_utf8_acceptRanges), ("strconv.ErrRange", Rows.laid_strconv_ErrRange), ("strconv.ErrSyntax", Rows.laid_strconv_ErrSyntax), ("gansey/operations.words", Rows.laid_gansey_operations_words), ("gansey/operations.dirs", Rows.laid_gansey_operations_dirs), ("unicode/utf8.first", Rows.laid_unicode_utf8_first)]
theorem strs_at {n : String} {zs : List (List UInt8)} {W : World} {l : List (String × DataW Unit)} {ps : List MemPlace} {g t m : Nat} (hL : DataW.LaidVars Tryz.prog W l ps) (hm : (n, .agg (zs.map fun z => .lit (.string z))) ∈ l) (hg : Tryz.prog.globalNamed n = some g) (hty : (Tryz.prog.globals[g]?).map (·.type) = some t)
    (ht : Tryz.prog.underlying t = some (.array m 9)) (hct : Tryz.prog.cellsOf t = m) : Cells W ⟨g, 0, none⟩ (zs.map S) := by
  obtain ⟨g', t', cs, fuel, p, e1, e2, e3, e4⟩ := laid_at hL hm
  cases hg.symm.trans e1
  cases hty.symm.trans e2
  have hc := cells_of_strs ht Tryz.underlying9 (by kernel_rfl) hct e4
  intro j u hu
  rw [lit_add, Nat.zero_add, World.var?_cell hg e3 j, ← Array.getElem?_toList, hc]; exact hu
theorem err_at {n nm : String} {d : DataW Unit} {W : World} {l : List (String × DataW Unit)} {ps : List MemPlace} {g : Nat} (hL : DataW.LaidVars Tryz.prog W l ps) (hm : (n, .iface nm d) ∈ l) (hg : Tryz.prog.globalNamed n = some g) (hty : (Tryz.prog.globals[g]?).map (·.type) = some 108) : ∃ te pe, W.cell? ⟨g, 0, none⟩ = some (.iface te pe) := by
  obtain ⟨g', t', cs, fuel, p, e1, e2, e3, e4⟩ := laid_at hL hm
  cases hg.symm.trans e1
  cases hty.symm.trans e2
  obtain ⟨u, v, hc⟩ := iface_of Tryz.underlying108 e4
  exact ⟨u, v, by rw [World.var?_cell hg e3 0, ← Array.getElem?_toList, hc]; rfl⟩
theorem glob_of {W : World} (h : laidMetH Tryz.prog laidL W) (hSh : W.ShapedOpen Tryz.prog) : Glob W := by
  have h' : laidMet Tryz.prog laidL W := h
  obtain ⟨ps, hL, _, _⟩ := h'
  refine ⟨?_, ?_, (Go.Proofs.cell_of_shapedOpen_int (zero := #[.int .i64 0]) (t := 3) hSh (of_decide_eq_true (by kernel_rfl)) (by kernel_rfl) rfl (by kernel_rfl) (by kernel_rfl) Tryz.underlying3), ?_, ?_, ?_, ?_⟩
  · exact strs_at (zs := wordsL) (n := "gansey/operations.words") (t := 95) (m := 9) hL (by simp [laidL]; rfl) (by kernel_rfl) (by kernel_rfl) Tryz.underlying95 (by kernel_rfl)
  · exact strs_at (zs := dirsL) (n := "gansey/operations.dirs") (t := 101) (m := 2) hL (by simp [laidL]; rfl) (by kernel_rfl) (by kernel_rfl) Tryz.underlying101 (by kernel_rfl)
  · obtain ⟨g', t', cs, fuel, p, e1, e2, e3, e4⟩ := laid_at (n := "internal/strconv.uint64pow10") (d := Rows.laid_internal_strconv_uint64pow10) hL (by simp [laidL])
    cases gPow.symm.trans e1
    cases (show (Tryz.prog.globals[7]?).map (·.type) = some 150 by kernel_rfl).symm.trans e2
    unfold Lib.TabIs
    rw [e3]
    have := Lib.cells_of_tab (zs := Lib.pow10Tab) Tryz.underlying150 Tryz.underlying135 (by kernel_rfl) (by kernel_rfl) e4
    rw [← this]
  · exact err_at (n := "strconv.ErrSyntax") hL (by unfold laidL; simp only [Rows.laid_strconv_ErrSyntax]; simp; exact ⟨rfl, rfl⟩) (by kernel_rfl) (by kernel_rfl)
  · exact err_at (n := "strconv.ErrRange") hL (by unfold laidL; simp only [Rows.laid_strconv_ErrRange]; simp; exact ⟨rfl, rfl⟩) (by kernel_rfl) (by kernel_rfl)
  · obtain ⟨g', t', cs, fuel, p, e1, e2, e3, e4⟩ := laid_at (n := "math/bits.deBruijn64tab") (d := Rows.laid_math_bits_deBruijn64tab) hL (by simp [laidL])
    have := var_lt (show Tryz.prog.globalNamed "math/bits.deBruijn64tab" = some 9 by kernel_rfl) e3
    omega
def plainL : List (String × DataW Unit) := laidL.filter fun p => match p.2 with | .iface _ _ => false | _ => true
noncomputable def witP (os : Os) : World := laidW Tryz.prog os plainL
theorem wf_u8 {n : Int} (h : (Lit.int .u8 n).wf = true) : 0 ≤ n ∧ n ≤ 255 := by
  have h' : IntKind.u8.min ≤ n ∧ n ≤ IntKind.u8.max := by simpa [Lit.wf] using h
  exact h'
noncomputable def layErr (w : World) (g : Nat) (s : List UInt8) : World := layW (w.alloc (.cells #[.string ⟨s.toArray⟩] 157)) g #[.iface 155 (.pointer (some ⟨w.heap.size, 0, none⟩))]
noncomputable def witW (os : Os) : World := layErr (layErr (witP os) 6 [118, 97, 108, 117, 101, 32, 111, 117, 116, 32, 111, 102, 32, 114, 97, 110, 103, 101]) 5 [105, 110, 118, 97, 108, 105, 100, 32, 115, 121, 110, 116, 97, 120]

end Go.Proofs.YtbalocjcbmkecaaGreatDoor
