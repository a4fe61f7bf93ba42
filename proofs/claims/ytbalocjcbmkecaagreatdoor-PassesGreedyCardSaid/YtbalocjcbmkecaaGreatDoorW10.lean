/- Walks. -/
import Derived.Test.YtbalocjcbmkecaaGreatDoorRows
import Derived.Test.YtbalocjcbmkecaaGreatDoorW9
import Derived.Test.YtbalocjcbmkecaaGreatDoorXOp
import Derived.Test.YtbalocjcbmkecaaGreatDoorXMap
set_option linter.unusedVariables false
set_option linter.unusedSimpArgs false
namespace Go.Proofs.YtbalocjcbmkecaaGreatDoor
open Go.Lw

theorem eqOp : EqOf Tryz.prog 41 opF := by
  intro e f ox oy w
  have hg : ∀ op, (eqGuard op 41 ox oy (opF e) (opF f)).run Tryz.prog w = .ok () w := fun op => run_eqGuard_agg w op 41 ox oy _ _ (by kernel_rfl)
  have h1 : Tryz.prog.stoodInHeld 41 = false := by kernel_rfl
  have h2 : Tryz.prog.stoodInHeld 39 = false := by kernel_rfl
  obtain ⟨k, d, b, p, y, r⟩ := e
  obtain ⟨k', d', b', p', y', r'⟩ := f
  refine ⟨hg _, hg _, ?_, ?_⟩
  · unfold opF opV
    simp [go_sem, h1, h2, Tryz.underlying41, Tryz.underlying39]
    (repeat' split) <;> simp_all
  · unfold opF opV
    simp [go_sem, h1, h2, Tryz.underlying41, Tryz.underlying39]
    (repeat' split) <;> simp_all
theorem lv0 : parseS [105, 110, 32, 51, 32, 108, 101, 102, 116] = (⟨1, 0, 0, 0, 3, 0⟩, 0) := by decide +kernel
theorem lv1 : parseS [114, 97, 99, 107, 32, 45, 50] = (⟨3, 0, 0, 0, 0, -2⟩, 0) := by decide +kernel
theorem lv2 : parseS [107, 110, 105, 116, 32, 114, 105, 103, 104, 116, 32, 102, 52, 32, 51] = (⟨4, 1, 0, 4, 3, 0⟩, 0) := by decide +kernel
theorem lv3 : parseS [120, 102, 101, 114, 32, 98, 49, 50] = (⟨7, 0, 1, 12, 0, 0⟩, 0) := by decide +kernel
theorem lv4 : parseS [111, 117, 116, 32, 54] = (⟨2, 0, 0, 0, 6, 0⟩, 0) := by decide +kernel
def badL : List (List UInt8) := [[114, 97, 99, 107, 32, 53], [114, 97, 99, 107, 32, 45, 48], [107, 110, 105, 116, 32, 102, 52, 32, 51], [105, 110, 32, 48, 55, 32, 108, 101, 102, 116]]
theorem bad_len : ∀ i, i < 4 → (badL.getD i []).length ≤ 1000000 := by decide
theorem bad_all : ∀ i, i < 4 → parseS (badL.getD i []) = (op0, 4) := by decide +kernel
theorem lvp : progS [32, 32, 114, 97, 99, 107, 32, 49, 32, 35, 32, 97, 32, 114, 101, 109, 97, 114, 107, 10, 10, 100, 114, 111, 112, 32, 102, 49] = ([⟨3, 0, 0, 0, 0, 1⟩, ⟨8, 0, 0, 1, 0, 0⟩], 0, 0) := by decide +kernel
theorem lvq : progS [114, 97, 99, 107, 32, 49, 10, 114, 97, 99, 107] = ([], 2, 4) := by decide +kernel
theorem lvA : chkO ⟨3, 0, 0, 0, 0, 5⟩ = 11 := by decide +kernel
theorem lvB : chkO ⟨3, 0, 0, 0, 1, 5⟩ = 1 := by decide +kernel
end Go.Proofs.YtbalocjcbmkecaaGreatDoor
