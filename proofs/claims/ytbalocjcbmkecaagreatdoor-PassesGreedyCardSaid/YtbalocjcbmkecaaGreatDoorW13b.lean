/- Walks. -/
import Derived.Test.YtbalocjcbmkecaaGreatDoorRows
import Derived.Test.YtbalocjcbmkecaaGreatDoorW13
import Derived.Test.YtbalocjcbmkecaaGreatDoorXOp
import Derived.Test.YtbalocjcbmkecaaGreatDoorXMap
import Derived.Test.YtbalocjcbmkecaaGreatDoorXOpTxt
set_option linter.unusedVariables false
set_option linter.unusedSimpArgs false
namespace Go.Proofs.YtbalocjcbmkecaaGreatDoor
open Go.Lw

theorem getD_mid {a b : List MOp} {o : MOp} {k : Nat} (h : a.length = k) : (a ++ o :: b).getD k op0 = o := by
  subst h; simp [List.getD]
theorem pof2 {xs os : List MOp} (h : os = xs.map ofO) (v : Value) (w0 : World) (hs : Sl encOX w0 v xs) (hb : ∀ x ∈ xs, x.Bytes) (hl : xs.length ≤ 1000) : Rets Tryz.prog 6 #[v] w0 fun r w' => ∃ A c, r = .slice A os.length c ∧ Lw.Own encOp 41 w0.heap.size w' r os ∧ Fr [] w0 w' := by rw [h]; exact pof_ok v xs w0 hs hb hl
theorem all_getD {os : List MOp} (h : ∀ o ∈ os, chkO o = 0) (i : Nat) (hi : i < os.length) : chkO (os.getD i op0) = 0 := h _ (by rw [List.getD, List.getElem?_eq_getElem hi]; exact List.getElem_mem _)
theorem of_all {xs : List MOp} (hb : ∀ x ∈ xs, x.Bytes) : ∀ o ∈ xs.map ofO, chkO o = 0 := fun o ho => by obtain ⟨x, hx, rfl⟩ := List.mem_map.1 ho; exact of_chk (hb x hx)
theorem all_of_getD {os : List MOp} (h : ∀ j, j < os.length → chkO (os.getD j op0) = 0) : ∀ o ∈ os, chkO o = 0 := fun o ho => by
  obtain ⟨j, hj, rfl⟩ := List.mem_iff_getElem.1 ho
  have := h j hj
  rwa [List.getD, List.getElem?_eq_getElem hj] at this
theorem mem_getD {os : List MOp} {i : Nat} (h : i < os.length) : os.getD i op0 ∈ os := by rw [List.getD, List.getElem?_eq_getElem h]; exact List.getElem_mem _
end Go.Proofs.YtbalocjcbmkecaaGreatDoor
