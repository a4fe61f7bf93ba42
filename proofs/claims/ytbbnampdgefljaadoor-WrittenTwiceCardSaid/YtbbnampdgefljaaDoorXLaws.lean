/- What the laws of layer 14 lean on. Conditions: none. -/
import Derived.Test.YtbbnampdgefljaaDoorXMin
set_option linter.unusedVariables false
set_option linter.unusedSimpArgs false
namespace Go.G14
open Go.Lw

theorem shorten_good {xs : List Stitch} (hok : xs.all okB = true) (h1 : 1 ≤ xs.length) (h16 : xs.length ≤ 16) : shortenS xs = (shortS xs, 0) := by
  rw [shortenS, if_neg (by omega), if_neg (by omega), if_pos hok]
theorem least_facts {l : List UInt8} (h : (expandS l).2 = 0) : shortenS (expandS l).1 = (shortS (expandS l).1, 0) ∧ ¬ lessP l (shortS (expandS l).1) := by
  have e : expandS l = ((expandS l).1, 0) := by rw [← h]
  obtain ⟨hT, h16⟩ := expand_sound e
  have hk := hT.ok
  have h1 : 1 ≤ (expandS l).1.length := List.length_pos_iff.2 hk.1
  exact ⟨shorten_good hk.2 h1 h16, (short_ok hk.2 h1 h16).2 l hT⟩
end Go.G14
