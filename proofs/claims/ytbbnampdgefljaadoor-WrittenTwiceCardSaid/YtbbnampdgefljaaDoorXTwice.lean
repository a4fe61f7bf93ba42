/- A row that is written twice. Conditions: none. -/
import Derived.Test.YtbbnampdgefljaaDoorXRowOf
set_option linter.unusedVariables false
set_option linter.unusedSimpArgs false
namespace Go.G14
open Go.Lw

theorem leP_len {a b : List UInt8} (h : leP a b) : a.length ≤ b.length := by
  rcases leP_iff.1 h with h | h <;> omega
theorem times_two (r : List Stitch) : timesS r 2 = r ++ r := by simp [timesS, List.replicate]
theorem twice_facts {r : List Stitch} (hr : goodRow r) : shortenS r = (shortS r, 0) ∧ shortenS (r ++ r) = (shortS (r ++ r), 0) ∧ expandS ([91] ++ shortS r ++ [93, 120, 50]) = (r ++ r, 0) ∧ expandS (shortS r ++ [32] ++ shortS r) = (r ++ r, 0) ∧
    (shortS (r ++ r)).length ≤ (shortS r).length + 4 ∧ (shortS (r ++ r)).length ≤ 2 * (shortS r).length + 1 ∧ (shortS r).length ≤ 96 := by
  obtain ⟨h1, h2, h3⟩ := hr
  have hl : 1 ≤ r.length := List.length_pos_iff.2 h1
  have hok : (r ++ r).all okB = true := by simp [h2]
  have hlen : (r ++ r).length = r.length + r.length := List.length_append
  have hR := short_ok h2 hl (by omega)
  have hRR := short_ok hok (by omega) (by omega)
  have hsl := short_len hl (by omega)
  have hT1 : Txt true (repT (shortS r) 2) (r ++ r) := by
    have := Txt.rep (n := 2) hR.1 (by omega) (by omega)
    rw [times_two] at this
    exact .one this
  have hT2 : Txt true (shortS r ++ [32] ++ shortS r) (r ++ r) := Txt.app hR.1 hR.1
  have e1 : [91] ++ shortS r ++ [93, 120, 50] = repT (shortS r) 2 := by simp [repT, show itoaS 2 = [50] from rfl]
  have l1 : (repT (shortS r) 2).length = (shortS r).length + 4 := by rw [← e1]; simp
  have l2 : (shortS r ++ [32] ++ shortS r).length = 2 * (shortS r).length + 1 := by simp; omega
  refine ⟨shorten_good h2 hl (by omega), shorten_good hok (by omega) (by omega), ?_, ?_, ?_, ?_, by omega⟩
  · rw [e1]; exact expand_complete hT1 (by omega) (by omega)
  · exact expand_complete hT2 (by omega) (by omega)
  · have := leP_len (hRR.2 _ hT1); omega
  · have := leP_len (hRR.2 _ hT2); omega
end Go.G14
