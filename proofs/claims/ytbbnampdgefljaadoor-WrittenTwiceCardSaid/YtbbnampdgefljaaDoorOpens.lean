/- The arguments of the laws as plain data. Conditions: none. -/
import Derived.Test.YtbbnampdgefljaaDoorFacts
import Derived.Test.YtbbnampdgefljaaDoorXOpen
set_option linter.unusedVariables false
set_option linter.unusedSimpArgs false
namespace Go.Proofs.YtbbnampdgefljaaDoor
open Go.Lw Go.G14
def encC : Enc (Int × SV) := ⟨fun p => [.int .u8 p.1, slv p.2], 2, fun _ => rfl, fun _ u h => by simp [slv] at h; rcases h with rfl | rfl <;> rfl, by decide⟩
theorem opSt_len {cs : List Value} (h : cs.length = 5) : ∃ c0 c1 c2 c3 c4, cs = [c0, c1, c2, c3, c4] := match cs, h with | [c0, c1, c2, c3, c4], _ => ⟨c0, c1, c2, c3, c4, rfl⟩
theorem opSt : Opens Tryd.prog 36 encSt (fun _ s => 0 ≤ s.k ∧ s.k ≤ 255 ∧ 0 ≤ s.y ∧ s.y ≤ 255 ∧ -9223372036854775808 ≤ s.a ∧ s.a ≤ 9223372036854775807 ∧ -9223372036854775808 ≤ s.b ∧ s.b ≤ 9223372036854775807) := by
  intro H enc w base sp held fuel cs x h
  obtain ⟨xs, n, _, _, hl, hlen, hf⟩ := DataW.trod_struct Tryd.underlying36 h
  rw [show Tryd.prog.cellsOf 36 = 5 by kernel_rfl] at hl
  obtain ⟨c0, c1, c2, c3, c4, rfl⟩ := opSt_len hl
  have h0 : DataW.trod enc Tryd.prog w base sp held n 34 (([c0, c1, c2, c3, c4].drop 0).take (Tryd.prog.cellsOf 34)) = xs[0]? := hf 0 _ rfl
  rw [show Tryd.prog.cellsOf 34 = 1 by kernel_rfl] at h0
  obtain ⟨y0, e0, r0⟩ := opens_field (cs := [c0]) h0 hlen (by decide) (opens_u8 Tryd.underlying34)
  have h1 : DataW.trod enc Tryd.prog w base sp held n 5 (([c0, c1, c2, c3, c4].drop 1).take (Tryd.prog.cellsOf 5)) = xs[1]? := hf 1 _ rfl
  rw [show Tryd.prog.cellsOf 5 = 1 by kernel_rfl] at h1
  obtain ⟨y1, e1, r1⟩ := opens_field (cs := [c1]) h1 hlen (by decide) (opens_u8 Tryd.underlying5)
  have h2 : DataW.trod enc Tryd.prog w base sp held n 3 (([c0, c1, c2, c3, c4].drop 2).take (Tryd.prog.cellsOf 3)) = xs[2]? := hf 2 _ rfl
  rw [show Tryd.prog.cellsOf 3 = 1 by kernel_rfl] at h2
  obtain ⟨y2, e2, r2⟩ := opens_field (cs := [c2]) h2 hlen (by decide) (opens_i64 Tryd.underlying3)
  have h3 : DataW.trod enc Tryd.prog w base sp held n 3 (([c0, c1, c2, c3, c4].drop 3).take (Tryd.prog.cellsOf 3)) = xs[3]? := hf 3 _ rfl
  rw [show Tryd.prog.cellsOf 3 = 1 by kernel_rfl] at h3
  obtain ⟨y3, e3, r3⟩ := opens_field (cs := [c3]) h3 hlen (by decide) (opens_i64 Tryd.underlying3)
  have h4 : DataW.trod enc Tryd.prog w base sp held n 4 (([c0, c1, c2, c3, c4].drop 4).take (Tryd.prog.cellsOf 4)) = xs[4]? := hf 4 _ rfl
  rw [show Tryd.prog.cellsOf 4 = 1 by kernel_rfl] at h4
  obtain ⟨y4, e4, r4⟩ := opens_field (cs := [c4]) h4 hlen (by decide) (opens_bool Tryd.underlying4)
  cases e0
  cases e1
  cases e2
  cases e3
  cases e4
  exact ⟨⟨y0, y1, y2, y3, y4⟩, rfl, ⟨r0.1, r0.2, r1.1, r1.2, r2.1, r2.2, r3.1, r3.2⟩⟩
theorem opC_len {cs : List Value} (h : cs.length = 2) : ∃ c0 c1, cs = [c0, c1] := match cs, h with | [c0, c1], _ => ⟨c0, c1, rfl⟩
theorem opC : Opens Tryd.prog 42 encC (fun w y => (0 ≤ y.1 ∧ y.1 ≤ 255) ∧ SlR Enc.sl (SlR Enc.b (fun _ _ => True)) w y.2) := by
  intro H enc w base sp held fuel cs x h
  obtain ⟨xs, n, _, _, hl, hlen, hf⟩ := DataW.trod_struct Tryd.underlying42 h
  rw [show Tryd.prog.cellsOf 42 = 2 by kernel_rfl] at hl
  obtain ⟨c0, c1, rfl⟩ := opC_len hl
  have h0 : DataW.trod enc Tryd.prog w base sp held n 5 (([c0, c1].drop 0).take (Tryd.prog.cellsOf 5)) = xs[0]? := hf 0 _ rfl
  rw [show Tryd.prog.cellsOf 5 = 1 by kernel_rfl] at h0
  obtain ⟨y0, e0, r0⟩ := opens_field (cs := [c0]) h0 hlen (by decide) (opens_u8 Tryd.underlying5)
  have h1 : DataW.trod enc Tryd.prog w base sp held n 40 (([c0, c1].drop 1).take (Tryd.prog.cellsOf 40)) = xs[1]? := hf 1 _ rfl
  rw [show Tryd.prog.cellsOf 40 = 1 by kernel_rfl] at h1
  obtain ⟨y1, e1, r1⟩ := opens_field (cs := [c1]) h1 hlen (by decide) (opens_slice Tryd.underlying40 (by kernel_rfl) (opens_slice Tryd.underlying58 (by kernel_rfl) (opens_b Tryd.underlying5)))
  cases e0
  cases e1
  exact ⟨(y0, y1), rfl, ⟨r0, r1⟩⟩
end Go.Proofs.YtbbnampdgefljaaDoor
