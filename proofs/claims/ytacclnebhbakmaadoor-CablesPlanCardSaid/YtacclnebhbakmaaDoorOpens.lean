/- The arguments of the laws as plain data. Conditions: none. -/
import Derived.Test.YtacclnebhbakmaaDoorRows
import Derived.Test.YtacclnebhbakmaaDoorXOpen
import Derived.Test.YtacclnebhbakmaaDoorXOp
import Derived.Test.YtacclnebhbakmaaDoorXOpenA
set_option linter.unusedVariables false
set_option linter.unusedSimpArgs false
namespace Go.Proofs.YtacclnebhbakmaaDoor
open Go.Lw
def encX : Enc ((Option Addr × Nat × Nat) × Int × Int × Int × Bool) := ⟨fun p => [.slice p.1.1 p.1.2.1 p.1.2.2, .int .u8 p.2.1, .int .u8 p.2.2.1, .int .u8 p.2.2.2.1, .bool p.2.2.2.2], 5, fun _ => rfl, fun _ u h => by simp at h; rcases h with rfl | rfl | rfl | rfl | rfl <;> rfl, by decide⟩
theorem opX_len {cs : List Value} (h : cs.length = 5) : ∃ c0 c1 c2 c3 c4, cs = [c0, c1, c2, c3, c4] := match cs, h with | [c0, c1, c2, c3, c4], _ => ⟨c0, c1, c2, c3, c4, rfl⟩
theorem opX : Opens Tryd.prog 25 encX (fun w s => SlR (Enc.tri .u8) (fun _ p => (IntKind.u8.min ≤ p.1 ∧ p.1 ≤ IntKind.u8.max) ∧ (IntKind.u8.min ≤ p.2.1 ∧ p.2.1 ≤ IntKind.u8.max) ∧ (IntKind.u8.min ≤ p.2.2 ∧ p.2.2 ≤ IntKind.u8.max)) w s.1 ∧ (0 ≤ s.2.1 ∧ s.2.1 ≤ 255) ∧ (0 ≤ s.2.2.1 ∧ s.2.2.1 ≤ 255) ∧ (0 ≤ s.2.2.2.1 ∧ s.2.2.2.1 ≤ 255)) := by
  intro H enc w base sp held fuel cs x h
  obtain ⟨xs, n, _, _, hl, hlen, hf⟩ := DataW.trod_struct Tryd.underlying25 h
  rw [show Tryd.prog.cellsOf 25 = 5 by kernel_rfl] at hl
  obtain ⟨c0, c1, c2, c3, c4, rfl⟩ := opX_len hl
  have h0 : DataW.trod enc Tryd.prog w base sp held n 23 (([c0, c1, c2, c3, c4].drop 0).take (Tryd.prog.cellsOf 23)) = xs[0]? := hf 0 _ rfl
  rw [show Tryd.prog.cellsOf 23 = 1 by kernel_rfl] at h0
  obtain ⟨y0, e0, r0⟩ := opens_field (cs := [c0]) h0 hlen (by decide) (opens_slice Tryd.underlying23 (by kernel_rfl) (opens_tri (k := .u8) Tryd.underlying70 (by kernel_rfl) (by kernel_rfl) Tryd.underlying5))
  have h1 : DataW.trod enc Tryd.prog w base sp held n 5 (([c0, c1, c2, c3, c4].drop 1).take (Tryd.prog.cellsOf 5)) = xs[1]? := hf 1 _ rfl
  rw [show Tryd.prog.cellsOf 5 = 1 by kernel_rfl] at h1
  obtain ⟨y1, e1, r1⟩ := opens_field (cs := [c1]) h1 hlen (by decide) (opens_u8 Tryd.underlying5)
  have h2 : DataW.trod enc Tryd.prog w base sp held n 5 (([c0, c1, c2, c3, c4].drop 2).take (Tryd.prog.cellsOf 5)) = xs[2]? := hf 2 _ rfl
  rw [show Tryd.prog.cellsOf 5 = 1 by kernel_rfl] at h2
  obtain ⟨y2, e2, r2⟩ := opens_field (cs := [c2]) h2 hlen (by decide) (opens_u8 Tryd.underlying5)
  have h3 : DataW.trod enc Tryd.prog w base sp held n 5 (([c0, c1, c2, c3, c4].drop 3).take (Tryd.prog.cellsOf 5)) = xs[3]? := hf 3 _ rfl
  rw [show Tryd.prog.cellsOf 5 = 1 by kernel_rfl] at h3
  obtain ⟨y3, e3, r3⟩ := opens_field (cs := [c3]) h3 hlen (by decide) (opens_u8 Tryd.underlying5)
  have h4 : DataW.trod enc Tryd.prog w base sp held n 4 (([c0, c1, c2, c3, c4].drop 4).take (Tryd.prog.cellsOf 4)) = xs[4]? := hf 4 _ rfl
  rw [show Tryd.prog.cellsOf 4 = 1 by kernel_rfl] at h4
  obtain ⟨y4, e4, r4⟩ := opens_field (cs := [c4]) h4 hlen (by decide) (opens_bool Tryd.underlying4)
  cases e0
  cases e1
  cases e2
  cases e3
  cases e4
  exact ⟨(y0, y1, y2, y3, y4), rfl, ⟨r0, r1, r2, r3⟩⟩
end Go.Proofs.YtacclnebhbakmaaDoor
