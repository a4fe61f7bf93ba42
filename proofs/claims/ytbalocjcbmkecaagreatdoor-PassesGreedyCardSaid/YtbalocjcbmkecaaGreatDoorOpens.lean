/- The arguments of the laws as plain data. Conditions: none. -/
import Derived.Test.YtbalocjcbmkecaaGreatDoorRows
import Derived.Test.YtbalocjcbmkecaaGreatDoorXOpen
import Derived.Test.YtbalocjcbmkecaaGreatDoorXOp
set_option linter.unusedVariables false
set_option linter.unusedSimpArgs false
namespace Go.Proofs.YtbalocjcbmkecaaGreatDoor
open Go.Lw
def encNd : Enc (Int × Int) := ⟨fun p => [.int .u8 p.1, .int .i64 p.2], 2, fun _ => rfl, fun _ u h => by simp at h; rcases h with rfl | rfl <;> rfl, by decide⟩
def _root_.Go.Lw.MOp.Rng (o : MOp) : Prop := (0 ≤ o.k ∧ o.k ≤ 255) ∧ (0 ≤ o.d ∧ o.d ≤ 255) ∧ (0 ≤ o.b ∧ o.b ≤ 255) ∧ (-9223372036854775808 ≤ o.p ∧ o.p ≤ 9223372036854775807) ∧ (0 ≤ o.y ∧ o.y ≤ 255) ∧ (-9223372036854775808 ≤ o.r ∧ o.r ≤ 9223372036854775807)
theorem opOX_len {cs : List Value} (h : cs.length = 6) : ∃ c0 c1 c2 c3 c4 c5, cs = [c0, c1, c2, c3, c4, c5] := match cs, h with | [c0, c1, c2, c3, c4, c5], _ => ⟨c0, c1, c2, c3, c4, c5, rfl⟩
theorem opOX : Opens Tryz.prog 48 encOX (fun _ s => s.Bytes) := by
  intro H enc w base sp held fuel cs x h
  obtain ⟨xs, n, _, _, hl, hlen, hf⟩ := DataW.trod_struct Tryz.underlying48 h
  rw [show Tryz.prog.cellsOf 48 = 6 by kernel_rfl] at hl
  obtain ⟨c0, c1, c2, c3, c4, c5, rfl⟩ := opOX_len hl
  have h0 : DataW.trod enc Tryz.prog w base sp held n 5 (([c0, c1, c2, c3, c4, c5].drop 0).take (Tryz.prog.cellsOf 5)) = xs[0]? := hf 0 _ rfl
  rw [show Tryz.prog.cellsOf 5 = 1 by kernel_rfl] at h0
  obtain ⟨y0, e0, r0⟩ := opens_field (cs := [c0]) h0 hlen (by decide) (opens_u8 Tryz.underlying5)
  have h1 : DataW.trod enc Tryz.prog w base sp held n 5 (([c0, c1, c2, c3, c4, c5].drop 1).take (Tryz.prog.cellsOf 5)) = xs[1]? := hf 1 _ rfl
  rw [show Tryz.prog.cellsOf 5 = 1 by kernel_rfl] at h1
  obtain ⟨y1, e1, r1⟩ := opens_field (cs := [c1]) h1 hlen (by decide) (opens_u8 Tryz.underlying5)
  have h2 : DataW.trod enc Tryz.prog w base sp held n 5 (([c0, c1, c2, c3, c4, c5].drop 2).take (Tryz.prog.cellsOf 5)) = xs[2]? := hf 2 _ rfl
  rw [show Tryz.prog.cellsOf 5 = 1 by kernel_rfl] at h2
  obtain ⟨y2, e2, r2⟩ := opens_field (cs := [c2]) h2 hlen (by decide) (opens_u8 Tryz.underlying5)
  have h3 : DataW.trod enc Tryz.prog w base sp held n 5 (([c0, c1, c2, c3, c4, c5].drop 3).take (Tryz.prog.cellsOf 5)) = xs[3]? := hf 3 _ rfl
  rw [show Tryz.prog.cellsOf 5 = 1 by kernel_rfl] at h3
  obtain ⟨y3, e3, r3⟩ := opens_field (cs := [c3]) h3 hlen (by decide) (opens_u8 Tryz.underlying5)
  have h4 : DataW.trod enc Tryz.prog w base sp held n 5 (([c0, c1, c2, c3, c4, c5].drop 4).take (Tryz.prog.cellsOf 5)) = xs[4]? := hf 4 _ rfl
  rw [show Tryz.prog.cellsOf 5 = 1 by kernel_rfl] at h4
  obtain ⟨y4, e4, r4⟩ := opens_field (cs := [c4]) h4 hlen (by decide) (opens_u8 Tryz.underlying5)
  have h5 : DataW.trod enc Tryz.prog w base sp held n 5 (([c0, c1, c2, c3, c4, c5].drop 5).take (Tryz.prog.cellsOf 5)) = xs[5]? := hf 5 _ rfl
  rw [show Tryz.prog.cellsOf 5 = 1 by kernel_rfl] at h5
  obtain ⟨y5, e5, r5⟩ := opens_field (cs := [c5]) h5 hlen (by decide) (opens_u8 Tryz.underlying5)
  cases e0
  cases e1
  cases e2
  cases e3
  cases e4
  cases e5
  exact ⟨⟨y0, y1, y2, y3, y4, y5⟩, rfl, ⟨r0, r1, r2, r3, r4, r5⟩⟩
theorem opNd_len {cs : List Value} (h : cs.length = 2) : ∃ c0 c1, cs = [c0, c1] := match cs, h with | [c0, c1], _ => ⟨c0, c1, rfl⟩
theorem opNd : Opens Tryz.prog 39 encNd (fun _ s => (0 ≤ s.1 ∧ s.1 ≤ 255) ∧ (-9223372036854775808 ≤ s.2 ∧ s.2 ≤ 9223372036854775807)) := by
  intro H enc w base sp held fuel cs x h
  obtain ⟨xs, n, _, _, hl, hlen, hf⟩ := DataW.trod_struct Tryz.underlying39 h
  rw [show Tryz.prog.cellsOf 39 = 2 by kernel_rfl] at hl
  obtain ⟨c0, c1, rfl⟩ := opNd_len hl
  have h0 : DataW.trod enc Tryz.prog w base sp held n 37 (([c0, c1].drop 0).take (Tryz.prog.cellsOf 37)) = xs[0]? := hf 0 _ rfl
  rw [show Tryz.prog.cellsOf 37 = 1 by kernel_rfl] at h0
  obtain ⟨y0, e0, r0⟩ := opens_field (cs := [c0]) h0 hlen (by decide) (opens_u8 Tryz.underlying37)
  have h1 : DataW.trod enc Tryz.prog w base sp held n 3 (([c0, c1].drop 1).take (Tryz.prog.cellsOf 3)) = xs[1]? := hf 1 _ rfl
  rw [show Tryz.prog.cellsOf 3 = 1 by kernel_rfl] at h1
  obtain ⟨y1, e1, r1⟩ := opens_field (cs := [c1]) h1 hlen (by decide) (opens_i64 Tryz.underlying3)
  cases e0
  cases e1
  exact ⟨(y0, y1), rfl, ⟨r0, r1⟩⟩
theorem opOp_len {cs : List Value} (h : cs.length = 6) : ∃ c0 c1 c2 c3 c4 c5, cs = [c0, c1, c2, c3, c4, c5] := match cs, h with | [c0, c1, c2, c3, c4, c5], _ => ⟨c0, c1, c2, c3, c4, c5, rfl⟩
theorem opOp : Opens Tryz.prog 41 encOp (fun _ s => s.Rng) := by
  intro H enc w base sp held fuel cs x h
  obtain ⟨xs, n, _, _, hl, hlen, hf⟩ := DataW.trod_struct Tryz.underlying41 h
  rw [show Tryz.prog.cellsOf 41 = 6 by kernel_rfl] at hl
  obtain ⟨c0, c1, c2, c3, c4, c5, rfl⟩ := opOp_len hl
  have h0 : DataW.trod enc Tryz.prog w base sp held n 35 (([c0, c1, c2, c3, c4, c5].drop 0).take (Tryz.prog.cellsOf 35)) = xs[0]? := hf 0 _ rfl
  rw [show Tryz.prog.cellsOf 35 = 1 by kernel_rfl] at h0
  obtain ⟨y0, e0, r0⟩ := opens_field (cs := [c0]) h0 hlen (by decide) (opens_u8 Tryz.underlying35)
  have h1 : DataW.trod enc Tryz.prog w base sp held n 36 (([c0, c1, c2, c3, c4, c5].drop 1).take (Tryz.prog.cellsOf 36)) = xs[1]? := hf 1 _ rfl
  rw [show Tryz.prog.cellsOf 36 = 1 by kernel_rfl] at h1
  obtain ⟨y1, e1, r1⟩ := opens_field (cs := [c1]) h1 hlen (by decide) (opens_u8 Tryz.underlying36)
  have h2 : DataW.trod enc Tryz.prog w base sp held n 39 (([c0, c1, c2, c3, c4, c5].drop 2).take (Tryz.prog.cellsOf 39)) = xs[2]? := hf 2 _ rfl
  rw [show Tryz.prog.cellsOf 39 = 2 by kernel_rfl] at h2
  obtain ⟨y2, e2, r2⟩ := opens_field (cs := [c2, c3]) h2 hlen (by decide) opNd
  have h3 : DataW.trod enc Tryz.prog w base sp held n 5 (([c0, c1, c2, c3, c4, c5].drop 4).take (Tryz.prog.cellsOf 5)) = xs[3]? := hf 3 _ rfl
  rw [show Tryz.prog.cellsOf 5 = 1 by kernel_rfl] at h3
  obtain ⟨y3, e3, r3⟩ := opens_field (cs := [c4]) h3 hlen (by decide) (opens_u8 Tryz.underlying5)
  have h4 : DataW.trod enc Tryz.prog w base sp held n 3 (([c0, c1, c2, c3, c4, c5].drop 5).take (Tryz.prog.cellsOf 3)) = xs[4]? := hf 4 _ rfl
  rw [show Tryz.prog.cellsOf 3 = 1 by kernel_rfl] at h4
  obtain ⟨y4, e4, r4⟩ := opens_field (cs := [c5]) h4 hlen (by decide) (opens_i64 Tryz.underlying3)
  cases e0
  cases e1
  cases e2
  cases e3
  cases e4
  exact ⟨⟨y0, y1, y2.1, y2.2, y3, y4⟩, rfl, ⟨r0, r1, r2.1, r2.2, r3, r4⟩⟩
end Go.Proofs.YtbalocjcbmkecaaGreatDoor
