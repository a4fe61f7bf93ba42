/- Arrays of three numbers as arguments, as plain data. Conditions: none; each law is over any program. -/
import Derived.Test.YtacclnebhbakmaaDoorXOpen
import Derived.OpenShut
set_option linter.unusedVariables false
set_option linter.unusedSimpArgs false
namespace Go.Lw
open Go.RowKit
def Enc.tri (k : IntKind) : Enc (Int × Int × Int) := ⟨fun p => [.int k p.1, .int k p.2.1, .int k p.2.2], 3, fun _ => rfl, fun _ u h => by simp at h; rcases h with rfl | rfl | rfl <;> rfl, by decide⟩
section
variable {P : Program} {t e : TypeId}
theorem opens_tri {k : IntKind} (hu : P.underlying t = some (.array 3 e)) (ht : P.cellsOf t = 3) (he : P.cellsOf e = 1) (ho : P.underlying e = some (.int k)) : Opens P t (Enc.tri k) (fun _ p => (k.min ≤ p.1 ∧ p.1 ≤ k.max) ∧ (k.min ≤ p.2.1 ∧ p.2.1 ≤ k.max) ∧ (k.min ≤ p.2.2 ∧ p.2.2 ≤ k.max)) := by
  intro H enc w base sp held fuel cs x h
  obtain ⟨xs, m, _, _, hl, hlen, hf⟩ := DataW.trod_array hu h
  rw [ht] at hl
  match cs, hl with
  | [c0, c1, c2], _ =>
    have h0 := hf 0 (by decide)
    have h1 := hf 1 (by decide)
    have h2 := hf 2 (by decide)
    rw [he] at h0 h1 h2
    obtain ⟨y0, e0, r0⟩ := opens_field (cs := [c0]) h0 hlen (by decide) (opens_int ho)
    obtain ⟨y1, e1, r1⟩ := opens_field (cs := [c1]) h1 hlen (by decide) (opens_int ho)
    obtain ⟨y2, e2, r2⟩ := opens_field (cs := [c2]) h2 hlen (by decide) (opens_int ho)
    cases e0; cases e1; cases e2
    exact ⟨(y0, y1, y2), rfl, r0, r1, r2⟩
theorem arg_arr {H : Type} {enc : TypeId × Value → H} {w : World} {base b0 n : Nat} {r : Reach} {sp : Nat → Bool} {held : Bool} {v : Value} {d : DataW H} {ps : List MemPlace} {α : Type} {E : Enc α} {R : World → α → Prop}
    (hu : P.underlying t = some (.array n e)) (ho : Opens P t E R) (hv : Value.okWide P w r b0 t v) (hd : DataW.Trod enc P w base sp held t v d ps) : ∃ y, v = .agg (E.enc y).toArray ∧ R w y := by
  simp only [Value.okWide, hu] at hv
  obtain ⟨cs, rfl, _⟩ := hv
  obtain ⟨fuel, hf⟩ := hd
  obtain ⟨y, h1, h2⟩ := ho H enc w base sp held fuel _ _ hf
  refine ⟨y, ?_, h2⟩
  have h1' : cs.toList = E.enc y := h1
  rw [← h1']
end
end Go.Lw
