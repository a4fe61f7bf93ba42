/- Arguments of a law as plain data: how a type's value lies in cells, with what is known of it. Conditions: none; each law is over any program. -/
import Derived.Test.YtacclnebhbakmaaDoorXCard
import Derived.Test.YtacclnebhbakmaaDoorXNest
import Derived.Test.YtacclnebhbakmaaDoorXOps2
set_option linter.unusedVariables false
set_option linter.unusedSimpArgs false
namespace Go.Lw
open Go.ChangeShapes Go.WideShapes Go.ChangeAt Go.RowKit

/-- What is read at a type lies in cells as E says, and R is known of it. -/
def Opens (P : Program) (t : TypeId) {α : Type} (E : Enc α) (R : World → α → Prop) : Prop :=
  ∀ (H : Type) (enc : TypeId × Value → H) (w : World) (base : Nat) (sp : Nat → Bool) (held : Bool) (fuel : Nat) (cs : List Value) (x : DataW H × List MemPlace),
    DataW.trod enc P w base sp held fuel t cs = some x → ∃ y, cs = E.enc y ∧ R w y
def Enc.int (k : IntKind) : Enc Int := ⟨fun n => [.int k n], 1, fun _ => rfl, fun _ u h => by simp at h; subst h; rfl, by decide⟩
def Enc.bool : Enc Bool := ⟨fun n => [.bool n], 1, fun _ => rfl, fun _ u h => by simp at h; subst h; rfl, by decide⟩
def SlR {α : Type} (E : Enc α) (R : World → α → Prop) (w : World) (v : SV) : Prop := ∃ ys, Sl E w (slv v) ys ∧ ∀ y ∈ ys, R w y
section
variable {P : Program} {t e : TypeId}
theorem opens_int {k : IntKind} (hu : P.underlying t = some (.int k)) : Opens P t (Enc.int k) (fun _ n => k.min ≤ n ∧ n ≤ k.max) := by
  intro H enc w base sp held fuel cs x h
  obtain ⟨n, rfl, _, hw⟩ := DataW.trod_int hu h
  refine ⟨n, rfl, ?_⟩
  simpa [Lit.wf] using hw
theorem opens_i64 (hu : P.underlying t = some (.int .i64)) : Opens P t Enc.i64 (fun _ n => -9223372036854775808 ≤ n ∧ n ≤ 9223372036854775807) := by
  intro H enc w base sp held fuel cs x h
  obtain ⟨n, rfl, r⟩ := opens_int hu H enc w base sp held fuel cs x h
  exact ⟨n, rfl, r⟩
theorem opens_u8 (hu : P.underlying t = some (.int .u8)) : Opens P t Enc.u8 (fun _ n => 0 ≤ n ∧ n ≤ 255) := by
  intro H enc w base sp held fuel cs x h
  obtain ⟨n, rfl, r⟩ := opens_int hu H enc w base sp held fuel cs x h
  exact ⟨n, rfl, r⟩
theorem opens_b (hu : P.underlying t = some (.int .u8)) : Opens P t Enc.b (fun _ _ => True) := by
  intro H enc w base sp held fuel cs x h
  obtain ⟨n, rfl, r⟩ := opens_u8 hu H enc w base sp held fuel cs x h
  refine ⟨UInt8.ofNat n.toNat, ?_, trivial⟩
  show [Value.int .u8 n] = [Value.int .u8 (((UInt8.ofNat n.toNat).toNat : Nat) : Int)]
  rw [UInt8.toNat_ofNat', Nat.mod_eq_of_lt (by omega)]
  congr 2
  omega
theorem opens_bool (hu : P.underlying t = some .bool) : Opens P t Enc.bool (fun _ _ => True) := by
  intro H enc w base sp held fuel cs x h
  obtain ⟨b, rfl, _⟩ := DataW.trod_bool hu h
  exact ⟨b, rfl, trivial⟩
theorem opens_str (hu : P.underlying t = some .string) : Opens P t Enc.str (fun _ l => l.length ≤ 9223372036854775807) := by
  intro H enc w base sp held fuel cs x h
  obtain ⟨s, rfl, _, hs⟩ := DataW.trod_string hu h
  exact ⟨s.data.toList, by simp [Enc.str, S], str_len hs⟩
theorem opens_slice {α : Type} {E : Enc α} {R : World → α → Prop} (hu : P.underlying t = some (.slice e)) (hc : P.cellsOf e = E.sz) (ho : Opens P e E R) : Opens P t Enc.sl (SlR E R) := by
  intro H enc w base sp held fuel cs x h
  rcases DataW.trod_slice hu h with ⟨rfl, _⟩ | ⟨ad, len, cap, elems, rest, n, _, rfl, _, hb, hl, hm, hlen, hel, _⟩
  · exact ⟨(none, 0, 0), rfl, [], Sl.nil w, by simp⟩
  have each : ∀ i, i < len → ∃ y, Cells w (ad.add (i * E.sz)) (E.enc y) ∧ R w y := by
    intro i hi
    have h1 := hel i hi
    rw [List.getElem?_eq_getElem (by omega), Option.bind_eq_some_iff, hc] at h1
    obtain ⟨cs', h2, h3⟩ := h1
    obtain ⟨y, rfl, hR⟩ := ho H enc w base sp held n cs' _ h3
    obtain ⟨_, h5, h6⟩ := World.cells?_some h2
    refine ⟨y, fun j u hj => ?_, hR⟩
    have hjl : j < E.sz := by rw [← E.len y]; exact (List.getElem?_eq_some_iff.1 hj).1
    rw [h6 j hjl, hj]
  have all : ∀ m, m ≤ len → ∃ ys : List α, ys.length = m ∧ ∀ i y, ys[i]? = some y → Cells w (ad.add (i * E.sz)) (E.enc y) ∧ R w y := by
    intro m
    induction m with
    | zero => exact fun _ => ⟨[], rfl, fun i y h => by simp at h⟩
    | succ m ih =>
      intro hm
      obtain ⟨ys, h1, h2⟩ := ih (by omega)
      obtain ⟨y, h3⟩ := each m (by omega)
      refine ⟨ys ++ [y], by simp [h1], fun i z hz => ?_⟩
      rcases Nat.lt_or_ge i m with hi | hi
      · rw [List.getElem?_append_left (by omega)] at hz
        exact h2 i z hz
      · have hi' : i = m := by
          have := (List.getElem?_eq_some_iff.1 hz).1
          simp [h1] at this; omega
        subst hi'
        rw [List.getElem?_append_right (by omega), h1, Nat.sub_self] at hz
        simp at hz; subst hz
        exact h3
  obtain ⟨ys, h1, h2⟩ := all len (Nat.le_refl _)
  refine ⟨(some ad, len, cap), rfl, ys, ⟨some ad, cap, by simp [slv, h1], by omega, hm, fun i y hy => ⟨ad, rfl, (h2 i y hy).1⟩⟩, fun y hy => ?_⟩
  obtain ⟨i, hi⟩ := List.getElem?_of_mem hy
  exact (h2 i y hi).2
/-- A field of a struct. -/
theorem opens_field {H : Type} {enc : TypeId × Value → H} {w : World} {base : Nat} {sp : Nat → Bool} {held : Bool} {n : Nat} {cs : List Value} {xs : List (DataW H × List MemPlace)} {f : TypeId} {α : Type} {E : Enc α} {R : World → α → Prop} {i m : Nat}
    (h : DataW.trod enc P w base sp held n f cs = xs[i]?) (hl : xs.length = m) (hi : i < m) (ho : Opens P f E R) : ∃ y, cs = E.enc y ∧ R w y := by
  rw [List.getElem?_eq_getElem (by omega)] at h
  exact ho H enc w base sp held n cs _ h
theorem arg_slice {H : Type} {enc : TypeId × Value → H} {w : World} {base b0 : Nat} {r : Reach} {sp : Nat → Bool} {held : Bool} {v : Value} {d : DataW H} {ps : List MemPlace} {α : Type} {E : Enc α} {R : World → α → Prop}
    (hu : P.underlying t = some (.slice e)) (hc : P.cellsOf e = E.sz) (ho : Opens P e E R) (hv : Value.okWide P w r b0 t v) (hd : DataW.Trod enc P w base sp held t v d ps) : ∃ ys, Sl E w v ys ∧ ∀ y ∈ ys, R w y := by
  obtain ⟨A, m, c, rfl⟩ := okWide_slice hu hv
  obtain ⟨fuel, hf⟩ := hd
  obtain ⟨⟨A', m', c'⟩, h1, h2⟩ := opens_slice hu hc ho H enc w base sp held fuel _ _ hf
  simp [Value.cells, Enc.sl] at h1
  obtain ⟨rfl, rfl, rfl⟩ := h1
  exact h2
theorem arg_struct {H : Type} {enc : TypeId × Value → H} {w : World} {base b0 : Nat} {r : Reach} {sp : Nat → Bool} {held : Bool} {v : Value} {d : DataW H} {ps : List MemPlace} {α : Type} {E : Enc α} {R : World → α → Prop} {fs : Array Field}
    (hu : P.underlying t = some (.struct fs)) (ho : Opens P t E R) (hv : Value.okWide P w r b0 t v) (hd : DataW.Trod enc P w base sp held t v d ps) : ∃ y, v = .agg (E.enc y).toArray ∧ R w y := by
  simp only [Value.okWide, hu] at hv
  obtain ⟨cs, rfl, _⟩ := hv
  obtain ⟨fuel, hf⟩ := hd
  obtain ⟨y, h1, h2⟩ := ho H enc w base sp held fuel _ _ hf
  refine ⟨y, ?_, h2⟩
  have h1' : cs.toList = E.enc y := h1
  rw [← h1']
theorem arg_one {H : Type} {enc : TypeId × Value → H} {w : World} {base : Nat} {sp : Nat → Bool} {held : Bool} {v : Value} {d : DataW H} {ps : List MemPlace} {α : Type} {E : Enc α} {R : World → α → Prop}
    (ho : Opens P t E R) (hd : DataW.Trod enc P w base sp held t v d ps) : ∃ y, v.cells.toList = E.enc y ∧ R w y := by
  obtain ⟨fuel, hf⟩ := hd
  exact ho H enc w base sp held fuel _ _ hf
end
end Go.Lw
