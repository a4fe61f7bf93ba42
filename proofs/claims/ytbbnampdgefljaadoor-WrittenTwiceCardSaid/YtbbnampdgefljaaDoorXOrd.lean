/- Texts in the order of length, then of bytes. Conditions: none. -/
import Derived.Test.YtbbnampdgefljaaDoorXBest
set_option linter.unusedVariables false
set_option linter.unusedSimpArgs false
namespace Go.G14
open Go.Lw

theorem bl_nil (a : List UInt8) : Op.bytesLess a [] = false := by cases a <;> rfl
theorem bl_cons (a b : UInt8) (x y : List UInt8) : Op.bytesLess (a :: x) (b :: y) = (decide (a < b) || (a == b && Op.bytesLess x y)) := rfl
theorem bl_irrefl : ∀ a : List UInt8, Op.bytesLess a a = false
  | [] => rfl
  | a :: x => by rw [bl_cons, bl_irrefl x]; simp
theorem bl_antis : ∀ a b : List UInt8, a.length = b.length → Op.bytesLess a b = false → Op.bytesLess b a = false → a = b
  | [], [], _, _, _ => rfl
  | [], _ :: _, h, _, _ => by simp at h
  | _ :: _, [], h, _, _ => by simp at h
  | a :: x, b :: y, h, h1, h2 => by
    rw [bl_cons] at h1 h2
    simp only [Bool.or_eq_false_iff, Bool.and_eq_false_iff, decide_eq_false_iff_not] at h1 h2
    have e : a = b := by
      have h3 : ¬ a.toNat < b.toNat := h1.1
      have h4 : ¬ b.toNat < a.toNat := h2.1
      exact UInt8.toNat_inj.1 (by omega)
    subst e
    have h5 := h1.2.resolve_left (by simp)
    have h6 := h2.2.resolve_left (by simp)
    rw [bl_antis x y (by simpa using h) h5 h6]
theorem bl_trans : ∀ a b c : List UInt8, Op.bytesLess a b = true → Op.bytesLess b c = true → Op.bytesLess a c = true
  | _, _, [], _, h => by rw [bl_nil] at h; cases h
  | _, [], _ :: _, h, _ => by rw [bl_nil] at h; cases h
  | [], _ :: _, _ :: _, _, _ => rfl
  | a :: x, b :: y, c :: z, h1, h2 => by
    rw [bl_cons] at h1 h2 ⊢
    simp only [Bool.or_eq_true, Bool.and_eq_true, decide_eq_true_eq, beq_iff_eq] at h1 h2 ⊢
    rcases h1 with h1 | ⟨rfl, h1⟩
    · rcases h2 with h2 | ⟨rfl, h2⟩
      · left; exact UInt8.lt_trans h1 h2
      · exact .inl h1
    · rcases h2 with h2 | ⟨rfl, h2⟩
      · exact .inl h2
      · exact .inr ⟨rfl, bl_trans x y z h1 h2⟩
theorem bl_app : ∀ (a a' b b' : List UInt8), a.length = a'.length → Op.bytesLess (a ++ b) (a' ++ b') = (Op.bytesLess a a' || (a == a' && Op.bytesLess b b'))
  | [], [], b, b', _ => by simp [bl_nil]
  | [], _ :: _, _, _, h => by simp at h
  | _ :: _, [], _, _, h => by simp at h
  | x :: a, y :: a', b, b', h => by
    rw [List.cons_append, List.cons_append, bl_cons, bl_cons, bl_app a a' b b' (by simpa using h)]
    by_cases c : x = y
    · subst c
      by_cases d : a = a'
      · subst d; simp [bl_irrefl]
      · simp [d]
    · have e : (x == y) = false := by simpa using c
      have e2 : ((x :: a) == (y :: a')) = false := by simp [c]
      rw [e, e2]; simp
/-- No worse than. -/
def leP (a b : List UInt8) : Prop := ¬ lessP b a
theorem leP_iff {a b : List UInt8} : leP a b ↔ a.length < b.length ∨ (a.length = b.length ∧ Op.bytesLess b a = false) := by
  unfold leP lessP
  constructor
  · intro h
    rcases Nat.lt_trichotomy a.length b.length with c | c | c
    · exact .inl c
    · refine .inr ⟨c, ?_⟩
      cases e : Op.bytesLess b a with
      | false => rfl
      | true => exact absurd (.inr ⟨c.symm, e⟩) h
    · exact absurd (.inl c) h
  · rintro (h | ⟨h, e⟩) (h' | ⟨h', e'⟩)
    · omega
    · omega
    · omega
    · rw [e] at e'; cases e'
theorem leP_refl (a : List UInt8) : leP a a := leP_iff.2 (.inr ⟨rfl, bl_irrefl a⟩)
theorem leP_antis {a b : List UInt8} (h1 : leP a b) (h2 : leP b a) : a = b := by
  rw [leP_iff] at h1 h2
  rcases h1 with h1 | ⟨h1, e1⟩ <;> rcases h2 with h2 | ⟨h2, e2⟩
  · omega
  · omega
  · omega
  · exact bl_antis a b h1 e2 e1
theorem leP_of_less {a b : List UInt8} (h : lessP a b) : leP a b := by
  rw [leP_iff]
  rcases h with h | ⟨h, e⟩
  · exact .inl h
  · refine .inr ⟨h, ?_⟩
    cases e' : Op.bytesLess b a with
    | false => rfl
    | true => have := bl_trans _ _ _ e e'; rw [bl_irrefl] at this; cases this
theorem leP_trans {a b c : List UInt8} (h1 : leP a b) (h2 : leP b c) : leP a c := by
  rw [leP_iff] at h1 h2 ⊢
  rcases h1 with h1 | ⟨h1, e1⟩ <;> rcases h2 with h2 | ⟨h2, e2⟩
  · left; omega
  · left; omega
  · left; omega
  · right
    refine ⟨h1.trans h2, ?_⟩
    cases e : Op.bytesLess c a with
    | false => rfl
    | true =>
      by_cases d : b = a
      · subst d; rw [e2] at e; cases e
      · cases f : Op.bytesLess a b with
        | true => have := bl_trans _ _ _ e f; rw [e2] at this; cases this
        | false => exact absurd (bl_antis b a h1.symm e1 f) d
theorem leP_cons {a a' b b' : List UInt8} (h1 : leP a a') (h2 : leP b b') : leP (a ++ [32] ++ b) (a' ++ [32] ++ b') := by
  rw [leP_iff] at h1 h2 ⊢
  simp only [List.length_append, List.length_singleton]
  rcases h1 with h1 | ⟨h1, e1⟩
  · left; rcases h2 with h2 | ⟨h2, _⟩ <;> omega
  · rcases h2 with h2 | ⟨h2, e2⟩
    · left; omega
    · right
      refine ⟨by omega, ?_⟩
      rw [bl_app _ _ _ _ (by simp [h1]), bl_app _ _ _ _ h1.symm, e1]
      rw [show Op.bytesLess [32] [32] = false from rfl]
      simp [e2]
theorem leP_rep {t t' : List UInt8} (n : Nat) (h : leP t t') : leP (repT t n) (repT t' n) := by
  rw [leP_iff] at h ⊢
  unfold repT
  simp only [List.length_cons, List.length_append, List.length_nil]
  rcases h with h | ⟨h, e⟩
  · left; omega
  · right
    refine ⟨by omega, ?_⟩
    rw [bl_cons, List.append_assoc, List.append_assoc, bl_app _ _ _ _ h.symm, e, bl_irrefl]
    simp
theorem better_cases (a b : List UInt8) : betterS a b = a ∨ betterS a b = b := by
  unfold betterS; split
  · exact .inr rfl
  · exact .inl rfl
theorem better_le_left {a b : List UInt8} (ha : a ≠ []) (hb : b ≠ []) : leP (betterS a b) a := by
  unfold betterS
  split
  · rename_i h
    rcases h with h | h
    · exact absurd h ha
    · exact leP_of_less h.2
  · exact leP_refl a
theorem better_le_right {a b : List UInt8} (hb : b ≠ []) : leP (betterS a b) b := by
  unfold betterS
  split
  · exact leP_refl b
  · rename_i h
    simp only [not_or, not_and] at h
    exact h.2 hb
theorem better_ne {a b : List UInt8} (hb : b ≠ []) : betterS a b ≠ [] := by
  unfold betterS
  split
  · exact hb
  · rename_i h; simp only [not_or] at h; exact h.1
end Go.G14
