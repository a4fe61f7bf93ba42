/- The errors of a cable as the law reckons them, plain. Conditions: none. -/
import Derived.Test.YtacclnebhbakmaaDoorXWord
set_option linter.unusedVariables false
set_option linter.unusedSimpArgs false
namespace Go.Lw
open Go.RowKit
def widB (l : List Int) (z0 z1 z2 : Int) : Prop := (z0 < 0 ∨ (l.length : Int) < z0) ∨ (l.length : Int) - z0 < IntKind.i64.wrap (z1 + z2)
instance (l : List Int) (z0 z1 z2 : Int) : Decidable (widB l z0 z1 z2) := by unfold widB; infer_instance
def sizB (z1 z2 : Int) : Prop := (((z1 < 1 ∨ z2 < 1) ∨ 3 < z1) ∨ 3 < z2) ∨ 4 < z1 + z2
instance (z1 z2 : Int) : Decidable (sizB z1 z2) := by unfold sizB; infer_instance
def cntC (l : List Int) (z0 z1 z2 : Int) : Int := if sizB z1 z2 then 1 else if widB l z0 z1 z2 then 5 else 0
def wantC (l : List Int) (z0 z1 z2 : Int) : Int := if Asc l then cntC l z0 z1 z2 else 1
theorem siz_iff {z1 z2 : Int} : sizB z1 z2 ↔ ¬ szOk z1 z2 := by unfold sizB szOk; omega
theorem wid_iff {l : List Int} {z0 z1 z2 : Int} (h : szOk z1 z2) : widB l z0 z1 z2 ↔ (z0 < 0 ∨ (l.length : Int) - z1 - z2 < z0) := by
  unfold szOk at h
  unfold widB
  rw [wi6 (by omega)]; omega
theorem cnt_eq (l : List Int) (z0 z1 z2 : Int) : cntC l z0 z1 z2 = if ¬ szOk z1 z2 then 1 else if z0 < 0 ∨ (l.length : Int) - z1 - z2 < z0 then 5 else 0 := by
  unfold cntC
  by_cases h : szOk z1 z2
  · simp only [siz_iff, h, not_true_eq_false, if_false, wid_iff h]
  · simp only [siz_iff, h, not_false_eq_true, if_true]
theorem err_want (l : List Int) (z0 z1 z2 : Int) (front : Bool) : errC l z0 z1 z2 front = if wantC l z0 z1 z2 = 0 ∧ ¬ fitS l z0.toNat z1.toNat z2.toNat front then 15 else wantC l z0 z1 z2 := by
  by_cases ha : Asc l <;> by_cases hs : szOk z1 z2 <;> by_cases hd : z0 < 0 ∨ (l.length : Int) - z1 - z2 < z0 <;> by_cases hf : fitS l z0.toNat z1.toNat z2.toNat front <;> simp [errC, wantC, cnt_eq, ha, hs, hd, hf]
theorem want0 {l : List Int} {z0 z1 z2 : Int} (h : wantC l z0 z1 z2 = 0) : Asc l ∧ szOk z1 z2 ∧ ¬ (z0 < 0 ∨ (l.length : Int) - z1 - z2 < z0) := by
  by_cases ha : Asc l
  · have hw : wantC l z0 z1 z2 = cntC l z0 z1 z2 := if_pos ha
    rw [hw, cnt_eq] at h
    by_cases hs : szOk z1 z2
    · rw [if_neg (fun e => e hs)] at h
      refine ⟨ha, hs, fun hd => ?_⟩
      rw [if_pos hd] at h; cases h
    · rw [if_pos hs] at h; cases h
  · rw [show wantC l z0 z1 z2 = 1 from if_neg ha] at h; cases h
theorem want_t {l : List Int} {z0 z1 z2 : Int} (h : (if Asc l then (0 : Int) else 1) = 0) : cntC l z0 z1 z2 = wantC l z0 z1 z2 := by
  unfold wantC; by_cases ha : Asc l
  · rw [if_pos ha]
  · rw [if_neg ha] at h; cases h
theorem want_f {l : List Int} {z0 z1 z2 : Int} (h : ¬ (if Asc l then (0 : Int) else 1) = 0) : (if Asc l then (0 : Int) else 1) = wantC l z0 z1 z2 := by
  unfold wantC; by_cases ha : Asc l
  · rw [if_pos ha] at h; exact absurd rfl h
  · rw [if_neg ha, if_neg ha]
/-- The error of the word, as far as the loops have been looked at. -/
def wordE (l : List Int) (z0 z1 z2 : Int) (i : Nat) : Int := if ∀ j, j < i → 1 ≤ l.getD j 0 ∧ l.getD j 0 ≤ 4 then cntC l z0 z1 z2 else 1
theorem wordE_t {l : List Int} {z0 z1 z2 : Int} {i : Nat} (h : l.getD i 0 < 1 ∨ 4 < l.getD i 0) : wordE l z0 z1 z2 (i + 1) = 1 := if_neg (fun e => by have := e i (by omega); omega)
theorem wordE_f {l : List Int} {z0 z1 z2 : Int} {i : Nat} (h : ¬ (l.getD i 0 < 1 ∨ 4 < l.getD i 0)) : wordE l z0 z1 z2 (i + 1) = wordE l z0 z1 z2 i := by
  unfold wordE
  by_cases hb : ∀ j, j < i → 1 ≤ l.getD j 0 ∧ l.getD j 0 ≤ 4
  · rw [if_pos hb, if_pos (fun j hj => by
      rcases Nat.lt_or_ge j i with h' | h'
      · exact hb j h'
      · have : j = i := by omega
        subst this; omega)]
  · rw [if_neg hb, if_neg (fun e => hb fun j hj => e j (by omega))]
theorem wordE_all (l : List Int) (z0 z1 z2 : Int) : wordE l z0 z1 z2 l.length = errW l z0 z1 z2 := by
  unfold wordE errW
  rw [cnt_eq]
  by_cases h : loopsOk l
  · rw [if_pos (c := ∀ j, j < l.length → 1 ≤ l.getD j 0 ∧ l.getD j 0 ≤ 4) h, if_neg (c := ¬ loopsOk l) (fun e => e h)]
  · rw [if_neg (c := ∀ j, j < l.length → 1 ≤ l.getD j 0 ∧ l.getD j 0 ≤ 4) h, if_pos (c := ¬ loopsOk l) h]
theorem wordE_0 (l : List Int) (z0 z1 z2 : Int) : wordE l z0 z1 z2 0 = cntC l z0 z1 z2 := if_pos (fun j hj => absurd hj (Nat.not_lt_zero j))
end Go.Lw
