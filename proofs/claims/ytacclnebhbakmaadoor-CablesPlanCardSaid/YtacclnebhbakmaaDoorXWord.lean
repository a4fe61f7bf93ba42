/- The word of a cable, plain. Conditions: none. -/
import Derived.Test.YtacclnebhbakmaaDoorXCross
set_option linter.unusedVariables false
set_option linter.unusedSimpArgs false
namespace Go.Lw
open Go.RowKit
def wrow (B : Nat) (sg : Int) (x R : Nat) : List Int := (List.range R).map (fun r : Nat => sg * ((B : Int) + (x : Int) + (r : Int)))
def wordF (B L R : Nat) (sg : Int) : Nat → List Int
  | 0 => []
  | m + 1 => wordF B L R sg m ++ wrow B sg (L - m) R
theorem wrow_len (B : Nat) (sg : Int) (x R : Nat) : (wrow B sg x R).length = R := by simp [wrow]
theorem wrow_succ (B : Nat) (sg : Int) (x r : Nat) : wrow B sg x (r + 1) = wrow B sg x r ++ [sg * ((B : Int) + (x : Int) + (r : Int))] := by simp [wrow, List.range_succ]
theorem wordF_len (B L R : Nat) (sg : Int) : ∀ m, (wordF B L R sg m).length = m * R
  | 0 => by simp [wordF]
  | m + 1 => by rw [wordF, List.length_append, wordF_len B L R sg m, wrow_len, Nat.succ_mul]
def loopsOk (l : List Int) : Prop := ∀ j, j < l.length → 1 ≤ l.getD j 0 ∧ l.getD j 0 ≤ 4
instance (l : List Int) : Decidable (loopsOk l) := by unfold loopsOk; infer_instance
def errW (l : List Int) (i a b : Int) : Int := if ¬ loopsOk l then 1 else if ¬ szOk a b then 1 else if i < 0 ∨ (l.length : Int) - a - b < i then 5 else 0
def wordCN (l : List Int) (i a b : Nat) (front : Bool) : List Int :=
  wordF (l.take i).sum.toNat ((l.take (i + a)).drop i).sum.toNat ((l.take (i + a + b)).drop (i + a)).sum.toNat (if front = true then 1 else -1) ((l.take (i + a)).drop i).sum.toNat
def wordC (l : List Int) (i a b : Int) (front : Bool) : List Int := if errW l i a b = 0 then wordCN l i.toNat a.toNat b.toNat front else []
theorem wordC_err {l : List Int} {i a b : Int} {front : Bool} (h : errW l i a b ≠ 0) : wordC l i a b front = [] := if_neg h
theorem errW_1 {l : List Int} {i a b : Int} (h : ¬ loopsOk l) : errW l i a b = 1 := if_pos h
theorem errW_2 {l : List Int} {i a b : Int} (h : loopsOk l) (h2 : ¬ szOk a b) : errW l i a b = 1 := by rw [errW, if_neg (fun e => e h), if_pos h2]
theorem errW_3 {l : List Int} {i a b : Int} (h : loopsOk l) (h2 : szOk a b) (h3 : i < 0 ∨ (l.length : Int) - a - b < i) : errW l i a b = 5 := by rw [errW, if_neg (fun e => e h), if_neg (fun e => e h2), if_pos h3]
theorem errW_4 {l : List Int} {i a b : Int} (h : loopsOk l) (h2 : szOk a b) (h3 : ¬ (i < 0 ∨ (l.length : Int) - a - b < i)) : errW l i a b = 0 := by rw [errW, if_neg (fun e => e h), if_neg (fun e => e h2), if_neg h3]
theorem sum_bd4 : ∀ (l : List Int), (∀ z ∈ l, 1 ≤ z ∧ z ≤ 4) → 0 ≤ l.sum ∧ l.sum ≤ 4 * (l.length : Int)
  | [], _ => by simp
  | z :: l, h => by
    have h1 := sum_bd4 l (fun y hy => h y (List.mem_cons_of_mem _ hy))
    have h2 := h z List.mem_cons_self
    rw [List.sum_cons, List.length_cons]; omega
theorem loops_mem {l : List Int} (h : loopsOk l) {z : Int} (hz : z ∈ l) : 1 ≤ z ∧ z ≤ 4 := by
  obtain ⟨i, hi, rfl⟩ := List.getElem_of_mem hz
  rw [getD_at l i hi 0]; exact h i hi
theorem sum_nat {l l' : List Int} (h : loopsOk l) (hs : ∀ z ∈ l', z ∈ l) (hl : l'.length ≤ 100) : ∃ n : Nat, l'.sum = (n : Int) ∧ n ≤ 400 ∧ n = l'.sum.toNat := by
  have := sum_bd4 l' (fun z hz => loops_mem h (hs z hz))
  exact ⟨l'.sum.toNat, by omega, by omega, rfl⟩
theorem loops_at {l l' : List Int} (h : loopsOk l) (hs : ∀ z ∈ l', z ∈ l) : ∀ j, j < l'.length → 0 ≤ l'.getD j 0 ∧ l'.getD j 0 ≤ 1000 := fun j hj => by
  have := loops_mem h (hs (l'.getD j 0) (by rw [← getD_at l' j hj 0]; exact List.getElem_mem _))
  omega
end Go.Lw
