/- What a stitch needs and makes, and the loops of the slots that it makes: plain definitions. Conditions: none. -/
import Derived.Test.YtbbnampdgefljaaDoorXRefT
set_option linter.unusedVariables false
set_option linter.unusedSimpArgs false
namespace Go.G14
open Go.Lw

def needsS (s : Stitch) : Int := if checkS s ≠ 0 ∨ s.k = 3 then 0 else if s.k = 8 then s.a + s.b else if s.k = 4 ∨ s.k = 5 then 2 else 1
def makesS (s : Stitch) : Int := if checkS s ≠ 0 then 0 else if s.k = 8 then s.a + s.b else 1
def few (n : Int) : Bool := decide (1 ≤ n ∧ n ≤ 3)
def loadsS (s : Stitch) (l : List Int) : List Int × Int :=
  if checkS s ≠ 0 then ([], 1) else if (l.length : Int) ≠ needsS s then ([], 5) else if l.all few = false then ([], 1)
  else if s.k = 4 ∨ s.k = 5 then (if 4 < l.getD 0 0 + l.getD 1 0 then ([], 9) else ([1], 0))
  else if s.k = 6 then (if l.getD 0 0 = 3 then ([], 9) else ([l.getD 0 0 + 1], 0))
  else if s.k = 7 then ([l.getD 0 0], 0) else (List.replicate (makesS s).toNat 1, 0)
theorem few_iff (n : Int) : few n = true ↔ 1 ≤ n ∧ n ≤ 3 := by simp [few]
theorem needs_rng (s : Stitch) : 0 ≤ needsS s ∧ needsS s ≤ 4 := by
  unfold needsS
  split
  · omega
  · rename_i h
    have hc : checkS s = 0 := Decidable.not_not.1 fun e => h (.inl e)
    have hr := check_rng hc
    (repeat' split) <;> first | omega | (rename_i h8; have := hr.2.2.2.2.2 h8; omega)
theorem makes_rng (s : Stitch) : 0 ≤ makesS s ∧ makesS s ≤ 4 := by
  unfold makesS
  split
  · omega
  · rename_i h
    have hr := check_rng (Decidable.not_not.1 h)
    split
    · rename_i h8; have := hr.2.2.2.2.2 h8; omega
    · omega
variable {s : Stitch} {l : List Int}
theorem needs_0 (h : checkS s ≠ 0 ∨ s.k = 3) : needsS s = 0 := if_pos h
theorem needs_8 (h : checkS s = 0) (h8 : s.k = 8) : needsS s = s.a + s.b := by rw [needsS, if_neg (by omega), if_pos h8]
theorem needs_2 (h : checkS s = 0) (h4 : s.k = 4 ∨ s.k = 5) : needsS s = 2 := by rw [needsS, if_neg (by omega), if_neg (by omega), if_pos h4]
theorem needs_1 (h : checkS s = 0) (h3 : s.k ≠ 3) (h8 : s.k ≠ 8) (h4 : ¬ (s.k = 4 ∨ s.k = 5)) : needsS s = 1 := by rw [needsS, if_neg (by omega), if_neg h8, if_neg h4]
theorem makes_0 (h : checkS s ≠ 0) : makesS s = 0 := if_pos h
theorem makes_8 (h : checkS s = 0) (h8 : s.k = 8) : makesS s = s.a + s.b := by rw [makesS, if_neg (by omega), if_pos h8]
theorem makes_1 (h : checkS s = 0) (h8 : s.k ≠ 8) : makesS s = 1 := by rw [makesS, if_neg (by omega), if_neg h8]
theorem loads_1 (h : checkS s ≠ 0) : loadsS s l = ([], 1) := if_pos h
theorem loads_5 (h : checkS s = 0) (hn : (l.length : Int) ≠ needsS s) : loadsS s l = ([], 5) := by rw [loadsS, if_neg (by omega), if_pos hn]
theorem loads_b (h : checkS s = 0) (hn : (l.length : Int) = needsS s) {k : Nat} {x : Int} (hx : l[k]? = some x) (hb : ¬ (1 ≤ x ∧ x ≤ 3)) : loadsS s l = ([], 1) := by
  have hf : l.all few = false := by
    rw [Bool.eq_false_iff]
    intro e
    exact hb ((few_iff x).1 (List.all_eq_true.1 e x (List.mem_of_getElem? hx)))
  rw [loadsS, if_neg (by omega), if_neg (by omega), if_pos hf]
variable (h : checkS s = 0) (hn : (l.length : Int) = needsS s) (hf : l.all few = true)
include h hn hf
theorem loads_g : loadsS s l = if s.k = 4 ∨ s.k = 5 then (if 4 < l.getD 0 0 + l.getD 1 0 then ([], 9) else ([1], 0))
  else if s.k = 6 then (if l.getD 0 0 = 3 then ([], 9) else ([l.getD 0 0 + 1], 0))
  else if s.k = 7 then ([l.getD 0 0], 0) else (List.replicate (makesS s).toNat 1, 0) := by
  rw [loadsS, if_neg (by omega), if_neg (by omega), if_neg (by rw [hf]; simp)]
theorem loads_2f (h4 : s.k = 4 ∨ s.k = 5) {x y : Int} (hx : l[0]? = some x) (hy : l[1]? = some y) (hc : 4 < x + y) : loadsS s l = ([], 9) := by
  rw [loads_g h hn hf, if_pos h4, if_pos (by rw [List.getD, List.getD, hx, hy]; exact hc)]
theorem loads_2 (h4 : s.k = 4 ∨ s.k = 5) {x y : Int} (hx : l[0]? = some x) (hy : l[1]? = some y) (hc : ¬ 4 < x + y) : loadsS s l = ([1], 0) := by
  rw [loads_g h hn hf, if_pos h4, if_neg (by rw [List.getD, List.getD, hx, hy]; exact hc)]
theorem loads_6f (h6 : s.k = 6) {x : Int} (hx : l[0]? = some x) (hc : x = 3) : loadsS s l = ([], 9) := by
  rw [loads_g h hn hf, if_neg (by omega), if_pos h6, if_pos (by rw [List.getD, hx]; exact hc)]
theorem loads_6 (h6 : s.k = 6) {x : Int} (hx : l[0]? = some x) (hc : ¬ x = 3) : loadsS s l = ([x + 1], 0) := by
  rw [loads_g h hn hf, if_neg (by omega), if_pos h6, if_neg (by rw [List.getD, hx]; exact hc), List.getD, hx]; rfl
theorem loads_7 (h7 : s.k = 7) {x : Int} (hx : l[0]? = some x) : loadsS s l = ([x], 0) := by
  rw [loads_g h hn hf, if_neg (by omega), if_neg (by omega), if_pos h7, List.getD, hx]; rfl
theorem loads_o (h4 : ¬ (s.k = 4 ∨ s.k = 5)) (h6 : s.k ≠ 6) (h7 : s.k ≠ 7) : loadsS s l = (List.replicate (makesS s).toNat 1, 0) := by
  rw [loads_g h hn hf, if_neg h4, if_neg h6, if_neg h7]
omit h hn hf
theorem all_few_next {l : List Int} {k : Nat} {x : Int} (ha : (l.take k).all few = true) (hx : l[k]? = some x) (h : 1 ≤ x ∧ x ≤ 3) : (l.take (k + 1)).all few = true := by
  rw [List.take_add_one, hx]; simp [ha, (few_iff x).2 h]
theorem rep_succ (n : Nat) : List.replicate (n + 1) (1 : Int) = List.replicate n 1 ++ [1] := List.replicate_succ'
/-- What Loads makes of few loops is few again. -/
theorem loads_few (h0 : (loadsS s l).2 = 0) : (loadsS s l).1.all few = true ∧ ((loadsS s l).1.length : Int) = makesS s ∧ checkS s = 0 := by
  unfold loadsS at h0 ⊢
  by_cases h : checkS s ≠ 0
  · rw [if_pos h] at h0; simp at h0
  by_cases hn : (l.length : Int) ≠ needsS s
  · rw [if_neg h, if_pos hn] at h0; simp at h0
  by_cases hf : l.all few = false
  · rw [if_neg h, if_neg hn, if_pos hf] at h0; simp at h0
  rw [if_neg h, if_neg hn, if_neg hf] at h0 ⊢
  have hf' : l.all few = true := by simpa using hf
  have hc : checkS s = 0 := Decidable.not_not.1 h
  have hnn : (l.length : Int) = needsS s := Decidable.not_not.1 hn
  have get0 : s.k = 6 ∨ s.k = 7 → 1 ≤ l.getD 0 0 ∧ l.getD 0 0 ≤ 3 := by
    intro hk
    have hl : l.length = 1 := by have := needs_1 hc (by omega) (by omega) (by omega); omega
    obtain ⟨x, rfl⟩ := List.length_eq_one_iff.1 hl
    simpa [few] using hf'
  by_cases h4 : s.k = 4 ∨ s.k = 5
  · rw [if_pos h4] at h0 ⊢
    split at h0
    · simp at h0
    · rename_i c; rw [if_neg c]; exact ⟨rfl, by rw [makes_1 hc (by omega)]; rfl, hc⟩
  rw [if_neg h4] at h0 ⊢
  by_cases h6 : s.k = 6
  · rw [if_pos h6] at h0 ⊢
    have := get0 (.inl h6)
    split at h0
    · simp at h0
    · rename_i c; rw [if_neg c]; exact ⟨by simp only [List.all_cons, List.all_nil, Bool.and_true]; exact (few_iff _).2 (by omega), by rw [makes_1 hc (by omega)]; rfl, hc⟩
  rw [if_neg h6]
  by_cases h7 : s.k = 7
  · rw [if_pos h7]
    have := get0 (.inr h7)
    exact ⟨by simp only [List.all_cons, List.all_nil, Bool.and_true]; exact (few_iff _).2 (by omega), by rw [makes_1 hc (by omega)]; rfl, hc⟩
  rw [if_neg h7]
  have := makes_rng s
  exact ⟨by simp [few], by simp; omega, hc⟩
end Go.G14
