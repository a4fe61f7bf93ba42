/- Written rows as they are read: plain definitions. Conditions: none. -/
import Derived.Test.YtbbnampdgefljaaDoorXNum
set_option linter.unusedVariables false
set_option linter.unusedSimpArgs false
namespace Go.G14
open Go.Lw

/-- Where a word ends: at the first space or bracket from an index on. -/
def endS (l : List UInt8) : Nat → Nat → Nat
  | 0, p => p
  | m + 1, p => if p < l.length ∧ l.getD p 0 ≠ 32 ∧ l.getD p 0 ≠ 93 then endS l m (p + 1) else p
def wordEnd (l : List UInt8) (p : Nat) : Nat := endS l (l.length - p) p

def leafS (l : List UInt8) (p : Nat) : Option (List Stitch × Nat) :=
  let t := parseS ((l.take (wordEnd l p)).drop p)
  if t.2 = 0 then some ([t.1], wordEnd l p) else none
def timesS (xs : List Stitch) (n : Nat) : List Stitch := (List.replicate n xs).flatten
/-- Behind the row of a repeat. -/
def closeS (l : List UInt8) (xs : List Stitch) (q : Nat) : Option (List Stitch × Nat) :=
  if [93, 120] <+: l.drop q then
    let c := countS (l.drop (q + 2)) 16
    if 0 < c.2 then some ((timesS xs c.1.toNat).take 17, q + 2 + c.2.toNat) else none
  else none
/-- An item (tag false) or a row with what was read of it (tag true). -/
def readS (l : List UInt8) : Nat → Bool → Nat → List Stitch → Option (List Stitch × Nat)
  | 0, false, p, _ => if p = l.length ∨ l.getD p 0 ≠ 91 then leafS l p else none
  | 0, true, _, _ => none
  | F + 1, false, p, _ =>
    if p = l.length ∨ l.getD p 0 ≠ 91 then leafS l p
    else match readS l F true (p + 1) [] with
      | none => none
      | some (xs, q) => closeS l xs q
  | F + 1, true, p, acc =>
    match readS l F false p [] with
    | none => none
    | some (xs, q) => if q = l.length ∨ l.getD q 0 ≠ 32 then some ((acc ++ xs).take 17, q) else readS l F true (q + 1) ((acc ++ xs).take 17)
/-- The row of a text, if it is a written row: its first 17 stitches. -/
def rowS (l : List UInt8) : Option (List Stitch) :=
  match readS l (2 * l.length + 1) true 0 [] with
  | some (xs, q) => if q = l.length then some xs else none
  | none => none
/-- The row of a text, and the error. -/
def expandS (l : List UInt8) : List Stitch × Int :=
  if 1024 < l.length then ([], 3)
  else match rowS l with
    | none => ([], 4)
    | some xs => if 16 < xs.length then ([], 3) else (xs, 0)

theorem endS_rng (l : List UInt8) : ∀ m p, p ≤ l.length → p ≤ endS l m p ∧ endS l m p ≤ l.length
  | 0, p, h => ⟨Nat.le_refl _, h⟩
  | m + 1, p, h => by
    unfold endS
    split
    · rename_i c
      have := endS_rng l m (p + 1) (by omega)
      omega
    · exact ⟨Nat.le_refl _, h⟩
theorem wordEnd_rng {l : List UInt8} {p : Nat} (h : p ≤ l.length) : p ≤ wordEnd l p ∧ wordEnd l p ≤ l.length := endS_rng l _ p h
theorem wordEnd_here {l : List UInt8} {p : Nat} (h : ¬ (p < l.length ∧ l.getD p 0 ≠ 32 ∧ l.getD p 0 ≠ 93)) : wordEnd l p = p := by
  unfold wordEnd
  cases l.length - p with
  | zero => rfl
  | succ m => rw [endS, if_neg h]
theorem wordEnd_next {l : List UInt8} {p : Nat} (h : p < l.length ∧ l.getD p 0 ≠ 32 ∧ l.getD p 0 ≠ 93) : wordEnd l p = wordEnd l (p + 1) := by
  unfold wordEnd
  rw [show l.length - p = l.length - (p + 1) + 1 by omega, endS, if_pos h]
theorem parse_nil : (parseS []).2 = 4 := rfl
theorem leaf_pos {l : List UInt8} {p : Nat} {xs : List Stitch} {q : Nat} (h : leafS l p = some (xs, q)) (hp : p ≤ l.length) : p < q ∧ q ≤ l.length ∧ xs.length = 1 := by
  unfold leafS at h
  simp only at h
  split at h
  · rename_i hz
    simp at h
    obtain ⟨rfl, rfl⟩ := h
    have := wordEnd_rng hp
    refine ⟨?_, this.2, rfl⟩
    rcases Nat.lt_or_ge p (wordEnd l p) with c | c
    · exact c
    · have e : wordEnd l p = p := by omega
      rw [e, show (l.take p).drop p = [] by simp] at hz
      rw [parse_nil] at hz; omega
  · cases h
theorem all_tw : ∀ (l : List UInt8), (l.takeWhile isDig).all isDig = true
  | [] => rfl
  | c :: l => by
    by_cases h : isDig c = true
    · rw [List.takeWhile_cons_of_pos h, List.all_cons, h, all_tw l]; rfl
    · rw [List.takeWhile_cons_of_neg h]; rfl
theorem count_rng {l : List UInt8} {m : Int} : 0 ≤ (countS l m).2 ∧ (countS l m).2 ≤ l.length ∧ ((countS l m).2 = 0 → (countS l m).1 = 0) ∧ 0 ≤ (countS l m).1 ∧ (0 ≤ m → (countS l m).1 ≤ m) := by
  unfold countS
  simp only
  have h1 : (l.takeWhile isDig).length ≤ l.length := (List.takeWhile_sublist _).length_le
  have h2 := capS_rng _ (all_tw l)
  split
  · simp
  · rename_i c
    exact ⟨by simp, by simp only; omega, fun h => by simp only at h; omega, h2.1, fun _ => by simp only; omega⟩
theorem close_pos {l : List UInt8} {xs ys : List Stitch} {q r : Nat} (h : closeS l xs q = some (ys, r)) : q < r ∧ r ≤ l.length ∧ ys.length ≤ 17 := by
  unfold closeS at h
  split at h
  · rename_i hp
    simp only at h
    split at h
    · simp at h
      obtain ⟨rfl, rfl⟩ := h
      have h1 := @count_rng (l.drop (q + 2)) 16
      have h2 := hp.length_le
      simp at h1 h2
      refine ⟨by omega, by omega, by simp; omega⟩
    · cases h
  · cases h
theorem read_pos {l : List UInt8} : ∀ (F : Nat) (t : Bool) (p : Nat) (acc xs : List Stitch) (q : Nat), p ≤ l.length → readS l F t p acc = some (xs, q) → p < q ∧ q ≤ l.length ∧ xs.length ≤ 17
  | 0, false, p, acc, xs, q, hp, h => by
    unfold readS at h
    split at h
    · have := leaf_pos h hp; omega
    · cases h
  | 0, true, p, acc, xs, q, hp, h => by unfold readS at h; cases h
  | F + 1, false, p, acc, xs, q, hp, h => by
    unfold readS at h
    split at h
    · have := leaf_pos h hp; omega
    · rename_i c
      have c' : p < l.length := by omega
      cases hr : readS l F true (p + 1) [] with
      | none => rw [hr] at h; cases h
      | some r =>
        obtain ⟨ys, r⟩ := r
        rw [hr] at h
        have := read_pos F true (p + 1) [] ys r (by omega) hr
        have := close_pos h
        omega
  | F + 1, true, p, acc, xs, q, hp, h => by
    unfold readS at h
    cases hr : readS l F false p [] with
    | none => rw [hr] at h; cases h
    | some r =>
      obtain ⟨ys, r⟩ := r
      rw [hr] at h
      simp only at h
      have h1 := read_pos F false p [] ys r hp hr
      split at h
      · simp at h
        obtain ⟨rfl, rfl⟩ := h
        refine ⟨h1.1, h1.2.1, by simp; omega⟩
      · rename_i c
        have := read_pos F true (r + 1) _ xs q (by omega) h
        omega
theorem take_min {α : Type} (l : List α) (n : Nat) : l.take (min l.length n) = l.take n := by
  rcases Nat.le_total l.length n with h | h
  · rw [Nat.min_eq_left h, List.take_of_length_le (Nat.le_refl _), List.take_of_length_le h]
  · rw [Nat.min_eq_right h]
theorem times_succ (xs : List Stitch) (n : Nat) : timesS xs (n + 1) = timesS xs n ++ xs := by
  simp [timesS, List.replicate_succ']
theorem times_len (xs : List Stitch) (n : Nat) : (timesS xs n).length = n * xs.length := by simp [timesS]
theorem read_row_none {l : List UInt8} {m p : Nat} {acc : List Stitch} (h : readS l m false p [] = none) : readS l (m + 1) true p acc = none := by rw [readS, h]
theorem read_row_end {l : List UInt8} {m p q : Nat} {acc xs : List Stitch} (h : readS l m false p [] = some (xs, q)) (c : q = l.length ∨ l.getD q 0 ≠ 32) : readS l (m + 1) true p acc = some ((acc ++ xs).take 17, q) := by
  simp only [readS, h]; rw [if_pos c]
theorem read_row_next {l : List UInt8} {m p q : Nat} {acc xs : List Stitch} (h : readS l m false p [] = some (xs, q)) (c : ¬ (q = l.length ∨ l.getD q 0 ≠ 32)) : readS l (m + 1) true p acc = readS l m true (q + 1) ((acc ++ xs).take 17) := by
  simp only [readS, h]; rw [if_neg c]
theorem read_leaf {l : List UInt8} {F p : Nat} {acc : List Stitch} (c : p = l.length ∨ l.getD p 0 ≠ 91) : readS l F false p acc = leafS l p := by
  cases F <;> rw [readS, if_pos c]
theorem read_rep {l : List UInt8} {m p : Nat} {acc : List Stitch} (c : ¬ (p = l.length ∨ l.getD p 0 ≠ 91)) : readS l (m + 1) false p acc = match readS l m true (p + 1) [] with | none => none | some (xs, q) => closeS l xs q := by
  rw [readS, if_neg c]
theorem leaf_some {l : List UInt8} {p k : Nat} (hk : k = wordEnd l p) (h : (parseS ((l.take k).drop p)).2 = 0) : leafS l p = some ([(parseS ((l.take k).drop p)).1], k) := by
  subst hk; rw [leafS, if_pos h]
theorem leaf_none {l : List UInt8} {p k : Nat} (hk : k = wordEnd l p) (h : ¬ (parseS ((l.take k).drop p)).2 = 0) : leafS l p = none := by
  subst hk; rw [leafS, if_neg h]
theorem or_byte {l : List UInt8} {p : Nat} {c : UInt8} (h : p = l.length ∨ ((l.getD p 0).toNat : Int) ≠ (c.toNat : Int)) : p = l.length ∨ l.getD p 0 ≠ c := h.imp id fun e e' => e (by rw [e'])
theorem nor_byte {l : List UInt8} {p : Nat} {c : UInt8} (h : ¬ (p = l.length ∨ ((l.getD p 0).toNat : Int) ≠ (c.toNat : Int))) : ¬ (p = l.length ∨ l.getD p 0 ≠ c) := fun e => h (e.imp id fun e e' => e (byte_eq.1 e'))
end Go.G14
