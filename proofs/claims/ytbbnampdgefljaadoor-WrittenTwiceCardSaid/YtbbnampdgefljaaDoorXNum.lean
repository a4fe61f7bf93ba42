/- Numbers in texts, and texts that are compared: plain definitions. Conditions: none. -/
import Derived.Test.YtbbnampdgefljaaDoorXStitch
set_option linter.unusedVariables false
set_option linter.unusedSimpArgs false
namespace Go.G14
open Go.Lw

def isDig (c : UInt8) : Bool := decide (48 ≤ (c.toNat : Int) ∧ (c.toNat : Int) ≤ 57)
def dstep (n : Int) (c : UInt8) : Int := 10 * n + ((c.toNat : Int) - 48)
def valS (l : List UInt8) : Int := l.foldl dstep 0
/-- The number from 2 to most that a text is, or 0. -/
def numberS (l : List UInt8) (most : Int) : Int :=
  if l.length = 0 ∨ 2 < l.length ∨ ((l.getD 0 0).toNat : Int) = 48 then 0
  else if l.all isDig = false then 0
  else if valS l < 2 ∨ most < valS l then 0 else valS l
def cstep (n : Int) (c : UInt8) : Int := min (10 * n + ((c.toNat : Int) - 48)) 1000
def capS (l : List UInt8) : Int := l.foldl cstep 0
/-- The number from 2 to most with which a text begins, and how many digits it has. -/
def countS (l : List UInt8) (most : Int) : Int × Int :=
  let ds := l.takeWhile isDig
  if ds.length = 0 ∨ ((l.getD 0 0).toNat : Int) = 48 ∨ capS ds < 2 ∨ most < capS ds then (0, 0) else (capS ds, ds.length)
def lessP (a b : List UInt8) : Prop := a.length < b.length ∨ (a.length = b.length ∧ Op.bytesLess a b = true)
instance (a b : List UInt8) : Decidable (lessP a b) := by unfold lessP; infer_instance
def betterS (a b : List UInt8) : List UInt8 := if a = [] ∨ (b ≠ [] ∧ lessP b a) then b else a

theorem take_snoc (l : List UInt8) (k : Nat) (h : k < l.length) : l.take (k + 1) = l.take k ++ [l.getD k 0] := by
  rw [List.take_succ_eq_append_getElem h]; simp [List.getD, h]
theorem valS_snoc (l : List UInt8) (c : UInt8) : valS (l ++ [c]) = dstep (valS l) c := by simp [valS]
theorem capS_snoc (l : List UInt8) (c : UInt8) : capS (l ++ [c]) = cstep (capS l) c := by simp [capS]
theorem all_snoc (l : List UInt8) (c : UInt8) (h : l.all isDig = true) (hc : isDig c = true) : (l ++ [c]).all isDig = true := by simp [h, hc]
theorem isDig_iff (c : UInt8) : isDig c = true ↔ 48 ≤ (c.toNat : Int) ∧ (c.toNat : Int) ≤ 57 := by simp [isDig]
theorem not_all_of (l : List UInt8) (k : Nat) (h : k < l.length) (hd : ¬ (48 ≤ ((l.getD k 0).toNat : Int) ∧ ((l.getD k 0).toNat : Int) ≤ 57)) : l.all isDig = false := by
  rw [Bool.eq_false_iff]
  intro ha
  rw [List.all_eq_true] at ha
  have := ha (l.getD k 0) (by simp [List.getD, h])
  exact hd ((isDig_iff _).1 this)
theorem takeWhile_eq (l : List UInt8) (k : Nat) (hk : k ≤ l.length) (ha : (l.take k).all isDig = true) (hn : ¬ (k < l.length ∧ 48 ≤ ((l.getD k 0).toNat : Int) ∧ ((l.getD k 0).toNat : Int) ≤ 57)) : l.takeWhile isDig = l.take k := by
  induction l generalizing k with
  | nil => simp
  | cons c l ih =>
    match k with
    | 0 =>
      have : isDig c = false := by
        rw [Bool.eq_false_iff]; intro e
        exact hn ⟨by simp, (isDig_iff c).1 e⟩
      simp [List.takeWhile, this]
    | k + 1 =>
      simp only [List.take_succ_cons, List.all_cons, Bool.and_eq_true] at ha
      rw [List.takeWhile_cons_of_pos ha.1, List.take_succ_cons, ih k (by simp at hk; omega) ha.2 (by simpa using hn)]
theorem count_bad {l : List UInt8} {most : Int} {k : Nat} (hw : l.takeWhile isDig = l.take k) (hk : k ≤ l.length) (c : k = 0 ∨ ((l.getD 0 0).toNat : Int) = 48 ∨ capS (l.take k) < 2 ∨ most < capS (l.take k)) : countS l most = (0, 0) := by
  have hl : (l.take k).length = k := by simp; omega
  simp only [countS, hw, hl]; rw [if_pos c]
theorem count_good {l : List UInt8} {most : Int} {k : Nat} (hw : l.takeWhile isDig = l.take k) (hk : k ≤ l.length) (c : ¬ (k = 0 ∨ ((l.getD 0 0).toNat : Int) = 48 ∨ capS (l.take k) < 2 ∨ most < capS (l.take k))) : countS l most = (capS (l.take k), (k : Int)) := by
  have hl : (l.take k).length = k := by simp; omega
  simp only [countS, hw, hl]; rw [if_neg c]
theorem valS_rng : ∀ (l : List UInt8), l.all isDig = true → 0 ≤ valS l := by
  have key : ∀ (l : List UInt8) (n : Int), 0 ≤ n → l.all isDig = true → 0 ≤ l.foldl dstep n := by
    intro l
    induction l with
    | nil => intro n h _; exact h
    | cons c l ih =>
      intro n h ha
      simp only [List.all_cons, Bool.and_eq_true] at ha
      have := (isDig_iff c).1 ha.1
      exact ih _ (by unfold dstep; omega) ha.2
  exact fun l h => key l 0 (by omega) h
theorem capS_rng : ∀ (l : List UInt8), l.all isDig = true → 0 ≤ capS l ∧ capS l ≤ 1000 := by
  have key : ∀ (l : List UInt8) (n : Int), 0 ≤ n ∧ n ≤ 1000 → l.all isDig = true → 0 ≤ l.foldl cstep n ∧ l.foldl cstep n ≤ 1000 := by
    intro l
    induction l with
    | nil => intro n h _; exact h
    | cons c l ih =>
      intro n h ha
      simp only [List.all_cons, Bool.and_eq_true] at ha
      have := (isDig_iff c).1 ha.1
      exact ih _ (by unfold cstep; omega) ha.2
  exact fun l h => key l 0 (by omega) h
theorem valS_two : ∀ (l : List UInt8) (k : Nat), k < 2 → (l.take k).all isDig = true → 0 ≤ valS (l.take k) ∧ valS (l.take k) ≤ 9
  | l, 0, _, _ => by simp [valS]
  | [], 1, _, _ => by simp [valS]
  | c :: l, 1, _, h => by
    simp at h
    have := (isDig_iff c).1 h
    simp [valS, dstep]; omega
/-- Rows of stitches in memory. -/
def Sl2 (w : World) (v : Value) (rows : List (List Stitch)) : Prop :=
  ∃ hs : List (Option Addr × Nat × Nat), Sl Enc.sl w v hs ∧ hs.length = rows.length ∧ ∀ (i : Nat) (p : Option Addr × Nat × Nat) (row : List Stitch), hs[i]? = some p → rows[i]? = some row → Sl encSt w (.slice p.1 p.2.1 p.2.2) row
theorem Sl2.ext {w w' : World} {v : Value} {rows : List (List Stitch)} (h : Sl2 w v rows) (hf : Fr [] w w') : Sl2 w' v rows := by
  obtain ⟨hs, h1, h2, h3⟩ := h
  exact ⟨hs, h1.ext hf, h2, fun i p row hp hr => (h3 i p row hp hr).ext hf⟩
theorem sl2_one {w : World} {v : Value} {A : Option Addr} {n c : Nat} {xs : List Stitch} (h : Sl Enc.sl w v [(A, n, c)]) (hx : Sl encSt w (.slice A n c) xs) : Sl2 w v [xs] := by
  refine ⟨_, h, rfl, fun i p row hp hr => ?_⟩
  match i with
  | 0 => simp at hp hr; subst hp hr; exact hx
  | i + 1 => simp at hp
/-- A slice, opened at one place. -/
theorem Sl.open_ {α : Type} {E : Enc α} {w : World} {A : Option Addr} {n c : Nat} {ys : List α} (h : Sl E w (.slice A n c) ys) : n = ys.length ∧ ys.length ≤ c ∧ c ≤ maxLen ∧ ∀ i y, ys[i]? = some y → ∃ ad, A = some ad ∧ Cells w (ad.add (i * E.sz)) (E.enc y) := by
  obtain ⟨A', c', e, h1, h2, h3⟩ := h
  cases e
  exact ⟨rfl, h1, h2, h3⟩
theorem take_ne {α : Type} {xs ys : List α} {k : Nat} {x y : α} (hx : xs[k]? = some x) (hy : ys[k]? = some y) (h : x ≠ y) : xs ≠ ys := by
  rintro rfl; rw [hx] at hy; cases hy; exact h rfl
/-- The text of a number below 100. -/
def itoaS (n : Nat) : List UInt8 := if n < 10 then [dg n] else [dg ((n / 10 : Nat) : Int), dg ((n % 10 : Nat) : Int)]
end Go.G14
