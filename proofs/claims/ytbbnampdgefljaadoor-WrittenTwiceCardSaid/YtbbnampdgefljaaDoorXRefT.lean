/- The table of the reference's shortest texts, as a list; when a part is some copies of its first stitches. Conditions: none. -/
import Derived.Test.YtbbnampdgefljaaDoorXRefS
set_option linter.unusedVariables false
set_option linter.unusedSimpArgs false
namespace Go.G14
open Go.Lw

theorem idx_lt {n a m : Nat} (h : a + m ≤ n) : a * (n + 1) + a + m < (n + 1) * (n + 1) := by
  have : a * (n + 1) ≤ n * (n + 1) := Nat.mul_le_mul_right _ (by omega)
  rw [Nat.add_mul n 1 (n + 1)]; omega
theorem idx_inj {n a m i L : Nat} (h1 : a + m ≤ n) (h2 : i + L ≤ n) (h : a * (n + 1) + a + m = i * (n + 1) + i + L) : a = i ∧ m = L := by
  have key : ∀ {a m i L : Nat}, a + m ≤ n → i + L ≤ n → a * (n + 1) + a + m = i * (n + 1) + i + L → ¬ a < i := by
    intro a m i L h1 h2 h hlt
    have : (a + 1) * (n + 1) ≤ i * (n + 1) := Nat.mul_le_mul_right _ hlt
    rw [Nat.add_mul] at this; omega
  have e : a = i := by have := key h1 h2 h; have := key h2 h1 h.symm; omega
  subst e; omega
def Filled (xs : List Stitch) (L i : Nat) (tab : List (List UInt8)) : Prop :=
  tab.length = (xs.length + 1) * (xs.length + 1) ∧ ∀ a m, 1 ≤ m → a + m ≤ xs.length → (m < L ∨ (m = L ∧ a < i)) → tab[a * (xs.length + 1) + a + m]? = some (bT xs a m)
theorem fill_start (xs : List Stitch) : Filled xs 1 0 (List.replicate ((xs.length + 1) * (xs.length + 1)) []) :=
  ⟨by simp, fun a m h1 _ h => by omega⟩
theorem fill_next {xs : List Stitch} {L i : Nat} {tab : List (List UInt8)} (hi : xs.length < i + L) (h : Filled xs L i tab) : Filled xs (L + 1) 0 tab :=
  ⟨h.1, fun a m h1 h2 h3 => h.2 a m h1 h2 (by omega)⟩
theorem fill_set {xs : List Stitch} {L i : Nat} {tab : List (List UInt8)} (hi : i + L ≤ xs.length) (h : Filled xs L i tab) : Filled xs L (i + 1) (tab.set (i * (xs.length + 1) + i + L) (bT xs i L)) := by
  refine ⟨by rw [List.length_set]; exact h.1, fun a m h1 h2 h3 => ?_⟩
  rw [List.getElem?_set]
  by_cases e : i * (xs.length + 1) + i + L = a * (xs.length + 1) + a + m
  · obtain ⟨rfl, rfl⟩ := idx_inj hi h2 e
    rw [if_pos rfl, if_pos (by rw [h.1]; exact idx_lt hi)]
  · rw [if_neg e]
    refine h.2 a m h1 h2 ?_
    rcases h3 with h3 | ⟨h3, h4⟩
    · exact .inl h3
    · rcases Nat.lt_or_ge a i with h5 | h5
      · exact .inr ⟨h3, h5⟩
      · exfalso; apply e; rw [show a = i by omega, h3]
def sameB (xs : List Stitch) (i k d : Nat) : Bool := (List.range d).all fun t => decide (xs[i + k + t]? = xs[i + t]?)
theorem same_zero (xs : List Stitch) (i k : Nat) : sameB xs i k 0 = true := rfl
theorem same_next (xs : List Stitch) (i k d : Nat) : sameB xs i k (d + 1) = (sameB xs i k d && decide (xs[i + k + d]? = xs[i + d]?)) := by
  simp [sameB, List.range_succ, List.all_append]
theorem same_yes {xs : List Stitch} {i k d : Nat} {x y : Stitch} (hx : xs[i + k + d]? = some x) (hy : xs[i + d]? = some y) (h : x = y) : sameB xs i k (d + 1) = sameB xs i k d := by
  rw [same_next, hx, hy, h]; simp
theorem same_no {xs : List Stitch} {i k d : Nat} {x y : Stitch} (hx : xs[i + k + d]? = some x) (hy : xs[i + d]? = some y) (h : x ≠ y) : sameB xs i k (d + 1) = false := by
  rw [same_next, hx, hy]; simp [h]
theorem same_reps {xs : List Stitch} {i n k : Nat} (hi : i + n ≤ xs.length) (hk : k ≤ n) : sameB xs i k (n - k) = repsB xs i n k := by
  have e : (sameB xs i k (n - k) = true) ↔ (repsB xs i n k = true) := by
    unfold sameB repsB partS
    rw [List.all_eq_true, decide_eq_true_iff]
    constructor
    · intro h
      apply List.ext_getElem?
      intro t
      rw [List.getElem?_drop, List.getElem?_take, List.getElem?_take, List.getElem?_take, List.getElem?_drop, List.getElem?_drop]
      rcases Nat.lt_or_ge t (n - k) with ht | ht
      · rw [if_pos (by omega), if_pos ht, if_pos (by omega)]
        have := h t (List.mem_range.2 ht)
        rw [decide_eq_true_iff, Nat.add_assoc] at this
        exact this
      · rw [if_neg (by omega), if_neg (by omega)]
    · intro h t ht
      have ht := List.mem_range.1 ht
      have := congrArg (·[t]?) h
      simp only [List.getElem?_drop, List.getElem?_take] at this
      rw [if_pos (by omega), if_pos ht, if_pos (by omega)] at this
      rw [decide_eq_true_iff, Nat.add_assoc]; exact this
  cases h1 : sameB xs i k (n - k) <;> cases h2 : repsB xs i n k <;> simp_all
theorem itoa_lo : ∀ t, t < 17 → ¬ 9 < t → [dg ((t % 10 : Nat) : Int)] = itoaS t := by decide +kernel
theorem itoa_hi : ∀ t, t < 17 → 9 < t → [49] ++ [dg ((t % 10 : Nat) : Int)] = itoaS t := by decide +kernel
theorem better_pos {t c : List UInt8} (hc : c ≠ []) (h : t = [] ∨ lessP c t) : betterS t c = c := by
  rw [betterS, if_pos (h.imp id fun e => ⟨hc, e⟩)]
theorem better_neg {t c : List UInt8} (h : ¬ (t = [] ∨ lessP c t)) : betterS t c = t := by
  rw [betterS, if_neg (fun e => h (e.imp id fun e => e.2))]
theorem ref_no {row : List Stitch} {i n k : Nat} (h : ¬ (n % (k + 1) = 0 ∧ repsB row i n (k + 1) = true)) : betterS (refTo row i n k) (bothT row i n (k + 1)) = refTo row i n (k + 1) := by
  rw [refTo, refStep, if_neg h]
theorem ref_yes {row : List Stitch} {i n k : Nat} (h1 : n % (k + 1) = 0) (h2 : repsB row i n (k + 1) = true) : betterS (betterS (refTo row i n k) (bothT row i n (k + 1))) (repT (bT row i (k + 1)) (n / (k + 1))) = refTo row i n (k + 1) := by
  rw [refTo, refStep, if_pos ⟨h1, h2⟩]
theorem both_ne (row : List Stitch) (i n k : Nat) (t : List UInt8) : betterS t (bothT row i n k) ≠ [] := better_ne (cons_ne _ _)
theorem rep_eq (t : List UInt8) (times : Nat) : [91] ++ t ++ [93, 120] ++ itoaS times = repT t times := by simp [repT]
theorem sh_big {xs : List Stitch} (h : 16 < xs.length) : shortenS xs = ([], 3) := by rw [shortenS, if_pos h]
theorem sh_nil {xs : List Stitch} (h : xs.length = 0) : shortenS xs = ([], 1) := by rw [shortenS, if_neg (by omega), if_pos h]
theorem sh_err {xs : List Stitch} (h : ¬ 16 < xs.length) : (shortenS xs).2 = if xs.length = 0 then 1 else if xs.all okB = true then 0 else 1 := by
  unfold shortenS; rw [if_neg h]; (repeat' split) <;> rfl
theorem sh_bad {xs : List Stitch} (h : (shortenS xs).2 ≠ 0) : (shortenS xs).1 = [] := by
  unfold shortenS at h ⊢; (repeat' split) <;> first | rfl | (exfalso; simp_all)
theorem sh_good {xs : List Stitch} (h : (shortenS xs).2 = 0) : xs.all okB = true ∧ 1 ≤ xs.length ∧ xs.length ≤ 16 ∧ (shortenS xs).1 = shortS xs := by
  unfold shortenS at h ⊢
  split at h
  · simp at h
  · rename_i h1
    split at h
    · simp at h
    · rename_i h2
      split at h
      · rename_i h3
        rw [if_neg h1, if_neg h2, if_pos h3]
        exact ⟨h3, by omega, by omega, rfl⟩
      · simp at h
theorem all_bad {l : List Stitch} {x : Stitch} (h : okB x = false) : (l ++ (some x).toList).all okB = false := by simp [h]
theorem all_good {l : List Stitch} {x : Stitch} (h : okB x = true) : (l ++ (some x).toList).all okB = l.all okB := by simp [h]
theorem short_len {xs : List Stitch} (h1 : 1 ≤ xs.length) (h16 : xs.length ≤ 16) : (shortS xs).length ≤ 12 * xs.length - 1 := (T_len xs 0 xs.length h1).2
end Go.G14
