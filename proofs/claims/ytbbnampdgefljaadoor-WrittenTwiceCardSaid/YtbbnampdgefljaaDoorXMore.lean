/- Further plain definitions. Conditions: none. -/
import Derived.Test.YtbbnampdgefljaaDoorXShort
set_option linter.unusedVariables false
set_option linter.unusedSimpArgs false
namespace Go.G14
open Go.Lw

theorem refsym (k : Int) (h1 : 1 ≤ k) (h8 : k ≤ 8) : (([63, 107, 112, 111, 47, 118, 116, 115, 99] : List UInt8).take (k + 1).toNat).drop k.toNat = [symbols.getD (k - 1).toNat 0] := by
  rcases (by omega : k = 1 ∨ k = 2 ∨ k = 3 ∨ k = 4 ∨ k = 5 ∨ k = 6 ∨ k = 7 ∨ k = 8) with rfl | rfl | rfl | rfl | rfl | rfl | rfl | rfl <;> rfl
theorem refdig (k : Int) (h1 : 0 ≤ k) (h8 : k ≤ 6) : (([48, 49, 50, 51, 52, 53, 54] : List UInt8).take (k + 1).toNat).drop k.toNat = [dg k] := by
  rcases (by omega : k = 0 ∨ k = 1 ∨ k = 2 ∨ k = 3 ∨ k = 4 ∨ k = 5 ∨ k = 6) with rfl | rfl | rfl | rfl | rfl | rfl | rfl <;> rfl
def textsL : List (List UInt8) := [[91, 107, 32, 112, 93, 120, 50], [91, 91, 107, 93, 120, 50, 32, 112, 93, 120, 50, 32, 111], [91, 107, 93, 120, 49], [91, 107, 93, 120, 48, 50], [107, 93, 120, 50], [91, 32, 107, 93, 120, 50], [107, 32, 32, 112], [91, 107, 93, 120, 49, 54, 32, 107]]
def plainL : List (List UInt8) := [[107, 32, 112, 32, 107, 32, 112], [107, 32, 107, 32, 112, 32, 107, 32, 107, 32, 112, 32, 111], [], [], [], [], [], []]
def errsL : List Int := [0, 0, 4, 4, 4, 4, 4, 3]
def longL : List (List UInt8) := [[107, 32, 107], [107, 32, 107, 32, 107], [47, 32, 47, 32, 47], [107, 32, 112, 32, 107, 32, 112, 32, 107, 32, 112, 32, 111], [107, 32, 107, 32, 112, 32, 107, 32, 107, 32, 112, 32, 107, 32, 107, 32, 112]]
def shortL : List (List UInt8) := [[107, 32, 107], [91, 107, 93, 120, 51], [47, 32, 47, 32, 47], [91, 107, 32, 112, 93, 120, 51, 32, 111], [91, 107, 32, 107, 32, 112, 93, 120, 51]]
/-- The texts of the first stitches, with spaces between them. -/
def joinTo (xs : List Stitch) : Nat → List UInt8
  | 0 => []
  | k + 1 => (if 0 < k then joinTo xs k ++ [32] else joinTo xs k) ++ textS (xs.getD k zeroSt)
theorem join_len (xs : List Stitch) : ∀ k, (joinTo xs k).length ≤ 6 * k
  | 0 => by simp [joinTo]
  | k + 1 => by
    have := join_len xs k
    have := textS_len (xs.getD k zeroSt)
    unfold joinTo
    split <;> simp only [List.length_append, List.length_singleton] <;> omega
theorem join_one {xs : List Stitch} {k : Nat} {x : Stitch} (hx : xs[k]? = some x) (h : ¬ 0 < (k : Int)) : joinTo xs k ++ textS x = joinTo xs (k + 1) := by
  rw [joinTo, if_neg (by omega), List.getD, hx]; rfl
theorem join_next {xs : List Stitch} {k : Nat} {x : Stitch} (hx : xs[k]? = some x) (h : 0 < (k : Int)) : joinTo xs k ++ [32] ++ textS x = joinTo xs (k + 1) := by
  rw [joinTo, if_pos (by omega), List.getD, hx]; rfl
theorem getD_get {α : Type} {l : List α} {i : Nat} (h : i < l.length) (d : α) : l[i]? = some (l.getD i d) := by
  rw [List.getD, List.getElem?_eq_getElem h]; rfl
theorem okB_pos {x : Stitch} (h : okB x = true) : 0 ≤ x.k ∧ 0 ≤ x.y := by
  have := check_rng ((okB_iff x).1 h); omega
theorem livesT : ∀ i, i < 8 → (expandS (textsL.getD i [])).2 = errsL.getD i 0 ∧ joinTo (expandS (textsL.getD i [])).1 (expandS (textsL.getD i [])).1.length = plainL.getD i [] ∧ (expandS (textsL.getD i [])).1.all okB = true := by decide +kernel
theorem livesN : ∀ i, i < 8 → (textsL.getD i []).length ≤ 20 := by decide +kernel
theorem livesX : ∀ i, i < 8 → (expandS (textsL.getD i [])).1.length ≤ 16 := by decide +kernel
theorem livesM : ∀ i, i < 5 → (longL.getD i []).length ≤ 20 := by decide +kernel
theorem livesU : ∀ i, i < 5 → (expandS (longL.getD i [])).2 = 0 ∧ shortenS (expandS (longL.getD i [])).1 = (shortL.getD i [], 0) := by decide +kernel
end Go.G14
