/- The shortest texts of the parts of a row, as the program's tables hold them: plain definitions. Conditions: none. -/
import Derived.Test.YtbbnampdgefljaaDoorXRead
set_option linter.unusedVariables false
set_option linter.unusedSimpArgs false
namespace Go.G14
open Go.Lw

def partS (row : List Stitch) (i n : Nat) : List Stitch := (row.drop i).take n
def repsB (row : List Stitch) (i n one : Nat) : Bool := decide ((partS row i n).drop one = (partS row i n).take (n - one))
def repT (t : List UInt8) (times : Nat) : List UInt8 := 91 :: (t ++ [93, 120] ++ itoaS times)
def zeroSt : Stitch := ⟨0, 0, 0, 0, false⟩
/-- One step of the search for the shortest item: the repeats with a number of times. -/
def itemStep (t : Nat → Nat → List UInt8 × List UInt8) (row : List Stitch) (i n : Nat) (it : List UInt8) (times : Nat) : List UInt8 :=
  if n / times * times = n ∧ repsB row i n (n / times) = true then betterS it (repT (t i (n / times)).2 times) else it
def itemTo (t : Nat → Nat → List UInt8 × List UInt8) (row : List Stitch) (i n : Nat) : Nat → List UInt8
  | 0 => if n = 1 then textS (row.getD i zeroSt) else []
  | k + 1 => itemStep t row i n (itemTo t row i n k) (k + 2)
/-- One step of the search for the shortest text: an item of m stitches, and a text of the others. -/
def textStep (t : Nat → Nat → List UInt8 × List UInt8) (i n : Nat) (best : List UInt8) (m : Nat) : List UInt8 :=
  if (t i m).1 ≠ [] then betterS best ((t i m).1 ++ [32] ++ (t (i + m) (n - m)).2) else best
def textTo (t : Nat → Nat → List UInt8 × List UInt8) (i n : Nat) (item : List UInt8) : Nat → List UInt8
  | 0 => item
  | k + 1 => textStep t i n (textTo t i n item k) (k + 1)
/-- Item and text of the parts with at most so many stitches. -/
def tabS (row : List Stitch) : Nat → Nat → Nat → List UInt8 × List UInt8
  | 0, _, _ => ([], [])
  | L + 1, i, n =>
    if n = L + 1 then
      let item := itemTo (tabS row L) row i n (n - 1)
      (item, textTo (tabS row L) i n item (n - 1))
    else tabS row L i n
theorem tab_old (row : List Stitch) : ∀ (L L' i n : Nat), n ≤ L → L ≤ L' → tabS row L' i n = tabS row L i n
  | L, 0, i, n, h1, h2 => by rw [show L = 0 by omega]
  | L, L' + 1, i, n, h1, h2 => by
    rcases Nat.lt_or_ge L (L' + 1) with h | h
    · rw [tabS, if_neg (by omega), tab_old row L L' i n h1 (by omega)]
    · rw [show L = L' + 1 by omega]
def shortS (row : List Stitch) : List UInt8 := (tabS row row.length 0 row.length).2
theorem better_len (a b : List UInt8) (m : Nat) (ha : a.length ≤ m) (hb : b.length ≤ m) : (betterS a b).length ≤ m := by
  unfold betterS; split <;> assumption
theorem textS_len (s : Stitch) : (textS s).length ≤ 5 := by
  unfold textS
  split
  · simp
  · (repeat' split) <;> simp
theorem itoa_len (n : Nat) : (itoaS n).length ≤ 2 := by unfold itoaS; split <;> simp
theorem rep_len (t : List UInt8) (times : Nat) : (repT t times).length ≤ t.length + 5 := by
  have := itoa_len times
  simp [repT]; omega
theorem item_len (t : Nat → Nat → List UInt8 × List UInt8) (row : List Stitch) (i n : Nat) (hn : 1 ≤ n) (ht : ∀ m, 1 ≤ m → m < n → (t i m).2.length ≤ 12 * m - 1) : ∀ k, (itemTo t row i n k).length ≤ 12 * n - 1
  | 0 => by
    unfold itemTo
    split
    · have := textS_len (row.getD i zeroSt); omega
    · simp
  | k + 1 => by
    have ih := item_len t row i n hn ht k
    unfold itemTo itemStep
    split
    · rename_i c
      have h1 : n / (k + 2) * (k + 2) = n := c.1
      have h2 : 1 ≤ n / (k + 2) := by
        rcases Nat.eq_zero_or_pos (n / (k + 2)) with e | e
        · rw [e] at h1; omega
        · exact e
      have h3 : n / (k + 2) < n := Nat.div_lt_self (by omega) (by omega)
      have := ht _ h2 h3
      have := rep_len (t i (n / (k + 2))).2 (k + 2)
      exact better_len _ _ _ ih (by omega)
    · exact ih
theorem text_len (t : Nat → Nat → List UInt8 × List UInt8) (i n : Nat) (item : List UInt8) (hi : item.length ≤ 12 * n - 1) (ht : ∀ j m, 1 ≤ m → m < n → (t j m).1.length ≤ 12 * m - 1 ∧ (t j m).2.length ≤ 12 * m - 1) : ∀ k, k < n → (textTo t i n item k).length ≤ 12 * n - 1
  | 0, _ => hi
  | k + 1, hk => by
    have ih := text_len t i n item hi ht k (by omega)
    unfold textTo textStep
    split
    · have h1 := (ht i (k + 1) (by omega) hk).1
      have h2 := (ht (i + (k + 1)) (n - (k + 1)) (by omega) (by omega)).2
      exact better_len _ _ _ ih (by simp; omega)
    · exact ih
theorem tab_len (row : List Stitch) : ∀ (L i n : Nat), 1 ≤ n → (tabS row L i n).1.length ≤ 12 * n - 1 ∧ (tabS row L i n).2.length ≤ 12 * n - 1
  | 0, i, n, hn => by simp [tabS]
  | L + 1, i, n, hn => by
    unfold tabS
    split
    · have h1 := item_len (tabS row L) row i n hn (fun m h1 _ => (tab_len row L i m h1).2) (n - 1)
      exact ⟨h1, text_len (tabS row L) i n _ h1 (fun j m h1 _ => tab_len row L j m h1) (n - 1) (by omega)⟩
    · exact tab_len row L i n hn
theorem item_congr {t t' : Nat → Nat → List UInt8 × List UInt8} {row : List Stitch} {i n : Nat} (h : ∀ m, m < n → t i m = t' i m) : ∀ k, k < n → itemTo t row i n k = itemTo t' row i n k
  | 0, _ => rfl
  | k + 1, hk => by
    rw [itemTo, itemTo, item_congr h k (by omega), itemStep, itemStep, h (n / (k + 2)) (Nat.div_lt_self (by omega) (by omega))]
theorem text_congr {t t' : Nat → Nat → List UInt8 × List UInt8} {i n : Nat} {item : List UInt8} (h : ∀ j m, m < n → t j m = t' j m) : ∀ k, k < n → textTo t i n item k = textTo t' i n item k
  | 0, _ => rfl
  | k + 1, hk => by
    rw [textTo, textTo, text_congr h k (by omega), textStep, textStep, h i (k + 1) hk, h (i + (k + 1)) (n - (k + 1)) (by omega)]
/-- The whole table. -/
def T (row : List Stitch) : Nat → Nat → List UInt8 × List UInt8 := tabS row row.length
theorem T_item (row : List Stitch) (i n : Nat) (h1 : 1 ≤ n) (h2 : n ≤ row.length) : (T row i n).1 = itemTo (T row) row i n (n - 1) := by
  unfold T
  obtain ⟨m, rfl⟩ : ∃ m, n = m + 1 := ⟨n - 1, by omega⟩
  rw [tab_old row (m + 1) row.length i (m + 1) (Nat.le_refl _) h2, tabS, if_pos rfl]
  exact item_congr (fun k hk => (tab_old row m row.length i k (by omega) (by omega)).symm) _ (by omega)
theorem T_text (row : List Stitch) (i n : Nat) (h1 : 1 ≤ n) (h2 : n ≤ row.length) : (T row i n).2 = textTo (T row) i n (T row i n).1 (n - 1) := by
  have h := T_item row i n h1 h2
  unfold T at h ⊢
  obtain ⟨m, rfl⟩ : ∃ m, n = m + 1 := ⟨n - 1, by omega⟩
  rw [tab_old row (m + 1) row.length i (m + 1) (Nat.le_refl _) h2] at h ⊢
  conv => lhs; rw [tabS, if_pos rfl]
  have h3 : (tabS row (m + 1) i (m + 1)).1 = itemTo (tabS row m) row i (m + 1) (m + 1 - 1) := by rw [tabS, if_pos rfl]
  rw [h3]
  exact text_congr (fun j k hk => (tab_old row m row.length j k (by omega) (by omega)).symm) _ (by omega)
/-- What a map holds when the parts with fewer than L stitches are done, and those with L from the first i places. -/
def mfun (n : Nat) (t : Nat → Nat → List UInt8) (L i : Nat) : Int × Int → Option Value := fun k =>
  if 0 ≤ k.1 ∧ k.1 < k.2 ∧ k.2 ≤ n ∧ (k.2 - k.1 < L ∨ (k.2 - k.1 = L ∧ k.1 < i)) then some (S (t k.1.toNat (k.2 - k.1).toNat)) else none
theorem mfun_zero (n : Nat) (t : Nat → Nat → List UInt8) : mfun n t 1 0 = fun _ => none := by
  funext k; unfold mfun; rw [if_neg (by omega)]
theorem mfun_next {n L i : Nat} (t : Nat → Nat → List UInt8) (h : n < i + L) : mfun n t L i = mfun n t (L + 1) 0 := by
  funext k
  unfold mfun
  by_cases c : 0 ≤ k.1 ∧ k.1 < k.2 ∧ k.2 ≤ n ∧ (k.2 - k.1 < L ∨ (k.2 - k.1 = L ∧ k.1 < i))
  · rw [if_pos c, if_pos (by omega)]
  · rw [if_neg c, if_neg (by omega)]
theorem mfun_set {n L i : Nat} (t : Nat → Nat → List UInt8) (h1 : 1 ≤ L) (h : i + L ≤ n) : (fun k' => if k' = ((i : Int), (i : Int) + (L : Int)) then some (S (t i L)) else mfun n t L i k') = mfun n t L (i + 1) := by
  funext k
  obtain ⟨a, b⟩ := k
  by_cases e : a = i ∧ b = (i : Int) + L
  · obtain ⟨rfl, rfl⟩ := e
    rw [if_pos rfl, mfun, if_pos (by simp only; omega)]
    simp only
    rw [show ((i : Int) + (L : Int) - (i : Int)).toNat = L by omega]; rfl
  · rw [if_neg (by simp only [Prod.mk.injEq]; exact e)]
    unfold mfun
    simp only
    by_cases c : 0 ≤ a ∧ a < b ∧ b ≤ n ∧ (b - a < L ∨ (b - a = L ∧ a < i))
    · rw [if_pos c, if_pos (by omega)]
    · rw [if_neg c, if_neg (by omega)]
theorem mfun_hit {n L i : Nat} (t : Nat → Nat → List UInt8) (a m : Nat) (x y : Int) (hx : x = a) (hy : y = (a : Int) + m) (h1 : 1 ≤ m) (h2 : a + m ≤ n) (h3 : m < L) (z : Value) : (mfun n t L i (x, y)).getD z = S (t a m) := by
  subst hx hy
  rw [mfun, if_pos (by simp only; omega)]
  simp only [Option.getD_some]
  rw [show ((a : Int) + (m : Int) - (a : Int)).toNat = m by omega]; rfl
theorem T_len (row : List Stitch) (i n : Nat) (h : 1 ≤ n) : (T row i n).1.length ≤ 12 * n - 1 ∧ (T row i n).2.length ≤ 12 * n - 1 := tab_len row _ i n h
theorem itemT_len (row : List Stitch) (i n k : Nat) (h : 1 ≤ n) : (itemTo (T row) row i n k).length ≤ 12 * n - 1 := item_len _ row i n h (fun m h1 _ => (T_len row i m h1).2) k
theorem textT_len (row : List Stitch) (i n k : Nat) (item : List UInt8) (hi : item.length ≤ 12 * n - 1) (hk : k < n) : (textTo (T row) i n item k).length ≤ 12 * n - 1 := text_len _ i n item hi (fun j m h1 _ => T_len row j m h1) k hk
theorem part_len {row : List Stitch} {i n : Nat} (h : i + n ≤ row.length) : (partS row i n).length = n := by simp [partS]; omega
theorem part_sl {w : World} {A : Option Addr} {n c : Nat} {row : List Stitch} {i m : Nat} (h : Sl encSt w (.slice A n c) row) (hm : i + m ≤ row.length) : Sl encSt w (.slice (if c = i then A else A.map (·.add (i * encSt.sz))) (i + m - i) (c - i)) (partS row i m) := by
  obtain ⟨h1, h2, h3, _⟩ := Sl.open_ h
  have hd := h.drop rfl (m := i) (by omega) (B := if c = i then A else A.map (·.add (i * encSt.sz))) (c' := c - i) (by omega) (by omega) (fun hlt => by rw [if_neg (by omega)])
  have ht := hd.take rfl (m := m) (by simp; omega) (B := if c = i then A else A.map (·.add (i * encSt.sz))) (c' := c - i) (by omega) (by omega) (fun _ => rfl)
  rw [show i + m - i = m by omega]; exact ht
theorem itemTo_no {t : Nat → Nat → List UInt8 × List UInt8} {row : List Stitch} {i n k : Nat} (h : ¬ (n / (k + 2) * (k + 2) = n ∧ repsB row i n (n / (k + 2)) = true)) : itemTo t row i n k = itemTo t row i n (k + 1) := by
  rw [itemTo, itemStep, if_neg h]
theorem itemTo_yes {t : Nat → Nat → List UInt8 × List UInt8} {row : List Stitch} {i n k : Nat} (h1 : n / (k + 2) * (k + 2) = n) (h2 : repsB row i n (n / (k + 2)) = true) : betterS (itemTo t row i n k) (repT (t i (n / (k + 2))).2 (k + 2)) = itemTo t row i n (k + 1) := by
  rw [itemTo, itemStep, if_pos ⟨h1, h2⟩]
theorem textTo_no {t : Nat → Nat → List UInt8 × List UInt8} {i n k : Nat} {it : List UInt8} (h : ¬ (t i (k + 1)).1 ≠ []) : textTo t i n it k = textTo t i n it (k + 1) := by
  rw [textTo, textStep, if_neg h]
theorem textTo_yes {t : Nat → Nat → List UInt8 × List UInt8} {i n k : Nat} {it : List UInt8} (h : (t i (k + 1)).1 ≠ []) : betterS (textTo t i n it k) ((t i (k + 1)).1 ++ [32] ++ (t (i + (k + 1)) (n - (k + 1))).2) = textTo t i n it (k + 1) := by
  rw [textTo, textStep, if_pos h]
theorem repsB_iff {row : List Stitch} {i n one : Nat} (h : i + n ≤ row.length) : repsB row i n one = true ↔ (partS row i n).drop one = (partS row i n).take ((partS row i n).length - one) := by
  rw [repsB, part_len h, decide_eq_true_iff]
def okB (s : Stitch) : Bool := decide (checkS s = 0)
theorem okB_iff (s : Stitch) : okB s = true ↔ checkS s = 0 := by simp [okB]
theorem all_snocS (l : List Stitch) (c : Stitch) (h : l.all okB = true) (hc : okB c = true) : (l ++ (some c).toList).all okB = true := by simp [h, hc]
theorem check_zero {s : Stitch} (hk : 0 ≤ s.k) (hy : 0 ≤ s.y) (h : ¬ (s.y = 0 ∨ 6 < s.y ∨ s.k = 0 ∨ 8 < s.k)) (h2 : (s.k = 8 ∧ 1 ≤ s.a ∧ 1 ≤ s.b ∧ s.a + s.b ≤ 4) ∨ (s.k ≠ 8 ∧ s.a = 0 ∧ s.b = 0 ∧ s.f = false)) : checkS s = 0 := by
  unfold checkS
  rw [if_neg (by omega)]
  rcases h2 with ⟨h3, h4⟩ | ⟨h3, h4, h5, h6⟩
  · rw [if_neg (by omega), if_neg (by omega)]
  · rw [if_pos h3, if_neg (by simp [h4, h5, h6])]
/-- The text that Shorten returns, and the error. -/
def shortenS (xs : List Stitch) : List UInt8 × Int :=
  if 16 < xs.length then ([], 3) else if xs.length = 0 then ([], 1) else if xs.all okB = true then (shortS xs, 0) else ([], 1)
end Go.G14
