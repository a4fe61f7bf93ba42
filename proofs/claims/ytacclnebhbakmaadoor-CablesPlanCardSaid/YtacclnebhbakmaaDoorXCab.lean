/- Lists that are filled place by place, and the rooms of a cable: plain. Conditions: none. -/
import Derived.Test.YtacclnebhbakmaaDoorXShift
set_option linter.unusedVariables false
set_option linter.unusedSimpArgs false
namespace Go.Lw
/-- The list l with xs written over it, from the place i on. -/
def fillL (l : List Int) (i : Nat) (xs : List Int) : List Int := l.take i ++ xs ++ l.drop (i + xs.length)
theorem fill_nil (l : List Int) (i : Nat) : fillL l i [] = l := by simp [fillL]
theorem fill_len {l : List Int} {i : Nat} {xs : List Int} (h : i + xs.length ≤ l.length) : (fillL l i xs).length = l.length := by
  simp only [fillL, List.length_append, List.length_take, List.length_drop]; omega
theorem fill_snoc {l : List Int} {i : Nat} {xs : List Int} (v : Int) (h : i + xs.length < l.length) : (fillL l i xs).set (i + xs.length) v = fillL l i (xs ++ [v]) := by
  have e : (l.take i ++ xs).length = i + xs.length := by simp only [List.length_append, List.length_take]; omega
  unfold fillL
  rw [List.set_append_right _ _ (by omega), e, Nat.sub_self, List.drop_eq_getElem_cons h, List.set_cons_zero, List.length_append, List.length_singleton]
  simp [Nat.add_assoc]
theorem fill_cons {l : List Int} {i : Nat} {xs : List Int} (v : Int) (h : i + 1 + xs.length ≤ l.length) : (fillL l (i + 1) xs).set i v = fillL l i (v :: xs) := by
  have h1 : i < l.length := by omega
  unfold fillL
  rw [List.append_assoc, List.set_append_left _ _ (by simp; omega), List.take_add_one, List.getElem?_eq_getElem h1, Option.toList, List.set_append_right _ _ (by simp; omega)]
  simp only [List.length_take, Nat.min_eq_left (Nat.le_of_lt h1), Nat.sub_self, List.set_cons_zero, List.append_assoc, List.length_cons]
  rw [show i + 1 + xs.length = i + (xs.length + 1) by omega]; rfl
/-- The places of the slots that follow, from the first free one on; and the first free one behind them. -/
def keepR : Int → List Int → List Int
  | _, [] => []
  | F, k :: ks => max k F :: keepR (max k F + 1) ks
def freeR : Int → List Int → Int
  | F, [] => F
  | F, k :: ks => freeR (max k F + 1) ks
theorem keepR_snoc : ∀ (l : List Int) (F k : Int), keepR F (l ++ [k]) = keepR F l ++ [max k (freeR F l)]
  | [], _, _ => rfl
  | z :: l, F, k => by rw [List.cons_append, keepR, keepR, freeR, keepR_snoc l]; rfl
theorem freeR_snoc : ∀ (l : List Int) (F k : Int), freeR F (l ++ [k]) = max k (freeR F l) + 1
  | [], _, _ => rfl
  | z :: l, F, k => by rw [List.cons_append, freeR, freeR, freeR_snoc l]
theorem keepR_len : ∀ (l : List Int) (F : Int), (keepR F l).length = l.length
  | [], _ => rfl
  | z :: l, F => by rw [keepR, List.length_cons, List.length_cons, keepR_len l]
/-- The same to the left; the list is taken from its end. -/
def keepL : Int → List Int → List Int
  | _, [] => []
  | F, k :: ks => min k F :: keepL (min k F - 1) ks
def freeL : Int → List Int → Int
  | F, [] => F
  | F, k :: ks => freeL (min k F - 1) ks
theorem keepL_snoc : ∀ (l : List Int) (F k : Int), keepL F (l ++ [k]) = keepL F l ++ [min k (freeL F l)]
  | [], _, _ => rfl
  | z :: l, F, k => by rw [List.cons_append, keepL, keepL, freeL, keepL_snoc l]; rfl
theorem freeL_snoc : ∀ (l : List Int) (F k : Int), freeL F (l ++ [k]) = min k (freeL F l) - 1
  | [], _, _ => rfl
  | z :: l, F, k => by rw [List.cons_append, freeL, freeL, freeL_snoc l]
theorem keepL_len : ∀ (l : List Int) (F : Int), (keepL F l).length = l.length
  | [], _ => rfl
  | z :: l, F => by rw [keepL, List.length_cons, List.length_cons, keepL_len l]
/-- n numbers from p on. -/
def run (p : Int) (n : Nat) : List Int := (List.range n).map (fun j : Nat => p + (j : Int))
theorem run_len (p : Int) (n : Nat) : (run p n).length = n := by simp [run]
theorem run_succ (p : Int) (n : Nat) : run p (n + 1) = run p n ++ [p + (n : Int)] := by simp [run, List.range_succ]
theorem run_get {p : Int} {n j : Nat} (h : j < n) : (run p n).getD j 0 = p + (j : Int) := by simp [run, h]
theorem tw_len (p : Int → Bool) : ∀ (l : List Int) (n : Nat), n ≤ l.length → (∀ j, j < n → p (l.getD j 0) = true) → (n = l.length ∨ p (l.getD n 0) = false) → (l.takeWhile p).length = n
  | [], n, h, _, _ => by simp at h; subst h; rfl
  | z :: l, 0, _, _, h => by
    rcases h with h | h
    · simp at h
    · rw [List.takeWhile_cons_of_neg (by simpa using h)]; rfl
  | z :: l, n + 1, h1, h2, h3 => by
    have h0 := h2 0 (by omega)
    rw [List.takeWhile_cons_of_pos (by simpa using h0), List.length_cons, tw_len p l n (by simpa using h1) (fun j hj => by simpa using h2 (j + 1) (by omega)) (by rcases h3 with h3 | h3; exact .inl (by simpa using h3); exact .inr (by simpa using h3))]
theorem tog_of {by_ : List Int} {i e : Nat} (h1 : i < e) (h2 : e ≤ by_.length) (h3 : ∀ j, i < j → j < e → by_.getD j 0 = by_.getD i 0) (h4 : e = by_.length ∨ by_.getD e 0 ≠ by_.getD i 0) : togS by_ i = e := by
  unfold togS
  have hg : ∀ j, (by_.drop (i + 1)).getD j 0 = by_.getD (i + 1 + j) 0 := fun j => by simp [List.getD]
  rw [tw_len _ _ (e - (i + 1)) (by rw [List.length_drop]; omega) (fun j hj => by rw [hg]; exact decide_eq_true (h3 _ (by omega) (by omega))) (by
    rw [hg, List.length_drop, show i + 1 + (e - (i + 1)) = e by omega]
    rcases h4 with h4 | h4
    · exact .inl (by omega)
    · exact .inr (decide_eq_false h4))]
  omega
theorem freeR_app : ∀ (l r : List Int) (F : Int), freeR F (l ++ r) = freeR (freeR F l) r
  | [], _, _ => rfl
  | z :: l, r, F => by rw [List.cons_append, freeR, freeR, freeR_app l]
theorem freeR_ge : ∀ (l : List Int) (F : Int), F ≤ freeR F l
  | [], _ => Int.le_refl _
  | z :: l, F => by rw [freeR]; have := freeR_ge l (max z F + 1); omega
theorem freeL_app : ∀ (l r : List Int) (F : Int), freeL F (l ++ r) = freeL (freeL F l) r
  | [], _, _ => rfl
  | z :: l, r, F => by rw [List.cons_append, freeL, freeL, freeL_app l]
theorem freeL_le : ∀ (l : List Int) (F : Int), freeL F l ≤ F
  | [], _ => Int.le_refl _
  | z :: l, F => by rw [freeL]; have := freeL_le l (min z F - 1); omega
def frR (l : List Int) (F : Int) (s m : Nat) : Int := freeR F ((l.drop s).take m)
theorem frR_succ {l : List Int} {F : Int} {s m : Nat} (h : s + m < l.length) : frR l F s (m + 1) = max (l.getD (s + m) 0) (frR l F s m) + 1 := by
  have e : (l.drop s).getD m 0 = l.getD (s + m) 0 := by simp [List.getD]
  unfold frR
  rw [take_succ_getD _ _ (by rw [List.length_drop]; omega), freeR_snoc, e]
theorem frR_le (l : List Int) (F : Int) (s m : Nat) : frR l F s m ≤ freeR F (l.drop s) := by
  unfold frR
  have h := freeR_app ((l.drop s).take m) ((l.drop s).drop m) F
  rw [List.take_append_drop] at h
  rw [h]; exact freeR_ge _ _
theorem frR_all {l : List Int} {F : Int} {s m : Nat} (h : s + m = l.length) : frR l F s m = freeR F (l.drop s) := by
  unfold frR; rw [List.take_of_length_le (by rw [List.length_drop]; omega)]
def frL (l : List Int) (F : Int) (i m : Nat) : Int := freeL F ((l.take i).reverse.take m)
theorem frL_succ {l : List Int} {F : Int} {i m : Nat} (h : i ≤ l.length) (hm : m < i) : frL l F i (m + 1) = min (l.getD (i - 1 - m) 0) (frL l F i m) - 1 := by
  have e : (l.take i).reverse.getD m 0 = l.getD (i - 1 - m) 0 := by
    rw [List.getD, List.getElem?_reverse (by rw [List.length_take]; omega), List.length_take, Nat.min_eq_left h, List.getElem?_take, if_pos (by omega)]; rfl
  unfold frL
  rw [take_succ_getD _ _ (by rw [List.length_reverse, List.length_take]; omega), freeL_snoc, e]
theorem frL_ge (l : List Int) (F : Int) (i m : Nat) : freeL F (l.take i).reverse ≤ frL l F i m := by
  unfold frL
  have h := freeL_app ((l.take i).reverse.take m) ((l.take i).reverse.drop m) F
  rw [List.take_append_drop] at h
  rw [h]; exact freeL_le _ _
theorem frL_all {l : List Int} {F : Int} {i : Nat} (h : i ≤ l.length) : frL l F i i = freeL F (l.take i).reverse := by
  unfold frL; rw [List.take_of_length_le (by rw [List.length_reverse, List.length_take]; omega)]
/-- All needles of the plan of a cable are from 1 to 40. -/
def fitS (l : List Int) (i a b : Nat) (front : Bool) : Prop := if front then 0 ≤ freeL (l.getD (i + a + b - 1) 0 - a - 2 * b) (l.take i).reverse else freeR (l.getD i 0 + 2 * a + b) (l.drop (i + a + b)) ≤ 41
instance (l : List Int) (i a b : Nat) (front : Bool) : Decidable (fitS l i a b front) := by unfold fitS; infer_instance
theorem getD_drop (l : List Int) (s m : Nat) : (l.drop s).getD m 0 = l.getD (s + m) 0 := by simp [List.getD]
theorem getD_rev_take {l : List Int} {i m : Nat} (h : i ≤ l.length) (hm : m < i) : (l.take i).reverse.getD m 0 = l.getD (i - 1 - m) 0 := by
  rw [List.getD, List.getElem?_reverse (by rw [List.length_take]; omega), List.length_take, Nat.min_eq_left h, List.getElem?_take, if_pos (by omega)]; rfl
/-- The first m of the slots behind s, and the last m of those in front of i, moved out of the way. -/
def keepRm (l : List Int) (F : Int) (s m : Nat) : List Int := keepR F ((l.drop s).take m)
def keepLm (l : List Int) (F : Int) (i m : Nat) : List Int := (keepL F ((l.take i).reverse.take m)).reverse
theorem keepRm_len {l : List Int} {F : Int} {s m : Nat} (h : s + m ≤ l.length) : (keepRm l F s m).length = m := by
  unfold keepRm; rw [keepR_len, List.length_take, List.length_drop]; omega
theorem keepLm_len {l : List Int} {F : Int} {i m : Nat} (h : i ≤ l.length) (hm : m ≤ i) : (keepLm l F i m).length = m := by
  unfold keepLm; rw [List.length_reverse, keepL_len, List.length_take, List.length_reverse, List.length_take]; omega
theorem keepRm_succ {l : List Int} {F : Int} {s m : Nat} (h : s + m < l.length) : keepRm l F s (m + 1) = keepRm l F s m ++ [max (l.getD (s + m) 0) (frR l F s m)] := by
  unfold keepRm frR; rw [take_succ_getD _ _ (by rw [List.length_drop]; omega), keepR_snoc, getD_drop]
theorem keepLm_succ {l : List Int} {F : Int} {i m : Nat} (h : i ≤ l.length) (hm : m < i) : keepLm l F i (m + 1) = min (l.getD (i - 1 - m) 0) (frL l F i m) :: keepLm l F i m := by
  unfold keepLm frL; rw [take_succ_getD _ _ (by rw [List.length_reverse, List.length_take]; omega), keepL_snoc, getD_rev_take h hm, List.reverse_append]; rfl
/-- Where the slots are when some of them are moved across; and behind it. -/
def firstR (l : List Int) (i a b : Nat) (front : Bool) : Int := if front then l.getD (i + a + b - 1) 0 - a - 2 * b else l.getD i 0 + 2 * a + b
def roomF (l : List Int) (i a b : Nat) (front : Bool) (m : Nat) : List Int :=
  if front then fillL (fillL l i (run (l.getD (i + a + b - 1) 0 - a - b + 1) (a + b))) (i - m) (keepLm l (firstR l i a b front) i m) else fillL (fillL l i (run (l.getD i 0) (a + b))) (i + a + b) (keepRm l (firstR l i a b front) (i + a + b) m)
def roomS (l : List Int) (i a b : Nat) (front : Bool) : List Int := roomF l i a b front (if front then i else l.length - (i + a + b))
def acrS (l : List Int) (i a b : Nat) (front : Bool) : List Int := if front then ((roomS l i a b front).take (i + a + b)).drop (i + a) else ((roomS l i a b front).take (i + a)).drop i
def byC (a b : Nat) (front : Bool) : Int := if front then 0 - ((a : Int) + b) else (a : Int) + b
def behP (l : List Int) (i a b : Nat) (front : Bool) : Int := if front then l.getD (i + a + b - 1) 0 - a - 2 * b + 1 else l.getD i 0 + a
def behS (l : List Int) (i a b : Nat) (front : Bool) : List Int := fillL (roomS l i a b front) i (run (behP l i a b front) (a + b))
theorem roomF_len {l : List Int} {i a b m : Nat} {front : Bool} (h : i + a + b ≤ l.length) (hm : m ≤ if front then i else l.length - (i + a + b)) : (roomF l i a b front m).length = l.length := by
  unfold roomF
  cases front
  · have e : (fillL l i (run (l.getD i 0) (a + b))).length = l.length := fill_len (by rw [run_len]; omega)
    simp only [Bool.false_eq_true, if_false] at hm ⊢
    rw [fill_len (by rw [keepRm_len (by omega), e]; omega), e]
  · have e : (fillL l i (run (l.getD (i + a + b - 1) 0 - a - b + 1) (a + b))).length = l.length := fill_len (by rw [run_len]; omega)
    simp only [if_true] at hm ⊢
    rw [fill_len (by rw [keepLm_len (by omega) hm, e]; omega), e]
theorem roomS_len {l : List Int} {i a b : Nat} {front : Bool} (h : i + a + b ≤ l.length) : (roomS l i a b front).length = l.length := roomF_len h (Nat.le_refl _)
theorem roomR_set {l : List Int} {i a b m : Nat} (h : i + a + b + m < l.length) : (roomF l i a b false m).set (i + a + b + m) (max (l.getD (i + a + b + m) 0) (frR l (firstR l i a b false) (i + a + b) m)) = roomF l i a b false (m + 1) := by
  have e : (fillL l i (run (l.getD i 0) (a + b))).length = l.length := fill_len (by rw [run_len]; omega)
  unfold roomF
  simp only [Bool.false_eq_true, if_false]
  have h2 := keepRm_len (l := l) (F := firstR l i a b false) (s := i + a + b) (m := m) (by omega)
  have := fill_snoc (l := fillL l i (run (l.getD i 0) (a + b))) (i := i + a + b) (xs := keepRm l (firstR l i a b false) (i + a + b) m) (max (l.getD (i + a + b + m) 0) (frR l (firstR l i a b false) (i + a + b) m)) (by rw [e]; omega)
  rw [h2] at this
  rw [this, keepRm_succ (by omega)]
theorem roomL_set {l : List Int} {i a b m : Nat} (h : i + a + b ≤ l.length) (hm : m < i) : (roomF l i a b true m).set (i - 1 - m) (min (l.getD (i - 1 - m) 0) (frL l (firstR l i a b true) i m)) = roomF l i a b true (m + 1) := by
  have e : (fillL l i (run (l.getD (i + a + b - 1) 0 - a - b + 1) (a + b))).length = l.length := fill_len (by rw [run_len]; omega)
  unfold roomF
  simp only [if_true]
  have h2 := keepLm_len (l := l) (F := firstR l i a b true) (i := i) (m := m) (by omega) (by omega)
  rw [show i - m = i - 1 - m + 1 by omega, fill_cons _ (by rw [e, h2]; omega), keepLm_succ (by omega) hm, show i - (m + 1) = i - 1 - m by omega]
theorem behS_len {l : List Int} {i a b : Nat} {front : Bool} (h : i + a + b ≤ l.length) : (behS l i a b front).length = l.length := by
  unfold behS; rw [fill_len (by rw [run_len, roomS_len h]; omega), roomS_len h]
theorem run_set {l : List Int} {i j : Nat} {p v : Int} (hv : v = p + (j : Int)) (h : i + j < l.length) : (fillL l i (run p j)).set (i + j) v = fillL l i (run p (j + 1)) := by
  have := fill_snoc (l := l) (i := i) (xs := run p j) v (by rw [run_len]; omega)
  rw [run_len] at this
  rw [this, run_succ, hv]
theorem room_zero_f {l : List Int} {i a b : Nat} (h : i + a + b ≤ l.length) : roomF l i a b false 0 = fillL l i (run (l.getD i 0) (a + b)) := by
  unfold roomF; simp only [Bool.false_eq_true, if_false]; rw [show keepRm l (firstR l i a b false) (i + a + b) 0 = [] from rfl, fill_nil]
theorem room_zero_t {l : List Int} {i a b : Nat} (h : i + a + b ≤ l.length) : roomF l i a b true 0 = fillL l i (run (l.getD (i + a + b - 1) 0 - a - b + 1) (a + b)) := by
  unfold roomF; simp only [if_true]; rw [show keepLm l (firstR l i a b true) i 0 = [] from rfl, fill_nil]
theorem freeR_bd : ∀ (l : List Int) (F B : Int), (∀ z ∈ l, z ≤ B) → freeR F l ≤ max F B + l.length
  | [], F, B, _ => by simp [freeR]; omega
  | z :: l, F, B, h => by
    have h1 := freeR_bd l (max z F + 1) B (fun y hy => h y (List.mem_cons_of_mem _ hy))
    have h2 := h z List.mem_cons_self
    rw [freeR, List.length_cons]; omega
theorem freeL_bd : ∀ (l : List Int) (F B : Int), (∀ z ∈ l, B ≤ z) → min F B - l.length ≤ freeL F l
  | [], F, B, _ => by simp [freeL]; omega
  | z :: l, F, B, h => by
    have h1 := freeL_bd l (min z F - 1) B (fun y hy => h y (List.mem_cons_of_mem _ hy))
    have h2 := h z List.mem_cons_self
    rw [freeL, List.length_cons]; omega
theorem Asc.mem {l : List Int} (h : Asc l) {z : Int} (hz : z ∈ l) : 1 ≤ z ∧ z ≤ 40 := by
  obtain ⟨i, hi, rfl⟩ := List.getElem_of_mem hz
  have := h i hi
  rw [getD_at l i hi 0]; omega
theorem frb_f {l : List Int} {i a b m : Nat} (ha : Asc l) (hz : 1 ≤ a ∧ 1 ≤ b ∧ a + b ≤ 4) (hil : i + a + b ≤ l.length) (hm : i + a + b + m ≤ l.length) : -1000 ≤ frR l (firstR l i a b false) (i + a + b) m ∧ frR l (firstR l i a b false) (i + a + b) m ≤ 1000 := by
  have h1 := ha i (by omega)
  have h4 := ha.len
  have h2 := freeR_bd ((l.drop (i + a + b)).take m) (firstR l i a b false) 40 (fun z hz => (ha.mem (List.mem_of_mem_drop (List.mem_of_mem_take hz))).2)
  have h3 := freeR_ge ((l.drop (i + a + b)).take m) (firstR l i a b false)
  have h5 : ((l.drop (i + a + b)).take m).length ≤ 40 := by rw [List.length_take, List.length_drop]; omega
  have h6 : firstR l i a b false = l.getD i 0 + 2 * a + b := rfl
  unfold frR; omega
theorem frb_t {l : List Int} {i a b m : Nat} (ha : Asc l) (hz : 1 ≤ a ∧ 1 ≤ b ∧ a + b ≤ 4) (hil : i + a + b ≤ l.length) (hm : m ≤ i) : -1000 ≤ frL l (firstR l i a b true) i m ∧ frL l (firstR l i a b true) i m ≤ 1000 := by
  have h1 := ha (i + a + b - 1) (by omega)
  have h4 := ha.len
  have h2 := freeL_bd ((l.take i).reverse.take m) (firstR l i a b true) 1 (fun z hz => (ha.mem (List.mem_of_mem_take (List.mem_reverse.1 (List.mem_of_mem_take hz)))).1)
  have h3 := freeL_le ((l.take i).reverse.take m) (firstR l i a b true)
  have h5 : ((l.take i).reverse.take m).length ≤ 40 := by rw [List.length_take, List.length_reverse, List.length_take]; omega
  have h6 : firstR l i a b true = l.getD (i + a + b - 1) 0 - a - 2 * b := rfl
  unfold frL; omega
theorem fit_iff_f {l : List Int} {i a b : Nat} (hil : i + a + b ≤ l.length) : frR l (firstR l i a b false) (i + a + b) (l.length - (i + a + b)) - 1 ≤ 40 ↔ fitS l i a b false := by
  rw [frR_all (by omega)]
  unfold fitS firstR
  simp only [Bool.false_eq_true, if_false]; omega
theorem fit_iff_t {l : List Int} {i a b : Nat} (hil : i + a + b ≤ l.length) : 1 ≤ frL l (firstR l i a b true) i i + 1 ↔ fitS l i a b true := by
  rw [frL_all (by omega)]
  unfold fitS firstR
  simp only [if_true]; omega
end Go.Lw
