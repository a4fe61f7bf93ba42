/- The plan of a cable, plain: its rooms ascend where it fits; its error and its operations. Conditions: none. -/
import Derived.Test.YtacclnebhbakmaaDoorXShf
set_option linter.unusedVariables false
set_option linter.unusedSimpArgs false
namespace Go.Lw
open Go.RowKit
theorem fill_getD {l xs : List Int} {i j : Nat} (h : i + xs.length ≤ l.length) : (fillL l i xs).getD j 0 = if i ≤ j ∧ j < i + xs.length then xs.getD (j - i) 0 else l.getD j 0 := by
  unfold fillL
  simp only [List.getD]
  rcases Nat.lt_or_ge j i with h1 | h1
  · rw [if_neg (by omega), List.append_assoc, List.getElem?_append_left (by rw [List.length_take]; omega), List.getElem?_take, if_pos h1]
  · rcases Nat.lt_or_ge j (i + xs.length) with h2 | h2
    · rw [if_pos ⟨h1, h2⟩, List.append_assoc, List.getElem?_append_right (by rw [List.length_take]; omega), List.length_take, Nat.min_eq_left (by omega), List.getElem?_append_left (by omega)]
    · rw [if_neg (by omega), List.getElem?_append_right (by rw [List.length_append, List.length_take]; omega), List.length_append, List.length_take, Nat.min_eq_left (by omega), List.getElem?_drop]
      congr 2; omega
theorem keepR_at : ∀ (ks : List Int) (F : Int) (j : Nat), j < ks.length → F ≤ (keepR F ks).getD j 0 ∧ ks.getD j 0 ≤ (keepR F ks).getD j 0 ∧ (keepR F ks).getD j 0 + 1 ≤ freeR F ks ∧ (0 < j → (keepR F ks).getD (j - 1) 0 < (keepR F ks).getD j 0)
  | [], _, _, h => by simp at h
  | k :: ks, F, 0, _ => by
    have h1 := freeR_ge ks (max k F + 1)
    refine ⟨?_, ?_, ?_, fun h => absurd h (by omega)⟩ <;> simp only [keepR, freeR, List.getD_cons_zero] <;> omega
  | k :: ks, F, j + 1, h => by
    have h' : j < ks.length := by simpa using h
    have ih := keepR_at ks (max k F + 1) j h'
    refine ⟨?_, ?_, ?_, fun _ => ?_⟩
    · simp only [keepR, List.getD_cons_succ]; omega
    · simp only [keepR, List.getD_cons_succ]; omega
    · simp only [keepR, freeR, List.getD_cons_succ]; omega
    · simp only [keepR, Nat.add_sub_cancel, List.getD_cons_succ]
      cases j with
      | zero => simp only [List.getD_cons_zero]; omega
      | succ j => simp only [List.getD_cons_succ]; have := ih.2.2.2 (by omega); simpa using this
theorem keepL_at : ∀ (ks : List Int) (F : Int) (j : Nat), j < ks.length → (keepL F ks).getD j 0 ≤ F ∧ (keepL F ks).getD j 0 ≤ ks.getD j 0 ∧ freeL F ks + 1 ≤ (keepL F ks).getD j 0 ∧ (0 < j → (keepL F ks).getD j 0 < (keepL F ks).getD (j - 1) 0)
  | [], _, _, h => by simp at h
  | k :: ks, F, 0, _ => by
    have h1 := freeL_le ks (min k F - 1)
    refine ⟨?_, ?_, ?_, fun h => absurd h (by omega)⟩ <;> simp only [keepL, freeL, List.getD_cons_zero] <;> omega
  | k :: ks, F, j + 1, h => by
    have h' : j < ks.length := by simpa using h
    have ih := keepL_at ks (min k F - 1) j h'
    refine ⟨?_, ?_, ?_, fun _ => ?_⟩
    · simp only [keepL, List.getD_cons_succ]; omega
    · simp only [keepL, List.getD_cons_succ]; omega
    · simp only [keepL, freeL, List.getD_cons_succ]; omega
    · simp only [keepL, Nat.add_sub_cancel, List.getD_cons_succ]
      cases j with
      | zero => simp only [List.getD_cons_zero]; omega
      | succ j => simp only [List.getD_cons_succ]; have := ih.2.2.2 (by omega); simpa using this
theorem getD_rev {l : List Int} {j : Nat} (h : j < l.length) : l.reverse.getD j 0 = l.getD (l.length - 1 - j) 0 := by
  rw [List.getD, List.getElem?_reverse h]; rfl
/-- What lies at each place of the room. -/
theorem room_f {l : List Int} {i a b : Nat} (hil : i + a + b ≤ l.length) (j : Nat) (hj : j < l.length) : (roomS l i a b false).getD j 0 = if j < i then l.getD j 0 else if j < i + a + b then l.getD i 0 + ((j - i : Nat) : Int) else (keepR (firstR l i a b false) (l.drop (i + a + b))).getD (j - (i + a + b)) 0 := by
  have e : (fillL l i (run (l.getD i 0) (a + b))).length = l.length := fill_len (by rw [run_len]; omega)
  have hk : keepRm l (firstR l i a b false) (i + a + b) (l.length - (i + a + b)) = keepR (firstR l i a b false) (l.drop (i + a + b)) := by
    unfold keepRm; rw [List.take_of_length_le (by rw [List.length_drop]; omega)]
  have hkl : (keepR (firstR l i a b false) (l.drop (i + a + b))).length = l.length - (i + a + b) := by rw [keepR_len, List.length_drop]
  unfold roomS roomF
  simp only [Bool.false_eq_true, if_false, hk]
  rw [fill_getD (by rw [hkl, e]; omega), hkl]
  rcases Nat.lt_or_ge j (i + a + b) with h | h
  · rw [if_neg (by omega), fill_getD (by rw [run_len]; omega), run_len]
    rcases Nat.lt_or_ge j i with h2 | h2
    · rw [if_neg (by omega), if_pos h2]
    · rw [if_pos (by omega), if_neg (by omega), if_pos h, run_get (by omega)]
  · rw [if_pos (by omega), if_neg (by omega), if_neg (by omega)]
theorem room_t {l : List Int} {i a b : Nat} (hil : i + a + b ≤ l.length) (j : Nat) (hj : j < l.length) : (roomS l i a b true).getD j 0 = if j < i then (keepL (firstR l i a b true) (l.take i).reverse).getD (i - 1 - j) 0 else if j < i + a + b then l.getD (i + a + b - 1) 0 - a - b + 1 + ((j - i : Nat) : Int) else l.getD j 0 := by
  have e : (fillL l i (run (l.getD (i + a + b - 1) 0 - a - b + 1) (a + b))).length = l.length := fill_len (by rw [run_len]; omega)
  have hk : keepLm l (firstR l i a b true) i i = (keepL (firstR l i a b true) (l.take i).reverse).reverse := by
    unfold keepLm; rw [List.take_of_length_le (by rw [List.length_reverse, List.length_take]; omega)]
  have hkl : (keepL (firstR l i a b true) (l.take i).reverse).length = i := by rw [keepL_len, List.length_reverse, List.length_take]; omega
  unfold roomS roomF
  simp only [if_true, hk, Nat.sub_self]
  rw [fill_getD (by rw [List.length_reverse, hkl, e]; omega), List.length_reverse, hkl]
  rcases Nat.lt_or_ge j i with h | h
  · rw [if_pos (by omega), if_pos h, Nat.sub_zero, getD_rev (by omega), hkl]
  · rw [if_neg (by omega), if_neg (by omega), fill_getD (by rw [run_len]; omega), run_len]
    rcases Nat.lt_or_ge j (i + a + b) with h2 | h2
    · rw [if_pos (by omega), if_pos h2, run_get (by omega)]
    · rw [if_neg (by omega), if_neg (by omega)]
theorem beh_at {l : List Int} {i a b : Nat} {front : Bool} (hil : i + a + b ≤ l.length) (j : Nat) : (behS l i a b front).getD j 0 = if i ≤ j ∧ j < i + a + b then behP l i a b front + ((j - i : Nat) : Int) else (roomS l i a b front).getD j 0 := by
  unfold behS
  rw [fill_getD (by rw [run_len, roomS_len hil]; omega), run_len, Nat.add_assoc]
  split
  · rw [run_get (by omega)]
  · rfl
theorem room_asc {l : List Int} {i a b : Nat} {front : Bool} (hl : Asc l) (hz : 1 ≤ a ∧ 1 ≤ b ∧ a + b ≤ 4) (hil : i + a + b ≤ l.length) (hf : fitS l i a b front) : Asc (roomS l i a b front) ∧ Asc (behS l i a b front) := by
  have hrl := roomS_len (front := front) hil
  have hbl := behS_len (front := front) hil
  have h4 := hl.len
  cases front
  · have hf' : freeR (firstR l i a b false) (l.drop (i + a + b)) ≤ 41 := by simpa [fitS, firstR] using hf
    have hF : firstR l i a b false = l.getD i 0 + 2 * a + b := rfl
    have hge := freeR_ge (l.drop (i + a + b)) (firstR l i a b false)
    have hi0 := hl i (by omega)
    have kr : ∀ j, i + a + b ≤ j → j < l.length → _ := fun j h1 h2 => keepR_at (l.drop (i + a + b)) (firstR l i a b false) (j - (i + a + b)) (by rw [List.length_drop]; omega)
    have main : ∀ (q : Int) (f : Nat → Int), (∀ j, j < l.length → f j = if i ≤ j ∧ j < i + a + b then q + ((j - i : Nat) : Int) else (roomS l i a b false).getD j 0) → l.getD i 0 ≤ q → q + (a : Int) + b ≤ firstR l i a b false → ∀ j, j < l.length → 1 ≤ f j ∧ f j ≤ 40 ∧ (0 < j → f (j - 1) < f j) := by
      intro q f hfj hq1 hq2 j hj
      have e1 := hfj j hj
      have e2 := hfj (j - 1) (by omega)
      rw [room_f hil j hj] at e1
      rw [room_f hil (j - 1) (by omega)] at e2
      have hlj := hl j hj
      rcases Nat.lt_or_ge j i with h1 | h1
      · rw [if_neg (by omega), if_pos h1] at e1
        rw [if_neg (by omega), if_pos (by omega)] at e2
        refine ⟨by omega, by omega, fun h => ?_⟩
        have := hlj.2.2 h; omega
      · rcases Nat.lt_or_ge j (i + a + b) with h2 | h2
        · rw [if_pos (by omega)] at e1
          refine ⟨by omega, by omega, fun h => ?_⟩
          rcases Nat.lt_or_ge (j - 1) i with h3 | h3
          · rw [if_neg (by omega), if_pos h3] at e2
            have hj2 : j = i := by omega
            subst hj2
            have := hlj.2.2 h; omega
          · rw [if_pos (by omega)] at e2; omega
        · have k1 := kr j h2 hj
          rw [getD_drop, show i + a + b + (j - (i + a + b)) = j by omega] at k1
          rw [if_neg (by omega), if_neg (by omega), if_neg (by omega)] at e1
          refine ⟨by omega, by omega, fun h => ?_⟩
          rcases Nat.lt_or_ge (j - 1) (i + a + b) with h3 | h3
          · rw [if_pos (by omega)] at e2; omega
          · rw [if_neg (by omega), if_neg (by omega), if_neg (by omega)] at e2
            have := k1.2.2.2 (by omega)
            rw [show j - (i + a + b) - 1 = j - 1 - (i + a + b) by omega] at this
            omega
    refine ⟨fun j hj => ?_, fun j hj => ?_⟩
    · rw [hrl] at hj
      refine main (l.getD i 0) (fun j => (roomS l i a b false).getD j 0) (fun k hk => ?_) (Int.le_refl _) (by omega) j hj
      split
      · rename_i h; rw [room_f hil k hk, if_neg (by omega), if_pos (by omega)]
      · rfl
    · rw [hbl] at hj
      exact main (behP l i a b false) (fun j => (behS l i a b false).getD j 0) (fun k hk => beh_at hil k) (by simp only [behP, Bool.false_eq_true, if_false]; omega) (by simp only [behP, Bool.false_eq_true, if_false]; omega) j hj
  · have hf' : 0 ≤ freeL (firstR l i a b true) (l.take i).reverse := by simpa [fitS, firstR] using hf
    have hF : firstR l i a b true = l.getD (i + a + b - 1) 0 - a - 2 * b := rfl
    have hle := freeL_le (l.take i).reverse (firstR l i a b true)
    have hi0 := hl (i + a + b - 1) (by omega)
    have kr : ∀ j, j < i → _ := fun j h1 => keepL_at (l.take i).reverse (firstR l i a b true) (i - 1 - j) (by rw [List.length_reverse, List.length_take]; omega)
    have main : ∀ (q : Int) (f : Nat → Int), (∀ j, j < l.length → f j = if i ≤ j ∧ j < i + a + b then q + ((j - i : Nat) : Int) else (roomS l i a b true).getD j 0) → q + (a : Int) + b - 1 ≤ l.getD (i + a + b - 1) 0 → firstR l i a b true < q → ∀ j, j < l.length → 1 ≤ f j ∧ f j ≤ 40 ∧ (0 < j → f (j - 1) < f j) := by
      intro q f hfj hq1 hq2 j hj
      have e1 := hfj j hj
      have e2 := hfj (j - 1) (by omega)
      rw [room_t hil j hj] at e1
      rw [room_t hil (j - 1) (by omega)] at e2
      have hlj := hl j hj
      rcases Nat.lt_or_ge j i with h1 | h1
      · have k1 := kr j h1
        have kk : (l.take i).reverse.getD (i - 1 - j) 0 = l.getD j 0 := by rw [getD_rev_take (by omega) (by omega)]; congr 1; omega
        rw [kk] at k1
        rw [if_neg (by omega), if_pos h1] at e1
        rw [if_neg (by omega), if_pos (by omega)] at e2
        refine ⟨by omega, by omega, fun h => ?_⟩
        have k2 := (kr (j - 1) (by omega)).2.2.2 (by omega)
        rw [show i - 1 - (j - 1) - 1 = i - 1 - j by omega] at k2
        omega
      · rcases Nat.lt_or_ge j (i + a + b) with h2 | h2
        · rw [if_pos (by omega)] at e1
          refine ⟨by omega, by omega, fun h => ?_⟩
          rcases Nat.lt_or_ge (j - 1) i with h3 | h3
          · have k1 := kr (j - 1) h3
            rw [if_neg (by omega), if_pos h3] at e2
            omega
          · rw [if_pos (by omega)] at e2; omega
        · rw [if_neg (by omega), if_neg (by omega), if_neg (by omega)] at e1
          refine ⟨by omega, by omega, fun h => ?_⟩
          rcases Nat.lt_or_ge (j - 1) (i + a + b) with h3 | h3
          · rw [if_pos (by omega)] at e2
            have hj2 : j = i + a + b := by omega
            subst hj2
            have := hlj.2.2 h; omega
          · rw [if_neg (by omega), if_neg (by omega), if_neg (by omega)] at e2
            have := hlj.2.2 h; omega
    refine ⟨fun j hj => ?_, fun j hj => ?_⟩
    · rw [hrl] at hj
      refine main (l.getD (i + a + b - 1) 0 - a - b + 1) (fun j => (roomS l i a b true).getD j 0) (fun k hk => ?_) (by omega) (by omega) j hj
      split
      · rename_i h; rw [room_t hil k hk, if_neg (by omega), if_pos (by omega)]
      · rfl
    · rw [hbl] at hj
      exact main (behP l i a b true) (fun j => (behS l i a b true).getD j 0) (fun k hk => beh_at hil k) (by simp only [behP, if_true]; omega) (by simp only [behP, if_true]; omega) j hj
/-! The error and the operations. -/
def szOk (a b : Int) : Prop := 1 ≤ a ∧ 1 ≤ b ∧ a ≤ 4 ∧ b ≤ 4 ∧ a + b ≤ 4
instance (a b : Int) : Decidable (szOk a b) := by unfold szOk; infer_instance
def errC (l : List Int) (i a b : Int) (front : Bool) : Int := if ¬ Asc l then 1 else if ¬ szOk a b then 1 else if i < 0 ∨ (l.length : Int) - a - b < i then 5 else if fitS l i.toNat a.toNat b.toNat front then 0 else 15
def xfers (b : Int) (l : List Int) : List MOp := l.map (fun k => xferO b k)
theorem xfers_succ (b : Int) {l : List Int} {i : Nat} (h : i < l.length) : xfers b (l.take (i + 1)) = xfers b (l.take i) ++ [xferO b (l.getD i 0)] := by
  unfold xfers; rw [take_succ_getD l i h, List.map_append]; rfl
def crossN (l : List Int) (i a b : Nat) (front : Bool) : List MOp := shiftS l (roomS l i a b front) ++ xfers 0 (acrS l i a b front) ++ [rackO (byC a b front)] ++ xfers 1 (acrS l i a b front) ++ [rackO 0] ++ shiftS (behS l i a b front) l
def crossS (l : List Int) (i a b : Int) (front : Bool) : List MOp := if errC l i a b front = 0 then crossN l i.toNat a.toNat b.toNat front else []
theorem shift_len {xs ys : List Int} (hx : Asc xs) (hy : Asc ys) (hl : ys.length = xs.length) : (shiftS xs ys).length ≤ 400000 := by
  rw [shift_of]
  have h1 := turn_len (downP xs ys (starts (dif xs ys)).length) 0
  have h2 := (downP_ok hx hy hl (starts (dif xs ys)).length).2
  omega
theorem acr_len {l : List Int} {i a b : Nat} {front : Bool} (hl : l.length ≤ 40) (hil : i + a + b ≤ l.length) : (acrS l i a b front).length ≤ 40 := by
  have := roomS_len (front := front) hil
  unfold acrS
  split <;> (rw [List.length_drop, List.length_take]; omega)
end Go.Lw
