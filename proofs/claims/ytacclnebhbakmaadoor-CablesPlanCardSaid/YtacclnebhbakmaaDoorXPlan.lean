/- The law's own plan of a cable is that of the program, plain. Conditions: none. -/
import Derived.Test.YtacclnebhbakmaaDoorXWord
set_option linter.unusedVariables false
set_option linter.unusedSimpArgs false
namespace Go.Lw
open Go.RowKit
theorem asc_snoc {f : List Int} {x : Int} (h : Asc f) (hx : 1 ≤ x ∧ x ≤ 40) (hl : ∀ j, j < f.length → f.getD j 0 < x) : Asc (f ++ [x]) := by
  intro j hj
  rw [List.length_append, List.length_singleton] at hj
  have g1 : ∀ k, k < f.length → (f ++ [x]).getD k 0 = f.getD k 0 := fun k hk => by simp only [List.getD]; rw [List.getElem?_append_left hk]
  rcases Nat.lt_or_ge j f.length with e | e
  · have := h j e
    rw [g1 j e]
    refine ⟨this.1, this.2.1, fun h0 => ?_⟩
    rw [g1 (j - 1) (by omega)]; exact this.2.2 h0
  · have e2 : j = f.length := by omega
    subst e2
    have g2 : (f ++ [x]).getD f.length 0 = x := by simp [List.getD]
    rw [g2]
    refine ⟨hx.1, hx.2, fun h0 => ?_⟩
    rw [g1 _ (by omega)]; exact hl _ (by omega)
theorem app_dis {v v' u : Value} {m : Nat} (h : v' = v ∨ blks v' = blks v ∨ blks v' = [m]) (hd : ∀ k ∈ blks v, k ∉ blks u) (hu : ∀ k ∈ blks u, k < m) : ∀ k ∈ blks v', k ∉ blks u := by
  rcases h with e | e | e
  · rw [e]; exact hd
  · rw [e]; exact hd
  · rw [e]; intro k hk hb; simp at hk; have := hu k hb; omega
theorem run_cons (p : Int) (n : Nat) : run p (n + 1) = p :: run (p + 1) n := by
  unfold run
  rw [List.range_succ_eq_map, List.map_cons, List.map_map]
  congr 1
  · simp
  · refine List.map_congr_left fun j _ => ?_
    simp only [Function.comp]; omega
theorem there_set {l : List Int} {e k : Nat} {q : Int} (hk : k < e) (he : e ≤ l.length) : (fillL l (e - k) (run (q - k + 1) k)).set (e - 1 - k) (q - k) = fillL l (e - (k + 1)) (run (q - ((k + 1 : Nat) : Int) + 1) (k + 1)) := by
  have h := fill_cons (l := l) (i := e - 1 - k) (xs := run (q - k + 1) k) (q - k) (by rw [run_len]; omega)
  rw [show e - k = e - 1 - k + 1 by omega, h, run_cons, show e - (k + 1) = e - 1 - k by omega]
  congr 2
  · omega
  · congr 1; omega
theorem getD_set_at (l : List Int) (k : Nat) (v : Int) (h : k < l.length) : (l.set k v).getD k 0 = v := by simp [List.getD, h]
theorem roomL_at {l : List Int} {i a b m : Nat} (h : i + a + b ≤ l.length) (hm : m < i) : (roomF l i a b true m).getD (i - 1 - m) 0 = l.getD (i - 1 - m) 0 := by
  have e : (fillL l i (run (l.getD (i + a + b - 1) 0 - a - b + 1) (a + b))).length = l.length := fill_len (by rw [run_len]; omega)
  have h2 := keepLm_len (l := l) (F := firstR l i a b true) (i := i) (m := m) (by omega) (by omega)
  unfold roomF
  simp only [if_true]
  rw [fill_getD (by rw [h2, e]; omega), if_neg (by omega), fill_getD (by rw [run_len]; omega), if_neg (by omega)]
theorem roomR_at {l : List Int} {i a b m : Nat} (h : i + a + b + m < l.length) : (roomF l i a b false m).getD (i + a + b + m) 0 = l.getD (i + a + b + m) 0 := by
  have e : (fillL l i (run (l.getD i 0) (a + b))).length = l.length := fill_len (by rw [run_len]; omega)
  have h2 := keepRm_len (l := l) (F := firstR l i a b false) (s := i + a + b) (m := m) (by omega)
  unfold roomF
  simp only [Bool.false_eq_true, if_false]
  rw [fill_getD (by rw [h2, e]; omega), h2, if_neg (by omega), fill_getD (by rw [run_len]; omega), run_len, if_neg (by omega)]
theorem roomL_new {l : List Int} {i a b m : Nat} (h : i + a + b ≤ l.length) (hm : m < i) : (roomF l i a b true (m + 1)).getD (i - 1 - m) 0 = min (l.getD (i - 1 - m) 0) (frL l (firstR l i a b true) i m) := by
  have hl := roomF_len (l := l) (front := true) (m := m) h (by simp only [if_true]; omega)
  rw [← roomL_set h hm, getD_set_at _ _ _ (by rw [hl]; omega)]
theorem roomR_new {l : List Int} {i a b m : Nat} (h : i + a + b + m < l.length) : (roomF l i a b false (m + 1)).getD (i + a + b + m) 0 = max (l.getD (i + a + b + m) 0) (frR l (firstR l i a b false) (i + a + b) m) := by
  have hl := roomF_len (l := l) (front := false) (m := m) (i := i) (a := a) (b := b) (by omega) (by simp only [Bool.false_eq_true, if_false]; omega)
  rw [← roomR_set h, getD_set_at _ _ _ (by rw [hl]; omega)]
def firC (i a : Nat) (front : Bool) : Nat := if front then i + a else i
def lasC (i a b : Nat) (front : Bool) : Nat := if front then i + a + b else i + a
theorem acr_eq (l : List Int) (i a b : Nat) (front : Bool) : acrS l i a b front = ((roomS l i a b front).take (lasC i a b front)).drop (firC i a front) := by cases front <;> rfl
theorem cut_snoc {r : List Int} {f k : Nat} (h1 : f ≤ k) (h2 : k < r.length) : (r.take (k + 1)).drop f = (r.take k).drop f ++ [r.getD k 0] := by
  rw [take_succ_getD r k h2, List.drop_append_of_le_length (by rw [List.length_take]; omega)]
theorem xf_snoc (b : Int) {r : List Int} {f k : Nat} (h1 : f ≤ k) (h2 : k < r.length) : xfers b ((r.take (k + 1)).drop f) = xfers b ((r.take k).drop f) ++ [xferO b (r.getD k 0)] := by
  rw [cut_snoc h1 h2]; unfold xfers; rw [List.map_append]; rfl
theorem xf_nil (b : Int) (r : List Int) (f : Nat) : xfers b ((r.take f).drop f) = [] := by
  rw [List.drop_eq_nil_of_le (by rw [List.length_take]; omega)]; rfl
theorem beh_split {l : List Int} {i a b : Nat} {front : Bool} : behS l i a b front = (roomS l i a b front).take i ++ run (behP l i a b front) (a + b) ++ (roomS l i a b front).drop (i + a + b) := by
  unfold behS fillL; rw [run_len, Nat.add_assoc]
theorem room_mid {l : List Int} {i a b : Nat} {front : Bool} (hil : i + a + b ≤ l.length) {j : Nat} (hj : j < a + b) : (roomS l i a b front).getD (i + j) 0 = (if front then l.getD (i + a + b - 1) 0 - a - b + 1 else l.getD i 0) + (j : Int) := by
  cases front
  · rw [room_f hil _ (by omega), if_neg (by omega), if_pos (by omega)]
    simp only [Bool.false_eq_true, if_false]; omega
  · rw [room_t hil _ (by omega), if_neg (by omega), if_pos (by omega)]
    simp only [if_true]; omega
theorem right_t {l : List Int} {i a b : Nat} (hil : i + a + b ≤ l.length) {m : Nat} (hm : m < b) : (roomS l i a b true).getD (i + a + m) 0 + byC a b true = behP l i a b true + (m : Int) := by
  rw [Nat.add_assoc, room_mid hil (by omega)]; simp only [if_true, byC, behP]; omega
theorem right_f {l : List Int} {i a b : Nat} (hil : i + a + b ≤ l.length) {m : Nat} (hm : m < b) : (roomS l i a b false).getD (i + a + m) 0 = behP l i a b false + (m : Int) := by
  rw [Nat.add_assoc, room_mid hil (by omega)]; simp only [Bool.false_eq_true, if_false, behP]; omega
theorem left_t {l : List Int} {i a b : Nat} (hil : i + a + b ≤ l.length) {m : Nat} (hm : m < a) : (roomS l i a b true).getD (i + m) 0 = behP l i a b true + ((b + m : Nat) : Int) := by
  rw [room_mid hil (by omega)]; simp only [if_true, behP]; omega
theorem left_f {l : List Int} {i a b : Nat} (hil : i + a + b ≤ l.length) {m : Nat} (hm : m < a) : (roomS l i a b false).getD (i + m) 0 + byC a b false = behP l i a b false + ((b + m : Nat) : Int) := by
  rw [room_mid hil (by omega)]; simp only [Bool.false_eq_true, if_false, byC, behP]; omega
theorem right_T {l : List Int} {i a b m : Nat} {fr : Bool} (h : fr = true) (hil : i + a + b ≤ l.length) (hm : m < b) : (roomS l i a b fr).getD (i + a + m) 0 + byC a b fr = behP l i a b fr + (m : Int) := by subst h; exact right_t hil hm
theorem right_F {l : List Int} {i a b m : Nat} {fr : Bool} (h : ¬ fr = true) (hil : i + a + b ≤ l.length) (hm : m < b) : (roomS l i a b fr).getD (i + a + m) 0 = behP l i a b fr + (m : Int) := by
  obtain rfl : fr = false := by simpa using h
  exact right_f hil hm
theorem left_T {l : List Int} {i a b m : Nat} {fr : Bool} (h : fr = true) (hil : i + a + b ≤ l.length) (hm : m < a) : (roomS l i a b fr).getD (i + m) 0 = behP l i a b fr + ((b + m : Nat) : Int) := by subst h; exact left_t hil hm
theorem left_F {l : List Int} {i a b m : Nat} {fr : Bool} (h : ¬ fr = true) (hil : i + a + b ≤ l.length) (hm : m < a) : (roomS l i a b fr).getD (i + m) 0 + byC a b fr = behP l i a b fr + ((b + m : Nat) : Int) := by
  obtain rfl : fr = false := by simpa using h
  exact left_f hil hm
theorem set_last {xs : List Int} (x y : Int) : (xs ++ [x]).set xs.length y = xs ++ [y] := by rw [List.set_append_right _ _ (Nat.le_refl _), Nat.sub_self]; rfl
theorem getD_last {xs : List Int} (x : Int) : (xs ++ [x]).getD xs.length 0 = x := by simp [List.getD]
theorem room_bd {l : List Int} {i a b : Nat} {front : Bool} (h : Asc (roomS l i a b front)) (hil : i + a + b ≤ l.length) {k : Nat} (hk : k < l.length) : 1 ≤ (roomS l i a b front).getD k 0 ∧ (roomS l i a b front).getD k 0 ≤ 40 := by
  have := h k (by rw [roomS_len hil]; exact hk)
  exact ⟨this.1, this.2.1⟩
end Go.Lw
