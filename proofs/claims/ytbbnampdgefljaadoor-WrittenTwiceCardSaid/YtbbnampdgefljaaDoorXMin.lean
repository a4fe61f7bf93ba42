/- The program's table holds the least texts. Conditions: none. -/
import Derived.Test.YtbbnampdgefljaaDoorXOrd
set_option linter.unusedVariables false
set_option linter.unusedSimpArgs false
namespace Go.G14
open Go.Lw

theorem times_front (ys : List Stitch) (k : Nat) : timesS ys (k + 1) = ys ++ timesS ys k := by simp [timesS, List.replicate_succ]
theorem period {m : Nat} : ∀ (k : Nat) (l : List Stitch), l.length = m * k → l.drop m = l.take (l.length - m) → l = timesS (l.take m) k
  | 0, l, hl, _ => by simp at hl; subst hl; simp [timesS]
  | 1, l, hl, _ => by rw [List.take_of_length_le (by omega)]; simp [timesS]
  | k + 2, l, hl, h => by
    have hlen : l.length = m + m * (k + 1) := by rw [hl, show k + 2 = (k + 1) + 1 from rfl, Nat.mul_succ]; omega
    have hk : m ≤ m * (k + 1) := Nat.le_mul_of_pos_right m (by omega)
    have h1 : (l.drop m).length = m * (k + 1) := by simp; omega
    have h2 : (l.drop m).drop m = (l.drop m).take ((l.drop m).length - m) := by
      conv => lhs; rw [h]
      rw [List.drop_take, h1, hlen]
      congr 1; omega
    have h3 : (l.drop m).take m = l.take m := by rw [h, List.take_take, Nat.min_eq_left (by omega)]
    have ih := period (k + 1) (l.drop m) h1 h2
    rw [h3] at ih
    rw [times_front, ← ih, List.take_append_drop]
theorem period_back {ys : List Stitch} {k : Nat} : (timesS ys (k + 1)).drop ys.length = (timesS ys (k + 1)).take ((timesS ys (k + 1)).length - ys.length) := by
  have e1 : (timesS ys (k + 1)).drop ys.length = timesS ys k := by rw [times_front, List.drop_left]
  have e2 : (timesS ys (k + 1)).take ((timesS ys (k + 1)).length - ys.length) = timesS ys k := by
    rw [times_succ, List.length_append, Nat.add_sub_cancel, List.take_left]
  rw [e1, e2]
theorem part_split {row : List Stitch} {i m n : Nat} (h : m ≤ n) : partS row i n = partS row i m ++ partS row (i + m) (n - m) := by
  unfold partS
  rw [← List.drop_drop]
  conv => lhs; rw [show n = m + (n - m) by omega]
  exact List.take_add
theorem part_take {row : List Stitch} {i m n : Nat} (h : m ≤ n) : (partS row i n).take m = partS row i m := by
  unfold partS; rw [List.take_take, Nat.min_eq_left h]
theorem part_times {row : List Stitch} {i n k : Nat} (hi : i + n ≤ row.length) (hk : n / k * k = n) (hr : repsB row i n (n / k) = true) : timesS (partS row i (n / k)) k = partS row i n := by
  have h := (repsB_iff hi).1 hr
  have hl := part_len hi
  have := period (m := n / k) k (partS row i n) (by rw [hl, hk]) h
  rw [part_take (Nat.div_le_self _ _)] at this
  exact this.symm
theorem part_of_times {row : List Stitch} {i n k : Nat} {ys : List Stitch} (hi : i + n ≤ row.length) (hk : 1 ≤ k) (h : timesS ys k = partS row i n) : n / k * k = n ∧ ys = partS row i (n / k) ∧ repsB row i n (n / k) = true ∧ ys.length = n / k := by
  have hl : k * ys.length = n := by rw [← times_len, h, part_len hi]
  have hd : n / k = ys.length := by rw [← hl]; exact Nat.mul_div_cancel_left _ (by omega)
  obtain ⟨j, rfl⟩ : ∃ j, k = j + 1 := ⟨k - 1, by omega⟩
  refine ⟨by rw [hd, Nat.mul_comm]; exact hl, ?_, ?_, hd.symm⟩
  · rw [hd, ← part_take (n := n) (by rw [← hl]; exact Nat.le_mul_of_pos_left _ (by omega)), ← h, times_front, List.take_left]
  · rw [repsB_iff hi, hd, ← h]; exact period_back
def ItemOk (t : List UInt8) (xs : List Stitch) : Prop := (t ≠ [] → Txt false t xs) ∧ ∀ s, Txt false s xs → t ≠ [] ∧ leP t s
def RowOk (t : List UInt8) (xs : List Stitch) : Prop := Txt true t xs ∧ ∀ s, Txt true s xs → leP t s
theorem rep_ne (t : List UInt8) (n : Nat) : repT t n ≠ [] := by simp [repT]
theorem item_inv {row : List Stitch} {i n : Nat} (hok : row.all okB = true) (hi : i + n ≤ row.length) (hn : 1 ≤ n) (h16 : n ≤ 16) (t : Nat → Nat → List UInt8 × List UInt8)
    (ih : ∀ m, 1 ≤ m → m < n → RowOk (t i m).2 (partS row i m)) : ∀ k, k < n →
    (itemTo t row i n k ≠ [] → Txt false (itemTo t row i n k) (partS row i n)) ∧
    (∀ x, partS row i n = [x] → itemTo t row i n k ≠ [] ∧ leP (itemTo t row i n k) (textS x)) ∧
    (∀ times, 2 ≤ times → times ≤ k + 1 → n / times * times = n → repsB row i n (n / times) = true → itemTo t row i n k ≠ [] ∧ leP (itemTo t row i n k) (repT (t i (n / times)).2 times))
  | 0, _ => by
    have hx : ∀ x, partS row i n = [x] → itemTo t row i n 0 = textS x ∧ checkS x = 0 := by
      intro x hx
      have hl := part_len hi
      rw [hx] at hl
      have h1 : n = 1 := hl.symm
      subst h1
      have hget : row[i]? = some x := by
        have := congrArg (·[0]?) hx
        simpa [partS] using this
      have hck := (okB_iff x).1 (List.all_eq_true.1 hok x (List.mem_of_getElem? hget))
      refine ⟨?_, hck⟩
      rw [itemTo, if_pos rfl, List.getD, hget]; rfl
    refine ⟨fun h => ?_, fun x e => ?_, fun times h1 h2 => by omega⟩
    · by_cases h1 : n = 1
      · subst h1
        obtain ⟨x, hx1⟩ : ∃ x, partS row i 1 = [x] := by
          have hl := part_len hi
          exact List.length_eq_one_iff.1 hl
        obtain ⟨e1, e2⟩ := hx x hx1
        rw [e1, hx1]; exact Txt.leaf e2
      · rw [itemTo, if_neg h1] at h; exact absurd rfl h
    · obtain ⟨e1, e2⟩ := hx x e
      rw [e1]; exact ⟨(text_ok_of e2).2.2.2, leP_refl _⟩
  | k + 1, hk => by
    obtain ⟨i1, i2, i3⟩ := item_inv hok hi hn h16 t ih k (by omega)
    by_cases c : n / (k + 2) * (k + 2) = n ∧ repsB row i n (n / (k + 2)) = true
    · have e : itemTo t row i n (k + 1) = betterS (itemTo t row i n k) (repT (t i (n / (k + 2))).2 (k + 2)) := (itemTo_yes c.1 c.2).symm
      have hne : betterS (itemTo t row i n k) (repT (t i (n / (k + 2))).2 (k + 2)) ≠ [] := better_ne (rep_ne _ _)
      have hm1 : 1 ≤ n / (k + 2) := by
        rcases Nat.eq_zero_or_pos (n / (k + 2)) with z | z
        · rw [z] at c; omega
        · exact z
      have hm2 : n / (k + 2) < n := Nat.div_lt_self (by omega) (by omega)
      have hT : Txt false (repT (t i (n / (k + 2))).2 (k + 2)) (partS row i n) := by
        have := Txt.rep (ih _ hm1 hm2).1 (show 2 ≤ k + 2 by omega) (by omega)
        rwa [part_times hi c.1 c.2] at this
      have hleft : itemTo t row i n k ≠ [] → leP (betterS (itemTo t row i n k) (repT (t i (n / (k + 2))).2 (k + 2))) (itemTo t row i n k) := fun h => better_le_left h (rep_ne _ _)
      rw [e]
      refine ⟨fun _ => ?_, fun x hx => ⟨hne, ?_⟩, fun times h1 h2 h3 h4 => ⟨hne, ?_⟩⟩
      · rcases better_cases (itemTo t row i n k) (repT (t i (n / (k + 2))).2 (k + 2)) with e2 | e2
        · rw [e2]; rw [e2] at hne; exact i1 hne
        · rw [e2]; exact hT
      · have := i2 x hx; exact leP_trans (hleft this.1) this.2
      · rcases Nat.lt_or_ge times (k + 2) with h | h
        · have := i3 times h1 (by omega) h3 h4; exact leP_trans (hleft this.1) this.2
        · obtain rfl : times = k + 2 := by omega
          exact better_le_right (rep_ne _ _)
    · rw [← itemTo_no c]
      refine ⟨i1, i2, fun times h1 h2 h3 h4 => ?_⟩
      rcases Nat.lt_or_ge times (k + 2) with h | h
      · exact i3 times h1 (by omega) h3 h4
      · obtain rfl : times = k + 2 := by omega
        exact absurd ⟨h3, h4⟩ c
theorem cons_ne (a b : List UInt8) : a ++ [32] ++ b ≠ [] := by simp
theorem text_inv {row : List Stitch} {i n : Nat} (t : Nat → Nat → List UInt8 × List UInt8) (item : List UInt8) (hit : item ≠ [] → Txt false item (partS row i n))
    (ih : ∀ m, 1 ≤ m → m < n → ItemOk (t i m).1 (partS row i m) ∧ RowOk (t (i + m) (n - m)).2 (partS row (i + m) (n - m))) : ∀ k, k < n →
    (textTo t i n item k ≠ [] → Txt true (textTo t i n item k) (partS row i n)) ∧ (item ≠ [] → textTo t i n item k ≠ [] ∧ leP (textTo t i n item k) item) ∧
    (∀ m, 1 ≤ m → m ≤ k → (t i m).1 ≠ [] → textTo t i n item k ≠ [] ∧ leP (textTo t i n item k) ((t i m).1 ++ [32] ++ (t (i + m) (n - m)).2))
  | 0, _ => ⟨fun h => .one (hit h), fun h => ⟨h, leP_refl _⟩, fun m h1 h2 => by omega⟩
  | k + 1, hk => by
    obtain ⟨i1, i2, i3⟩ := text_inv t item hit ih k (by omega)
    by_cases c : (t i (k + 1)).1 ≠ []
    · rw [← textTo_yes c]
      have hne : betterS (textTo t i n item k) ((t i (k + 1)).1 ++ [32] ++ (t (i + (k + 1)) (n - (k + 1))).2) ≠ [] := better_ne (cons_ne _ _)
      have hT : Txt true ((t i (k + 1)).1 ++ [32] ++ (t (i + (k + 1)) (n - (k + 1))).2) (partS row i n) := by
        obtain ⟨j1, j2⟩ := ih (k + 1) (by omega) hk
        rw [part_split (m := k + 1) (by omega)]
        exact .cons (j1.1 c) j2.1
      have hleft : textTo t i n item k ≠ [] → leP (betterS (textTo t i n item k) ((t i (k + 1)).1 ++ [32] ++ (t (i + (k + 1)) (n - (k + 1))).2)) (textTo t i n item k) := fun h => better_le_left h (cons_ne _ _)
      refine ⟨fun _ => ?_, fun h => ⟨hne, ?_⟩, fun m h1 h2 h3 => ⟨hne, ?_⟩⟩
      · rcases better_cases (textTo t i n item k) ((t i (k + 1)).1 ++ [32] ++ (t (i + (k + 1)) (n - (k + 1))).2) with e2 | e2
        · rw [e2]; rw [e2] at hne; exact i1 hne
        · rw [e2]; exact hT
      · have := i2 h; exact leP_trans (hleft this.1) this.2
      · rcases Nat.lt_or_ge m (k + 1) with h | h
        · have := i3 m h1 (by omega) h3; exact leP_trans (hleft this.1) this.2
        · obtain rfl : m = k + 1 := by omega
          exact better_le_right (cons_ne _ _)
    · rw [← textTo_no c]
      refine ⟨i1, i2, fun m h1 h2 h3 => ?_⟩
      rcases Nat.lt_or_ge m (k + 1) with h | h
      · exact i3 m h1 (by omega) h3
      · obtain rfl : m = k + 1 := by omega
        exact absurd h3 c
theorem T_ok {row : List Stitch} (hok : row.all okB = true) (h16 : row.length ≤ 16) (n : Nat) : 1 ≤ n → ∀ i, i + n ≤ row.length → ItemOk (T row i n).1 (partS row i n) ∧ RowOk (T row i n).2 (partS row i n) := by
  induction n using Nat.strongRecOn with
  | _ n ih =>
    intro hn i hi
    have hitem : ItemOk (T row i n).1 (partS row i n) := by
      obtain ⟨i1, i2, i3⟩ := item_inv hok hi hn (by omega) (T row) (fun m h1 h2 => (ih m h2 h1 i (by omega)).2) (n - 1) (by omega)
      rw [← T_item row i n hn (by omega)] at i1 i2 i3
      refine ⟨i1, fun s hs => ?_⟩
      generalize hp : partS row i n = xs at hs
      generalize hb : false = tg at hs
      cases hs with
      | leaf h => exact i2 _ hp
      | @rep t' ys k hT h2 hk16 =>
        obtain ⟨e1, e2, e3, e4⟩ := part_of_times hi (by omega) hp.symm
        have hy := hT.ok.1
        have hm1 : 1 ≤ n / k := by
          rw [← e4]; exact List.length_pos_iff.2 hy
        have hm2 : n / k < n := Nat.div_lt_self (by omega) (by omega)
        have hkn : k ≤ n := by
          have := Nat.mul_le_mul_right k hm1
          omega
        have h3 := i3 k h2 (by omega) e1 e3
        refine ⟨h3.1, leP_trans h3.2 (leP_rep k ((ih (n / k) hm2 hm1 i (by omega)).2.2 t' ?_))⟩
        rw [← e2]; exact hT
      | one => cases hb
      | cons => cases hb
    refine ⟨hitem, ?_⟩
    obtain ⟨r1, r2, r3⟩ := text_inv (row := row) (T row) (T row i n).1 hitem.1 (fun m h1 h2 => ⟨(ih m h2 h1 i (by omega)).1, (ih (n - m) (by omega) (by omega) (i + m) (by omega)).2⟩) (n - 1) (by omega)
    rw [← T_text row i n hn (by omega)] at r1 r2 r3
    have hleast : ∀ s, Txt true s (partS row i n) → (T row i n).2 ≠ [] ∧ leP (T row i n).2 s := by
      intro s hs
      generalize hp : partS row i n = xs at hs
      generalize hb : true = tg at hs
      cases hs with
      | leaf => cases hb
      | rep => cases hb
      | one h =>
        have h1 := hitem.2 s (by rw [hp]; exact h)
        have h2 := r2 h1.1
        exact ⟨h2.1, leP_trans h2.2 h1.2⟩
      | @cons a b ys zs ha hbT =>
        have hl := part_len hi
        rw [hp, List.length_append] at hl
        have hy : 1 ≤ ys.length := List.length_pos_iff.2 ha.ok.1
        have hz : 1 ≤ zs.length := List.length_pos_iff.2 hbT.ok.1
        have e1 : ys = partS row i ys.length := by rw [← part_take (n := n) (by omega), hp, List.take_left]
        have e2 : zs = partS row (i + ys.length) (n - ys.length) := by
          have := part_split (row := row) (i := i) (m := ys.length) (n := n) (by omega)
          rw [hp, ← e1] at this
          exact List.append_cancel_left this
        have h1 := (ih ys.length (by omega) hy i (by omega)).1.2 a (by rw [← e1]; exact ha)
        have h2 := (ih (n - ys.length) (by omega) (by omega) (i + ys.length) (by omega)).2.2 b (by rw [← e2]; exact hbT)
        have h3 := r3 ys.length hy (by omega) h1.1
        exact ⟨h3.1, leP_trans h3.2 (leP_cons h1.2 h2)⟩
    have hex : ∃ s, Txt true s (partS row i n) := by
      have all : ∀ l : List Stitch, l ≠ [] → l.all okB = true → ∃ s, Txt true s l := by
        intro l
        induction l with
        | nil => intro h; exact absurd rfl h
        | cons x l ihl =>
          intro _ h
          simp only [List.all_cons, Bool.and_eq_true] at h
          have hx := (okB_iff x).1 h.1
          cases l with
          | nil => exact ⟨_, .one (.leaf hx)⟩
          | cons y l =>
            obtain ⟨s, hs⟩ := ihl (by simp) h.2
            exact ⟨_, .cons (.leaf hx) hs⟩
      refine all _ (fun e => by have := part_len hi; rw [e] at this; simp at this; omega) ?_
      rw [List.all_eq_true] at hok ⊢
      exact fun x hx => hok x (List.mem_of_mem_drop (List.mem_of_mem_take hx))
    obtain ⟨s, hs⟩ := hex
    exact ⟨r1 (hleast s hs).1, fun s hs => (hleast s hs).2⟩
/-- The shortest text: it stands for the row, and no text of the row is better. -/
theorem short_ok {row : List Stitch} (hok : row.all okB = true) (h1 : 1 ≤ row.length) (h16 : row.length ≤ 16) : RowOk (shortS row) row := by
  have := (T_ok hok h16 row.length h1 0 (by omega)).2
  rwa [show partS row 0 row.length = row by simp [partS]] at this
theorem short_back {row : List Stitch} (hok : row.all okB = true) (h1 : 1 ≤ row.length) (h16 : row.length ≤ 16) : expandS (shortS row) = (row, 0) :=
  expand_complete (short_ok hok h1 h16).1 (by have := (T_len row 0 row.length h1).2; show (T row 0 row.length).2.length ≤ 1024; omega) h16
end Go.G14
