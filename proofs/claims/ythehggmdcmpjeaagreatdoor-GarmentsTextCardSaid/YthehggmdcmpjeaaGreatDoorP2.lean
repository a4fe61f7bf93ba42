/- Texts of the proof, joined. -/
import Derived.Scope
import Derived.WalkSmall
import Derived.Test.YthehggmdcmpjeaaGreatDoorRows
import Derived.Test.YthehggmdcmpjeaaGreatDoorP1
set_option linter.unusedVariables false
set_option linter.unusedSimpArgs false
namespace Go.G14
open Go.Lw
theorem times_front (ys : List Stitch) (k : Nat) : timesS ys (k + 1) = ys ++ timesS ys k := by simp [timesS, List.replicate_succ]
theorem period {m : Nat} : ∀ (k : Nat) (l : List Stitch), l.length = m * k → l.drop m = l.take (l.length - m) → l = timesS (l.take m) k
 | 0, l, hl, _ => by simp at hl; subst hl; simp [timesS]
 | 1, l, hl, _ => by rw [List.take_of_length_le (by omega)]; simp [timesS]
 | k + 2, l, hl, h => by
  have hlen : l.length = m + m * (k + 1) := by rw [hl, show k + 2 = (k + 1) + 1 from rfl, Nat.mul_succ]; omega
  have hk : m ≤ m * (k + 1) := Nat.le_mul_of_pos_right m (by omega)
  have h1 : (l.drop m).length = m * (k + 1) := by simp; omega
  have h2 : (l.drop m).drop m = (l.drop m).take ((l.drop m).length - m) := by
   conv => lhs; rw [h]
   rw [List.drop_take, h1, hlen]
   congr 1; omega
  have h3 : (l.drop m).take m = l.take m := by rw [h, List.take_take, Nat.min_eq_left (by omega)]
  have ih := period (k + 1) (l.drop m) h1 h2
  rw [h3] at ih
  rw [times_front, ← ih, List.take_append_drop]
theorem period_back {ys : List Stitch} {k : Nat} : (timesS ys (k + 1)).drop ys.length = (timesS ys (k + 1)).take ((timesS ys (k + 1)).length - ys.length) := by
 have e1 : (timesS ys (k + 1)).drop ys.length = timesS ys k := by rw [times_front, List.drop_left]
 have e2 : (timesS ys (k + 1)).take ((timesS ys (k + 1)).length - ys.length) = timesS ys k := by
  rw [times_succ, List.length_append, Nat.add_sub_cancel, List.take_left]
 rw [e1, e2]
theorem part_split {row : List Stitch} {i m n : Nat} (h : m ≤ n) : partS row i n = partS row i m ++ partS row (i + m) (n - m) := by
 unfold partS
 rw [← List.drop_drop]
 conv => lhs; rw [show n = m + (n - m) by omega]
 exact List.take_add
theorem part_take {row : List Stitch} {i m n : Nat} (h : m ≤ n) : (partS row i n).take m = partS row i m := by
 unfold partS; rw [List.take_take, Nat.min_eq_left h]
theorem part_times {row : List Stitch} {i n k : Nat} (hi : i + n ≤ row.length) (hk : n / k * k = n) (hr : repsB row i n (n / k) = true) : timesS (partS row i (n / k)) k = partS row i n := by
 have h := (repsB_iff hi).1 hr
 have hl := part_len hi
 have := period (m := n / k) k (partS row i n) (by rw [hl, hk]) h
 rw [part_take (Nat.div_le_self _ _)] at this
 exact this.symm
theorem part_of_times {row : List Stitch} {i n k : Nat} {ys : List Stitch} (hi : i + n ≤ row.length) (hk : 1 ≤ k) (h : timesS ys k = partS row i n) : n / k * k = n ∧ ys = partS row i (n / k) ∧ repsB row i n (n / k) = true ∧ ys.length = n / k := by
 have hl : k * ys.length = n := by rw [← times_len, h, part_len hi]
 have hd : n / k = ys.length := by rw [← hl]; exact Nat.mul_div_cancel_left _ (by omega)
 obtain ⟨j, rfl⟩ : ∃ j, k = j + 1 := ⟨k - 1, by omega⟩
 refine ⟨by rw [hd, Nat.mul_comm]; exact hl, ?_, ?_, hd.symm⟩
 ·rw [hd, ← part_take (n := n) (by rw [← hl]; exact Nat.le_mul_of_pos_left _ (by omega)), ← h, times_front, List.take_left]
 rw [repsB_iff hi, hd, ← h]; exact period_back
def ItemOk (t : List UInt8) (xs : List Stitch) : Prop := (t ≠ [] → Txt false t xs) ∧ ∀ s, Txt false s xs → t ≠ [] ∧ leP t s
def RowOk (t : List UInt8) (xs : List Stitch) : Prop := Txt true t xs ∧ ∀ s, Txt true s xs → leP t s
theorem rep_ne (t : List UInt8) (n : Nat) : repT t n ≠ [] := by simp [repT]
theorem item_inv {row : List Stitch} {i n : Nat} (hok : row.all okB = true) (hi : i + n ≤ row.length) (hn : 1 ≤ n) (h16 : n ≤ 16) (t : Nat → Nat → List UInt8 × List UInt8)
    (ih : ∀ m, 1 ≤ m → m < n → RowOk (t i m).2 (partS row i m)) : ∀ k, k < n →
    (itemTo t row i n k ≠ [] → Txt false (itemTo t row i n k) (partS row i n)) ∧
    (∀ x, partS row i n = [x] → itemTo t row i n k ≠ [] ∧ leP (itemTo t row i n k) (textS x)) ∧
    (∀ times, 2 ≤ times → times ≤ k + 1 → n / times * times = n → repsB row i n (n / times) = true → itemTo t row i n k ≠ [] ∧ leP (itemTo t row i n k) (repT (t i (n / times)).2 times))
  | 0, _ => by
    have hx : ∀ x, partS row i n = [x] → itemTo t row i n 0 = textS x ∧ checkS x = 0 := by
      intro x hx
      have hl := part_len hi
      rw [hx] at hl
      have h1 : n = 1 := hl.symm
      subst h1
      have hget : row[i]? = some x := by
        have := congrArg (·[0]?) hx
        simpa [partS] using this
      have hck := (okB_iff x).1 (List.all_eq_true.1 hok x (List.mem_of_getElem? hget))
      refine ⟨?_, hck⟩
      rw [itemTo, if_pos rfl, List.getD, hget]; rfl
    refine ⟨fun h => ?_, fun x e => ?_, fun times h1 h2 => by omega⟩
    · by_cases h1 : n = 1
      · subst h1
        obtain ⟨x, hx1⟩ : ∃ x, partS row i 1 = [x] := by
          have hl := part_len hi
          exact List.length_eq_one_iff.1 hl
        obtain ⟨e1, e2⟩ := hx x hx1
        rw [e1, hx1]; exact Txt.leaf e2
      · rw [itemTo, if_neg h1] at h; exact absurd rfl h
    · obtain ⟨e1, e2⟩ := hx x e
      rw [e1]; exact ⟨(text_ok_of e2).2.2.2, leP_refl _⟩
  | k + 1, hk => by
    obtain ⟨i1, i2, i3⟩ := item_inv hok hi hn h16 t ih k (by omega)
    by_cases c : n / (k + 2) * (k + 2) = n ∧ repsB row i n (n / (k + 2)) = true
    · have e : itemTo t row i n (k + 1) = betterS (itemTo t row i n k) (repT (t i (n / (k + 2))).2 (k + 2)) := (itemTo_yes c.1 c.2).symm
      have hne : betterS (itemTo t row i n k) (repT (t i (n / (k + 2))).2 (k + 2)) ≠ [] := better_ne (rep_ne _ _)
      have hm1 : 1 ≤ n / (k + 2) := by
        rcases Nat.eq_zero_or_pos (n / (k + 2)) with z | z
        · rw [z] at c; omega
        · exact z
      have hm2 : n / (k + 2) < n := Nat.div_lt_self (by omega) (by omega)
      have hT : Txt false (repT (t i (n / (k + 2))).2 (k + 2)) (partS row i n) := by
        have := Txt.rep (ih _ hm1 hm2).1 (show 2 ≤ k + 2 by omega) (by omega)
        rwa [part_times hi c.1 c.2] at this
      have hleft : itemTo t row i n k ≠ [] → leP (betterS (itemTo t row i n k) (repT (t i (n / (k + 2))).2 (k + 2))) (itemTo t row i n k) := fun h => better_le_left h (rep_ne _ _)
      rw [e]
      refine ⟨fun _ => ?_, fun x hx => ⟨hne, ?_⟩, fun times h1 h2 h3 h4 => ⟨hne, ?_⟩⟩
      · rcases better_cases (itemTo t row i n k) (repT (t i (n / (k + 2))).2 (k + 2)) with e2 | e2
        · rw [e2]; rw [e2] at hne; exact i1 hne
        · rw [e2]; exact hT
      · have := i2 x hx; exact leP_trans (hleft this.1) this.2
      · rcases Nat.lt_or_ge times (k + 2) with h | h
        · have := i3 times h1 (by omega) h3 h4; exact leP_trans (hleft this.1) this.2
        · obtain rfl : times = k + 2 := by omega
          exact better_le_right (rep_ne _ _)
    · rw [← itemTo_no c]
      refine ⟨i1, i2, fun times h1 h2 h3 h4 => ?_⟩
      rcases Nat.lt_or_ge times (k + 2) with h | h
      · exact i3 times h1 (by omega) h3 h4
      · obtain rfl : times = k + 2 := by omega
        exact absurd ⟨h3, h4⟩ c
theorem cons_ne (a b : List UInt8) : a ++ [32] ++ b ≠ [] := by simp
theorem text_inv {row : List Stitch} {i n : Nat} (t : Nat → Nat → List UInt8 × List UInt8) (item : List UInt8) (hit : item ≠ [] → Txt false item (partS row i n))
    (ih : ∀ m, 1 ≤ m → m < n → ItemOk (t i m).1 (partS row i m) ∧ RowOk (t (i + m) (n - m)).2 (partS row (i + m) (n - m))) : ∀ k, k < n →
    (textTo t i n item k ≠ [] → Txt true (textTo t i n item k) (partS row i n)) ∧ (item ≠ [] → textTo t i n item k ≠ [] ∧ leP (textTo t i n item k) item) ∧
    (∀ m, 1 ≤ m → m ≤ k → (t i m).1 ≠ [] → textTo t i n item k ≠ [] ∧ leP (textTo t i n item k) ((t i m).1 ++ [32] ++ (t (i + m) (n - m)).2))
  | 0, _ => ⟨fun h => .one (hit h), fun h => ⟨h, leP_refl _⟩, fun m h1 h2 => by omega⟩
  | k + 1, hk => by
    obtain ⟨i1, i2, i3⟩ := text_inv t item hit ih k (by omega)
    by_cases c : (t i (k + 1)).1 ≠ []
    · rw [← textTo_yes c]
      have hne : betterS (textTo t i n item k) ((t i (k + 1)).1 ++ [32] ++ (t (i + (k + 1)) (n - (k + 1))).2) ≠ [] := better_ne (cons_ne _ _)
      have hT : Txt true ((t i (k + 1)).1 ++ [32] ++ (t (i + (k + 1)) (n - (k + 1))).2) (partS row i n) := by
        obtain ⟨j1, j2⟩ := ih (k + 1) (by omega) hk
        rw [part_split (m := k + 1) (by omega)]
        exact .cons (j1.1 c) j2.1
      have hleft : textTo t i n item k ≠ [] → leP (betterS (textTo t i n item k) ((t i (k + 1)).1 ++ [32] ++ (t (i + (k + 1)) (n - (k + 1))).2)) (textTo t i n item k) := fun h => better_le_left h (cons_ne _ _)
      refine ⟨fun _ => ?_, fun h => ⟨hne, ?_⟩, fun m h1 h2 h3 => ⟨hne, ?_⟩⟩
      · rcases better_cases (textTo t i n item k) ((t i (k + 1)).1 ++ [32] ++ (t (i + (k + 1)) (n - (k + 1))).2) with e2 | e2
        · rw [e2]; rw [e2] at hne; exact i1 hne
        · rw [e2]; exact hT
      · have := i2 h; exact leP_trans (hleft this.1) this.2
      · rcases Nat.lt_or_ge m (k + 1) with h | h
        · have := i3 m h1 (by omega) h3; exact leP_trans (hleft this.1) this.2
        · obtain rfl : m = k + 1 := by omega
          exact better_le_right (cons_ne _ _)
    · rw [← textTo_no c]
      refine ⟨i1, i2, fun m h1 h2 h3 => ?_⟩
      rcases Nat.lt_or_ge m (k + 1) with h | h
      · exact i3 m h1 (by omega) h3
      · obtain rfl : m = k + 1 := by omega
        exact absurd h3 c
theorem T_ok {row : List Stitch} (hok : row.all okB = true) (h16 : row.length ≤ 16) (n : Nat) : 1 ≤ n → ∀ i, i + n ≤ row.length → ItemOk (T row i n).1 (partS row i n) ∧ RowOk (T row i n).2 (partS row i n) := by
 induction n using Nat.strongRecOn with
 | _ n ih =>
  intro hn i hi
  have hitem : ItemOk (T row i n).1 (partS row i n) := by
   obtain ⟨i1, i2, i3⟩ := item_inv hok hi hn (by omega) (T row) (fun m h1 h2 => (ih m h2 h1 i (by omega)).2) (n - 1) (by omega)
   rw [← T_item row i n hn (by omega)] at i1 i2 i3
   refine ⟨i1, fun s hs => ?_⟩
   generalize hp : partS row i n = xs at hs
   generalize hb : false = tg at hs
   cases hs with
   | leaf h => exact i2 _ hp
   | @rep t' ys k hT h2 hk16 =>
    obtain ⟨e1, e2, e3, e4⟩ := part_of_times hi (by omega) hp.symm
    have hy := hT.ok.1
    have hm1 : 1 ≤ n / k := by
     rw [← e4]; exact List.length_pos_iff.2 hy
    have hm2 : n / k < n := Nat.div_lt_self (by omega) (by omega)
    have hkn : k ≤ n := by
     have := Nat.mul_le_mul_right k hm1
     omega
    have h3 := i3 k h2 (by omega) e1 e3
    refine ⟨h3.1, leP_trans h3.2 (leP_rep k ((ih (n / k) hm2 hm1 i (by omega)).2.2 t' ?_))⟩
    rw [← e2]; exact hT
   | one => cases hb
   | cons => cases hb
  refine ⟨hitem, ?_⟩
  obtain ⟨r1, r2, r3⟩ := text_inv (row := row) (T row) (T row i n).1 hitem.1 (fun m h1 h2 => ⟨(ih m h2 h1 i (by omega)).1, (ih (n - m) (by omega) (by omega) (i + m) (by omega)).2⟩) (n - 1) (by omega)
  rw [← T_text row i n hn (by omega)] at r1 r2 r3
  have hleast : ∀ s, Txt true s (partS row i n) → (T row i n).2 ≠ [] ∧ leP (T row i n).2 s := by
   intro s hs
   generalize hp : partS row i n = xs at hs
   generalize hb : true = tg at hs
   cases hs with
   | leaf => cases hb
   | rep => cases hb
   | one h =>
    have h1 := hitem.2 s (by rw [hp]; exact h)
    have h2 := r2 h1.1
    exact ⟨h2.1, leP_trans h2.2 h1.2⟩
   | @cons a b ys zs ha hbT =>
    have hl := part_len hi
    rw [hp, List.length_append] at hl
    have hy : 1 ≤ ys.length := List.length_pos_iff.2 ha.ok.1
    have hz : 1 ≤ zs.length := List.length_pos_iff.2 hbT.ok.1
    have e1 : ys = partS row i ys.length := by rw [← part_take (n := n) (by omega), hp, List.take_left]
    have e2 : zs = partS row (i + ys.length) (n - ys.length) := by
     have := part_split (row := row) (i := i) (m := ys.length) (n := n) (by omega)
     rw [hp, ← e1] at this
     exact List.append_cancel_left this
    have h1 := (ih ys.length (by omega) hy i (by omega)).1.2 a (by rw [← e1]; exact ha)
    have h2 := (ih (n - ys.length) (by omega) (by omega) (i + ys.length) (by omega)).2.2 b (by rw [← e2]; exact hbT)
    have h3 := r3 ys.length hy (by omega) h1.1
    exact ⟨h3.1, leP_trans h3.2 (leP_cons h1.2 h2)⟩
  have hex : ∃ s, Txt true s (partS row i n) := by
   have all : ∀ l : List Stitch, l ≠ [] → l.all okB = true → ∃ s, Txt true s l := by
    intro l
    induction l with
    | nil => intro h; exact absurd rfl h
    | cons x l ihl =>
     intro _ h
     simp only [List.all_cons, Bool.and_eq_true] at h
     have hx := (okB_iff x).1 h.1
     cases l with
     | nil => exact ⟨_, .one (.leaf hx)⟩
     | cons y l =>
      obtain ⟨s, hs⟩ := ihl (by simp) h.2
      exact ⟨_, .cons (.leaf hx) hs⟩
   refine all _ (fun e => by have := part_len hi; rw [e] at this; simp at this; omega) ?_
   rw [List.all_eq_true] at hok ⊢
   exact fun x hx => hok x (List.mem_of_mem_drop (List.mem_of_mem_take hx))
  obtain ⟨s, hs⟩ := hex
  exact ⟨r1 (hleast s hs).1, fun s hs => (hleast s hs).2⟩
theorem short_ok {row : List Stitch} (hok : row.all okB = true) (h1 : 1 ≤ row.length) (h16 : row.length ≤ 16) : RowOk (shortS row) row := by
 have := (T_ok hok h16 row.length h1 0 (by omega)).2
 rwa [show partS row 0 row.length = row by simp [partS]] at this
theorem short_back {row : List Stitch} (hok : row.all okB = true) (h1 : 1 ≤ row.length) (h16 : row.length ≤ 16) : expandS (shortS row) = (row, 0) :=
 expand_complete (short_ok hok h1 h16).1 (by have := (T_len row 0 row.length h1).2; show (T row 0 row.length).2.length ≤ 1024; omega) h16
end Go.G14
namespace Go.G14
open Go.Lw
theorem shorten_good {xs : List Stitch} (hok : xs.all okB = true) (h1 : 1 ≤ xs.length) (h16 : xs.length ≤ 16) : shortenS xs = (shortS xs, 0) := by
 rw [shortenS, if_neg (by omega), if_neg (by omega), if_pos hok]
end Go.G14
namespace Go.G14
open Go.Lw
abbrev bT (row : List Stitch) (i n : Nat) : List UInt8 := (T row i n).2
abbrev bothT (row : List Stitch) (i n k : Nat) : List UInt8 := bT row i k ++ [32] ++ bT row (i + k) (n - k)
def refStep (row : List Stitch) (i n k : Nat) (t : List UInt8) : List UInt8 :=
  if n % k = 0 ∧ repsB row i n k = true then betterS (betterS t (bothT row i n k)) (repT (bT row i k) (n / k)) else betterS t (bothT row i n k)
def refTo (row : List Stitch) (i n : Nat) : Nat → List UInt8
  | 0 => if n = 1 then textS (row.getD i zeroSt) else []
  | k + 1 => refStep row i n (k + 1) (refTo row i n k)
theorem better_inv {xs : List Stitch} {t c : List UInt8} {C : List UInt8 → Prop} (h : (t ≠ [] → Txt true t xs) ∧ ∀ s, C s → t ≠ [] ∧ leP t s) (hc : Txt true c xs) (hn : c ≠ []) :
    (betterS t c ≠ [] → Txt true (betterS t c) xs) ∧ (∀ s, C s ∨ s = c → betterS t c ≠ [] ∧ leP (betterS t c) s) := by
  have hne : betterS t c ≠ [] := better_ne hn
  refine ⟨fun _ => ?_, fun s hs => ⟨hne, ?_⟩⟩
  · rcases better_cases t c with e | e
    · rw [e] at hne ⊢; exact h.1 hne
    · rw [e]; exact hc
  · rcases hs with hs | rfl
    · obtain ⟨h1, h2⟩ := h.2 s hs
      exact leP_trans (better_le_left h1 hn) h2
    · exact better_le_right hn
def Tried (row : List Stitch) (i n k : Nat) (s : List UInt8) : Prop :=
  (n = 1 ∧ s = textS (row.getD i zeroSt)) ∨ ∃ m, 1 ≤ m ∧ m ≤ k ∧ (s = bothT row i n m ∨ (n % m = 0 ∧ repsB row i n m = true ∧ s = repT (bT row i m) (n / m)))
theorem mod_div {n k : Nat} (h : n % k = 0) : n / k * k = n := by
 have := Nat.div_add_mod n k
 rw [h, Nat.mul_comm] at this; omega
theorem div_div {n m : Nat} (h1 : 1 ≤ m) (hn : 1 ≤ n) (h : n % m = 0) : n / (n / m) = m := by
 have e := mod_div h
 have hq : 1 ≤ n / m := by
  rcases Nat.eq_zero_or_pos (n / m) with z | z
  ·rw [z] at e; omega
  exact z
 refine Nat.div_eq_of_lt_le ?_ ?_
 ·rw [Nat.mul_comm]; omega
 rw [Nat.mul_comm]
 have h2 : n / m * (m + 1) = n / m * m + n / m := by rw [Nat.mul_add, Nat.mul_one]
 omega
theorem ref_inv {row : List Stitch} {i n : Nat} (hok : row.all okB = true) (h16 : row.length ≤ 16) (hi : i + n ≤ row.length) (hn : 1 ≤ n) : ∀ k, k < n →
    (refTo row i n k ≠ [] → Txt true (refTo row i n k) (partS row i n)) ∧ (∀ s, Tried row i n k s → refTo row i n k ≠ [] ∧ leP (refTo row i n k) s)
  | 0, _ => by
    by_cases h1 : n = 1
    · subst h1
      obtain ⟨x, hx⟩ : ∃ x, row[i]? = some x := ⟨_, List.getElem?_eq_getElem (by omega)⟩
      have hck := (okB_iff x).1 (List.all_eq_true.1 hok x (List.mem_of_getElem? hx))
      have e : refTo row i 1 0 = textS x := by rw [refTo, if_pos rfl, List.getD, hx]; rfl
      have ep : partS row i 1 = [x] := by
        have hl := part_len hi
        obtain ⟨y, hy⟩ := List.length_eq_one_iff.1 hl
        have := congrArg (·[0]?) hy
        simp [partS, hx] at this
        rw [hy, this]
      refine ⟨fun _ => by rw [e, ep]; exact .one (.leaf hck), fun s hs => ?_⟩
      rcases hs with ⟨_, rfl⟩ | ⟨m, h1, h2, _⟩
      · rw [List.getD, hx, e]; exact ⟨(text_ok_of hck).2.2.2, leP_refl _⟩
      · omega
    · refine ⟨fun h => absurd (by rw [refTo, if_neg h1]) h, fun s hs => ?_⟩
      rcases hs with ⟨h, _⟩ | ⟨m, h1, h2, _⟩
      · exact absurd h h1
      · omega
  | k + 1, hk => by
    have ih := ref_inv hok h16 hi hn k (by omega)
    have ha := (T_ok hok h16 (k + 1) (by omega) i (by omega)).2
    have hb := (T_ok hok h16 (n - (k + 1)) (by omega) (i + (k + 1)) (by omega)).2
    have hT : Txt true (bothT row i n (k + 1)) (partS row i n) := by
      rw [part_split (m := k + 1) (by omega)]
      exact Txt.app ha.1 hb.1
    have h1 := better_inv ih hT (cons_ne _ _)
    have hs1 : ∀ s, Tried row i n (k + 1) s → Tried row i n k s ∨ s = bothT row i n (k + 1) ∨ (n % (k + 1) = 0 ∧ repsB row i n (k + 1) = true ∧ s = repT (bT row i (k + 1)) (n / (k + 1))) := by
      rintro s (h | ⟨m, m1, m2, m3⟩)
      · exact .inl (.inl h)
      · rcases Nat.lt_or_ge m (k + 1) with h | h
        · exact .inl (.inr ⟨m, m1, by omega, m3⟩)
        · obtain rfl : m = k + 1 := by omega
          exact .inr m3
    by_cases c : n % (k + 1) = 0 ∧ repsB row i n (k + 1) = true
    · have e : refTo row i n (k + 1) = betterS (betterS (refTo row i n k) (bothT row i n (k + 1))) (repT (bT row i (k + 1)) (n / (k + 1))) := by rw [refTo, refStep, if_pos c]
      have hd := mod_div c.1
      have hq : 2 ≤ n / (k + 1) := by
        rcases Nat.lt_or_ge (n / (k + 1)) 2 with z | z
        · have : n / (k + 1) * (k + 1) ≤ 1 * (k + 1) := Nat.mul_le_mul_right _ (by omega)
          omega
        · exact z
      have hR : Txt true (repT (bT row i (k + 1)) (n / (k + 1))) (partS row i n) := by
        have h3 := Txt.rep ha.1 hq (by have := Nat.div_le_self n (k + 1); omega)
        have e2 := div_div (show 1 ≤ k + 1 by omega) hn c.1
        have e3 : timesS (partS row i (k + 1)) (n / (k + 1)) = partS row i n := by
          have := part_times (k := n / (k + 1)) hi (by rw [e2, Nat.mul_comm]; exact hd) (by rw [e2]; exact c.2)
          rwa [e2] at this
        rw [e3] at h3
        exact .one h3
      have h2 := better_inv h1 hR (rep_ne _ _)
      rw [e]
      refine ⟨h2.1, fun s hs => h2.2 s ?_⟩
      rcases hs1 s hs with h | h | h
      · exact .inl (.inl h)
      · exact .inl (.inr h)
      · exact .inr h.2.2
    · have e : refTo row i n (k + 1) = betterS (refTo row i n k) (bothT row i n (k + 1)) := by rw [refTo, refStep, if_neg c]
      rw [e]
      refine ⟨h1.1, fun s hs => h1.2 s ?_⟩
      rcases hs1 s hs with h | h | h
      · exact .inl h
      · exact .inr h
      · exact absurd ⟨h.1, h.2.1⟩ c
theorem ref_done {row : List Stitch} {i n : Nat} (hok : row.all okB = true) (h16 : row.length ≤ 16) (hi : i + n ≤ row.length) (hn : 1 ≤ n) : refTo row i n (n - 1) = bT row i n := by
 obtain ⟨r1, r2⟩ := ref_inv hok h16 hi hn (n - 1) (by omega)
 have hB := (T_ok hok h16 n hn i hi).2
 have hleast : refTo row i n (n - 1) ≠ [] ∧ ∀ s, Txt true s (partS row i n) → leP (refTo row i n (n - 1)) s := by
  have key : ∀ s, Txt true s (partS row i n) → refTo row i n (n - 1) ≠ [] ∧ leP (refTo row i n (n - 1)) s := by
   intro s hs
   generalize hp : partS row i n = xs at hs
   generalize hb : true = tg at hs
   cases hs with
   | leaf => cases hb
   | rep => cases hb
   | one h =>
    generalize hb2 : false = tg2 at h
    cases h with
    | one => cases hb2
    | cons => cases hb2
    | @leaf x hx =>
     have hl := part_len hi
     rw [hp] at hl
     have h1 : n = 1 := hl.symm
     subst h1
     have hget : row[i]? = some x := by
      have := congrArg (·[0]?) hp
      simpa [partS] using this
     exact r2 _ (.inl ⟨rfl, by rw [List.getD, hget]; rfl⟩)
    | @rep t' ys k hT h2 hk16 =>
     obtain ⟨e1, e2, e3, e4⟩ := part_of_times hi (by omega) hp.symm
     have hm1 : 1 ≤ n / k := by
      rw [← e4]; exact List.length_pos_iff.2 hT.ok.1
     have hm2 : n / k < n := Nat.div_lt_self (by omega) (by omega)
     have hmod : n % (n / k) = 0 := by
      have : n = n / k * k := e1.symm
      rw [this, Nat.mul_div_cancel _ (by omega)]
      exact Nat.mul_mod_right _ _
     have hdd : n / (n / k) = k := by
      refine Nat.div_eq_of_eq_mul_left (by omega) ?_
      rw [Nat.mul_comm]; exact e1.symm
     have h3 := r2 _ (.inr ⟨n / k, hm1, by omega, .inr ⟨hmod, e3, rfl⟩⟩)
     rw [hdd] at h3
     refine ⟨h3.1, leP_trans h3.2 (leP_rep k ((T_ok hok h16 (n / k) hm1 i (by omega)).2.2 t' ?_))⟩
     rw [← e2]; exact hT
   | @cons a b ys zs ha hbT =>
    have hl := part_len hi
    rw [hp, List.length_append] at hl
    have hy : 1 ≤ ys.length := List.length_pos_iff.2 ha.ok.1
    have hz : 1 ≤ zs.length := List.length_pos_iff.2 hbT.ok.1
    have e1 : ys = partS row i ys.length := by rw [← part_take (n := n) (by omega), hp, List.take_left]
    have e2 : zs = partS row (i + ys.length) (n - ys.length) := by
     have := part_split (row := row) (i := i) (m := ys.length) (n := n) (by omega)
     rw [hp, ← e1] at this
     exact List.append_cancel_left this
    have h1 := (T_ok hok h16 ys.length hy i (by omega)).2.2 a (by rw [← e1]; exact .one ha)
    have h2 := (T_ok hok h16 (n - ys.length) (by omega) (i + ys.length) (by omega)).2.2 b (by rw [← e2]; exact hbT)
    have h3 := r2 _ (.inr ⟨ys.length, hy, by omega, .inl rfl⟩)
    exact ⟨h3.1, leP_trans h3.2 (leP_cons h1 h2)⟩
  exact ⟨(key _ hB.1).1, fun s hs => (key s hs).2⟩
 exact leP_antis (hleast.2 _ hB.1) (hB.2 _ (r1 hleast.1))
end Go.G14
namespace Go.G14
open Go.Lw
theorem idx_lt {n a m : Nat} (h : a + m ≤ n) : a * (n + 1) + a + m < (n + 1) * (n + 1) := by
 have : a * (n + 1) ≤ n * (n + 1) := Nat.mul_le_mul_right _ (by omega)
 rw [Nat.add_mul n 1 (n + 1)]; omega
theorem idx_inj {n a m i L : Nat} (h1 : a + m ≤ n) (h2 : i + L ≤ n) (h : a * (n + 1) + a + m = i * (n + 1) + i + L) : a = i ∧ m = L := by
 have key : ∀ {a m i L : Nat}, a + m ≤ n → i + L ≤ n → a * (n + 1) + a + m = i * (n + 1) + i + L → ¬ a < i := by
  intro a m i L h1 h2 h hlt
  have : (a + 1) * (n + 1) ≤ i * (n + 1) := Nat.mul_le_mul_right _ hlt
  rw [Nat.add_mul] at this; omega
 have e : a = i := by have := key h1 h2 h; have := key h2 h1 h.symm; omega
 subst e; omega
def Filled (xs : List Stitch) (L i : Nat) (tab : List (List UInt8)) : Prop :=
  tab.length = (xs.length + 1) * (xs.length + 1) ∧ ∀ a m, 1 ≤ m → a + m ≤ xs.length → (m < L ∨ (m = L ∧ a < i)) → tab[a * (xs.length + 1) + a + m]? = some (bT xs a m)
theorem fill_start (xs : List Stitch) : Filled xs 1 0 (List.replicate ((xs.length + 1) * (xs.length + 1)) []) :=
 ⟨by simp, fun a m h1 _ h => by omega⟩
theorem fill_next {xs : List Stitch} {L i : Nat} {tab : List (List UInt8)} (hi : xs.length < i + L) (h : Filled xs L i tab) : Filled xs (L + 1) 0 tab :=
 ⟨h.1, fun a m h1 h2 h3 => h.2 a m h1 h2 (by omega)⟩
theorem fill_set {xs : List Stitch} {L i : Nat} {tab : List (List UInt8)} (hi : i + L ≤ xs.length) (h : Filled xs L i tab) : Filled xs L (i + 1) (tab.set (i * (xs.length + 1) + i + L) (bT xs i L)) := by
 refine ⟨by rw [List.length_set]; exact h.1, fun a m h1 h2 h3 => ?_⟩
 rw [List.getElem?_set]
 by_cases e : i * (xs.length + 1) + i + L = a * (xs.length + 1) + a + m
 ·obtain ⟨rfl, rfl⟩ := idx_inj hi h2 e
  rw [if_pos rfl, if_pos (by rw [h.1]; exact idx_lt hi)]
 rw [if_neg e]
 refine h.2 a m h1 h2 ?_
 rcases h3 with h3 | ⟨h3, h4⟩
 ·exact .inl h3
 rcases Nat.lt_or_ge a i with h5 | h5
 ·exact .inr ⟨h3, h5⟩
 exfalso; apply e; rw [show a = i by omega, h3]
def sameB (xs : List Stitch) (i k d : Nat) : Bool := (List.range d).all fun t => decide (xs[i + k + t]? = xs[i + t]?)
theorem same_next (xs : List Stitch) (i k d : Nat) : sameB xs i k (d + 1) = (sameB xs i k d && decide (xs[i + k + d]? = xs[i + d]?)) := by
 simp [sameB, List.range_succ, List.all_append]
theorem same_yes {xs : List Stitch} {i k d : Nat} {x y : Stitch} (hx : xs[i + k + d]? = some x) (hy : xs[i + d]? = some y) (h : x = y) : sameB xs i k (d + 1) = sameB xs i k d := by
 rw [same_next, hx, hy, h]; simp
theorem same_no {xs : List Stitch} {i k d : Nat} {x y : Stitch} (hx : xs[i + k + d]? = some x) (hy : xs[i + d]? = some y) (h : x ≠ y) : sameB xs i k (d + 1) = false := by
 rw [same_next, hx, hy]; simp [h]
theorem same_reps {xs : List Stitch} {i n k : Nat} (hi : i + n ≤ xs.length) (hk : k ≤ n) : sameB xs i k (n - k) = repsB xs i n k := by
 have e : (sameB xs i k (n - k) = true) ↔ (repsB xs i n k = true) := by
  unfold sameB repsB partS
  rw [List.all_eq_true, decide_eq_true_iff]
  constructor
  ·intro h
   apply List.ext_getElem?
   intro t
   rw [List.getElem?_drop, List.getElem?_take, List.getElem?_take, List.getElem?_take, List.getElem?_drop, List.getElem?_drop]
   rcases Nat.lt_or_ge t (n - k) with ht | ht
   ·rw [if_pos (by omega), if_pos ht, if_pos (by omega)]
    have := h t (List.mem_range.2 ht)
    rw [decide_eq_true_iff, Nat.add_assoc] at this
    exact this
   rw [if_neg (by omega), if_neg (by omega)]
  intro h t ht
  have ht := List.mem_range.1 ht
  have := congrArg (·[t]?) h
  simp only [List.getElem?_drop, List.getElem?_take] at this
  rw [if_pos (by omega), if_pos ht, if_pos (by omega)] at this
  rw [decide_eq_true_iff, Nat.add_assoc]; exact this
 cases h1 : sameB xs i k (n - k) <;> cases h2 : repsB xs i n k <;> simp_all
theorem itoa_lo : ∀ t, t < 17 → ¬ 9 < t → [dg ((t % 10 : Nat) : Int)] = itoaS t := by decide +kernel
theorem itoa_hi : ∀ t, t < 17 → 9 < t → [49] ++ [dg ((t % 10 : Nat) : Int)] = itoaS t := by decide +kernel
theorem better_pos {t c : List UInt8} (hc : c ≠ []) (h : t = [] ∨ lessP c t) : betterS t c = c := by
 rw [betterS, if_pos (h.imp id fun e => ⟨hc, e⟩)]
theorem better_neg {t c : List UInt8} (h : ¬ (t = [] ∨ lessP c t)) : betterS t c = t := by
 rw [betterS, if_neg (fun e => h (e.imp id fun e => e.2))]
theorem ref_no {row : List Stitch} {i n k : Nat} (h : ¬ (n % (k + 1) = 0 ∧ repsB row i n (k + 1) = true)) : betterS (refTo row i n k) (bothT row i n (k + 1)) = refTo row i n (k + 1) := by
 rw [refTo, refStep, if_neg h]
theorem ref_yes {row : List Stitch} {i n k : Nat} (h1 : n % (k + 1) = 0) (h2 : repsB row i n (k + 1) = true) : betterS (betterS (refTo row i n k) (bothT row i n (k + 1))) (repT (bT row i (k + 1)) (n / (k + 1))) = refTo row i n (k + 1) := by
 rw [refTo, refStep, if_pos ⟨h1, h2⟩]
theorem both_ne (row : List Stitch) (i n k : Nat) (t : List UInt8) : betterS t (bothT row i n k) ≠ [] := better_ne (cons_ne _ _)
theorem rep_eq (t : List UInt8) (times : Nat) : [91] ++ t ++ [93, 120] ++ itoaS times = repT t times := by simp [repT]
theorem short_len {xs : List Stitch} (h1 : 1 ≤ xs.length) (h16 : xs.length ≤ 16) : (shortS xs).length ≤ 12 * xs.length - 1 := (T_len xs 0 xs.length h1).2
end Go.G14
namespace Go.G14
open Go.Lw
def needsS (s : Stitch) : Int := if checkS s ≠ 0 ∨ s.k = 3 then 0 else if s.k = 8 then s.a + s.b else if s.k = 4 ∨ s.k = 5 then 2 else 1
def makesS (s : Stitch) : Int := if checkS s ≠ 0 then 0 else if s.k = 8 then s.a + s.b else 1
def few (n : Int) : Bool := decide (1 ≤ n ∧ n ≤ 3)
def loadsS (s : Stitch) (l : List Int) : List Int × Int :=
  if checkS s ≠ 0 then ([], 1) else if (l.length : Int) ≠ needsS s then ([], 5) else if l.all few = false then ([], 1)
  else if s.k = 4 ∨ s.k = 5 then (if 4 < l.getD 0 0 + l.getD 1 0 then ([], 9) else ([1], 0))
  else if s.k = 6 then (if l.getD 0 0 = 3 then ([], 9) else ([l.getD 0 0 + 1], 0))
  else if s.k = 7 then ([l.getD 0 0], 0) else (List.replicate (makesS s).toNat 1, 0)
theorem few_iff (n : Int) : few n = true ↔ 1 ≤ n ∧ n ≤ 3 := by simp [few]
theorem needs_rng (s : Stitch) : 0 ≤ needsS s ∧ needsS s ≤ 4 := by
 unfold needsS
 split
 ·omega
 rename_i h
 have hc : checkS s = 0 := Decidable.not_not.1 fun e => h (.inl e)
 have hr := check_rng hc
 (repeat' split) <;> first | omega | (rename_i h8; have := hr.2.2.2.2.2 h8; omega)
theorem makes_rng (s : Stitch) : 0 ≤ makesS s ∧ makesS s ≤ 4 := by
 unfold makesS
 split
 ·omega
 rename_i h
 have hr := check_rng (Decidable.not_not.1 h)
 split
 ·rename_i h8; have := hr.2.2.2.2.2 h8; omega
 omega
variable {s : Stitch} {l : List Int}
theorem needs_0 (h : checkS s ≠ 0 ∨ s.k = 3) : needsS s = 0 := if_pos h
theorem needs_8 (h : checkS s = 0) (h8 : s.k = 8) : needsS s = s.a + s.b := by rw [needsS, if_neg (by omega), if_pos h8]
theorem needs_2 (h : checkS s = 0) (h4 : s.k = 4 ∨ s.k = 5) : needsS s = 2 := by rw [needsS, if_neg (by omega), if_neg (by omega), if_pos h4]
theorem needs_1 (h : checkS s = 0) (h3 : s.k ≠ 3) (h8 : s.k ≠ 8) (h4 : ¬ (s.k = 4 ∨ s.k = 5)) : needsS s = 1 := by rw [needsS, if_neg (by omega), if_neg h8, if_neg h4]
theorem makes_0 (h : checkS s ≠ 0) : makesS s = 0 := if_pos h
theorem makes_8 (h : checkS s = 0) (h8 : s.k = 8) : makesS s = s.a + s.b := by rw [makesS, if_neg (by omega), if_pos h8]
theorem makes_1 (h : checkS s = 0) (h8 : s.k ≠ 8) : makesS s = 1 := by rw [makesS, if_neg (by omega), if_neg h8]
theorem loads_1 (h : checkS s ≠ 0) : loadsS s l = ([], 1) := if_pos h
theorem loads_5 (h : checkS s = 0) (hn : (l.length : Int) ≠ needsS s) : loadsS s l = ([], 5) := by rw [loadsS, if_neg (by omega), if_pos hn]
theorem loads_b (h : checkS s = 0) (hn : (l.length : Int) = needsS s) {k : Nat} {x : Int} (hx : l[k]? = some x) (hb : ¬ (1 ≤ x ∧ x ≤ 3)) : loadsS s l = ([], 1) := by
 have hf : l.all few = false := by
  rw [Bool.eq_false_iff]
  intro e
  exact hb ((few_iff x).1 (List.all_eq_true.1 e x (List.mem_of_getElem? hx)))
 rw [loadsS, if_neg (by omega), if_neg (by omega), if_pos hf]
variable (h : checkS s = 0) (hn : (l.length : Int) = needsS s) (hf : l.all few = true)
include h hn hf
theorem loads_g : loadsS s l = if s.k = 4 ∨ s.k = 5 then (if 4 < l.getD 0 0 + l.getD 1 0 then ([], 9) else ([1], 0))
 else if s.k = 6 then (if l.getD 0 0 = 3 then ([], 9) else ([l.getD 0 0 + 1], 0))
 else if s.k = 7 then ([l.getD 0 0], 0) else (List.replicate (makesS s).toNat 1, 0) := by
 rw [loadsS, if_neg (by omega), if_neg (by omega), if_neg (by rw [hf]; simp)]
theorem loads_2f (h4 : s.k = 4 ∨ s.k = 5) {x y : Int} (hx : l[0]? = some x) (hy : l[1]? = some y) (hc : 4 < x + y) : loadsS s l = ([], 9) := by
 rw [loads_g h hn hf, if_pos h4, if_pos (by rw [List.getD, List.getD, hx, hy]; exact hc)]
theorem loads_2 (h4 : s.k = 4 ∨ s.k = 5) {x y : Int} (hx : l[0]? = some x) (hy : l[1]? = some y) (hc : ¬ 4 < x + y) : loadsS s l = ([1], 0) := by
 rw [loads_g h hn hf, if_pos h4, if_neg (by rw [List.getD, List.getD, hx, hy]; exact hc)]
theorem loads_6f (h6 : s.k = 6) {x : Int} (hx : l[0]? = some x) (hc : x = 3) : loadsS s l = ([], 9) := by
 rw [loads_g h hn hf, if_neg (by omega), if_pos h6, if_pos (by rw [List.getD, hx]; exact hc)]
theorem loads_6 (h6 : s.k = 6) {x : Int} (hx : l[0]? = some x) (hc : ¬ x = 3) : loadsS s l = ([x + 1], 0) := by
 rw [loads_g h hn hf, if_neg (by omega), if_pos h6, if_neg (by rw [List.getD, hx]; exact hc), List.getD, hx]; rfl
theorem loads_7 (h7 : s.k = 7) {x : Int} (hx : l[0]? = some x) : loadsS s l = ([x], 0) := by
 rw [loads_g h hn hf, if_neg (by omega), if_neg (by omega), if_pos h7, List.getD, hx]; rfl
theorem loads_o (h4 : ¬ (s.k = 4 ∨ s.k = 5)) (h6 : s.k ≠ 6) (h7 : s.k ≠ 7) : loadsS s l = (List.replicate (makesS s).toNat 1, 0) := by
 rw [loads_g h hn hf, if_neg h4, if_neg h6, if_neg h7]
omit h hn hf
theorem all_few_next {l : List Int} {k : Nat} {x : Int} (ha : (l.take k).all few = true) (hx : l[k]? = some x) (h : 1 ≤ x ∧ x ≤ 3) : (l.take (k + 1)).all few = true := by
 rw [List.take_add_one, hx]; simp [ha, (few_iff x).2 h]
theorem rep_succ (n : Nat) : List.replicate (n + 1) (1 : Int) = List.replicate n 1 ++ [1] := List.replicate_succ'
theorem loads_few (h0 : (loadsS s l).2 = 0) : (loadsS s l).1.all few = true ∧ ((loadsS s l).1.length : Int) = makesS s ∧ checkS s = 0 := by
 unfold loadsS at h0 ⊢
 by_cases h : checkS s ≠ 0
 ·rw [if_pos h] at h0; simp at h0
 by_cases hn : (l.length : Int) ≠ needsS s
 ·rw [if_neg h, if_pos hn] at h0; simp at h0
 by_cases hf : l.all few = false
 ·rw [if_neg h, if_neg hn, if_pos hf] at h0; simp at h0
 rw [if_neg h, if_neg hn, if_neg hf] at h0 ⊢
 have hf' : l.all few = true := by simpa using hf
 have hc : checkS s = 0 := Decidable.not_not.1 h
 have hnn : (l.length : Int) = needsS s := Decidable.not_not.1 hn
 have get0 : s.k = 6 ∨ s.k = 7 → 1 ≤ l.getD 0 0 ∧ l.getD 0 0 ≤ 3 := by
  intro hk
  have hl : l.length = 1 := by have := needs_1 hc (by omega) (by omega) (by omega); omega
  obtain ⟨x, rfl⟩ := List.length_eq_one_iff.1 hl
  simpa [few] using hf'
 by_cases h4 : s.k = 4 ∨ s.k = 5
 ·rw [if_pos h4] at h0 ⊢
  split at h0
  ·simp at h0
  rename_i c; rw [if_neg c]; exact ⟨rfl, by rw [makes_1 hc (by omega)]; rfl, hc⟩
 rw [if_neg h4] at h0 ⊢
 by_cases h6 : s.k = 6
 ·rw [if_pos h6] at h0 ⊢
  have := get0 (.inl h6)
  split at h0
  ·simp at h0
  rename_i c; rw [if_neg c]; exact ⟨by simp only [List.all_cons, List.all_nil, Bool.and_true]; exact (few_iff _).2 (by omega), by rw [makes_1 hc (by omega)]; rfl, hc⟩
 rw [if_neg h6]
 by_cases h7 : s.k = 7
 ·rw [if_pos h7]
  have := get0 (.inr h7)
  exact ⟨by simp only [List.all_cons, List.all_nil, Bool.and_true]; exact (few_iff _).2 (by omega), by rw [makes_1 hc (by omega)]; rfl, hc⟩
 rw [if_neg h7]
 have := makes_rng s
 exact ⟨by simp [few], by simp; omega, hc⟩
end Go.G14
namespace Go.G14
open Go.Lw
theorem Sl.part {α : Type} {E : Enc α} {w : World} {A : Option Addr} {n c : Nat} {l : List α} {i m : Nat} (h : Sl E w (.slice A n c) l) (hm : i + m ≤ l.length) : Sl E w (.slice (if c = i then A else A.map (·.add (i * E.sz))) (i + m - i) (c - i)) ((l.drop i).take m) := by
 obtain ⟨hn, hc, hM, _⟩ := Sl.open_ h
 have h1 := h.drop rfl (m := i) (by omega) (B := if c = i then A else A.map (·.add (i * E.sz))) (c' := c - i) (by omega) (by omega) (fun hlt => by rw [if_neg (by omega)])
 have h2 := h1.take rfl (m := m) (by simp; omega) (B := if c = i then A else A.map (·.add (i * E.sz))) (c' := c - i) (by omega) (by omega) (fun _ => rfl)
 rw [show i + m - i = m by omega]
 exact h2
def pairsL : List (Int × Int) := [(1, 1), (1, 2), (2, 1), (2, 2), (1, 3), (3, 1)]
def encPr : Enc (Int × Int) := ⟨fun p => [.int .i64 p.1, .int .i64 p.2], 2, fun _ => rfl, fun _ u h => by simp at h; rcases h with rfl | rfl <;> rfl, by decide⟩
def kOfS (kd y a : Int) (f : Bool) : Stitch :=
  if 1 + kd % 8 = 8 then ⟨1 + kd % 8, 1 + y % 6, (pairsL.getD (a % 6).toNat (0, 0)).1, (pairsL.getD (a % 6).toNat (0, 0)).2, f⟩ else ⟨1 + kd % 8, 1 + y % 6, 0, 0, false⟩
theorem kOf7 (a : Int) (f : Bool) (h : 0 ≤ a) : (kOfS 7 0 a f).k = 8 ∧ (kOfS 7 0 a f).y = 1 ∧ 1 ≤ (kOfS 7 0 a f).a ∧ 1 ≤ (kOfS 7 0 a f).b ∧ (kOfS 7 0 a f).a + (kOfS 7 0 a f).b ≤ 4 := by
 have h6 : (a % 6).toNat < 6 := by omega
 have key : ∀ n, n < 6 → 1 ≤ (pairsL.getD n (0, 0)).1 ∧ 1 ≤ (pairsL.getD n (0, 0)).2 ∧ (pairsL.getD n (0, 0)).1 + (pairsL.getD n (0, 0)).2 ≤ 4 := by decide
 have := key _ h6
 rw [kOfS, if_pos (by decide)]
 exact ⟨by simp, by simp, this.1, this.2.1, this.2.2⟩
def Fit (ls : List Int) (i ny : Nat) (s : Stitch) : Prop :=
  checkS s = 0 ∧ i + (needsS s).toNat ≤ ls.length ∧ (needsS s = 0 → ny + (ls.length - i) < 8) ∧ (loadsS s ((ls.drop i).take (needsS s).toNat)).2 = 0
theorem part_few {ls : List Int} {i m : Nat} (h : ls.all few = true) : ((ls.drop i).take m).all few = true := by
 rw [List.all_eq_true] at h ⊢
 exact fun x hx => h x (List.mem_of_mem_drop (List.mem_of_mem_take hx))
theorem part_length {ls : List Int} {i : Nat} {s : Stitch} (h : i + (needsS s).toNat ≤ ls.length) : (((ls.drop i).take (needsS s).toNat).length : Int) = needsS s := by
 have := needs_rng s
 simp; omega
theorem part_get {ls : List Int} {i m j : Nat} (h : j < m) : ((ls.drop i).take m)[j]? = ls[i + j]? := by
 rw [List.getElem?_take, if_pos h, List.getElem?_drop]
variable {ls : List Int} {i ny : Nat} {s : Stitch}
theorem fit_over (hc : checkS s = 0) (hk : s.k = 3) (hi : i ≤ ls.length) (hf : ls.all few = true) (h8 : ny + (ls.length - i) < 8) : Fit ls i ny s := by
 have hn := needs_0 (s := s) (.inr hk)
 have hle : i + (needsS s).toNat ≤ ls.length := by omega
 exact ⟨hc, hle, fun _ => h8, by rw [loads_o hc (part_length hle) (part_few hf) (by omega) (by omega) (by omega)]⟩
theorem fit_plain (hc : checkS s = 0) (hk : s.k = 1 ∨ s.k = 2) (hi : i < ls.length) (hf : ls.all few = true) : Fit ls i ny s := by
 have hn := needs_1 hc (by omega) (by omega) (by omega)
 have hle : i + (needsS s).toNat ≤ ls.length := by omega
 exact ⟨hc, hle, fun e => by omega, by rw [loads_o hc (part_length hle) (part_few hf) (by omega) (by omega) (by omega)]⟩
theorem fit_two (hc : checkS s = 0) (hk : s.k = 4 ∨ s.k = 5) (hi : i + 1 < ls.length) (hf : ls.all few = true) {x y : Int} (hx : ls[i]? = some x) (hy : ls[i + 1]? = some y) (h4 : x + y ≤ 4) : Fit ls i ny s := by
 have hn := needs_2 hc hk
 have hle : i + (needsS s).toNat ≤ ls.length := by omega
 exact ⟨hc, hle, fun e => by omega, by rw [loads_2 hc (part_length hle) (part_few hf) hk (by rw [part_get (by omega)]; exact hx) (by rw [part_get (by omega)]; exact hy) (by omega)]⟩
theorem fit_tuck (hc : checkS s = 0) (hk : s.k = 6) (hi : i < ls.length) (hf : ls.all few = true) {x : Int} (hx : ls[i]? = some x) (h3 : x < 3) : Fit ls i ny s := by
 have hn := needs_1 hc (by omega) (by omega) (by omega)
 have hle : i + (needsS s).toNat ≤ ls.length := by omega
 exact ⟨hc, hle, fun e => by omega, by rw [loads_6 hc (part_length hle) (part_few hf) hk (by rw [part_get (by omega)]; exact hx) (by omega)]⟩
theorem fit_slip (hc : checkS s = 0) (hk : s.k = 7) (hi : i < ls.length) (hf : ls.all few = true) : Fit ls i ny s := by
 have hn := needs_1 hc (by omega) (by omega) (by omega)
 have hle : i + (needsS s).toNat ≤ ls.length := by omega
 obtain ⟨x, hx⟩ : ∃ x, ls[i]? = some x := ⟨_, List.getElem?_eq_getElem hi⟩
 exact ⟨hc, hle, fun e => by omega, by rw [loads_7 hc (part_length hle) (part_few hf) hk (by rw [part_get (by omega)]; exact hx)]⟩
theorem fit_cable (hc : checkS s = 0) (hk : s.k = 8) (hf : ls.all few = true) (hle : (i : Int) + (s.a + s.b) ≤ ls.length) : Fit ls i ny s := by
 have hn := needs_8 hc hk
 have hr := (check_rng hc).2.2.2.2.2 hk
 have hle : i + (needsS s).toNat ≤ ls.length := by omega
 exact ⟨hc, hle, fun e => by omega, by rw [loads_o hc (part_length hle) (part_few hf) (by omega) (by omega) (by omega)]⟩
theorem fit_step (h : Fit ls i ny s) (hi : i ≤ ls.length) (h8 : ny + (ls.length - i) ≤ 8) : 1 ≤ makesS s ∧ ny + (makesS s).toNat + (ls.length - (i + (needsS s).toNat)) ≤ 8 ∧ (needsS s = 0 → makesS s = 1) := by
 obtain ⟨hc, h1, h2, h3⟩ := h
 have hr := check_rng hc
 by_cases h8k : s.k = 8
 ·have := hr.2.2.2.2.2 h8k
  rw [makes_8 hc h8k, needs_8 hc h8k] at *
  omega
 rw [makes_1 hc h8k]
 by_cases h3k : s.k = 3
 ·rw [needs_0 (.inr h3k)] at *
  have := h2 rfl
  simp; omega
 have : 1 ≤ needsS s := by
  by_cases h4 : s.k = 4 ∨ s.k = 5
  ·rw [needs_2 hc h4]; omega
  rw [needs_1 hc h3k h8k h4]; omega
 omega
theorem check_plain {k y : Int} (hk : 1 ≤ k ∧ k ≤ 7) (hy : 1 ≤ y ∧ y ≤ 6) : checkS ⟨k, y, 0, 0, false⟩ = 0 :=
 check_zero (by show 0 ≤ k; omega) (by show 0 ≤ y; omega) (by show ¬ (y = 0 ∨ 6 < y ∨ k = 0 ∨ 8 < k); omega) (.inr ⟨by show k ≠ 8; omega, rfl, rfl, rfl⟩)
theorem check_cable {y a b : Int} {f : Bool} (hy : 1 ≤ y ∧ y ≤ 6) (ha : 1 ≤ a) (hb : 1 ≤ b) (hab : a + b ≤ 4) : checkS ⟨8, y, a, b, f⟩ = 0 :=
 check_zero (by show (0 : Int) ≤ 8; omega) (by show 0 ≤ y; omega) (by show ¬ (y = 0 ∨ 6 < y ∨ (8 : Int) = 0 ∨ (8 : Int) < 8); omega) (.inl ⟨rfl, ha, hb, hab⟩)
theorem fitP {k y : Int} (hk : k = 1 ∨ k = 2) (hy : 1 ≤ y ∧ y ≤ 6) (hi : i < ls.length) (hf : ls.all few = true) : Fit ls i ny ⟨k, y, 0, 0, false⟩ := fit_plain (check_plain (by omega) hy) hk hi hf
theorem fitO {k y : Int} (hk : k = 3) (hy : 1 ≤ y ∧ y ≤ 6) (hi : i ≤ ls.length) (hf : ls.all few = true) (h8 : ny + (ls.length - i) < 8) : Fit ls i ny ⟨k, y, 0, 0, false⟩ := fit_over (check_plain (by omega) hy) hk hi hf h8
theorem fitT {k y : Int} (hk : k = 4 ∨ k = 5) (hy : 1 ≤ y ∧ y ≤ 6) (hi : i + 1 < ls.length) (hf : ls.all few = true) {p q : Int} (hx : ls[i]? = some p) (hy' : ls[i + 1]? = some q) (h4 : p + q ≤ 4) : Fit ls i ny ⟨k, y, 0, 0, false⟩ := fit_two (check_plain (by omega) hy) hk hi hf hx hy' h4
theorem fitU {k y : Int} (hk : k = 6) (hy : 1 ≤ y ∧ y ≤ 6) (hi : i < ls.length) (hf : ls.all few = true) {p : Int} (hx : ls[i]? = some p) (h3 : p < 3) : Fit ls i ny ⟨k, y, 0, 0, false⟩ := fit_tuck (check_plain (by omega) hy) hk hi hf hx h3
theorem fitS {k y : Int} (hk : k = 7) (hy : 1 ≤ y ∧ y ≤ 6) (hi : i < ls.length) (hf : ls.all few = true) : Fit ls i ny ⟨k, y, 0, 0, false⟩ := fit_slip (check_plain (by omega) hy) hk hi hf
theorem fitC {k y a b : Int} {f : Bool} (hk : k = 8) (hy : 1 ≤ y ∧ y ≤ 6) (ha : 1 ≤ a) (hb : 1 ≤ b) (hab : a + b ≤ 4) (hf : ls.all few = true) (hle : (i : Int) + (a + b) ≤ ls.length) : Fit ls i ny ⟨k, y, a, b, f⟩ := by
 subst hk; exact fit_cable (check_cable hy ha hb hab) rfl hf hle
theorem all_app {l m : List Int} (h1 : l.all few = true) (h2 : m.all few = true) : (l ++ m).all few = true := by simp [h1, h2]
structure RowSt where
  i : Nat
  xs : List Stitch
  ys : List Int
  X : Value
  Y : Value
structure RowsO (R T : TypeId) (base : Nat) (w : World) (OV : Value) (ps : List (SV × List Stitch)) : Prop where
  out : Lw.Own Enc.sl R base w OV (ps.map Prod.fst)
  ins : ∀ p ∈ ps, Lw.Own encSt T base w (slv p.1) p.2
  off : ∀ p ∈ ps, ∀ k ∈ blks (slv p.1), k ∉ blks OV
section
variable {R T : TypeId} {base : Nat} {w w' : World} {OV OV' : Value} {ps : List (SV × List Stitch)}
theorem RowsO.fr {S : List Nat} (h : RowsO R T base w OV ps) (hq : Fr S w w') (hS : ∀ k ∈ S, k < base) : RowsO R T base w' OV ps :=
 ⟨h.out.fr hq (fun k hk hb => by have := (h.out.blk k hb).1; have := hS k hk; omega), fun p hp => (h.ins p hp).fr hq (fun k hk hb => by have := ((h.ins p hp).blk k hb).1; have := hS k hk; omega), h.off⟩
theorem RowsO.ext (h : RowsO R T base w OV ps) (hq : Fr [] w w') : RowsO R T base w' OV ps := h.fr hq (by simp)
theorem RowsO.nil (w : World) : RowsO R T base w (.slice none 0 0) [] := ⟨Own.nil w, by simp, by simp⟩
theorem RowsO.push {u : SV} {r : List Stitch} (h : RowsO R T base w OV ps) (hu : Lw.Own encSt T base w (slv u) r) (hd : ∀ k ∈ blks (slv u), k ∉ blks OV) (ho : Lw.Own Enc.sl R base w' OV' (ps.map Prod.fst ++ [u])) (hq : Fr (blks OV) w w')
    (hx : OV' = OV ∨ blks OV' = blks OV ∨ blks OV' = [w.heap.size]) : RowsO R T base w' OV' (ps ++ [(u, r)]) := by
  have hall : ∀ p ∈ ps ++ [(u, r)], Lw.Own encSt T base w (slv p.1) p.2 ∧ ∀ k ∈ blks (slv p.1), k ∉ blks OV := by
    intro p hp
    rcases List.mem_append.1 hp with hp | hp
    · exact ⟨h.ins p hp, h.off p hp⟩
    · simp at hp; subst hp; exact ⟨hu, hd⟩
  refine ⟨by simpa using ho, fun p hp => (hall p hp).1.fr hq (fun k hk hb => (hall p hp).2 k hb hk), fun p hp k hk => ?_⟩
  rcases hx with e | e | e
  · rw [e]; exact (hall p hp).2 k hk
  · rw [e]; exact (hall p hp).2 k hk
  · rw [e]; have := ((hall p hp).1.blk k hk).2; simp; omega
end
structure OfSt where
  i : Nat
  L : Value
  ls : List Int
  OV : Value
  ps : List (SV × List Stitch)
def goodRow (r : List Stitch) : Prop := r ≠ [] ∧ r.all okB = true ∧ r.length ≤ 8
theorem rep_few (n : Nat) : (List.replicate n (1 : Int)).all few = true := by simp [few]
end Go.G14
namespace Go.G14
open Go.Lw
end Go.G14
namespace Go.Lw
open Go.RowKit
theorem zero_rows {α : Type} (E : Enc α) (z : α) : ∀ (c : Nat), ((Array.range (c * E.sz)).map ((E.enc z).toArray[· % E.sz]!)).toList = (List.replicate c z).flatMap E.enc := by
 intro c
 apply List.ext_getElem?
 intro m
 have hl : ((List.replicate c z).flatMap E.enc).length = c * E.sz := by rw [E.flat_len, List.length_replicate]
 rcases Nat.lt_or_ge m (c * E.sz) with h | h
 ·have hi : m / E.sz < c := Nat.div_lt_of_lt_mul (by rw [Nat.mul_comm]; exact h)
  have hj : m % E.sz < E.sz := Nat.mod_lt _ E.pos
  have e : m / E.sz * E.sz + m % E.sz = m := by rw [Nat.mul_comm]; exact Nat.div_add_mod m E.sz
  have hg := E.flat_get (List.replicate c z) (m / E.sz) z (by rw [List.getElem?_replicate, if_pos hi]) (m % E.sz) hj
  rw [e] at hg
  rw [hg]
  have hj' : m % E.sz < (E.enc z).length := by rw [E.len]; exact hj
  simp [h]
  rw [List.getElem?_eq_getElem hj']
  rfl
 rw [List.getElem?_eq_none (by simp; exact h), List.getElem?_eq_none (by rw [hl]; exact h)]
section
variable {P : Program} {a : Act} {n : Nat} {L : List (Nat × Value)} {ds : List Nat} {w w' : World} {Q : Exit → Act → World → Prop} {ops : Array Oper} {rest : List Oper}
variable {d : Nat} {ty : TypeId} {pos : String} {after : Array Edge} {v u : Value} {x y z : Operand} {t t' T : TypeId} {k k' : IntKind} {i j : Int}
theorem ex_makeSlice {G : Option (Nat × Bool)} {α : Type} {E : Enc α} {bytes m c : Nat} (e0 : α) (h : AgM ds a n L) (hx : ev L x = some (.int k (m : Int))) (hy : ev L y = some (.int k' (c : Int))) (he : ElemOf P t T E bytes)
    (hz : ∀ w : World, (zeroValue T).run P w = .ok v w) (hv : v.cells = (E.enc e0).toArray) (hmc : m ≤ c) (hb : c * bytes ≤ 140737488355328) (hM : c ≤ maxLen) :
    (execOp a.eval ⟨some d, .makeSlice t x y, ty, pos, after, G⟩).run P w = .ok (.value (.slice (some ⟨w.heap.size, 0, none⟩) m c)) (w.alloc (.cells ((List.replicate c e0).flatMap E.enc).toArray T)) := by
  obtain ⟨inf, zv, hin, hzz, hsz, hby, hzs⟩ := he.info
  have hzv : zv = v := by
    have := hz w
    simpa [zeroValue, typeInfo, hin, hzz] using this
  subst hzv
  have hM' : c ≤ 9223372036854775807 := by simp only [maxLen] at hM; omega
  have w1 : IntKind.i64.wrap (m : Int) = m := IntWalk.i64_in _ (by omega)
  have w2 : IntKind.i64.wrap (c : Int) = c := IntWalk.i64_in _ (by omega)
  have hbi : ((inf.bytes : Nat) : Int) * (c : Int) ≤ 140737488355328 := by
    have : ((inf.bytes * c : Nat) : Int) ≤ 140737488355328 := by rw [hby, Nat.mul_comm]; omega
    simpa using this
  have ht : (decide ((c : Int) < 0) || decide ((inf.bytes : Int) * (c : Int) > 2 ^ 48)) = false := by
    simp only [Bool.or_eq_false_iff, decide_eq_false_iff_not]
    constructor <;> omega
  have hlt : ¬ ((m : Int) < 0) := by omega
  have hgt : ¬ ((m : Int) > (c : Int)) := by omega
  have hroom : ¬ (c * inf.bytes > roomBytes) := by
    rw [hby]; unfold roomBytes; omega
  have hrows := zero_rows E e0 c
  simp only [execOp, h.eval hx, h.eval hy, Instr.makeSlice, Sem.run_bind, run_underlying he.und, Result.andThen_ok, asInt, asIntOf, Sem.run_pure, typeInfo, sizeOf, w1, w2]
  simp [hin, hsz, ht, hlt, hgt, askRoom, hroom, w1, w2]
  by_cases h0 : c = 0
  · subst h0
    simp [newRow]
    rw [show Array.range 0 = #[] from rfl]; simp
  · have hcz : ¬ (c * E.sz = 0) := by
      have := E.pos
      intro e
      rcases Nat.mul_eq_zero.1 e with e | e <;> omega
    have h00 : ¬ ((c : Int) < 0) := by omega
    have hbb : ¬ ((281474976710656 : Int) < (inf.bytes : Int) * (c : Int)) := by omega
    simp [hcz, zeroValue, typeInfo, hin, hzz, newRow, hv, E.len, h00, hbb]
    congr 2
    apply Array.toList_inj.1
    simpa using hrows
theorem st_makeSlice {α : Type} {E : Enc α} {bytes m c : Nat} (e0 : α) (h : AgM ds a n L) (hx : ev L x = some (.int k (m : Int))) (hy : ev L y = some (.int k' (c : Int))) (he : ElemOf P t T E bytes) (hz : ∀ w : World, (zeroValue T).run P w = .ok v w) (hv : v.cells = (E.enc e0).toArray) (hmc : m ≤ c) (hM : c ≤ maxLen) (hn : Nat.blt d n = true) (q : ∀ g w', g = w.heap.size → Own E T g w' (.slice (some ⟨g, 0, none⟩) m c) (List.replicate m e0) → Fr [] w w' → w'.heap.size = g + 1 → ∀ a, AgM ds a n ((d, .slice (some ⟨g, 0, none⟩) m c) :: L) → wpList P ops Q rest a w') (hb : c * bytes ≤ 140737488355328 := by omega) :
    wpList P ops Q (⟨some d, .makeSlice t x y, ty, pos, after, none⟩ :: rest) a w := by
  refine st_ok h rfl rfl hn (ex_makeSlice e0 h hx hy he hz hv hmc hb hM) (q _ _ rfl ?_ (Fr.alloc [] w _) (by simp))
  refine .inr ⟨_, c, _, by simp, Nat.le_refl _, heap_alloc_new w _, by simpa using hmc, hM, by simp [E.flat_len], ?_⟩
  simp only [List.length_replicate]
  obtain ⟨r, rfl⟩ : ∃ r, c = m + r := ⟨c - m, by omega⟩
  rw [← List.replicate_append_replicate, List.flatMap_append]
  rw [show m * E.sz = ((List.replicate m e0).flatMap E.enc).length by rw [E.flat_len, List.length_replicate]]
  exact List.take_left
theorem s_makeSlice {α : Type} {E : Enc α} {bytes m c : Nat} (e0 : α) (hx : ev L x = some (.int k (m : Int))) (hy : ev L y = some (.int k' (c : Int))) (he : ElemOf P t T E bytes) (hz : ∀ w : World, (zeroValue T).run P w = .ok v w) (hv : v.cells = (E.enc e0).toArray) (hmc : m ≤ c) (hM : c ≤ maxLen) (q : ∀ g w', g = w.heap.size → Own E T g w' (.slice (some ⟨g, 0, none⟩) m c) (List.replicate m e0) → Fr [] w w' → w'.heap.size = g + 1 → WL P ops Q rest n ds w' ((d, .slice (some ⟨g, 0, none⟩) m c) :: L)) (hb : c * bytes ≤ 140737488355328 := by omega) (hn : Nat.blt d n = true := by exact rfl) : WL P ops Q (⟨some d, .makeSlice t x y, ty, pos, after, none⟩ :: rest) n ds w L := fun a h => st_makeSlice e0 h hx hy he hz hv hmc hM hn q (hb := hb) -- short
end
end Go.Lw
namespace Go.Lw
section
variable {P : Program} {a : Act} {n : Nat} {L : List (Nat × Value)} {ds : List Nat} {w w' : World} {ops : Array Oper} {C : World → Prop}
variable {d : Nat} {ty : TypeId} {pos : String} {after : Array Edge} {x y : Operand} {t T : TypeId} {k : IntKind} {i : Int}
theorem hd_idxA {G : Option (Nat × Bool)} {K : Act → World → Prop} {fu : Nat} {listed : Array Bool} {pq : Option Nat} {ad : Addr} {N sz : Nat} (ix : Nat) (hC : C w) (h : AgM ds a n L) (hG : Wd ops n L G) (hx : ev L x = some (.pointer (some ad))) (hy : ev L y = some (.int k i)) (hu : P.underlying t = some (.array N T)) (hs : SizeOf P T sz) (hix : ops[ix]? = some ⟨some d, .indexAddr t x y, ty, pos, after, G⟩) (q : ∀ a, AgM ds a n ((d, .pointer (some (ad.add (i.toNat * sz)))) :: L) → wpAnyP pq P ops (NormEnd K) C fu (listed.setIfInBounds ix true) a w) (hsel : Region.noSelect ops = true := by kernel_rfl) (hfr : Fre pq ops listed ix = true := by kernel_rfl) (hre : (Region.ready .any ops listed).contains ix = true := by kernel_rfl) (h0 : 0 ≤ i := by omega) (h1 : i < N := by omega) (hn : Nat.blt d n = true := by exact rfl) : wpAnyP pq P ops (NormEnd K) C (fu + 1) listed a w :=
  hd_ok ix hsel hfr hre hC h hG hix rfl hn (fun _ _ => ex_idxA h hx hy hu hs h0 h1) q
end
end Go.Lw
namespace Go.Lw
open Go.RowKit
def Sll {α : Type} (E : Enc α) (w : World) (v : Value) (rows : List (List α)) : Prop :=
  ∃ hs : List SV, Sl Enc.sl w v hs ∧ hs.length = rows.length ∧ ∀ (i : Nat) (p : SV) (r : List α), hs[i]? = some p → rows[i]? = some r → Sl E w (slv p) r
theorem Sll.ext {α : Type} {E : Enc α} {w w' : World} {v : Value} {rows : List (List α)} (h : Sll E w v rows) (hf : Fr [] w w') : Sll E w' v rows := by
 obtain ⟨hs, h1, h2, h3⟩ := h
 exact ⟨hs, h1.ext hf, h2, fun i p r hp hr => (h3 i p r hp hr).ext hf⟩
theorem Sll.form {α : Type} {E : Enc α} {w : World} {v : Value} {rows : List (List α)} (h : Sll E w v rows) : ∃ A c, v = .slice A rows.length c ∧ rows.length ≤ c ∧ c ≤ maxLen := by
 obtain ⟨hs, h1, h2, h3⟩ := h
 obtain ⟨A, c, e, h4, h5, _⟩ := h1
 exact ⟨A, c, by rw [e, h2], by omega, h5⟩
theorem Sll.row {α : Type} {E : Enc α} {w : World} {A : Option Addr} {n c : Nat} {rows : List (List α)} {i : Nat} {r : List α} (h : Sll E w (.slice A n c) rows) (hr : rows[i]? = some r) :
    ∃ RA rc ad, A = some ad ∧ Cells w (ad.add (i * 1)) [.slice RA r.length rc] ∧ Sl E w (.slice RA r.length rc) r ∧ r.length ≤ rc ∧ rc ≤ maxLen := by
  obtain ⟨hs, h1, h2, h3⟩ := h
  have hi : i < hs.length := by rw [h2]; exact (List.getElem?_eq_some_iff.1 hr).1
  have hp := List.getElem?_eq_getElem hi
  have hs1 := h3 i _ r hp hr
  obtain ⟨A', c', e, _, _, hA⟩ := h1
  cases e
  obtain ⟨ad, rfl, hc⟩ := hA i _ hp
  obtain ⟨RA, rc, e, h5, h6, _⟩ := hs1
  have hl : hs[i].2.1 = r.length ∧ hs[i].1 = RA ∧ hs[i].2.2 = rc := by
    simp only [slv, Value.slice.injEq] at e; exact ⟨e.2.1, e.1, e.2.2⟩
  have hsl := h3 i _ r hp hr
  refine ⟨RA, rc, ad, rfl, ?_, ?_, h5, h6⟩
  · have hc' : Cells w (ad.add (i * 1)) [.slice hs[i].1 hs[i].2.1 hs[i].2.2] := hc
    rw [hl.1, hl.2.1, hl.2.2] at hc'; exact hc'
  · rw [e] at hsl; exact hsl
structure Rws {α : Type} (E : Enc α) (R T : TypeId) (base : Nat) (w : World) (OV : Value) (ps : List (SV × List α)) : Prop where
  out : Lw.Own Enc.sl R base w OV (ps.map Prod.fst)
  ins : ∀ p ∈ ps, Own E T base w (slv p.1) p.2
  off : ∀ p ∈ ps, ∀ k ∈ blks (slv p.1), k ∉ blks OV
section
variable {α : Type} {E : Enc α} {R T : TypeId} {base : Nat} {w w' : World} {OV OV' : Value} {ps : List (SV × List α)}
theorem Rws.fr {S : List Nat} (h : Rws E R T base w OV ps) (hq : Fr S w w') (hS : ∀ k ∈ S, k < base) : Rws E R T base w' OV ps :=
 ⟨h.out.fr hq (fun k hk hb => by have := (h.out.blk k hb).1; have := hS k hk; omega), fun p hp => (h.ins p hp).fr hq (fun k hk hb => by have := ((h.ins p hp).blk k hb).1; have := hS k hk; omega), h.off⟩
theorem Rws.ext (h : Rws E R T base w OV ps) (hq : Fr [] w w') : Rws E R T base w' OV ps := h.fr hq (by simp)
theorem Rws.nil (w : World) : Rws E R T base w (.slice none 0 0) [] := ⟨Own.nil w, by simp, by simp⟩
theorem Rws.low {b' : Nat} (h : Rws E R T base w OV ps) (hb : b' ≤ base) : Rws E R T b' w OV ps := ⟨h.out.low hb, fun p hp => (h.ins p hp).low hb, h.off⟩
theorem Rws.push {u : SV} {r : List α} (h : Rws E R T base w OV ps) (hu : Own E T base w (slv u) r) (hd : ∀ k ∈ blks (slv u), k ∉ blks OV) (ho : Lw.Own Enc.sl R base w' OV' (ps.map Prod.fst ++ [u])) (hq : Fr (blks OV) w w')
    (hx : OV' = OV ∨ blks OV' = blks OV ∨ blks OV' = [w.heap.size]) : Rws E R T base w' OV' (ps ++ [(u, r)]) := by
  have hall : ∀ p ∈ ps ++ [(u, r)], Own E T base w (slv p.1) p.2 ∧ ∀ k ∈ blks (slv p.1), k ∉ blks OV := by
    intro p hp
    rcases List.mem_append.1 hp with hp | hp
    · exact ⟨h.ins p hp, h.off p hp⟩
    · simp at hp; subst hp; exact ⟨hu, hd⟩
  refine ⟨by simpa using ho, fun p hp => (hall p hp).1.fr hq (fun k hk hb => (hall p hp).2 k hb hk), fun p hp k hk => ?_⟩
  rcases hx with e | e | e
  · rw [e]; exact (hall p hp).2 k hk
  · rw [e]; exact (hall p hp).2 k hk
  · rw [e]; have := ((hall p hp).1.blk k hk).2; simp; omega
theorem Rws.sll (h : Rws E R T base w OV ps) : Sll E w OV (ps.map Prod.snd) := by
 refine ⟨ps.map Prod.fst, h.out.sl, by simp, fun i p x hp hx => ?_⟩
 rw [List.getElem?_map] at hp hx
 obtain ⟨q, hq, rfl⟩ := Option.map_eq_some_iff.1 hp
 rw [hq] at hx
 simp at hx; subst hx
 exact (h.ins q (List.mem_of_getElem? hq)).sl
def RAll (n : Nat) (OV : Value) (ps : List (SV × List α)) : Prop := (∀ k ∈ blks OV, k < n) ∧ ∀ p ∈ ps, ∀ k ∈ blks (slv p.1), k < n
theorem Rws.bnd (h : Rws E R T base w OV ps) : RAll w.heap.size OV ps := ⟨fun k hk => (h.out.blk k hk).2, fun p hp k hk => ((h.ins p hp).blk k hk).2⟩
theorem Rws.up {S : List Nat} {n : Nat} (h : Rws E R T base w OV ps) (hq : Fr S w w') (hA : RAll n OV ps) (hS : ∀ k ∈ S, n ≤ k) : Rws E R T base w' OV ps :=
 ⟨h.out.fr hq (fun k hk hb => by have := hA.1 k hb; have := hS k hk; omega), fun p hp => (h.ins p hp).fr hq (fun k hk hb => by have := hA.2 p hp k hb; have := hS k hk; omega), h.off⟩
end
theorem blks_add (A : Option Addr) (m n c n' c' : Nat) : blks (.slice (A.map (·.add m)) n c) = blks (.slice A n' c') := by cases A <;> simp [blks, block_add]
theorem blks_any (A : Option Addr) (n c n' c' : Nat) : blks (.slice A n c) = blks (.slice A n' c') := by cases A <;> rfl
end Go.Lw
namespace Go.Lw
section
variable {α : Type} {E : Enc α} {R T : TypeId} {base : Nat} {w w' : World} {OV : Value} {ps : List (SV × List α)}
end
end Go.Lw
namespace Go.G14
open Go.Lw
def needsR (xs : List Stitch) : Int := (xs.map needsS).sum
def makesR (xs : List Stitch) : Int := (xs.map makesS).sum
theorem sum_rng {f : Stitch → Int} (hf : ∀ s, 0 ≤ f s ∧ f s ≤ 4) : ∀ xs : List Stitch, 0 ≤ (xs.map f).sum ∧ (xs.map f).sum ≤ 4 * xs.length
 | [] => by simp
 | x :: xs => by
  have := sum_rng hf xs
  have := hf x
  simp only [List.map_cons, List.sum_cons, List.length_cons]
  omega
theorem sum_next {f : Stitch → Int} {xs : List Stitch} {k : Nat} {x : Stitch} (hx : xs[k]? = some x) : ((xs.take (k + 1)).map f).sum = ((xs.take k).map f).sum + f x := by
 rw [List.take_add_one, hx]; simp
theorem sum_drop {f : Stitch → Int} {xs : List Stitch} {k : Nat} {x : Stitch} (hx : xs[k]? = some x) : ((xs.drop k).map f).sum = f x + ((xs.drop (k + 1)).map f).sum := by
 rw [List.drop_eq_getElem_cons (List.getElem?_eq_some_iff.1 hx).1]
 have : xs[k]'(List.getElem?_eq_some_iff.1 hx).1 = x := (List.getElem?_eq_some_iff.1 hx).2
 simp [this]
def rowE (xs : List Stitch) : Int :=
  if 16 < xs.length then 3 else if xs.length = 0 then 1 else if xs.all okB = false then 1
  else if needsR xs < 1 ∨ 16 < needsR xs ∨ makesR xs < 1 ∨ 16 < makesR xs then 5 else 0
def adjB (rows : List (List Stitch)) : Bool := (List.range (rows.length - 1)).all fun i => decide (needsR (rows.getD (i + 1) []) = makesR (rows.getD i []))
def firstE : List (List Stitch) → Int
  | [] => 0
  | r :: rs => if rowE r ≠ 0 then rowE r else firstE rs
def rowsE (rows : List (List Stitch)) : Int :=
  if 31 < rows.length then 3 else if rows.length % 2 = 0 then 1 else if firstE rows ≠ 0 then firstE rows else if adjB rows = true then 0 else 14
def runRow : List Stitch → List Int → List Int → List Int × Int
  | [], _, acc => (acc, 0)
  | s :: xs, ls, acc => if (loadsS s (ls.take (needsS s).toNat)).2 ≠ 0 then ([], (loadsS s (ls.take (needsS s).toNat)).2) else runRow xs (ls.drop (needsS s).toNat) (acc ++ (loadsS s (ls.take (needsS s).toNat)).1)
def runRows : List (List Stitch) → List Int → Int
  | [], _ => 0
  | r :: rs, ls => if (runRow r ls []).2 ≠ 0 then (runRow r ls []).2 else runRows rs (runRow r ls []).1
def startL (rows : List (List Stitch)) : List Int := List.replicate (needsR (rows.getD 0 [])).toNat 1
def chartE (rows : List (List Stitch)) : Int := if rowsE rows ≠ 0 then rowsE rows else runRows rows (startL rows)
variable {xs : List Stitch} {rows : List (List Stitch)}
theorem row3 (h : 16 < xs.length) : rowE xs = 3 := if_pos h
theorem row1 (h : ¬ 16 < xs.length) (h0 : xs.length = 0) : rowE xs = 1 := by rw [rowE, if_neg h, if_pos h0]
theorem row1b (h : ¬ 16 < xs.length) {k : Nat} {x : Stitch} (hx : xs[k]? = some x) (hb : checkS x ≠ 0) : rowE xs = 1 := by
 have : xs.all okB = false := by
  rw [Bool.eq_false_iff]; intro e
  exact hb ((okB_iff x).1 (List.all_eq_true.1 e x (List.mem_of_getElem? hx)))
 have h0 : ¬ xs.length = 0 := by have := (List.getElem?_eq_some_iff.1 hx).1; omega
 rw [rowE, if_neg h, if_neg h0, if_pos this]
theorem row5 (h : ¬ 16 < xs.length) (h0 : ¬ xs.length = 0) (ha : xs.all okB = true) (hc : needsR xs < 1 ∨ 16 < needsR xs ∨ makesR xs < 1 ∨ 16 < makesR xs) : rowE xs = 5 := by
 rw [rowE, if_neg h, if_neg h0, if_neg (by rw [ha]; simp), if_pos hc]
theorem row0 (h : ¬ 16 < xs.length) (h0 : ¬ xs.length = 0) (ha : xs.all okB = true) (hc : ¬ (needsR xs < 1 ∨ 16 < needsR xs ∨ makesR xs < 1 ∨ 16 < makesR xs)) : rowE xs = 0 := by
 rw [rowE, if_neg h, if_neg h0, if_neg (by rw [ha]; simp), if_neg hc]
theorem row_ok_of (h : rowE xs = 0) : xs.length ≤ 16 ∧ 1 ≤ xs.length ∧ xs.all okB = true ∧ 1 ≤ needsR xs ∧ needsR xs ≤ 16 ∧ 1 ≤ makesR xs ∧ makesR xs ≤ 16 := by
 unfold rowE at h
 split at h
 ·omega
 split at h
 ·omega
 split at h
 ·omega
 split at h
 ·omega
 rename_i h1 h2 h3 h4
 refine ⟨by omega, by omega, by simpa using h3, by omega, by omega, by omega, by omega⟩
theorem first_bad : ∀ {rows : List (List Stitch)} {k : Nat} {r : List Stitch}, (∀ i q, i < k → rows[i]? = some q → rowE q = 0) → rows[k]? = some r → rowE r ≠ 0 → firstE rows = rowE r
 | [], k, r, _, h, _ => by simp at h
 | q :: rs, 0, r, _, h, hb => by simp at h; subst h; rw [firstE, if_pos hb]
 | q :: rs, k + 1, r, hz, h, hb => by
  have hq := hz 0 q (by omega) rfl
  rw [firstE, if_neg (by omega)]
  exact first_bad (k := k) (fun i p hi hp => hz (i + 1) p (by omega) (by simpa using hp)) (by simpa using h) hb
theorem first_good : ∀ {rows : List (List Stitch)}, (∀ (i : Nat) (q : List Stitch), rows[i]? = some q → rowE q = 0) → firstE rows = 0
 | [], _ => rfl
 | q :: rs, hz => by
  have hq := hz 0 q rfl
  rw [firstE, if_neg (by omega)]
  exact first_good fun i p hp => hz (i + 1) p (by simpa using hp)
theorem first_all : ∀ {rows : List (List Stitch)}, firstE rows = 0 → ∀ (i : Nat) (q : List Stitch), rows[i]? = some q → rowE q = 0
 | [], _, i, q, h => by simp at h
 | r :: rs, hz, i, q, h => by
  unfold firstE at hz
  split at hz
  ·rename_i hb; exact absurd hz hb
  rename_i hb
  match i with
  | 0 => simp at h; subst h; omega
  | i + 1 => exact first_all hz i q (by simpa using h)
theorem rows3 (h : 31 < rows.length) : rowsE rows = 3 := if_pos h
theorem rows1 (h : ¬ 31 < rows.length) (h2 : rows.length % 2 = 0) : rowsE rows = 1 := by rw [rowsE, if_neg h, if_pos h2]
theorem rowsB (h : ¬ 31 < rows.length) (h2 : ¬ rows.length % 2 = 0) {k : Nat} {r : List Stitch} (hz : ∀ i q, i < k → rows[i]? = some q → rowE q = 0) (hr : rows[k]? = some r) (hb : rowE r ≠ 0) : rowsE rows = rowE r := by
 have := first_bad hz hr hb
 rw [rowsE, if_neg h, if_neg h2, if_pos (by omega), this]
theorem adj_at {k : Nat} (h : adjB rows = true) (hk : k + 1 < rows.length) : needsR (rows.getD (k + 1) []) = makesR (rows.getD k []) := by
 have := List.all_eq_true.1 h k (List.mem_range.2 (by omega))
 simpa using this
theorem rows14 (h : ¬ 31 < rows.length) (h2 : ¬ rows.length % 2 = 0) (hz : ∀ (i : Nat) (q : List Stitch), rows[i]? = some q → rowE q = 0) {k : Nat} {r q : List Stitch} (hr : rows[k]? = some r) (hq : rows[k + 1]? = some q) (hne : needsR q ≠ makesR r) : rowsE rows = 14 := by
 have h0 := first_good hz
 have ha : ¬ adjB rows = true := fun e => by
  have := adj_at (k := k) e (List.getElem?_eq_some_iff.1 hq).1
  rw [List.getD, List.getD, hq, hr] at this
  exact hne this
 rw [rowsE, if_neg h, if_neg h2, if_neg (by omega), if_neg ha]
theorem rows0 (h : ¬ 31 < rows.length) (h2 : ¬ rows.length % 2 = 0) (hz : ∀ (i : Nat) (q : List Stitch), rows[i]? = some q → rowE q = 0) (ha : ∀ (k : Nat) (r q : List Stitch), rows[k]? = some r → rows[k + 1]? = some q → needsR q = makesR r) : rowsE rows = 0 := by
 have h0 := first_good hz
 have ha : adjB rows = true := by
  refine List.all_eq_true.2 fun k hk => ?_
  have hk := List.mem_range.1 hk
  have h1 : k < rows.length := by omega
  have h3 : k + 1 < rows.length := by omega
  rw [decide_eq_true_iff, List.getD, List.getD, List.getElem?_eq_getElem h1, List.getElem?_eq_getElem h3]
  exact ha k _ _ (List.getElem?_eq_getElem h1) (List.getElem?_eq_getElem h3)
 rw [rowsE, if_neg h, if_neg h2, if_neg (by omega), if_pos ha]
theorem rows_of (h : rowsE rows = 0) : rows.length ≤ 31 ∧ rows.length % 2 = 1 ∧ (∀ (i : Nat) (q : List Stitch), rows[i]? = some q → rowE q = 0) ∧ ∀ (k : Nat) (r q : List Stitch), rows[k]? = some r → rows[k + 1]? = some q → needsR q = makesR r := by
 unfold rowsE at h
 split at h
 ·omega
 split at h
 ·omega
 split at h
 ·omega
 split at h
 ·rename_i h1 h2 h3 h4
  refine ⟨by omega, by omega, first_all (by omega), fun k r q hr hq => ?_⟩
  have := adj_at (k := k) h4 (List.getElem?_eq_some_iff.1 hq).1
  rw [List.getD, List.getD, hq, hr] at this
  exact this
 omega
theorem run_bad {s : Stitch} {xs : List Stitch} {ls acc : List Int} (h : (loadsS s (ls.take (needsS s).toNat)).2 ≠ 0) : runRow (s :: xs) ls acc = ([], (loadsS s (ls.take (needsS s).toNat)).2) := by rw [runRow, if_pos h]
theorem run_next {s : Stitch} {xs : List Stitch} {ls acc : List Int} (h : ¬ (loadsS s (ls.take (needsS s).toNat)).2 ≠ 0) : runRow (s :: xs) ls acc = runRow xs (ls.drop (needsS s).toNat) (acc ++ (loadsS s (ls.take (needsS s).toNat)).1) := by rw [runRow, if_neg h]
theorem drop_cons {α : Type} {l : List α} {k : Nat} {x : α} (h : l[k]? = some x) : l.drop k = x :: l.drop (k + 1) := by
 rw [List.drop_eq_getElem_cons (List.getElem?_eq_some_iff.1 h).1, (List.getElem?_eq_some_iff.1 h).2]
theorem run_len : ∀ (xs : List Stitch) (ls acc : List Int), (runRow xs ls acc).2 = 0 → ((runRow xs ls acc).1.length : Int) = acc.length + makesR xs
 | [], ls, acc, _ => by simp [runRow, makesR]
 | s :: xs, ls, acc, h => by
  by_cases hb : (loadsS s (ls.take (needsS s).toNat)).2 ≠ 0
  ·rw [run_bad hb] at h; exact absurd h hb
  rw [run_next hb] at h ⊢
  have hl := (loads_few (Decidable.not_not.1 hb)).2.1
  rw [run_len xs _ _ h, List.length_append]
  simp only [makesR, List.map_cons, List.sum_cons]
  push_cast; omega
end Go.G14
namespace Go.G14
theorem set_one (j m : Nat) (h : j < m) : (List.replicate j (1 : Int) ++ List.replicate (m - j) 0).set j 1 = List.replicate (j + 1) 1 ++ List.replicate (m - (j + 1)) 0 := by
 obtain ⟨r, rfl⟩ : ∃ r, m = j + 1 + r := ⟨m - (j + 1), by omega⟩
 rw [show j + 1 + r - j = r + 1 by omega, show j + 1 + r - (j + 1) = r by omega, List.replicate_succ]
 rw [List.set_append_right _ _ (by simp)]
 simp [List.replicate_succ']
end Go.G14
namespace Go.G14
theorem z_next {rows : List (List Stitch)} {k : Nat} {r : List Stitch} (hz : ∀ (i : Nat) (q : List Stitch), i < k → rows[i]? = some q → rowE q = 0) (hr : rows[k]? = some r) (h0 : rowE r = 0) : ∀ (i : Nat) (q : List Stitch), i < k + 1 → rows[i]? = some q → rowE q = 0 := by
 intro i q hi hq
 rcases Nat.lt_or_ge i k with h | h
 ·exact hz i q h hq
 obtain rfl : i = k := by omega
 rw [hr] at hq; cases hq; exact h0
theorem adj_next {rows : List (List Stitch)} {k : Nat} {r q : List Stitch} (ha : ∀ (j : Nat) (r q : List Stitch), j < k → rows[j]? = some r → rows[j + 1]? = some q → needsR q = makesR r) (hr : rows[k]? = some r) (hq : rows[k + 1]? = some q) (h0 : needsR q = makesR r) :
    ∀ (j : Nat) (r q : List Stitch), j < k + 1 → rows[j]? = some r → rows[j + 1]? = some q → needsR q = makesR r := by
  intro j r1 q1 hj h1 h2
  rcases Nat.lt_or_ge j k with h | h
  · exact ha j r1 q1 h h1 h2
  · obtain rfl : j = k := by omega
    rw [hr] at h1; rw [hq] at h2; cases h1; cases h2; exact h0
end Go.G14
namespace Go.G14
theorem rr_next {r : List Stitch} {ls acc : List Int} {k at_ : Nat} {s : Stitch} {R : List Int × Int} (h : runRow (r.drop k) (ls.drop at_) acc = R) (hs : r[k]? = some s) (h0 : ¬ (loadsS s ((ls.drop at_).take (needsS s).toNat)).2 ≠ 0) :
    runRow (r.drop (k + 1)) (ls.drop (at_ + (needsS s).toNat)) (acc ++ (loadsS s ((ls.drop at_).take (needsS s).toNat)).1) = R := by
  rw [drop_cons hs, run_next h0, List.drop_drop] at h; exact h
theorem rr_bad {r : List Stitch} {ls acc : List Int} {k at_ : Nat} {s : Stitch} {R : List Int × Int} (h : runRow (r.drop k) (ls.drop at_) acc = R) (hs : r[k]? = some s) (h0 : (loadsS s ((ls.drop at_).take (needsS s).toNat)).2 ≠ 0) :
    R.2 = (loadsS s ((ls.drop at_).take (needsS s).toNat)).2 := by
  rw [drop_cons hs, run_bad h0] at h; rw [← h]
theorem rr_end {r : List Stitch} {ls acc : List Int} {at_ : Nat} {R : List Int × Int} (h : runRow (r.drop r.length) (ls.drop at_) acc = R) : R = (acc, 0) := by
 rw [List.drop_length, runRow] at h; exact h.symm
theorem rs_next {rows : List (List Stitch)} {ls : List Int} {i : Nat} {r : List Stitch} {E : Int} (h : runRows (rows.drop i) ls = E) (hr : rows[i]? = some r) {acc : List Int} (h0 : runRow r ls [] = (acc, 0)) : runRows (rows.drop (i + 1)) acc = E := by
 rw [drop_cons hr, runRows, h0, if_neg (by simp)] at h; exact h
theorem rs_bad {rows : List (List Stitch)} {ls : List Int} {i : Nat} {r : List Stitch} {E : Int} (h : runRows (rows.drop i) ls = E) (hr : rows[i]? = some r) (h0 : (runRow r ls []).2 ≠ 0) : E = (runRow r ls []).2 := by
 rw [drop_cons hr, runRows, if_pos h0] at h; exact h.symm
theorem rs_end {rows : List (List Stitch)} {ls : List Int} {E : Int} (h : runRows (rows.drop rows.length) ls = E) : E = 0 := by
 rw [List.drop_length, runRows] at h; exact h.symm
theorem needs_drop {r : List Stitch} {k : Nat} {s : Stitch} (hs : r[k]? = some s) : needsR (r.drop k) = needsS s + needsR (r.drop (k + 1)) := sum_drop hs
theorem needs_pos (xs : List Stitch) : 0 ≤ needsR xs := (sum_rng needs_rng xs).1
theorem chart_run {rows : List (List Stitch)} (h : rowsE rows = 0) : chartE rows = runRows rows (startL rows) := by rw [chartE, if_neg (by omega)]
theorem chart_bad {rows : List (List Stitch)} {e : Int} (h : rowsE rows = e) (he : e ≠ 0) : chartE rows = e := by rw [chartE, if_pos (by omega), h]
theorem run_next_len {r : List Stitch} {ls acc : List Int} (h0 : runRow r ls [] = (acc, 0)) : (acc.length : Int) = makesR r := by
 have := run_len r ls [] (by rw [h0])
 rw [h0] at this; simpa using this
theorem loads_len (s : Stitch) (l : List Int) : (loadsS s l).1.length ≤ 4 := by
 by_cases h : (loadsS s l).2 = 0
 ·have := (loads_few h).2.1
  have := makes_rng s
  omega
 unfold loadsS at h ⊢
 (repeat' split) <;> simp_all
end Go.G14
namespace Go.G14
open Go.Lw
structure LdSt where
  i : Nat
  OV : Value
  ps : List (SV × List Int)
  u : SV
  ls : List Int
structure LeSt where
  k : Nat
  at_ : Nat
  acc : List Int
  X : Value
  B : Value
theorem rws_one {E : Enc Int} {R T : TypeId} {base : Nat} {w : World} {OV : Value} {u : SV} {ls : List Int} (ho : Lw.Own Enc.sl R base w OV [u]) (hi : Own E T base w (slv u) ls) (hd : ∀ k ∈ blks (slv u), k ∉ blks OV) : Rws E R T base w OV ([] ++ [(u, ls)]) :=
 ⟨by simpa using ho, fun p hp => by simp at hp; subst hp; exact hi, fun p hp => by simp at hp; subst hp; exact hd⟩
end Go.G14
namespace Go.Lw
section
variable {a : Act} {w : World} {Q : Exit → Act → World → Prop}
theorem ret_sc (h : Q .ret a w) : Exit.noGoto Q .ret a w := h
end
end Go.Lw
namespace Go.Lw
open Go.RowKit
structure KeyLaw {κ : Type} [DecidableEq κ] (P : Program) (K : TypeId) (V : κ → Value) : Prop where
  check : ∀ b k (w : World), (Instr.checkKey b 10000 K (V k)).run P w = .ok () w
  find : ∀ k (es : List MapEntry) (ks : List κ) (w : World), es.map (·.key) = ks.map V →
    (Instr.findKey K (V k) es).run P w = .ok ((ks.findIdx? (fun x => decide (k = x))).bind fun i => (es[i]?).map fun e => (i, e.val)) w
  bits : ∀ k, Instr.sameBits 10000 (V k) (V k) = true
def assocGet {κ : Type} [DecidableEq κ] : List (κ × Value) → κ → Option Value
  | [], _ => none
  | p :: r, k => if k = p.1 then some p.2 else assocGet r k
def MapF {κ : Type} [DecidableEq κ] (V : κ → Value) (w : World) (g : Nat) (f : κ → Option Value) : Prop :=
  ∃ (es : Array MapEntry) (c : Nat) (m : List (κ × Value)), w.heap[g]? = some (.map es c) ∧ es.toList.map (fun e => (e.key, e.val)) = m.map (fun p => (V p.1, p.2)) ∧ ∀ k, assocGet m k = f k
section
variable {κ : Type} [DecidableEq κ] {V : κ → Value} {P : Program} {K : TypeId}
theorem findAsking_eq (heq : ∀ k k' (w : World), (Op.equal K (V k) (V k')).run P w = .ok (decide (k = k')) w) (k : κ) : ∀ (es : List MapEntry) (ks : List κ) (i : Nat) (w : World), es.map (·.key) = ks.map V →
    (Instr.findAsking K (V k) es i).run P w = .ok ((ks.findIdx? (fun x => decide (k = x))).bind fun j => (es[j]?).map fun e => (i + j, e.val)) w
  | [], [], i, w, _ => by simp [Instr.findAsking]
  | [], _ :: _, _, _, h => by simp at h
  | _ :: _, [], _, _, h => by simp at h
  | e :: es, x :: ks, i, w, h => by
    simp only [List.map_cons, List.cons.injEq] at h
    have ih := findAsking_eq heq k es ks (i + 1) w h.2
    simp only [Instr.findAsking, h.1, Sem.run_bind, heq k x w, Result.andThen_ok]
    by_cases hx : k = x
    · simp [hx, List.findIdx?_cons]
    · simp only [hx, decide_false, Bool.false_eq_true, if_false, ih, List.findIdx?_cons, Option.bind_map]
      congr 1
      cases hf : ks.findIdx? (fun x => decide (k = x)) with
      | none => simp
      | some j => simp [Nat.add_assoc, Nat.add_comm 1 j]
theorem KeyLaw.asking {d : TypeDesc} (hu : P.underlying K = some d) (hs : ∀ k k', Instr.sameNow d (V k) (V k') = none) (hc : ∀ b k (w : World), (Instr.checkKey b 10000 K (V k)).run P w = .ok () w)
    (heq : ∀ k k' (w : World), (Op.equal K (V k) (V k')).run P w = .ok (decide (k = k')) w) (hb : ∀ k, Instr.sameBits 10000 (V k) (V k) = true) : KeyLaw P K V := by
  refine ⟨hc, fun k es ks w h => ?_, hb⟩
  cases es with
  | nil =>
    cases ks with
    | nil => simp [Instr.findKey, run_underlying hu, Instr.findNow]
    | cons x ks => simp at h
  | cons e es =>
    cases ks with
    | nil => simp at h
    | cons x ks =>
      have hn : Instr.findNow d (V k) (e :: es) 0 = none := by
        simp only [List.map_cons, List.cons.injEq] at h
        simp [Instr.findNow, h.1, hs]
      have := findAsking_eq heq k (e :: es) (x :: ks) 0 w h
      simp only [Instr.findKey, Sem.run_bind, run_underlying hu, Result.andThen_ok, hn, this, Nat.zero_add]
theorem assoc_find (m : List (κ × Value)) (k : κ) : ∀ (es : List MapEntry), es.map (fun e => (e.key, e.val)) = m.map (fun p => (V p.1, p.2)) →
    (((m.map (·.1)).findIdx? (fun x => decide (k = x))).bind fun i => (es[i]?).map fun e => (i, e.val)).map (·.2) = assocGet m k := by
  induction m with
  | nil => intro es h; simp [assocGet]
  | cons p m ih =>
    intro es h
    match es, h with
    | e :: es, h =>
      simp only [List.map_cons, List.cons.injEq, Prod.mk.injEq] at h
      have := ih es h.2
      unfold assocGet
      by_cases hk : k = p.1
      · simp [hk, List.findIdx?_cons, h.1.2]
      · simp only [List.map_cons, List.findIdx?_cons, hk, decide_false, if_false, Bool.false_eq_true]
        rw [← this]
        cases (m.map (·.1)).findIdx? (fun x => decide (k = x)) with
        | none => simp
        | some j =>
          simp
          rfl
theorem assocGet_app (m : List (κ × Value)) (k k' : κ) (v : Value) : (m.map (·.1)).findIdx? (fun x => decide (k = x)) = none → assocGet (m ++ [(k, v)]) k' = if k' = k then some v else assocGet m k' := by
 induction m with
 | nil => intro _; simp [assocGet]
 | cons p m ih =>
  intro h
  simp only [List.map_cons, List.findIdx?_cons] at h
  split at h
  ·cases h
  rename_i hk
  have hk' : ¬ k = p.1 := by simpa using hk
  have := ih (by simpa using h)
  simp only [List.cons_append, assocGet, this]
  by_cases e : k' = p.1
  ·subst e
   simp [Ne.symm hk']
  simp [e]
theorem assocGet_mod (k k' : κ) (v : Value) : ∀ (m : List (κ × Value)) (i : Nat), (m.map (·.1)).findIdx? (fun x => decide (k = x)) = some i → assocGet (m.modify i fun p => (p.1, v)) k' = if k' = k then some v else assocGet m k'
 | [], i, h => by simp at h
 | p :: m, i, h => by
  simp only [List.map_cons, List.findIdx?_cons] at h
  split at h
  ·rename_i hk
   have hk' : k = p.1 := by simpa using hk
   simp at h; subst h
   simp only [List.modify_zero_cons, assocGet, hk']
   by_cases e : k' = p.1 <;> simp [e]
  rename_i hk
  have hk' : ¬ k = p.1 := by simpa using hk
  cases hf : (m.map (·.1)).findIdx? (fun x => decide (k = x)) with
  | none => rw [hf] at h; simp at h
  | some j =>
   rw [hf] at h; simp at h; subst h
   have := assocGet_mod k k' v m j hf
   simp only [List.modify_succ_cons, assocGet, this]
   by_cases e : k' = p.1
   ·subst e; simp [Ne.symm hk']
   simp [e]
theorem MapF.fr {w w' : World} {g : Nat} {f : κ → Option Value} {S : List Nat} (h : MapF V w g f) (hf : Fr S w w') (hn : g ∉ S) : MapF V w' g f := by
 obtain ⟨es, c, m, h1, h2, h3⟩ := h
 exact ⟨es, c, m, (hf.block g (Array.getElem?_eq_some_iff.1 h1).1 hn).trans h1, h2, h3⟩
theorem MapF.ext {w w' : World} {g : Nat} {f : κ → Option Value} (h : MapF V w g f) (hf : Fr [] w w') : MapF V w' g f := h.fr hf (by simp)
theorem MapF.lt {w : World} {g : Nat} {f : κ → Option Value} (h : MapF V w g f) : g < w.heap.size := let ⟨_, _, _, h1, _⟩ := h; (Array.getElem?_eq_some_iff.1 h1).1
theorem run_getObj {w : World} {g : Nat} {es : Array MapEntry} {c : Nat} (h : w.heap[g]? = some (.map es c)) : (getObj g).run P w = .ok (.map es c) w := by
 simp [getObj, Sem.run, h]
theorem run_lookup {w : World} {g : Nat} {f : κ → Option Value} {t E : TypeId} {z : Value} (h : MapF V w g f) (hk : KeyLaw P K V) (hu : P.underlying t = some (.map K E)) (hz : (zeroValue E).run P w = .ok z w) (k : κ) :
    (Instr.lookup t (.map (some g)) (V k) false).run P w = .ok ((f k).getD z) w := by
  obtain ⟨es, c, m, h1, h2, h3⟩ := h
  have hkeys : es.toList.map (·.key) = (m.map (·.1)).map V := by
    have := congrArg (List.map Prod.fst) h2
    simpa [List.map_map, Function.comp_def] using this
  have hfi := hk.find k es.toList (m.map (·.1)) w hkeys
  have hval := assoc_find (V := V) m k es.toList h2
  rw [h3] at hval
  generalize ((m.map (·.1)).findIdx? (fun x => decide (k = x))).bind (fun i => (es.toList[i]?).map fun e => (i, e.val)) = r at hfi hval
  cases r with
  | none => simp at hval; simp [Instr.lookup, run_underlying hu, run_getObj h1, hk.check, hfi, hz, ← hval]
  | some p => simp at hval; simp [Instr.lookup, run_underlying hu, run_getObj h1, hk.check, hfi, ← hval]
theorem run_mapUpdate {w : World} {g : Nat} {f : κ → Option Value} {t E : TypeId} (h : MapF V w g f) (hk : KeyLaw P K V) (hu : P.underlying t = some (.map K E)) (k : κ) (v : Value) :
    ∃ w', (Instr.mapUpdate t (.map (some g)) (V k) v).run P w = .ok () w' ∧ MapF V w' g (fun k' => if k' = k then some v else f k') ∧ Fr [g] w w' ∧ w'.heap.size = w.heap.size := by
  obtain ⟨es, c, m, h1, h2, h3⟩ := h
  have hlt := (Array.getElem?_eq_some_iff.1 h1).1
  have hkeys : es.toList.map (·.key) = (m.map (·.1)).map V := by
    have := congrArg (List.map Prod.fst) h2
    simpa [List.map_map, Function.comp_def] using this
  have hfi := hk.find k es.toList (m.map (·.1)) w hkeys
  have hset : ∀ o, (setObj g o).run P w = .ok () { w with heap := w.heap.setIfInBounds g o } := by intro o; simp [setObj, Sem.run, h1]
  have hfr : ∀ o, Fr [g] w { w with heap := w.heap.setIfInBounds g o } := fun o => ⟨rfl, rfl, rfl, by simp, fun i _ hn => by
    simp only
    rw [Array.getElem?_setIfInBounds_ne (by intro e; subst e; simp at hn)]⟩
  have hheap : ∀ o, ({ w with heap := w.heap.setIfInBounds g o } : World).heap[g]? = some o := by intro o; simp [hlt]
  have hlen : es.toList.length = m.length := by have := congrArg List.length h2; simpa using this
  cases hf : (m.map (·.1)).findIdx? (fun x => decide (k = x)) with
  | none =>
    refine ⟨_, ?_, ⟨_, _, m ++ [(k, v)], hheap (.map (es.push { key := V k, val := v, born := c }) (c + 1)), ?_, fun k' => ?_⟩, hfr _, by simp⟩
    · rw [hf] at hfi
      simp only [Instr.mapUpdate, Sem.run_bind, run_underlying hu, Result.andThen_ok, run_getObj h1, hk.check, hfi, Option.bind_none, hset]
    · simp [h2]
    · rw [assocGet_app m k k' v hf, h3]
  | some i =>
    have hi : i < m.length := by
      have := List.findIdx?_eq_some_iff_findIdx_eq.1 hf
      simpa using this.1
    have hi' : i < es.toList.length := by omega
    have hki : V k = (es.toList[i]).key := by
      have hmem := List.findIdx?_eq_some_iff_getElem.1 hf
      obtain ⟨hlt', hp, _⟩ := hmem
      have hp' : k = (m.map (·.1))[i] := by simpa using hp
      have e1 : (es.toList.map (·.key))[i]? = ((m.map (·.1)).map V)[i]? := by rw [hkeys]
      simp only [List.getElem?_map, List.getElem?_eq_getElem hi', List.getElem?_eq_getElem hi, Option.map_some, Option.some.injEq] at e1
      rw [e1, hp']; simp
    refine ⟨_, ?_, ⟨_, _, m.modify i fun p => (p.1, v), hheap (.map (es.modify i fun e => { e with key := V k, val := v }) c), ?_, fun k' => ?_⟩, hfr _, by simp⟩
    · rw [hf] at hfi
      have hes : es[i]? = some es.toList[i] := by rw [← Array.getElem?_toList, List.getElem?_eq_getElem hi']
      simp only [Option.bind_some, List.getElem?_eq_getElem hi', Option.map_some] at hfi
      have hstay : (Instr.keyThatStays (((es[i]?).map (·.key)).getD (V k)) (V k)).run P w = .ok (V k) w := by
        rw [hes]
        simp only [Option.map_some, Option.getD_some, ← hki, Instr.keyThatStays, hk.bits, if_true, Sem.run_pure]
      simp only [Instr.mapUpdate, Sem.run_bind, run_underlying hu, Result.andThen_ok, run_getObj h1, hk.check, hfi, hstay, hset]
    · apply List.ext_getElem?
      intro j
      have e2 := congrArg (·[j]?) h2
      simp only [List.getElem?_map] at e2 ⊢
      rw [Array.getElem?_toList, Array.getElem?_modify, List.getElem?_modify]
      rw [Array.getElem?_toList] at e2
      by_cases hj : i = j
      · subst hj
        have e3 := List.getElem?_eq_getElem hi
        have hes : es[i]? = some es.toList[i] := by rw [← Array.getElem?_toList, List.getElem?_eq_getElem hi']
        rw [hes, e3] at e2 ⊢
        simp only [Option.map_some, Option.some.injEq, Prod.mk.injEq] at e2
        simp only [if_true, Option.map_some]
        rw [hki, e2.1]; rfl
      · simp only [hj, if_false]
        rw [e2]; simp
    · rw [assocGet_mod k k' v m i hf, h3]
variable {a : Act} {n : Nat} {L : List (Nat × Value)} {ds : List Nat} {w w' : World} {Q : Exit → Act → World → Prop} {C : World → Prop} {Qa : Act → Prop} {ops : Array Oper} {rest : List Oper}
variable {d : Nat} {ty : TypeId} {pos : String} {after : Array Edge} {x y z : Operand} {t E : TypeId} {g : Nat} {f : κ → Option Value} {k : κ} {v zv : Value}
theorem st_makeMap (V : κ → Value) (h : AgM ds a n L) (hn : Nat.blt d n = true)
    (q : ∀ g w', g = w.heap.size → MapF V w' g (fun _ => none) → Fr [] w w' → w'.heap.size = g + 1 → ∀ a, AgM ds a n ((d, .map (some g)) :: L) → wpList P ops Q rest a w') : wpList P ops Q (⟨some d, .makeMap t none, ty, pos, after, none⟩ :: rest) a w :=
  st_ok h rfl rfl hn (w' := w.alloc (.map #[] 0)) (by simp [execOp, Instr.makeMap]) (q _ _ rfl ⟨_, _, [], heap_alloc_new w _, by simp, fun _ => rfl⟩ (Fr.alloc [] w _) (by simp))
theorem ex_lookup (h : AgM ds a n L) (hx : ev L x = some (.map (some g))) (hy : ev L y = some (V k)) (hm : MapF V w g f) (hk : KeyLaw P K V) (hu : P.underlying t = some (.map K E)) (hz : ∀ w : World, (zeroValue E).run P w = .ok zv w) :
    (execOp a.eval ⟨some d, .lookup t x y false, ty, pos, after, none⟩).run P w = .ok (.value ((f k).getD zv)) w := by
  simp [execOp, h.eval hx, h.eval hy, run_lookup hm hk hu (hz w) k]
theorem st_lookup (h : AgM ds a n L) (hx : ev L x = some (.map (some g))) (hy : ev L y = some (V k)) (hm : MapF V w g f) (hk : KeyLaw P K V) (hu : P.underlying t = some (.map K E)) (hz : ∀ w : World, (zeroValue E).run P w = .ok zv w) (hv : (f k).getD zv = v) (hn : Nat.blt d n = true)
    (q : ∀ a, AgM ds a n ((d, v) :: L) → wpList P ops Q rest a w) : wpList P ops Q (⟨some d, .lookup t x y false, ty, pos, after, none⟩ :: rest) a w :=
  st_ok h rfl rfl hn (by rw [← hv]; exact ex_lookup h hx hy hm hk hu hz) q
theorem qt_lookup (h : AgM ds a n L) (hx : ev L x = some (.map (some g))) (hy : ev L y = some (V k)) (hm : ∀ w, C w → MapF V w g f) (hk : KeyLaw P K V) (hu : P.underlying t = some (.map K E)) (hz : ∀ w : World, (zeroValue E).run P w = .ok zv w) (hv : (f k).getD zv = v) (hn : Nat.blt d n = true)
    (q : ∀ a, AgM ds a n ((d, v) :: L) → wpQuiet P ops C Qa rest a) : wpQuiet P ops C Qa (⟨some d, .lookup t x y false, ty, pos, after, none⟩ :: rest) a :=
  qt_ok h rfl rfl hn (fun w hw => by rw [← hv]; exact ex_lookup h hx hy (hm w hw) hk hu hz) q
theorem st_mapSet (h : AgM ds a n L) (hx : ev L x = some (.map (some g))) (hy : ev L y = some (V k)) (hz : ev L z = some v) (hm : MapF V w g f) (hk : KeyLaw P K V) (hu : P.underlying t = some (.map K E))
    (q : ∀ w', MapF V w' g (fun k' => if k' = k then some v else f k') → Fr [g] w w' → w'.heap.size = w.heap.size → ∀ a, AgM ds a n L → wpList P ops Q rest a w') : wpList P ops Q (⟨none, .mapUpdate t x y z, ty, pos, after, none⟩ :: rest) a w := by
  obtain ⟨w', hr, h1, h2, h3⟩ := run_mapUpdate hm hk hu k v
  exact st_skip h rfl rfl (w' := w') (by simp [execOp, h.eval hx, h.eval hy, h.eval hz, hr]) (q w' h1 h2 h3)
end
end Go.Lw
namespace Go.Lw
theorem Fr.drewN (S : List Nat) (w : World) (n : Nat) : Fr S w (w.drewN n) := ⟨rfl, rfl, rfl, Nat.le_refl _, fun _ _ _ => rfl⟩
def IntAt (g : Nat) (w : World) : Prop := ∃ m : Int, w.cell? ⟨g, 0, none⟩ = some (.int .i64 m)
theorem IntAt.fr {g : Nat} {S : List Nat} {w w' : World} (h : IntAt g w) (hf : Fr S w w') (hn : g ∉ S) : IntAt g w' := let ⟨m, hm⟩ := h; ⟨m, hf.cell hm hn⟩
theorem IntAt.ext {g : Nat} {w w' : World} (h : IntAt g w) (hf : Fr [] w w') : IntAt g w' := h.fr hf (by simp)
theorem IntAt.lt {g : Nat} {w : World} (h : IntAt g w) : g < w.heap.size := let ⟨_, hm⟩ := h; block_lt_of_cell hm
end Go.Lw
namespace Go.Lw
section
variable {P : Program} {a : Act} {n : Nat} {L : List (Nat × Value)} {ds : List Nat} {w w' : World} {Q : Exit → Act → World → Prop} {ops : Array Oper} {rest : List Oper}
variable {d : Nat} {ty : TypeId} {pos : String} {after : Array Edge} {x y : Operand} {t t' T : TypeId} {A : Option Addr} {m c : Nat}
end
end Go.Lw
namespace Go.Proofs.YthehggmdcmpjeaaGreatDoor
open Go.Lw Go.G14
theorem ag91 : AggOf Tryz.prog 91 5 := ⟨fun _ => by kernel_rfl, fun _ => by kernel_rfl⟩
theorem co89 : CallOf Tryz.prog 89 := mkC Tryz.func89
theorem co157 : CallOf Tryz.prog 157 := mkC Tryz.func157
theorem co158 : CallOf Tryz.prog 158 := mkC Tryz.func158
theorem el75 : ElemOf Tryz.prog 75 5 Enc.b 1 := ElemOf.mk' (z := (.int .u8 0)) Tryz.underlying75 (by kernel_rfl) rfl
theorem fa91_0 : FieldAt Tryz.prog 91 0 0 := fun _ _ => by kernel_rfl
theorem fa91_1 : FieldAt Tryz.prog 91 1 1 := fun _ _ => by kernel_rfl
theorem fa91_2 : FieldAt Tryz.prog 91 2 2 := fun _ _ => by kernel_rfl
theorem fa91_3 : FieldAt Tryz.prog 91 3 3 := fun _ _ => by kernel_rfl
theorem fa91_4 : FieldAt Tryz.prog 91 4 4 := fun _ _ => by kernel_rfl
theorem hmix : Tryz.prog.follows .mixedOrders = true := by kernel_rfl
theorem na3 : NotAgg Tryz.prog 3 := fun _ => by kernel_rfl
theorem na4 : NotAgg Tryz.prog 4 := fun _ => by kernel_rfl
theorem na5 : NotAgg Tryz.prog 5 := fun _ => by kernel_rfl
theorem na89 : NotAgg Tryz.prog 89 := fun _ => by kernel_rfl
theorem sz5 : SizeOf Tryz.prog 5 1 := fun _ => by kernel_rfl
theorem digit_ok (n : Int) (w0 : World) (h0 : 0 ≤ n) (h1 : n ≤ 9) : Rets Tryz.prog 158 #[.int .i64 n] w0 fun v w' => v = .int .u8 ((dg n).toNat : Int) ∧ w0 = w' := by
 refine enter [(0, .int .i64 n)] Tryz.func158 rfl Tryz.ntmps158 rfl (.cons rfl .nil) ?_
 intro a h
 refine tC h (kQ (kR (asg rfl (kL [(0, _)] (.cons rfl .nil) (kE (kQ (kR (mv rfl (s_add rfl rfl (by first | exact i6 (by omega) | rfl) (s_conv rfl (by rw [Tryz.underlying3]; rfl) Tryz.underlying5 (by first | exact IntWalk.u8_in _ (by omega) | rfl) (asg rfl (kL [(2, _)] (.cons rfl .nil) (kE ?_))))))))))))); clear h a; intro a h
 refine wp_ret (ret1 h Tryz.results158 rfl ?_)
 exact ⟨_, rfl, by rw [dg_val n h0 h1], rfl⟩
theorem put_ok (l m : List UInt8) (x : Value) (w0 : World) (hx : Sl Enc.b w0 x m) (hb : l.length + m.length ≤ 9223372036854775807) : Rets Tryz.prog 157 #[S l, x] w0 fun v w' => v = S (l ++ m) ∧ w0 = w' := by
 refine enter [(0, S l), (1, x)] Tryz.func157 rfl Tryz.ntmps157 rfl (.c2 rfl rfl) ?_
 intro a h
 refine tC h (kQ (kR (asg rfl (kL [(0, _), (1, _)] (.c2 rfl rfl) (kE (kQ (kR (mv rfl (mv rfl (s_b2s rfl (by assumption) el75 Tryz.underlying5 Tryz.underlying9 rfl (s_adds rfl rfl (asg rfl (kL [(4, _)] (.cons rfl .nil) (kE ?_))) (hb := (by exact hb))))))))))))); clear h a; intro a h
 refine wp_ret (ret1 h Tryz.results157 rfl ?_)
 exact ⟨_, rfl, rfl, rfl⟩
theorem check_ok (s : Stitch) (w0 : World) : Rets Tryz.prog 89 #[stV s] w0 fun v w' => v = .int .i64 (checkS s) ∧ Fr [] w0 w' := by
 refine enter [(0, stV s)] Tryz.func89 rfl Tryz.ntmps89 rfl (.cons rfl .nil) ?_
 have hf := Fr.refl [] w0
 intro a h
 refine tC h (kQ (kR ?_)); clear h a; intro a h
 refine st_box h rfl rfl ?_; clear h a; intro w1 hb1 hq hz a h
 obtain ⟨g_1, hg⟩ : ∃ g, g = w0.heap.size := ⟨_, rfl⟩; rw [← hg] at hb1 h hz
 have hl1 : w0.heap.size ≤ g_1 := by have := hf.size; omega
 replace hf := hf.next hq
 clear hq hz hg
 refine tW h (asg rfl (kL [(1, _)] (.cons rfl .nil) (kE (kQ (kQ ?_))))); clear h a; intro a h
 refine region_bool (r := 20) (L' := [(1, _)]) (s.k < 1 ∨ 8 < s.k ∨ s.y < 1 ∨ 6 < s.y) h (.cons rfl .nil) ?_ ?_
 ·refine tW h (fad rfl fa91_0 (s_loadB rfl hb1 rfl na89 (lt' rfl rfl (mv rfl ?_)))); clear h a; intro a h
  refine gSp (D := 6) h rfl ?_ ?_
  ·clear h; intro g0 h
   refine tW h (kN rfl rfl (kN rfl rfl (kN rfl rfl (pkt rfl rfl (mv rfl (kN rfl rfl (kN rfl rfl (kN rfl rfl (pkt rfl rfl (mv rfl (kN rfl rfl (kN rfl rfl (kN rfl rfl (pkt rfl rfl ?_)))))))))))))); clear h a; intro a h
   exact wpList_nil (bool_end h rfl (by first | exact bt (by omega) | exact bf (by omega) | exact bi (by omega) | exact bn (by omega)) (.cons rfl .nil))
  clear h; intro g0 h
  refine tW h (kY rfl (fad rfl fa91_0 (kY rfl (s_loadB rfl hb1 rfl na89 (kY rfl (gt' rfl rfl (pkf rfl rfl (mv rfl ?_)))))))); clear h a; intro a h
  refine gSp (D := 11) h rfl ?_ ?_
  ·clear h; intro g1 h
   refine tW h (kN rfl rfl (kN rfl rfl (kN rfl rfl (pkt rfl rfl (mv rfl (kN rfl rfl (kN rfl rfl (kN rfl rfl (pkt rfl rfl ?_))))))))); clear h a; intro a h
   exact wpList_nil (bool_end h rfl (by first | exact bt (by omega) | exact bf (by omega) | exact bi (by omega) | exact bn (by omega)) (.cons rfl .nil))
  clear h; intro g1 h
  refine tW h (kY rfl (fad rfl fa91_1 (kY rfl (s_loadB rfl hb1 rfl na5 (kY rfl (lt' rfl rfl (pkf rfl rfl (mv rfl ?_)))))))); clear h a; intro a h
  refine gSp (D := 16) h rfl ?_ ?_
  ·clear h; intro g2 h
   refine tW h (kN rfl rfl (kN rfl rfl (kN rfl rfl (pkt rfl rfl ?_)))); clear h a; intro a h
   exact wpList_nil (bool_end h rfl (by first | exact bt (by omega) | exact bf (by omega) | exact bi (by omega) | exact bn (by omega)) (.cons rfl .nil))
  clear h; intro g2 h
  refine tW h (kY rfl (fad rfl fa91_1 (kY rfl (s_loadB rfl hb1 rfl na5 (kY rfl (gt' rfl rfl (pkf rfl rfl ?_))))))); clear h a; intro a h
  exact wpList_nil (bool_end h rfl (by first | exact bt (by omega) | exact bf (by omega) | exact bi (by omega) | exact bn (by omega)) (.cons rfl .nil))
 clear h a; intro a h
 refine (norm_then ?_)
 refine cS h rfl (fun c0=>?_) (fun c0=>?_)
 ·refine tC h (kQ (kR (asg rfl (kL [(2, _)] (.cons rfl .nil) (kE ?_))))); clear h a; intro a h
  refine wp_ret (ret_then (ret1 h Tryz.results89 rfl ?_))
  exact ⟨_, rfl, by unfold checkS; (repeat' split) <;> first | rfl | (exfalso; first | omega | (simp_all; done) | (simp_all; omega)), hf⟩
 refine tC h (kZ (kQ (kQ (kR (fad rfl fa91_0 (s_loadB rfl hb1 rfl na89 (ne' rfl rfl (kL [(1, _), (23, _)] (.c2 rfl rfl) (kE ?_))))))))); clear h a; intro a h
 refine cS h rfl (fun c1=>?_) (fun c1=>?_)
 ·refine tC h (kQ (kQ ?_)); clear h a; intro a h
  refine region_bool (r := 35) (L' := []) (s.a ≠ 0 ∨ s.b ≠ 0 ∨ s.f = true) h .nil ?_ ?_
  ·refine tW h (fad rfl fa91_2 (s_loadB rfl hb1 rfl na3 (ne' rfl rfl (mv rfl ?_)))); clear h a; intro a h
   refine gSp (D := 27) h rfl ?_ ?_
   ·clear h; intro g3 h
    refine tW h (kN rfl rfl (kN rfl rfl (kN rfl rfl (pkt rfl rfl (mv rfl (kN rfl rfl (kN rfl rfl (pkt rfl rfl ?_)))))))); clear h a; intro a h
    exact wpList_nil (bool_end h rfl (by simp_all) .nil)
   clear h; intro g3 h
   refine tW h (kY rfl (fad rfl fa91_3 (kY rfl (s_loadB rfl hb1 rfl na3 (kY rfl (ne' rfl rfl (pkf rfl rfl (mv rfl ?_)))))))); clear h a; intro a h
   refine gSp (D := 32) h rfl ?_ ?_
   ·clear h; intro g4 h
    refine tW h (kN rfl rfl (kN rfl rfl (pkt rfl rfl ?_))); clear h a; intro a h
    exact wpList_nil (bool_end h rfl (by simp_all) .nil)
   clear h; intro g4 h
   refine tW h (kY rfl (fad rfl fa91_4 (kY rfl (s_loadB rfl hb1 rfl na4 (pkf rfl rfl ?_))))); clear h a; intro a h
   exact wpList_nil (bool_end h rfl (by simp_all) .nil)
  clear h a; intro a h
  refine (norm_then ?_)
  refine cS h rfl (fun c2=>?_) (fun c2=>?_)
  ·refine tC h (kQ (kR (asg rfl (kL [(2, _)] (.cons rfl .nil) (kE ?_))))); clear h a; intro a h
   refine wp_ret (ret_then (ret_then ?_))
   refine ret1 h Tryz.results89 rfl ?_
   exact ⟨_, rfl, by unfold checkS; (repeat' split) <;> first | rfl | (exfalso; first | omega | (simp_all; done) | (simp_all; omega)), hf⟩
  refine tC h (kZ (kQ (kR (asg rfl (kL [(2, _)] (.cons rfl .nil) (kE ?_)))))); clear h a; intro a h
  refine wp_ret (ret_then (ret1 h Tryz.results89 rfl ?_))
  exact ⟨_, rfl, by unfold checkS; (repeat' split) <;> first | rfl | (exfalso; first | omega | (simp_all; done) | (simp_all; omega)), hf⟩
 refine tC h (kZ (kQ (kQ ?_))); clear h a; intro a h
 refine region_bool (r := 56) (L' := []) (s.a < 1 ∨ 4 < s.a ∨ s.b < 1 ∨ 4 - s.a < s.b) h .nil ?_ ?_
 ·refine tW h (fad rfl fa91_2 (s_loadB rfl hb1 rfl na3 (lt' rfl rfl (mv rfl ?_)))); clear h a; intro a h
  refine gSp (D := 39) h rfl ?_ ?_
  ·clear h; intro g5 h
   refine tW h (kN rfl rfl (kN rfl rfl (kN rfl rfl (pkt rfl rfl (mv rfl (kN rfl rfl (kN rfl rfl (kN rfl rfl (pkt rfl rfl (mv rfl (kN rfl rfl (kN rfl rfl (kN rfl rfl (kN rfl rfl (kN rfl rfl (kN rfl rfl (pkt rfl rfl ?_))))))))))))))))); clear h a; intro a h
   exact wpList_nil (bool_end h rfl (by first | exact bt (by omega) | exact bf (by omega) | exact bi (by omega) | exact bn (by omega)) .nil)
  clear h; intro g5 h
  refine tW h (kY rfl (fad rfl fa91_2 (kY rfl (s_loadB rfl hb1 rfl na3 (kY rfl (gt' rfl rfl (pkf rfl rfl (mv rfl ?_)))))))); clear h a; intro a h
  refine gSp (D := 44) h rfl ?_ ?_
  ·clear h; intro g6 h
   refine tW h (kN rfl rfl (kN rfl rfl (kN rfl rfl (pkt rfl rfl (mv rfl (kN rfl rfl (kN rfl rfl (kN rfl rfl (kN rfl rfl (kN rfl rfl (kN rfl rfl (pkt rfl rfl ?_)))))))))))); clear h a; intro a h
   exact wpList_nil (bool_end h rfl (by first | exact bt (by omega) | exact bf (by omega) | exact bi (by omega) | exact bn (by omega)) .nil)
  clear h; intro g6 h
  refine tW h (kY rfl (fad rfl fa91_3 (kY rfl (s_loadB rfl hb1 rfl na3 (kY rfl (lt' rfl rfl (pkf rfl rfl (mv rfl ?_)))))))); clear h a; intro a h
  refine gSp (D := 49) h rfl ?_ ?_
  ·clear h; intro g7 h
   refine tW h (kN rfl rfl (kN rfl rfl (kN rfl rfl (kN rfl rfl (kN rfl rfl (kN rfl rfl (pkt rfl rfl ?_))))))); clear h a; intro a h
   exact wpList_nil (bool_end h rfl (by first | exact bt (by omega) | exact bf (by omega) | exact bi (by omega) | exact bn (by omega)) .nil)
  clear h; intro g7 h
  refine tW h (kY rfl (fad rfl fa91_3 (kY rfl (s_loadB rfl hb1 rfl na3 (kY rfl (fad rfl fa91_2 (kY rfl (s_loadB rfl hb1 rfl na3 (kY rfl (s_sub rfl rfl (by first | exact i6 (by omega) | rfl) (kY rfl (gt' rfl rfl (pkf rfl rfl ?_))))))))))))); clear h a; intro a h
  exact wpList_nil (bool_end h rfl (by first | exact bt (by omega) | exact bf (by omega) | exact bi (by omega) | exact bn (by omega)) .nil)
 clear h a; intro a h
 refine (norm_then ?_)
 refine cS h rfl (fun c3=>?_) (fun c3=>?_)
 ·refine tC h (kQ (kR (asg rfl (kL [(2, _)] (.cons rfl .nil) (kE ?_))))); clear h a; intro a h
  refine wp_ret (ret_then (ret1 h Tryz.results89 rfl ?_))
  exact ⟨_, rfl, by unfold checkS; (repeat' split) <;> first | rfl | (exfalso; first | omega | (simp_all; done) | (simp_all; omega)), hf⟩
 refine tC h (kZ (kQ (kR (asg rfl (kL [(2, _)] (.cons rfl .nil) (kE ?_)))))); clear h a; intro a h
 refine wp_ret (ret1 h Tryz.results89 rfl ?_)
 exact ⟨_, rfl, by unfold checkS; (repeat' split) <;> first | rfl | (exfalso; first | omega | (simp_all; done) | (simp_all; omega)), hf⟩
theorem text_ok (s : Stitch) (w0 : World) (hy : Sym w0) : Rets Tryz.prog 131 #[stV s] w0 fun v w' => v = S (textS s) ∧ Fr [] w0 w' := by
 refine enter [(0, stV s)] Tryz.func131 rfl Tryz.ntmps131 rfl (.cons rfl .nil) ?_
 have hf := Fr.refl [] w0
 intro a h
 refine tC h (kQ (kR ?_)); clear h a; intro a h
 refine st_box h rfl rfl ?_; clear h a; intro w1 hb1 hq hz a h
 obtain ⟨g_1, hg⟩ : ∃ g, g = w0.heap.size := ⟨_, rfl⟩; rw [← hg] at hb1 h hz
 have hl1 : w0.heap.size ≤ g_1 := by have := hf.size; omega
 replace hf := hf.next hq
 replace hy := hy.ext hq
 clear hq hz hg
 refine tW h (asg rfl (kL [(1, _)] (.cons rfl .nil) (kE (kQ (kQ (kR (s_loadBA rfl hb1 ag91 ?_))))))); clear h a; intro a h
 refine st_call h (evs_cons rfl evs_nil) co89 (check_ok _ _) ?_; clear h a; rintro _ w2 ⟨rfl, hq⟩ a h
 replace hf := hf.next hq
 replace hy := hy.ext hq
 replace hb1 := hb1.ext hq
 clear hq
 refine tW h (ne' rfl rfl (kL [(1, _), (7, _)] (.c2 rfl rfl) (kE ?_))); clear h a; intro a h
 refine cS h rfl (fun c0=>?_) (fun c0=>?_)
 ·refine tC h (kQ (kR (asg rfl (kL [(2, _)] (.cons rfl .nil) (kE ?_))))); clear h a; intro a h
  refine wp_ret (ret_then (ret1 h Tryz.results131 rfl ?_))
  exact ⟨_, rfl, by rw [textS, if_pos (by assumption)]; rfl, hf⟩
 have hc : checkS s = 0 := by omega
 obtain ⟨k1, k8, y1, y6, kn, ky⟩ := check_rng hc
 refine tC h (kZ (kQ (kR (fad rfl fa91_0 (s_loadB rfl hb1 rfl na89 (s_sub rfl rfl (by first | exact IntWalk.u8_in _ (by omega) | rfl) (s_idxA rfl rfl Tryz.underlying255 sz5 (s_load rfl (hy.at _ (by omega)) na5 rfl ?_)))))))); clear h a; intro a h
 refine st_bslice ([symbols.getD (s.k - 1).toNat 0]) h (evs_cons rfl evs_nil) rfl rfl rfl el75 (Nat.le_of_ble_eq_true rfl) ?_; clear h a; intro g_13 w3 hg ho13 hq hz a h
 have hn_1_13 : g_1 < g_13 := by have := hb1.lt; omega
 have hl13 : w0.heap.size ≤ g_13 := by have := hf.size; omega
 replace hf := hf.next hq
 replace hy := hy.ext hq
 replace hb1 := hb1.ext hq
 clear hq hz hg
 refine st_call h (evs_cons rfl (evs_cons rfl evs_nil)) co157 (put_ok _ _ _ _ ho13.sl (by simp)) ?_; clear h a; rintro _ _ ⟨rfl, rfl⟩ a h
 refine tW h (asg rfl (kL [(1, _), (3, _)] (.c2 rfl rfl) (kE (kQ (kQ (kR (fad rfl fa91_0 (s_loadB rfl hb1 rfl na89 (eq' rfl rfl (kL [(1, _), (3, _), (17, _)] (.c3 rfl rfl rfl) (kE ?_))))))))))); clear h a; intro a h
 refine cS h rfl (fun c1=>?_) (fun c1=>?_)
 ·refine tC h (kQ (kR (asg rfl (kL [(1, _), (3, _), (4, _)] (.c3 rfl rfl rfl) (kE (kQ (kQ (kR (fad rfl fa91_4 (s_loadB rfl hb1 rfl na4 (kL [(1, _), (3, _), (4, _), (19, _)] (.c4 rfl rfl rfl rfl) (kE ?_)))))))))))); clear h a; intro a h
  refine cS h rfl (fun c2=>?_) (fun c2=>?_)
  ·refine tC h (kR (asg rfl (kL [(1, _), (3, _), (4, _)] (.c3 rfl rfl rfl) ?_))); clear h a; intro a h
   refine wnt ?_
   refine region_held (fun wb w' => Fr [] wb w') hmix ?_; intro w4 hq
   replace hf := hf.next hq
   replace hy := hy.ext hq
   replace hb1 := hb1.ext hq
   replace ho13 := ho13.ext hq
   clear hq; have hC : Fr [] w4 w4 := Fr.refl _ _
   have hy_b := hy
   have hb1_b := hb1
   have ho13_b := ho13
   refine hd_move 0 hC h wn rfl rfl ?_; clear h a; intro a h
   refine hd_fieldAddr 1 hC h wn rfl fa91_2 rfl ?_; clear h a; intro a h
   refine hd_loadB 2 hC h wn rfl (fun _ hw => hb1_b.ext hw) rfl na3 rfl ?_; clear h a; intro a h
   refine hd_fieldAddr 4 hC h wn rfl fa91_3 rfl ?_; clear h a; intro a h
   refine hd_loadB 5 hC h wn rfl (fun _ hw => hb1_b.ext hw) rfl na3 rfl ?_; clear h a; intro a h
   refine hd_move 7 hC h wn rfl rfl ?_; clear h a; intro a h
   refine hd_one 3 rfl ?_
   refine st_call h (evs_cons rfl evs_nil) co158 (digit_ok _ _ (by omega) (by omega)) ?_; clear h a; rintro _ _ ⟨rfl, rfl⟩ a h
   refine hd_next hC ?_
   refine hd_one 6 rfl ?_
   refine st_call h (evs_cons rfl evs_nil) co158 (digit_ok _ _ (by omega) (by omega)) ?_; clear h a; rintro _ _ ⟨rfl, rfl⟩ a h
   refine hd_next hC ?_
   refine hd_one 8 rfl ?_
   refine st_bslice ([dg s.a, dg s.b, if s.f then 70 else 66]) h (evs_cons rfl (evs_cons rfl (evs_cons rfl evs_nil))) rfl (by rw [c2]; rfl) rfl el75 (Nat.le_of_ble_eq_true rfl) ?_; clear h a; intro g_28 w5 hg ho28 hq hz a h
   have hn_1_28 : g_1 < g_28 := by have := hb1.lt; omega
   have hl28 : w0.heap.size ≤ g_28 := by have := hf.size; omega
   replace hf := hf.next hq
   replace hy := hy.ext hq
   replace hb1 := hb1.ext hq
   replace ho13 := ho13.ext hq
   replace hC := hC.next hq
   clear hq hz hg
   refine hd_next hC ?_
   refine hd_one 9 rfl ?_
   refine st_call h (evs_cons rfl (evs_cons rfl evs_nil)) co157 (put_ok _ _ _ _ ho28.sl (by simp)) ?_; clear h a; rintro _ _ ⟨rfl, rfl⟩ a h
   refine hd_next hC ?_
   refine hd_one 10 rfl ?_
   refine st_assign h rfl ?_; clear h a; intro a h
   refine hd_next hC ?_
   refine hd_end ?_
   clear hC hy_b hb1_b ho13_b
   replace h : Ag a 41 [(1, _), (3, _)] := h.sub (.c2 rfl rfl)
   refine (norm_then ?_)
   refine tC h (kQ (kQ (kR (fad rfl fa91_1 (s_loadB rfl hb1 rfl na5 (ne' rfl rfl (kL [(1, _), (3, _), (32, _)] (.c3 rfl rfl rfl) (kE ?_)))))))); clear h a; intro a h
   refine cS h rfl (fun c3=>?_) (fun c3=>?_)
   ·refine tC h (kR (mv rfl (fad rfl fa91_1 (s_loadB rfl hb1 rfl na5 (s_conv rfl (by rw [Tryz.underlying5]; rfl) Tryz.underlying3 (by first | exact i6 (by omega) | rfl) ?_))))); clear h a; intro a h
    refine st_call h (evs_cons rfl evs_nil) co158 (digit_ok _ _ (by omega) (by omega)) ?_; clear h a; rintro _ _ ⟨rfl, rfl⟩ a h
    refine st_bslice ([dg s.y]) h (evs_cons rfl evs_nil) rfl rfl rfl el75 (Nat.le_of_ble_eq_true rfl) ?_; clear h a; intro g_38 w6 hg ho38 hq hz a h
    have hn_1_38 : g_1 < g_38 := by have := hb1.lt; omega
    have hl38 : w0.heap.size ≤ g_38 := by have := hf.size; omega
    replace hf := hf.next hq
    replace hy := hy.ext hq
    replace hb1 := hb1.ext hq
    replace ho13 := ho13.ext hq
    replace ho28 := ho28.ext hq
    clear hq hz hg
    refine st_call h (evs_cons rfl (evs_cons rfl evs_nil)) co157 (put_ok _ _ _ _ ho38.sl (by simp)) ?_; clear h a; rintro _ _ ⟨rfl, rfl⟩ a h
    refine tW h (asg rfl (kL [(3, _)] (.cons rfl .nil) (kE (kQ (kR (mv rfl (asg rfl (kL [(2, _)] (.cons rfl .nil) (kE ?_))))))))); clear h a; intro a h
    refine wp_ret (ret1 h Tryz.results131 rfl ?_)
    exact ⟨_, rfl, by simp_all [textS], hf⟩
   refine tC h (kZ (kQ (kR (mv rfl (asg rfl (kL [(2, _)] (.cons rfl .nil) (kE ?_))))))); clear h a; intro a h
   refine wp_ret (ret1 h Tryz.results131 rfl ?_)
   exact ⟨_, rfl, by simp_all [textS], hf⟩
  refine wsn ?_
  refine region_held (fun wb w' => Fr [] wb w') hmix ?_; intro w7 hq
  replace hf := hf.next hq
  replace hy := hy.ext hq
  replace hb1 := hb1.ext hq
  replace ho13 := ho13.ext hq
  clear hq; have hC : Fr [] w7 w7 := Fr.refl _ _
  have hy_b := hy
  have hb1_b := hb1
  have ho13_b := ho13
  refine hd_move 0 hC h wn rfl rfl ?_; clear h a; intro a h
  refine hd_fieldAddr 1 hC h wn rfl fa91_2 rfl ?_; clear h a; intro a h
  refine hd_loadB 2 hC h wn rfl (fun _ hw => hb1_b.ext hw) rfl na3 rfl ?_; clear h a; intro a h
  refine hd_fieldAddr 4 hC h wn rfl fa91_3 rfl ?_; clear h a; intro a h
  refine hd_loadB 5 hC h wn rfl (fun _ hw => hb1_b.ext hw) rfl na3 rfl ?_; clear h a; intro a h
  refine hd_move 7 hC h wn rfl rfl ?_; clear h a; intro a h
  refine hd_one 3 rfl ?_
  refine st_call h (evs_cons rfl evs_nil) co158 (digit_ok _ _ (by omega) (by omega)) ?_; clear h a; rintro _ _ ⟨rfl, rfl⟩ a h
  refine hd_next hC ?_
  refine hd_one 6 rfl ?_
  refine st_call h (evs_cons rfl evs_nil) co158 (digit_ok _ _ (by omega) (by omega)) ?_; clear h a; rintro _ _ ⟨rfl, rfl⟩ a h
  refine hd_next hC ?_
  refine hd_one 8 rfl ?_
  refine st_bslice ([dg s.a, dg s.b, if s.f then 70 else 66]) h (evs_cons rfl (evs_cons rfl (evs_cons rfl evs_nil))) rfl (by rw [c2]; rfl) rfl el75 (Nat.le_of_ble_eq_true rfl) ?_; clear h a; intro g_28 w8 hg ho28 hq hz a h
  have hn_1_28 : g_1 < g_28 := by have := hb1.lt; omega
  have hl28 : w0.heap.size ≤ g_28 := by have := hf.size; omega
  replace hf := hf.next hq
  replace hy := hy.ext hq
  replace hb1 := hb1.ext hq
  replace ho13 := ho13.ext hq
  replace hC := hC.next hq
  clear hq hz hg
  refine hd_next hC ?_
  refine hd_one 9 rfl ?_
  refine st_call h (evs_cons rfl (evs_cons rfl evs_nil)) co157 (put_ok _ _ _ _ ho28.sl (by simp)) ?_; clear h a; rintro _ _ ⟨rfl, rfl⟩ a h
  refine hd_next hC ?_
  refine hd_one 10 rfl ?_
  refine st_assign h rfl ?_; clear h a; intro a h
  refine hd_next hC ?_
  refine hd_end ?_
  clear hC hy_b hb1_b ho13_b
  replace h : Ag a 41 [(1, _), (3, _)] := h.sub (.c2 rfl rfl)
  refine (norm_then ?_)
  refine tC h (kQ (kQ (kR (fad rfl fa91_1 (s_loadB rfl hb1 rfl na5 (ne' rfl rfl (kL [(1, _), (3, _), (32, _)] (.c3 rfl rfl rfl) (kE ?_)))))))); clear h a; intro a h
  refine cS h rfl (fun c3=>?_) (fun c3=>?_)
  ·refine tC h (kR (mv rfl (fad rfl fa91_1 (s_loadB rfl hb1 rfl na5 (s_conv rfl (by rw [Tryz.underlying5]; rfl) Tryz.underlying3 (by first | exact i6 (by omega) | rfl) ?_))))); clear h a; intro a h
   refine st_call h (evs_cons rfl evs_nil) co158 (digit_ok _ _ (by omega) (by omega)) ?_; clear h a; rintro _ _ ⟨rfl, rfl⟩ a h
   refine st_bslice ([dg s.y]) h (evs_cons rfl evs_nil) rfl rfl rfl el75 (Nat.le_of_ble_eq_true rfl) ?_; clear h a; intro g_38 w9 hg ho38 hq hz a h
   have hn_1_38 : g_1 < g_38 := by have := hb1.lt; omega
   have hl38 : w0.heap.size ≤ g_38 := by have := hf.size; omega
   replace hf := hf.next hq
   replace hy := hy.ext hq
   replace hb1 := hb1.ext hq
   replace ho13 := ho13.ext hq
   replace ho28 := ho28.ext hq
   clear hq hz hg
   refine st_call h (evs_cons rfl (evs_cons rfl evs_nil)) co157 (put_ok _ _ _ _ ho38.sl (by simp)) ?_; clear h a; rintro _ _ ⟨rfl, rfl⟩ a h
   refine tW h (asg rfl (kL [(3, _)] (.cons rfl .nil) (kE (kQ (kR (mv rfl (asg rfl (kL [(2, _)] (.cons rfl .nil) (kE ?_))))))))); clear h a; intro a h
   refine wp_ret (ret1 h Tryz.results131 rfl ?_)
   exact ⟨_, rfl, by simp_all [textS], hf⟩
  refine tC h (kZ (kQ (kR (mv rfl (asg rfl (kL [(2, _)] (.cons rfl .nil) (kE ?_))))))); clear h a; intro a h
  refine wp_ret (ret1 h Tryz.results131 rfl ?_)
  exact ⟨_, rfl, by simp_all [textS], hf⟩
 refine tC h (kZ (kQ (kQ (kR (fad rfl fa91_1 (s_loadB rfl hb1 rfl na5 (ne' rfl rfl (kL [(1, _), (3, _), (32, _)] (.c3 rfl rfl rfl) (kE ?_))))))))); clear h a; intro a h
 refine cS h rfl (fun c3=>?_) (fun c3=>?_)
 ·refine tC h (kR (mv rfl (fad rfl fa91_1 (s_loadB rfl hb1 rfl na5 (s_conv rfl (by rw [Tryz.underlying5]; rfl) Tryz.underlying3 (by first | exact i6 (by omega) | rfl) ?_))))); clear h a; intro a h
  refine st_call h (evs_cons rfl evs_nil) co158 (digit_ok _ _ (by omega) (by omega)) ?_; clear h a; rintro _ _ ⟨rfl, rfl⟩ a h
  refine st_bslice ([dg s.y]) h (evs_cons rfl evs_nil) rfl rfl rfl el75 (Nat.le_of_ble_eq_true rfl) ?_; clear h a; intro g_38 w10 hg ho38 hq hz a h
  have hn_1_38 : g_1 < g_38 := by have := hb1.lt; omega
  have hl38 : w0.heap.size ≤ g_38 := by have := hf.size; omega
  replace hf := hf.next hq
  replace hy := hy.ext hq
  replace hb1 := hb1.ext hq
  replace ho13 := ho13.ext hq
  clear hq hz hg
  refine st_call h (evs_cons rfl (evs_cons rfl evs_nil)) co157 (put_ok _ _ _ _ ho38.sl (by simp)) ?_; clear h a; rintro _ _ ⟨rfl, rfl⟩ a h
  refine tW h (asg rfl (kL [(3, _)] (.cons rfl .nil) (kE (kQ (kR (mv rfl (asg rfl (kL [(2, _)] (.cons rfl .nil) (kE ?_))))))))); clear h a; intro a h
  refine wp_ret (ret1 h Tryz.results131 rfl ?_)
  exact ⟨_, rfl, by simp_all [textS], hf⟩
 refine tC h (kZ (kQ (kR (mv rfl (asg rfl (kL [(2, _)] (.cons rfl .nil) (kE ?_))))))); clear h a; intro a h
 refine wp_ret (ret1 h Tryz.results131 rfl ?_)
 exact ⟨_, rfl, by simp_all [textS], hf⟩
end Go.Proofs.YthehggmdcmpjeaaGreatDoor
namespace Go.Proofs.YthehggmdcmpjeaaGreatDoor
open Go.Lw Go.G14
theorem ag255 : AggOf Tryz.prog 255 8 := ⟨fun _ => by kernel_rfl, fun _ => by kernel_rfl⟩
theorem bo91 : BuildAt Tryz.prog 91 [(0, 1), (1, 1), (2, 1), (3, 1), (4, 1)] [(.int .u8 0), (.int .u8 0), (.int .i64 0), (.int .i64 0), (.bool false)] := BuildAt.struct Tryz.underlying91 (fun _ => by kernel_rfl) (fun _ => by kernel_rfl)
theorem co131 : CallOf Tryz.prog 131 := mkC Tryz.func131
theorem sz3 : SizeOf Tryz.prog 3 1 := fun _ => by kernel_rfl
theorem sz4 : SizeOf Tryz.prog 4 1 := fun _ => by kernel_rfl
theorem sz89 : SizeOf Tryz.prog 89 1 := fun _ => by kernel_rfl
theorem sz91 : SizeOf Tryz.prog 91 5 := fun _ => by kernel_rfl
theorem zv91 (w : World) : (zeroValue 91).run Tryz.prog w = .ok (.agg #[(.int .u8 0), (.int .u8 0), (.int .i64 0), (.int .i64 0), (.bool false)]) w := by kernel_rfl
set_option maxHeartbeats 1000000 in
theorem parse_ok (l : List UInt8) (w0 : World) (hy : Sym w0) : Rets Tryz.prog 149 #[S l] w0 fun v w' => v = .tuple #[stV (parseS l).1, .int .i64 (parseS l).2] ∧ Fr [] w0 w' := by
 have h00 := hy.pos
 refine enter [(0, S l)] Tryz.func149 rfl Tryz.ntmps149 rfl (.cons rfl .nil) ?_
 have hf := Fr.refl [] w0
 intro a h
 refine tC h (kQ (kR ?_)); clear h a; intro a h
 refine st_alloc h zv91 rfl ?_; clear h a; intro w1 hb2 hq hz a h
 obtain ⟨g_2, hg⟩ : ∃ g, g = w0.heap.size := ⟨_, rfl⟩; rw [← hg] at hb2 h hz
 have hl2 : w0.heap.size ≤ g_2 := by have := hf.size; omega
 replace hf := hf.next hq
 replace hy := hy.ext hq
 clear hq hz hg
 refine tW h (asg rfl (kL [(0, _), (2, _)] (.c2 rfl rfl) (kE (kQ (kQ (kR (mv rfl (s_eqs rfl rfl (kL [(0, _), (2, _), (9, _)] (.c3 rfl rfl rfl) (kE ?_)))))))))); clear h a; intro a h
 refine cS h rfl (fun c0=>?_) (fun c0=>?_)
 ·refine tC h (kQ (kR (s_lit (cs := [_, _, _, _, _]) evs_nil bo91 pok_nil rfl ?_))); clear h a; intro a h
  refine st_storeBA h rfl rfl hb2 rfl sz91 ?_; clear h a; intro w2 hbn hq hz a h
  replace hf := hf.sp hq
  replace hy := hy.fr hq (by simp[blks]<;>omega)
  clear hb2 hq hz; have hb2 : Blk w2 g_2 _ [_, _, _, _, _] := hbn; clear hbn
  refine tW h (asg rfl (kL [(2, _), (3, _)] (.c2 rfl rfl) (kE ?_))); clear h a; intro a h
  refine wp_ret (ret_then (retCT h Tryz.results149 rfl hb2 ag91 rfl ?_))
  exact ⟨_, rfl, by rw [parse_none c0]; rfl, hf⟩
 have hlen : 0 < l.length := List.length_pos_iff.2 c0
 refine tC h (kZ (kQ (kR (s_lit (cs := [_, _, _, _, _]) (evs_cons rfl evs_nil) bo91 (pok_cons rfl rfl rfl pok_nil) rfl ?_)))); clear h a; intro a h
 refine st_alloc h zv91 rfl ?_; clear h a; intro w3 hb4 hq hz a h
 obtain ⟨g_4, hg⟩ : ∃ g, g = w1.heap.size := ⟨_, rfl⟩; rw [← hg] at hb4 h hz
 have hl4 : w0.heap.size ≤ g_4 := by have := hf.size; omega
 have hn_2_4 : g_2 < g_4 := by have := hb2.lt; omega
 replace hf := hf.next hq
 replace hy := hy.ext hq
 replace hb2 := hb2.ext hq
 clear hq hz hg
 refine st_storeBA h rfl rfl hb4 rfl sz91 ?_; clear h a; intro w4 hbn hq hz a h
 replace hf := hf.sp hq
 replace hy := hy.fr hq (by simp[blks]<;>omega)
 replace hb2 := hb2.fr hq (by simp[blks]<;>omega)
 clear hb4 hq hz; have hb4 : Blk w4 g_4 _ [_, _, _, _, _] := hbn; clear hbn
 refine tW h (kL [(0, _), (2, _), (4, _)] (.c3 rfl rfl rfl) (kE (kQ (kQ (kR (s_loadA rfl hy ag255 (mv rfl (kE (kB ?_))))))))); clear h a; intro a h
 refine loop (ι := Nat) (fun i => [(0, S l), (2, .pointer (some ⟨g_2, 0, none⟩)), (4, .pointer (some ⟨g_4, 0, none⟩)), (12, .agg (symbols.flatMap Enc.b.enc).toArray), (13, .int .i64 (i : Int))]) (fun i w' => i ≤ 8 ∧ Blk w' g_4 91 [.int .u8 (kindTo i (l.getD 0 0)), .int .u8 1, .int .i64 0, .int .i64 0, .bool false] ∧ Blk w' g_2 91 [.int .u8 0, .int .u8 0, .int .i64 0, .int .i64 0, .bool false] ∧ Sym w' ∧ Fr [] w0 w') (fun i => 8 - i) 0 (h.sub (.c5 rfl rfl rfl rfl rfl)) ⟨by omega, hb4, hb2, hy, hf⟩ ?_
 clear h a hb2 hb4 hf hy
 rintro i w5 a h ⟨hi, hb4, hb2, hy, hf⟩
 refine tC h (kQ (kR (lt' rfl rfl (kE (kQ ?_))))); clear h a; intro a h
 refine cS h rfl (fun c1=>?_) (fun c1=>?_)
 ·refine tC h (kZ (kQ (kB (kQ (kR (mv rfl ?_)))))); clear h a; intro a h
  refine st_idxV (v := .int .u8 ((symbols.getD i 0).toNat : Int)) h rfl rfl Tryz.underlying255 sz5 na5 (by omega) (by omega) (by exact sym_get i (by omega)) rfl ?_; clear h a; intro a h
  refine tW h (asg rfl (asg rfl (kL [(0, _), (2, _), (4, _), (5, _), (6, _), (12, _), (13, _)] (.c7 rfl rfl rfl rfl rfl rfl rfl) (kE (kQ (kR (mv rfl (mv rfl ?_)))))))); clear h a; intro a h
  refine st_index (p := 0) h rfl rfl Tryz.underlying9 ?_ (hp := rfl); clear h a; intro hy19 a h
  refine tW h (eq' rfl rfl (kL [(0, _), (2, _), (4, _), (5, _), (12, _), (13, _), (20, _)] (.c7 rfl rfl rfl rfl rfl rfl rfl) (kE ?_))); clear h a; intro a h
  refine cS h rfl (fun c2=>?_) (fun c2=>?_)
  ·refine tC h (kR (mv rfl (s_add rfl rfl (by first | exact i6 (by omega) | rfl) (s_conv rfl (by rw [Tryz.underlying3]; rfl) Tryz.underlying89 (by first | exact IntWalk.u8_in _ (by omega) | rfl) (fad rfl fa91_0 ?_))))); clear h a; intro a h
   refine st_storeB h rfl rfl hb4 rfl rfl rfl sz89 ?_; clear h a; intro w6 hbn hq hz a h
   replace hf := hf.sp hq
   replace hy := hy.fr hq (by simp[blks]<;>omega)
   replace hb2 := hb2.fr hq (by simp[blks]<;>omega)
   clear hb4 hq hz; have hb4 := hbn; clear hbn
   replace h : Ag a 65 [(0, _), (2, _), (4, _), (12, _), (13, _)] := h.sub (.c5 rfl rfl rfl rfl rfl)
   refine wpList_nil (norm_blk (norm_then ?_))
   refine tC h (kR (s_add rfl rfl (by first | exact i6 (by omega) | rfl) (mv rfl (kL [(0, _), (2, _), (4, _), (12, _), (13, _)] (.c5 rfl rfl rfl rfl rfl) ?_)))); clear h a; intro a h
   refine wnt ?_
   exact ⟨i + 1, h.sub (.c5 rfl rfl rfl rfl rfl), ⟨by omega, by first | (rw [kindTo, if_pos (byte_eq.1 (by assumption))]; exact hb4) | (rw [kindTo, if_neg (fun e => absurd (byte_eq.2 e) (by assumption))]; exact hb4), hb2, hy, hf⟩, by omega⟩
  refine wp_skip (norm_blk (norm_then ?_))
  refine tC h (kR (s_add rfl rfl (by first | exact i6 (by omega) | rfl) (mv rfl (kL [(0, _), (2, _), (4, _), (12, _), (13, _)] (.c5 rfl rfl rfl rfl rfl) ?_)))); clear h a; intro a h
  refine wnt ?_
  exact ⟨i + 1, h.sub (.c5 rfl rfl rfl rfl rfl), ⟨by omega, by first | (rw [kindTo, if_pos (byte_eq.1 (by assumption))]; exact hb4) | (rw [kindTo, if_neg (fun e => absurd (byte_eq.2 e) (by assumption))]; exact hb4), hb2, hy, hf⟩, by omega⟩
 obtain rfl : i = 8 := by omega
 refine wp_exit (exit_then (exit_then (exit_here (norm_then ?_))))
 refine tC h (kQ (kR (mv rfl (s_ss_l (p := 1) rfl rfl Tryz.underlying9 rfl rfl (asg rfl (kL [(0, _), (2, _), (4, _), (7, _)] (.c4 rfl rfl rfl rfl) (kE (kQ (kQ ?_))))))))); clear h a; intro a h
 refine region_bool (r := 35) (L' := [(0, _), (2, _), (4, _), (7, _)]) (kindTo 8 (l.getD 0 0) = 8 ∧ 3 ≤ (l.drop 1).length) h (.c4 rfl rfl rfl rfl) ?_ ?_
 ·refine tW h (fad rfl fa91_0 (s_loadB rfl hb4 rfl na89 (eq' rfl rfl (mv rfl ?_)))); clear h a; intro a h
  refine gSp (D := 31) h rfl ?_ ?_
  ·clear h; intro g0 h
   refine tW h (kY rfl (mv rfl (kY rfl (ln rfl Tryz.underlying9 (kY rfl (ge' rfl rfl (pkt rfl rfl ?_))))))); clear h a; intro a h
   exact wpList_nil (bool_end h rfl (by first | exact bt (by omega) | exact bf (by omega) | exact bi (by omega)) (.c4 rfl rfl rfl rfl))
  clear h; intro g0 h
  refine tW h (kN rfl rfl (kN rfl rfl (kN rfl rfl (pkf rfl rfl ?_)))); clear h a; intro a h
  exact wpList_nil (bool_end h rfl (by first | exact bt (by omega) | exact bf (by omega) | exact bi (by omega)) (.c4 rfl rfl rfl rfl))
 clear h a; intro a h
 refine (norm_then ?_)
 refine cS h rfl (fun c3=>?_) (fun c3=>?_)
 ·refine wp_seq ?_
  refine region_held (fun wb w' => Fr [g_4] wb w') hmix ?_; intro w7 hq
  replace hf := hf.next hq
  replace hy := hy.ext hq
  replace hb2 := hb2.ext hq
  replace hb4 := hb4.ext hq
  clear hq; have hC : Fr [g_4] w7 w7 := Fr.refl _ _
  have hy_b := hy
  have hb2_b := hb2
  have hb4_b := hb4
  refine hd_move 0 hC h wn rfl rfl ?_; clear h a; intro a h
  refine hd_index (p := 0) 1 hC h wn rfl rfl Tryz.underlying9 rfl rfl rfl ?_; clear h a; intro hy37 a h
  refine hd_conv 2 hC h wn rfl (by rw [Tryz.underlying5]; rfl) Tryz.underlying3 (by first | exact i6 (by omega) | rfl) rfl rfl ?_; clear h a; intro a h
  refine hd_sub 3 hC h wn rfl rfl (by first | exact i6 (by omega) | rfl) rfl rfl ?_; clear h a; intro a h
  refine hd_move 4 hC h wn rfl rfl ?_; clear h a; intro a h
  refine hd_index (p := 1) 5 hC h wn rfl rfl Tryz.underlying9 rfl rfl rfl ?_; clear h a; intro hy41 a h
  refine hd_conv 6 hC h wn rfl (by rw [Tryz.underlying5]; rfl) Tryz.underlying3 (by first | exact i6 (by omega) | rfl) rfl rfl ?_; clear h a; intro a h
  refine hd_sub 7 hC h wn rfl rfl (by first | exact i6 (by omega) | rfl) rfl rfl ?_; clear h a; intro a h
  refine hd_move 8 hC h wn rfl rfl ?_; clear h a; intro a h
  refine hd_index (p := 2) 9 hC h wn rfl rfl Tryz.underlying9 rfl rfl rfl ?_; clear h a; intro hy45 a h
  refine hd_eq 10 (by kernel_rfl) (by kernel_rfl) (by kernel_rfl) hC h wn rfl rfl rfl rfl ?_; clear h a; intro a h
  refine hd_fieldAddr 11 hC h wn rfl fa91_2 rfl ?_; clear h a; intro a h
  refine hd_one 12 rfl ?_
  refine st_storeB h rfl rfl hb4 rfl rfl rfl sz3 ?_; clear h a; intro w8 hbn hq hz a h
  replace hf := hf.sp hq
  replace hy := hy.fr hq (by simp[blks]<;>omega)
  replace hb2 := hb2.fr hq (by simp[blks]<;>omega)
  replace hC := hC.sp hq
  clear hb4 hq hz; have hb4 := hbn; clear hbn
  refine hd_next hC ?_
  refine hd_fieldAddr 13 hC h wn rfl fa91_3 rfl ?_; clear h a; intro a h
  refine hd_one 14 rfl ?_
  refine st_storeB h rfl rfl hb4 rfl rfl rfl sz3 ?_; clear h a; intro w9 hbn hq hz a h
  replace hf := hf.sp hq
  replace hy := hy.fr hq (by simp[blks]<;>omega)
  replace hb2 := hb2.fr hq (by simp[blks]<;>omega)
  replace hC := hC.sp hq
  clear hb4 hq hz; have hb4 := hbn; clear hbn
  refine hd_next hC ?_
  refine hd_fieldAddr 15 hC h wn rfl fa91_4 rfl ?_; clear h a; intro a h
  refine hd_one 16 rfl ?_
  refine st_storeB h rfl rfl hb4 rfl rfl rfl sz4 ?_; clear h a; intro w10 hbn hq hz a h
  replace hf := hf.sp hq
  replace hy := hy.fr hq (by simp[blks]<;>omega)
  replace hb2 := hb2.fr hq (by simp[blks]<;>omega)
  replace hC := hC.sp hq
  clear hb4 hq hz; have hb4 := hbn; clear hbn
  refine hd_next hC ?_
  refine hd_end ?_
  clear hC hy_b hb2_b hb4_b
  replace h : Ag a 65 [(0, _), (2, _), (4, _), (7, _)] := h.sub (.c4 rfl rfl rfl rfl)
  refine (norm_then ?_)
  refine tC h (kR (mv rfl (s_ss_l (p := 3) rfl rfl Tryz.underlying9 rfl rfl (asg rfl (kL [(0, _), (2, _), (4, _), (7, _)] (.c4 rfl rfl rfl rfl) (kE (kQ (kQ (kR (mv rfl (ln rfl Tryz.underlying9 (eq' rfl rfl (kL [(0, _), (2, _), (4, _), (7, _), (54, _)] (.c5 rfl rfl rfl rfl rfl) (kE ?_)))))))))))))); clear h a; intro a h
  refine cS h rfl (fun c4=>?_) (fun c4=>?_)
  ·refine tC h (kR (mv rfl ?_)); clear h a; intro a h
   refine st_index (p := 0) h rfl rfl Tryz.underlying9 ?_ (hp := rfl); clear h a; intro hy56 a h
   refine tW h (s_sub rfl rfl (by first | exact IntWalk.u8_in _ (by omega) | rfl) (fad rfl fa91_1 ?_)); clear h a; intro a h
   refine st_storeB h rfl rfl hb4 rfl rfl rfl sz5 ?_; clear h a; intro w11 hbn hq hz a h
   replace hf := hf.sp hq
   replace hy := hy.fr hq (by simp[blks]<;>omega)
   replace hb2 := hb2.fr hq (by simp[blks]<;>omega)
   clear hb4 hq hz; have hb4 := hbn; clear hbn
   refine tW h (kL [(0, _), (2, _), (4, _)] (.c3 rfl rfl rfl) (kE (kQ (kQ (kR (s_loadBA rfl hb4 ag91 ?_)))))); clear h a; intro a h
   refine st_call h (evs_cons rfl evs_nil) co131 (text_ok ⟨_, _, _, _, _⟩ _ hy) ?_; clear h a; rintro _ w12 ⟨rfl, hq⟩ a h
   replace hf := hf.next hq
   replace hy := hy.ext hq
   replace hb2 := hb2.ext hq
   replace hb4 := hb4.ext hq
   clear hq
   refine tW h (mv rfl (s_nes rfl rfl (kL [(2, _), (4, _), (62, _)] (.c3 rfl rfl rfl) (kE ?_)))); clear h a; intro a h
   refine cS h rfl (fun c5=>?_) (fun c5=>?_)
   ·refine tC h (kQ (kR (s_lit (cs := [_, _, _, _, _]) evs_nil bo91 pok_nil rfl ?_))); clear h a; intro a h
    refine st_storeBA h rfl rfl hb2 rfl sz91 ?_; clear h a; intro w13 hbn hq hz a h
    replace hf := hf.sp hq
    replace hy := hy.fr hq (by simp[blks]<;>omega)
    replace hb4 := hb4.fr hq (by simp[blks]<;>omega)
    clear hb2 hq hz; have hb2 := hbn; clear hbn
    refine tW h (asg rfl (kL [(2, _), (3, _)] (.c2 rfl rfl) (kE ?_))); clear h a; intro a h
    refine wp_ret (ret_then (retCT h Tryz.results149 rfl hb2 ag91 rfl ?_))
    exact ⟨_, rfl, by first | (rw [parse_bad (guess_ca c3.1 c3.2 (by omega)) c5]; rfl) | (rw [parse_bad (guess_cb c3.1 c3.2 (by omega)) c5]; rfl) | (rw [parse_bad (guess_na c3 (by omega)) c5]; rfl) | (rw [parse_bad (guess_nb c3 (by omega)) c5]; rfl) | (rw [parse_good c0 (guess_ca c3.1 c3.2 (by omega)) c5]; rfl) | (rw [parse_good c0 (guess_cb c3.1 c3.2 (by omega)) c5]; rfl) | (rw [parse_good c0 (guess_na c3 (by omega)) c5]; rfl) | (rw [parse_good c0 (guess_nb c3 (by omega)) c5]; rfl), hf⟩
   refine tC h (kZ (kQ (kR (s_loadBA rfl hb4 ag91 ?_)))); clear h a; intro a h
   refine st_storeBA h rfl rfl hb2 rfl sz91 ?_; clear h a; intro w14 hbn hq hz a h
   replace hf := hf.sp hq
   replace hy := hy.fr hq (by simp[blks]<;>omega)
   replace hb4 := hb4.fr hq (by simp[blks]<;>omega)
   clear hb2 hq hz; have hb2 := hbn; clear hbn
   refine tW h (asg rfl (kL [(2, _), (3, _)] (.c2 rfl rfl) (kE ?_))); clear h a; intro a h
   refine wp_ret (retCT h Tryz.results149 rfl hb2 ag91 rfl ?_)
   exact ⟨_, rfl, by first | (rw [parse_bad (guess_ca c3.1 c3.2 (by omega)) c5]; rfl) | (rw [parse_bad (guess_cb c3.1 c3.2 (by omega)) c5]; rfl) | (rw [parse_bad (guess_na c3 (by omega)) c5]; rfl) | (rw [parse_bad (guess_nb c3 (by omega)) c5]; rfl) | (rw [parse_good c0 (guess_ca c3.1 c3.2 (by omega)) c5]; rfl) | (rw [parse_good c0 (guess_cb c3.1 c3.2 (by omega)) c5]; rfl) | (rw [parse_good c0 (guess_na c3 (by omega)) c5]; rfl) | (rw [parse_good c0 (guess_nb c3 (by omega)) c5]; rfl), hf⟩
  refine tC h (kZ (kQ (kQ (kR (s_loadBA rfl hb4 ag91 ?_))))); clear h a; intro a h
  refine st_call h (evs_cons rfl evs_nil) co131 (text_ok ⟨_, _, _, _, _⟩ _ hy) ?_; clear h a; rintro _ w15 ⟨rfl, hq⟩ a h
  replace hf := hf.next hq
  replace hy := hy.ext hq
  replace hb2 := hb2.ext hq
  replace hb4 := hb4.ext hq
  clear hq
  refine tW h (mv rfl (s_nes rfl rfl (kL [(2, _), (4, _), (62, _)] (.c3 rfl rfl rfl) (kE ?_)))); clear h a; intro a h
  refine cS h rfl (fun c5=>?_) (fun c5=>?_)
  ·refine tC h (kQ (kR (s_lit (cs := [_, _, _, _, _]) evs_nil bo91 pok_nil rfl ?_))); clear h a; intro a h
   refine st_storeBA h rfl rfl hb2 rfl sz91 ?_; clear h a; intro w16 hbn hq hz a h
   replace hf := hf.sp hq
   replace hy := hy.fr hq (by simp[blks]<;>omega)
   replace hb4 := hb4.fr hq (by simp[blks]<;>omega)
   clear hb2 hq hz; have hb2 := hbn; clear hbn
   refine tW h (asg rfl (kL [(2, _), (3, _)] (.c2 rfl rfl) (kE ?_))); clear h a; intro a h
   refine wp_ret (ret_then (retCT h Tryz.results149 rfl hb2 ag91 rfl ?_))
   exact ⟨_, rfl, by first | (rw [parse_bad (guess_ca c3.1 c3.2 (by omega)) c5]; rfl) | (rw [parse_bad (guess_cb c3.1 c3.2 (by omega)) c5]; rfl) | (rw [parse_bad (guess_na c3 (by omega)) c5]; rfl) | (rw [parse_bad (guess_nb c3 (by omega)) c5]; rfl) | (rw [parse_good c0 (guess_ca c3.1 c3.2 (by omega)) c5]; rfl) | (rw [parse_good c0 (guess_cb c3.1 c3.2 (by omega)) c5]; rfl) | (rw [parse_good c0 (guess_na c3 (by omega)) c5]; rfl) | (rw [parse_good c0 (guess_nb c3 (by omega)) c5]; rfl), hf⟩
  refine tC h (kZ (kQ (kR (s_loadBA rfl hb4 ag91 ?_)))); clear h a; intro a h
  refine st_storeBA h rfl rfl hb2 rfl sz91 ?_; clear h a; intro w17 hbn hq hz a h
  replace hf := hf.sp hq
  replace hy := hy.fr hq (by simp[blks]<;>omega)
  replace hb4 := hb4.fr hq (by simp[blks]<;>omega)
  clear hb2 hq hz; have hb2 := hbn; clear hbn
  refine tW h (asg rfl (kL [(2, _), (3, _)] (.c2 rfl rfl) (kE ?_))); clear h a; intro a h
  refine wp_ret (retCT h Tryz.results149 rfl hb2 ag91 rfl ?_)
  exact ⟨_, rfl, by first | (rw [parse_bad (guess_ca c3.1 c3.2 (by omega)) c5]; rfl) | (rw [parse_bad (guess_cb c3.1 c3.2 (by omega)) c5]; rfl) | (rw [parse_bad (guess_na c3 (by omega)) c5]; rfl) | (rw [parse_bad (guess_nb c3 (by omega)) c5]; rfl) | (rw [parse_good c0 (guess_ca c3.1 c3.2 (by omega)) c5]; rfl) | (rw [parse_good c0 (guess_cb c3.1 c3.2 (by omega)) c5]; rfl) | (rw [parse_good c0 (guess_na c3 (by omega)) c5]; rfl) | (rw [parse_good c0 (guess_nb c3 (by omega)) c5]; rfl), hf⟩
 refine tC h (kZ (kQ (kQ (kR (mv rfl (ln rfl Tryz.underlying9 (eq' rfl rfl (kL [(0, _), (2, _), (4, _), (7, _), (54, _)] (.c5 rfl rfl rfl rfl rfl) (kE ?_))))))))); clear h a; intro a h
 refine cS h rfl (fun c4=>?_) (fun c4=>?_)
 ·refine tC h (kR (mv rfl ?_)); clear h a; intro a h
  refine st_index (p := 0) h rfl rfl Tryz.underlying9 ?_ (hp := rfl); clear h a; intro hy56 a h
  refine tW h (s_sub rfl rfl (by first | exact IntWalk.u8_in _ (by omega) | rfl) (fad rfl fa91_1 ?_)); clear h a; intro a h
  refine st_storeB h rfl rfl hb4 rfl rfl rfl sz5 ?_; clear h a; intro w18 hbn hq hz a h
  replace hf := hf.sp hq
  replace hy := hy.fr hq (by simp[blks]<;>omega)
  replace hb2 := hb2.fr hq (by simp[blks]<;>omega)
  clear hb4 hq hz; have hb4 := hbn; clear hbn
  refine tW h (kL [(0, _), (2, _), (4, _)] (.c3 rfl rfl rfl) (kE (kQ (kQ (kR (s_loadBA rfl hb4 ag91 ?_)))))); clear h a; intro a h
  refine st_call h (evs_cons rfl evs_nil) co131 (text_ok ⟨_, _, _, _, _⟩ _ hy) ?_; clear h a; rintro _ w19 ⟨rfl, hq⟩ a h
  replace hf := hf.next hq
  replace hy := hy.ext hq
  replace hb2 := hb2.ext hq
  replace hb4 := hb4.ext hq
  clear hq
  refine tW h (mv rfl (s_nes rfl rfl (kL [(2, _), (4, _), (62, _)] (.c3 rfl rfl rfl) (kE ?_)))); clear h a; intro a h
  refine cS h rfl (fun c5=>?_) (fun c5=>?_)
  ·refine tC h (kQ (kR (s_lit (cs := [_, _, _, _, _]) evs_nil bo91 pok_nil rfl ?_))); clear h a; intro a h
   refine st_storeBA h rfl rfl hb2 rfl sz91 ?_; clear h a; intro w20 hbn hq hz a h
   replace hf := hf.sp hq
   replace hy := hy.fr hq (by simp[blks]<;>omega)
   replace hb4 := hb4.fr hq (by simp[blks]<;>omega)
   clear hb2 hq hz; have hb2 := hbn; clear hbn
   refine tW h (asg rfl (kL [(2, _), (3, _)] (.c2 rfl rfl) (kE ?_))); clear h a; intro a h
   refine wp_ret (ret_then (retCT h Tryz.results149 rfl hb2 ag91 rfl ?_))
   exact ⟨_, rfl, by first | (rw [parse_bad (guess_ca c3.1 c3.2 (by omega)) c5]; rfl) | (rw [parse_bad (guess_cb c3.1 c3.2 (by omega)) c5]; rfl) | (rw [parse_bad (guess_na c3 (by omega)) c5]; rfl) | (rw [parse_bad (guess_nb c3 (by omega)) c5]; rfl) | (rw [parse_good c0 (guess_ca c3.1 c3.2 (by omega)) c5]; rfl) | (rw [parse_good c0 (guess_cb c3.1 c3.2 (by omega)) c5]; rfl) | (rw [parse_good c0 (guess_na c3 (by omega)) c5]; rfl) | (rw [parse_good c0 (guess_nb c3 (by omega)) c5]; rfl), hf⟩
  refine tC h (kZ (kQ (kR (s_loadBA rfl hb4 ag91 ?_)))); clear h a; intro a h
  refine st_storeBA h rfl rfl hb2 rfl sz91 ?_; clear h a; intro w21 hbn hq hz a h
  replace hf := hf.sp hq
  replace hy := hy.fr hq (by simp[blks]<;>omega)
  replace hb4 := hb4.fr hq (by simp[blks]<;>omega)
  clear hb2 hq hz; have hb2 := hbn; clear hbn
  refine tW h (asg rfl (kL [(2, _), (3, _)] (.c2 rfl rfl) (kE ?_))); clear h a; intro a h
  refine wp_ret (retCT h Tryz.results149 rfl hb2 ag91 rfl ?_)
  exact ⟨_, rfl, by first | (rw [parse_bad (guess_ca c3.1 c3.2 (by omega)) c5]; rfl) | (rw [parse_bad (guess_cb c3.1 c3.2 (by omega)) c5]; rfl) | (rw [parse_bad (guess_na c3 (by omega)) c5]; rfl) | (rw [parse_bad (guess_nb c3 (by omega)) c5]; rfl) | (rw [parse_good c0 (guess_ca c3.1 c3.2 (by omega)) c5]; rfl) | (rw [parse_good c0 (guess_cb c3.1 c3.2 (by omega)) c5]; rfl) | (rw [parse_good c0 (guess_na c3 (by omega)) c5]; rfl) | (rw [parse_good c0 (guess_nb c3 (by omega)) c5]; rfl), hf⟩
 refine tC h (kZ (kQ (kQ (kR (s_loadBA rfl hb4 ag91 ?_))))); clear h a; intro a h
 refine st_call h (evs_cons rfl evs_nil) co131 (text_ok ⟨_, _, _, _, _⟩ _ hy) ?_; clear h a; rintro _ w22 ⟨rfl, hq⟩ a h
 replace hf := hf.next hq
 replace hy := hy.ext hq
 replace hb2 := hb2.ext hq
 replace hb4 := hb4.ext hq
 clear hq
 refine tW h (mv rfl (s_nes rfl rfl (kL [(2, _), (4, _), (62, _)] (.c3 rfl rfl rfl) (kE ?_)))); clear h a; intro a h
 refine cS h rfl (fun c5=>?_) (fun c5=>?_)
 ·refine tC h (kQ (kR (s_lit (cs := [_, _, _, _, _]) evs_nil bo91 pok_nil rfl ?_))); clear h a; intro a h
  refine st_storeBA h rfl rfl hb2 rfl sz91 ?_; clear h a; intro w23 hbn hq hz a h
  replace hf := hf.sp hq
  replace hy := hy.fr hq (by simp[blks]<;>omega)
  replace hb4 := hb4.fr hq (by simp[blks]<;>omega)
  clear hb2 hq hz; have hb2 := hbn; clear hbn
  refine tW h (asg rfl (kL [(2, _), (3, _)] (.c2 rfl rfl) (kE ?_))); clear h a; intro a h
  refine wp_ret (ret_then (retCT h Tryz.results149 rfl hb2 ag91 rfl ?_))
  exact ⟨_, rfl, by first | (rw [parse_bad (guess_ca c3.1 c3.2 (by omega)) c5]; rfl) | (rw [parse_bad (guess_cb c3.1 c3.2 (by omega)) c5]; rfl) | (rw [parse_bad (guess_na c3 (by omega)) c5]; rfl) | (rw [parse_bad (guess_nb c3 (by omega)) c5]; rfl) | (rw [parse_good c0 (guess_ca c3.1 c3.2 (by omega)) c5]; rfl) | (rw [parse_good c0 (guess_cb c3.1 c3.2 (by omega)) c5]; rfl) | (rw [parse_good c0 (guess_na c3 (by omega)) c5]; rfl) | (rw [parse_good c0 (guess_nb c3 (by omega)) c5]; rfl), hf⟩
 refine tC h (kZ (kQ (kR (s_loadBA rfl hb4 ag91 ?_)))); clear h a; intro a h
 refine st_storeBA h rfl rfl hb2 rfl sz91 ?_; clear h a; intro w24 hbn hq hz a h
 replace hf := hf.sp hq
 replace hy := hy.fr hq (by simp[blks]<;>omega)
 replace hb4 := hb4.fr hq (by simp[blks]<;>omega)
 clear hb2 hq hz; have hb2 := hbn; clear hbn
 refine tW h (asg rfl (kL [(2, _), (3, _)] (.c2 rfl rfl) (kE ?_))); clear h a; intro a h
 refine wp_ret (retCT h Tryz.results149 rfl hb2 ag91 rfl ?_)
 exact ⟨_, rfl, by first | (rw [parse_bad (guess_ca c3.1 c3.2 (by omega)) c5]; rfl) | (rw [parse_bad (guess_cb c3.1 c3.2 (by omega)) c5]; rfl) | (rw [parse_bad (guess_na c3 (by omega)) c5]; rfl) | (rw [parse_bad (guess_nb c3 (by omega)) c5]; rfl) | (rw [parse_good c0 (guess_ca c3.1 c3.2 (by omega)) c5]; rfl) | (rw [parse_good c0 (guess_cb c3.1 c3.2 (by omega)) c5]; rfl) | (rw [parse_good c0 (guess_na c3 (by omega)) c5]; rfl) | (rw [parse_good c0 (guess_nb c3 (by omega)) c5]; rfl), hf⟩
end Go.Proofs.YthehggmdcmpjeaaGreatDoor
namespace Go.Proofs.YthehggmdcmpjeaaGreatDoor
open Go.Lw Go.G14
theorem el88 : ElemOf Tryz.prog 88 91 encSt 32 := ElemOf.mk' (z := (.agg #[.int .u8 0, .int .u8 0, .int .i64 0, .int .i64 0, .bool false])) Tryz.underlying88 (by kernel_rfl) rfl
theorem less_ok (l m : List UInt8) (w0 : World) : Rets Tryz.prog 99 #[S l, S m] w0 fun v w' => v = .int .i64 (if lessP l m then 1 else 0) ∧ w0 = w' := by
 refine enter [(0, S l), (1, S m)] Tryz.func99 rfl Tryz.ntmps99 rfl (.c2 rfl rfl) ?_
 intro a h
 refine tC h (kQ (kR (asg rfl (kL [(0, _), (1, _)] (.c2 rfl rfl) (kE (kQ (kQ ?_))))))); clear h a; intro a h
 refine region_bool (r := 21) (L' := []) (lessP l m) h .nil ?_ ?_
 ·refine tW h (mv rfl (ln rfl Tryz.underlying9 (mv rfl (ln rfl Tryz.underlying9 (lt' rfl rfl (mv rfl ?_)))))); clear h a; intro a h
  refine gSp (D := 10) h rfl ?_ ?_
  ·clear h; intro g0 h
   refine tW h (kN rfl rfl (kN rfl rfl (kN rfl rfl (kN rfl rfl (kN rfl rfl (kN rfl rfl (kS rfl rfl (kS rfl rfl (kS rfl rfl (kN rfl rfl (pkt rfl rfl ?_))))))))))); clear h a; intro a h
   exact wpList_nil (bool_end h rfl (by first | exact bt (.inl (by omega)) | exact bf (by rintro (h | h) <;> omega) | exact bb ⟨fun e => .inr ⟨by omega, e⟩, by rintro (h | h); omega; exact h.2⟩) .nil)
  clear h; intro g0 h
  refine tW h (kY rfl (mv rfl (kY rfl (ln rfl Tryz.underlying9 (kY rfl (mv rfl (kY rfl (ln rfl Tryz.underlying9 (kY rfl (eq' rfl rfl (kY rfl (mv rfl ?_)))))))))))); clear h a; intro a h
  refine gSp (D := 16) h rfl ?_ ?_
  ·clear h; intro g1 h
   refine tW h (kY rfl (mv rfl (kY rfl (mv rfl (kY rfl (s_lts rfl rfl rfl (kY rfl (pkt rfl rfl (pkf rfl rfl ?_))))))))); clear h a; intro a h
   exact wpList_nil (bool_end h rfl (by first | exact bt (.inl (by omega)) | exact bf (by rintro (h | h) <;> omega) | exact bb ⟨fun e => .inr ⟨by omega, e⟩, by rintro (h | h); omega; exact h.2⟩) .nil)
  clear h; intro g1 h
  refine tW h (kN rfl rfl (kN rfl rfl (kN rfl rfl (kY rfl (pkf rfl rfl (pkf rfl rfl ?_)))))); clear h a; intro a h
  exact wpList_nil (bool_end h rfl (by first | exact bt (.inl (by omega)) | exact bf (by rintro (h | h) <;> omega) | exact bb ⟨fun e => .inr ⟨by omega, e⟩, by rintro (h | h); omega; exact h.2⟩) .nil)
 clear h a; intro a h
 refine (norm_then ?_)
 refine cS h rfl (fun c0=>?_) (fun c0=>?_)
 ·refine tC h (kQ (kR (asg rfl (kL [(4, _)] (.cons rfl .nil) (kE ?_))))); clear h a; intro a h
  refine wp_ret (ret_then (ret1 h Tryz.results99 rfl ?_))
  exact ⟨_, rfl, by first | rw [if_pos c0] | rw [if_neg c0], rfl⟩
 refine tC h (kZ (kQ (kR (asg rfl (kL [(4, _)] (.cons rfl .nil) (kE ?_)))))); clear h a; intro a h
 refine wp_ret (ret1 h Tryz.results99 rfl ?_)
 exact ⟨_, rfl, by first | rw [if_pos c0] | rw [if_neg c0], rfl⟩
theorem count_ok (l : List UInt8) (most : Int) (w0 : World) (hl : l.length ≤ 9223372036854775807) : Rets Tryz.prog 151 #[S l, .int .i64 most] w0 fun v w' => v = .tuple #[.int .i64 (countS l most).1, .int .i64 (countS l most).2] ∧ w0 = w' := by
 refine enter [(0, S l), (1, .int .i64 most)] Tryz.func151 rfl Tryz.ntmps151 rfl (.c2 rfl rfl) ?_
 intro a h
 refine tC h (kQ (kR (asg rfl (asg rfl (kL [(0, _), (1, _)] (.c2 rfl rfl) (kE (kQ (kR (asg rfl (asg rfl (kE (kQ (kB ?_))))))))))))); clear h a; intro a h
 refine loop (ι := Nat) (fun k => [(0, S l), (1, .int .i64 most), (6, .int .i64 (capS (l.take k))), (7, .int .i64 (k : Int))]) (fun k w' => k ≤ l.length ∧ (l.take k).all isDig = true ∧ w' = w0) (fun k => l.length - k) 0 (h.sub (.c4 rfl rfl rfl rfl)) ⟨by omega, rfl, rfl⟩ ?_
 clear h a
 rintro k w1 a h ⟨hk, ha, rfl⟩
 have hv := capS_rng _ ha
 refine tC h (kQ (kQ ?_)); clear h a; intro a h
 refine region_bool (r := 23) (L' := [(0, _), (1, _), (6, _), (7, _)]) (k < l.length ∧ 48 ≤ ((l.getD k 0).toNat : Int) ∧ ((l.getD k 0).toNat : Int) ≤ 57) h (.c4 rfl rfl rfl rfl) ?_ ?_
 ·refine tW h (mv rfl (mv rfl (ln rfl Tryz.underlying9 (lt' rfl rfl (mv rfl ?_))))); clear h a; intro a h
  refine gSp (D := 12) h rfl ?_ ?_
  ·clear h; intro g0 h
   refine tW h (kY rfl (mv rfl (kY rfl (mv rfl ?_)))); clear h a; intro a h
   refine gd_yes h rfl rfl rfl rfl rfl rfl ?_
   refine st_index (p := k) h rfl rfl Tryz.underlying9 ?_; clear h a; intro hy15 a h
   refine tW h (kY rfl (le' rfl rfl (pkt rfl rfl (mv rfl ?_)))); clear h a; intro a h
   refine gSp (D := 18) h rfl ?_ ?_
   ·clear h; intro g1 h
    refine tW h (kY rfl (mv rfl (kY rfl (mv rfl ?_)))); clear h a; intro a h
    refine gd_yes h rfl rfl rfl rfl rfl rfl ?_
    refine st_index (p := k) h rfl rfl Tryz.underlying9 ?_; clear h a; intro hy21 a h
    refine tW h (kY rfl (le' rfl rfl (pkt rfl rfl ?_))); clear h a; intro a h
    exact wpList_nil (bool_end h rfl (by first | exact bt (by omega) | exact bf (by omega) | exact bi (by omega) | exact bn (by omega)) (.c4 rfl rfl rfl rfl))
   clear h; intro g1 h
   refine tW h (kN rfl rfl (kN rfl rfl (kN rfl rfl (kN rfl rfl (pkf rfl rfl ?_))))); clear h a; intro a h
   exact wpList_nil (bool_end h rfl (by first | exact bt (by omega) | exact bf (by omega) | exact bi (by omega) | exact bn (by omega)) (.c4 rfl rfl rfl rfl))
  clear h; intro g0 h
  refine tW h (kN rfl rfl (kN rfl rfl (kN rfl rfl (kN rfl rfl (pkf rfl rfl (mv rfl (kN rfl rfl (kN rfl rfl (kN rfl rfl (kN rfl rfl (pkf rfl rfl ?_))))))))))); clear h a; intro a h
  exact wpList_nil (bool_end h rfl (by first | exact bt (by omega) | exact bf (by omega) | exact bi (by omega) | exact bn (by omega)) (.c4 rfl rfl rfl rfl))
 clear h a; intro a h
 refine (norm_then ?_)
 refine cS h rfl (fun c0=>?_) (fun c0=>?_)
 ·refine tC h (kZ (kB (kQ (kR (mv rfl (s_mul rfl rfl (by first | exact i6 (by omega) | rfl) (mv rfl (mv rfl ?_)))))))); clear h a; intro a h
  refine st_index (p := k) h rfl rfl Tryz.underlying9 ?_; clear h a; intro hy28 a h
  refine tW h (s_sub rfl rfl (by first | exact IntWalk.u8_in _ (by omega) | rfl) (s_conv rfl (by rw [Tryz.underlying5]; rfl) Tryz.underlying3 (by first | exact i6 (by omega) | rfl) (s_add rfl rfl (by first | exact i6 (by omega) | rfl) (s_min rfl rfl rfl (asg rfl (kL [(0, _), (1, _), (6, _), (7, _)] (.c4 rfl rfl rfl rfl) (kE (kR (mv rfl (s_add rfl rfl (by first | exact i6 (by omega) | rfl) (asg rfl (kL [(0, _), (1, _), (6, _), (7, _)] (.c4 rfl rfl rfl rfl) ?_)))))))))))); clear h a; intro a h
  refine wpList_nil (norm_blk (norm_then ?_))
  exact ⟨k + 1, h.sub (.c4 rfl rfl (by rw [take_snoc l k (by omega), capS_snoc, cstep]; rfl) rfl), ⟨by omega, by rw [take_snoc l k (by omega)]; exact all_snoc _ _ ha ((isDig_iff _).2 (by omega)), rfl⟩, by omega⟩
 have hw := takeWhile_eq l k hk ha c0
 refine wp_exit (exit_then (exit_then (exit_here (norm_then ?_))))
 refine tC h (kQ (kQ ?_)); clear h a; intro a h
 refine region_bool (r := 50) (L' := [(6, _), (7, _)]) (k = 0 ∨ ((l.getD 0 0).toNat : Int) = 48 ∨ capS (l.take k) < 2 ∨ most < capS (l.take k)) h (.c2 rfl rfl) ?_ ?_
 ·refine tW h (mv rfl (eq' rfl rfl (mv rfl ?_))); clear h a; intro a h
  refine gSp (D := 37) h rfl ?_ ?_
  ·clear h; intro g2 h
   refine tW h (kN rfl rfl (kN rfl rfl (kN rfl rfl (pkt rfl rfl (mv rfl (kN rfl rfl (kN rfl rfl (pkt rfl rfl (mv rfl (kN rfl rfl (kN rfl rfl (kN rfl rfl (pkt rfl rfl ?_))))))))))))); clear h a; intro a h
   exact wpList_nil (bool_end h rfl (by first | exact bt (by omega) | exact bf (by omega) | exact bi (by omega) | exact bn (by omega)) (.c2 rfl rfl))
  clear h; intro g2 h
  refine tW h (kY rfl (mv rfl ?_)); clear h a; intro a h
  refine gd_yes h rfl rfl rfl rfl rfl rfl ?_
  refine st_index (p := 0) h rfl rfl Tryz.underlying9 ?_ (hp := rfl); clear h a; intro hy39 a h
  refine tW h (kY rfl (eq' rfl rfl (pkf rfl rfl (mv rfl ?_)))); clear h a; intro a h
  refine gSp (D := 42) h rfl ?_ ?_
  ·clear h; intro g3 h
   refine tW h (kN rfl rfl (kN rfl rfl (pkt rfl rfl (mv rfl (kN rfl rfl (kN rfl rfl (kN rfl rfl (pkt rfl rfl ?_)))))))); clear h a; intro a h
   exact wpList_nil (bool_end h rfl (by first | exact bt (by omega) | exact bf (by omega) | exact bi (by omega) | exact bn (by omega)) (.c2 rfl rfl))
  clear h; intro g3 h
  refine tW h (kY rfl (mv rfl (kY rfl (lt' rfl rfl (pkf rfl rfl (mv rfl ?_)))))); clear h a; intro a h
  refine gSp (D := 46) h rfl ?_ ?_
  ·clear h; intro g4 h
   refine tW h (kN rfl rfl (kN rfl rfl (kN rfl rfl (pkt rfl rfl ?_)))); clear h a; intro a h
   exact wpList_nil (bool_end h rfl (by first | exact bt (by omega) | exact bf (by omega) | exact bi (by omega) | exact bn (by omega)) (.c2 rfl rfl))
  clear h; intro g4 h
  refine tW h (kY rfl (mv rfl (kY rfl (mv rfl (kY rfl (gt' rfl rfl (pkf rfl rfl ?_))))))); clear h a; intro a h
  exact wpList_nil (bool_end h rfl (by first | exact bt (by omega) | exact bf (by omega) | exact bi (by omega) | exact bn (by omega)) (.c2 rfl rfl))
 clear h a; intro a h
 refine (norm_then ?_)
 refine cS h rfl (fun c1=>?_) (fun c1=>?_)
 ·refine tC h (kQ (kR (asg rfl (asg rfl (kL [(4, _), (5, _)] (.c2 rfl rfl) (kE ?_)))))); clear h a; intro a h
  refine wp_ret (ret_then (ret2 h Tryz.results151 rfl rfl ?_))
  exact ⟨_, rfl, by first | rw [count_bad hw hk c1] | rw [count_good hw hk c1], rfl⟩
 refine tC h (kZ (kQ (kR (mv rfl (mv rfl (asg rfl (asg rfl (kL [(4, _), (5, _)] (.c2 rfl rfl) (kE ?_))))))))); clear h a; intro a h
 refine wp_ret (ret2 h Tryz.results151 rfl rfl ?_)
 exact ⟨_, rfl, by first | rw [count_bad hw hk c1] | rw [count_good hw hk c1], rfl⟩
theorem better_ok (l m : List UInt8) (w0 : World) : Rets Tryz.prog 133 #[S l, S m] w0 fun v w' => v = S (betterS l m) ∧ w0 = w' := by
 refine enter [(0, S l), (1, S m)] Tryz.func133 rfl Tryz.ntmps133 rfl (.c2 rfl rfl) ?_
 intro a h
 refine tC h (kQ (kR (asg rfl (kL [(0, _), (1, _)] (.c2 rfl rfl) (kE (kQ (kQ ?_))))))); clear h a; intro a h
 refine region_bool (r := 29) (L' := [(0, _), (1, _)]) (l = [] ∨ (m ≠ [] ∧ lessP m l)) h (.c2 rfl rfl) ?_ ?_
 ·refine tW h (mv rfl (s_eqs rfl rfl (mv rfl ?_))); clear h a; intro a h
  refine gSp (D := 7) h rfl ?_ ?_
  ·clear h; intro g0 h
   refine tW h (kN rfl rfl (kN rfl rfl (kN rfl rfl (kS rfl rfl (kS rfl rfl (kS rfl rfl (kS rfl rfl (kS rfl rfl (kS rfl rfl (kS rfl rfl (kS rfl rfl (kS rfl rfl (kS rfl rfl (kS rfl rfl (kS rfl rfl (kS rfl rfl (kS rfl rfl (kS rfl rfl (kS rfl rfl (kS rfl rfl (kN rfl rfl (pkt rfl rfl ?_)))))))))))))))))))))); clear h a; intro a h
   exact wpList_nil (bool_end h rfl (by first | exact bt (Or.inl ‹l = []›) | exact bf (by rintro (h | ⟨h, _⟩); exact absurd h ‹¬ l = []›; exact absurd h ‹¬ m ≠ []›) | exact bt (.inr ⟨‹m ≠ []›, .inl (by omega)⟩) | exact bf (by rintro (h | ⟨_, h | h⟩); exact absurd h ‹¬ l = []›; omega; omega) | exact bb ⟨fun e => .inr ⟨‹m ≠ []›, .inr ⟨by omega, e⟩⟩, by rintro (h | ⟨_, h | h⟩); exact absurd h ‹¬ l = []›; omega; exact h.2⟩) (.c2 rfl rfl))
  clear h; intro g0 h
  refine tW h (kY rfl (mv rfl (kY rfl (s_nes rfl rfl (kY rfl (mv rfl ?_)))))); clear h a; intro a h
  refine gSp (D := 10) h rfl ?_ ?_
  ·clear h; intro g1 h
   refine tW h (kY rfl (mv rfl (kY rfl (ln rfl Tryz.underlying9 (kY rfl (mv rfl (kY rfl (ln rfl Tryz.underlying9 (kY rfl (lt' rfl rfl (kY rfl (mv rfl ?_)))))))))))); clear h a; intro a h
   refine gSp (D := 16) h rfl ?_ ?_
   ·clear h; intro g2 h
    refine tW h (kN rfl rfl (kN rfl rfl (kN rfl rfl (kN rfl rfl (kN rfl rfl (kN rfl rfl (kS rfl rfl (kS rfl rfl (kS rfl rfl (kN rfl rfl (kY rfl (pkt rfl rfl (kY rfl (pkt rfl rfl (pkf rfl rfl ?_))))))))))))))); clear h a; intro a h
    exact wpList_nil (bool_end h rfl (by first | exact bt (Or.inl ‹l = []›) | exact bf (by rintro (h | ⟨h, _⟩); exact absurd h ‹¬ l = []›; exact absurd h ‹¬ m ≠ []›) | exact bt (.inr ⟨‹m ≠ []›, .inl (by omega)⟩) | exact bf (by rintro (h | ⟨_, h | h⟩); exact absurd h ‹¬ l = []›; omega; omega) | exact bb ⟨fun e => .inr ⟨‹m ≠ []›, .inr ⟨by omega, e⟩⟩, by rintro (h | ⟨_, h | h⟩); exact absurd h ‹¬ l = []›; omega; exact h.2⟩) (.c2 rfl rfl))
   clear h; intro g2 h
   refine tW h (kY rfl (mv rfl (kY rfl (ln rfl Tryz.underlying9 (kY rfl (mv rfl (kY rfl (ln rfl Tryz.underlying9 (kY rfl (eq' rfl rfl (kY rfl (mv rfl ?_)))))))))))); clear h a; intro a h
   refine gSp (D := 22) h rfl ?_ ?_
   ·clear h; intro g3 h
    refine tW h (kY rfl (mv rfl (kY rfl (mv rfl (kY rfl (s_lts rfl rfl rfl (kY rfl (pkt rfl rfl (kY rfl (pkf rfl rfl (kY rfl (pkt rfl rfl (pkf rfl rfl ?_))))))))))))); clear h a; intro a h
    exact wpList_nil (bool_end h rfl (by first | exact bt (Or.inl ‹l = []›) | exact bf (by rintro (h | ⟨h, _⟩); exact absurd h ‹¬ l = []›; exact absurd h ‹¬ m ≠ []›) | exact bt (.inr ⟨‹m ≠ []›, .inl (by omega)⟩) | exact bf (by rintro (h | ⟨_, h | h⟩); exact absurd h ‹¬ l = []›; omega; omega) | exact bb ⟨fun e => .inr ⟨‹m ≠ []›, .inr ⟨by omega, e⟩⟩, by rintro (h | ⟨_, h | h⟩); exact absurd h ‹¬ l = []›; omega; exact h.2⟩) (.c2 rfl rfl))
   clear h; intro g3 h
   refine tW h (kN rfl rfl (kN rfl rfl (kN rfl rfl (kY rfl (pkf rfl rfl (kY rfl (pkf rfl rfl (kY rfl (pkt rfl rfl (pkf rfl rfl ?_)))))))))); clear h a; intro a h
   exact wpList_nil (bool_end h rfl (by first | exact bt (Or.inl ‹l = []›) | exact bf (by rintro (h | ⟨h, _⟩); exact absurd h ‹¬ l = []›; exact absurd h ‹¬ m ≠ []›) | exact bt (.inr ⟨‹m ≠ []›, .inl (by omega)⟩) | exact bf (by rintro (h | ⟨_, h | h⟩); exact absurd h ‹¬ l = []›; omega; omega) | exact bb ⟨fun e => .inr ⟨‹m ≠ []›, .inr ⟨by omega, e⟩⟩, by rintro (h | ⟨_, h | h⟩); exact absurd h ‹¬ l = []›; omega; exact h.2⟩) (.c2 rfl rfl))
  clear h; intro g1 h
  refine tW h (kN rfl rfl (kN rfl rfl (kN rfl rfl (kN rfl rfl (kN rfl rfl (kN rfl rfl (kS rfl rfl (kS rfl rfl (kS rfl rfl (kS rfl rfl (kS rfl rfl (kS rfl rfl (kS rfl rfl (kS rfl rfl (kS rfl rfl (kS rfl rfl (kN rfl rfl (kY rfl (pkf rfl rfl (pkf rfl rfl ?_)))))))))))))))))))); clear h a; intro a h
  exact wpList_nil (bool_end h rfl (by first | exact bt (Or.inl ‹l = []›) | exact bf (by rintro (h | ⟨h, _⟩); exact absurd h ‹¬ l = []›; exact absurd h ‹¬ m ≠ []›) | exact bt (.inr ⟨‹m ≠ []›, .inl (by omega)⟩) | exact bf (by rintro (h | ⟨_, h | h⟩); exact absurd h ‹¬ l = []›; omega; omega) | exact bb ⟨fun e => .inr ⟨‹m ≠ []›, .inr ⟨by omega, e⟩⟩, by rintro (h | ⟨_, h | h⟩); exact absurd h ‹¬ l = []›; omega; exact h.2⟩) (.c2 rfl rfl))
 clear h a; intro a h
 refine (norm_then ?_)
 refine cS h rfl (fun c0=>?_) (fun c0=>?_)
 ·refine tC h (kQ (kR (mv rfl (asg rfl (kL [(4, _)] (.cons rfl .nil) (kE ?_)))))); clear h a; intro a h
  refine wp_ret (ret_then (ret1 h Tryz.results133 rfl ?_))
  exact ⟨_, rfl, by first | rw [betterS, if_pos c0] | rw [betterS, if_neg c0], rfl⟩
 refine tC h (kZ (kQ (kR (mv rfl (asg rfl (kL [(4, _)] (.cons rfl .nil) (kE ?_))))))); clear h a; intro a h
 refine wp_ret (ret1 h Tryz.results133 rfl ?_)
 exact ⟨_, rfl, by first | rw [betterS, if_pos c0] | rw [betterS, if_neg c0], rfl⟩
theorem cut_ok (A : Option Addr) (m c : Nat) (w0 : World) (hc : m ≤ c) : Rets Tryz.prog 147 #[.slice A m c] w0 fun v w' => v = .slice A (min m 17) c ∧ w0 = w' := by
 refine enter [(0, .slice A m c)] Tryz.func147 rfl Tryz.ntmps147 rfl (.cons rfl .nil) ?_
 intro a h
 refine tC h (kQ (kR (asg rfl (kL [(0, _)] (.cons rfl .nil) (kE (kQ (kR (mv rfl (mv rfl (lnS rfl Tryz.underlying88 (s_min rfl rfl rfl (s_sl_h (p := min m 17) rfl rfl el88 (by omega) (by omega) (by omega) rfl (asg rfl (kL [(2, _)] (.cons rfl .nil) (kE ?_))))))))))))))); clear h a; intro a h
 refine wp_ret (ret1 h Tryz.results147 rfl ?_)
 exact ⟨_, rfl, rfl, rfl⟩
theorem clip_ok (A : Option Addr) (m c : Nat) (w0 : World) (hc : m ≤ c) : Rets Tryz.prog 126 #[.slice A m c] w0 fun v w' => v = .slice A m m ∧ w0 = w' := by
 refine enter [(0, .slice A m c)] Tryz.func126 rfl Tryz.ntmps126 rfl (.cons rfl .nil) ?_
 intro a h
 refine tC h (kQ (kR (asg rfl (kL [(0, _)] (.cons rfl .nil) (kE (kQ (kR (mv rfl (mv rfl (lnS rfl Tryz.underlying88 (mv rfl (lnS rfl Tryz.underlying88 (s_sl_hm rfl rfl rfl el88 rfl rfl rfl (asg rfl (kL [(2, _)] (.cons rfl .nil) (kE ?_)))))))))))))))); clear h a; intro a h
 refine wp_ret (ret1 h Tryz.results126 rfl ?_)
 exact ⟨_, rfl, rfl, rfl⟩
end Go.Proofs.YthehggmdcmpjeaaGreatDoor
namespace Go.Proofs.YthehggmdcmpjeaaGreatDoor
open Go.Lw Go.G14
theorem co72 : CallOf Tryz.prog 72 := mkC Tryz.func72
theorem co107 : CallOf Tryz.prog 107 := mkC Tryz.func107
theorem co127 : CallOf Tryz.prog 127 := mkC Tryz.func127
theorem co137 : CallOf Tryz.prog 137 := mkC Tryz.func137
theorem eqv36 : EqOf Tryz.prog 91 stV := by
 intro e f ox oy w
 have hg : ∀ op, (eqGuard op 91 ox oy (stV e) (stV f)).run Tryz.prog w = .ok () w := fun op => run_eqGuard_agg w op 91 ox oy _ _ (by kernel_rfl)
 have h1 : Tryz.prog.stoodInHeld 91 = false := by kernel_rfl
 obtain ⟨k, y, a, b, c⟩ := e
 obtain ⟨k', y', a', b', c'⟩ := f
 refine ⟨hg _, hg _, ?_, ?_⟩
 ·unfold stV
  simp [go_sem, h1, Tryz.underlying91]
  (repeat' split) <;> simp_all
 unfold stV
 simp [go_sem, h1, Tryz.underlying91]
 (repeat' split) <;> simp_all
theorem equal_ok (u v : Value) (xs ys : List Stitch) (w0 : World) (hu : Sl encSt w0 u xs) (hv : Sl encSt w0 v ys) : Rets Tryz.prog 159 #[u, v] w0 fun r w' => r = .bool (decide (xs = ys)) ∧ Fr [] w0 w' := by
 obtain ⟨A, c, rfl, hc, hM, hA⟩ := hu
 obtain ⟨B, d, rfl, hd, hN, hB⟩ := hv
 unfold maxLen at hM hN
 refine enter [(0, .slice A xs.length c), (1, .slice B ys.length d)] Tryz.func159 rfl Tryz.ntmps159 rfl (.c2 rfl rfl) ?_
 have hf := Fr.refl [] w0
 intro a h
 refine tC h (kQ (kR (asg rfl (kL [(0, _), (1, _)] (.c2 rfl rfl) (kE (kQ (kQ (kR (mv rfl (lnS rfl Tryz.underlying88 (mv rfl (lnS rfl Tryz.underlying88 (ne' rfl rfl (kL [(0, _), (1, _), (10, _)] (.c3 rfl rfl rfl) (kE ?_))))))))))))))); clear h a; intro a h
 refine cS h rfl (fun c0=>?_) (fun c0=>?_)
 ·refine tC h (kQ (kR (asg rfl (kL [(4, _)] (.cons rfl .nil) (kE ?_))))); clear h a; intro a h
  refine wp_ret (ret_then (ret1 h Tryz.results159 rfl ?_))
  exact ⟨_, rfl, by first | (rw [decide_eq_false]; intro e; subst e; omega) | (rw [decide_eq_false]; intro e; subst e; rw [hxk] at hyk; cases hyk; exact c2 rfl) | rw [decide_eq_true ht], hf⟩
 refine tC h (kZ (kQ (kQ (kR (mv rfl (lnS rfl Tryz.underlying88 (mv rfl (kL [(0, _), (1, _), (12, _), (13, _)] (.c4 rfl rfl rfl rfl) (kE (kB ?_)))))))))); clear h a; intro a h
 refine loop (ι := Nat) (fun k => [(0, .slice A xs.length c), (1, .slice B ys.length d), (12, .int .i64 (xs.length : Int)), (13, .int .i64 (k : Int))]) (fun k w' => k ≤ xs.length ∧ xs.take k = ys.take k ∧ Fr [] w0 w') (fun k => xs.length - k) 0 (h.sub (.c4 rfl rfl rfl rfl)) ⟨by omega, by simp, hf⟩ ?_
 clear h a hf
 rintro k w1 a h ⟨hk, ht, hf⟩
 refine tC h (kQ (kR (lt' rfl rfl (kE (kQ ?_))))); clear h a; intro a h
 refine cS h rfl (fun c1=>?_) (fun c1=>?_)
 ·obtain ⟨x, hxk⟩ : ∃ x, xs[k]? = some x := ⟨_, List.getElem?_eq_getElem (by omega)⟩
  obtain ⟨y, hyk⟩ : ∃ y, ys[k]? = some y := ⟨_, List.getElem?_eq_getElem (by omega)⟩
  obtain ⟨ad, rfl, ca⟩ := hA k x hxk
  obtain ⟨bd, rfl, cb⟩ := hB k y hyk
  refine tC h (kZ (kQ (kB (kQ (kR (mv rfl (asg rfl (kL [(0, _), (1, _), (5, _), (12, _), (13, _)] (.c5 rfl rfl rfl rfl rfl) (kE (kQ ?_)))))))))); clear h a; intro a h
  refine region_quiet hmix (by kernel_rfl) ?_
  refine qt_move h rfl rfl ?_; clear h a; intro a h
  refine qt_move h rfl rfl ?_; clear h a; intro a h
  refine qt_idx h rfl rfl rfl el88 (by omega) (by omega) rfl ?_; clear h a; intro a h
  refine qt_loadA h rfl (fun _ hw => (ca.fr hf (by simp)).fr hw (by simp)) ag91 rfl ?_; clear h a; intro a h
  refine qt_move h rfl rfl ?_; clear h a; intro a h
  refine qt_move h rfl rfl ?_; clear h a; intro a h
  refine qt_idx h rfl rfl rfl el88 (by omega) (by omega) rfl ?_; clear h a; intro a h
  refine qt_loadA h rfl (fun _ hw => (cb.fr hf (by simp)).fr hw (by simp)) ag91 rfl ?_; clear h a; intro a h
  refine qt_neV (e := x) (f := y) h rfl rfl eqv36 rfl ?_; clear h a; intro a h
  refine wpQuiet_nil ?_
  intro w2 hq
  replace hf := hf.next hq
  clear hq
  replace h : Ag a 26 [(0, _), (1, _), (12, _), (13, _), (24, _)] := h.sub (.c5 rfl rfl rfl rfl rfl)
  refine (norm_then ?_)
  refine cS h rfl (fun c2=>?_) (fun c2=>?_)
  ·refine tC h (kQ (kR (asg rfl (kL [(4, _)] (.cons rfl .nil) (kE ?_))))); clear h a; intro a h
   refine wp_ret (ret_blk (ret_then (ret_then (ret_blk (ret_then ?_)))))
   refine ret1 h Tryz.results159 rfl ?_
   exact ⟨_, rfl, by first | (rw [decide_eq_false]; intro e; subst e; omega) | (rw [decide_eq_false]; intro e; subst e; rw [hxk] at hyk; cases hyk; exact c2 rfl) | rw [decide_eq_true ht], hf⟩
  refine wp_skip (norm_blk (norm_then ?_))
  refine tC h (kR (s_add rfl rfl (by first | exact i6 (by omega) | rfl) (mv rfl (kL [(0, _), (1, _), (12, _), (13, _)] (.c4 rfl rfl rfl rfl) ?_)))); clear h a; intro a h
  refine wnt ?_
  exact ⟨k + 1, h.sub (.c4 rfl rfl rfl rfl), ⟨by omega, by rw [List.take_add_one, List.take_add_one, ht, hxk, hyk, Decidable.not_not.1 c2], hf⟩, by omega⟩
 obtain rfl : k = xs.length := by omega
 rw [List.take_length, show xs.length = ys.length by omega, List.take_length] at ht
 refine wp_exit (exit_then (exit_then (exit_here (norm_then ?_))))
 refine tC h (kQ (kR (asg rfl (kL [(4, _)] (.cons rfl .nil) (kE ?_))))); clear h a; intro a h
 refine wp_ret (ret1 h Tryz.results159 rfl ?_)
 exact ⟨_, rfl, by first | (rw [decide_eq_false]; intro e; subst e; omega) | (rw [decide_eq_false]; intro e; subst e; rw [hxk] at hyk; cases hyk; exact c2 rfl) | rw [decide_eq_true ht], hf⟩
theorem pref0_ok (l m : List UInt8) (w0 : World) : Rets Tryz.prog 137 #[S l, S m] w0 fun v w' => v = .bool (decide (m <+: l)) ∧ w0 = w' := by
 refine enter [(0, S l), (1, S m)] Tryz.func137 rfl Tryz.ntmps137 rfl (.c2 rfl rfl) ?_
 intro a h
 refine tC h (kQ (kR (asg rfl (kL [(0, _), (1, _)] (.c2 rfl rfl) (kE (kQ (kR (mv rfl (ln rfl Tryz.underlying9 (mv rfl (ln rfl Tryz.underlying9 (ge' rfl rfl (mv rfl ?_))))))))))))); clear h a; intro a h
 refine gSp (D := 10) h rfl ?_ ?_
 ·clear h; intro g0 h
  refine tW h (kY rfl (mv rfl (kY rfl (mv rfl (kY rfl (ln rfl Tryz.underlying9 (kY rfl (s_ss_h (p := m.length) rfl rfl Tryz.underlying9 (by omega) rfl (kY rfl (mv rfl (kY rfl (s_eqs rfl rfl (pkt rfl rfl (asg rfl (kL [(4, _)] (.cons rfl .nil) (kE ?_)))))))))))))))); clear h a; intro a h
  refine wp_ret (ret1 h Tryz.results137 rfl ?_)
  exact ⟨_, rfl, by first | (congr 1; exact bi (by rw [List.prefix_iff_eq_take]; exact eq_comm)) | (congr 1; exact bf (fun e => by have := e.length_le; omega)), rfl⟩
 clear h; intro g0 h
 refine tW h (kN rfl rfl (kN rfl rfl (kN rfl rfl (kN rfl rfl (kN rfl rfl (kN rfl rfl (pkf rfl rfl (asg rfl (kL [(4, _)] (.cons rfl .nil) (kE ?_)))))))))); clear h a; intro a h
 refine wp_ret (ret1 h Tryz.results137 rfl ?_)
 exact ⟨_, rfl, by first | (congr 1; exact bi (by rw [List.prefix_iff_eq_take]; exact eq_comm)) | (congr 1; exact bf (fun e => by have := e.length_le; omega)), rfl⟩
theorem pref_ok (l m : List UInt8) (w0 : World) : Rets Tryz.prog 150 #[S l, S m] w0 fun v w' => v = .bool (decide (m <+: l)) ∧ w0 = w' := by
 refine enter [(0, S l), (1, S m)] Tryz.func150 rfl Tryz.ntmps150 rfl (.c2 rfl rfl) ?_
 intro a h
 refine tC h (kQ (kR (asg rfl (kL [(0, _), (1, _)] (.c2 rfl rfl) (kE (kQ (kR (mv rfl (mv rfl ?_))))))))); clear h a; intro a h
 refine st_call h (evs_cons rfl (evs_cons rfl evs_nil)) co137 (pref0_ok _ _ _) ?_; clear h a; rintro _ _ ⟨rfl, rfl⟩ a h
 refine tW h (asg rfl (kL [(4, _)] (.cons rfl .nil) (kE ?_))); clear h a; intro a h
 refine wp_ret (ret1 h Tryz.results150 rfl ?_)
 exact ⟨_, rfl, rfl, rfl⟩
theorem small_ok (n : Nat) (w0 : World) (hn : n < 100) : Rets Tryz.prog 127 #[.int .i64 (n : Int)] w0 fun v w' => v = S (itoaS n) ∧ w0 = w' := by
 refine enter [(0, .int .i64 (n : Int))] Tryz.func127 rfl Tryz.ntmps127 rfl (.cons rfl .nil) ?_
 intro a h
 refine tC h (kQ (kR (asg rfl (kL [(0, _)] (.cons rfl .nil) (kE (kQ (kQ (kR (mv rfl (lt' rfl rfl (kL [(0, _), (4, _)] (.c2 rfl rfl) (kE ?_)))))))))))); clear h a; intro a h
 refine cS h rfl (fun c0=>?_) (fun c0=>?_)
 ·refine tC h (kQ (kR (mv rfl (mv rfl (s_add rfl rfl (by first | exact i6 (by omega) | rfl) (s_ss_lh (p := n) (p' := n + 1) rfl rfl rfl Tryz.underlying9 (by omega) (by omega) (asg rfl (kL [(2, _)] (.cons rfl .nil) (kE ?_))) (h2 := (by simp; omega)))))))); clear h a; intro a h
  refine wp_ret (ret_then (ret1 h Tryz.results127 rfl ?_))
  refine ⟨_, rfl, ?_, rfl⟩
  clear h
  have e : n < 10 := by omega
  clear c0 hn; refine congrArg S ?_; revert n; decide +kernel
 refine tC h (kZ (kQ (kR (mv rfl (s_mul rfl rfl (by first | exact i6 (by omega) | rfl) (mv rfl (s_mul rfl rfl (by first | exact i6 (by omega) | rfl) (s_add rfl rfl (by first | exact i6 (by omega) | rfl) (s_ss_lh (p := 2 * n) (p' := 2 * n + 2) rfl rfl rfl Tryz.underlying9 (by omega) (by omega) (asg rfl (kL [(2, _)] (.cons rfl .nil) (kE ?_))) (h2 := (Int.le_trans (b := 200) (by omega) (by decide +kernel)))))))))))); clear h a; intro a h
 refine wp_ret (ret1 h Tryz.results127 rfl ?_)
 refine ⟨_, rfl, ?_, rfl⟩
 clear h
 have e : 10 ≤ n := by omega
 clear c0; refine congrArg S ?_; revert n; decide +kernel
theorem formatInt_ok (n : Nat) (w0 : World) (hn : n < 100) : Rets Tryz.prog 107 #[.int .i64 (n : Int), .int .i64 10] w0 fun v w' => v = S (itoaS n) ∧ w0 = w' := by
 refine enter [(0, .int .i64 (n : Int)), (1, .int .i64 10)] Tryz.func107 rfl Tryz.ntmps107 rfl (.c2 rfl rfl) ?_
 intro a h
 refine tC h (kQ (kR (asg rfl (kL [(0, _), (1, _)] (.c2 rfl rfl) (kE (kQ (kQ (kR (mv rfl (eq' rfl rfl (kL [(0, _), (1, _), (11, _)] (.c3 rfl rfl rfl) (kE ?_)))))))))))); clear h a; intro a h
 refine cS h rfl (fun c0=>?_) (fun c0=>?_)
 ·refine tC h (kQ (kQ ?_)); clear h a; intro a h
  refine region_bool (r := 17) (L' := [(0, _)]) (True) h (.cons rfl .nil) ?_ ?_
  ·refine tW h (mv rfl (le' rfl rfl (mv rfl ?_))); clear h a; intro a h
   refine gSp (D := 14) h rfl ?_ ?_
   ·clear h; intro g0 h
    refine tW h (kY rfl (mv rfl (kY rfl (lt' rfl rfl (pkt rfl rfl ?_))))); clear h a; intro a h
    exact wpList_nil (bool_end h rfl (by first | exact bi (iff_true_intro (by omega)) | (exfalso; omega)) (.cons rfl .nil))
   clear h; intro g0 h
   refine tW h (kN rfl rfl (kN rfl rfl (pkf rfl rfl ?_))); clear h a; intro a h
   exact wpList_nil (bool_end h rfl (by first | exact bi (iff_true_intro (by omega)) | (exfalso; omega)) (.cons rfl .nil))
  clear h a; intro a h
  refine (norm_then ?_)
  refine cS h rfl (fun c1=>?_) (fun c1=>?_)
  ·refine tC h (kQ (kR (mv rfl ?_))); clear h a; intro a h
   refine st_call h (evs_cons rfl evs_nil) co127 (small_ok _ _ (by omega)) ?_; clear h a; rintro _ _ ⟨rfl, rfl⟩ a h
   refine tW h (asg rfl (kL [(4, _)] (.cons rfl .nil) (kE ?_))); clear h a; intro a h
   refine wp_ret (ret_then (ret_then ?_))
   refine ret1 h Tryz.results107 rfl ?_
   exact ⟨_, rfl, rfl, rfl⟩
  exact absurd trivial c1
 exact absurd rfl c0
theorem itoa0_ok (n : Nat) (w0 : World) (hn : n < 100) : Rets Tryz.prog 72 #[.int .i64 (n : Int)] w0 fun v w' => v = S (itoaS n) ∧ w0 = w' := by
 refine enter [(0, .int .i64 (n : Int))] Tryz.func72 rfl Tryz.ntmps72 rfl (.cons rfl .nil) ?_
 intro a h
 refine tC h (kQ (kR (asg rfl (kL [(0, _)] (.cons rfl .nil) (kE (kQ (kR (mv rfl ?_)))))))); clear h a; intro a h
 refine st_call h (evs_cons rfl (evs_cons rfl evs_nil)) co107 (formatInt_ok _ _ (by omega)) ?_; clear h a; rintro _ _ ⟨rfl, rfl⟩ a h
 refine tW h (asg rfl (kL [(2, _)] (.cons rfl .nil) (kE ?_))); clear h a; intro a h
 refine wp_ret (ret1 h Tryz.results72 rfl ?_)
 exact ⟨_, rfl, rfl, rfl⟩
theorem itoa_ok (n : Nat) (w0 : World) (hn : n < 100) : Rets Tryz.prog 38 #[.int .i64 (n : Int)] w0 fun v w' => v = S (itoaS n) ∧ w0 = w' := by
 refine enter [(0, .int .i64 (n : Int))] Tryz.func38 rfl Tryz.ntmps38 rfl (.cons rfl .nil) ?_
 intro a h
 refine tC h (kQ (kR (asg rfl (kL [(0, _)] (.cons rfl .nil) (kE (kQ (kR (mv rfl ?_)))))))); clear h a; intro a h
 refine st_call h (evs_cons rfl evs_nil) co72 (itoa0_ok _ _ (by omega)) ?_; clear h a; rintro _ _ ⟨rfl, rfl⟩ a h
 refine tW h (asg rfl (kL [(2, _)] (.cons rfl .nil) (kE ?_))); clear h a; intro a h
 refine wp_ret (ret1 h Tryz.results38 rfl ?_)
 exact ⟨_, rfl, rfl, rfl⟩
end Go.Proofs.YthehggmdcmpjeaaGreatDoor
namespace Go.Proofs.YthehggmdcmpjeaaGreatDoor
open Go.Lw Go.G14
theorem co159 : CallOf Tryz.prog 159 := mkC Tryz.func159
theorem el40 : ElemOf Tryz.prog 40 88 Enc.sl 24 := ElemOf.mk' (z := (.slice none 0 0)) Tryz.underlying40 (by kernel_rfl) rfl
theorem fa42_0 : FieldAt Tryz.prog 42 0 0 := fun _ _ => by kernel_rfl
theorem na40 : NotAgg Tryz.prog 40 := fun _ => by kernel_rfl
theorem na88 : NotAgg Tryz.prog 88 := fun _ => by kernel_rfl
theorem ne_rows {xs ys : List (List Stitch)} {i k : Nat} {x y : List Stitch} {s t : Stitch} (hx : xs[i]? = some x) (hy : ys[i]? = some y) (hs : x[k]? = some s) (ht : y[k]? = some t) (h : s ≠ t) : xs ≠ ys := take_ne hx hy (take_ne hs ht h)
set_option maxHeartbeats 1000000 in
theorem differ2_ok (u v : Value) (xs ys : List (List Stitch)) (w0 : World) (hu : Sl2 w0 u xs) (hv : Sl2 w0 v ys) : Rets Tryz.prog 11 #[.agg #[u], .agg #[v]] w0 fun r w' => r = .int .i64 (if xs = ys then 0 else 1) ∧ Fr [] w0 w' := by
 obtain ⟨hs, hsl, hl, hr⟩ := hu
 obtain ⟨gs, gsl, gl, gr⟩ := hv
 obtain ⟨A, c, rfl, hc, hM, hA⟩ := hsl
 obtain ⟨B, d, rfl, hd, hN, hB⟩ := gsl
 unfold maxLen at hM hN
 refine enter [(0, .agg #[.slice A hs.length c]), (1, .agg #[.slice B gs.length d])] Tryz.func11 rfl Tryz.ntmps11 rfl (.c2 rfl rfl) ?_
 have hf := Fr.refl [] w0
 intro a h
 refine tC h (kQ (kR ?_)); clear h a; intro a h
 refine st_box h rfl rfl ?_; clear h a; intro w1 hb2 hq hz a h
 obtain ⟨g_2, hg⟩ : ∃ g, g = w0.heap.size := ⟨_, rfl⟩; rw [← hg] at hb2 h hz
 have hl2 : w0.heap.size ≤ g_2 := by have := hf.size; omega
 replace hf := hf.next hq
 clear hq hz hg
 refine st_box h rfl rfl ?_; clear h a; intro w2 hb3 hq hz a h
 obtain ⟨g_3, hg⟩ : ∃ g, g = w1.heap.size := ⟨_, rfl⟩; rw [← hg] at hb3 h hz
 have hl3 : w0.heap.size ≤ g_3 := by have := hf.size; omega
 have hn_2_3 : g_2 < g_3 := by have := hb2.lt; omega
 replace hf := hf.next hq
 replace hb2 := hb2.ext hq
 clear hq hz hg
 refine tW h (asg rfl (kL [(2, _), (3, _)] (.c2 rfl rfl) (kE (kQ (kQ (kR (fad rfl fa42_0 (s_loadB rfl hb2 rfl na40 (lnS rfl Tryz.underlying40 (fad rfl fa42_0 (s_loadB rfl hb3 rfl na40 (lnS rfl Tryz.underlying40 (ne' rfl rfl (kL [(2, _), (3, _), (13, _)] (.c3 rfl rfl rfl) (kE ?_))))))))))))))); clear h a; intro a h
 refine cS h rfl (fun c0=>?_) (fun c0=>?_)
 ·refine tC h (kQ (kR (asg rfl (kL [(4, _)] (.cons rfl .nil) (kE ?_))))); clear h a; intro a h
  refine wp_ret (ret_then (ret1 h Tryz.results11 rfl ?_))
  exact ⟨_, rfl, by rw [if_neg (by rintro rfl; omega)], hf⟩
 refine tC h (kZ (kQ (kQ (kR (asg rfl (kL [(2, _), (3, _), (5, _)] (.c3 rfl rfl rfl) (kE (kB ?_)))))))); clear h a; intro a h
 refine loop (ι := Nat) (fun i => [(2, .pointer (some ⟨g_2, 0, none⟩)), (3, .pointer (some ⟨g_3, 0, none⟩)), (5, .int .i64 (i : Int))]) (fun i w' => i ≤ hs.length ∧ xs.take i = ys.take i ∧ Blk w' g_2 42 [.slice A hs.length c] ∧ Blk w' g_3 42 [.slice B gs.length d] ∧ Fr [] w0 w') (fun i => hs.length - i) 0 (h.sub (.c3 rfl rfl rfl)) ⟨by omega, by simp, hb2, hb3, hf⟩ ?_
 clear h a hf hb2 hb3
 rintro i w3 a h ⟨hi, ht, hb2, hb3, hf⟩
 refine tC h (kQ (kQ (kR (mv rfl (fad rfl fa42_0 (s_loadB rfl hb2 rfl na40 (lnS rfl Tryz.underlying40 (lt' rfl rfl (kL [(2, _), (3, _), (5, _), (18, _)] (.c4 rfl rfl rfl rfl) (kE ?_)))))))))); clear h a; intro a h
 refine cS h rfl (fun c1=>?_) (fun c1=>?_)
 ·obtain ⟨p, hp⟩ : ∃ p, hs[i]? = some p := ⟨_, List.getElem?_eq_getElem (by omega)⟩
  obtain ⟨q, hq'⟩ : ∃ p, gs[i]? = some p := ⟨_, List.getElem?_eq_getElem (by omega)⟩
  obtain ⟨x, hx⟩ : ∃ x, xs[i]? = some x := ⟨_, List.getElem?_eq_getElem (by omega)⟩
  obtain ⟨y, hy⟩ : ∃ y, ys[i]? = some y := ⟨_, List.getElem?_eq_getElem (by omega)⟩
  obtain ⟨ad, rfl, ca⟩ := hA i p hp
  obtain ⟨bd, rfl, cb⟩ := hB i q hq'
  obtain ⟨pl, pc, pM, pA⟩ := Sl.open_ (hr i p x hp hx)
  obtain ⟨ql, qc, qM, qB⟩ := Sl.open_ (gr i q y hq' hy)
  unfold maxLen at pM qM
  refine tC h (kZ (kQ (kB (kQ (kQ ?_))))); clear h a; intro a h
  refine region_quiet hmix (by kernel_rfl) ?_
  refine qt_fieldAddr h rfl fa42_0 rfl ?_; clear h a; intro a h
  refine qt_loadB h rfl (fun _ hw => hb2.ext hw) rfl na40 rfl ?_; clear h a; intro a h
  refine qt_move h rfl rfl ?_; clear h a; intro a h
  refine qt_idxS h rfl rfl el40 (by omega) (by omega) rfl rfl ?_; clear h a; intro a h
  refine qt_loadC0 h rfl (fun _ hw => (ca.fr hf (by simp)).fr hw (by simp)) na88 rfl ?_; clear h a; intro a h
  refine qt_lenS h rfl Tryz.underlying88 rfl ?_; clear h a; intro a h
  refine qt_fieldAddr h rfl fa42_0 rfl ?_; clear h a; intro a h
  refine qt_loadB h rfl (fun _ hw => hb3.ext hw) rfl na40 rfl ?_; clear h a; intro a h
  refine qt_move h rfl rfl ?_; clear h a; intro a h
  refine qt_idxS h rfl rfl el40 (by omega) (by omega) rfl rfl ?_; clear h a; intro a h
  refine qt_loadC0 h rfl (fun _ hw => (cb.fr hf (by simp)).fr hw (by simp)) na88 rfl ?_; clear h a; intro a h
  refine qt_lenS h rfl Tryz.underlying88 rfl ?_; clear h a; intro a h
  refine qt_ne h rfl rfl rfl ?_; clear h a; intro a h
  refine wpQuiet_nil ?_
  intro w4 hq
  replace hf := hf.next hq
  replace hb2 := hb2.ext hq
  replace hb3 := hb3.ext hq
  clear hq
  replace h : Ag a 61 [(2, _), (3, _), (5, _), (33, _)] := h.sub (.c4 rfl rfl rfl rfl)
  refine (norm_then ?_)
  refine cS h rfl (fun c2=>?_) (fun c2=>?_)
  ·refine tC h (kQ (kR (asg rfl (kL [(4, _)] (.cons rfl .nil) (kE ?_))))); clear h a; intro a h
   refine wp_ret (ret_then (ret_blk (ret_then (ret_then (ret_blk (ret_then ?_))))))
   refine ret1 h Tryz.results11 rfl ?_
   exact ⟨_, rfl, by rw [if_neg (take_ne hx hy (by rintro rfl; omega))], hf⟩
  refine tC h (kZ (kQ (kR (asg rfl (kL [(2, _), (3, _), (5, _), (6, _)] (.c4 rfl rfl rfl rfl) (kE (kB ?_))))))); clear h a; intro a h
  refine loop (ι := Nat) (fun k => [(2, .pointer (some ⟨g_2, 0, none⟩)), (3, .pointer (some ⟨g_3, 0, none⟩)), (5, .int .i64 (i : Int)), (6, .int .i64 (k : Int))]) (fun k w' => k ≤ p.2.1 ∧ x.take k = y.take k ∧ Blk w' g_2 42 [.slice (some ad) hs.length c] ∧ Blk w' g_3 42 [.slice (some bd) gs.length d] ∧ Fr [] w0 w') (fun k => p.2.1 - k) 0 (h.sub (.c4 rfl rfl rfl rfl)) ⟨by omega, by simp, hb2, hb3, hf⟩ ?_
  clear h a hf hb2 hb3
  rintro k w5 a h ⟨hk, hkt, hb2, hb3, hf⟩
  refine tC h (kQ (kQ (kR (mv rfl (fad rfl fa42_0 (s_loadB rfl hb2 rfl na40 (mv rfl (s_idxS rfl rfl el40 (s_loadC0 rfl (ca.fr hf (by simp)) na88 (lnS rfl Tryz.underlying88 (lt' rfl rfl (kL [(2, _), (3, _), (5, _), (6, _), (41, _)] (.c5 rfl rfl rfl rfl rfl) (kE ?_))))) (hp := rfl))))))))); clear h a; intro a h
  refine cS h rfl (fun c3=>?_) (fun c3=>?_)
  ·obtain ⟨s, hs'⟩ : ∃ s, x[k]? = some s := ⟨_, List.getElem?_eq_getElem (by omega)⟩
   obtain ⟨t, ht'⟩ : ∃ t, y[k]? = some t := ⟨_, List.getElem?_eq_getElem (by omega)⟩
   obtain ⟨pa, hpa, cs⟩ := pA k s hs'
   obtain ⟨qa, hqa, ct⟩ := qB k t ht'
   refine tC h (kZ (kQ (kB (kQ ?_)))); clear h a; intro a h
   refine region_quiet hmix (by kernel_rfl) ?_
   refine qt_fieldAddr h rfl fa42_0 rfl ?_; clear h a; intro a h
   refine qt_loadB h rfl (fun _ hw => hb2.ext hw) rfl na40 rfl ?_; clear h a; intro a h
   refine qt_move h rfl rfl ?_; clear h a; intro a h
   refine qt_idxS h rfl rfl el40 (by omega) (by omega) rfl rfl ?_; clear h a; intro a h
   refine qt_loadC0 h rfl (fun _ hw => (ca.fr hf (by simp)).fr hw (by simp)) na88 rfl ?_; clear h a; intro a h
   refine qt_move h rfl rfl ?_; clear h a; intro a h
   refine qt_idx h rfl rfl hpa el88 (by omega) (by omega) rfl ?_; clear h a; intro a h
   refine qt_loadA h rfl (fun _ hw => (cs.fr hf (by simp)).fr hw (by simp)) ag91 rfl ?_; clear h a; intro a h
   refine qt_fieldAddr h rfl fa42_0 rfl ?_; clear h a; intro a h
   refine qt_loadB h rfl (fun _ hw => hb3.ext hw) rfl na40 rfl ?_; clear h a; intro a h
   refine qt_move h rfl rfl ?_; clear h a; intro a h
   refine qt_idxS h rfl rfl el40 (by omega) (by omega) rfl rfl ?_; clear h a; intro a h
   refine qt_loadC0 h rfl (fun _ hw => (cb.fr hf (by simp)).fr hw (by simp)) na88 rfl ?_; clear h a; intro a h
   refine qt_move h rfl rfl ?_; clear h a; intro a h
   refine qt_idx h rfl rfl hqa el88 (by omega) (by omega) rfl ?_; clear h a; intro a h
   refine qt_loadA h rfl (fun _ hw => (ct.fr hf (by simp)).fr hw (by simp)) ag91 rfl ?_; clear h a; intro a h
   refine qt_neV (e := s) (f := t) h rfl rfl eqv36 rfl ?_; clear h a; intro a h
   refine wpQuiet_nil ?_
   intro w6 hq
   replace hf := hf.next hq
   replace hb2 := hb2.ext hq
   replace hb3 := hb3.ext hq
   clear hq
   replace h : Ag a 61 [(2, _), (3, _), (5, _), (6, _), (60, _)] := h.sub (.c5 rfl rfl rfl rfl rfl)
   refine (norm_then ?_)
   refine cS h rfl (fun c4=>?_) (fun c4=>?_)
   ·refine tC h (kQ (kR (asg rfl (kL [(4, _)] (.cons rfl .nil) (kE ?_))))); clear h a; intro a h
    refine wp_ret (ret_blk (ret_then (ret_then (ret_blk (ret_blk (ret_then (ret_then (ret_blk (ret_then ?_)))))))))
    refine ret1 h Tryz.results11 rfl ?_
    exact ⟨_, rfl, by rw [if_neg (ne_rows hx hy hs' ht' c4)], hf⟩
   refine wp_skip (norm_blk (norm_then ?_))
   refine tC h (kR (mv rfl (s_add rfl rfl (by first | exact i6 (by omega) | rfl) (asg rfl (kL [(2, _), (3, _), (5, _), (6, _)] (.c4 rfl rfl rfl rfl) ?_))))); clear h a; intro a h
   refine wnt ?_
   exact ⟨k + 1, h.sub (.c4 rfl rfl rfl rfl), ⟨by omega, by rw [List.take_add_one, List.take_add_one, hkt, hs', ht', Decidable.not_not.1 c4], hb2, hb3, hf⟩, by omega⟩
  have hxy : x = y := by
   have e : k = x.length := by omega
   rwa [e, List.take_length, show x.length = y.length by omega, List.take_length] at hkt
  refine wp_exit (exit_then (exit_then (exit_here (norm_blk (norm_then ?_)))))
  refine tC h (kR (mv rfl (s_add rfl rfl (by first | exact i6 (by omega) | rfl) (asg rfl (kL [(2, _), (3, _), (5, _)] (.c3 rfl rfl rfl) ?_))))); clear h a; intro a h
  refine wnt ?_
  exact ⟨i + 1, h.sub (.c3 rfl rfl rfl), ⟨by omega, by rw [List.take_add_one, List.take_add_one, ht, hx, hy, hxy], hb2, hb3, hf⟩, by omega⟩
 obtain rfl : i = hs.length := by omega
 have hxy : xs = ys := by
  rwa [hl, List.take_length, show xs.length = ys.length by omega, List.take_length] at ht
 refine wp_exit (exit_then (exit_then (exit_here (norm_then ?_))))
 refine tC h (kQ (kR (asg rfl (kL [(4, _)] (.cons rfl .nil) (kE ?_))))); clear h a; intro a h
 refine wp_ret (ret1 h Tryz.results11 rfl ?_)
 exact ⟨_, rfl, by rw [if_pos hxy], hf⟩
theorem repeats_ok (u : Value) (xs : List Stitch) (m : Nat) (w0 : World) (hu : Sl encSt w0 u xs) (hm : m ≤ xs.length) : Rets Tryz.prog 132 #[u, .int .i64 (m : Int)] w0 fun r w' => r = .bool (decide (xs.drop m = xs.take (xs.length - m))) ∧ Fr [] w0 w' := by
 have hu' := hu
 obtain ⟨A, c, rfl, hc, hM, hA⟩ := hu
 unfold maxLen at hM
 have ha := hu'.drop rfl hm (B := if c = m then A else A.map (·.add (m * encSt.sz))) (c' := c - m) (by omega) (by unfold maxLen; omega) (fun hlt => by rw [if_neg (by omega)])
 have hb := hu'.take rfl (m := xs.length - m) (by omega) (B := A) (c' := c) (by omega) (by unfold maxLen; omega) (fun _ => rfl)
 refine enter [(0, .slice A xs.length c), (1, .int .i64 (m : Int))] Tryz.func132 rfl Tryz.ntmps132 rfl (.c2 rfl rfl) ?_
 have hf := Fr.refl [] w0
 intro a h
 refine tC h (kQ (kR (asg rfl (kL [(0, _), (1, _)] (.c2 rfl rfl) (kE (kQ ?_)))))); clear h a; intro a h
 refine region_quiet hmix (by kernel_rfl) ?_
 refine qt_move h rfl rfl ?_; clear h a; intro a h
 refine qt_move h rfl rfl ?_; clear h a; intro a h
 refine qt_sl_l (p := m) h rfl rfl el88 (by omega) (by omega) (by omega) rfl ?_; clear h a; intro a h
 refine qt_move h rfl rfl ?_; clear h a; intro a h
 refine qt_move h rfl rfl ?_; clear h a; intro a h
 refine qt_lenS h rfl Tryz.underlying88 rfl ?_; clear h a; intro a h
 refine qt_move h rfl rfl ?_; clear h a; intro a h
 refine qt_sub h rfl rfl (by first | exact i6 (by omega) | rfl) rfl ?_; clear h a; intro a h
 refine qt_sl_h (p := xs.length - m) h rfl rfl el88 (by omega) (by omega) (by omega) rfl ?_; clear h a; intro a h
 refine qt_call h (evs_cons rfl (evs_cons rfl evs_nil)) co159 (fun w hw => (equal_ok _ _ _ _ w (ha.ext hw) (hb.ext hw)).mono fun u w' ⟨e, f⟩ => ⟨e, hw.next f⟩) rfl ?_; clear h a; intro a h
 refine qt_assign h rfl rfl ?_; clear h a; intro a h
 refine wpQuiet_nil ?_
 intro w1 hq
 replace hf := hf.next hq
 clear hq
 replace h : Ag a 15 [(4, _)] := h.sub (.cons rfl .nil)
 refine (norm_then ?_)
 refine wp_ret (ret1 h Tryz.results132 rfl ?_)
 exact ⟨_, rfl, rfl, hf⟩
end Go.Proofs.YthehggmdcmpjeaaGreatDoor
namespace Go.Proofs.YthehggmdcmpjeaaGreatDoor
open Go.Lw Go.G14
theorem co146 : CallOf Tryz.prog 146 := mkC Tryz.func146
theorem co147 : CallOf Tryz.prog 147 := mkC Tryz.func147
theorem co148 : CallOf Tryz.prog 148 := mkC Tryz.func148
theorem co149 : CallOf Tryz.prog 149 := mkC Tryz.func149
theorem co150 : CallOf Tryz.prog 150 := mkC Tryz.func150
theorem co151 : CallOf Tryz.prog 151 := mkC Tryz.func151
theorem na9 : NotAgg Tryz.prog 9 := fun _ => by kernel_rfl
theorem na244 : NotAgg Tryz.prog 244 := fun _ => by kernel_rfl
def P3 (g : Nat) : Value := .pointer (some ⟨g, 0, none⟩)
def EnvOk (l : List UInt8) (gs ga gr gi p : Nat) (w : World) : Prop :=
  Blk w gs 9 [S l] ∧ Blk w ga 3 [.int .i64 (p : Int)] ∧ Blk w gr 244 [.func (.func 146) #[] #[P3 gi, P3 ga, P3 gs]] ∧ Blk w gi 244 [.func (.func 148) #[] #[P3 ga, P3 gs, P3 gr]] ∧ Sym w
def RetOk (ga : Nat) (w0 : World) (r : Option (List Stitch × Nat)) (v : Value) (w' : World) : Prop :=
  ∃ (x : Value) (b : Bool), v = .tuple #[x, .bool b] ∧ Fr [ga] w0 w' ∧ (b = true → ∃ xs q, r = some (xs, q) ∧ Lw.Own encSt 91 w0.heap.size w' x xs ∧ Blk w' ga 3 [.int .i64 ((q : Nat) : Int)]) ∧ (b = false → r = none)
def ItemC (l : List UInt8) (gs ga gr gi F : Nat) : Prop := ∀ (p : Nat) (w0 : World), p ≤ l.length → 2 * (l.length - p) ≤ F → EnvOk l gs ga gr gi p w0 → Rets Tryz.prog 148 #[P3 ga, P3 gs, P3 gr] w0 (RetOk ga w0 (readS l F false p []))
def RowC (l : List UInt8) (gs ga gr gi F : Nat) : Prop := ∀ (p : Nat) (w0 : World), p ≤ l.length → 2 * (l.length - p) + 1 ≤ F → EnvOk l gs ga gr gi p w0 → Rets Tryz.prog 146 #[P3 gi, P3 ga, P3 gs] w0 (RetOk ga w0 (readS l F true p []))
set_option maxHeartbeats 1000000 in
theorem row_step (l : List UInt8) (gs ga gr gi F : Nat) (hl : l.length ≤ 1024) (o0 : 2 < gs) (o1 : gs < ga) (o2 : ga < gr) (o3 : gr < gi) (hi : ∀ m, m < F → ItemC l gs ga gr gi m) : RowC l gs ga gr gi F := by
 intro p w0 hp hF he
 obtain ⟨hbs, hba, hbr, hbi, hy⟩ := he
 have hgi := hbi.lt
 unfold P3 at *
 refine enter [(0, .pointer (some ⟨gi, 0, none⟩)), (1, .pointer (some ⟨ga, 0, none⟩)), (2, .pointer (some ⟨gs, 0, none⟩))] Tryz.func146 rfl Tryz.ntmps146 rfl (.c3 rfl rfl rfl) ?_
 have hf := Fr.refl [ga] w0
 intro a h
 refine tC h (kQ (kR (asg rfl (asg rfl (kL [(0, _), (1, _), (2, _)] (.c3 rfl rfl rfl) (kE (kQ (kR (asg rfl (kE (kB ?_))))))))))); clear h a; intro a h
 refine loop (ι := Nat × Nat × List Stitch × Value) (fun z => [(0, .pointer (some ⟨gi, 0, none⟩)), (1, .pointer (some ⟨ga, 0, none⟩)), (2, .pointer (some ⟨gs, 0, none⟩)), (5, z.2.2.2)]) (fun z w' => readS l F true p [] = readS l z.1 true z.2.1 z.2.2.1 ∧ z.2.1 ≤ l.length ∧ 2 * (l.length - z.2.1) + 1 ≤ z.1 ∧ z.1 ≤ F ∧ z.2.2.1.length ≤ 17 ∧ Lw.Own encSt 91 w0.heap.size w' z.2.2.2 z.2.2.1 ∧ EnvOk l gs ga gr gi z.2.1 w' ∧ Fr [ga] w0 w') (fun z => z.1) (F, p, [], .slice none 0 0) (h.sub (.c4 rfl rfl rfl rfl)) ⟨rfl, hp, hF, Nat.le_refl _, by simp, Own.nil _, ⟨hbs, hba, hbr, hbi, hy⟩, hf⟩ ?_
 clear h a hf hbs hba hbr hbi hy
 rintro ⟨m', q, acc, x⟩ w1 a h ⟨hFe, hql, hm, hmF, hac, ho, ⟨hbs, hba, hbr, hbi, hy⟩, hf⟩
 simp only at hFe hql hm hmF hac ho hbs hba hbr hbi h
 obtain ⟨m, rfl⟩ : ∃ m, m' = m + 1 := ⟨m' - 1, by omega⟩
 unfold P3 at *
 refine tC h (kB (kQ (kR (s_loadB0 rfl hbi na244 ?_)))); clear h a; intro a h
 refine st_callv (us := []) (ws := [_, _, _]) h rfl evs_nil co148 (hi m (by omega) q w1 hql (by omega) ⟨hbs, hba, hbr, hbi, hy⟩) rfl (by intro g; simp) ?_; clear h a hba; rintro _ w2x ⟨x2, ok, rfl, hq, hyes, hno⟩ a h
 replace hf := hf.step hq (by simp)
 replace hbs := hbs.fr hq (by simp; omega)
 replace hbr := hbr.fr hq (by simp; omega)
 replace hbi := hbi.fr hq (by simp; omega)
 replace hy := hy.fr hq (by simp; omega)
 replace ho := ho.fr hq (by intro k hk hb; have := ho.blk k hb; simp at hk; omega)
 have hsz := hq.size
 clear hq
 refine tW h (mv rfl (xt rfl rfl (xt rfl rfl (asg rfl (asg rfl (kL [(0, _), (1, _), (2, _), (5, _), (6, _), (7, _)] (.c6 rfl rfl rfl rfl rfl rfl) (kE (kQ (kQ (kR (mv rfl (nt' rfl (kL [(0, _), (1, _), (2, _), (5, _), (6, _), (14, _)] (.c6 rfl rfl rfl rfl rfl rfl) (kE ?_)))))))))))))); clear h a; intro a h
 refine cS h rfl (fun c0=>?_) (fun c0=>?_)
 ·have hok : ok = false := by simpa using c0
  subst hok
  refine tC h (kQ (kR (asg rfl (asg rfl (kL [(3, _), (4, _)] (.c2 rfl rfl) (kE ?_)))))); clear h a; intro a h
  refine wp_ret (ret_then (ret_blk (ret_then (ret_blk ?_))))
  refine ret2 h Tryz.results146 rfl rfl ?_
  exact ⟨_, rfl, _, false, rfl, hf, (fun e => by cases e), fun _ => by rw [hFe]; exact read_row_none (hno rfl)⟩
 have hok : ok = true := by simpa using c0
 subst hok
 obtain ⟨xs, q', hr, ho2, hba⟩ := hyes rfl
 obtain ⟨hq1, hq2, hxl⟩ := read_pos m false q [] xs q' hql hr
 clear hyes hno c0
 refine tC h (kZ (kQ (kR (mv rfl (mv rfl ?_))))); clear h a; intro a h
 refine st_append h rfl rfl ho ho2.sl el88 (by unfold maxLen; omega) (by omega) (by have := hf.size; omega) ?_; clear h a; intro x3 w3x ho3 hq _ a h
 replace hbs := hbs.fr hq (fun hb => by have := ho.blk _ hb; omega)
 replace hba := hba.fr hq (fun hb => by have := ho.blk _ hb; omega)
 replace hbr := hbr.fr hq (fun hb => by have := ho.blk _ hb; omega)
 replace hbi := hbi.fr hq (fun hb => by have := ho.blk _ hb; omega)
 replace hy := hy.fr hq (fun hb => by have := ho.blk _ hb; omega)
 replace hf := hf.step hq (fun k hk hlt => by have := ho.blk k hk; omega)
 clear hq
 clear ho ho2
 obtain ⟨A3, cp3, rfl, hc3⟩ := ho3.sl.form
 refine st_call h (evs_cons rfl evs_nil) co147 (cut_ok _ _ _ _ hc3) ?_; clear h a; rintro _ _ ⟨rfl, rfl⟩ a h
 replace ho3 := ho3.take rfl (m := min (acc ++ xs).length 17) (by omega) (Nat.le_refl _) (by omega)
 rw [take_min] at ho3
 refine tW h (asg rfl (kL [(0, _), (1, _), (2, _), (5, _)] (.c4 rfl rfl rfl rfl) (kE (kQ (kQ ?_))))); clear h a; intro a h
 refine region_bool (r := 28) (L' := [(0, _), (1, _), (2, _), (5, _)]) (q' = l.length ∨ ((l.getD q' 0).toNat : Int) ≠ 32) h (.c4 rfl rfl rfl rfl) ?_ ?_
 ·refine tW h (s_loadB0 rfl hba na3 (s_loadB0 rfl hbs na9 (ln rfl Tryz.underlying9 (eq' rfl rfl (mv rfl ?_))))); clear h a; intro a h
  refine gSp (D := 23) h rfl ?_ ?_
  ·clear h; intro g0 h
   refine tW h (kN rfl rfl (kN rfl rfl (kN rfl rfl (kN rfl rfl (pkt rfl rfl ?_))))); clear h a; intro a h
   exact wpList_nil (bool_end h rfl (by first | exact bt (by omega) | exact bf (by omega) | exact bi (by omega) | exact bn (by omega)) (.c4 rfl rfl rfl rfl))
  clear h; intro g0 h
  refine tW h (kY rfl (s_loadB0 rfl hbs na9 (kY rfl (s_loadB0 rfl hba na3 ?_)))); clear h a; intro a h
  refine gd_yes h rfl rfl rfl rfl rfl rfl ?_
  refine st_index (p := q') h rfl rfl Tryz.underlying9 ?_; clear h a; intro hy26 a h
  refine tW h (kY rfl (ne' rfl rfl (pkf rfl rfl ?_))); clear h a; intro a h
  exact wpList_nil (bool_end h rfl (by first | exact bt (by omega) | exact bf (by omega) | exact bi (by omega) | exact bn (by omega)) (.c4 rfl rfl rfl rfl))
 clear h a; intro a h
 refine (norm_then ?_)
 refine cS h rfl (fun c1=>?_) (fun c1=>?_)
 ·refine tC h (kQ (kR (mv rfl (asg rfl (asg rfl (kL [(3, _), (4, _)] (.c2 rfl rfl) (kE ?_))))))); clear h a; intro a h
  refine wp_ret (ret_then (ret_blk (ret_then (ret_blk ?_))))
  refine ret2 h Tryz.results146 rfl rfl ?_
  exact ⟨_, rfl, _, true, rfl, hf, fun _ => ⟨_, _, by rw [hFe]; exact read_row_end hr (or_byte (c := 32) c1), ho3, hba⟩, (fun e => by cases e)⟩
 refine tC h (kZ (kR (s_loadB0 rfl hba na3 (s_add rfl rfl (by first | exact i6 (by omega) | rfl) ?_)))); clear h a; intro a h
 refine st_storeB0 h rfl rfl hba rfl rfl sz3 ?_; clear h a; intro w2 hbn hq hz a h
 replace hf := hf.sp hq
 replace hbs := hbs.fr hq (by simp[blks]<;>omega)
 replace hbr := hbr.fr hq (by simp[blks]<;>omega)
 replace hbi := hbi.fr hq (by simp[blks]<;>omega)
 replace hy := hy.fr hq (by simp[blks]<;>omega)
 replace ho3 := ho3.fr hq (by intro k hk hb; have := ho3.blk k hb; simp at hk; omega)
 clear hba hq hz; have hba : Blk w2 ga _ [_] := hbn; clear hbn
 replace h : Ag a 32 [(0, _), (1, _), (2, _), (5, _)] := h.sub (.c4 rfl rfl rfl rfl)
 refine wpList_nil (norm_blk (norm_then ?_))
 exact ⟨(m, q' + 1, (acc ++ xs).take 17, _), h.sub (.c4 rfl rfl rfl rfl), ⟨by rw [hFe]; exact read_row_next hr (nor_byte (c := 32) c1), by simp only; omega, by simp only; omega, by simp only; omega, by simp; omega, ho3, ⟨hbs, hba, hbr, hbi, hy⟩, hf⟩, by simp only; omega⟩
set_option maxHeartbeats 2000000 in
theorem item_step (l : List UInt8) (gs ga gr gi F : Nat) (hl : l.length ≤ 1024) (o0 : 2 < gs) (o1 : gs < ga) (o2 : ga < gr) (o3 : gr < gi) (hi : ∀ m, m < F → RowC l gs ga gr gi m) : ItemC l gs ga gr gi F := by
 intro p w0 hp hF he
 obtain ⟨hbs, hba, hbr, hbi, hy⟩ := he
 have hgi := hbi.lt
 unfold P3 at *
 refine enter [(0, .pointer (some ⟨ga, 0, none⟩)), (1, .pointer (some ⟨gs, 0, none⟩)), (2, .pointer (some ⟨gr, 0, none⟩))] Tryz.func148 rfl Tryz.ntmps148 rfl (.c3 rfl rfl rfl) ?_
 have hf := Fr.refl [ga] w0
 intro a h
 refine tC h (kQ (kR (asg rfl (asg rfl (kL [(0, _), (1, _), (2, _)] (.c3 rfl rfl rfl) (kE (kQ (kQ ?_)))))))); clear h a; intro a h
 refine region_bool (r := 22) (L' := [(0, _), (1, _), (2, _)]) (p = l.length ∨ ((l.getD p 0).toNat : Int) ≠ 91) h (.c3 rfl rfl rfl) ?_ ?_
 ·refine tW h (s_loadB0 rfl hba na3 (s_loadB0 rfl hbs na9 (ln rfl Tryz.underlying9 (eq' rfl rfl (mv rfl ?_))))); clear h a; intro a h
  refine gSp (D := 17) h rfl ?_ ?_
  ·clear h; intro g0 h
   refine tW h (kN rfl rfl (kN rfl rfl (kN rfl rfl (kN rfl rfl (pkt rfl rfl ?_))))); clear h a; intro a h
   exact wpList_nil (bool_end h rfl (by first | exact bt (by omega) | exact bf (by omega) | exact bi (by omega) | exact bn (by omega)) (.c3 rfl rfl rfl))
  clear h; intro g0 h
  refine tW h (kY rfl (s_loadB0 rfl hbs na9 (kY rfl (s_loadB0 rfl hba na3 ?_)))); clear h a; intro a h
  refine gd_yes h rfl rfl rfl rfl rfl rfl ?_
  refine st_index (p := p) h rfl rfl Tryz.underlying9 ?_; clear h a; intro hy20 a h
  refine tW h (kY rfl (ne' rfl rfl (pkf rfl rfl ?_))); clear h a; intro a h
  exact wpList_nil (bool_end h rfl (by first | exact bt (by omega) | exact bf (by omega) | exact bi (by omega) | exact bn (by omega)) (.c3 rfl rfl rfl))
 clear h a; intro a h
 refine (norm_then ?_)
 refine cS h rfl (fun c0=>?_) (fun c0=>?_)
 ·have c0' := or_byte (c := 91) c0
  refine tC h (kQ (kR (s_loadB0 rfl hba na3 (asg rfl (kL [(0, _), (1, _), (5, _)] (.c3 rfl rfl rfl) (kE (kQ (kB ?_)))))))); clear h a; intro a h
  refine loop (ι := Nat) (fun k => [(0, .pointer (some ⟨ga, 0, none⟩)), (1, .pointer (some ⟨gs, 0, none⟩)), (5, .int .i64 (k : Int))]) (fun k w' => p ≤ k ∧ k ≤ l.length ∧ wordEnd l k = wordEnd l p ∧ EnvOk l gs ga gr gi p w' ∧ Fr [ga] w0 w') (fun k => l.length - k) p (h.sub (.c3 rfl rfl rfl)) ⟨Nat.le_refl _, hp, rfl, ⟨hbs, hba, hbr, hbi, hy⟩, hf⟩ ?_
  clear h a hf hbs hba hbr hbi hy
  rintro k w1 a h ⟨hpk, hkl, hwe, ⟨hbs, hba, hbr, hbi, hy⟩, hf⟩
  unfold P3 at *
  refine tC h (kQ (kQ ?_)); clear h a; intro a h
  refine region_bool (r := 39) (L' := [(0, _), (1, _), (5, _)]) (k < l.length ∧ ((l.getD k 0).toNat : Int) ≠ 32 ∧ ((l.getD k 0).toNat : Int) ≠ 93) h (.c3 rfl rfl rfl) ?_ ?_
  ·refine tW h (mv rfl (s_loadB0 rfl hbs na9 (ln rfl Tryz.underlying9 (lt' rfl rfl (mv rfl ?_))))); clear h a; intro a h
   refine gSp (D := 28) h rfl ?_ ?_
   ·clear h; intro g1 h
    refine tW h (kY rfl (s_loadB0 rfl hbs na9 (kY rfl (mv rfl ?_)))); clear h a; intro a h
    refine gd_yes h rfl rfl rfl rfl rfl rfl ?_
    refine st_index (p := k) h rfl rfl Tryz.underlying9 ?_; clear h a; intro hy31 a h
    refine tW h (kY rfl (ne' rfl rfl (pkt rfl rfl (mv rfl ?_)))); clear h a; intro a h
    refine gSp (D := 34) h rfl ?_ ?_
    ·clear h; intro g2 h
     refine tW h (kY rfl (s_loadB0 rfl hbs na9 (kY rfl (mv rfl ?_)))); clear h a; intro a h
     refine gd_yes h rfl rfl rfl rfl rfl rfl ?_
     refine st_index (p := k) h rfl rfl Tryz.underlying9 ?_; clear h a; intro hy37 a h
     refine tW h (kY rfl (ne' rfl rfl (pkt rfl rfl ?_))); clear h a; intro a h
     exact wpList_nil (bool_end h rfl (by first | exact bt (by omega) | exact bf (by omega) | exact bi (by omega) | exact bn (by omega)) (.c3 rfl rfl rfl))
    clear h; intro g2 h
    refine tW h (kN rfl rfl (kN rfl rfl (kN rfl rfl (kN rfl rfl (pkf rfl rfl ?_))))); clear h a; intro a h
    exact wpList_nil (bool_end h rfl (by first | exact bt (by omega) | exact bf (by omega) | exact bi (by omega) | exact bn (by omega)) (.c3 rfl rfl rfl))
   clear h; intro g1 h
   refine tW h (kN rfl rfl (kN rfl rfl (kN rfl rfl (kN rfl rfl (pkf rfl rfl (mv rfl (kN rfl rfl (kN rfl rfl (kN rfl rfl (kN rfl rfl (pkf rfl rfl ?_))))))))))); clear h a; intro a h
   exact wpList_nil (bool_end h rfl (by first | exact bt (by omega) | exact bf (by omega) | exact bi (by omega) | exact bn (by omega)) (.c3 rfl rfl rfl))
  clear h a; intro a h
  refine (norm_then ?_)
  refine cS h rfl (fun c1=>?_) (fun c1=>?_)
  ·have c1' : k < l.length ∧ l.getD k 0 ≠ 32 ∧ l.getD k 0 ≠ 93 := ⟨c1.1, fun e => c1.2.1 (by rw [e]; rfl), fun e => c1.2.2 (by rw [e]; rfl)⟩
   refine tC h (kZ (kB (kR (mv rfl (s_add rfl rfl (by first | exact i6 (by omega) | rfl) (asg rfl (kL [(0, _), (1, _), (5, _)] (.c3 rfl rfl rfl) ?_))))))); clear h a; intro a h
   refine wpList_nil (norm_blk (norm_then ?_))
   exact ⟨k + 1, h.sub (.c3 rfl rfl rfl), ⟨by omega, by omega, by rw [← hwe, wordEnd_next c1'], ⟨hbs, hba, hbr, hbi, hy⟩, hf⟩, by omega⟩
  have hke : k = wordEnd l p := by
   rw [← hwe]; exact (wordEnd_here (fun e => c1 ⟨e.1, fun h => e.2.1 (byte_eq.1 h), fun h => e.2.2 (byte_eq.1 h)⟩)).symm
  refine wp_exit (exit_then (exit_then (exit_here (norm_then ?_))))
  refine tC h (kQ (kR (s_loadB0 rfl hbs na9 (s_loadB0 rfl hba na3 (mv rfl (s_ss_lh (p := p) (p' := k) rfl rfl rfl Tryz.underlying9 (by omega) (by omega) ?_ (h2 := (by omega)))))))); clear h a; intro a h
  refine st_call h (evs_cons rfl evs_nil) co149 (parse_ok _ _ hy) ?_; clear h a; rintro _ w2 ⟨rfl, hq⟩ a h
  replace hf := hf.next hq
  replace hbs := hbs.ext hq
  replace hba := hba.ext hq
  replace hbr := hbr.ext hq
  replace hbi := hbi.ext hq
  replace hy := hy.ext hq
  clear hq
  refine tW h (mv rfl (xt rfl rfl (xt rfl rfl ?_))); clear h a; intro a h
  refine st_alloc h zv91 rfl ?_; clear h a; intro w3 hb6 hq hz a h
  obtain ⟨g_6, hg⟩ : ∃ g, g = w2.heap.size := ⟨_, rfl⟩; rw [← hg] at hb6 h hz
  have hl6 : w0.heap.size ≤ g_6 := by have := hf.size; omega
  have hn__6 : gs < g_6 := by have := hbs.lt; omega
  have hn__6 : ga < g_6 := by have := hba.lt; omega
  have hn__6 : gr < g_6 := by have := hbr.lt; omega
  have hn__6 : gi < g_6 := by have := hbi.lt; omega
  replace hf := hf.next hq
  replace hbs := hbs.ext hq
  replace hba := hba.ext hq
  replace hbr := hbr.ext hq
  replace hbi := hbi.ext hq
  replace hy := hy.ext hq
  clear hq hz hg
  refine st_storeBA h rfl rfl hb6 rfl sz91 ?_; clear h a; intro w4 hbn hq hz a h
  replace hf := hf.sp hq
  replace hbs := hbs.fr hq (by simp[blks]<;>omega)
  replace hba := hba.fr hq (by simp[blks]<;>omega)
  replace hbr := hbr.fr hq (by simp[blks]<;>omega)
  replace hbi := hbi.fr hq (by simp[blks]<;>omega)
  replace hy := hy.fr hq (by simp[blks]<;>omega)
  clear hb6 hq hz; have hb6 : Blk w4 g_6 _ [_, _, _, _, _] := hbn; clear hbn
  refine tW h (asg rfl (kL [(0, _), (5, _), (6, _), (7, _)] (.c4 rfl rfl rfl rfl) (kE (kQ (kR (mv rfl ?_)))))); clear h a; intro a h
  refine st_storeB0 h rfl rfl hba rfl rfl sz3 ?_; clear h a; intro w5 hbn hq hz a h
  replace hf := hf.sp hq
  replace hbs := hbs.fr hq (by simp[blks]<;>omega)
  replace hbr := hbr.fr hq (by simp[blks]<;>omega)
  replace hbi := hbi.fr hq (by simp[blks]<;>omega)
  replace hy := hy.fr hq (by simp[blks]<;>omega)
  replace hb6 := hb6.fr hq (by simp[blks]<;>omega)
  clear hba hq hz; have hba : Blk w5 ga _ [_] := hbn; clear hbn
  refine tW h (kL [(6, _), (7, _)] (.c2 rfl rfl) (kE (kQ (kR (s_loadBA rfl hb6 ag91 ?_))))); clear h a; intro a h
  refine st_bslice ([(parseS ((l.take k).drop p)).1]) h (evs_cons rfl evs_nil) rfl rfl rfl el88 (Nat.le_of_ble_eq_true rfl) ?_; clear h a; intro g_52 w6 hg ho52 hq hz a h
  have hn__52 : gs < g_52 := by have := hbs.lt; omega
  have hn__52 : ga < g_52 := by have := hba.lt; omega
  have hn__52 : gr < g_52 := by have := hbr.lt; omega
  have hn__52 : gi < g_52 := by have := hbi.lt; omega
  have hn_6_52 : g_6 < g_52 := by have := hb6.lt; omega
  have hl52 : w0.heap.size ≤ g_52 := by have := hf.size; omega
  replace hf := hf.next hq
  replace hbs := hbs.ext hq
  replace hba := hba.ext hq
  replace hbr := hbr.ext hq
  replace hbi := hbi.ext hq
  replace hy := hy.ext hq
  replace hb6 := hb6.ext hq
  clear hq hz hg
  refine tW h (mv rfl (eq' rfl rfl (asg rfl (asg rfl (kL [(3, _), (4, _)] (.c2 rfl rfl) (kE ?_)))))); clear h a; intro a h
  refine wp_ret (ret_then (ret2 h Tryz.results148 rfl rfl ?_))
  refine ⟨_, rfl, _, _, rfl, hf, fun e => ⟨_, _, ?_, ho52.low (by omega), hba⟩, fun e => ?_⟩
  ·rw [read_leaf c0']; exact leaf_some hke (of_decide_eq_true e)
  rw [read_leaf c0']; exact leaf_none hke (of_decide_eq_false e)
 have c0' := nor_byte (c := 91) c0
 have hpl : p < l.length := by omega
 obtain ⟨m, rfl⟩ : ∃ m, F = m + 1 := ⟨F - 1, by omega⟩
 refine tC h (kZ (kQ (kR (s_loadB0 rfl hba na3 (s_add rfl rfl (by first | exact i6 (by omega) | rfl) ?_))))); clear h a; intro a h
 refine st_storeB0 h rfl rfl hba rfl rfl sz3 ?_; clear h a; intro w7 hbn hq hz a h
 replace hf := hf.sp hq
 replace hbs := hbs.fr hq (by simp[blks]<;>omega)
 replace hbr := hbr.fr hq (by simp[blks]<;>omega)
 replace hbi := hbi.fr hq (by simp[blks]<;>omega)
 replace hy := hy.fr hq (by simp[blks]<;>omega)
 clear hba hq hz; have hba : Blk w7 ga _ [_] := hbn; clear hbn
 refine tW h (kL [(0, _), (1, _), (2, _)] (.c3 rfl rfl rfl) (kE (kQ (kR (s_loadB0 rfl hbr na244 ?_))))); clear h a; intro a h
 refine st_callv (us := []) (ws := [_, _, _]) h rfl evs_nil co146 (hi m (by omega) (p + 1) w7 (by omega) (by omega) ⟨hbs, hba, hbr, hbi, hy⟩) rfl (by intro g; simp) ?_; clear h a hba; rintro _ w2x ⟨x2, ok, rfl, hq, hyes, hno⟩ a h
 have hfs := hf.size
 replace hf := hf.step hq (by simp)
 replace hbs := hbs.fr hq (by simp; omega)
 replace hbr := hbr.fr hq (by simp; omega)
 replace hbi := hbi.fr hq (by simp; omega)
 replace hy := hy.fr hq (by simp; omega)
 clear hq
 refine tW h (mv rfl (xt rfl rfl (xt rfl rfl (asg rfl (asg rfl (kL [(0, _), (1, _), (8, _), (9, _)] (.c4 rfl rfl rfl rfl) (kE (kQ (kQ (kR (mv rfl (nt' rfl (mv rfl ?_))))))))))))); clear h a; intro a h
 refine gSp (D := 64) h rfl ?_ ?_
 ·clear h; intro g3 h
  refine tW h (kN rfl rfl (kN rfl rfl (kN rfl rfl (kN rfl rfl (kN rfl rfl (pkt rfl rfl (kL [(0, _), (1, _), (8, _), (70, _)] (.c4 rfl rfl rfl rfl) ?_))))))); clear h a; intro a h
  refine wnt ?_
  refine cond_true h rfl ?_
  refine tC h (kQ (kR (asg rfl (asg rfl (kL [(3, _), (4, _)] (.c2 rfl rfl) (kE ?_)))))); clear h a; intro a h
  refine wp_ret (ret_then (ret2 h Tryz.results148 rfl rfl ?_))
  exact ⟨_, rfl, _, false, rfl, hf, (fun e => by cases e), fun _ => by rw [read_rep c0', hno (by simpa using ‹(!ok) = true›)]⟩
 clear h; intro g3 h
 refine gd_yes h rfl rfl rfl rfl rfl rfl ?_
 have hok : ok = true := by simpa using g3
 subst hok
 obtain ⟨xs, q, hr, ho2, hba⟩ := hyes rfl
 obtain ⟨hq1, hq2, hxl⟩ := read_pos m true (p + 1) [] xs q (by omega) hr
 replace ho2 := ho2.low hfs
 clear hyes hno
 refine tW h (s_loadB0 rfl hbs na9 (kY rfl (s_loadB0 rfl hba na3 (kY rfl (s_ss_l (p := q) rfl rfl Tryz.underlying9 (by omega) rfl ?_))))); clear h a; intro a h
 refine gd_yes h rfl rfl rfl rfl rfl rfl ?_
 refine st_call h (evs_cons rfl (evs_cons rfl evs_nil)) co150 (pref_ok _ _ _) ?_; clear h a; rintro _ _ ⟨rfl, rfl⟩ a h
 refine tW h (kY rfl (nt' rfl (pkf rfl rfl (kL [(0, _), (1, _), (8, _), (70, _)] (.c4 rfl rfl rfl rfl) (kE ?_))))); clear h a; intro a h
 refine cS h rfl (fun c2=>?_) (fun c2=>?_)
 ·refine tC h (kQ (kR (asg rfl (asg rfl (kL [(3, _), (4, _)] (.c2 rfl rfl) (kE ?_)))))); clear h a; intro a h
  refine wp_ret (ret_then (ret2 h Tryz.results148 rfl rfl ?_))
  exact ⟨_, rfl, _, false, rfl, hf, (fun e => by cases e), fun _ => by rw [read_rep c0', hr]; show closeS l xs q = none; rw [closeS, if_neg c2]⟩
 have hpre := c2.length_le
 simp at hpre
 refine tC h (kZ (kQ (kR (s_loadB0 rfl hba na3 (s_add rfl rfl (by first | exact i6 (by omega) | rfl) ?_))))); clear h a; intro a h
 refine st_storeB0 h rfl rfl hba rfl rfl sz3 ?_; clear h a; intro w8 hbn hq hz a h
 replace hf := hf.sp hq
 replace hbs := hbs.fr hq (by simp[blks]<;>omega)
 replace hbr := hbr.fr hq (by simp[blks]<;>omega)
 replace hbi := hbi.fr hq (by simp[blks]<;>omega)
 replace hy := hy.fr hq (by simp[blks]<;>omega)
 replace ho2 := ho2.fr hq (by intro k hk hb; have := ho2.blk k hb; simp at hk; omega)
 clear hba hq hz; have hba : Blk w8 ga _ [_] := hbn; clear hbn
 refine tW h (kL [(0, _), (1, _), (8, _)] (.c3 rfl rfl rfl) (kE (kQ (kR (s_loadB0 rfl hbs na9 (s_loadB0 rfl hba na3 (s_ss_l (p := q + 2) rfl rfl Tryz.underlying9 (by omega) rfl ?_))))))); clear h a; intro a h
 have hcr := @count_rng (l.drop (q + 2)) 16
 simp only [List.length_drop] at hcr
 refine st_call h (evs_cons rfl (evs_cons rfl evs_nil)) co151 (count_ok _ _ _ (by simp; omega)) ?_; clear h a; rintro _ _ ⟨rfl, rfl⟩ a h
 refine tW h (mv rfl (xt rfl rfl (xt rfl rfl (asg rfl (asg rfl (kL [(0, _), (8, _), (10, _), (11, _)] (.c4 rfl rfl rfl rfl) (kE (kQ (kR (s_loadB0 rfl hba na3 (mv rfl (s_add rfl rfl (by first | exact i6 (by omega) | rfl) ?_)))))))))))); clear h a; intro a h
 refine st_storeB0 h rfl rfl hba rfl rfl sz3 ?_; clear h a; intro w9 hbn hq hz a h
 replace hf := hf.sp hq
 replace hbs := hbs.fr hq (by simp[blks]<;>omega)
 replace hbr := hbr.fr hq (by simp[blks]<;>omega)
 replace hbi := hbi.fr hq (by simp[blks]<;>omega)
 replace hy := hy.fr hq (by simp[blks]<;>omega)
 replace ho2 := ho2.fr hq (by intro k hk hb; have := ho2.blk k hb; simp at hk; omega)
 clear hba hq hz; have hba : Blk w9 ga _ [_] := hbn; clear hbn
 refine tW h (kL [(8, _), (10, _), (11, _)] (.c3 rfl rfl rfl) (kE (kQ (kR (asg rfl (kE (kQ (kQ (kR (mv rfl (mv rfl (kL [(8, _), (11, _), (12, _), (83, _), (84, _)] (.c5 rfl rfl rfl rfl rfl) (kE (kB ?_)))))))))))))); clear h a; intro a h
 refine loop (ι := Nat × Value) (fun z => [(8, x2), (11, .int .i64 (countS (l.drop (q + 2)) 16).2), (12, z.2), (83, .int .i64 (countS (l.drop (q + 2)) 16).1), (84, .int .i64 (z.1 : Int))]) (fun z w' => z.1 ≤ (countS (l.drop (q + 2)) 16).1.toNat ∧ Lw.Own encSt 91 w0.heap.size w' z.2 (timesS xs z.1) ∧ Lw.Own encSt 91 w0.heap.size w' x2 xs ∧ (∀ k ∈ blks z.2, k ∉ blks x2) ∧ Blk w' ga 3 [.int .i64 ((q + 2 + (countS (l.drop (q + 2)) 16).2.toNat : Nat) : Int)] ∧ Fr [ga] w0 w') (fun z => (countS (l.drop (q + 2)) 16).1.toNat - z.1) (0, .slice none 0 0) (h.sub (.c5 rfl rfl rfl rfl rfl)) ⟨Nat.zero_le _, Own.nil _, ho2, (by intro k hk; cases hk), by rw [show ((q + 2 + (countS (l.drop (q + 2)) 16).2.toNat : Nat) : Int) = (q : Int) + 2 + (countS (l.drop (q + 2)) 16).2 by omega]; exact hba, hf⟩ ?_
 clear h a hf hba ho2 hbs hbr hbi hy
 rintro ⟨j, x⟩ w10 a h ⟨hj, ho, ho2, hdis, hba, hf⟩
 simp only at hj ho hdis h
 refine tC h (kQ (kR (lt' rfl rfl (kE (kQ ?_))))); clear h a; intro a h
 refine cS h rfl (fun c3=>?_) (fun c3=>?_)
 ·refine tC h (kZ (kQ (kB (kR (mv rfl (mv rfl ?_)))))); clear h a; intro a h
  refine st_append h rfl rfl ho ho2.sl el88 (by unfold maxLen; rw [times_len]; have := Nat.mul_le_mul (show j ≤ 16 by omega) hxl; omega) (by rw [times_len]; have := Nat.mul_le_mul (show j ≤ 16 by omega) hxl; omega) (by have := hf.size; omega) ?_; clear h a; intro x5 w5x ho5 hq hx5 a h
  have hd5 : ∀ k ∈ blks x5, k ∉ blks x2 := by
   intro k hk
   rcases hx5 with e | e | e
   ·rw [e] at hk; exact hdis k hk
   ·rw [e] at hk; exact hdis k hk
   rw [e] at hk; simp at hk; intro hb; have := (ho2.blk k hb).2; omega
  replace ho2 := ho2.fr hq (fun k hk hb => hdis k hk hb)
  replace hba := hba.fr hq (fun hb => by have := ho.blk _ hb; omega)
  replace hf := hf.step hq (fun k hk hlt => by have := ho.blk k hk; omega)
  clear hq
  clear ho hdis hx5
  rw [← times_succ] at ho5
  refine tW h (asg rfl (kL [(8, _), (11, _), (12, _), (83, _), (84, _)] (.c5 rfl rfl rfl rfl rfl) ?_)); clear h a; intro a h
  refine wpList_nil (norm_blk (norm_then ?_))
  refine tC h (kR (s_add rfl rfl (by first | exact i6 (by omega) | rfl) (mv rfl (kL [(8, _), (11, _), (12, _), (83, _), (84, _)] (.c5 rfl rfl rfl rfl rfl) ?_)))); clear h a; intro a h
  refine wnt ?_
  exact ⟨(j + 1, x5), h.sub (.c5 rfl rfl rfl rfl rfl), ⟨by simp only; omega, ho5, ho2, hd5, hba, hf⟩, by simp only; omega⟩
 obtain rfl : j = (countS (l.drop (q + 2)) 16).1.toNat := by omega
 refine wp_exit (exit_then (exit_then (exit_here (norm_then ?_))))
 refine tC h (kQ (kR (mv rfl ?_))); clear h a; intro a h
 obtain ⟨A3, cp3, rfl, hc3⟩ := ho.sl.form
 refine st_call h (evs_cons rfl evs_nil) co147 (cut_ok _ _ _ _ hc3) ?_; clear h a; rintro _ _ ⟨rfl, rfl⟩ a h
 replace ho := ho.take rfl (m := min (timesS xs (countS (l.drop (q + 2)) 16).1.toNat).length 17) (by omega) (Nat.le_refl _) (by omega)
 rw [take_min] at ho
 refine tW h (mv rfl (gt' rfl rfl (asg rfl (asg rfl (kL [(3, _), (4, _)] (.c2 rfl rfl) (kE ?_)))))); clear h a; intro a h
 refine wp_ret (ret2 h Tryz.results148 rfl rfl ?_)
 refine ⟨_, rfl, _, _, rfl, hf, fun e => ⟨_, _, ?_, ho, hba⟩, fun e => ?_⟩
 ·rw [read_rep c0', hr]; show closeS l xs q = _; rw [closeS, if_pos c2]; exact if_pos (of_decide_eq_true e)
 rw [read_rep c0', hr]; show closeS l xs q = _; rw [closeS, if_pos c2]; exact if_neg (of_decide_eq_false e)
end Go.Proofs.YthehggmdcmpjeaaGreatDoor
namespace Go.Proofs.YthehggmdcmpjeaaGreatDoor
open Go.Lw Go.G14
theorem co125 : CallOf Tryz.prog 125 := mkC Tryz.func125
theorem co126 : CallOf Tryz.prog 126 := mkC Tryz.func126
theorem sz244 : SizeOf Tryz.prog 244 1 := fun _ => by kernel_rfl
theorem zv3 (w : World) : (zeroValue 3).run Tryz.prog w = .ok (.int .i64 0) w := by kernel_rfl
theorem zv244 (w : World) : (zeroValue 244).run Tryz.prog w = .ok .nilFunc w := by kernel_rfl
theorem readC (l : List UInt8) (gs ga gr gi : Nat) (hl : l.length ≤ 1024) (o0 : 2 < gs) (o1 : gs < ga) (o2 : ga < gr) (o3 : gr < gi) : ∀ F, RowC l gs ga gr gi F ∧ ItemC l gs ga gr gi F := by
 intro F
 induction F using Nat.strongRecOn with
 | _ F ih => exact ⟨row_step l gs ga gr gi F hl o0 o1 o2 o3 fun m hm => (ih m hm).2, item_step l gs ga gr gi F hl o0 o1 o2 o3 fun m hm => (ih m hm).1⟩
set_option maxHeartbeats 1000000 in
theorem read_ok (l : List UInt8) (w0 : World) (hl : l.length ≤ 1024) (hy : Sym w0) : Rets Tryz.prog 125 #[S l] w0 fun v w' => ∃ (x : Value) (b : Bool), v = .tuple #[x, .bool b] ∧ Fr [] w0 w' ∧ (b = true → ∃ xs, rowS l = some xs ∧ xs.length ≤ 17 ∧ Lw.Own encSt 91 w0.heap.size w' x xs) ∧ (b = false → rowS l = none) := by
 have h00 := hy.pos
 refine enter [(0, S l)] Tryz.func125 rfl Tryz.ntmps125 rfl (.cons rfl .nil) ?_
 have hf := Fr.refl [] w0
 intro a h
 refine tC h (kQ (kR ?_)); clear h a; intro a h
 refine st_box h rfl rfl ?_; clear h a; intro w1 hb1 hq hz a h
 obtain ⟨g_1, hg⟩ : ∃ g, g = w0.heap.size := ⟨_, rfl⟩; rw [← hg] at hb1 h hz
 have hl1 : w0.heap.size ≤ g_1 := by have := hf.size; omega
 replace hf := hf.next hq
 replace hy := hy.ext hq
 clear hq hz hg
 refine tW h (asg rfl (asg rfl (kL [(1, _)] (.cons rfl .nil) (kE (kQ (kR ?_)))))); clear h a; intro a h
 refine st_alloc h zv3 rfl ?_; clear h a; intro w2 hb4 hq hz a h
 obtain ⟨g_4, hg⟩ : ∃ g, g = w1.heap.size := ⟨_, rfl⟩; rw [← hg] at hb4 h hz
 have hl4 : w0.heap.size ≤ g_4 := by have := hf.size; omega
 have hn_1_4 : g_1 < g_4 := by have := hb1.lt; omega
 replace hf := hf.next hq
 replace hy := hy.ext hq
 replace hb1 := hb1.ext hq
 clear hq hz hg
 refine st_storeB0 h rfl rfl hb4 rfl rfl sz3 ?_; clear h a; intro w3 hbn hq hz a h
 replace hf := hf.sp hq
 replace hy := hy.fr hq (by simp[blks]<;>omega)
 replace hb1 := hb1.fr hq (by simp[blks]<;>omega)
 clear hb4 hq hz; have hb4 : Blk w3 g_4 _ [_] := hbn; clear hbn
 refine tW h (kE (kQ (kR ?_))); clear h a; intro a h
 refine st_alloc h zv244 rfl ?_; clear h a; intro w4 hb5 hq hz a h
 obtain ⟨g_5, hg⟩ : ∃ g, g = w3.heap.size := ⟨_, rfl⟩; rw [← hg] at hb5 h hz
 have hl5 : w0.heap.size ≤ g_5 := by have := hf.size; omega
 have hn_1_5 : g_1 < g_5 := by have := hb1.lt; omega
 have hn_4_5 : g_4 < g_5 := by have := hb4.lt; omega
 replace hf := hf.next hq
 replace hy := hy.ext hq
 replace hb1 := hb1.ext hq
 replace hb4 := hb4.ext hq
 clear hq hz hg
 refine st_alloc h zv244 rfl ?_; clear h a; intro w5 hb6 hq hz a h
 obtain ⟨g_6, hg⟩ : ∃ g, g = w4.heap.size := ⟨_, rfl⟩; rw [← hg] at hb6 h hz
 have hl6 : w0.heap.size ≤ g_6 := by have := hf.size; omega
 have hn_1_6 : g_1 < g_6 := by have := hb1.lt; omega
 have hn_4_6 : g_4 < g_6 := by have := hb4.lt; omega
 have hn_5_6 : g_5 < g_6 := by have := hb5.lt; omega
 replace hf := hf.next hq
 replace hy := hy.ext hq
 replace hb1 := hb1.ext hq
 replace hb4 := hb4.ext hq
 replace hb5 := hb5.ext hq
 clear hq hz hg
 refine tW h (kE (kQ (kR (s_makeFunc evs_nil (evs_cons rfl (evs_cons rfl (evs_cons rfl evs_nil))) rfl ?_)))); clear h a; intro a h
 refine st_storeB0 h rfl rfl hb5 rfl rfl sz244 ?_; clear h a; intro w6 hbn hq hz a h
 replace hf := hf.sp hq
 replace hy := hy.fr hq (by simp[blks]<;>omega)
 replace hb1 := hb1.fr hq (by simp[blks]<;>omega)
 replace hb4 := hb4.fr hq (by simp[blks]<;>omega)
 replace hb6 := hb6.fr hq (by simp[blks]<;>omega)
 clear hb5 hq hz; have hb5 : Blk w6 g_5 _ [_] := hbn; clear hbn
 refine tW h (kL [(1, _), (4, _), (5, _), (6, _)] (.c4 rfl rfl rfl rfl) (kE (kQ (kR (s_makeFunc evs_nil (evs_cons rfl (evs_cons rfl (evs_cons rfl evs_nil))) rfl ?_))))); clear h a; intro a h
 refine st_storeB0 h rfl rfl hb6 rfl rfl sz244 ?_; clear h a; intro w7 hbn hq hz a h
 replace hf := hf.sp hq
 replace hy := hy.fr hq (by simp[blks]<;>omega)
 replace hb1 := hb1.fr hq (by simp[blks]<;>omega)
 replace hb4 := hb4.fr hq (by simp[blks]<;>omega)
 replace hb5 := hb5.fr hq (by simp[blks]<;>omega)
 clear hb6 hq hz; have hb6 : Blk w7 g_6 _ [_] := hbn; clear hbn
 refine tW h (kL [(1, _), (4, _), (5, _)] (.c3 rfl rfl rfl) (kE (kQ (kR (s_loadB0 rfl hb5 na244 ?_))))); clear h a; intro a h
 have hrow := (readC l g_1 g_4 g_5 g_6 hl (by omega) hn_1_4 hn_4_5 hn_5_6 (2 * l.length + 1)).1 0 w7 (Nat.zero_le _) (by omega) ⟨hb1, hb4, hb5, hb6, hy⟩
 have hfs := hf.size
 refine st_callv (us := []) (ws := [_, _, _]) h rfl evs_nil co146 hrow rfl (by intro g; simp) ?_; clear h a hrow hb4; rintro _ w9x ⟨x2, ok, rfl, hq, hyes, hno⟩ a h
 replace hf := hf.step hq (by simp; omega)
 replace hb1 := hb1.fr hq (by simp; omega)
 clear hq hb5 hb6 hy
 refine tW h (mv rfl (xt rfl rfl (xt rfl rfl (asg rfl (asg rfl (kL [(1, _), (4, _), (7, _), (8, _)] (.c4 rfl rfl rfl rfl) (kE (kQ ?_)))))))); clear h a; intro a h
 refine region_quiet hmix (by kernel_rfl) ?_
 refine qt_move h rfl rfl ?_; clear h a; intro a h
 refine qt_move h rfl rfl ?_; clear h a; intro a h
 refine qt_move h rfl rfl ?_; clear h a; intro a h
 refine gSp (D := 18) h rfl ?_ ?_
 ·clear h; intro g0 h
  refine qd_yes h rfl rfl rfl rfl rfl rfl ?_
  have hok : ok = true := by simpa using g0
  subst hok
  obtain ⟨xs, q, hr, ho2, hb4⟩ := hyes rfl
  obtain ⟨hq1, hq2, hxl⟩ := read_pos _ true 0 [] xs q (by omega) hr
  replace ho2 := ho2.low hfs
  clear hyes hno
  refine qt_loadB0 h rfl (fun _ hw => hb4.ext hw) na3 rfl ?_; clear h a; intro a h
  refine qd_yes h rfl rfl rfl rfl rfl rfl ?_
  refine qt_loadB0 h rfl (fun _ hw => hb1.ext hw) na9 rfl ?_; clear h a; intro a h
  refine qd_yes h rfl rfl rfl rfl rfl rfl ?_
  refine qt_len h rfl Tryz.underlying9 rfl ?_; clear h a; intro a h
  refine qd_yes h rfl rfl rfl rfl rfl rfl ?_
  refine qt_eq h rfl rfl rfl ?_; clear h a; intro a h
  refine qt_pick_t h rfl rfl rfl rfl ?_; clear h a; intro a h
  refine qt_assign h rfl rfl ?_; clear h a; intro a h
  refine qt_assign h rfl rfl ?_; clear h a; intro a h
  refine wpQuiet_nil ?_
  intro w8 hq
  replace hf := hf.next hq
  replace hb1 := hb1.ext hq
  replace hb4 := hb4.ext hq
  replace ho2 := ho2.ext hq
  clear hq
  replace h : Ag a 24 [(2, _), (3, _)] := h.sub (.c2 rfl rfl)
  refine (norm_then ?_)
  refine wp_ret (ret2 h Tryz.results125 rfl rfl ?_)
  refine ⟨_, rfl, _, _, rfl, hf, fun e => ⟨xs, ?_, hxl, ho2⟩, fun e => ?_⟩
  ·rw [rowS, hr]; exact if_pos (by have := of_decide_eq_true e; omega)
  rw [rowS, hr]; exact if_neg (by have := of_decide_eq_false e; omega)
 clear h; intro g0 h
 refine qd_no h rfl rfl rfl rfl rfl rfl rfl rfl ?_; clear h a; intro a h
 refine qd_no h rfl rfl rfl rfl rfl rfl rfl rfl ?_; clear h a; intro a h
 refine qd_no h rfl rfl rfl rfl rfl rfl rfl rfl ?_; clear h a; intro a h
 refine qd_no h rfl rfl rfl rfl rfl rfl rfl rfl ?_; clear h a; intro a h
 refine qt_pick_f h rfl rfl rfl rfl ?_; clear h a; intro a h
 refine qt_assign h rfl rfl ?_; clear h a; intro a h
 refine qt_assign h rfl rfl ?_; clear h a; intro a h
 refine wpQuiet_nil ?_
 intro w9 hq
 replace hf := hf.next hq
 replace hb1 := hb1.ext hq
 clear hq
 replace h : Ag a 24 [(2, _), (3, _)] := h.sub (.c2 rfl rfl)
 refine (norm_then ?_)
 refine wp_ret (ret2 h Tryz.results125 rfl rfl ?_)
 exact ⟨_, rfl, _, false, rfl, hf, (fun e => by cases e), fun _ => by rw [rowS, hno (by assumption)]⟩
theorem expand_ok (l : List UInt8) (w0 : World) (hy : Sym w0) (hlen : l.length ≤ 9223372036854775807) : Rets Tryz.prog 105 #[S l] w0 fun v w' => ∃ x c, v = .tuple #[.slice x (expandS l).1.length c, .int .i64 (expandS l).2] ∧ c = (expandS l).1.length ∧ Lw.Own encSt 91 w0.heap.size w' (.slice x (expandS l).1.length c) (expandS l).1 ∧ Fr [] w0 w' := by
 refine enter [(0, S l)] Tryz.func105 rfl Tryz.ntmps105 rfl (.cons rfl .nil) ?_
 have hf := Fr.refl [] w0
 intro a h
 refine tC h (kQ (kR (asg rfl (asg rfl (kL [(0, _)] (.cons rfl .nil) (kE (kQ (kQ (kR (mv rfl (ln rfl Tryz.underlying9 (gt' rfl rfl (kL [(0, _), (8, _)] (.c2 rfl rfl) (kE ?_)))))))))))))); clear h a; intro a h
 refine cS h rfl (fun c0=>?_) (fun c0=>?_)
 ·refine tC h (kQ (kR (asg rfl (asg rfl (kL [(2, _), (3, _)] (.c2 rfl rfl) (kE ?_)))))); clear h a; intro a h
  refine wp_ret (ret_then (ret2 h Tryz.results105 rfl rfl ?_))
  have e : expandS l = ([], 3) := by rw [expandS, if_pos (by omega)]
  rw [e]
  exact ⟨_, rfl, none, 0, rfl, rfl, Own.nil _, hf⟩
 refine tC h (kZ (kQ (kR (mv rfl ?_)))); clear h a; intro a h
 refine st_call h (evs_cons rfl evs_nil) co125 (read_ok _ _ (by omega) hy) ?_; clear h a; rintro _ w1 ⟨x2, ok, rfl, hq, hyes, hno⟩ a h
 replace hf := hf.next hq
 replace hy := hy.ext hq
 clear hq
 refine tW h (mv rfl (xt rfl rfl (xt rfl rfl (asg rfl (asg rfl (kL [(4, _), (5, _)] (.c2 rfl rfl) (kE (kQ (kQ (kR (mv rfl (nt' rfl (kL [(4, _), (15, _)] (.c2 rfl rfl) (kE ?_)))))))))))))); clear h a; intro a h
 refine cS h rfl (fun c1=>?_) (fun c1=>?_)
 ·have hok : ok = false := by simpa using c1
  subst hok
  refine tC h (kQ (kR (asg rfl (asg rfl (kL [(2, _), (3, _)] (.c2 rfl rfl) (kE ?_)))))); clear h a; intro a h
  refine wp_ret (ret_then (ret2 h Tryz.results105 rfl rfl ?_))
  have e : expandS l = ([], 4) := by rw [expandS, if_neg (by omega), hno rfl]
  rw [e]
  exact ⟨_, rfl, none, 0, rfl, rfl, Own.nil _, hf⟩
 have hok : ok = true := by simpa using c1
 subst hok
 obtain ⟨xs, hr, hxl, ho⟩ := hyes rfl
 obtain ⟨A, c, rfl, hc⟩ := ho.sl.form
 refine tC h (kZ (kQ (kQ (kR (mv rfl (lnS rfl Tryz.underlying88 (gt' rfl rfl (kL [(4, _), (18, _)] (.c2 rfl rfl) (kE ?_))))))))); clear h a; intro a h
 refine cS h rfl (fun c2=>?_) (fun c2=>?_)
 ·refine tC h (kQ (kR (asg rfl (asg rfl (kL [(2, _), (3, _)] (.c2 rfl rfl) (kE ?_)))))); clear h a; intro a h
  refine wp_ret (ret_then (ret2 h Tryz.results105 rfl rfl ?_))
  have e : expandS l = ([], 3) := by rw [expandS, if_neg (by omega), hr]; exact if_pos (by omega)
  rw [e]
  exact ⟨_, rfl, none, 0, rfl, rfl, Own.nil _, hf⟩
 refine tC h (kZ (kQ (kR (mv rfl ?_)))); clear h a; intro a h
 refine st_call h (evs_cons rfl evs_nil) co126 (clip_ok _ _ _ _ hc) ?_; clear h a; rintro _ _ ⟨rfl, rfl⟩ a h
 replace ho := ho.take rfl (m := xs.length) (Nat.le_refl _) hc (Nat.le_refl _)
 rw [List.take_length] at ho
 refine tW h (asg rfl (asg rfl (kL [(2, _), (3, _)] (.c2 rfl rfl) (kE ?_)))); clear h a; intro a h
 refine wp_ret (ret2 h Tryz.results105 rfl rfl ?_)
 have e : expandS l = (xs, 0) := by rw [expandS, if_neg (by omega), hr]; exact if_neg (by omega)
 rw [e]
 exact ⟨_, rfl, A, _, rfl, rfl, ho, hf⟩
end Go.Proofs.YthehggmdcmpjeaaGreatDoor
namespace Go.Proofs.YthehggmdcmpjeaaGreatDoor
open Go.Lw Go.G14
theorem bo190 : BuildAt Tryz.prog 190 [(0, 1), (1, 1)] [(.int .i64 0), (.int .i64 0)] := BuildAt.array (sz := 1) Tryz.underlying190 (fun _ => by kernel_rfl) (fun _ => by kernel_rfl) (fun i q h => by match i, h with | 0, h => simpa using h.symm | 1, h => simpa using h.symm | (k + 2), h => simp at h)
theorem co38 : CallOf Tryz.prog 38 := mkC Tryz.func38
theorem co132 : CallOf Tryz.prog 132 := mkC Tryz.func132
theorem co133 : CallOf Tryz.prog 133 := mkC Tryz.func133
theorem zv9 (w : World) : (zeroValue 9).run Tryz.prog w = .ok (S []) w := by kernel_rfl
def kV (p : Int × Int) : Value := .agg #[.int .i64 p.1, .int .i64 p.2]
theorem eq98 (p q : Int × Int) (w : World) : (Op.equal 190 (kV p) (kV q)).run Tryz.prog w = .ok (decide (p = q)) w := by
 obtain ⟨a, b⟩ := p
 obtain ⟨c, d⟩ := q
 have hp0 : ∀ (x y : Value) w, (part 3 #[x, y] (0 * 1)).run Tryz.prog w = .ok x w := fun _ _ _ => by kernel_rfl
 have hp1 : ∀ (x y : Value) w, (part 3 #[x, y] 1).run Tryz.prog w = .ok y w := fun _ _ _ => by kernel_rfl
 have hs : ∀ w : World, (sizeOf 3).run Tryz.prog w = .ok 1 w := fun _ => by kernel_rfl
 show (Op.equalIn (9998 + 1 + 1) 190 (kV (a, b)) (kV (c, d))).run Tryz.prog w = _
 unfold Op.equalIn
 simp only [kV, Sem.run_bind, run_underlying Tryz.underlying190, Result.andThen_ok, hs]
 simp only [Std.Legacy.Range.forIn_eq_forIn_range', Std.Legacy.Range.size]
 have hI : ∀ (x y : Int) (w : World), (Op.equalIn 9999 3 (.int .i64 x) (.int .i64 y)).run Tryz.prog w = .ok (x == y) w := fun x y w => run_equalIn_int w 9998 3 _ _ x y Tryz.underlying3
 rw [show List.range' 0 ((2 - 0 + 1 - 1) / 1) = [0, 1] from rfl]
 simp only [List.forIn_cons, List.forIn_nil, Sem.run_bind, hp0, hI, Result.andThen_ok]
 by_cases e : a = c
 ·subst e
  by_cases f : b = d
  ·subst f; simp [hp1, hI]
  simp [f, hp1, hI]
 simp [e]
theorem key98 : KeyLaw Tryz.prog 190 kV := KeyLaw.asking Tryz.underlying190 (fun _ _ => rfl) (fun _ _ _ => by kernel_rfl) eq98 (fun _ => by simp [kV, Instr.sameBits])
set_option maxHeartbeats 4000000 in
theorem shortest_ok (u : Value) (xs : List Stitch) (w0 : World) (hu : Sl encSt w0 u xs) (hn : 1 ≤ xs.length) (hm : xs.length ≤ 16) (hy : Sym w0) : Rets Tryz.prog 108 #[u] w0 fun v w' => v = S (shortS xs) ∧ Fr [] w0 w' := by
 have h00 := hy.pos
 have hrb := hu.blk (by intro e; subst e; simp at hn)
 obtain ⟨A, c, rfl, hc⟩ := hu.form
 have hs := hu
 obtain ⟨-, -, hM, hA⟩ := Sl.open_ hu
 unfold maxLen at hM
 refine enter [(0, .slice A xs.length c)] Tryz.func108 rfl Tryz.ntmps108 rfl (.cons rfl .nil) ?_
 have hf := Fr.refl [] w0
 intro a h
 refine tC h (kQ (kR (asg rfl (kL [(0, _)] (.cons rfl .nil) (kE (kQ (kR ?_))))))); clear h a; intro a h
 refine st_makeMap kV h rfl ?_; clear h a; intro gt w1 hg hmt hq hz a h
 have hlgt : w0.heap.size ≤ gt := by have := hf.size; omega
 replace hf := hf.next hq
 replace hs := hs.ext hq
 replace hy := hy.ext hq
 clear hq hz hg
 refine tW h (asg rfl (kL [(0, _), (3, _)] (.c2 rfl rfl) (kE (kQ (kR ?_))))); clear h a; intro a h
 refine st_makeMap kV h rfl ?_; clear h a; intro gi w2 hg hmi hq hz a h
 have hlgi : w0.heap.size ≤ gi := by have := hf.size; omega
 have hti : gt < gi := by have := hmt.lt; omega
 replace hf := hf.next hq
 replace hs := hs.ext hq
 replace hy := hy.ext hq
 replace hmt := hmt.ext hq
 clear hq hz hg
 refine tW h (asg rfl (kL [(0, _), (3, _), (4, _)] (.c3 rfl rfl rfl) (kE (kQ (kQ (kR (asg rfl (kE (kB ?_))))))))); clear h a; intro a h
 refine loop (ι := Nat) (fun L => [(0, .slice A xs.length c), (3, .map (some gt)), (4, .map (some gi)), (5, .int .i64 (L : Int))]) (fun L w' => 1 ≤ L ∧ L ≤ xs.length + 1 ∧ MapF kV w' gt (mfun xs.length (fun a m => (T xs a m).2) L 0) ∧ MapF kV w' gi (mfun xs.length (fun a m => (T xs a m).1) L 0) ∧ Sl encSt w' (.slice A xs.length c) xs ∧ Sym w' ∧ Fr [] w0 w') (fun L => xs.length + 1 - L) 1 (h.sub (.c4 rfl rfl rfl rfl)) ⟨by omega, by omega, by rw [mfun_zero]; exact hmt, by rw [mfun_zero]; exact hmi, hs, hy, hf⟩ ?_
 clear h a hmt hmi hs hy hf
 rintro L w3 a h ⟨hL1, hL2, hmt, hmi, hs, hy, hf⟩
 refine tC h (kQ (kQ (kR (mv rfl (mv rfl (lnS rfl Tryz.underlying88 (le' rfl rfl (kL [(0, _), (3, _), (4, _), (5, _), (19, _)] (.c5 rfl rfl rfl rfl rfl) (kE ?_))))))))); clear h a; intro a h
 refine cS h rfl (fun c0=>?_) (fun c0=>?_)
 ·refine tC h (kZ (kQ (kB (kQ (kR (asg rfl (kL [(0, _), (3, _), (4, _), (5, _), (6, _)] (.c5 rfl rfl rfl rfl rfl) (kE (kB ?_))))))))); clear h a; intro a h
  refine loop (ι := Nat) (fun i => [(0, .slice A xs.length c), (3, .map (some gt)), (4, .map (some gi)), (5, .int .i64 (L : Int)), (6, .int .i64 (i : Int))]) (fun i w' => i ≤ xs.length + 1 - L ∧ MapF kV w' gt (mfun xs.length (fun a m => (T xs a m).2) L i) ∧ MapF kV w' gi (mfun xs.length (fun a m => (T xs a m).1) L i) ∧ Sl encSt w' (.slice A xs.length c) xs ∧ Sym w' ∧ Fr [] w0 w') (fun i => xs.length + 1 - i) 0 (h.sub (.c5 rfl rfl rfl rfl rfl)) ⟨by omega, hmt, hmi, hs, hy, hf⟩ ?_
  clear h a hmt hmi hs hy hf
  rintro i w4 a h ⟨hiL, hmt, hmi, hs, hy, hf⟩
  refine tC h (kQ (kQ (kR (mv rfl (mv rfl (s_add rfl rfl (by first | exact i6 (by omega) | rfl) (mv rfl (lnS rfl Tryz.underlying88 (le' rfl rfl (kL [(0, _), (3, _), (4, _), (5, _), (6, _), (27, _)] (.c6 rfl rfl rfl rfl rfl rfl) (kE ?_))))))))))); clear h a; intro a h
  refine cS h rfl (fun c1=>?_) (fun c1=>?_)
  ·refine tC h (kZ (kQ (kB (kQ (kR (mv rfl (mv rfl (s_add rfl rfl (by first | exact i6 (by omega) | rfl) (asg rfl (kL [(0, _), (3, _), (4, _), (5, _), (6, _), (7, _)] (.c6 rfl rfl rfl rfl rfl rfl) (kE (kQ (kR (asg rfl (kE ?_))))))))))))))); clear h a; intro a h
   refine seq_cut (Cut (ι := Unit) 115 (fun u => [(0, .slice A xs.length c), (3, .map (some gt)), (4, .map (some gi)), (5, .int .i64 (L : Int)), (6, .int .i64 (i : Int)), (7, .int .i64 ((i : Int) + (L : Int))), (8, S (itemTo (T xs) xs i L 0))]) (fun u w' => MapF kV w' gt (mfun xs.length (fun a m => (T xs a m).2) L i) ∧ MapF kV w' gi (mfun xs.length (fun a m => (T xs a m).1) L i) ∧ Sl encSt w' (.slice A xs.length c) xs ∧ Sym w' ∧ Fr [] w0 w')) ?_ ?_
   ·refine tC h (kQ (kR (mv rfl (eq' rfl rfl (kL [(0, _), (3, _), (4, _), (5, _), (6, _), (7, _), (8, _), (34, _)] (.c8 rfl rfl rfl rfl rfl rfl rfl rfl) (kE ?_)))))); clear h a; intro a h
    refine cS h rfl (fun c2=>?_) (fun c2=>?_)
    ·obtain ⟨x, hxi⟩ : ∃ x, xs[i]? = some x := ⟨_, List.getElem?_eq_getElem (by omega)⟩
     obtain ⟨ad, hAd, ca⟩ := hA i x hxi
     refine tC h (kR (mv rfl (mv rfl (s_idxS (by rw [hAd]; rfl) rfl el88 (s_loadA rfl (ca.fr hf (by simp)) ag91 ?_) (hp := rfl))))); clear h a; intro a h
     refine st_call h (evs_cons rfl evs_nil) co131 (text_ok _ _ hy) ?_; clear h a; rintro _ w5 ⟨rfl, hq⟩ a h
     replace hf := hf.next hq
     replace hmt := hmt.ext hq
     replace hmi := hmi.ext hq
     replace hs := hs.ext hq
     replace hy := hy.ext hq
     clear hq
     refine tW h (asg rfl (kL [(0, _), (3, _), (4, _), (5, _), (6, _), (7, _), (8, _)] (.c7 rfl rfl rfl rfl rfl rfl rfl) ?_)); clear h a; intro a h
     refine wnt ?_
     exact ⟨(), h.sub (.c7 rfl rfl rfl rfl rfl rfl (by first | (rw [itemTo, if_pos (by omega), List.getD, hxi]; rfl) | (rw [itemTo, if_neg (by omega)]; rfl))), hmt, hmi, hs, hy, hf⟩
    refine wsn ?_
    exact ⟨(), h.sub (.c7 rfl rfl rfl rfl rfl rfl (by first | (rw [itemTo, if_pos (by omega), List.getD, hxi]; rfl) | (rw [itemTo, if_neg (by omega)]; rfl))), hmt, hmi, hs, hy, hf⟩
   clear h a hmt hmi hs hy hf
   rintro a w6 ⟨u, h, ⟨hmt, hmi, hs, hy, hf⟩⟩
   refine tC h (kQ (kQ (kR (asg rfl (kE (kB ?_)))))); clear h a; intro a h
   refine loop (ι := Nat) (fun k => [(0, .slice A xs.length c), (3, .map (some gt)), (4, .map (some gi)), (5, .int .i64 (L : Int)), (6, .int .i64 (i : Int)), (7, .int .i64 ((i : Int) + (L : Int))), (8, S (itemTo (T xs) xs i L k)), (9, .int .i64 ((k : Int) + 2))]) (fun k w' => k ≤ L - 1 ∧ MapF kV w' gt (mfun xs.length (fun a m => (T xs a m).2) L i) ∧ MapF kV w' gi (mfun xs.length (fun a m => (T xs a m).1) L i) ∧ Sl encSt w' (.slice A xs.length c) xs ∧ Sym w' ∧ Fr [] w0 w') (fun k => L - k) 0 (h.sub (.c8 rfl rfl rfl rfl rfl rfl rfl rfl)) ⟨by omega, hmt, hmi, hs, hy, hf⟩ ?_
   clear h a hmt hmi hs hy hf
   rintro k w7 a h ⟨hk, hmt, hmi, hs, hy, hf⟩
   have hdl : L / (k + 2) * (k + 2) ≤ L := Nat.div_mul_le_self _ _
   have hil := itemT_len xs i L k hL1
   refine tC h (kQ (kQ (kR (mv rfl (mv rfl (le' rfl rfl (kL [(0, _), (3, _), (4, _), (5, _), (6, _), (7, _), (8, _), (9, _), (42, _)] (.d8 rfl rfl rfl rfl rfl rfl rfl rfl (.cons rfl .nil)) (kE ?_)))))))); clear h a; intro a h
   refine cS h rfl (fun c3=>?_) (fun c3=>?_)
   ·have hk2 : 2 ≤ k + 2 := by omega
    refine tC h (kZ (kQ (kB (kQ (kR (mv rfl (mv rfl ?_))))))); clear h a; intro a h
    refine st_quo (z := ((L / (k + 2) : Nat) : Int)) h rfl rfl (by omega) (by rw [IntWalk.i64_quo _ _ (by omega)]; exact (Int.natCast_ediv L (k + 2)).symm) rfl ?_; clear h a; intro a h
    refine tW h (asg rfl (kL [(0, _), (3, _), (4, _), (5, _), (6, _), (7, _), (8, _), (9, _), (10, _)] (.d8 rfl rfl rfl rfl rfl rfl rfl rfl (.cons rfl .nil)) (kE (kQ (kR (mv rfl (mv rfl ?_))))))); clear h a; intro a h
    refine st_mul (z := ((L / (k + 2) * (k + 2) : Nat) : Int)) h rfl rfl (by rw [show ((L / (k + 2) : Nat) : Int) * ((k : Int) + 2) = ((L / (k + 2) * (k + 2) : Nat) : Int) from rfl]; exact IntWalk.i64_in _ (by omega)) rfl ?_; clear h a; intro a h
    refine tW h (mv rfl (eq' rfl rfl (mv rfl ?_))); clear h a; intro a h
    refine gSp (D := 53) h rfl ?_ ?_
    ·clear h; intro g0 h
     refine tW h (kY rfl (mv rfl (kY rfl (mv rfl (kY rfl (mv rfl (kY rfl (s_sl_lh (p := i) (p' := i + L) rfl rfl rfl el88 (by omega) (by omega) (by omega) (by omega) (by omega) rfl (kY rfl (mv rfl ?_)))))))))); clear h a; intro a h
     refine gd_yes h rfl rfl rfl rfl rfl rfl ?_
     refine st_call h (evs_cons rfl (evs_cons rfl evs_nil)) co132 (repeats_ok _ (partS xs i L) _ _ (part_sl hs (by omega)) (by rw [part_len (show i + L ≤ xs.length by omega)]; have := Nat.div_le_self L (k + 2); omega)) ?_; clear h a; rintro _ w8 ⟨rfl, hq⟩ a h
     replace hf := hf.next hq
     replace hmt := hmt.ext hq
     replace hmi := hmi.ext hq
     replace hs := hs.ext hq
     replace hy := hy.ext hq
     clear hq
     refine tW h (pkt rfl rfl (kL [(0, _), (3, _), (4, _), (5, _), (6, _), (7, _), (8, _), (9, _), (10, _), (60, _)] (.d8 rfl rfl rfl rfl rfl rfl rfl rfl (.c2 rfl rfl)) (kE ?_))); clear h a; intro a h
     refine cS h rfl (fun c4=>?_) (fun c4=>?_)
     ·have hone : 1 ≤ L / (k + 2) := by
       rcases Nat.eq_zero_or_pos (L / (k + 2)) with e | e
       ·rw [e] at hdl; have hz : L / (k + 2) * (k + 2) = L := by omega
        rw [e] at hz; omega
       exact e
      have hlt1 : L / (k + 2) < L := Nat.div_lt_self (by omega) (by omega)
      have hTl := (T_len xs i (L / (k + 2)) hone).2
      refine region_quiet hmix (by kernel_rfl) ?_
      refine qt_move h rfl rfl ?_; clear h a; intro a h
      refine qt_move h rfl rfl ?_; clear h a; intro a h
      refine qt_move h rfl rfl ?_; clear h a; intro a h
      refine qt_move h rfl rfl ?_; clear h a; intro a h
      refine qt_move h rfl rfl ?_; clear h a; intro a h
      refine qt_add h rfl rfl (by first | exact i6 (by omega) | rfl) rfl ?_; clear h a; intro a h
      refine qt_lit (cs := [_, _]) h (evs_cons rfl (evs_cons rfl evs_nil)) bo190 (pok_cons rfl rfl rfl (pok_cons rfl rfl rfl pok_nil)) rfl rfl ?_; clear h a; intro a h
      refine qt_lookup (V := kV) (k := ((i : Int), (i : Int) + ((L / (k + 2) : Nat) : Int))) h rfl rfl (fun _ hw => hmt.ext hw) key98 Tryz.underlying231 zv9 (mfun_hit _ (i) (L / (k + 2)) _ _ (by omega) (by omega) (by omega) (by omega) (by omega) _) rfl ?_; clear h a; intro a h
      refine qt_adds h rfl rfl (by simp<;>omega) rfl ?_; clear h a; intro a h
      refine qt_adds h rfl rfl (by simp<;>omega) rfl ?_; clear h a; intro a h
      refine qt_move h rfl rfl ?_; clear h a; intro a h
      refine qt_call h (evs_cons rfl evs_nil) co38 (fun w hw => (itoa_ok (k + 2) w (by omega)).mono fun u w' ⟨e, f⟩ => ⟨e, f ▸ hw⟩) rfl ?_; clear h a; intro a h
      have hit := itoa_len (k + 2)
      refine qt_adds h rfl rfl (by simp; omega) rfl ?_; clear h a; intro a h
      refine qt_call h (evs_cons rfl (evs_cons rfl evs_nil)) co133 (fun w hw => (better_ok _ _ w).mono fun u w' ⟨e, f⟩ => ⟨e, f ▸ hw⟩) rfl ?_; clear h a; intro a h
      refine qt_assign h rfl rfl ?_; clear h a; intro a h
      refine wpQuiet_nil ?_
      intro w9 hq
      replace hf := hf.next hq
      replace hmt := hmt.ext hq
      replace hmi := hmi.ext hq
      replace hs := hs.ext hq
      replace hy := hy.ext hq
      clear hq
      replace h : Ag a 115 [(0, _), (3, _), (4, _), (5, _), (6, _), (7, _), (8, _), (9, _)] := h.sub (.c8 rfl rfl rfl rfl rfl rfl rfl rfl)
      refine (norm_blk (norm_then ?_))
      refine tC h (kR (mv rfl (s_add rfl rfl (by first | exact i6 (by omega) | rfl) (asg rfl (kL [(0, _), (3, _), (4, _), (5, _), (6, _), (7, _), (8, _), (9, _)] (.c8 rfl rfl rfl rfl rfl rfl rfl rfl) ?_))))); clear h a; intro a h
      refine wnt ?_
      exact ⟨k + 1, h.sub (.c8 rfl rfl rfl rfl rfl rfl (by first | rfl | exact congrArg (fun x => some (S x)) (itemTo_no (fun e => absurd e.1 (by omega))) | exact congrArg (fun x => some (S x)) (itemTo_no (fun e => c4 ((repsB_iff (by omega)).1 e.2))) | exact congrArg (fun x => some (S x)) (itemTo_yes (by omega) ((repsB_iff (by omega)).2 c4))) (by first | rfl | (congr 2; omega))), ⟨by omega, hmt, hmi, hs, hy, hf⟩, by omega⟩
     refine wp_skip (norm_blk (norm_then ?_))
     refine tC h (kR (mv rfl (s_add rfl rfl (by first | exact i6 (by omega) | rfl) (asg rfl (kL [(0, _), (3, _), (4, _), (5, _), (6, _), (7, _), (8, _), (9, _)] (.c8 rfl rfl rfl rfl rfl rfl rfl rfl) ?_))))); clear h a; intro a h
     refine wnt ?_
     exact ⟨k + 1, h.sub (.c8 rfl rfl rfl rfl rfl rfl (by first | rfl | exact congrArg (fun x => some (S x)) (itemTo_no (fun e => absurd e.1 (by omega))) | exact congrArg (fun x => some (S x)) (itemTo_no (fun e => c4 ((repsB_iff (by omega)).1 e.2))) | exact congrArg (fun x => some (S x)) (itemTo_yes (by omega) ((repsB_iff (by omega)).2 c4))) (by first | rfl | (congr 2; omega))), ⟨by omega, hmt, hmi, hs, hy, hf⟩, by omega⟩
    clear h; intro g0 h
    refine tW h (kN rfl rfl (kN rfl rfl (kN rfl rfl (kN rfl rfl (kN rfl rfl (kN rfl rfl (pkf rfl rfl (kL [(0, _), (3, _), (4, _), (5, _), (6, _), (7, _), (8, _), (9, _), (10, _), (60, _)] (.d8 rfl rfl rfl rfl rfl rfl rfl rfl (.c2 rfl rfl)) ?_)))))))); clear h a; intro a h
    refine wnt ?_
    refine cond_false h rfl ?_
    refine wp_skip (norm_blk (norm_then ?_))
    refine tC h (kR (mv rfl (s_add rfl rfl (by first | exact i6 (by omega) | rfl) (asg rfl (kL [(0, _), (3, _), (4, _), (5, _), (6, _), (7, _), (8, _), (9, _)] (.c8 rfl rfl rfl rfl rfl rfl rfl rfl) ?_))))); clear h a; intro a h
    refine wnt ?_
    exact ⟨k + 1, h.sub (.c8 rfl rfl rfl rfl rfl rfl (by first | rfl | exact congrArg (fun x => some (S x)) (itemTo_no (fun e => absurd e.1 (by omega))) | exact congrArg (fun x => some (S x)) (itemTo_no (fun e => c4 ((repsB_iff (by omega)).1 e.2))) | exact congrArg (fun x => some (S x)) (itemTo_yes (by omega) ((repsB_iff (by omega)).2 c4))) (by first | rfl | (congr 2; omega))), ⟨by omega, hmt, hmi, hs, hy, hf⟩, by omega⟩
   obtain rfl : k = L - 1 := by omega
   refine wp_exit (exit_then (exit_then (exit_here (norm_then ?_))))
   refine tC h (kQ (kR (mv rfl (asg rfl (kL [(0, _), (3, _), (4, _), (5, _), (6, _), (7, _), (8, _), (11, _)] (.c8 rfl rfl rfl rfl rfl rfl rfl rfl) (kE (kQ (kQ (kR (mv rfl (s_add rfl rfl (by first | exact i6 (by omega) | rfl) (asg rfl (kL [(0, _), (3, _), (4, _), (5, _), (6, _), (7, _), (8, _), (11, _), (12, _)] (.d8 rfl rfl rfl rfl rfl rfl rfl rfl (.cons rfl .nil)) (kE (kB ?_))))))))))))))); clear h a; intro a h
   refine loop (ι := Nat) (fun m => [(0, .slice A xs.length c), (3, .map (some gt)), (4, .map (some gi)), (5, .int .i64 (L : Int)), (6, .int .i64 (i : Int)), (7, .int .i64 ((i : Int) + (L : Int))), (8, S (itemTo (T xs) xs i L (L - 1))), (11, S (textTo (T xs) i L (itemTo (T xs) xs i L (L - 1)) m)), (12, .int .i64 ((i : Int) + 1 + (m : Int)))]) (fun m w' => m ≤ L - 1 ∧ MapF kV w' gt (mfun xs.length (fun a m => (T xs a m).2) L i) ∧ MapF kV w' gi (mfun xs.length (fun a m => (T xs a m).1) L i) ∧ Sl encSt w' (.slice A xs.length c) xs ∧ Sym w' ∧ Fr [] w0 w') (fun m => L - m) 0 (h.sub (.d8 rfl rfl rfl rfl rfl rfl rfl rfl (.cons (by first | rfl | (congr 2; omega)) .nil))) ⟨by omega, hmt, hmi, hs, hy, hf⟩ ?_
   clear h a hmt hmi hs hy hf
   rintro m w10 a h ⟨hml, hmt, hmi, hs, hy, hf⟩
   have hil := itemT_len xs i L (L - 1) hL1
   have htl := textT_len xs i L m _ hil (by omega)
   refine tC h (kQ (kQ (kR (mv rfl (mv rfl (lt' rfl rfl (kL [(0, _), (3, _), (4, _), (5, _), (6, _), (7, _), (8, _), (11, _), (12, _), (80, _)] (.d8 rfl rfl rfl rfl rfl rfl rfl rfl (.c2 rfl rfl)) (kE ?_)))))))); clear h a; intro a h
   refine cS h rfl (fun c5=>?_) (fun c5=>?_)
   ·refine tC h (kZ (kQ (kB (kQ (kR (mv rfl (mv rfl (mv rfl (s_lit (cs := [_, _]) (evs_cons rfl (evs_cons rfl evs_nil)) bo190 (pok_cons rfl rfl rfl (pok_cons rfl rfl rfl pok_nil)) rfl ?_))))))))); clear h a; intro a h
    have hTi := T_len xs i (m + 1) (by omega)
    refine st_lookup (V := kV) (k := ((i : Int), (i : Int) + 1 + (m : Int))) h rfl rfl hmi key98 Tryz.underlying231 zv9 (mfun_hit _ (i) (m + 1) _ _ (by omega) (by omega) (by omega) (by omega) (by omega) _) rfl ?_; clear h a; intro a h
    refine tW h (asg rfl (kL [(0, _), (3, _), (4, _), (5, _), (6, _), (7, _), (8, _), (11, _), (12, _), (13, _)] (.d8 rfl rfl rfl rfl rfl rfl rfl rfl (.c2 rfl rfl)) (kE (kQ (kR (mv rfl (s_nes rfl rfl (kL [(0, _), (3, _), (4, _), (5, _), (6, _), (7, _), (8, _), (11, _), (12, _), (13, _), (89, _)] (.d8 rfl rfl rfl rfl rfl rfl rfl rfl (.c3 rfl rfl rfl)) (kE ?_))))))))); clear h a; intro a h
    refine cS h rfl (fun c6=>?_) (fun c6=>?_)
    ·refine tC h (kR (mv rfl (mv rfl (s_adds rfl rfl (mv rfl (mv rfl (mv rfl (s_lit (cs := [_, _]) (evs_cons rfl (evs_cons rfl evs_nil)) bo190 (pok_cons rfl rfl rfl (pok_cons rfl rfl rfl pok_nil)) rfl ?_)))) (hb := (by simp<;>omega)))))); clear h a; intro a h
     have hTr := (T_len xs (i + (m + 1)) (L - (m + 1)) (by omega)).2
     refine st_lookup (V := kV) (k := ((i : Int) + 1 + (m : Int), (i : Int) + (L : Int))) h rfl rfl hmt key98 Tryz.underlying231 zv9 (mfun_hit _ (i + (m + 1)) (L - (m + 1)) _ _ (by omega) (by omega) (by omega) (by omega) (by omega) _) rfl ?_; clear h a; intro a h
     refine st_adds h rfl rfl (by simp<;>omega) rfl ?_; clear h a; intro a h
     refine st_call h (evs_cons rfl (evs_cons rfl evs_nil)) co133 (better_ok _ _ _) ?_; clear h a; rintro _ _ ⟨rfl, rfl⟩ a h
     refine tW h (asg rfl (kL [(0, _), (3, _), (4, _), (5, _), (6, _), (7, _), (8, _), (11, _), (12, _)] (.d8 rfl rfl rfl rfl rfl rfl rfl rfl (.cons rfl .nil)) ?_)); clear h a; intro a h
     refine wpList_nil (norm_blk (norm_then ?_))
     refine tC h (kR (mv rfl (s_add rfl rfl (by first | exact i6 (by omega) | rfl) (asg rfl (kL [(0, _), (3, _), (4, _), (5, _), (6, _), (7, _), (8, _), (11, _), (12, _)] (.d8 rfl rfl rfl rfl rfl rfl rfl rfl (.cons rfl .nil)) ?_))))); clear h a; intro a h
     refine wnt ?_
     exact ⟨m + 1, h.sub (.d8 rfl rfl rfl rfl rfl rfl rfl (by first | exact congrArg (fun x => some (S x)) (textTo_yes c6) | exact congrArg (fun x => some (S x)) (textTo_no c6)) (.cons (by first | rfl | (congr 2; omega)) .nil)), ⟨by omega, hmt, hmi, hs, hy, hf⟩, by omega⟩
    refine wp_skip (norm_blk (norm_then ?_))
    refine tC h (kR (mv rfl (s_add rfl rfl (by first | exact i6 (by omega) | rfl) (asg rfl (kL [(0, _), (3, _), (4, _), (5, _), (6, _), (7, _), (8, _), (11, _), (12, _)] (.d8 rfl rfl rfl rfl rfl rfl rfl rfl (.cons rfl .nil)) ?_))))); clear h a; intro a h
    refine wnt ?_
    exact ⟨m + 1, h.sub (.d8 rfl rfl rfl rfl rfl rfl rfl (by first | exact congrArg (fun x => some (S x)) (textTo_yes c6) | exact congrArg (fun x => some (S x)) (textTo_no c6)) (.cons (by first | rfl | (congr 2; omega)) .nil)), ⟨by omega, hmt, hmi, hs, hy, hf⟩, by omega⟩
   obtain rfl : m = L - 1 := by omega
   rw [show itemTo (T xs) xs i L (L - 1) = (T xs i L).1 from (T_item xs i L hL1 (by omega)).symm, ← T_text xs i L hL1 (by omega), T_item xs i L hL1 (by omega)] at h
   refine wp_exit (exit_then (exit_then (exit_here (norm_then ?_))))
   refine tC h (kQ (kR (mv rfl (mv rfl (mv rfl (s_lit (cs := [_, _]) (evs_cons rfl (evs_cons rfl evs_nil)) bo190 (pok_cons rfl rfl rfl (pok_cons rfl rfl rfl pok_nil)) rfl (mv rfl ?_))))))); clear h a; intro a h
   refine st_mapSet (k := ((i : Int), (i : Int) + (L : Int))) h rfl rfl rfl hmi key98 Tryz.underlying231 ?_; clear h a; intro w11 hmn hq hz a h
   replace hf := hf.step hq (by simp; omega)
   replace hs := hs.fr hq (by intro k hk hb; have := hrb k hb; simp at hk; omega)
   replace hy := hy.fr hq (by simp; omega)
   replace hmt := hmt.fr hq (by simp; omega)
   rw [show itemTo (T xs) xs i L (L - 1) = (T xs i L).1 from (T_item xs i L hL1 (by omega)).symm] at hmn
   rw [mfun_set (fun a m => (T xs a m).1) hL1 (by omega)] at hmn
   clear hq hz hmi; have hmi := hmn; clear hmn
   refine tW h (kL [(0, _), (3, _), (4, _), (5, _), (6, _), (7, _), (11, _)] (.c7 rfl rfl rfl rfl rfl rfl rfl) (kE (kR (mv rfl (mv rfl (mv rfl (s_lit (cs := [_, _]) (evs_cons rfl (evs_cons rfl evs_nil)) bo190 (pok_cons rfl rfl rfl (pok_cons rfl rfl rfl pok_nil)) rfl (mv rfl ?_)))))))); clear h a; intro a h
   refine st_mapSet (k := ((i : Int), (i : Int) + (L : Int))) h rfl rfl rfl hmt key98 Tryz.underlying231 ?_; clear h a; intro w12 hmn hq hz a h
   replace hf := hf.step hq (by simp; omega)
   replace hs := hs.fr hq (by intro k hk hb; have := hrb k hb; simp at hk; omega)
   replace hy := hy.fr hq (by simp; omega)
   replace hmi := hmi.fr hq (by simp; omega)
   rw [mfun_set (fun a m => (T xs a m).2) hL1 (by omega)] at hmn
   clear hq hz hmt; have hmt := hmn; clear hmn
   replace h : Ag a 115 [(0, _), (3, _), (4, _), (5, _), (6, _)] := h.sub (.c5 rfl rfl rfl rfl rfl)
   refine wpList_nil (norm_blk (norm_then ?_))
   refine tC h (kR (mv rfl (s_add rfl rfl (by first | exact i6 (by omega) | rfl) (asg rfl (kL [(0, _), (3, _), (4, _), (5, _), (6, _)] (.c5 rfl rfl rfl rfl rfl) ?_))))); clear h a; intro a h
   refine wnt ?_
   exact ⟨i + 1, h.sub (.c5 rfl rfl rfl rfl rfl), ⟨by omega, hmt, hmi, hs, hy, hf⟩, by omega⟩
  refine wp_exit (exit_then (exit_then (exit_here (norm_blk (norm_then ?_)))))
  refine tC h (kR (mv rfl (s_add rfl rfl (by first | exact i6 (by omega) | rfl) (asg rfl (kL [(0, _), (3, _), (4, _), (5, _)] (.c4 rfl rfl rfl rfl) ?_))))); clear h a; intro a h
  refine wnt ?_
  exact ⟨L + 1, h.sub (.c4 rfl rfl rfl rfl), ⟨by omega, by omega, by rw [← mfun_next _ (show xs.length < i + L by omega)]; exact hmt, by rw [← mfun_next _ (show xs.length < i + L by omega)]; exact hmi, hs, hy, hf⟩, by omega⟩
 obtain rfl : L = xs.length + 1 := by omega
 refine wp_exit (exit_then (exit_then (exit_here (norm_then ?_))))
 refine tC h (kQ (kR (mv rfl (mv rfl (lnS rfl Tryz.underlying88 (s_lit (cs := [_, _]) (evs_cons rfl (evs_cons rfl evs_nil)) bo190 (pok_cons rfl rfl rfl (pok_cons rfl rfl rfl pok_nil)) rfl ?_)))))); clear h a; intro a h
 refine st_lookup (V := kV) (k := (0, (xs.length : Int))) h rfl rfl hmt key98 Tryz.underlying231 zv9 (mfun_hit _ 0 xs.length _ _ (by omega) (by omega) (by omega) (by omega) (by omega) _) rfl ?_; clear h a; intro a h
 refine tW h (asg rfl (kL [(2, _)] (.cons rfl .nil) (kE ?_))); clear h a; intro a h
 refine wp_ret (ret1 h Tryz.results108 rfl ?_)
 exact ⟨_, rfl, rfl, hf⟩
end Go.Proofs.YthehggmdcmpjeaaGreatDoor
