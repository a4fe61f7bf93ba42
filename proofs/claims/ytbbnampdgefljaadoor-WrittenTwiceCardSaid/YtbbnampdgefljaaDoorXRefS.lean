/- The shortest texts as the reference finds them: by all divisions in two rows, and by repeats; they are the same. Conditions: none. -/
import Derived.Test.YtbbnampdgefljaaDoorXLaws
set_option linter.unusedVariables false
set_option linter.unusedSimpArgs false
namespace Go.G14
open Go.Lw

abbrev bT (row : List Stitch) (i n : Nat) : List UInt8 := (T row i n).2
abbrev bothT (row : List Stitch) (i n k : Nat) : List UInt8 := bT row i k ++ [32] ++ bT row (i + k) (n - k)
def refStep (row : List Stitch) (i n k : Nat) (t : List UInt8) : List UInt8 :=
  if n % k = 0 ∧ repsB row i n k = true then betterS (betterS t (bothT row i n k)) (repT (bT row i k) (n / k)) else betterS t (bothT row i n k)
def refTo (row : List Stitch) (i n : Nat) : Nat → List UInt8
  | 0 => if n = 1 then textS (row.getD i zeroSt) else []
  | k + 1 => refStep row i n (k + 1) (refTo row i n k)
theorem better_inv {xs : List Stitch} {t c : List UInt8} {C : List UInt8 → Prop} (h : (t ≠ [] → Txt true t xs) ∧ ∀ s, C s → t ≠ [] ∧ leP t s) (hc : Txt true c xs) (hn : c ≠ []) :
    (betterS t c ≠ [] → Txt true (betterS t c) xs) ∧ (∀ s, C s ∨ s = c → betterS t c ≠ [] ∧ leP (betterS t c) s) := by
  have hne : betterS t c ≠ [] := better_ne hn
  refine ⟨fun _ => ?_, fun s hs => ⟨hne, ?_⟩⟩
  · rcases better_cases t c with e | e
    · rw [e] at hne ⊢; exact h.1 hne
    · rw [e]; exact hc
  · rcases hs with hs | rfl
    · obtain ⟨h1, h2⟩ := h.2 s hs
      exact leP_trans (better_le_left h1 hn) h2
    · exact better_le_right hn
/-- What has been tried with the first m stitches up to k. -/
def Tried (row : List Stitch) (i n k : Nat) (s : List UInt8) : Prop :=
  (n = 1 ∧ s = textS (row.getD i zeroSt)) ∨ ∃ m, 1 ≤ m ∧ m ≤ k ∧ (s = bothT row i n m ∨ (n % m = 0 ∧ repsB row i n m = true ∧ s = repT (bT row i m) (n / m)))
theorem mod_div {n k : Nat} (h : n % k = 0) : n / k * k = n := by
  have := Nat.div_add_mod n k
  rw [h, Nat.mul_comm] at this; omega
theorem div_div {n m : Nat} (h1 : 1 ≤ m) (hn : 1 ≤ n) (h : n % m = 0) : n / (n / m) = m := by
  have e := mod_div h
  have hq : 1 ≤ n / m := by
    rcases Nat.eq_zero_or_pos (n / m) with z | z
    · rw [z] at e; omega
    · exact z
  refine Nat.div_eq_of_lt_le ?_ ?_
  · rw [Nat.mul_comm]; omega
  · rw [Nat.mul_comm]
    have h2 : n / m * (m + 1) = n / m * m + n / m := by rw [Nat.mul_add, Nat.mul_one]
    omega
theorem ref_inv {row : List Stitch} {i n : Nat} (hok : row.all okB = true) (h16 : row.length ≤ 16) (hi : i + n ≤ row.length) (hn : 1 ≤ n) : ∀ k, k < n →
    (refTo row i n k ≠ [] → Txt true (refTo row i n k) (partS row i n)) ∧ (∀ s, Tried row i n k s → refTo row i n k ≠ [] ∧ leP (refTo row i n k) s)
  | 0, _ => by
    by_cases h1 : n = 1
    · subst h1
      obtain ⟨x, hx⟩ : ∃ x, row[i]? = some x := ⟨_, List.getElem?_eq_getElem (by omega)⟩
      have hck := (okB_iff x).1 (List.all_eq_true.1 hok x (List.mem_of_getElem? hx))
      have e : refTo row i 1 0 = textS x := by rw [refTo, if_pos rfl, List.getD, hx]; rfl
      have ep : partS row i 1 = [x] := by
        have hl := part_len hi
        obtain ⟨y, hy⟩ := List.length_eq_one_iff.1 hl
        have := congrArg (·[0]?) hy
        simp [partS, hx] at this
        rw [hy, this]
      refine ⟨fun _ => by rw [e, ep]; exact .one (.leaf hck), fun s hs => ?_⟩
      rcases hs with ⟨_, rfl⟩ | ⟨m, h1, h2, _⟩
      · rw [List.getD, hx, e]; exact ⟨(text_ok_of hck).2.2.2, leP_refl _⟩
      · omega
    · refine ⟨fun h => absurd (by rw [refTo, if_neg h1]) h, fun s hs => ?_⟩
      rcases hs with ⟨h, _⟩ | ⟨m, h1, h2, _⟩
      · exact absurd h h1
      · omega
  | k + 1, hk => by
    have ih := ref_inv hok h16 hi hn k (by omega)
    have ha := (T_ok hok h16 (k + 1) (by omega) i (by omega)).2
    have hb := (T_ok hok h16 (n - (k + 1)) (by omega) (i + (k + 1)) (by omega)).2
    have hT : Txt true (bothT row i n (k + 1)) (partS row i n) := by
      rw [part_split (m := k + 1) (by omega)]
      exact Txt.app ha.1 hb.1
    have h1 := better_inv ih hT (cons_ne _ _)
    have hs1 : ∀ s, Tried row i n (k + 1) s → Tried row i n k s ∨ s = bothT row i n (k + 1) ∨ (n % (k + 1) = 0 ∧ repsB row i n (k + 1) = true ∧ s = repT (bT row i (k + 1)) (n / (k + 1))) := by
      rintro s (h | ⟨m, m1, m2, m3⟩)
      · exact .inl (.inl h)
      · rcases Nat.lt_or_ge m (k + 1) with h | h
        · exact .inl (.inr ⟨m, m1, by omega, m3⟩)
        · obtain rfl : m = k + 1 := by omega
          exact .inr m3
    by_cases c : n % (k + 1) = 0 ∧ repsB row i n (k + 1) = true
    · have e : refTo row i n (k + 1) = betterS (betterS (refTo row i n k) (bothT row i n (k + 1))) (repT (bT row i (k + 1)) (n / (k + 1))) := by rw [refTo, refStep, if_pos c]
      have hd := mod_div c.1
      have hq : 2 ≤ n / (k + 1) := by
        rcases Nat.lt_or_ge (n / (k + 1)) 2 with z | z
        · have : n / (k + 1) * (k + 1) ≤ 1 * (k + 1) := Nat.mul_le_mul_right _ (by omega)
          omega
        · exact z
      have hR : Txt true (repT (bT row i (k + 1)) (n / (k + 1))) (partS row i n) := by
        have h3 := Txt.rep ha.1 hq (by have := Nat.div_le_self n (k + 1); omega)
        have e2 := div_div (show 1 ≤ k + 1 by omega) hn c.1
        have e3 : timesS (partS row i (k + 1)) (n / (k + 1)) = partS row i n := by
          have := part_times (k := n / (k + 1)) hi (by rw [e2, Nat.mul_comm]; exact hd) (by rw [e2]; exact c.2)
          rwa [e2] at this
        rw [e3] at h3
        exact .one h3
      have h2 := better_inv h1 hR (rep_ne _ _)
      rw [e]
      refine ⟨h2.1, fun s hs => h2.2 s ?_⟩
      rcases hs1 s hs with h | h | h
      · exact .inl (.inl h)
      · exact .inl (.inr h)
      · exact .inr h.2.2
    · have e : refTo row i n (k + 1) = betterS (refTo row i n k) (bothT row i n (k + 1)) := by rw [refTo, refStep, if_neg c]
      rw [e]
      refine ⟨h1.1, fun s hs => h1.2 s ?_⟩
      rcases hs1 s hs with h | h | h
      · exact .inl h
      · exact .inr h
      · exact absurd ⟨h.1, h.2.1⟩ c
theorem ref_done {row : List Stitch} {i n : Nat} (hok : row.all okB = true) (h16 : row.length ≤ 16) (hi : i + n ≤ row.length) (hn : 1 ≤ n) : refTo row i n (n - 1) = bT row i n := by
  obtain ⟨r1, r2⟩ := ref_inv hok h16 hi hn (n - 1) (by omega)
  have hB := (T_ok hok h16 n hn i hi).2
  have hleast : refTo row i n (n - 1) ≠ [] ∧ ∀ s, Txt true s (partS row i n) → leP (refTo row i n (n - 1)) s := by
    have key : ∀ s, Txt true s (partS row i n) → refTo row i n (n - 1) ≠ [] ∧ leP (refTo row i n (n - 1)) s := by
      intro s hs
      generalize hp : partS row i n = xs at hs
      generalize hb : true = tg at hs
      cases hs with
      | leaf => cases hb
      | rep => cases hb
      | one h =>
        generalize hb2 : false = tg2 at h
        cases h with
        | one => cases hb2
        | cons => cases hb2
        | @leaf x hx =>
          have hl := part_len hi
          rw [hp] at hl
          have h1 : n = 1 := hl.symm
          subst h1
          have hget : row[i]? = some x := by
            have := congrArg (·[0]?) hp
            simpa [partS] using this
          exact r2 _ (.inl ⟨rfl, by rw [List.getD, hget]; rfl⟩)
        | @rep t' ys k hT h2 hk16 =>
          obtain ⟨e1, e2, e3, e4⟩ := part_of_times hi (by omega) hp.symm
          have hm1 : 1 ≤ n / k := by
            rw [← e4]; exact List.length_pos_iff.2 hT.ok.1
          have hm2 : n / k < n := Nat.div_lt_self (by omega) (by omega)
          have hmod : n % (n / k) = 0 := by
            have : n = n / k * k := e1.symm
            rw [this, Nat.mul_div_cancel _ (by omega)]
            exact Nat.mul_mod_right _ _
          have hdd : n / (n / k) = k := by
            refine Nat.div_eq_of_eq_mul_left (by omega) ?_
            rw [Nat.mul_comm]; exact e1.symm
          have h3 := r2 _ (.inr ⟨n / k, hm1, by omega, .inr ⟨hmod, e3, rfl⟩⟩)
          rw [hdd] at h3
          refine ⟨h3.1, leP_trans h3.2 (leP_rep k ((T_ok hok h16 (n / k) hm1 i (by omega)).2.2 t' ?_))⟩
          rw [← e2]; exact hT
      | @cons a b ys zs ha hbT =>
        have hl := part_len hi
        rw [hp, List.length_append] at hl
        have hy : 1 ≤ ys.length := List.length_pos_iff.2 ha.ok.1
        have hz : 1 ≤ zs.length := List.length_pos_iff.2 hbT.ok.1
        have e1 : ys = partS row i ys.length := by rw [← part_take (n := n) (by omega), hp, List.take_left]
        have e2 : zs = partS row (i + ys.length) (n - ys.length) := by
          have := part_split (row := row) (i := i) (m := ys.length) (n := n) (by omega)
          rw [hp, ← e1] at this
          exact List.append_cancel_left this
        have h1 := (T_ok hok h16 ys.length hy i (by omega)).2.2 a (by rw [← e1]; exact .one ha)
        have h2 := (T_ok hok h16 (n - ys.length) (by omega) (i + ys.length) (by omega)).2.2 b (by rw [← e2]; exact hbT)
        have h3 := r2 _ (.inr ⟨ys.length, hy, by omega, .inl rfl⟩)
        exact ⟨h3.1, leP_trans h3.2 (leP_cons h1 h2)⟩
    exact ⟨(key _ hB.1).1, fun s hs => (key s hs).2⟩
  exact leP_antis (hleast.2 _ hB.1) (hB.2 _ (r1 hleast.1))
end Go.G14
