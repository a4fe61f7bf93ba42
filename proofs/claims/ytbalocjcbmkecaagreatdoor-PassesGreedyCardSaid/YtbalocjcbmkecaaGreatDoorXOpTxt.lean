/- Lines with spaces and remarks, long programs: plain. Conditions: none. -/
import Derived.Test.YtbalocjcbmkecaaGreatDoorXOpLns
set_option linter.unusedVariables false
set_option linter.unusedSimpArgs false
namespace Go.Lw
theorem trimR_no {l : List UInt8} (h2 : l.getLast? ≠ some 32) : Lib.trimRightB l 32 = l := by
  unfold Lib.trimRightB
  cases e : l.reverse with
  | nil => simp at e; rw [e]; rfl
  | cons a r =>
    have ha : ¬ a = 32 := fun h => h2 (by rw [List.getLast?_eq_head?_reverse, e, h]; rfl)
    rw [List.dropWhile_cons_of_neg (by simpa using ha), ← e, List.reverse_reverse]
theorem trimL_no {l : List UInt8} (h1 : l.head? ≠ some 32) : Lib.trimLeftB l 32 = l := by
  unfold Lib.trimLeftB
  cases l with
  | nil => rfl
  | cons a r =>
    have ha : ¬ a = 32 := fun h => h1 (by rw [h]; rfl)
    rw [List.dropWhile_cons_of_neg (by simpa using ha)]
theorem trimL_app {A : List UInt8} (hA : ∀ c ∈ A, c = 32) (m : List UInt8) : Lib.trimLeftB (A ++ m) 32 = Lib.trimLeftB m 32 := by
  unfold Lib.trimLeftB
  rw [List.dropWhile_append_of_pos (fun c hc => by simp [hA c hc])]
theorem trimR_app {B : List UInt8} (hB : ∀ c ∈ B, c = 32) (m : List UInt8) : Lib.trimRightB (m ++ B) 32 = Lib.trimRightB m 32 := by
  unfold Lib.trimRightB
  rw [List.reverse_append, List.dropWhile_append_of_pos (fun c hc => by simp [hB c (by simpa using hc)])]
theorem trim_mid {A r B : List UInt8} (hA : ∀ c ∈ A, c = 32) (hB : ∀ c ∈ B, c = 32) (h1 : r.head? ≠ some 32) (h2 : r.getLast? ≠ some 32) : Lib.trimB (A ++ r ++ B) 32 = r := by
  unfold Lib.trimB
  rw [trimR_app hB]
  by_cases hr : r = []
  · subst hr
    have := trimR_app hA []
    rw [List.nil_append] at this
    rw [List.append_nil, this]; rfl
  · rw [trimR_no (by
      rw [List.getLast?_append]
      cases e : r.getLast? with
      | none => exact absurd (List.getLast?_eq_none_iff.1 e) hr
      | some z => rw [e] at h2; simpa using h2), trimL_app hA, trimL_no h1]
/-- A line with spaces around a text, and a remark behind it. -/
theorem line_mid {A r B R : List UInt8} (hA : ∀ c ∈ A, c = 32) (hB : ∀ c ∈ B, c = 32) (h1 : r.head? ≠ some 32) (h2 : r.getLast? ≠ some 32) (h3 : (35 : UInt8) ∉ r) (hR : R = [] ∨ ∃ m, R = 35 :: m) : lineS (A ++ r ++ B ++ R) = r := by
  have hn : (35 : UInt8) ∉ A ++ r ++ B := by
    intro hm
    rw [List.mem_append, List.mem_append] at hm
    rcases hm with (hm | hm) | hm
    · exact absurd (hA _ hm) (by decide)
    · exact h3 hm
    · exact absurd (hB _ hm) (by decide)
  unfold lineS
  rcases hR with rfl | ⟨m, rfl⟩
  · rw [List.append_nil, cut_no hn, trim_mid hA hB h1 h2]
  · have : (Lib.cut (A ++ r ++ B ++ 35 :: m) [35]).1 = A ++ r ++ B := by
      unfold Lib.cut
      rw [ix_app m hn, if_pos (by omega)]
      show List.take (((A ++ r ++ B).length : Nat) : Int).toNat (A ++ r ++ B ++ 35 :: m) = A ++ r ++ B
      rw [Int.toNat_natCast, List.take_left]
    rw [this, trim_mid hA hB h1 h2]
theorem takeW_at {l : List UInt8} {i : Nat} (h : i ≤ l.length) (ha : ∀ c ∈ l.take i, no35 c = true) (he : i = l.length ∨ ((l.getD i 0).toNat : Int) = 35) : l.takeWhile no35 = l.take i := by
  have h0 : l.takeWhile no35 = (l.take i ++ l.drop i).takeWhile no35 := by rw [List.take_append_drop]
  rw [h0, List.takeWhile_append_of_pos ha]
  rcases Nat.lt_or_ge i l.length with hi | hi
  · rw [drop_getD l i 0 hi, List.takeWhile_cons_of_neg, List.append_nil]
    rcases he with he | he
    · omega
    · unfold no35; rw [he]; decide
  · rw [List.drop_of_length_le hi]; simp
theorem no35_snoc {l : List UInt8} {i : Nat} (h : i < l.length) (ha : ∀ c ∈ l.take i, no35 c = true) (hc : ((l.getD i 0).toNat : Int) ≠ 35) : ∀ c ∈ l.take (i + 1), no35 c = true := by
  intro c hm
  rw [take_snoc8 l i h, List.mem_append, List.mem_singleton] at hm
  rcases hm with hm | rfl
  · exact ha c hm
  · exact decide_eq_true hc
theorem byte32 {c : UInt8} (h : (c.toNat : Int) = 32) : c = 32 := UInt8.toNat_inj.1 (by have h35 : (32 : UInt8).toNat = 32 := rfl; omega)
theorem sp_snoc {l : List UInt8} {j : Nat} (h : j < l.length) (ha : ∀ c ∈ l.take j, c = 32) (hc : (((l.drop j).getD 0 0).toNat : Int) = 32) : ∀ c ∈ l.take (j + 1), c = 32 := by
  intro c hm
  rw [take_snoc8 l j h, List.mem_append, List.mem_singleton] at hm
  rcases hm with hm | rfl
  · exact ha c hm
  · rw [drop_getD l j 0 h] at hc
    exact byte32 hc
theorem sp_cons {l : List UInt8} {m : Nat} (h : m ≤ l.length) (hp : 0 < m) (ha : ∀ c ∈ l.drop m, c = 32) (hc : (((l.take m).getD (m - 1) 0).toNat : Int) = 32) : ∀ c ∈ l.drop (m - 1), c = 32 := by
  intro c hm
  rw [drop_getD l (m - 1) 0 (by omega), List.mem_cons, show m - 1 + 1 = m by omega] at hm
  rcases hm with rfl | hm
  · refine byte32 ?_
    rw [← hc]
    congr 2
    simp [List.getD, List.getElem?_take, show m - 1 < m by omega]
  · exact ha c hm
/-- What the law makes of a line is what the program makes of it. -/
theorem left_line {line : List UInt8} {i j m : Nat} (hi : i ≤ line.length) (ha : ∀ c ∈ line.take i, no35 c = true) (he : i = line.length ∨ ((line.getD i 0).toNat : Int) = 35)
    (hj : ∀ c ∈ (line.take i).take j, c = 32) (hj2 : ¬ (0 < (((line.take i).drop j).length : Int) ∧ ((((line.take i).drop j).getD 0 0).toNat : Int) = 32))
    (hml : m ≤ ((line.take i).drop j).length) (hm : ∀ c ∈ ((line.take i).drop j).drop m, c = 32) (hm2 : ¬ (0 < m ∧ (((((line.take i).drop j).take m).getD (m - 1) 0).toNat : Int) = 32)) : lineS line = ((line.take i).drop j).take m := by
  have h35 : (32 : UInt8).toNat = 32 := rfl
  unfold lineS
  rw [cut35, takeW_at hi ha he]
  generalize line.take i = X at *
  have hX : X = X.take j ++ (X.drop j).take m ++ (X.drop j).drop m := by rw [List.append_assoc, List.take_append_drop, List.take_append_drop]
  have := trim_mid (A := X.take j) (r := (X.drop j).take m) (B := (X.drop j).drop m) hj hm ?_ ?_
  · rw [← hX] at this; exact this
  · intro hh
    apply hj2
    rw [List.head?_take] at hh
    split at hh
    · cases hh
    · cases e : X.drop j with
      | nil => rw [e] at hh; cases hh
      | cons a r => rw [e] at hh; cases hh; exact ⟨by simp, by simp [List.getD]⟩
  · intro hh
    apply hm2
    rw [List.getLast?_eq_getElem?, List.length_take, Nat.min_eq_left hml] at hh
    refine ⟨?_, ?_⟩
    · rcases Nat.eq_zero_or_pos m with h0 | h0
      · subst h0; simp at hh
      · exact h0
    · rw [List.getD, hh]; rfl
/-- The text of a program with a line put in, as it grows. -/
def lnsT (os : List MOp) (line : List UInt8) (k : Nat) : Nat → List UInt8
  | 0 => []
  | i + 1 => lnsT os line k i ++ (if i = k then line ++ [10] else []) ++ (if i < os.length then txtO (os.getD i op0) ++ [10] else [])
theorem linesT_app (x y : List (List UInt8)) : linesT (x ++ y) = linesT x ++ linesT y := by simp [linesT]
theorem linesT_one (x : List UInt8) : linesT [x] = x ++ [10] := by simp [linesT]
theorem take_sg {α : Type} (l : List α) (i : Nat) (z : α) (h : i < l.length) : l.take (i + 1) = l.take i ++ [l.getD i z] := by
  rw [List.take_succ_eq_append_getElem h]; simp [List.getD, h]
theorem lnsT_len (os : List MOp) {line : List UInt8} (hl : line.length ≤ 20) (k : Nat) : ∀ i, (lnsT os line k i).length ≤ i * 60
  | 0 => by simp [lnsT]
  | i + 1 => by
    have := lnsT_len os hl k i
    have := txt_len (os.getD i op0)
    unfold lnsT
    simp only [List.length_append]
    split <;> split <;> simp only [List.length_append, List.length_cons, List.length_nil] <;> omega
theorem lnsT_lo {os : List MOp} {line : List UInt8} {k : Nat} (hk : k ≤ os.length) : ∀ i, i ≤ k → lnsT os line k i = linesT ((os.take i).map txtO)
  | 0, _ => by simp [lnsT, linesT]
  | i + 1, h => by
    rw [lnsT, if_neg (by omega), if_pos (by omega), lnsT_lo hk i (by omega), take_sg os i op0 (by omega), List.map_append, linesT_app, List.map_singleton, linesT_one, List.append_nil]
theorem lnsT_hi {os : List MOp} {line : List UInt8} {k : Nat} (hk : k ≤ os.length) : ∀ i, lnsT os line k (k + 1 + i) = linesT ((os.take k).map txtO ++ line :: ((os.drop k).take (i + 1)).map txtO)
  | 0 => by
    rw [Nat.add_zero, lnsT, if_pos rfl, lnsT_lo hk k (Nat.le_refl _), linesT_app, show ∀ x, linesT (line :: x) = (line ++ [10]) ++ linesT x from fun x => by simp [linesT], List.append_assoc]
    rcases Nat.lt_or_ge k os.length with h | h
    · rw [if_pos h, drop_getD os k op0 h, List.take_succ_cons, List.take_zero, List.map_singleton, linesT_one]
    · rw [if_neg (by omega), List.drop_of_length_le h]; simp [linesT]
  | i + 1 => by
    rw [← Nat.add_assoc, lnsT, if_neg (by omega), lnsT_hi hk i, List.append_nil]
    rcases Nat.lt_or_ge (k + 1 + i) os.length with h | h
    · have e : (os.drop k).take (i + 1 + 1) = (os.drop k).take (i + 1) ++ [os.getD (k + 1 + i) op0] := by
        rw [take_sg (os.drop k) (i + 1) op0 (by rw [List.length_drop]; omega)]
        congr 2
        rw [List.getD, List.getD, List.getElem?_drop, show k + (i + 1) = k + 1 + i by omega]
      rw [if_pos h, e, List.map_append, List.map_singleton, ← List.cons_append, ← List.append_assoc (List.map txtO (List.take k os)), linesT_app _ [_], linesT_one]
    · rw [if_neg (by omega), List.append_nil, List.take_of_length_le (l := os.drop k) (i := i + 1) (by rw [List.length_drop]; omega), List.take_of_length_le (l := os.drop k) (i := i + 1 + 1) (by rw [List.length_drop]; omega)]
theorem lnsT_all {os : List MOp} {line : List UInt8} {k : Nat} (hk : k ≤ os.length) : lnsT os line k (os.length + 1) = linesT ((os.take k).map txtO ++ line :: (os.drop k).map txtO) := by
  have := lnsT_hi (line := line) hk (os.length - k)
  rw [show k + 1 + (os.length - k) = os.length + 1 by omega, List.take_of_length_le (l := os.drop k) (by rw [List.length_drop]; omega)] at this
  exact this
/-! Format. -/
def fmtS (os : List MOp) : List UInt8 := if ∀ o ∈ os, chkO o = 0 then linesT (os.map txtO) else []
theorem fmt_ok {os : List MOp} (h : ∀ o ∈ os, chkO o = 0) : fmtS os = linesT (os.map txtO) := if_pos h
theorem linesT_len (os : List MOp) : (linesT (os.map txtO)).length ≤ os.length * 31 := by
  induction os with
  | nil => simp [linesT]
  | cons o os ih =>
    have := txt_len o
    rw [List.map_cons, ← List.singleton_append, linesT_app, linesT_one]
    simp only [List.length_append, List.length_cons, List.length_nil]
    omega
theorem linesT_snoc (os : List MOp) (i : Nat) (h : i < os.length) : linesT ((os.take (i + 1)).map txtO) = linesT ((os.take i).map txtO) ++ txtO (os.getD i op0) ++ [10] := by
  rw [take_sg os i op0 h, List.map_append, linesT_app, List.map_singleton, linesT_one, List.append_assoc]
/-! Dressed lines. -/
def preD (a : Int) : List UInt8 := if a % 2 = 1 then [10, 32, 32, 10] else []
def bodyD (o : MOp) (a : Int) (rem : List UInt8) : List UInt8 :=
  (if a / 2 % 2 = 1 then [32, 32, 32] else []) ++ txtO o ++ (if a / 4 % 2 = 1 then [32, 32] else []) ++ (if a / 8 % 2 = 1 then [35] ++ rem else [])
/-- The dressed text, as it grows. -/
def dressT (os : List MOp) (ar : Nat → Int) (rem : List UInt8) : Nat → List UInt8
  | 0 => []
  | i + 1 => dressT os ar rem i ++ preD (ar i) ++ bodyD (os.getD i op0) (ar i) rem ++ (if i + 1 < os.length ∨ ar i / 16 % 2 = 1 then [10] else [])
/-- The same from the front. -/
def dressF (ar : Nat → Int) (rem : List UInt8) : List MOp → Nat → List UInt8
  | [], _ => []
  | o :: os, i => preD (ar i) ++ bodyD o (ar i) rem ++ ((if os ≠ [] ∨ ar i / 16 % 2 = 1 then [10] else []) ++ dressF ar rem os (i + 1))
theorem dress_both (ar : Nat → Int) (rem : List UInt8) (os : List MOp) : ∀ (k i : Nat), i + k = os.length → dressT os ar rem os.length = dressT os ar rem i ++ dressF ar rem (os.drop i) i
  | 0, i, h => by rw [show i = os.length by omega, List.drop_length]; simp [dressF]
  | k + 1, i, h => by
    rw [dress_both ar rem os k (i + 1) (by omega), drop_getD os i op0 (by omega), dressF, dressT]
    have e : (i + 1 < os.length) ↔ (os.drop (i + 1) ≠ []) := by
      rw [ne_eq, List.drop_eq_nil_iff]; omega
    simp only [e, List.append_assoc]
theorem body_line {o : MOp} (h : chkO o = 0) (a : Int) (rem : List UInt8) : lineS (bodyD o a rem) = txtO o := by
  obtain ⟨h1, h2⟩ := txt_okW h
  unfold bodyD
  refine line_mid ?_ ?_ h2 ?_ (not_mem_ok (by decide) (okW_all h1)) ?_
  · split <;> simp
  · split <;> simp
  · simp only [okW, Bool.and_eq_true, Bool.not_eq_true', beq_eq_false_iff_ne] at h1
    exact h1.1.2
  · split
    · exact .inr ⟨rem, rfl⟩
    · exact .inl rfl
theorem body_no10 {o : MOp} (h : chkO o = 0) (a : Int) {rem : List UInt8} (hr : (10 : UInt8) ∉ rem) : (10 : UInt8) ∉ bodyD o a rem := by
  unfold bodyD
  simp only [List.mem_append]
  rintro (((hm | hm) | hm) | hm)
  · split at hm <;> simp at hm
  · exact txt_no10 h hm
  · split at hm <;> simp at hm
  · split at hm
    · simp at hm; exact hr hm
    · cases hm
theorem progF_step {o : MOp} {x : List UInt8} (hx : lineS x = txtO o) (ho : chkO o = 0) (xs : List (List UInt8)) (i : Int) (acc : List MOp) (hl : acc.length < 4096) : progF (x :: xs) i acc = progF xs (i + 1) (acc ++ [o]) := by
  rw [progF, hx, if_neg (txt_ne ho), parse_txt ho]
  simp only [ne_eq, not_true, if_false]
  rw [if_neg (by omega)]
theorem progF_skip {x : List UInt8} (hx : lineS x = []) (xs : List (List UInt8)) (i : Int) (acc : List MOp) : progF (x :: xs) i acc = progF xs (i + 1) acc := by
  rw [progF, if_pos hx]
theorem progF_dress (ar : Nat → Int) {rem : List UInt8} (hr : (10 : UInt8) ∉ rem) : ∀ (os : List MOp) (k : Nat) (i : Int) (acc : List MOp), (∀ o ∈ os, chkO o = 0) → acc.length + os.length ≤ 4096 → progF (Lib.split (dressF ar rem os k) [10]) i acc = (acc ++ os, 0, 0)
  | [], k, i, acc, _, _ => by rw [dressF, split_one (by simp), progF_end, List.append_nil]
  | o :: os, k, i, acc, h, hl => by
    have ho := h o (by simp)
    have hb := body_no10 ho (ar k) hr
    have hbl := body_line ho (ar k) rem
    have hos : ∀ x ∈ os, chkO x = 0 := fun x hx => h x (by simp [hx])
    simp only [List.length_cons] at hl
    have key : ∀ i : Int, progF (Lib.split (bodyD o (ar k) rem ++ ((if os ≠ [] ∨ ar k / 16 % 2 = 1 then [10] else []) ++ dressF ar rem os (k + 1))) [10]) i acc = (acc ++ o :: os, 0, 0) := by
      intro i
      split
      · rw [List.singleton_append, split_app _ hb, progF_step hbl ho _ _ _ (by omega), progF_dress ar hr os (k + 1) (i + 1) (acc ++ [o]) hos (by simp; omega)]
        simp
      · rename_i hn
        obtain rfl : os = [] := Classical.not_not.1 (fun hh => hn (.inl hh))
        rw [dressF, List.append_nil, List.append_nil, split_one hb, progF_step hbl ho _ _ _ (by omega)]
        rfl
    rw [dressF, List.append_assoc]
    unfold preD
    split
    · rw [show ([10, 32, 32, 10] : List UInt8) = [] ++ 10 :: ([32, 32] ++ [10]) from rfl, List.append_assoc, List.cons_append, List.append_assoc, List.singleton_append, split_app _ (by simp), split_app _ (by decide), progF_skip line_nil, progF_skip (by decide)]
      exact key _
    · exact key i
theorem prog_dress {os : List MOp} {ar : Nat → Int} {rem : List UInt8} (hr : (10 : UInt8) ∉ rem) (h : ∀ o ∈ os, chkO o = 0) (hl : os.length ≤ 4096) : progS (dressT os ar rem os.length) = (os, 0, 0) := by
  rw [dress_both ar rem os os.length 0 (by omega), List.drop_zero, progS, show dressT os ar rem 0 = [] from rfl, List.nil_append, progF_dress ar hr os 0 0 [] h (by simpa using hl)]
  rfl
theorem dress_len (os : List MOp) (ar : Nat → Int) {rem : List UInt8} (hr : rem.length ≤ 20) : ∀ i, (dressT os ar rem i).length ≤ i * 100
  | 0 => by simp [dressT]
  | i + 1 => by
    have := dress_len os ar hr i
    have := txt_len (os.getD i op0)
    have h1 : (preD (ar i)).length ≤ 4 := by unfold preD; split <;> simp
    have h2 : (bodyD (os.getD i op0) (ar i) rem).length ≤ 60 := by
      unfold bodyD
      simp only [List.length_append]
      (repeat' split) <;> simp only [List.length_append, List.length_cons, List.length_nil] <;> omega
    unfold dressT
    simp only [List.length_append]
    split <;> simp only [List.length_cons, List.length_nil] <;> omega
theorem prog_plain {os : List MOp} (h : ∀ o ∈ os, chkO o = 0) (hl : os.length ≤ 4096) : progS (linesT (os.map txtO)) = (os, 0, 0) := by
  unfold progS
  rw [split_lines _ (by intro x hx; obtain ⟨o, ho, rfl⟩ := List.mem_map.1 hx; exact txt_no10 (h o ho)), progF_all os 0 [] h (by simpa using hl)]
  rfl
/-! Long programs. -/
def repT (t : List UInt8) (n : Nat) : List UInt8 := (List.replicate n t).flatten
theorem repT_succ (t : List UInt8) (n : Nat) : repT t (n + 1) = repT t n ++ t := by
  unfold repT; rw [List.replicate_succ', List.flatten_append]; simp
theorem repT_add (t : List UInt8) (n : Nat) : ∀ m, repT t (n + m) = repT t n ++ repT t m
  | 0 => by simp [repT]
  | m + 1 => by rw [← Nat.add_assoc, repT_succ, repT_add t n m, repT_succ, List.append_assoc]
theorem repT_len (t : List UInt8) : ∀ n, (repT t n).length = n * t.length
  | 0 => by simp [repT]
  | n + 1 => by rw [repT_succ, List.length_append, repT_len t n, Nat.succ_mul]
theorem repT_lines (o : MOp) (n : Nat) : repT (txtO o ++ [10]) n = linesT ((List.replicate n o).map txtO) := by
  unfold repT linesT; simp
theorem prog_rep {o : MOp} (ho : chkO o = 0) {n : Nat} (h : n ≤ 4096) : progS (repT (txtO o ++ [10]) n) = (List.replicate n o, 0, 0) := by
  rw [repT_lines, prog_plain (fun x hx => by rw [List.eq_of_mem_replicate hx]; exact ho) (by simpa using h)]
theorem prog_many {o : MOp} (ho : chkO o = 0) : progS (repT (txtO o ++ [10]) 4097) = ([], 4097, 3) := by
  have hall : ∀ n, ∀ x ∈ List.replicate n o, chkO x = 0 := fun n x hx => by rw [List.eq_of_mem_replicate hx]; exact ho
  rw [repT_lines]
  unfold progS
  rw [split_lines _ (by intro x hx; obtain ⟨y, hy, rfl⟩ := List.mem_map.1 hx; exact txt_no10 (hall _ y hy)), show (4097 : Nat) = 4096 + 1 from rfl, List.replicate_succ', List.map_append, List.append_assoc, progF_txt _ _ 0 [] (hall 4096) (by rw [List.length_replicate]; exact Nat.le_refl _), List.map_singleton, List.singleton_append, progF, line_txt ho, if_neg (txt_ne ho), parse_txt ho]
  simp only [ne_eq, not_true, if_false, List.nil_append, List.length_replicate]
  rw [if_pos (by decide)]
  rfl
theorem fmt_two {x o : MOp} (hx : chkO x = 0) : fmtS [x, o] = [] ↔ chkO o ≠ 0 := by
  unfold fmtS
  by_cases ho : chkO o = 0
  · rw [if_pos (by intro y hy; simp at hy; rcases hy with rfl | rfl <;> assumption)]
    simp [linesT, ho]
  · rw [if_neg (fun h => ho (h o (by simp)))]; simp [ho]
end Go.Lw
