/- Programs out of lines: plain. Conditions: none. -/
import Derived.Test.YtbalocjcbmkecaaGreatDoorXOpLaw
set_option linter.unusedVariables false
set_option linter.unusedSimpArgs false
namespace Go.Lw
def okB (c : UInt8) : Bool := c == 32 || c == 45 || (decide (48 ≤ c.toNat) && decide (c.toNat ≤ 57)) || (decide (97 ≤ c.toNat) && decide (c.toNat ≤ 122))
/-- All bytes are such as occur in texts of operations; the last one is no space. -/
def okW (l : List UInt8) : Bool := l.all okB && !(l.getLast? == some 32) && !l.isEmpty
theorem wd_ok {k : Int} (h : 1 ≤ k ∧ k ≤ 8) : okW (wordS k) = true ∧ (wordS k).head? ≠ some 32 := by
  have : k = 1 ∨ k = 2 ∨ k = 3 ∨ k = 4 ∨ k = 5 ∨ k = 6 ∨ k = 7 ∨ k = 8 := by omega
  rcases this with rfl | rfl | rfl | rfl | rfl | rfl | rfl | rfl <;> decide
theorem dr_ok {d : Int} (h : 0 ≤ d ∧ d ≤ 1) : okW (dirS d) = true := by
  have : d = 0 ∨ d = 1 := by omega
  rcases this with rfl | rfl <;> decide
theorem dc_ok {y : Int} (h : -4 ≤ y ∧ y ≤ 6) : okW (dec2 y) = true := by
  rcases dec_cases h with rfl | rfl | rfl | rfl | rfl | rfl | rfl | rfl | rfl | rfl | rfl <;> decide
theorem nd_okW : ∀ n : Nat, n < 41 → 1 ≤ n → okW (txtN 0 n) = true ∧ okW (txtN 1 n) = true := by decide +kernel
theorem ndt_ok {b p : Int} (h : (b = 0 ∨ b = 1) ∧ 1 ≤ p ∧ p ≤ 40) : okW (txtN b p) = true := by
  obtain ⟨n, rfl⟩ : ∃ n : Nat, p = n := ⟨p.toNat, by omega⟩
  obtain ⟨h1, h2⟩ := nd_okW n (by omega) (by omega)
  rcases h.1 with rfl | rfl
  · exact h1
  · exact h2
theorem okW_app {x y : List UInt8} (hx : x.all okB = true) (hy : okW y = true) : okW (x ++ 32 :: y) = true := by
  simp only [okW, Bool.and_eq_true, Bool.not_eq_true', beq_eq_false_iff_ne] at hy ⊢
  refine ⟨⟨?_, ?_⟩, by cases x <;> rfl⟩
  · rw [List.all_append, hx, List.all_cons, hy.1.1]; rfl
  · have hne : y ≠ [] := by intro e; rw [e] at hy; simp at hy
    rw [List.getLast?_append, List.getLast?_cons_of_ne_nil hne]
    have := hy.1.2
    cases e : y.getLast? with
    | none => simp [List.getLast?_eq_none_iff] at e; exact absurd e hne
    | some z => rw [e] at this; simpa using this
theorem okW_all {x : List UInt8} (h : okW x = true) : x.all okB = true := by
  simp only [okW, Bool.and_eq_true] at h; exact h.1.1
theorem txt_okW {o : MOp} (h : chkO o = 0) : okW (txtO o) = true ∧ (txtO o).head? ≠ some 32 := by
  have hr := chk_rng h
  have hw := wd_ok (k := o.k) (by omega)
  have ha := okW_all hw.1
  have hne : wordS o.k ≠ [] := by intro e; have := hw.1; rw [e] at this; simp [okW] at this
  have hh : ∀ y, (wordS o.k ++ 32 :: y).head? ≠ some 32 := fun y => by
    cases e : wordS o.k with
    | nil => exact absurd e hne
    | cons a r => rw [List.cons_append, List.head?_cons]; have := hw.2; rw [e, List.head?_cons] at this; exact this
  rw [txt_join h]
  have hk : o.k = 1 ∨ o.k = 2 ∨ o.k = 3 ∨ (4 ≤ o.k ∧ o.k ≤ 6) ∨ (o.k = 7 ∨ o.k = 8) := by omega
  rcases hk with hk | hk | hk | hk | hk
  · rw [tail1 hk, show wordS o.k ++ Lib.joinTail [32] [dec2 o.y, dirS o.d] = wordS o.k ++ 32 :: (dec2 o.y ++ 32 :: dirS o.d) by simp [Lib.joinTail]]
    exact ⟨okW_app ha (okW_app (okW_all (dc_ok (by omega))) (dr_ok (by omega))), hh _⟩
  · rw [tail2 hk, show wordS o.k ++ Lib.joinTail [32] [dec2 o.y] = wordS o.k ++ 32 :: dec2 o.y by simp [Lib.joinTail]]
    exact ⟨okW_app ha (dc_ok (by omega)), hh _⟩
  · rw [tail3 hk, show wordS o.k ++ Lib.joinTail [32] [dec2 o.r] = wordS o.k ++ 32 :: dec2 o.r by simp [Lib.joinTail]]
    exact ⟨okW_app ha (dc_ok (by omega)), hh _⟩
  · have hn := ndt_ok (chk_nd2 h (by omega))
    rw [tail46 hk, show wordS o.k ++ Lib.joinTail [32] [dirS o.d, txtN o.b o.p, dec2 o.y] = wordS o.k ++ 32 :: (dirS o.d ++ 32 :: (txtN o.b o.p ++ 32 :: dec2 o.y)) by simp [Lib.joinTail]]
    exact ⟨okW_app ha (okW_app (okW_all (dr_ok (by omega))) (okW_app (okW_all hn) (dc_ok (by omega)))), hh _⟩
  · have hn := ndt_ok (chk_nd2 h (by omega))
    rw [tail78 hk, show wordS o.k ++ Lib.joinTail [32] [txtN o.b o.p] = wordS o.k ++ 32 :: txtN o.b o.p by simp [Lib.joinTail]]
    exact ⟨okW_app ha hn, hh _⟩
theorem not_mem_ok {c : UInt8} (hc : okB c = false) {l : List UInt8} (h : l.all okB = true) : c ∉ l := fun hm => by
  rw [List.all_eq_true] at h; rw [h c hm] at hc; cases hc
theorem cut_no {c : UInt8} {l : List UInt8} (h : c ∉ l) : (Lib.cut l [c]).1 = l := by
  unfold Lib.cut; rw [ix_none h]; rfl
theorem trim_no {l : List UInt8} (h1 : l.head? ≠ some 32) (h2 : l.getLast? ≠ some 32) : Lib.trimB l 32 = l := by
  have e1 : Lib.trimRightB l 32 = l := by
    unfold Lib.trimRightB
    cases e : l.reverse with
    | nil => simp at e; rw [e]; rfl
    | cons a r =>
      have ha : ¬ a = 32 := fun h => h2 (by rw [List.getLast?_eq_head?_reverse, e, h]; rfl)
      rw [List.dropWhile_cons_of_neg (by simpa using ha), ← e, List.reverse_reverse]
  unfold Lib.trimB
  rw [e1]
  unfold Lib.trimLeftB
  cases l with
  | nil => rfl
  | cons a r =>
    have ha : ¬ a = 32 := fun h => h1 (by rw [h]; rfl)
    rw [List.dropWhile_cons_of_neg (by simpa using ha)]
theorem line_txt {o : MOp} (h : chkO o = 0) : lineS (txtO o) = txtO o := by
  obtain ⟨h1, h2⟩ := txt_okW h
  unfold lineS
  rw [cut_no (not_mem_ok (by decide) (okW_all h1))]
  refine trim_no h2 ?_
  simp only [okW, Bool.and_eq_true, Bool.not_eq_true', beq_eq_false_iff_ne] at h1
  exact h1.1.2
theorem txt_ne {o : MOp} (h : chkO o = 0) : txtO o ≠ [] := fun e => by have := (txt_okW h).1; rw [e] at this; simp [okW] at this
theorem progF_txt : ∀ (os : List MOp) (rest : List (List UInt8)) (i : Int) (acc : List MOp), (∀ o ∈ os, chkO o = 0) → acc.length + os.length ≤ 4096 → progF (os.map txtO ++ rest) i acc = progF rest (i + os.length) (acc ++ os)
  | [], rest, i, acc, _, _ => by simp
  | o :: os, rest, i, acc, h, hl => by
    have ho := h o (by simp)
    rw [List.map_cons, List.cons_append, progF, line_txt ho, if_neg (txt_ne ho), parse_txt ho]
    simp only [ne_eq, not_true, if_false]
    rw [if_neg (by simp at hl; omega), progF_txt os rest (i + 1) (acc ++ [o]) (fun x hx => h x (by simp [hx])) (by simp at hl ⊢; omega)]
    simp [Int.add_assoc, Int.add_comm 1]
def linesT (xs : List (List UInt8)) : List UInt8 := (xs.map (· ++ [10])).flatten
theorem split_lines : ∀ (xs : List (List UInt8)), (∀ x ∈ xs, (10 : UInt8) ∉ x) → Lib.split (linesT xs) [10] = xs ++ [[]]
  | [], _ => by simp [linesT]; exact split_one (by simp)
  | x :: xs, h => by
    have e : linesT (x :: xs) = x ++ 10 :: linesT xs := by simp [linesT]
    rw [e, split_app _ (h x (by simp)), split_lines xs (fun y hy => h y (by simp [hy]))]; rfl
theorem txt_no10 {o : MOp} (h : chkO o = 0) : (10 : UInt8) ∉ txtO o := not_mem_ok (by decide) (okW_all (txt_okW h).1)
theorem line_nil : lineS [] = [] := by decide
theorem progF_end (i : Int) (acc : List MOp) : progF [[]] i acc = (acc, 0, 0) := by
  rw [progF, if_pos line_nil]; rfl
theorem progF_all (os : List MOp) (i : Int) (acc : List MOp) (h : ∀ o ∈ os, chkO o = 0) (hl : acc.length + os.length ≤ 4096) : progF (os.map txtO ++ [[]]) i acc = (acc ++ os, 0, 0) := by
  rw [progF_txt os [[]] i acc h hl, progF_end]
/-- A program with a line put in. -/
theorem prog_lines {os : List MOp} {line : List UInt8} {k : Nat} (hk : k ≤ os.length) (h : ∀ o ∈ os, chkO o = 0) (hl : os.length ≤ 4000) (hn : (10 : UInt8) ∉ line) :
    progS (linesT ((os.take k).map txtO ++ line :: (os.drop k).map txtO)) = if lineS line = [] then (os, 0, 0) else if (parseS (lineS line)).2 ≠ 0 then ([], (k : Int) + 1, (parseS (lineS line)).2) else (os.take k ++ (parseS (lineS line)).1 :: os.drop k, 0, 0) := by
  have h1 : ∀ o ∈ os.take k, chkO o = 0 := fun o ho => h o (List.mem_of_mem_take ho)
  have h2 : ∀ o ∈ os.drop k, chkO o = 0 := fun o ho => h o (List.mem_of_mem_drop ho)
  have hlt : (os.take k).length = k := by rw [List.length_take]; omega
  have hld : (os.drop k).length = os.length - k := List.length_drop
  unfold progS
  rw [split_lines _ (by
    intro x hx
    rw [List.mem_append, List.mem_cons] at hx
    rcases hx with hx | rfl | hx
    · obtain ⟨o, ho, rfl⟩ := List.mem_map.1 hx; exact txt_no10 (h1 o ho)
    · exact hn
    · obtain ⟨o, ho, rfl⟩ := List.mem_map.1 hx; exact txt_no10 (h2 o ho)), List.append_assoc, progF_txt _ _ 0 [] h1 (by simp; omega), List.cons_append, progF, hlt, List.nil_append, Int.zero_add]
  split
  · rw [progF_all _ _ _ h2 (by omega), List.take_append_drop]
  · split
    · rfl
    · rw [if_neg (by rw [hlt]; omega), progF_all _ _ _ h2 (by simp; omega)]; simp
def no35 (c : UInt8) : Bool := decide ((c.toNat : Int) ≠ 35)
theorem no35_iff {c : UInt8} : no35 c = true ↔ c ≠ 35 := by
  unfold no35
  rw [decide_eq_true_eq]
  constructor
  · intro h e; exact h (by rw [e]; rfl)
  · intro h e; exact h (UInt8.toNat_inj.1 (by have h35 : (35 : UInt8).toNat = 35 := rfl; omega))
theorem cut35 (l : List UInt8) : (Lib.cut l [35]).1 = l.takeWhile no35 := by
  by_cases hm : (35 : UInt8) ∈ l
  · obtain ⟨x, y, rfl, hx⟩ := List.eq_append_cons_of_mem hm
    have hall : ∀ c ∈ x, no35 c = true := fun c hc => no35_iff.2 (fun e => hx (e ▸ hc))
    unfold Lib.cut
    rw [ix_app y hx, if_pos (by omega)]
    rw [List.takeWhile_append_of_pos hall, List.takeWhile_cons_of_neg (by decide), List.append_nil]
    simp
  · have h0 := List.takeWhile_append_of_pos (p := no35) (l₁ := l) (l₂ := []) (fun c hc => no35_iff.2 (fun e => hm (e ▸ hc)))
    simp at h0
    rw [cut_no hm, h0]
end Go.Lw
