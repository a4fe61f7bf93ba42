/- The reader reads every text of the grammar; texts in the order of length, then of bytes. Conditions: none. -/
import Derived.Test.YtbbnampdgefljaaDoorXGram
set_option linter.unusedVariables false
set_option linter.unusedSimpArgs false
namespace Go.G14
open Go.Lw

def textB (x : Stitch) : Bool := decide (checkS x = 0 → parseS (textS x) = (x, 0) ∧ (textS x).all nb = true ∧ (textS x).getD 0 0 ≠ 91 ∧ textS x ≠ [])
theorem text_facts : ∀ k, k < 9 → ∀ y, y < 7 → ∀ a, a < 4 → ∀ b, b < 4 → textB ⟨((k : Nat) : Int), ((y : Nat) : Int), ((a : Nat) : Int), ((b : Nat) : Int), false⟩ = true ∧ textB ⟨((k : Nat) : Int), ((y : Nat) : Int), ((a : Nat) : Int), ((b : Nat) : Int), true⟩ = true := by
  decide +kernel
theorem text_ok_of {x : Stitch} (h : checkS x = 0) : parseS (textS x) = (x, 0) ∧ (textS x).all nb = true ∧ (textS x).getD 0 0 ≠ 91 ∧ textS x ≠ [] := by
  obtain ⟨k, y, a, b, f⟩ := x
  have hr := check_rng h
  simp only at hr
  have ha : 0 ≤ a ∧ a < 4 ∧ 0 ≤ b ∧ b < 4 := by
    by_cases c : k = 8
    · have := hr.2.2.2.2.2 c; omega
    · have := hr.2.2.2.2.1 c; omega
  obtain ⟨k', rfl⟩ : ∃ n : Nat, k = (n : Int) := ⟨k.toNat, by omega⟩
  obtain ⟨y', rfl⟩ : ∃ n : Nat, y = (n : Int) := ⟨y.toNat, by omega⟩
  obtain ⟨a', rfl⟩ : ∃ n : Nat, a = (n : Int) := ⟨a.toNat, by omega⟩
  obtain ⟨b', rfl⟩ : ∃ n : Nat, b = (n : Int) := ⟨b.toNat, by omega⟩
  have hb := text_facts k' (by omega) y' (by omega) a' (by omega) b' (by omega)
  cases f with
  | false => exact of_decide_eq_true hb.1 h
  | true => exact of_decide_eq_true hb.2 h
theorem itoa_facts : ∀ n, n < 17 → 2 ≤ n → (itoaS n).all isDig = true ∧ itoaS n ≠ [] ∧ (((itoaS n).getD 0 0).toNat : Int) ≠ 48 ∧ capS (itoaS n) = n := by decide +kernel
theorem tw_nil {f : UInt8 → Bool} {r : List UInt8} (h : r = [] ∨ f (r.getD 0 0) = false) : r.takeWhile f = [] := by
  cases r with
  | nil => rfl
  | cons c s => exact List.takeWhile_cons_of_neg (by rcases h with h | h; cases h; simpa using h)
theorem count_itoa {n : Nat} {r : List UInt8} (h2 : 2 ≤ n) (h16 : n ≤ 16) (h : r = [] ∨ isDig (r.getD 0 0) = false) : countS (itoaS n ++ r) 16 = ((n : Int), ((itoaS n).length : Int)) := by
  obtain ⟨f1, f2, f3, f4⟩ := itoa_facts n (by omega) h2
  have hw : (itoaS n ++ r).takeWhile isDig = itoaS n := by rw [tw_app _ _ f1, tw_nil h, List.append_nil]
  have hg : (itoaS n ++ r).getD 0 0 = (itoaS n).getD 0 0 := by
    cases he : itoaS n with
    | nil => exact absurd he f2
    | cons c s => rfl
  unfold countS
  simp only [hw, hg, f4]
  rw [if_neg]
  rintro (e | e | e | e)
  · exact f2 (List.length_eq_zero_iff.1 e)
  · exact f3 e
  · omega
  · omega
theorem get_at {l a r : List UInt8} {p : Nat} (h : l.drop p = a ++ r) : l.drop (p + a.length) = r := by
  rw [← List.drop_drop, h, List.drop_left]
theorem get_head {l r : List UInt8} {q : Nat} (h : l.drop q = r) : (r = [] ↔ l.length ≤ q) ∧ l.getD q 0 = r.getD 0 0 := by
  subst h
  refine ⟨List.drop_eq_nil_iff, ?_⟩
  simp [List.getD]
theorem read_complete {tg : Bool} {t : List UInt8} {xs : List Stitch} (hT : Txt tg t xs) : ∀ (l r : List UInt8) (p F : Nat) (acc : List Stitch), l.drop p = t ++ r → p ≤ l.length →
    (tg = false → 2 * (l.length - p) ≤ F ∧ (r = [] ∨ r.getD 0 0 = 32 ∨ r.getD 0 0 = 93)) → (tg = true → 2 * (l.length - p) + 1 ≤ F ∧ (r = [] ∨ r.getD 0 0 = 93)) →
    readS l F tg p acc = some (((if tg then acc else []) ++ xs).take 17, p + t.length) := by
  induction hT with
  | @leaf x h =>
    intro l r p F acc hl hp hi _
    obtain ⟨_, hr⟩ := hi rfl
    obtain ⟨f1, f2, f3, f4⟩ := text_ok_of h
    have hg := (get_head hl).2
    have hg' : l.getD p 0 ≠ 91 := by
      rw [hg]
      cases he : textS x with
      | nil => exact absurd he f4
      | cons c s => rw [he] at f3; exact f3
    have hrn : r = [] ∨ nb (r.getD 0 0) = false := hr.imp id fun e => by rcases e with e | e <;> rw [e] <;> rfl
    have hw : wordS l p = textS x := by rw [word_tw hp, hl, tw_app _ _ f2, tw_nil hrn, List.append_nil]
    have he : wordEnd l p = p + (textS x).length := by rw [word_end _ p rfl hp, ← word_tw hp, hw]
    rw [read_leaf (.inr hg'), leaf_some rfl (by show (parseS (wordS l p)).2 = 0; rw [hw, f1])]
    show some ([(parseS (wordS l p)).1], wordEnd l p) = _
    rw [hw, he, f1]; rfl
  | @rep t xs n hT h2 h16 ih =>
    intro l r p F acc hl hp hi _
    obtain ⟨hF, hr⟩ := hi rfl
    have hlen : 2 ≤ l.length - p := by
      have := congrArg List.length hl
      simp [repT] at this; omega
    obtain ⟨F', rfl⟩ : ∃ m, F = m + 1 := ⟨F - 1, by omega⟩
    have hl1 : l.drop p = 91 :: (t ++ ([93, 120] ++ itoaS n ++ r)) := by rw [hl]; simp [repT]
    have hc : l.getD p 0 = 91 := by rw [(get_head hl1).2]; rfl
    have hd1 : l.drop (p + 1) = t ++ ([93, 120] ++ itoaS n ++ r) := by
      rw [← List.drop_drop, hl1]; rfl
    have hrow := ih l ([93, 120] ++ itoaS n ++ r) (p + 1) F' [] hd1 (by omega) (fun e => by cases e) (fun _ => ⟨by omega, .inr rfl⟩)
    have hd2 := get_at hd1
    have hd3 : l.drop (p + 1 + t.length + 2) = itoaS n ++ r := by rw [← List.drop_drop, hd2]; rfl
    have hdr : r = [] ∨ isDig (r.getD 0 0) = false := hr.imp id fun e => by rcases e with e | e <;> rw [e] <;> rfl
    have hcnt := count_itoa h2 h16 hdr
    have hpos : 0 < (itoaS n).length := List.length_pos_iff.2 (itoa_facts n (by omega) h2).2.1
    rw [read_rep (by rintro (e | e); omega; exact e hc), hrow]
    simp only
    unfold closeS
    rw [if_pos (by rw [hd2]; exact ⟨itoaS n ++ r, by simp⟩), hd3, hcnt]
    simp only
    rw [if_pos (by omega), Int.toNat_natCast, Int.toNat_natCast]
    simp only [if_true, Bool.false_eq_true, if_false, List.nil_append]
    rw [times_take]
    congr 2
    simp [repT]; omega
  | @one t xs hT ih =>
    intro l r p F acc hl hp _ hi
    obtain ⟨hF, hr⟩ := hi rfl
    obtain ⟨F', rfl⟩ : ∃ m, F = m + 1 := ⟨F - 1, by omega⟩
    have h1 := ih l r p F' [] hl hp (fun _ => ⟨by omega, hr.imp id .inr⟩) (fun e => by cases e)
    have hq := get_head (get_at hl)
    have hle : p + t.length ≤ l.length := by have := congrArg List.length hl; simp at this; omega
    have hc : p + t.length = l.length ∨ l.getD (p + t.length) 0 ≠ 32 := by
      rcases hr with e | e
      · left; have := hq.1.1 e; omega
      · right; rw [hq.2, e]; decide
    rw [read_row_end h1 hc]
    simp only [Bool.false_eq_true, if_false, if_true, List.nil_append]
    rw [take_take_app]
  | @cons t s xs ys hT hR ih1 ih2 =>
    intro l r p F acc hl hp _ hi
    obtain ⟨hF, hr⟩ := hi rfl
    obtain ⟨F', rfl⟩ : ∃ m, F = m + 1 := ⟨F - 1, by omega⟩
    have hl1 : l.drop p = t ++ ([32] ++ s ++ r) := by rw [hl]; simp
    have h1 := ih1 l ([32] ++ s ++ r) p F' [] hl1 hp (fun _ => ⟨by omega, .inr (.inl rfl)⟩) (fun e => by cases e)
    have hd := get_at hl1
    have hq := get_head hd
    have hlt : p + t.length < l.length := by
      rcases Nat.lt_or_ge (p + t.length) l.length with h | h
      · exact h
      · have := hq.1.2 h; simp at this
    have hd2 : l.drop (p + t.length + 1) = s ++ r := by rw [← List.drop_drop, hd]; rfl
    have h2 := ih2 l r (p + t.length + 1) F' ((acc ++ (([] : List Stitch) ++ xs).take 17).take 17) hd2 (by omega) (fun e => by cases e) (fun _ => ⟨by omega, hr⟩)
    rw [read_row_next (acc := acc) h1 (by rintro (e | e); omega; exact e (by rw [hq.2]; rfl))]
    simp only [Bool.false_eq_true, if_false, if_true, List.nil_append] at h2 ⊢
    rw [h2, take_take_app]
    congr 2
    · rw [← List.append_assoc, List.take_append, List.take_append (l₁ := acc ++ xs), List.take_take, Nat.min_self]
      rw [show 17 - (List.take 17 (acc ++ xs)).length = 17 - (acc ++ xs).length by simp; omega]
    · simp; omega
/-- A text of the grammar is read as what it stands for. -/
theorem expand_complete {l : List UInt8} {xs : List Stitch} (h : Txt true l xs) (hl : l.length ≤ 1024) (h16 : xs.length ≤ 16) : expandS l = (xs, 0) := by
  have hr := read_complete h l [] 0 (2 * l.length + 1) [] (by simp) (by omega) (fun e => by cases e) (fun _ => ⟨by omega, .inl rfl⟩)
  simp only [if_true, List.nil_append, Nat.zero_add] at hr
  rw [List.take_of_length_le (by omega)] at hr
  unfold expandS rowS
  rw [if_neg (by omega), hr]
  simp only [if_true]
  rw [if_neg (by omega)]
end Go.G14
