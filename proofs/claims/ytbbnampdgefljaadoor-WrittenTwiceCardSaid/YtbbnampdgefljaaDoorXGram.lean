/- Written rows as a grammar; the reader reads exactly its texts. Conditions: none. -/
import Derived.Test.YtbbnampdgefljaaDoorXMach
set_option linter.unusedVariables false
set_option linter.unusedSimpArgs false
namespace Go.G14
open Go.Lw

/-- The text of an item (tag false) or of a row (tag true), and what it stands for. -/
inductive Txt : Bool → List UInt8 → List Stitch → Prop
  | leaf {x : Stitch} (h : checkS x = 0) : Txt false (textS x) [x]
  | rep {t : List UInt8} {xs : List Stitch} {n : Nat} (h : Txt true t xs) (h2 : 2 ≤ n) (h16 : n ≤ 16) : Txt false (repT t n) (timesS xs n)
  | one {t : List UInt8} {xs : List Stitch} (h : Txt false t xs) : Txt true t xs
  | cons {t s : List UInt8} {xs ys : List Stitch} (h : Txt false t xs) (hr : Txt true s ys) : Txt true (t ++ [32] ++ s) (xs ++ ys)

theorem Txt.ok {tg : Bool} {t : List UInt8} {xs : List Stitch} (h : Txt tg t xs) : xs ≠ [] ∧ xs.all okB = true := by
  induction h with
  | leaf h => exact ⟨by simp, by simp [(okB_iff _).2 h]⟩
  | @rep t xs n _ h2 _ ih =>
    obtain ⟨m, rfl⟩ : ∃ m, n = m + 1 := ⟨n - 1, by omega⟩
    refine ⟨?_, ?_⟩
    · rw [times_succ]; intro e; exact ih.1 (List.append_eq_nil_iff.1 e).2
    · rw [List.all_eq_true] at ih ⊢
      intro x hx
      unfold timesS at hx
      obtain ⟨l, hl, hx⟩ := List.mem_flatten.1 hx
      rw [(List.mem_replicate.1 hl).2] at hx
      exact ih.2 x hx
  | one _ ih => exact ih
  | cons _ _ ih1 ih2 => exact ⟨by intro e; exact ih1.1 (List.append_eq_nil_iff.1 e).1, by rw [List.all_append, ih1.2, ih2.2]; rfl⟩
/-- Two rows, one after the other. -/
theorem Txt.app {t s : List UInt8} {xs ys : List Stitch} (h : Txt true t xs) (hr : Txt true s ys) : Txt true (t ++ [32] ++ s) (xs ++ ys) := by
  generalize hb : true = tg at h
  induction h with
  | leaf _ => cases hb
  | rep _ _ _ => cases hb
  | one h _ => exact .cons h hr
  | @cons t s' xs' ys' h1 _ _ ih2 =>
    have := Txt.cons h1 (ih2 rfl)
    simpa [List.append_assoc] using this

/-! What the reader reads is a text of the grammar. -/
theorem times_take (xs : List Stitch) (n : Nat) : (timesS (xs.take 17) n).take 17 = (timesS xs n).take 17 := by
  rcases Nat.lt_or_ge xs.length 18 with h | h
  · rw [List.take_of_length_le (show xs.length ≤ 17 by omega)]
  · cases n with
    | zero => rfl
    | succ n =>
      have e : ∀ ys : List Stitch, timesS ys (n + 1) = ys ++ timesS ys n := fun ys => by simp [timesS, List.replicate_succ]
      rw [e, e, List.take_append_of_le_length (by simp; omega), List.take_append_of_le_length (by omega), List.take_take, Nat.min_self]
theorem word_split {l : List UInt8} {p : Nat} (hp : p ≤ l.length) : l.drop p = wordS l p ++ l.drop (wordEnd l p) := by
  rw [word_tw hp, word_end _ p rfl hp, ← List.drop_drop, tw_drop, List.takeWhile_append_dropWhile]
theorem parse_text {l : List UInt8} (h : (parseS l).2 = 0) : textS (parseS l).1 = l ∧ checkS (parseS l).1 = 0 := by
  unfold parseS at h ⊢
  split at h
  · simp at h
  · rename_i c
    rw [if_neg c]
    simp only [not_or, Decidable.not_not] at c
    refine ⟨c.2, ?_⟩
    simp only
    refine Decidable.not_not.1 fun e => c.1 ?_
    rw [← c.2, textS, if_pos e]
theorem count_text {r : List UInt8} (h : 0 < (countS r 16).2) : ∃ n : Nat, 2 ≤ n ∧ n ≤ 16 ∧ (countS r 16).1 = n ∧ r = itoaS n ++ r.drop (countS r 16).2.toNat ∧ ((countS r 16).2.toNat = (itoaS n).length) := by
  obtain ⟨n1, n2, n3⟩ := num_count (r := r) rfl
  obtain ⟨e1, e2⟩ := n2 (by omega)
  have hall := all_tw r
  have hpre : r = r.takeWhile isDig ++ r.drop (r.takeWhile isDig).length := by rw [tw_drop, List.takeWhile_append_dropWhile]
  have key : r.takeWhile isDig = itoaS (countS r 16).1.toNat ∧ 2 ≤ (countS r 16).1 ∧ (countS r 16).1 ≤ 16 := by
    rw [← n1] at e2 ⊢
    generalize r.takeWhile isDig = W at hall e2 ⊢
    unfold numberS at e2 ⊢
    split at e2
    · exact absurd rfl e2
    · rename_i c1
      rw [if_neg c1]
      split at e2
      · exact absurd rfl e2
      · rename_i c2
        rw [if_neg c2]
        split at e2
        · exact absurd rfl e2
        · rename_i c3
          rw [if_neg c3]
          refine ⟨?_, by omega, by omega⟩
          match W, hall, c1, c3 with
          | [a], ha, c1, c3 =>
            simp only [List.all_cons, List.all_nil, Bool.and_true] at ha
            have h1 := (isDig_iff a).1 ha
            simp [valS, dstep] at c3 ⊢
            unfold itoaS
            rw [if_pos (by omega)]
            congr 1
            apply UInt8.toNat_inj.1
            have := dg_val (((a.toNat : Int) - 48).toNat : Int) (by omega) (by omega)
            omega
          | [a, b], ha, c1, c3 =>
            simp only [List.all_cons, List.all_nil, Bool.and_true, Bool.and_eq_true] at ha
            have h1 := (isDig_iff a).1 ha.1
            have h2 := (isDig_iff b).1 ha.2
            simp [valS, dstep] at c1 c3 ⊢
            unfold itoaS
            rw [if_neg (by omega)]
            have d1 := dg_val (((10 * ((a.toNat : Int) - 48) + ((b.toNat : Int) - 48)).toNat / 10 : Nat) : Int) (by omega) (by omega)
            have d2 := dg_val (((10 * ((a.toNat : Int) - 48) + ((b.toNat : Int) - 48)).toNat % 10 : Nat) : Int) (by omega) (by omega)
            congr 1
            · apply UInt8.toNat_inj.1; omega
            · congr 1
              apply UInt8.toNat_inj.1; omega
          | [], _, c1, _ => simp at c1
          | a :: b :: d :: s, _, c1, _ => simp at c1
  refine ⟨(countS r 16).1.toNat, by omega, by omega, by omega, ?_, ?_⟩
  · rw [e1, Int.toNat_natCast]; conv => lhs; rw [hpre, key.1]
    rw [key.1]
  · rw [e1, Int.toNat_natCast, key.1]
def cutS (l : List UInt8) (p q : Nat) : List UInt8 := (l.take q).drop p
theorem drop_cut {l : List UInt8} {p q : Nat} (h1 : p ≤ q) (h2 : q ≤ l.length) : l.drop p = cutS l p q ++ l.drop q := by
  unfold cutS
  conv => lhs; rw [← List.take_append_drop q l]
  rw [List.drop_append_of_le_length (by simp; omega)]
theorem cut_of {l a : List UInt8} {p q : Nat} (h : l.drop p = a ++ l.drop q) (h1 : p ≤ q) (h2 : q ≤ l.length) : cutS l p q = a := by
  rw [drop_cut h1 h2] at h
  exact List.append_cancel_right h
theorem read_sound {l : List UInt8} : ∀ (F : Nat) (tg : Bool) (p : Nat) (acc xs : List Stitch) (q : Nat), p ≤ l.length → readS l F tg p acc = some (xs, q) →
    ∃ ys, Txt tg (cutS l p q) ys ∧ xs = ((if tg then acc else []) ++ ys).take 17
  | F, false, p, acc, xs, q, hp, h => by
    by_cases c : p = l.length ∨ l.getD p 0 ≠ 91
    · rw [read_leaf c] at h
      by_cases h0 : (parseS (wordS l p)).2 = 0
      · rw [leaf_some rfl h0] at h
        cases h
        obtain ⟨e1, e2⟩ := parse_text h0
        have hw := wordEnd_rng hp
        refine ⟨[(parseS (wordS l p)).1], ?_, rfl⟩
        rw [cut_of (word_split hp) hw.1 hw.2]
        have := Txt.leaf e2
        rwa [e1] at this
      · rw [leaf_none rfl h0] at h; cases h
    · cases F with
      | zero => rw [readS, if_neg c] at h; cases h
      | succ F =>
        rw [read_rep c] at h
        have hlt : p < l.length := by omega
        have hc : l.getD p 0 = 91 := Decidable.not_not.1 fun e => c (.inr e)
        cases hr : readS l F true (p + 1) [] with
        | none => rw [hr] at h; cases h
        | some z =>
          obtain ⟨zs, r⟩ := z
          rw [hr] at h
          simp only at h
          obtain ⟨ys, hT, hz⟩ := read_sound F true (p + 1) [] zs r (by omega) hr
          have hpos := read_pos F true (p + 1) [] zs r (by omega) hr
          have hcl := close_pos h
          unfold closeS at h
          split at h
          · rename_i hpre
            simp only at h
            split at h
            · rename_i hcnt
              simp only [Option.some.injEq, Prod.mk.injEq] at h
              obtain ⟨hx, hq⟩ := h
              obtain ⟨n, n2, n16, en, er, el⟩ := count_text hcnt
              refine ⟨timesS ys n, ?_, ?_⟩
              · have h2 := pre_two.1 hpre
                have e1 : l.drop p = repT (cutS l (p + 1) r) n ++ l.drop q := by
                  rw [drop_get hlt, hc, drop_cut (p := p + 1) (q := r) (by omega) hpos.2.1, drop_get (show r < l.length by omega), h2.1, drop_get h2.2.1, h2.2.2]
                  rw [show r + 1 + 1 = r + 2 from rfl, er, List.drop_drop, hq]
                  simp [repT]
                rw [cut_of e1 (by omega) hcl.2.1]
                exact Txt.rep hT n2 n16
              · rw [← hx, en, Int.toNat_natCast, hz]
                simp only [Bool.false_eq_true, if_false, if_true, List.nil_append]
                exact times_take ys n
            · cases h
          · cases h
  | 0, true, p, acc, xs, q, hp, h => by rw [readS] at h; cases h
  | F + 1, true, p, acc, xs, q, hp, h => by
    cases hr : readS l F false p [] with
    | none => rw [read_row_none hr] at h; cases h
    | some z =>
      obtain ⟨zs, r⟩ := z
      obtain ⟨ys, hT, hz⟩ := read_sound F false p [] zs r hp hr
      have hpos := read_pos F false p [] zs r hp hr
      simp only [Bool.false_eq_true, if_false, List.nil_append] at hz
      by_cases c : r = l.length ∨ l.getD r 0 ≠ 32
      · rw [read_row_end hr c] at h
        cases h
        refine ⟨ys, .one hT, ?_⟩
        rw [if_pos rfl, hz, take_take_app]
      · rw [read_row_next hr c] at h
        have h32 : l.getD r 0 = 32 := Decidable.not_not.1 fun e => c (.inr e)
        have hlt : r < l.length := by omega
        obtain ⟨ys2, hT2, hz2⟩ := read_sound F true (r + 1) _ xs q (by omega) h
        have hpos2 := read_pos F true (r + 1) _ xs q (by omega) h
        refine ⟨ys ++ ys2, ?_, ?_⟩
        · have e1 : l.drop p = (cutS l p r ++ [32] ++ cutS l (r + 1) q) ++ l.drop q := by
            rw [drop_cut (Nat.le_of_lt hpos.1) hpos.2.1, drop_get hlt, h32, drop_cut (p := r + 1) (q := q) (by omega) hpos2.2.1]
            simp
          rw [cut_of e1 (by omega) hpos2.2.1]
          exact .cons hT hT2
        · rw [hz2, if_pos rfl, if_pos rfl, hz, take_take_app, ← List.append_assoc]
          rw [List.take_append, List.take_append (l₁ := acc ++ ys), List.take_take, Nat.min_self]
          rw [show 17 - (List.take 17 (acc ++ ys)).length = 17 - (acc ++ ys).length by simp; omega]
/-- A row that was read is a text of the grammar. -/
theorem expand_sound {l : List UInt8} {xs : List Stitch} (h : expandS l = (xs, 0)) : Txt true l xs ∧ xs.length ≤ 16 := by
  unfold expandS at h
  split at h
  · cases h
  · unfold rowS at h
    cases hr : readS l (2 * l.length + 1) true 0 [] with
    | none => rw [hr] at h; cases h
    | some z =>
      obtain ⟨zs, q⟩ := z
      rw [hr] at h
      simp only at h
      by_cases c : q = l.length
      · rw [if_pos c] at h
        simp only at h
        split at h
        · cases h
        · rename_i h16
          cases h
          obtain ⟨ys, hT, hz⟩ := read_sound _ true 0 [] xs q (by omega) hr
          simp only [if_true, List.nil_append] at hz
          have : ys = xs := by
            rw [hz] at h16 ⊢
            rw [List.length_take] at h16
            rw [List.take_of_length_le (by omega)]
          subst this
          rw [c, show cutS l 0 l.length = l by simp [cutS]] at hT
          exact ⟨hT, by omega⟩
      · rw [if_neg c] at h; cases h
end Go.G14
