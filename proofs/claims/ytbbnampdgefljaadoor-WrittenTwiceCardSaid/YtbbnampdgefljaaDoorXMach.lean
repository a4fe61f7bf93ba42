/- The machine with a stack reads what the reader with calls reads. Conditions: none. -/
import Derived.Test.YtbbnampdgefljaaDoorXRef
set_option linter.unusedVariables false
set_option linter.unusedSimpArgs false
namespace Go.G14
open Go.Lw

def nb (c : UInt8) : Bool := decide (c ≠ 32 ∧ c ≠ 93)
theorem nb_iff (c : UInt8) : nb c = true ↔ c ≠ 32 ∧ c ≠ 93 := by simp [nb]
theorem dig_nb {c : UInt8} (h : isDig c = true) : nb c = true := by
  rw [nb_iff]
  have := (isDig_iff c).1 h
  constructor
  · rintro rfl; simp at this
  · rintro rfl; simp at this
theorem drop_get {l : List UInt8} {p : Nat} (h : p < l.length) : l.drop p = l.getD p 0 :: l.drop (p + 1) := by
  rw [List.drop_eq_getElem_cons h]; simp [List.getD, h]
theorem word_end {l : List UInt8} : ∀ (m p : Nat), l.length - p = m → p ≤ l.length → wordEnd l p = p + ((l.drop p).takeWhile nb).length
  | 0, p, hm, hp => by
    rw [show p = l.length by omega, List.drop_length, wordEnd_here (by omega)]; rfl
  | m + 1, p, hm, hp => by
    have hlt : p < l.length := by omega
    rw [drop_get hlt]
    by_cases c : nb (l.getD p 0) = true
    · rw [List.takeWhile_cons_of_pos c, wordEnd_next ⟨hlt, (nb_iff _).1 c⟩, word_end m (p + 1) (by omega) (by omega), List.length_cons]; omega
    · rw [List.takeWhile_cons_of_neg c, wordEnd_here (fun e => c ((nb_iff _).2 e.2))]; rfl
theorem word_tw {l : List UInt8} {p : Nat} (hp : p ≤ l.length) : wordS l p = (l.drop p).takeWhile nb := by
  rw [wordS, word_end _ p rfl hp, List.drop_take, Nat.add_sub_cancel_left]
  exact (List.prefix_iff_eq_take.1 (List.takeWhile_prefix nb)).symm
theorem tw_app {f : UInt8 → Bool} : ∀ (a b : List UInt8), a.all f = true → (a ++ b).takeWhile f = a ++ b.takeWhile f
  | [], b, _ => rfl
  | x :: a, b, h => by
    simp only [List.all_cons, Bool.and_eq_true] at h
    rw [List.cons_append, List.takeWhile_cons_of_pos h.1, tw_app a b h.2, List.cons_append]
theorem tw_all {f : UInt8 → Bool} : ∀ (l : List UInt8), (l.takeWhile f).all f = true
  | [] => rfl
  | c :: l => by
    by_cases h : f c = true
    · rw [List.takeWhile_cons_of_pos h, List.all_cons, h, tw_all l]; rfl
    · rw [List.takeWhile_cons_of_neg h]; rfl
theorem tw_drop {f : UInt8 → Bool} : ∀ (l : List UInt8), l.drop (l.takeWhile f).length = l.dropWhile f
  | [] => rfl
  | c :: l => by
    by_cases h : f c = true
    · rw [List.takeWhile_cons_of_pos h, List.dropWhile_cons_of_pos h, List.length_cons, List.drop_succ_cons, tw_drop l]
    · rw [List.takeWhile_cons_of_neg h, List.dropWhile_cons_of_neg h]; rfl
theorem dw_head {r : List UInt8} {c : UInt8} {s : List UInt8} (h : r.dropWhile isDig = c :: s) : isDig c = false := by
  induction r with
  | nil => cases h
  | cons x r ih =>
    by_cases e : isDig x = true
    · rw [List.dropWhile_cons_of_pos e] at h; exact ih h
    · rw [List.dropWhile_cons_of_neg e] at h; cases h; simpa using e
theorem cap_big : ∀ (l : List UInt8) (n : Int), 100 ≤ n → l.all isDig = true → 100 ≤ l.foldl cstep n
  | [], n, h, _ => h
  | c :: l, n, h, ha => by
    simp only [List.all_cons, Bool.and_eq_true] at ha
    have := (isDig_iff c).1 ha.1
    exact cap_big l _ (by unfold cstep; omega) ha.2
/-- A word of digits alone is counted as it is read. -/
theorem num_count {r W : List UInt8} (hW : r.takeWhile isDig = W) : numberS W 16 = (countS r 16).1 ∧ ((countS r 16).2 ≠ 0 → (countS r 16).2 = W.length ∧ (countS r 16).1 ≠ 0) ∧ ((countS r 16).2 = 0 → (countS r 16).1 = 0) := by
  have ha : W.all isDig = true := by rw [← hW]; exact all_tw r
  have hg : W ≠ [] → r.getD 0 0 = W.getD 0 0 := by
    intro h
    subst hW
    cases r with
    | nil => exact absurd rfl h
    | cons x r =>
      by_cases e : isDig x = true
      · rw [List.takeWhile_cons_of_pos e]; rfl
      · rw [List.takeWhile_cons_of_neg e] at h; exact absurd rfl h
  unfold countS
  simp only [hW]
  unfold numberS
  match W, ha, hg with
  | [], _, _ => simp
  | [a], ha, hg =>
    rw [hg (by simp)]
    simp only [List.all_cons, List.all_nil, Bool.and_true] at ha
    have h1 := (isDig_iff a).1 ha
    have e : capS [a] = valS [a] := by simp [capS, valS, cstep, dstep]; omega
    rw [e]
    by_cases c1 : ((([a] : List UInt8).getD 0 0).toNat : Int) = 48
    · rw [if_pos (.inr (.inr c1)), if_pos (.inr (.inl c1))]; simp
    · rw [if_neg (by simp at c1 ⊢; omega), if_neg (by simp [ha])]
      by_cases c2 : valS [a] < 2 ∨ 16 < valS [a]
      · rw [if_pos c2, if_pos (.inr (.inr c2))]; simp
      · rw [if_neg c2, if_neg (by rintro (h | h | h); cases h; exact c1 h; exact c2 h)]; simp; omega
  | [a, b], ha, hg =>
    rw [hg (by simp)]
    simp only [List.all_cons, List.all_nil, Bool.and_true, Bool.and_eq_true] at ha
    have h1 := (isDig_iff a).1 ha.1
    have h2 := (isDig_iff b).1 ha.2
    have e : capS [a, b] = valS [a, b] := by simp [capS, valS, cstep, dstep]; omega
    rw [e]
    by_cases c1 : ((([a, b] : List UInt8).getD 0 0).toNat : Int) = 48
    · rw [if_pos (.inr (.inr c1)), if_pos (.inr (.inl c1))]; simp
    · rw [if_neg (by simp at c1 ⊢; omega), if_neg (by simp [ha.1, ha.2])]
      by_cases c2 : valS [a, b] < 2 ∨ 16 < valS [a, b]
      · rw [if_pos c2, if_pos (.inr (.inr c2))]; simp
      · rw [if_neg c2, if_neg (by rintro (h | h | h); cases h; exact c1 h; exact c2 h)]; simp; omega
  | a :: b :: d :: s, ha, hg =>
    rw [hg (by simp), if_pos (by right; left; simp)]
    simp only [List.all_cons, Bool.and_eq_true] at ha
    have h1 := (isDig_iff a).1 ha.1
    have h2 := (isDig_iff b).1 ha.2.1
    have h3 := (isDig_iff d).1 ha.2.2.1
    by_cases c1 : (((a :: b :: d :: s : List UInt8).getD 0 0).toNat : Int) = 48
    · rw [if_pos (.inr (.inl c1))]; simp
    · have hc : 100 ≤ capS (a :: b :: d :: s) := cap_big s _ (by simp at c1; simp [cstep]; omega) ha.2.2.2
      rw [if_pos (by right; right; right; omega)]; simp

def proper (l : List UInt8) (q : Nat) : Prop := q = l.length ∨ l.getD q 0 = 32 ∨ l.getD q 0 = 93
theorem word_proper {l : List UInt8} {p : Nat} (hp : p ≤ l.length) : proper l (wordEnd l p) := by
  have h1 := wordEnd_rng hp
  rcases Nat.lt_or_ge (wordEnd l p) l.length with h | h
  · by_cases c : l.getD (wordEnd l p) 0 ≠ 32 ∧ l.getD (wordEnd l p) 0 ≠ 93
    · exfalso
      have h2 : (l.drop p).takeWhile nb = (l.drop p).take ((l.drop p).takeWhile nb).length := List.prefix_iff_eq_take.1 (List.takeWhile_prefix nb)
      have h3 := word_end _ p rfl hp
      have h4 : l.drop p = (l.drop p).takeWhile nb ++ l.getD (wordEnd l p) 0 :: l.drop (wordEnd l p + 1) := by
        rw [← drop_get h, h3, ← List.drop_drop]
        conv => lhs; rw [← List.take_append_drop ((l.drop p).takeWhile nb).length (l.drop p)]
        rw [← h2]
      have h5 : ((l.drop p).takeWhile nb).all nb = true := tw_all _
      have h6 := congrArg (List.takeWhile nb) h4
      rw [tw_app _ _ h5, List.takeWhile_cons_of_pos ((nb_iff _).2 c)] at h6
      have := congrArg List.length h6
      simp at this
    · rw [Decidable.not_and_iff_not_or_not, Decidable.not_not, Decidable.not_not] at c
      exact .inr c
  · exact .inl (by omega)
/-- What the count says of the word from there on. -/
theorem word_num {l : List UInt8} {p : Nat} (hp : p ≤ l.length) :
    let c := countS (l.drop p) 16
    (c.2 = 0 → numberS (wordS l p) 16 = 0) ∧
    (0 < c.2 → (proper l (p + c.2.toNat) → numberS (wordS l p) 16 = c.1 ∧ wordEnd l p = p + c.2.toNat) ∧ (¬ proper l (p + c.2.toNat) → numberS (wordS l p) 16 = 0)) := by
  obtain ⟨n1, n2, n3⟩ := num_count (r := l.drop p) rfl
  have hsplit := (List.takeWhile_append_dropWhile (p := isDig) (l := l.drop p)).symm
  have hda := all_tw (l.drop p)
  have hdn : ((l.drop p).takeWhile isDig).all nb = true := by
    rw [List.all_eq_true] at hda ⊢; exact fun x hx => dig_nb (hda x hx)
  have hW : wordS l p = (l.drop p).takeWhile isDig ++ ((l.drop p).dropWhile isDig).takeWhile nb := by
    rw [word_tw hp]; conv => lhs; rw [hsplit]
    exact tw_app _ _ hdn
  have hrest : l.drop (p + ((l.drop p).takeWhile isDig).length) = (l.drop p).dropWhile isDig := by
    rw [← List.drop_drop]; exact tw_drop _
  have hall : (wordS l p).all isDig = true → ((l.drop p).dropWhile isDig).takeWhile nb = [] := by
    intro h
    rw [hW, List.all_append, Bool.and_eq_true] at h
    cases hd : (l.drop p).dropWhile isDig with
    | nil => rfl
    | cons c s =>
      rw [hd] at h
      by_cases e : nb c = true
      · rw [List.takeWhile_cons_of_pos e] at h
        simp [dw_head hd] at h
      · rw [List.takeWhile_cons_of_neg e]
  have hno : (wordS l p).all isDig = false → numberS (wordS l p) 16 = 0 := by
    intro h; unfold numberS; split
    · rfl
    · first | rfl | rw [if_pos h]
  have hyes : ((l.drop p).dropWhile isDig).takeWhile nb = [] → numberS (wordS l p) 16 = (countS (l.drop p) 16).1 := by
    intro h; rw [hW, h, List.append_nil]; exact n1
  have hprop : proper l (p + ((l.drop p).takeWhile isDig).length) ↔ ((l.drop p).dropWhile isDig).takeWhile nb = [] := by
    cases hd : (l.drop p).dropWhile isDig with
    | nil =>
      rw [hd] at hrest
      simp only [List.takeWhile_nil, iff_true]
      left
      have := (List.drop_eq_nil_iff).1 hrest
      have h2 : ((l.drop p).takeWhile isDig).length ≤ (l.drop p).length := (List.takeWhile_sublist _).length_le
      simp at h2; omega
    | cons c s =>
      rw [hd] at hrest
      have hlt : p + ((l.drop p).takeWhile isDig).length < l.length := by
        rcases Nat.lt_or_ge (p + ((l.drop p).takeWhile isDig).length) l.length with h | h
        · exact h
        · rw [List.drop_of_length_le h] at hrest; cases hrest
      have hc : l.getD (p + ((l.drop p).takeWhile isDig).length) 0 = c := by
        rw [drop_get hlt] at hrest; exact (List.cons.inj hrest).1
      unfold proper
      rw [hc]
      by_cases e : nb c = true
      · rw [List.takeWhile_cons_of_pos e]
        have := (nb_iff c).1 e
        simp [this.1, this.2]; omega
      · rw [List.takeWhile_cons_of_neg e]
        have : ¬ (c ≠ 32 ∧ c ≠ 93) := fun h => e ((nb_iff c).2 h)
        rw [Decidable.not_and_iff_not_or_not, Decidable.not_not, Decidable.not_not] at this
        simp only [iff_true]; exact .inr this
  simp only
  refine ⟨fun h0 => ?_, fun h0 => ?_⟩
  · cases ha : (wordS l p).all isDig with
    | false => exact hno ha
    | true => rw [hyes (hall ha)]; exact n3 h0
  · have hlen := (n2 (by omega)).1
    rw [hlen, Int.toNat_natCast]
    refine ⟨fun hpr => ⟨hyes (hprop.1 hpr), ?_⟩, fun hpr => hno ?_⟩
    · rw [word_end _ p rfl hp, ← word_tw hp, hW, hprop.1 hpr, List.append_nil]
    · cases ha : (wordS l p).all isDig with
      | false => rfl
      | true => exact absurd (hprop.2 (hall ha)) hpr
theorem take_take_app (a b : List Stitch) : (a ++ b.take 17).take 17 = (a ++ b).take 17 := by
  rw [List.take_append, List.take_append, List.take_take, Nat.min_eq_left (by omega)]
theorem pre_two {l : List UInt8} {q : Nat} : [93, 120] <+: l.drop q ↔ l.getD q 0 = 93 ∧ q + 1 < l.length ∧ l.getD (q + 1) 0 = 120 := by
  constructor
  · intro h
    have hl := h.length_le
    simp at hl
    rw [drop_get (by omega), drop_get (show q + 1 < l.length by omega), List.cons_prefix_cons, List.cons_prefix_cons] at h
    exact ⟨h.1.symm, by omega, h.2.1.symm⟩
  · rintro ⟨h1, h2, h3⟩
    rw [drop_get (by omega), drop_get h2, h1, h3]
    exact ⟨l.drop (q + 1 + 1), rfl⟩
def ItemM (l : List UInt8) (F p : Nat) : Prop := ∀ (b : List (List Stitch)) (t : List Stitch), t.length ≤ 17 →
  (readS l F false p [] = none → Mach l b t p true ([], 4)) ∧
  ∀ xs q, readS l F false p [] = some (xs, q) → (proper l q → ∀ R, Mach l b ((t ++ xs).take 17) q false R → Mach l b t p true R) ∧ (¬ proper l q → Mach l b t p true ([], 4))
def RowM (l : List UInt8) (F p : Nat) : Prop := ∀ (b : List (List Stitch)) (acc : List Stitch), acc.length ≤ 17 →
  (readS l F true p acc = none → Mach l b acc p true ([], 4)) ∧
  ∀ xs q, readS l F true p acc = some (xs, q) → (q = l.length ∨ l.getD q 0 = 93 → ∀ R, Mach l b xs q false R → Mach l b acc p true R) ∧ (¬ (q = l.length ∨ l.getD q 0 = 93) → Mach l b acc p true ([], 4))
theorem item_leaf {l : List UInt8} {F p : Nat} (hp : p ≤ l.length) (c : p = l.length ∨ l.getD p 0 ≠ 91) : ItemM l F p := by
  intro b t ht
  rw [read_leaf c]
  by_cases h : (parseS (wordS l p)).2 = 0
  · have hpos := word_pos hp h
    have hw := wordEnd_rng hp
    have hne : l.getD p 0 ≠ 91 := c.resolve_left (by omega)
    rw [leaf_some rfl h]
    refine ⟨(fun e => by cases e), fun xs q e => ?_⟩
    cases e
    exact ⟨fun _ R m => m_leaf (by omega) hne h m, fun hn => absurd (word_proper hp) hn⟩
  · rw [leaf_none rfl h]
    refine ⟨fun _ => ?_, fun xs q e => by cases e⟩
    rcases Nat.lt_or_ge p l.length with hlt | hge
    · exact m_leaf4 hlt (c.resolve_left (by omega)) h
    · exact m_end (by omega)
theorem item_rep {l : List UInt8} {F p : Nat} (hp : p ≤ l.length) (c : ¬ (p = l.length ∨ l.getD p 0 ≠ 91)) (ih : RowM l F (p + 1)) : ItemM l (F + 1) p := by
  intro b t ht
  have hlt : p < l.length := by omega
  have hc : l.getD p 0 = 91 := Decidable.not_not.1 fun e => c (.inr e)
  rw [read_rep c]
  obtain ⟨r1, r2⟩ := ih (b ++ [t]) [] (by simp)
  cases hr : readS l F true (p + 1) [] with
  | none => exact ⟨fun _ => m_open hlt hc (r1 hr), fun xs q e => by cases e⟩
  | some z =>
    obtain ⟨xs, q⟩ := z
    obtain ⟨s1, s2⟩ := r2 xs q hr
    have hpos := read_pos F true (p + 1) [] xs q (by omega) hr
    simp only
    unfold closeS
    by_cases hpre : [93, 120] <+: l.drop q
    · rw [if_pos hpre]
      have h2 := pre_two.1 hpre
      have hends : ends l (b ++ [t]) q := ⟨h2.1, by simp, h2.2.1, h2.2.2⟩
      have hwn := word_num (l := l) (p := q + 2) (by omega)
      simp only at hwn ⊢
      have hcr := @count_rng (l.drop (q + 2)) 16
      by_cases c2 : 0 < (countS (l.drop (q + 2)) 16).2
      · rw [if_pos c2]
        refine ⟨(fun e => by cases e), fun ys r e => ?_⟩
        cases e
        refine ⟨fun hpr R m => ?_, fun hpr => ?_⟩
        · obtain ⟨e1, e2⟩ := (hwn.2 c2).1 hpr
          have e3 : (countS (l.drop (q + 2)) 16).1 ≠ 0 := ((num_count (r := l.drop (q + 2)) rfl).2.1 (by omega)).2
          refine m_open hlt hc (s1 (.inr h2.1) R (m_close hends (by rw [e1]; exact e3) ?_))
          rw [e1, e2, ← take_take_app]; exact m
        · exact m_open hlt hc (s1 (.inr h2.1) _ (m_num hends ((hwn.2 c2).2 hpr)))
      · rw [if_neg c2]
        exact ⟨fun _ => m_open hlt hc (s1 (.inr h2.1) _ (m_num hends (hwn.1 (by omega)))), fun xs q e => by cases e⟩
    · rw [if_neg hpre]
      refine ⟨fun _ => m_open hlt hc ?_, fun xs q e => by cases e⟩
      by_cases c3 : q = l.length ∨ l.getD q 0 = 93
      · refine s1 c3 _ ?_
        rcases Nat.lt_or_ge q l.length with h | h
        · have h93 : l.getD q 0 = 93 := c3.resolve_left (by omega)
          exact m_bad h (by rw [h93]; decide) fun e => hpre (pre_two.2 ⟨e.1, e.2.2.1, e.2.2.2⟩)
        · exact m_fin4 (by omega) (by simp)
      · exact s2 c3
theorem row_mach {l : List UInt8} {F p : Nat} (hp : p ≤ l.length) (ih : ItemM l F p) (ihr : ∀ q, p < q → q ≤ l.length → RowM l F q) : RowM l (F + 1) p := by
  intro b acc ht
  obtain ⟨i1, i2⟩ := ih b acc ht
  cases hr : readS l F false p [] with
  | none => rw [read_row_none hr]; exact ⟨fun _ => i1 hr, fun xs q e => by cases e⟩
  | some z =>
    obtain ⟨ys, r⟩ := z
    obtain ⟨j1, j2⟩ := i2 ys r hr
    have hpos := read_pos F false p [] ys r hp hr
    by_cases c : r = l.length ∨ l.getD r 0 ≠ 32
    · rw [read_row_end hr c]
      refine ⟨(fun e => by cases e), fun xs q e => ?_⟩
      cases e
      refine ⟨fun h R m => j1 (h.imp id .inr) R m, fun h => j2 fun h2 => ?_⟩
      rcases h2 with h2 | h2 | h2
      · exact h (.inl h2)
      · rcases c with c | c
        · exact h (.inl c)
        · exact c h2
      · exact h (.inr h2)
    · rw [read_row_next hr c]
      have h32 : l.getD r 0 = 32 := Decidable.not_not.1 fun e => c (.inr e)
      have hlt : r < l.length := by omega
      obtain ⟨k1, k2⟩ := ihr (r + 1) (by omega) (by omega) b ((acc ++ ys).take 17) (by simp; omega)
      have go : ∀ R, Mach l b ((acc ++ ys).take 17) (r + 1) true R → Mach l b acc p true R := fun R m => j1 (.inr (.inl h32)) R (m_space hlt h32 m)
      exact ⟨fun h => go _ (k1 h), fun xs q h => ⟨fun hc R m => go _ ((k2 xs q h).1 hc R m), fun hc => go _ ((k2 xs q h).2 hc)⟩⟩
theorem mach_read {l : List UInt8} : ∀ (F : Nat), (∀ p, p ≤ l.length → 2 * (l.length - p) ≤ F → ItemM l F p) ∧ (∀ p, p ≤ l.length → 2 * (l.length - p) + 1 ≤ F → RowM l F p)
  | 0 => ⟨fun p hp hF => item_leaf hp (.inl (by omega)), fun p hp hF => by omega⟩
  | F + 1 => by
    obtain ⟨h1, h2⟩ := mach_read F
    refine ⟨fun p hp hF => ?_, fun p hp hF => row_mach hp (h1 p hp (by omega)) fun q hq hql => h2 q hql (by omega)⟩
    by_cases c : p = l.length ∨ l.getD p 0 ≠ 91
    · exact item_leaf hp c
    · exact item_rep hp c (h2 (p + 1) (by omega) (by omega))
/-- What the machine returns is the row of the text, and the error. -/
theorem mach_all {l : List UInt8} {R : List Stitch × Int} (h1 : l.length ≤ 1024 → Mach l [] [] 0 true R) (h2 : 1024 < l.length → R = ([], 3)) : R = expandS l := by
  unfold expandS
  by_cases c : 1024 < l.length
  · rw [if_pos c]; exact h2 c
  · rw [if_neg c]
    refine (h1 (by omega)).det ?_
    obtain ⟨r1, r2⟩ := (mach_read (l := l) (2 * l.length + 1)).2 0 (by omega) (by omega) [] [] (by simp)
    unfold rowS
    cases hr : readS l (2 * l.length + 1) true 0 [] with
    | none => exact r1 hr
    | some z =>
      obtain ⟨xs, q⟩ := z
      obtain ⟨s1, s2⟩ := r2 xs q hr
      have hpos := read_pos (2 * l.length + 1) true 0 [] xs q (by omega) hr
      simp only
      by_cases c2 : q = l.length
      · rw [if_pos c2]
        simp only
        refine s1 (.inl c2) _ ?_
        by_cases c3 : 16 < xs.length
        · rw [if_pos c3]; exact m_fin3 (by omega) c3
        · rw [if_neg c3]; exact m_fin0 (by omega) c3
      · rw [if_neg c2]
        simp only
        by_cases c3 : l.getD q 0 = 93
        · exact s1 (.inr c3) _ (m_bad (by omega) (by rw [c3]; decide) fun e => e.2.1 rfl)
        · exact s2 (by rintro (e | e); exact c2 e; exact c3 e)
end Go.G14
