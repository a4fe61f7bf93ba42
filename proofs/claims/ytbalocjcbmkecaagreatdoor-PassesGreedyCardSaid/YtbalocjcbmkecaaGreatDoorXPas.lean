/- The time of a program as the law reckons it; no division has fewer passes than the greedy one; the law's own walk over a pass, and its tables: plain. Conditions: none. -/
import Derived.Test.YtbalocjcbmkecaaGreatDoorXPass
set_option linter.unusedVariables false
set_option linter.unusedSimpArgs false
namespace Go.Lw
/-- Passes that follow each other from a on, to n. -/
def ctg : Nat → List (Nat × Nat) → Nat → Prop
  | a, [], n => a = n
  | a, p :: ps, n => p.1 = a ∧ 1 ≤ p.2 ∧ ctg (a + p.2) ps n
theorem div_ctg {n : Nat} : ∀ (os : List MOp) (i a : Nat) (rack : Int) (lo : Option MOp), i + os.length = n → a ≤ i → (lo ≠ none → a < i) → ctg a (divF n os i a rack lo) n
  | [], i, a, _, _, h, ha, _ => by
    simp only [List.length_nil] at h
    rw [divF]
    split
    · exact ⟨rfl, by simp only; omega, by simp only [ctg]; omega⟩
    · simp only [ctg]; omega
  | o :: os, i, a, rack, lo, h, ha, hlo => by
    simp only [List.length_cons] at h
    rw [divF]
    split
    · rename_i hb
      have hl : lo ≠ none := by rintro rfl; exact hb
      have := hlo hl
      refine ⟨rfl, by simp only; omega, ?_⟩
      have := div_ctg (n := n) os (i + 1) i (rkN rack o) (loN none o) (by omega) (by omega) (fun _ => by omega)
      rw [show a + (a, i - a).2 = i by simp only; omega]
      exact this
    · exact div_ctg os (i + 1) a _ _ (by omega) (by omega) (fun _ => by omega)
theorem divS_ctg (l : List MOp) : ctg 0 (divS l) l.length := div_ctg l 0 0 0 none (by omega) (Nat.le_refl _) (fun h => absurd rfl h)
/-- What the racks of operations take. -/
def rsF : Int → List MOp → Int
  | _, [] => 0
  | r, o :: os => (if o.k = 3 then 2 * max (o.r - r) (r - o.r) else 0) + rsF (rkN r o) os
theorem rsF_app : ∀ (a b : List MOp) (r : Int), rsF r (a ++ b) = rsF r a + rsF (rackF r a) b
  | [], b, r => by simp [rsF, rackF]
  | o :: a, b, r => by
    rw [List.cons_append, rsF, rsF, rsF_app a b, show rackF r (o :: a) = rackF (rkN r o) a from rfl]; omega
def mmF : Int → Option (Int × Int) → List MOp → Option (Int × Int)
  | _, m, [] => m
  | r, m, o :: os => mmF (rkN r o) (if clsS o.k = 0 then m else some (tmx m (posS o (rkN r o)))) os
theorem fold_parts : ∀ (q : List MOp) (s r : Int) (m : Option (Int × Int)), q.foldl tstep (s, r, m) = (s + rsF r q, rackF r q, mmF r m q)
  | [], s, r, m => by simp [rsF, rackF, mmF]
  | o :: q, s, r, m => by
    rw [List.foldl_cons]
    show q.foldl tstep (if o.k = 3 then s + 2 * max (o.r - r) (r - o.r) else s, rkN r o, if clsS o.k = 0 then m else some (tmx m (posS o (rkN r o)))) = _
    rw [fold_parts q, rsF, mmF, show rackF r (o :: q) = rackF (rkN r o) q from rfl]
    congr 1
    split <;> omega
def spT (m : Option (Int × Int)) : Int := match m with | none => 0 | some (a, b) => b - a + 1
def wkT (m : Option (Int × Int)) : Int := match m with | none => 0 | some _ => 1
theorem tpass_parts (s r : Int) (q : List MOp) : tpass (s, r) q = (s + rsF r q + (spT (mmF r none q) + wkT (mmF r none q)), rackF r q) := by
  unfold tpass
  rw [fold_parts]
  simp only [tend]
  cases mmF r none q with
  | none => simp [spT, wkT]
  | some p => simp only [spT, wkT]; congr 1; omega
theorem take_sl2 {l : List MOp} {a m : Nat} : l.take (a + m) = l.take a ++ sl2 l (a, m) := by
  unfold sl2; rw [List.take_add]
theorem rackF_app (r : Int) (a b : List MOp) : rackF r (a ++ b) = rackF (rackF r a) b := by unfold rackF; rw [List.foldl_append]
/-- The span of a pass of a program. -/
def mmP (l : List MOp) (p : Nat × Nat) : Option (Int × Int) := mmF (rackF 0 (l.take p.1)) none (sl2 l p)
theorem timP_parts {l : List MOp} : ∀ (ps : List (Nat × Nat)) (a : Nat) (s : Int), ctg a ps l.length → (ps.foldl (fun s p => tpass s (sl2 l p)) (s, rackF 0 (l.take a))).1 = s + rsF (rackF 0 (l.take a)) (l.drop a) + (ps.map fun p => spT (mmP l p) + wkT (mmP l p)).sum
  | [], a, s, h => by
    rw [show a = l.length from h, List.drop_length]; simp [rsF]
  | p :: ps, a, s, h => by
    obtain ⟨h1, h2, h3⟩ := h
    obtain ⟨p1, p2⟩ := p
    simp only at h1 h2 h3
    subst h1
    rw [List.foldl_cons, tpass_parts, ← rackF_app, ← take_sl2, timP_parts ps (p1 + p2) _ h3, List.map_cons, List.sum_cons]
    have e : rsF (rackF 0 (l.take p1)) (l.drop p1) = rsF (rackF 0 (l.take p1)) (sl2 l (p1, p2)) + rsF (rackF 0 (l.take (p1 + p2))) (l.drop (p1 + p2)) := by
      rw [take_sl2, rackF_app, ← rsF_app]
      congr 1
      unfold sl2
      rw [← List.drop_drop, List.take_append_drop]
    rw [e]
    unfold mmP
    simp only
    omega
theorem mmF_some : ∀ (q : List MOp) (r : Int) (m : Option (Int × Int)), (mmF r m q).isSome = (m.isSome || q.any wk)
  | [], r, m => by simp [mmF]
  | o :: q, r, m => by
    rw [mmF, mmF_some q]
    by_cases h : clsS o.k = 0
    · simp [h, wk]
    · simp [h, wk]
theorem wkT_any (l : List MOp) (p : Nat × Nat) : wkT (mmP l p) = if (sl2 l p).any wk = true then 1 else 0 := by
  have h := mmF_some (sl2 l p) (rackF 0 (l.take p.1)) none
  unfold mmP
  cases e : mmF (rackF 0 (l.take p.1)) none (sl2 l p) with
  | none => rw [e] at h; simp at h; rw [if_neg (by simpa using h)]; rfl
  | some x => rw [e] at h; simp at h; rw [if_pos (by simpa using h)]; rfl
theorem cntP_parts (l : List MOp) : ∀ ps : List (Nat × Nat), ((cntP l ps : Nat) : Int) = (ps.map fun p => wkT (mmP l p)).sum
  | [] => by simp [cntP]
  | p :: ps => by
    have := cntP_parts l ps
    unfold cntP at *
    rw [List.map_cons, List.sum_cons, List.map_cons, List.sum_cons, ← this, wkT_any]
    split <;> omega
theorem sum_two (l : List MOp) : ∀ ps : List (Nat × Nat), (ps.map fun p => spT (mmP l p) + wkT (mmP l p)).sum = (ps.map fun p => spT (mmP l p)).sum + (ps.map fun p => wkT (mmP l p)).sum
  | [] => by simp
  | p :: ps => by simp only [List.map_cons, List.sum_cons, sum_two l ps]; omega
/-- The law's number. -/
def spS (l : List MOp) (ps : List (Nat × Nat)) : Int := (ps.map fun p => spT (mmP l p)).sum
theorem tim_law (l : List MOp) : timS l = rsF 0 l + spS l (divS l) + cntS l := by
  have h := timP_parts (l := l) (divS l) 0 0 (divS_ctg l)
  rw [← tim_div]
  show ((divS l).foldl (fun s p => tpass s (sl2 l p)) (0, rackF 0 (l.take 0))).1 = _
  rw [h, sum_two, ← cntP_parts, cnt_div]
  show 0 + rsF 0 (l.drop 0) + (spS l (divS l) + _) = _
  rw [List.drop_zero]; omega
theorem rsF_nn : ∀ (q : List MOp) (r : Int), 0 ≤ rsF r q
  | [], _ => by simp [rsF]
  | o :: q, r => by
    have := rsF_nn q (rkN r o)
    rw [rsF]; split <;> omega
theorem mmF_ok : ∀ (q : List MOp) (r : Int) (m : Option (Int × Int)), (∀ a b, m = some (a, b) → -4 ≤ a ∧ a ≤ b ∧ b ≤ 50) → ∀ a b, mmF r m q = some (a, b) → -4 ≤ a ∧ a ≤ b ∧ b ≤ 50
  | [], r, m, h, a, b, e => h a b e
  | o :: q, r, m, h, a, b, e => by
    refine mmF_ok q (rkN r o) _ ?_ a b e
    intro a' b' e'
    have hp := pos_in o (rkN r o)
    split at e'
    · exact h a' b' e'
    · rw [Option.some.injEq] at e'
      unfold tmx at e'
      split at e'
      · cases e'; omega
      · rename_i a2 b2
        have := h a2 b2 rfl
        cases e'; omega
theorem spT_ge (l : List MOp) (p : Nat × Nat) : wkT (mmP l p) ≤ spT (mmP l p) := by
  cases e : mmP l p with
  | none => simp [wkT, spT]
  | some x =>
    have := mmF_ok (sl2 l p) (rackF 0 (l.take p.1)) none (fun a b h => by cases h) x.1 x.2 e
    simp only [wkT, spT]; omega
theorem spS_ge (l : List MOp) : ∀ ps : List (Nat × Nat), ((cntP l ps : Nat) : Int) ≤ spS l ps
  | [] => by simp [cntP, spS]
  | p :: ps => by
    have h1 := spS_ge l ps
    have h2 := spT_ge l p
    rw [cntP_parts] at *
    unfold spS at *
    rw [List.map_cons, List.sum_cons, List.map_cons, List.sum_cons]; omega
theorem tim_ge (l : List MOp) : 2 * (cntS l : Int) ≤ timS l := by
  have h1 := spS_ge l (divS l)
  have h2 := rsF_nn l 0
  rw [cnt_div] at h1
  rw [tim_law]; omega
/-! How the law counts the places of a span. -/
def lfM (m : Option (Int × Int)) (k : Int) : Int := match m with | none => 0 | some (a, _) => if a ≤ k then 1 else 0
def rtM (m : Option (Int × Int)) (k : Int) : Int := match m with | none => 0 | some (_, b) => if k ≤ b then 1 else 0
def wnM (m : Option (Int × Int)) (k : Int) : Int := match m with | none => 0 | some (a, b) => max 0 (min k (b + 1) - a)
theorem lf_step (m : Option (Int × Int)) (p k : Int) : lfM (some (tmx m p)) k = if p ≤ k then 1 else lfM m k := by
  cases m with
  | none => rfl
  | some q => simp only [lfM, tmx]; (repeat' split) <;> omega
theorem rt_step (m : Option (Int × Int)) (p k : Int) : rtM (some (tmx m p)) k = if k ≤ p then 1 else rtM m k := by
  cases m with
  | none => rfl
  | some q => simp only [rtM, tmx]; (repeat' split) <;> omega
theorem wn_step {m : Option (Int × Int)} (h : ∀ a b, m = some (a, b) → a ≤ b) (k : Int) : wnM m (k + 1) = wnM m k + lfM m k * rtM m k := by
  cases m with
  | none => simp [wnM, lfM]
  | some q =>
    have := h q.1 q.2 rfl
    simp only [wnM, lfM, rtM]
    split <;> split <;> simp only [Int.one_mul, Int.zero_mul, Int.mul_one, Int.mul_zero] <;> omega
theorem wn_lo {m : Option (Int × Int)} (h : ∀ a b, m = some (a, b) → -4 ≤ a) : wnM m (-10) = 0 := by
  cases m with
  | none => rfl
  | some q => have := h q.1 q.2 rfl; simp only [wnM]; omega
theorem wn_hi {m : Option (Int × Int)} (h : ∀ a b, m = some (a, b) → a ≤ b ∧ b ≤ 50) : wnM m 60 = spT m := by
  cases m with
  | none => rfl
  | some q => have := h q.1 q.2 rfl; simp only [wnM, spT]; omega
theorem lfrt_in (m : Option (Int × Int)) (k : Int) : (lfM m k = 0 ∨ lfM m k = 1) ∧ (rtM m k = 0 ∨ rtM m k = 1) := by
  cases m with
  | none => exact ⟨.inl rfl, .inl rfl⟩
  | some q => simp only [lfM, rtM]; constructor <;> split <;> simp
theorem mmF_snoc : ∀ (q : List MOp) (o : MOp) (r : Int) (m : Option (Int × Int)), mmF r m (q ++ [o]) = if clsS o.k = 0 then mmF r m q else some (tmx (mmF r m q) (posS o (rkN (rackF r q) o)))
  | [], o, r, m => by simp [mmF, rackF]
  | x :: q, o, r, m => by
    rw [List.cons_append, mmF, mmF_snoc q, mmF, show rackF r (x :: q) = rackF (rkN r x) q from rfl]
theorem rsF_snoc (q : List MOp) (o : MOp) (r : Int) : rsF r (q ++ [o]) = rsF r q + (if o.k = 3 then 2 * max (o.r - rackF r q) (rackF r q - o.r) else 0) := by
  rw [rsF_app]; simp [rsF]
/-- The position of an operation that works, as the law has it. -/
theorem pos_law {o : MOp} {r : Int} (hc : chkO o = 0) (hk : 4 ≤ o.k) (hr : -4 ≤ r ∧ r ≤ 4) : posS o r = if o.b = 1 then o.p + r else o.p := by
  have h := chk_nd2 hc hk
  have hn : ¬ (nchk o.b o.p ≠ 0 ∨ ¬ (-4 ≤ r ∧ r ≤ 4)) := by
    rintro (e | e)
    · exact e (nchk_iff.2 h)
    · exact e hr
  unfold posS spotS
  rw [if_neg hn]
  split <;> split <;> omega
end Go.Lw
namespace Go.Lw
/-- The operations are one pass, behind the last working one lo, at the rack r. -/
def pOK : Int → Option MOp → List MOp → Prop
  | _, _, [] => True
  | r, lo, o :: os => ¬ brk lo r o ∧ pOK (rkN r o) (loN lo o) os
def lsF (lo : Option MOp) (q : List MOp) : Option MOp := q.foldl loN lo
theorem pOK_app : ∀ (x y : List MOp) (r : Int) (lo : Option MOp), pOK r lo (x ++ y) ↔ pOK r lo x ∧ pOK (rackF r x) (lsF lo x) y
  | [], y, r, lo => by simp [pOK, rackF, lsF]
  | o :: x, y, r, lo => by
    rw [List.cons_append, pOK, pOK, pOK_app x y, show rackF r (o :: x) = rackF (rkN r o) x from rfl, show lsF lo (o :: x) = lsF (loN lo o) x from rfl, and_assoc]
theorem pOK_none : ∀ (y : List MOp) (r : Int) (lo : Option MOp), pOK r lo y → pOK r none y
  | [], _, _, _ => trivial
  | o :: y, r, lo, ⟨_, h2⟩ => by
    refine ⟨by simp [brk], ?_⟩
    by_cases hc : clsS o.k ≠ 0
    · rw [show loN none o = loN lo o by unfold loN; rw [if_pos hc, if_pos hc]]; exact h2
    · rw [show loN none o = none from if_neg hc]; exact pOK_none y _ _ h2
/-- The operations from a to b are one pass. -/
def pasS (l : List MOp) (a b : Nat) : Prop := pOK (rackF 0 (l.take a)) none (sl2 l (a, b - a))
theorem sl2_add {l : List MOp} {a m k : Nat} : sl2 l (a, m + k) = sl2 l (a, m) ++ sl2 l (a + m, k) := by
  unfold sl2
  simp only
  rw [List.take_add, List.drop_drop]
theorem pas_pre {l : List MOp} {a b c : Nat} (h : pasS l a c) (h1 : a ≤ b) (h2 : b ≤ c) : pasS l a b := by
  unfold pasS at *
  rw [show c - a = (b - a) + (c - b) by omega, sl2_add, pOK_app] at h
  exact h.1
theorem pas_suf {l : List MOp} {a b c : Nat} (h : pasS l a c) (h1 : a ≤ b) (h2 : b ≤ c) : pasS l b c := by
  unfold pasS at *
  rw [show c - a = (b - a) + (c - b) by omega, sl2_add, pOK_app, show a + (b - a) = b by omega, ← rackF_app, ← take_sl2, show a + (b - a) = b by omega] at h
  exact pOK_none _ _ _ h.2
theorem pas_mid {l : List MOp} {a b c d : Nat} (h : pasS l a d) (h1 : a ≤ b) (h2 : b ≤ c) (h3 : c ≤ d) : pasS l b c := pas_pre (pas_suf h h1 (by omega)) h2 h3
/-- Each pass is one, and could not take in the operation behind it. -/
def grd (l : List MOp) : Nat → List (Nat × Nat) → Prop
  | _, [] => True
  | a, p :: ps => pasS l a (a + p.2) ∧ (a + p.2 < l.length → ¬ pasS l a (a + p.2 + 1)) ∧ grd l (a + p.2) ps
theorem sl2_one {l os : List MOp} {o : MOp} {i : Nat} (h : l.drop i = o :: os) : sl2 l (i, 1) = [o] := by unfold sl2; simp only [h, List.take_succ_cons, List.take_zero]
theorem pas_step {l os : List MOp} {o : MOp} {a i : Nat} (h : l.drop i = o :: os) (ha : a ≤ i) : pasS l a (i + 1) ↔ pasS l a i ∧ ¬ brk (lsF none (sl2 l (a, i - a))) (rackF 0 (l.take i)) o := by
  unfold pasS
  rw [show i + 1 - a = (i - a) + 1 by omega, sl2_add, pOK_app, show a + (i - a) = i by omega, sl2_one h, ← rackF_app, ← take_sl2, show a + (i - a) = i by omega]
  simp [pOK]
theorem ls_step {l os : List MOp} {o : MOp} {a i : Nat} (h : l.drop i = o :: os) (ha : a ≤ i) : lsF none (sl2 l (a, i + 1 - a)) = loN (lsF none (sl2 l (a, i - a))) o := by
  rw [show i + 1 - a = (i - a) + 1 by omega, sl2_add, show a + (i - a) = i by omega, sl2_one h]
  unfold lsF; rw [List.foldl_append]; rfl
theorem rack_step {l os : List MOp} {o : MOp} {i : Nat} (h : l.drop i = o :: os) : rackF 0 (l.take (i + 1)) = rkN (rackF 0 (l.take i)) o := by
  rw [take_sl2, sl2_one h, rackF_app]; rfl
theorem pas_nil (l : List MOp) (a : Nat) : pasS l a a := by unfold pasS sl2; simp [pOK]
theorem div_grd {l : List MOp} {n : Nat} (hn : l.length = n) : ∀ (os : List MOp) (i a : Nat), l.drop i = os → a ≤ i → i ≤ n → pasS l a i → grd l a (divF n os i a (rackF 0 (l.take i)) (lsF none (sl2 l (a, i - a))))
  | [], i, a, h, ha, hi, hp => by
    have hi' : i = n := by
      have := congrArg List.length h
      rw [List.length_drop] at this; simp at this; omega
    subst hi'
    rw [divF]
    split
    · refine ⟨?_, fun h => ?_, trivial⟩
      · rw [show a + (a, i - a).2 = i by simp only; omega]; exact hp
      · simp only at h; omega
    · trivial
  | o :: os, i, a, h, ha, hi, hp => by
    have ht : l.drop (i + 1) = os := by rw [← List.drop_drop, h]; rfl
    have hi' : i < n := by
      have := congrArg List.length h
      rw [List.length_drop] at this; simp at this; omega
    rw [divF]
    split
    · rename_i hb
      have e : a + (a, i - a).2 = i := by simp only; omega
      refine ⟨by rw [e]; exact hp, fun _ => by rw [e, pas_step h ha]; exact fun hh => hh.2 hb, ?_⟩
      rw [e, ← rack_step h]
      have := div_grd hn os (i + 1) i ht (by omega) (by omega) ((pas_step h (Nat.le_refl _)).2 ⟨pas_nil l i, by rw [Nat.sub_self]; simp [sl2, lsF, brk]⟩)
      rw [ls_step h (Nat.le_refl _), Nat.sub_self] at this
      have e2 : lsF none (sl2 l (i, 0)) = none := by simp [sl2, lsF]
      rw [e2] at this
      exact this
    · rename_i hb
      rw [← rack_step h, ← ls_step h ha]
      exact div_grd hn os (i + 1) a ht (by omega) (by omega) ((pas_step h ha).2 ⟨hp, hb⟩)
theorem divS_grd (l : List MOp) : grd l 0 (divS l) := by
  have := div_grd (l := l) rfl l 0 0 rfl (Nat.le_refl _) (Nat.zero_le _) (pas_nil l 0)
  have e : lsF none (sl2 l (0, 0 - 0)) = none := by simp [sl2, lsF]
  rw [e] at this
  exact this
/-- How many of the passes the operations ahead of t take. -/
def cOf : Nat → List (Nat × Nat) → Nat → Nat
  | _, [], _ => 0
  | a, p :: ps, t => if t ≤ a then 0 else 1 + cOf (a + p.2) ps t
theorem cOf_low : ∀ (ps : List (Nat × Nat)) (a t : Nat), t ≤ a → cOf a ps t = 0
  | [], _, _, _ => rfl
  | p :: ps, a, t, h => if_pos h
theorem cOf_le : ∀ (ps : List (Nat × Nat)) (a t n : Nat), ctg a ps n → a ≤ t → cOf a ps t ≤ t - a
  | [], _, _, _, _, _ => Nat.zero_le _
  | p :: ps, a, t, n, ⟨h1, h2, h3⟩, h => by
    rw [cOf]
    split
    · omega
    · rcases Nat.lt_or_ge t (a + p.2) with hl | hl
      · rw [cOf_low ps (a + p.2) t (by omega)]; omega
      · have := cOf_le ps (a + p.2) t n h3 hl; omega
theorem cOf_all : ∀ (ps : List (Nat × Nat)) (a n : Nat), ctg a ps n → cOf a ps n = ps.length
  | [], _, _, _ => rfl
  | p :: ps, a, n, ⟨h1, h2, h3⟩ => by
    have hle : ∀ (ps : List (Nat × Nat)) (a n : Nat), ctg a ps n → a ≤ n := by
      intro ps
      induction ps with
      | nil => intro a n h; exact Nat.le_of_eq h
      | cons p ps ih => intro a n h; have := ih _ _ h.2.2; omega
    have := hle ps _ _ h3
    rw [cOf, if_neg (by omega), cOf_all ps _ _ h3, List.length_cons]; omega
/-- Reached. -/
theorem cOf_get {l : List MOp} : ∀ (ps : List (Nat × Nat)) (a t : Nat), ctg a ps l.length → grd l a ps → a < t → t ≤ l.length → ∃ f, a ≤ f ∧ f < t ∧ pasS l f t ∧ cOf a ps t = cOf a ps f + 1
  | [], a, t, h, _, h1, h2 => by simp only [ctg] at h; omega
  | p :: ps, a, t, ⟨e1, e2, e3⟩, ⟨g1, g2, g3⟩, h1, h2 => by
    rcases Nat.lt_or_ge (a + p.2) t with hl | hl
    · obtain ⟨f, f1, f2, f3, f4⟩ := cOf_get ps (a + p.2) t e3 g3 hl h2
      refine ⟨f, by omega, f2, f3, ?_⟩
      rw [cOf, cOf, if_neg (by omega), if_neg (by omega), f4]; omega
    · refine ⟨a, Nat.le_refl _, h1, pas_pre g1 (by omega) hl, ?_⟩
      rw [cOf_low (p :: ps) a a (Nat.le_refl _), cOf, if_neg (by omega), cOf_low ps _ t hl]
/-- No less. -/
theorem cOf_min {l : List MOp} : ∀ (ps : List (Nat × Nat)) (a f t : Nat), ctg a ps l.length → grd l a ps → a ≤ f → f < t → t ≤ l.length → pasS l f t → cOf a ps t ≤ cOf a ps f + 1
  | [], a, f, t, h, _, _, _, _, _ => Nat.zero_le _
  | p :: ps, a, f, t, ⟨e1, e2, e3⟩, ⟨g1, g2, g3⟩, h1, h2, h3, hp => by
    rcases Nat.lt_or_ge f (a + p.2) with hl | hl
    · rcases Nat.eq_or_lt_of_le h1 with e | hlt
      · subst e
        have ht : t ≤ a + p.2 := by
          rcases Nat.lt_or_ge (a + p.2) t with hh | hh
          · exact absurd (pas_pre hp (by omega) (by omega)) (g2 (by omega))
          · exact hh
        rw [cOf, if_neg (by omega), cOf_low ps _ t ht]; omega
      · rw [cOf, cOf, if_neg (by omega), if_neg (by omega), cOf_low ps _ f (by omega)]
        cases ps with
        | nil => simp [cOf]
        | cons p2 ps =>
          obtain ⟨k1, k2, k3⟩ := g3
          rw [cOf]
          split
          · omega
          · have ht : t ≤ a + p.2 + p2.2 := by
              rcases Nat.lt_or_ge (a + p.2 + p2.2) t with hh | hh
              · exact absurd (pas_mid hp (by omega) (by omega) (by omega)) (k2 (by omega))
              · exact hh
            rw [cOf_low ps _ t ht]; omega
    · have := cOf_min ps (a + p.2) f t e3 g3 hl h2 h3 hp
      rw [cOf, cOf, if_neg (by omega)]
      split <;> omega
def gc (l : List MOp) (t : Nat) : Nat := cOf 0 (divS l) t
theorem gc_zero (l : List MOp) : gc l 0 = 0 := cOf_low _ _ _ (Nat.le_refl _)
theorem gc_le (l : List MOp) (t : Nat) : gc l t ≤ t := cOf_le _ 0 t _ (divS_ctg l) (Nat.zero_le _)
theorem gc_all (l : List MOp) : gc l l.length = (divS l).length := cOf_all _ _ _ (divS_ctg l)
/-- The law's inner loop: the best so far, over the beginnings below f. -/
noncomputable def bstI (l : List MOp) (t : Nat) : Nat → Nat
  | 0 => t
  | f + 1 => (open Classical in if pasS l f t ∧ gc l f + 1 < bstI l t f then gc l f + 1 else bstI l t f)
theorem bstI_le (l : List MOp) (t : Nat) : ∀ f, bstI l t f ≤ t
  | 0 => Nat.le_refl _
  | f + 1 => by
    have := bstI_le l t f
    rw [bstI]; split <;> omega
theorem bstI_min {l : List MOp} {t : Nat} (ht : t ≤ l.length) : ∀ f, f ≤ t → gc l t ≤ bstI l t f
  | 0, _ => gc_le l t
  | f + 1, h => by
    have := bstI_min ht f (by omega)
    rw [bstI]
    split
    · rename_i hh
      exact cOf_min _ 0 f t (divS_ctg l) (divS_grd l) (Nat.zero_le _) (by omega) ht hh.1
    · exact this
theorem bstI_got {l : List MOp} {t : Nat} (f0 : Nat) (hp : pasS l f0 t) : ∀ f, f0 < f → bstI l t f ≤ gc l f0 + 1
  | 0, h => by omega
  | f + 1, h => by
    rw [bstI]
    rcases Nat.eq_or_lt_of_le (Nat.le_of_lt_succ h) with e | hl
    · subst e
      split
      · omega
      · rename_i hh
        rcases Nat.lt_or_ge (gc l f0 + 1) (bstI l t f0) with hx | hx
        · exact absurd ⟨hp, hx⟩ hh
        · exact hx
    · have := bstI_got f0 hp f hl
      split
      · rename_i hh; omega
      · exact this
theorem bstI_all {l : List MOp} {t : Nat} (h0 : 0 < t) (ht : t ≤ l.length) : bstI l t t = gc l t := by
  obtain ⟨f, _, f2, f3, f4⟩ := cOf_get (divS l) 0 t (divS_ctg l) (divS_grd l) h0 ht
  have h1 := bstI_got f f3 t f2
  have h2 := bstI_min ht t (Nat.le_refl _)
  unfold gc at *
  omega
/-! The law's own words for a pass. -/
def spL (o : MOp) (r : Int) : Int := if o.b = 1 then 4 * (o.p + r) else 4 * o.p + 2
theorem spL_eq {o : MOp} {r : Int} (hc : chkO o = 0) (hk : 4 ≤ o.k) (hr : -4 ≤ r ∧ r ≤ 4) : spotS o.b o.p r = spL o r := by
  have h := chk_nd2 hc hk
  have hn : ¬ (nchk o.b o.p ≠ 0 ∨ ¬ (-4 ≤ r ∧ r ≤ 4)) := by
    rintro (e | e)
    · exact e (nchk_iff.2 h)
    · exact e hr
  unfold spotS spL
  rw [if_neg hn]
  split <;> split <;> omega
theorem cls_ge {k : Int} (h : clsS k ≠ 0) : 4 ≤ k := by unfold clsS at h; (repeat' split at h) <;> omega
theorem fol_law {a b : MOp} {r : Int} (ha : chkO a = 0) (hb : chkO b = 0) (hca : clsS a.k ≠ 0) (hcb : clsS b.k ≠ 0) (hr : -4 ≤ r ∧ r ≤ 4) : ¬ folS a b r ↔ (clsS a.k ≠ clsS b.k ∨ (clsS a.k = 1 ∧ ((a.d ≠ b.d ∨ a.d = 1 ∧ spL b r ≤ spL a r) ∨ a.d = 0 ∧ spL a r ≤ spL b r)) ∨ (clsS a.k = 2 ∧ a.b ≠ b.b)) := by
  have h1 := spL_eq ha (cls_ge hca) hr
  have h2 := spL_eq hb (cls_ge hcb) hr
  have h3 := chk_rng ha
  have h4 := chk_rng hb
  unfold folS
  rw [h1, h2]
  by_cases e : clsS a.k = clsS b.k
  · rw [e]
    by_cases e1 : clsS b.k = 1
    · rw [e1]
      by_cases ed : b.d = 1
      · simp only [ed, if_true, show ¬ ((1 : Int) = 2) by decide, true_and, true_implies, false_implies, and_true, not_true, false_or, false_and, or_false, ne_eq]
        omega
      · simp only [ed, if_false, show ¬ ((1 : Int) = 2) by decide, true_and, true_implies, false_implies, and_true, not_true, false_or, false_and, or_false, ne_eq]
        omega
    · simp only [e1, false_implies, true_and, false_and, ne_eq, not_true, false_or]
      omega
  · simp only [e, false_and, not_false_iff, ne_eq, true_or]
end Go.Lw
namespace Go.Lw
def lstO (os : List MOp) (last : Int) : Option MOp := if last < 0 then none else some (os.getD last.toNat op0)
theorem lstO_nat (os : List MOp) (i : Nat) : lstO os (i : Int) = some (os.getD i op0) := by unfold lstO; rw [if_neg (by omega), Int.toNat_natCast]
theorem lstO_pos {os : List MOp} {last : Int} (h : 0 ≤ last) : lstO os last = some (os.getD last.toNat op0) := if_neg (by omega)
theorem lstO_neg {os : List MOp} {last : Int} (h : ¬ 0 ≤ last) : lstO os last = none := if_pos (by omega)
/-- Where the walk over the operations from a on stands at i. -/
structure PI (os : List MOp) (a i : Nat) (last : Int) : Prop where
  ok : pasS os a i
  lo : lsF none (sl2 os (a, i - a)) = lstO os last
  ran : last = -1 ∨ (a : Int) ≤ last ∧ last < i
  wk : 0 ≤ last → clsS (os.getD last.toNat op0).k ≠ 0 ∧ rackF 0 (os.take last.toNat) = rackF 0 (os.take i)
theorem PI.start (os : List MOp) (a : Nat) : PI os a a (-1) := ⟨pas_nil os a, by rw [Nat.sub_self]; simp [sl2, lsF, lstO], .inl rfl, fun h => by omega⟩
section
variable {os : List MOp} {a i : Nat} {last : Int}
theorem PI.drop (hi : i < os.length) : os.drop i = os.getD i op0 :: os.drop (i + 1) := drop_getD os i op0 hi
theorem PI.idle (h : PI os a i last) (ha : a ≤ i) (hi : i < os.length) (hc : clsS (os.getD i op0).k = 0) (h3 : ¬ ((os.getD i op0).k = 3 ∧ 0 ≤ last)) : PI os a (i + 1) last := by
  have hd := PI.drop hi
  refine ⟨(pas_step hd ha).2 ⟨h.ok, ?_⟩, ?_, ?_, fun hl => ?_⟩
  · rw [h.lo]
    by_cases hl : 0 ≤ last
    · rw [lstO_pos hl]
      rintro (e | e)
      · exact h3 ⟨e, hl⟩
      · exact e.1 hc
    · rw [lstO_neg hl]; simp [brk]
  · rw [ls_step hd ha, h.lo, loN, if_neg (by simpa using hc)]
  · rcases h.ran with e | e
    · exact .inl e
    · exact .inr ⟨e.1, by omega⟩
  · refine ⟨(h.wk hl).1, ?_⟩
    rw [(h.wk hl).2, rack_step hd, rkN, if_neg (fun e => h3 ⟨e, hl⟩)]
theorem PI.work (h : PI os a i last) (ha : a ≤ i) (hi : i < os.length) (hc : clsS (os.getD i op0).k ≠ 0) (hf : 0 ≤ last → folS (os.getD last.toNat op0) (os.getD i op0) (rackF 0 (os.take i))) : PI os a (i + 1) (i : Int) := by
  have hd := PI.drop hi
  refine ⟨(pas_step hd ha).2 ⟨h.ok, ?_⟩, ?_, .inr ⟨by omega, by omega⟩, fun _ => ⟨by rw [Int.toNat_natCast]; exact hc, ?_⟩⟩
  · rw [h.lo]
    by_cases hl : 0 ≤ last
    · rw [lstO_pos hl]
      rintro (e | e)
      · exact wk_not3 hc e
      · exact e.2 (hf hl)
    · rw [lstO_neg hl]; simp [brk]
  · rw [ls_step hd ha, loN, if_pos hc, lstO_nat]
  · rw [Int.toNat_natCast, rack_step hd, rkN, if_neg (wk_not3 hc)]
theorem PI.stop (h : PI os a i last) (ha : a ≤ i) (hi : i < os.length) (hl : 0 ≤ last) (hb : (os.getD i op0).k = 3 ∨ (clsS (os.getD i op0).k ≠ 0 ∧ ¬ folS (os.getD last.toNat op0) (os.getD i op0) (rackF 0 (os.take i)))) : ¬ pasS os a (i + 1) := by
  have hd := PI.drop hi
  rw [pas_step hd ha, h.lo, lstO_pos hl]
  exact fun hh => hh.2 hb
theorem PI.no {b : Nat} (h : ¬ pasS os a (i + 1)) (ha : a ≤ i) (hb : i < b) : ¬ pasS os a b := fun hp => h (pas_pre hp (by omega) (by omega))
end
/-! Tables. -/
def tabR (f : Nat → Int) (n i : Nat) : List Int := (List.range i).map f ++ List.replicate (n - i) 0
theorem tabR_len {f : Nat → Int} {n i : Nat} (h : i ≤ n) : (tabR f n i).length = n := by unfold tabR; rw [List.length_append, List.length_map, List.length_range, List.length_replicate]; omega
theorem tabR_set {f : Nat → Int} {n i : Nat} (h : i < n) : (tabR f n i).set i (f i) = tabR f n (i + 1) := by
  unfold tabR
  have e : ((List.range i).map f).length = i := by simp
  rw [List.set_append_right _ _ (by omega), e, Nat.sub_self, show n - i = (n - (i + 1)) + 1 by omega, List.replicate_succ, List.set_cons_zero, List.range_succ, List.map_append, List.append_assoc]; rfl
theorem tabR_get {f : Nat → Int} {n i j : Nat} (h : j < i) : (tabR f n i).getD j 0 = f j := by
  unfold tabR; rw [List.getD, List.getElem?_append_left (by simpa using h)]; simp [h]
theorem tabR_all (f : Nat → Int) (n : Nat) : tabR f n n = (List.range n).map f := by unfold tabR; simp
theorem tabR_zero (f : Nat → Int) (n : Nat) : tabR f n 0 = List.replicate n 0 := by unfold tabR; simp
theorem tabR_one {f : Nat → Int} {n : Nat} (h0 : f 0 = 0) (h : 1 ≤ n) : tabR f n 1 = List.replicate n 0 := by
  rw [← tabR_set (i := 0) (by omega), tabR_zero, h0]
  obtain ⟨m, rfl⟩ : ∃ m, n = m + 1 := ⟨n - 1, by omega⟩
  rw [List.replicate_succ, List.set_cons_zero]
theorem set_get_ne {l : List Int} {i j : Nat} {z : Int} (h : i ≠ j) : (l.set i z).getD j 0 = l.getD j 0 := by
  simp [List.getD, List.getElem?_set_ne h]
theorem set_get_eq {l : List Int} {i : Nat} {z : Int} (h : i < l.length) : (l.set i z).getD i 0 = z := by
  simp [List.getD, h]
/-- The racks at the operations. -/
def rkA (os : List MOp) (i : Nat) : Int := rackF 0 (os.take i)
def rkL (os : List MOp) : List Int := (List.range os.length).map (rkA os)
theorem rkL_len (os : List MOp) : (rkL os).length = os.length := by simp [rkL]
theorem rkL_get {os : List MOp} {j : Nat} (h : j < os.length) : (rkL os).getD j 0 = rackF 0 (os.take j) := by unfold rkL; simp [List.getD, h, rkA]
theorem rkA_in {os : List MOp} (hc : ∀ o ∈ os, chkO o = 0) : ∀ i, i ≤ os.length → -4 ≤ rackF 0 (os.take i) ∧ rackF 0 (os.take i) ≤ 4
  | 0, _ => by simp [rackF]
  | i + 1, h => by
    have hi : i < os.length := by omega
    rw [rack_step (PI.drop hi)]
    exact rkN_in (rkA_in hc i (by omega)) (hc _ (by rw [List.getD, List.getElem?_eq_getElem hi]; exact List.getElem_mem _))
/-! Bounds and steps for the time. -/
theorem rs_in {os : List MOp} (hc : ∀ o ∈ os, chkO o = 0) (i : Nat) : 0 ≤ rsF 0 (os.take i) ∧ rsF 0 (os.take i) ≤ 16 * (i : Int) := by
  have h := fold_ok (os.take i) 0 (0, 0, none) ⟨by simp, by simp, fun a b e => by cases e⟩ (fun o ho => hc o (List.mem_of_mem_take ho))
  rw [fold_parts] at h
  have h1 : 0 ≤ 0 + rsF 0 (os.take i) ∧ 0 + rsF 0 (os.take i) ≤ 0 + 16 * ((os.take i).length : Int) := h.1
  have h2 : (os.take i).length ≤ i := by rw [List.length_take]; omega
  omega
theorem rs_step {os : List MOp} {i : Nat} (hi : i < os.length) : rsF 0 (os.take (i + 1)) = rsF 0 (os.take i) + (if (os.getD i op0).k = 3 then 2 * max ((os.getD i op0).r - rackF 0 (os.take i)) (rackF 0 (os.take i) - (os.getD i op0).r) else 0) := by
  rw [take_sg os i op0 hi, rsF_snoc]
theorem sp_step {os : List MOp} {ps : List (Nat × Nat)} {m : Nat} (h : m < ps.length) : spS os (ps.take (m + 1)) = spS os (ps.take m) + spT (mmP os (ps.getD m (0, 0))) := by
  unfold spS
  rw [take_sg ps m (0, 0) h, List.map_append, List.sum_append]; simp
theorem mm_rng (os : List MOp) (p : Nat × Nat) : ∀ a b, mmP os p = some (a, b) → -4 ≤ a ∧ a ≤ b ∧ b ≤ 50 := mmF_ok _ _ none (fun a b e => by cases e)
theorem spT_in (os : List MOp) (p : Nat × Nat) : 0 ≤ spT (mmP os p) ∧ spT (mmP os p) ≤ 55 := by
  cases e : mmP os p with
  | none => simp [spT]
  | some x => have := mm_rng os p x.1 x.2 e; simp only [spT]; omega
theorem sp_in (os : List MOp) : ∀ ps : List (Nat × Nat), 0 ≤ spS os ps ∧ spS os ps ≤ 55 * (ps.length : Int)
  | [] => by simp [spS]
  | p :: ps => by
    have h1 := sp_in os ps
    have h2 := spT_in os p
    unfold spS at *
    rw [List.map_cons, List.sum_cons, List.length_cons]
    omega
/-- The span of the first t operations of a pass. -/
def mJ (os : List MOp) (p : Nat × Nat) (t : Nat) : Option (Int × Int) := mmF (rackF 0 (os.take p.1)) none ((sl2 os p).take t)
theorem mJ_all (os : List MOp) (p : Nat × Nat) : mJ os p (sl2 os p).length = mmP os p := by unfold mJ mmP; rw [List.take_length]
theorem sl2_getD {os : List MOp} {p : Nat × Nat} {t : Nat} (h : t < (sl2 os p).length) : (sl2 os p).getD t op0 = os.getD (p.1 + t) op0 := by
  unfold sl2 at h ⊢
  rw [List.length_take, List.length_drop] at h
  rw [List.getD, List.getElem?_take, if_pos (by omega), List.getElem?_drop]; rfl
theorem sl2_len {os : List MOp} {p : Nat × Nat} (h : p.1 + p.2 ≤ os.length) : (sl2 os p).length = p.2 := by unfold sl2; rw [List.length_take, List.length_drop]; omega
theorem mJ_step {os : List MOp} {p : Nat × Nat} {t : Nat} (h : t < (sl2 os p).length) : mJ os p (t + 1) = if clsS (os.getD (p.1 + t) op0).k = 0 then mJ os p t else some (tmx (mJ os p t) (posS (os.getD (p.1 + t) op0) (rackF 0 (os.take (p.1 + t))))) := by
  unfold mJ
  rw [take_sg _ t op0 h, mmF_snoc, sl2_getD h]
  split
  · rfl
  · rename_i hc
    rw [rkN, if_neg (wk_not3 hc), ← rackF_app]
    congr 4
    unfold sl2
    rw [List.take_take, Nat.min_eq_left (by unfold sl2 at h; rw [List.length_take] at h; omega), List.take_add]
theorem mJ_n {os : List MOp} {p : Nat × Nat} {t : Nat} (h : t < (sl2 os p).length) (hc : clsS (os.getD (p.1 + t) op0).k = 0) : mJ os p (t + 1) = mJ os p t := by rw [mJ_step h, if_pos hc]
theorem mJ_y {os : List MOp} {p : Nat × Nat} {t : Nat} (h : t < (sl2 os p).length) (hc : ¬ clsS (os.getD (p.1 + t) op0).k = 0) : mJ os p (t + 1) = some (tmx (mJ os p t) (posS (os.getD (p.1 + t) op0) (rackF 0 (os.take (p.1 + t))))) := by rw [mJ_step h, if_neg hc]
theorem lfrt_mul (m : Option (Int × Int)) (k : Int) : 0 ≤ lfM m k * rtM m k ∧ lfM m k * rtM m k ≤ 1 := by
  obtain ⟨h1 | h1, h2 | h2⟩ := lfrt_in m k <;> rw [h1, h2] <;> decide
theorem wn_in (os : List MOp) (p : Nat × Nat) (k : Int) : 0 ≤ wnM (mmP os p) k ∧ wnM (mmP os p) k ≤ 55 := by
  cases e : mmP os p with
  | none => simp [wnM]
  | some x => have := mm_rng os p x.1 x.2 e; simp only [wnM]; omega
theorem divS_mem {os : List MOp} {m : Nat} (h : m < (divS os).length) : ((divS os).getD m (0, 0)).1 + ((divS os).getD m (0, 0)).2 ≤ os.length := divS_in os _ (by rw [List.getD, List.getElem?_eq_getElem h]; exact List.getElem_mem _)
end Go.Lw
namespace Go.Lw
/-- Where the m-th pass begins. -/
def atS (ps : List (Nat × Nat)) (m : Nat) : Nat := ((ps.take m).map (·.2)).sum
theorem atS_succ {ps : List (Nat × Nat)} {m : Nat} (h : m < ps.length) : atS ps (m + 1) = atS ps m + (ps.getD m (0, 0)).2 := by
  unfold atS; rw [take_sg ps m (0, 0) h, List.map_append, List.sum_append]; simp
theorem atS_cons (p : Nat × Nat) (ps : List (Nat × Nat)) (m : Nat) : atS (p :: ps) (m + 1) = p.2 + atS ps m := by unfold atS; simp
theorem ctg_at : ∀ (ps : List (Nat × Nat)) (a n m : Nat), ctg a ps n → m < ps.length → (ps.getD m (0, 0)).1 = a + atS ps m ∧ 1 ≤ (ps.getD m (0, 0)).2
  | [], _, _, m, _, h => by simp at h
  | p :: ps, a, n, 0, ⟨h1, h2, _⟩, _ => ⟨by simp [atS, h1], by simpa using h2⟩
  | p :: ps, a, n, m + 1, ⟨h1, h2, h3⟩, h => by
    have := ctg_at ps (a + p.2) n m h3 (by simpa using h)
    rw [atS_cons, ← Nat.add_assoc]
    exact this
theorem ctg_end : ∀ (ps : List (Nat × Nat)) (a n : Nat), ctg a ps n → a + atS ps ps.length = n
  | [], a, n, h => by simp [atS]; exact h
  | p :: ps, a, n, ⟨h1, h2, h3⟩ => by
    have := ctg_end ps (a + p.2) n h3
    rw [List.length_cons, atS_cons]; omega
theorem grd_at {l : List MOp} : ∀ (ps : List (Nat × Nat)) (a m : Nat), grd l a ps → m < ps.length → pasS l (a + atS ps m) (a + atS ps m + (ps.getD m (0, 0)).2) ∧ (a + atS ps m + (ps.getD m (0, 0)).2 < l.length → ¬ pasS l (a + atS ps m) (a + atS ps m + (ps.getD m (0, 0)).2 + 1))
  | [], _, m, _, h => by simp at h
  | p :: ps, a, 0, ⟨h1, h2, _⟩, _ => by
    have e : atS (p :: ps) 0 = 0 := by simp [atS]
    rw [e, Nat.add_zero]; exact ⟨h1, h2⟩
  | p :: ps, a, m + 1, ⟨h1, h2, h3⟩, h => by
    have := grd_at ps (a + p.2) m h3 (by simpa using h)
    rw [atS_cons, ← Nat.add_assoc]
    exact this
theorem div_at {os : List MOp} {m : Nat} (h : m < (divS os).length) : ((divS os).getD m (0, 0)).1 = atS (divS os) m ∧ 1 ≤ ((divS os).getD m (0, 0)).2 ∧ pasS os (atS (divS os) m) (atS (divS os) m + ((divS os).getD m (0, 0)).2) ∧ (atS (divS os) m + ((divS os).getD m (0, 0)).2 < os.length → ¬ pasS os (atS (divS os) m) (atS (divS os) m + ((divS os).getD m (0, 0)).2 + 1)) := by
  have h1 := ctg_at (divS os) 0 os.length m (divS_ctg os) h
  have h2 := grd_at (divS os) 0 m (divS_grd os) h
  rw [Nat.zero_add] at h1 h2
  exact ⟨h1.1, h1.2, h2⟩
theorem div_end' (os : List MOp) : atS (divS os) (divS os).length = os.length := by
  have := ctg_end (divS os) 0 os.length (divS_ctg os)
  rwa [Nat.zero_add] at this
def wkI (q : List MOp) (t : Nat) : Int := if (q.take t).any wk = true then 1 else 0
theorem wkI_step {q : List MOp} {t : Nat} (h : t < q.length) : wkI q (t + 1) = if 0 < clsS (q.getD t op0).k then 1 else wkI q t := by
  have hr := cls_rng (q.getD t op0).k
  unfold wkI
  rw [take_sg q t op0 h, List.any_append]
  by_cases hc : 0 < clsS (q.getD t op0).k
  · have : wk (q.getD t op0) = true := decide_eq_true (by omega)
    rw [if_pos hc, if_pos (by simp only [List.any_cons, List.any_nil, this]; simp)]
  · have : wk (q.getD t op0) = false := decide_eq_false (by omega)
    rw [if_neg hc]
    simp only [List.any_cons, List.any_nil, this, Bool.or_false]
theorem wkI_all (q : List MOp) : wkI q q.length = if q.any wk = true then 1 else 0 := by unfold wkI; rw [List.take_length]
theorem wkI_in (q : List MOp) (t : Nat) : 0 ≤ wkI q t ∧ wkI q t ≤ 1 := by unfold wkI; split <;> omega
theorem cnt_step {os : List MOp} {m : Nat} (h : m < (divS os).length) : ((cntP os ((divS os).take (m + 1)) : Nat) : Int) = (cntP os ((divS os).take m) : Int) + wkI (sl2 os ((divS os).getD m (0, 0))) (sl2 os ((divS os).getD m (0, 0))).length := by
  rw [take_sg (divS os) m (0, 0) h, cntP_snoc, wkI_all]
  split <;> omega
theorem bst_y {os : List MOp} {t f : Nat} (h : pasS os f t ∧ gc os f + 1 < bstI os t f) : ((bstI os t (f + 1) : Nat) : Int) = (gc os f : Int) + 1 := by rw [bstI, if_pos h]; omega
theorem bst_n {os : List MOp} {t f : Nat} (h : ¬ (pasS os f t ∧ gc os f + 1 < bstI os t f)) : bstI os t (f + 1) = bstI os t f := by rw [bstI, if_neg h]
end Go.Lw
