/- Passes of a program: plain. Conditions: none. -/
import Derived.Test.YtbalocjcbmkecaaGreatDoorXOpTxt
set_option linter.unusedVariables false
set_option linter.unusedSimpArgs false
namespace Go.Lw
/-- passes.classOf -/
def clsS (k : Int) : Int := if k = 4 then 1 else if k = 5 then 1 else if k = 6 then 1 else if k = 7 then 2 else if k = 8 then 3 else 0
/-- needles.Spot -/
def spotS (b p r : Int) : Int := if nchk b p ≠ 0 ∨ ¬ (-4 ≤ r ∧ r ≤ 4) then 0 else if b = 0 then 4 * p + 2 else 4 * (p + r)
theorem spot_rng (b p r : Int) : -16 ≤ spotS b p r ∧ spotS b p r ≤ 200 := by
  unfold spotS
  split
  · omega
  · rename_i h
    have h1 : nchk b p = 0 := Classical.not_not.1 (fun e => h (.inl e))
    have h2 : -4 ≤ r ∧ r ≤ 4 := Classical.not_not.1 (fun e => h (.inr e))
    have := nchk_iff.1 h1
    split <;> omega
theorem cls_rng (k : Int) : 0 ≤ clsS k ∧ clsS k ≤ 3 := by unfold clsS; (repeat' split) <;> omega
/-- passes.follows -/
def folS (p o : MOp) (rack : Int) : Prop :=
  clsS p.k = clsS o.k ∧ (clsS o.k = 1 → p.d = o.d ∧ (if o.d = 1 then spotS p.b p.p rack < spotS o.b o.p rack else spotS o.b o.p rack < spotS p.b p.p rack)) ∧ (clsS o.k = 2 → p.b = o.b)
instance (p o : MOp) (rack : Int) : Decidable (folS p o rack) := by unfold folS; infer_instance
/-- The operation ends the pass. -/
def brk (lo : Option MOp) (rack : Int) (o : MOp) : Prop := match lo with | none => False | some p => o.k = 3 ∨ (clsS o.k ≠ 0 ∧ ¬ folS p o rack)
instance (lo : Option MOp) (rack : Int) (o : MOp) : Decidable (brk lo rack o) := by unfold brk; cases lo <;> infer_instance
def rkN (rack : Int) (o : MOp) : Int := if o.k = 3 then o.r else rack
def loN (lo : Option MOp) (o : MOp) : Option MOp := if clsS o.k ≠ 0 then some o else lo
def divF (n : Nat) : List MOp → Nat → Nat → Int → Option MOp → List (Nat × Nat)
  | [], _, a, _, _ => if a < n then [(a, n - a)] else []
  | o :: os, i, a, rack, lo => if brk lo rack o then (a, i - a) :: divF n os (i + 1) i (rkN rack o) (loN none o) else divF n os (i + 1) a (rkN rack o) (loN lo o)
/-- passes.divide -/
def divS (l : List MOp) : List (Nat × Nat) := divF l.length l 0 0 0 none
def divL : List MOp → List MOp → Int → Option MOp → List (List MOp)
  | [], cur, _, _ => if cur = [] then [] else [cur]
  | o :: os, cur, rack, lo => if brk lo rack o then cur :: divL os [o] (rkN rack o) (loN none o) else divL os (cur ++ [o]) (rkN rack o) (loN lo o)
def sl2 (l : List MOp) (p : Nat × Nat) : List MOp := (l.drop p.1).take p.2
theorem sl2_snoc {l os : List MOp} {o : MOp} {i a : Nat} (h : l.drop i = o :: os) (ha : a ≤ i) : sl2 l (a, i - a) ++ [o] = sl2 l (a, i + 1 - a) := by
  have hi : i < l.length := by
    rcases Nat.lt_or_ge i l.length with h' | h'
    · exact h'
    · rw [List.drop_of_length_le h'] at h; cases h
  have ho : l.getD i op0 = o := by rw [drop_getD l i op0 hi] at h; cases h; rfl
  unfold sl2
  simp only
  rw [show i + 1 - a = (i - a) + 1 by omega, take_sg (l.drop a) (i - a) op0 (by rw [List.length_drop]; omega)]
  congr 2
  rw [List.getD, List.getElem?_drop, show a + (i - a) = i by omega, ← ho]; rfl
theorem div_map {l : List MOp} {n : Nat} (hn : l.length = n) : ∀ (os : List MOp) (i a : Nat) (rack : Int) (lo : Option MOp), l.drop i = os → a ≤ i → i ≤ n → (divF n os i a rack lo).map (sl2 l) = divL os (sl2 l (a, i - a)) rack lo
  | [], i, a, rack, lo, h, ha, hi => by
    have hi' : i = n := by
      have := congrArg List.length h
      rw [List.length_drop] at this; simp at this; omega
    subst hi'
    rw [divF, divL]
    have hlen : (sl2 l (a, i - a)).length = i - a := by unfold sl2; rw [List.length_take, List.length_drop]; simp only; omega
    split
    · rename_i hlt
      rw [if_neg (fun e => by rw [e] at hlen; simp at hlen; omega)]; rfl
    · rename_i hge
      rw [if_pos (List.eq_nil_of_length_eq_zero (by omega))]; rfl
  | o :: os, i, a, rack, lo, h, ha, hi => by
    have hi' : i < n := by
      have := congrArg List.length h
      rw [List.length_drop] at this; simp at this; omega
    have ht : l.drop (i + 1) = os := by rw [← List.drop_drop, h]; rfl
    rw [divF, divL]
    split
    · rw [List.map_cons, div_map hn os (i + 1) i _ _ ht (by omega) (by omega), ← sl2_snoc h (Nat.le_refl _)]
      congr 2
      unfold sl2; simp
    · rw [div_map hn os (i + 1) a _ _ ht (by omega) (by omega), sl2_snoc h ha]
theorem divS_map (l : List MOp) : (divS l).map (sl2 l) = divL l [] 0 none := by
  have := div_map (l := l) rfl l 0 0 0 none rfl (Nat.le_refl _) (Nat.zero_le _)
  unfold divS
  rw [this]; congr 1
/-- The passes lie within the program. -/
theorem div_in {n : Nat} : ∀ (os : List MOp) (i a : Nat) (rack : Int) (lo : Option MOp), i + os.length = n → a ≤ i → ∀ p ∈ divF n os i a rack lo, p.1 + p.2 ≤ n
  | [], i, a, _, _, h, ha, p, hp => by
    rw [divF] at hp
    split at hp
    · simp at hp; subst hp; simp only; omega
    · cases hp
  | o :: os, i, a, rack, lo, h, ha, p, hp => by
    simp only [List.length_cons] at h
    rw [divF] at hp
    split at hp
    · rw [List.mem_cons] at hp
      rcases hp with rfl | hp
      · simp only; omega
      · exact div_in os (i + 1) i _ _ (by omega) (by omega) p hp
    · exact div_in os (i + 1) a _ _ (by omega) (by omega) p hp
theorem divS_in (l : List MOp) : ∀ p ∈ divS l, p.1 + p.2 ≤ l.length := div_in l 0 0 0 none (by omega) (Nat.le_refl _)
theorem div_len {n : Nat} : ∀ (os : List MOp) (i a : Nat) (rack : Int) (lo : Option MOp), (divF n os i a rack lo).length ≤ os.length + 1
  | [], i, a, _, _ => by rw [divF]; split <;> simp
  | o :: os, i, a, rack, lo => by
    rw [divF]
    split
    · have := div_len (n := n) os (i + 1) i (rkN rack o) (loN none o); simp only [List.length_cons]; omega
    · have := div_len (n := n) os (i + 1) a (rkN rack o) (loN lo o); simp only [List.length_cons]; omega
theorem divS_len (l : List MOp) : (divS l).length ≤ l.length + 1 := div_len l 0 0 0 none
theorem div_ne {n : Nat} : ∀ (os : List MOp) (i a : Nat) (rack : Int) (lo : Option MOp), a < n → divF n os i a rack lo ≠ []
  | [], i, a, _, _, h => by rw [divF, if_pos h]; simp
  | o :: os, i, a, rack, lo, h => by
    rw [divF]
    split
    · simp
    · exact div_ne os (i + 1) a _ _ h
theorem divS_ne {l : List MOp} (h : l ≠ []) : divS l ≠ [] := div_ne l 0 0 0 none (List.length_pos_iff.2 h)
/-! Count. -/
def wk (o : MOp) : Bool := decide (clsS o.k ≠ 0)
def cntP (l : List MOp) (ps : List (Nat × Nat)) : Nat := (ps.map fun p => if (sl2 l p).any wk = true then 1 else 0).sum
def cntF : List MOp → Int → Option MOp → Nat
  | [], _, _ => 0
  | o :: os, rack, lo => if o.k = 3 then cntF os o.r none else if clsS o.k = 0 then cntF os rack lo else (if lo = none ∨ brk lo rack o then 1 else 0) + cntF os rack (some o)
/-- passes.Count -/
def cntS (l : List MOp) : Nat := cntF l 0 none
theorem cnt_L : ∀ (os cur : List MOp) (rack : Int) (lo : Option MOp), (cur.any wk = true ↔ lo ≠ none) → ((divL os cur rack lo).map fun q => if q.any wk = true then 1 else 0).sum = (if lo ≠ none then 1 else 0) + cntF os rack lo
  | [], cur, rack, lo, h => by
    rw [divL, cntF]
    split
    · rename_i e; subst e
      simp at h; subst h; rfl
    · simp only [List.map_cons, List.map_nil, List.sum_cons, List.sum_nil, h]
  | o :: os, cur, rack, lo, h => by
    rw [divL, cntF]
    have hone : ([o] : List MOp).any wk = true ↔ loN none o ≠ none := by
      unfold loN wk; by_cases e : clsS o.k ≠ 0
      · simp [e]
      · simp [e]
    have happ : (cur ++ [o]).any wk = true ↔ loN lo o ≠ none := by
      rw [List.any_append, Bool.or_eq_true, h]
      unfold loN; by_cases e : clsS o.k ≠ 0
      · simp [wk, e]
      · simp [wk, e]
    by_cases h3 : o.k = 3
    · have hc : clsS o.k = 0 := by rw [h3]; rfl
      rw [if_pos h3]
      cases lo with
      | none =>
        rw [if_neg (by simp [brk]), cnt_L os _ _ _ happ, show loN none o = none from if_neg (by simpa using hc), show rkN rack o = o.r from if_pos h3]
      | some p =>
        rw [if_pos (by simp [brk, h3]), List.map_cons, List.sum_cons, cnt_L os _ _ _ hone]
        rw [show loN none o = none from if_neg (by simpa using hc), show rkN rack o = o.r from if_pos h3, if_pos (h.2 (by simp))]
        simp
    · rw [if_neg h3]
      have hr : rkN rack o = rack := if_neg h3
      by_cases hc : clsS o.k = 0
      · rw [if_pos hc, if_neg (by cases lo <;> simp [brk, h3, hc]), cnt_L os _ _ _ happ, hr]
        simp [loN, hc]
      · rw [if_neg hc]
        have hl1 : ∀ lo, loN lo o = some o := fun lo => if_pos hc
        by_cases hb : brk lo rack o
        · have hne : lo ≠ none := by intro e; rw [e] at hb; exact hb
          rw [if_pos hb, List.map_cons, List.sum_cons, cnt_L os _ _ _ hone, hl1, hr, if_pos (h.2 hne), if_pos hne, if_pos (show lo = none ∨ brk lo rack o from .inr hb)]
          simp
        · rw [if_neg hb, cnt_L os _ _ _ happ, hl1, hr]
          cases lo with
          | none => simp
          | some p => simp [hb]
theorem cnt_div (l : List MOp) : cntP l (divS l) = cntS l := by
  have := cnt_L l [] 0 none (by simp)
  rw [← divS_map, List.map_map] at this
  unfold cntP cntS
  rw [← Nat.zero_add (cntF l 0 none)]
  exact this
theorem cntP_snoc (l : List MOp) (ps : List (Nat × Nat)) (p : Nat × Nat) : cntP l (ps ++ [p]) = cntP l ps + (if (sl2 l p).any wk = true then 1 else 0) := by
  unfold cntP; rw [List.map_append, List.sum_append]; simp
theorem cntP_le (l : List MOp) : ∀ ps, cntP l ps ≤ ps.length
  | [] => by simp [cntP]
  | p :: ps => by
    have := cntP_le l ps
    unfold cntP at *
    rw [List.map_cons, List.sum_cons, List.length_cons]
    split <;> omega
/-! Time. -/
abbrev TS := Int × Int × Option (Int × Int)
def posS (o : MOp) (rack : Int) : Int := spotS o.b o.p rack / 4
def tmx (m : Option (Int × Int)) (p : Int) : Int × Int := match m with | none => (p, p) | some (a, b) => (min a p, max b p)
def tstep (s : TS) (o : MOp) : TS :=
  (if o.k = 3 then s.1 + 2 * max (o.r - s.2.1) (s.2.1 - o.r) else s.1, rkN s.2.1 o, if clsS o.k = 0 then s.2.2 else some (tmx s.2.2 (posS o (rkN s.2.1 o))))
def tend (s : TS) : Int := match s.2.2 with | none => s.1 | some (a, b) => s.1 + (1 + b - a + 1)
def tpass (s : Int × Int) (q : List MOp) : Int × Int := (tend (q.foldl tstep (s.1, s.2, none)), (q.foldl tstep (s.1, s.2, none)).2.1)
def timP (l : List MOp) (ps : List (Nat × Nat)) : Int × Int := ps.foldl (fun s p => tpass s (sl2 l p)) (0, 0)
def timG : List MOp → TS → Option MOp → Int
  | [], s, _ => tend s
  | o :: os, s, lo => if brk lo s.2.1 o then timG os (tstep (tend s, s.2.1, none) o) (loN none o) else timG os (tstep s o) (loN lo o)
/-- passes.Time -/
def timS (l : List MOp) : Int := timG l (0, 0, none) none
theorem tstep_rack (s : TS) (o : MOp) : (tstep s o).2.1 = rkN s.2.1 o := rfl
theorem tim_L : ∀ (os cur : List MOp) (s : Int × Int) (c : TS) (lo : Option MOp), cur.foldl tstep (s.1, s.2, none) = c → ((divL os cur c.2.1 lo).foldl tpass s).1 = timG os c lo
  | [], cur, s, c, lo, h => by
    rw [divL, timG]
    split
    · rename_i e; subst e; subst h; rfl
    · rw [List.foldl_cons, List.foldl_nil, tpass, h]
  | o :: os, cur, s, c, lo, h => by
    rw [divL, timG]
    split
    · rw [List.foldl_cons, tpass, h]
      exact tim_L os [o] (tend c, c.2.1) (tstep (tend c, c.2.1, none) o) _ rfl
    · exact tim_L os (cur ++ [o]) s (tstep c o) _ (by rw [List.foldl_append, h]; rfl)
theorem tim_div (l : List MOp) : (timP l (divS l)).1 = timS l := by
  have := tim_L l [] (0, 0) (0, 0, none) none rfl
  rw [← divS_map, List.foldl_map] at this
  exact this
theorem timP_snoc (l : List MOp) (ps : List (Nat × Nat)) (p : Nat × Nat) : timP l (ps ++ [p]) = tpass (timP l ps) (sl2 l p) := by
  unfold timP; rw [List.foldl_append]; rfl
/-! In and Out. -/
theorem idle_io {o : MOp} (h : o.k = 1 ∨ o.k = 2) : clsS o.k = 0 ∧ o.k ≠ 3 := by
  rcases h with h | h <;> rw [h] <;> exact ⟨rfl, by decide⟩
theorem cnt_io {o : MOp} (h : o.k = 1 ∨ o.k = 2) (os : List MOp) : ∀ (a : List MOp) (rack : Int) (lo : Option MOp), cntF (a ++ o :: os) rack lo = cntF (a ++ os) rack lo
  | [], rack, lo => by rw [List.nil_append, List.nil_append, cntF, if_neg (idle_io h).2, if_pos (idle_io h).1]
  | x :: a, rack, lo => by
    rw [List.cons_append, List.cons_append, cntF, cntF, cnt_io h os a, cnt_io h os a, cnt_io h os a]
theorem tim_io {o : MOp} (h : o.k = 1 ∨ o.k = 2) (os : List MOp) : ∀ (a : List MOp) (s : TS) (lo : Option MOp), timG (a ++ o :: os) s lo = timG (a ++ os) s lo
  | [], s, lo => by
    obtain ⟨h1, h2⟩ := idle_io h
    rw [List.nil_append, List.nil_append, timG, if_neg (by cases lo <;> simp [brk, h1, h2])]
    have e1 : tstep s o = s := by unfold tstep; rw [if_neg h2, if_pos h1, rkN, if_neg h2]
    have e2 : loN lo o = lo := if_neg (by simpa using h1)
    rw [e1, e2]
  | x :: a, s, lo => by
    rw [List.cons_append, List.cons_append, timG, timG, tim_io h os a, tim_io h os a]
/-! Two programs. -/
def rackF (rack : Int) (l : List MOp) : Int := l.foldl rkN rack
def lastF : Option MOp → List MOp → Option MOp
  | lo, [] => lo
  | lo, o :: os => lastF (if o.k = 3 then none else loN lo o) os
theorem cnt_app : ∀ (a b : List MOp) (rack : Int) (lo : Option MOp), cntF (a ++ b) rack lo = cntF a rack lo + cntF b (rackF rack a) (lastF lo a)
  | [], b, rack, lo => by rw [List.nil_append, cntF, Nat.zero_add]; rfl
  | o :: a, b, rack, lo => by
    rw [List.cons_append, cntF, cntF, lastF, show rackF rack (o :: a) = rackF (rkN rack o) a from rfl]
    by_cases h3 : o.k = 3
    · rw [if_pos h3, if_pos h3, if_pos h3, cnt_app a b, show rkN rack o = o.r from if_pos h3]
    · rw [if_neg h3, if_neg h3, if_neg h3, show rkN rack o = rack from if_neg h3]
      by_cases hc : clsS o.k = 0
      · rw [if_pos hc, if_pos hc, cnt_app a b, show loN lo o = lo from if_neg (by simpa using hc)]
      · rw [if_neg hc, if_neg hc, cnt_app a b, show loN lo o = some o from if_pos hc, Nat.add_assoc]
theorem cnt_near : ∀ (b : List MOp) (rack : Int) (lo : Option MOp), cntF b rack lo ≤ cntF b rack none ∧ cntF b rack none ≤ cntF b rack lo + 1
  | [], _, _ => by simp [cntF]
  | o :: b, rack, lo => by
    rw [cntF, cntF]
    by_cases h3 : o.k = 3
    · rw [if_pos h3, if_pos h3]; omega
    · rw [if_neg h3, if_neg h3]
      by_cases hc : clsS o.k = 0
      · rw [if_pos hc, if_pos hc]; exact cnt_near b rack lo
      · rw [if_neg hc, if_neg hc, if_pos (.inl rfl : (none : Option MOp) = none ∨ _)]
        split <;> omega
def rack0 : MOp := ⟨3, 0, 0, 0, 0, 0⟩
theorem cnt_two (a b : List MOp) : cntS (a ++ [rack0] ++ b) = cntS (a ++ [rack0]) + cntS b := by
  unfold cntS
  rw [cnt_app (a ++ [rack0]) b]
  congr 1
  have h1 : ∀ (a : List MOp) (lo : Option MOp), lastF lo (a ++ [rack0]) = none := by
    intro a
    induction a with
    | nil => intro lo; rfl
    | cons o a ih => intro lo; exact ih _
  have h2 : rackF 0 (a ++ [rack0]) = 0 := by unfold rackF; rw [List.foldl_append]; rfl
  rw [h1, h2]
theorem cnt_rack0 (a : List MOp) : cntS (a ++ [rack0]) = cntS a := by
  unfold cntS
  rw [cnt_app]; rfl
theorem cnt_two' {a b : List MOp} (h : rackF 0 a = 0) : cntS (a ++ b) ≤ cntS a + cntS b ∧ cntS a + cntS b ≤ cntS (a ++ b) + 1 := by
  unfold cntS
  rw [cnt_app, h]
  have := cnt_near b 0 (lastF none a)
  omega
/-! Chains: operations that each stand behind the one before. -/
def chn (rack : Int) : Option MOp → List MOp → Prop
  | _, [] => True
  | lo, o :: os => clsS o.k ≠ 0 ∧ (match lo with | none => True | some p => folS p o rack) ∧ chn rack (some o) os
theorem wk_not3 {o : MOp} (h : clsS o.k ≠ 0) : o.k ≠ 3 := by intro e; rw [e] at h; exact h rfl
theorem cnt_chn (rack : Int) (rest : List MOp) : ∀ (os : List MOp) (p : MOp), chn rack (some p) os → cntF (os ++ rest) rack (some p) = cntF rest rack (some ((p :: os).getLast (by simp)))
  | [], p, _ => rfl
  | o :: os, p, ⟨h1, h2, h3⟩ => by
    rw [List.cons_append, cntF, if_neg (wk_not3 h1), if_neg h1, if_neg, cnt_chn rack rest os o h3, Nat.zero_add, List.getLast_cons (by simp : (o :: os) ≠ [])]
    rintro (e | e)
    · cases e
    · rcases e with e | ⟨_, e⟩
      · exact wk_not3 h1 e
      · exact e h2
theorem tim_chn (rest : List MOp) : ∀ (os : List MOp) (p : MOp) (s : TS), chn s.2.1 (some p) os → timG (os ++ rest) s (some p) = timG rest (os.foldl tstep s) (some ((p :: os).getLast (by simp)))
  | [], p, s, _ => rfl
  | o :: os, p, s, ⟨h1, h2, h3⟩ => by
    have hr : rkN s.2.1 o = s.2.1 := if_neg (wk_not3 h1)
    rw [List.cons_append, timG, if_neg, show loN (some p) o = some o from if_pos h1, tim_chn rest os o (tstep s o) (by rw [tstep_rack, hr]; exact h3), List.getLast_cons (by simp : (o :: os) ≠ [])]
    · rfl
    · rintro (e | ⟨_, e⟩)
      · exact wk_not3 h1 e
      · exact e h2
theorem div_chn (n : Nat) (rack : Int) : ∀ (os : List MOp) (p : MOp) (i a : Nat), chn rack (some p) os → divF n os i a rack (some p) = if a < n then [(a, n - a)] else []
  | [], p, i, a, _ => rfl
  | o :: os, p, i, a, ⟨h1, h2, h3⟩ => by
    rw [divF, if_neg, show loN (some p) o = some o from if_pos h1, show rkN rack o = rack from if_neg (wk_not3 h1), div_chn n rack os o _ _ h3]
    rintro (e | ⟨_, e⟩)
    · exact wk_not3 h1 e
    · exact e h2
/-! A long program of drops. -/
def dropO (p : Int) : MOp := ⟨8, 0, 0, p, 0, 0⟩
def dropL (n : Nat) : List MOp := (List.range n).map fun i => dropO (1 + ((i % 40 : Nat) : Int))
theorem drop_fol (p q : Int) (r : Int) : folS (dropO p) (dropO q) r := ⟨rfl, fun h => absurd (show clsS 8 = 1 from h) (by decide), fun h => absurd (show clsS 8 = 2 from h) (by decide)⟩
theorem dropL_chn (r : Int) : ∀ (xs : List Int) (p : Int), chn r (some (dropO p)) (xs.map dropO)
  | [], _ => trivial
  | x :: xs, p => ⟨show clsS 8 ≠ 0 by decide, drop_fol _ _ _, dropL_chn r xs x⟩
theorem dropL_eq (n : Nat) : dropL n = ((List.range n).map fun i => 1 + ((i % 40 : Nat) : Int)).map dropO := by unfold dropL; rw [List.map_map]; rfl
theorem drop_chk {p : Int} (h : 1 ≤ p ∧ p ≤ 40) : chkO (dropO p) = 0 := by
  refine chk0_of ((plain78 (.inr rfl)).2 ?_) ?_
  · simp [dropO]; omega
  · simp [dropO]
theorem dropL_chk (n : Nat) : ∀ o ∈ dropL n, chkO o = 0 := by
  intro o ho
  obtain ⟨i, _, rfl⟩ := List.mem_map.1 ho
  exact drop_chk (by omega)
theorem dropL_len (n : Nat) : (dropL n).length = n := by simp [dropL]
theorem dropL_cons (n : Nat) : ∃ xs : List Int, dropL (n + 1) = dropO 1 :: xs.map dropO := by
  refine ⟨(List.range n).map fun i => 1 + (((i + 1) % 40 : Nat) : Int), ?_⟩
  unfold dropL
  rw [List.range_succ_eq_map, List.map_cons, List.map_map, List.map_map]
  rfl
theorem pos_drop {p : Int} (h : 1 ≤ p ∧ p ≤ 40) : posS (dropO p) 0 = p := by
  unfold posS spotS
  rw [if_neg, if_pos (show (dropO p).b = 0 from rfl)]
  · simp only [dropO]; omega
  · rintro (e | e)
    · exact e (nchk_iff.2 ⟨.inl rfl, h⟩)
    · exact e ⟨by decide, by decide⟩
theorem drop_fold : ∀ n : Nat, (dropL (n + 1)).foldl tstep (0, 0, none) = (0, 0, some (1, ((min (n + 1) 40 : Nat) : Int)))
  | 0 => by
    show tstep (0, 0, none) (dropO 1) = _
    unfold tstep
    rw [if_neg (by decide), if_neg (by decide), show rkN (0, 0, (none : Option (Int × Int))).2.1 (dropO 1) = 0 from rfl, pos_drop (by decide)]
    rfl
  | n + 1 => by
    rw [show dropL (n + 1 + 1) = dropL (n + 1) ++ [dropO (1 + (((n + 1) % 40 : Nat) : Int))] by unfold dropL; rw [List.range_succ, List.map_append]; rfl, List.foldl_append, drop_fold n, List.foldl_cons, List.foldl_nil]
    unfold tstep
    rw [if_neg (show ¬ (dropO _).k = 3 from (by decide : ¬ (8 : Int) = 3)), if_neg (show ¬ clsS (dropO _).k = 0 from (by decide : ¬ clsS 8 = 0))]
    simp only [show ∀ q, rkN 0 (dropO q) = 0 from fun _ => rfl]
    rw [pos_drop (by omega)]
    unfold tmx
    simp only [Prod.mk.injEq, true_and, Option.some.injEq]
    constructor <;> omega
theorem drop_all {n : Nat} (h : 40 ≤ n) : divS (dropL n) = [(0, n)] ∧ cntS (dropL n) = 1 ∧ timS (dropL n) = 41 := by
  obtain ⟨m, rfl⟩ : ∃ m, n = m + 1 := ⟨n - 1, by omega⟩
  obtain ⟨xs, hx⟩ := dropL_cons m
  have hlen := dropL_len (m + 1)
  have hfold := drop_fold m
  have hc : ∀ r, chn r (some (dropO 1)) (xs.map dropO) := fun r => dropL_chn r xs 1
  refine ⟨?_, ?_, ?_⟩
  · unfold divS
    rw [hlen, hx, divF, if_neg (by simp [brk]), show loN none (dropO 1) = some (dropO 1) from rfl, show rkN 0 (dropO 1) = 0 from rfl, div_chn _ _ _ _ _ _ (hc 0), if_pos (by omega)]; rfl
  · unfold cntS
    have := cnt_chn 0 [] (xs.map dropO) (dropO 1) (hc 0)
    rw [List.append_nil] at this
    rw [hx, cntF, if_neg (by decide), if_neg (by decide), if_pos (.inl rfl), this]; rfl
  · unfold timS
    have := tim_chn [] (xs.map dropO) (dropO 1) (tstep (0, 0, none) (dropO 1)) (hc _)
    rw [List.append_nil] at this
    rw [hx, timG, if_neg (by simp [brk]), show loN none (dropO 1) = some (dropO 1) from rfl, this]
    rw [hx, List.foldl_cons] at hfold
    rw [hfold, timG]
    unfold tend
    simp only
    omega
/-! Bounds. -/
def TSok (M : Int) (s : TS) : Prop := (0 ≤ s.1 ∧ s.1 ≤ M) ∧ (-4 ≤ s.2.1 ∧ s.2.1 ≤ 4) ∧ ∀ a b, s.2.2 = some (a, b) → -4 ≤ a ∧ a ≤ b ∧ b ≤ 50
theorem rkN_in {r : Int} {o : MOp} (h : -4 ≤ r ∧ r ≤ 4) (ho : chkO o = 0) : -4 ≤ rkN r o ∧ rkN r o ≤ 4 := by
  have := chk_rng ho
  unfold rkN; split <;> omega
theorem pos_in (o : MOp) (r : Int) : -4 ≤ posS o r ∧ posS o r ≤ 50 := by
  have := spot_rng o.b o.p r
  unfold posS; omega
theorem tstep_ok {M : Int} {s : TS} {o : MOp} (h : TSok M s) (ho : chkO o = 0) : TSok (M + 16) (tstep s o) := by
  obtain ⟨h1, h2, h3⟩ := h
  have hr := chk_rng ho
  refine ⟨?_, rkN_in h2 ho, ?_⟩
  · show 0 ≤ (if o.k = 3 then s.1 + 2 * max (o.r - s.2.1) (s.2.1 - o.r) else s.1) ∧ (if o.k = 3 then s.1 + 2 * max (o.r - s.2.1) (s.2.1 - o.r) else s.1) ≤ M + 16
    split <;> omega
  · intro a b e
    have e' : (if clsS o.k = 0 then s.2.2 else some (tmx s.2.2 (posS o (rkN s.2.1 o)))) = some (a, b) := e
    have hp := pos_in o (rkN s.2.1 o)
    split at e'
    · exact h3 a b e'
    · rw [Option.some.injEq] at e'
      unfold tmx at e'
      split at e'
      · cases e'; omega
      · rename_i a' b' hs
        have := h3 a' b' hs
        cases e'; omega
theorem fold_ok : ∀ (q : List MOp) (M : Int) (s : TS), TSok M s → (∀ o ∈ q, chkO o = 0) → TSok (M + 16 * q.length) (q.foldl tstep s)
  | [], M, s, h, _ => by simpa using h
  | o :: q, M, s, h, hq => by
    have := fold_ok q (M + 16) (tstep s o) (tstep_ok h (hq o (by simp))) (fun x hx => hq x (by simp [hx]))
    rw [List.foldl_cons, List.length_cons]
    have e : M + 16 * ((q.length + 1 : Nat) : Int) = M + 16 + 16 * (q.length : Int) := by omega
    rw [e]; exact this
theorem tpass_ok {M : Int} {s : Int × Int} {q : List MOp} (h1 : 0 ≤ s.1 ∧ s.1 ≤ M) (h2 : -4 ≤ s.2 ∧ s.2 ≤ 4) (hq : ∀ o ∈ q, chkO o = 0) (hl : q.length ≤ 4096) : (0 ≤ (tpass s q).1 ∧ (tpass s q).1 ≤ M + 70000) ∧ (-4 ≤ (tpass s q).2 ∧ (tpass s q).2 ≤ 4) := by
  obtain ⟨g1, g2, g3⟩ := fold_ok q M (s.1, s.2, none) ⟨h1, h2, fun a b e => by cases e⟩ hq
  refine ⟨?_, g2⟩
  show 0 ≤ tend (q.foldl tstep (s.1, s.2, none)) ∧ tend (q.foldl tstep (s.1, s.2, none)) ≤ M + 70000
  unfold tend
  split
  · omega
  · rename_i a b e
    have := g3 a b e; omega
theorem sl2_mem {l : List MOp} {p : Nat × Nat} {o : MOp} (h : o ∈ sl2 l p) : o ∈ l := List.mem_of_mem_drop (List.mem_of_mem_take h)
theorem sl2_le (l : List MOp) (p : Nat × Nat) : (sl2 l p).length ≤ l.length := by unfold sl2; rw [List.length_take, List.length_drop]; omega
theorem timF_ok {l : List MOp} (hq : ∀ o ∈ l, chkO o = 0) (hl : l.length ≤ 4096) : ∀ (ps : List (Nat × Nat)) (M : Int) (s : Int × Int), (0 ≤ s.1 ∧ s.1 ≤ M) → (-4 ≤ s.2 ∧ s.2 ≤ 4) → (0 ≤ (ps.foldl (fun s p => tpass s (sl2 l p)) s).1 ∧ (ps.foldl (fun s p => tpass s (sl2 l p)) s).1 ≤ M + 70000 * ps.length) ∧ (-4 ≤ (ps.foldl (fun s p => tpass s (sl2 l p)) s).2 ∧ (ps.foldl (fun s p => tpass s (sl2 l p)) s).2 ≤ 4)
  | [], M, s, h1, h2 => by simpa using ⟨h1, h2⟩
  | p :: ps, M, s, h1, h2 => by
    obtain ⟨g1, g2⟩ := tpass_ok (q := sl2 l p) h1 h2 (fun o ho => hq o (sl2_mem ho)) (Nat.le_trans (sl2_le l p) hl)
    have := timF_ok hq hl ps (M + 70000) (tpass s (sl2 l p)) g1 g2
    rw [List.foldl_cons, List.length_cons]
    have e : M + 70000 * ((ps.length + 1 : Nat) : Int) = M + 70000 + 70000 * (ps.length : Int) := by omega
    rw [e]; exact this
theorem timP_ok {l : List MOp} (hq : ∀ o ∈ l, chkO o = 0) (hl : l.length ≤ 4096) (ps : List (Nat × Nat)) : (0 ≤ (timP l ps).1 ∧ (timP l ps).1 ≤ 70000 * ps.length) ∧ (-4 ≤ (timP l ps).2 ∧ (timP l ps).2 ≤ 4) := by
  have := timF_ok hq hl ps 0 (0, 0) (by decide) (by decide)
  rw [Int.zero_add] at this; exact this
/-- What passes divides at all. -/
def vldS (l : List MOp) : Prop := (l.length : Int) ≤ 4096 ∧ ∀ o ∈ l, chkO o = 0
instance (l : List MOp) : Decidable (vldS l) := by unfold vldS; infer_instance
def countS (l : List MOp) : Int := if vldS l then (cntS l : Int) else 0
def timeS (l : List MOp) : Int := if vldS l then timS l else 0
def passS (l : List MOp) : List (Nat × Nat) := if vldS l then divS l else []
end Go.Lw
