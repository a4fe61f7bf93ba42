/- Rows of stitches: plain. Conditions: none. -/
import Derived.Test.YtbalocjcbmkecaaDoorXPass
set_option linter.unusedVariables false
set_option linter.unusedSimpArgs false
namespace Go.Lw
theorem chn_rng {r : Int} {f : Nat → MOp} : ∀ (m a : Nat), (∀ i, a ≤ i → i < a + m → clsS (f i).k ≠ 0) → (∀ i, a ≤ i → i + 1 < a + m → folS (f i) (f (i + 1)) r) → ∀ lo : Option MOp, (∀ p, lo = some p → 1 ≤ m → folS p (f a) r) → chn r lo ((List.range' a m).map f)
  | 0, _, _, _, _, _ => trivial
  | m + 1, a, h1, h2, lo, hlo => by
    rw [List.range'_succ, List.map_cons]
    refine ⟨h1 a (Nat.le_refl _) (by omega), ?_, chn_rng m (a + 1) (fun i hi hl => h1 i (by omega) (by omega)) (fun i hi hl => h2 i (by omega) (by omega)) (some (f a)) (fun p hp hm => by cases hp; exact h2 a (Nat.le_refl _) (by omega))⟩
    cases lo with
    | none => trivial
    | some p => exact hlo p rfl (by omega)
/-- n operations in order, of one pass. -/
structure Run1 (n : Nat) (f : Nat → MOp) : Prop where
  pos : 1 ≤ n
  cls : ∀ i, i < n → clsS (f i).k ≠ 0
  fol : ∀ i, i + 1 < n → folS (f i) (f (i + 1)) 0
  chk : ∀ i, i < n → chkO (f i) = 0
  span : (∀ i, i < n → posS (f i) 0 = 1 + i) ∨ (∀ i, i < n → posS (f i) 0 = n - i)
def runL (n : Nat) (f : Nat → MOp) : List MOp := (List.range n).map f
theorem runL_succ (n : Nat) (f : Nat → MOp) : runL (n + 1) f = runL n f ++ [f n] := by unfold runL; rw [List.range_succ, List.map_append]; rfl
theorem runL_len (n : Nat) (f : Nat → MOp) : (runL n f).length = n := by simp [runL]
theorem runL_cons {n : Nat} {f : Nat → MOp} (h : 1 ≤ n) : runL n f = f 0 :: (List.range' 1 (n - 1)).map f := by
  unfold runL
  rw [List.range_eq_range', show n = (n - 1) + 1 by omega, List.range'_succ, List.map_cons]; rfl
theorem Run1.chn {n : Nat} {f : Nat → MOp} (h : Run1 n f) : chn 0 (some (f 0)) ((List.range' 1 (n - 1)).map f) := by
  have hp := h.pos
  refine chn_rng (n - 1) 1 (fun i _ hl => h.cls i (by omega)) (fun i _ hl => h.fol i (by omega)) (some (f 0)) (fun p e hm => by cases e; exact h.fol 0 (by omega))
theorem last_run {n : Nat} {f : Nat → MOp} (h : 1 ≤ n) : (f 0 :: (List.range' 1 (n - 1)).map f).getLast (by simp) = f (n - 1) := by
  have e : f 0 :: (List.range' 1 (n - 1)).map f = (List.range n).map f := (runL_cons h).symm
  have : ∀ (l : List MOp) (hl : l ≠ []), l = (List.range n).map f → l.getLast hl = f (n - 1) := by
    intro l hl he
    subst he
    rw [List.getLast_map]
    congr 1
    simp
  exact this _ _ e
theorem tst_wk {s : TS} {o : MOp} (hr : s.2.1 = 0) (hc : clsS o.k ≠ 0) : tstep s o = (s.1, 0, some (tmx s.2.2 (posS o 0))) := by
  unfold tstep
  rw [if_neg (wk_not3 hc), if_neg hc, rkN, if_neg (wk_not3 hc), hr]
theorem fold_asc {n : Nat} {f : Nat → MOp} (S0 : Int) (hc : ∀ i, i < n → clsS (f i).k ≠ 0) (hp : ∀ i, i < n → posS (f i) 0 = 1 + i) : ∀ j, j + 1 ≤ n → (runL (j + 1) f).foldl tstep (S0, 0, none) = (S0, 0, some (1, (j : Int) + 1))
  | 0, h => by
    rw [runL_succ, List.foldl_append]
    show tstep (S0, 0, none) (f 0) = _
    rw [tst_wk rfl (hc 0 (by omega)), hp 0 (by omega)]; rfl
  | j + 1, h => by
    rw [runL_succ, List.foldl_append, fold_asc S0 hc hp j (by omega)]
    show tstep (S0, 0, some (1, (j : Int) + 1)) (f (j + 1)) = _
    rw [tst_wk rfl (hc (j + 1) (by omega)), hp (j + 1) (by omega)]
    simp only [tmx, Prod.mk.injEq, true_and, Option.some.injEq]
    constructor <;> omega
theorem fold_desc {n : Nat} {f : Nat → MOp} (S0 : Int) (hc : ∀ i, i < n → clsS (f i).k ≠ 0) (hp : ∀ i, i < n → posS (f i) 0 = n - i) : ∀ j, j + 1 ≤ n → (runL (j + 1) f).foldl tstep (S0, 0, none) = (S0, 0, some ((n : Int) - j, (n : Int)))
  | 0, h => by
    rw [runL_succ, List.foldl_append]
    show tstep (S0, 0, none) (f 0) = _
    rw [tst_wk rfl (hc 0 (by omega)), hp 0 (by omega)]
    simp [tmx]
  | j + 1, h => by
    rw [runL_succ, List.foldl_append, fold_desc S0 hc hp j (by omega)]
    show tstep (S0, 0, some ((n : Int) - j, (n : Int))) (f (j + 1)) = _
    rw [tst_wk rfl (hc (j + 1) (by omega)), hp (j + 1) (by omega)]
    simp only [tmx, Prod.mk.injEq, true_and, Option.some.injEq]
    constructor <;> omega
theorem Run1.fold {n : Nat} {f : Nat → MOp} (h : Run1 n f) (S0 : Int) : (runL n f).foldl tstep (S0, 0, none) = (S0, 0, some (1, (n : Int))) := by
  obtain ⟨j, rfl⟩ : ∃ j, n = j + 1 := ⟨n - 1, by have := h.pos; omega⟩
  rcases h.span with hp | hp
  · rw [fold_asc S0 h.cls hp j (Nat.le_refl _)]; simp
  · rw [fold_desc S0 h.cls hp j (Nat.le_refl _)]
    simp only [Prod.mk.injEq, true_and, Option.some.injEq, and_true]
    omega
theorem brk_wk1 {lo : Option MOp} {o : MOp} (hc : clsS o.k ≠ 0) : brk lo 0 o ↔ ∃ p, lo = some p ∧ ¬ folS p o 0 := by
  cases lo with
  | none => simp [brk]
  | some p => simp [brk, hc, wk_not3 hc]
theorem Run1.cnt {n : Nat} {f : Nat → MOp} (h : Run1 n f) (lo : Option MOp) (hlo : lo = none ∨ brk lo 0 (f 0)) (rest : List MOp) : cntF (runL n f ++ rest) 0 lo = 1 + cntF rest 0 (some (f (n - 1))) := by
  have hp := h.pos
  rw [runL_cons hp, List.cons_append, cntF, if_neg (wk_not3 (h.cls 0 (by omega))), if_neg (h.cls 0 (by omega)), if_pos hlo, cnt_chn 0 rest _ _ h.chn, last_run hp]
theorem Run1.tim0 {n : Nat} {f : Nat → MOp} (h : Run1 n f) (rest : List MOp) : timG (runL n f ++ rest) (0, 0, none) none = timG rest (0, 0, some (1, (n : Int))) (some (f (n - 1))) := by
  have hp := h.pos
  have hf := h.fold 0
  rw [runL_cons hp, List.foldl_cons] at hf
  rw [runL_cons hp, List.cons_append, timG, if_neg (by simp [brk]), show loN none (f 0) = some (f 0) from if_pos (h.cls 0 (by omega)), tim_chn rest _ _ _ (by rw [tst_wk rfl (h.cls 0 (by omega))]; exact h.chn), hf, last_run hp]
theorem Run1.tim {n : Nat} {f : Nat → MOp} (h : Run1 n f) {S0 : Int} {a b : Int} {p : MOp} (hb : ¬ folS p (f 0) 0) (rest : List MOp) : timG (runL n f ++ rest) (S0, 0, some (a, b)) (some p) = timG rest (S0 + (1 + b - a + 1), 0, some (1, (n : Int))) (some (f (n - 1))) := by
  have hp := h.pos
  have hf := h.fold (S0 + (1 + b - a + 1))
  rw [runL_cons hp, List.foldl_cons] at hf
  rw [runL_cons hp, List.cons_append, timG, if_pos ((brk_wk1 (h.cls 0 (by omega))).2 ⟨p, rfl, hb⟩), show loN none (f 0) = some (f 0) from if_pos (h.cls 0 (by omega))]
  show timG _ (tstep (S0 + (1 + b - a + 1), 0, none) (f 0)) _ = _
  rw [tim_chn rest _ _ _ (by rw [tst_wk rfl (h.cls 0 (by omega))]; exact h.chn), hf, last_run hp]
theorem Run1.one {n : Nat} {f : Nat → MOp} (h : Run1 n f) : cntS (runL n f) = 1 ∧ timS (runL n f) = 1 + n := by
  have h1 := h.cnt none (.inl rfl) []
  have h2 := h.tim0 []
  rw [List.append_nil] at h1 h2
  refine ⟨h1, ?_⟩
  unfold timS
  rw [h2, timG]
  simp only [tend]; omega
theorem run_three {n : Nat} {f g e : Nat → MOp} (hf : Run1 n f) (hg : Run1 n g) (he : Run1 n e) (h1 : ¬ folS (f (n - 1)) (g 0) 0) (h2 : ¬ folS (g (n - 1)) (e 0) 0) : cntS (runL n f ++ runL n g ++ runL n e) = 3 ∧ timS (runL n f ++ runL n g ++ runL n e) = 3 + 3 * n := by
  have hp := hf.pos
  constructor
  · unfold cntS
    have h3 := he.cnt (some (g (n - 1))) (.inr ((brk_wk1 (he.cls 0 (by omega))).2 ⟨_, rfl, h2⟩)) []
    rw [List.append_nil] at h3
    rw [List.append_assoc, hf.cnt none (.inl rfl), hg.cnt (some (f (n - 1))) (.inr ((brk_wk1 (hg.cls 0 (by omega))).2 ⟨_, rfl, h1⟩)), h3]
    rfl
  · unfold timS
    have h3 := fun S0 => he.tim (S0 := S0) (a := 1) (b := n) h2 []
    simp only [List.append_nil] at h3
    rw [List.append_assoc, hf.tim0, hg.tim h1, h3, timG]
    simp only [tend]; omega
theorem run_chk {n : Nat} {f : Nat → MOp} (h : Run1 n f) : ∀ o ∈ runL n f, chkO o = 0 := fun o ho => by
  obtain ⟨i, hi, rfl⟩ := List.mem_map.1 ho
  exact h.chk i (List.mem_range.1 hi)
/-! The rows of the law. -/
def kI (n : Nat) (d : Int) (i : Nat) : Nat := if d = 0 then n - 1 - i else i
def rowO (n : Nat) (d beds : Int) (i : Nat) : MOp := ⟨4, d, beds / ((2 ^ kI n d i : Nat) : Int) % 2, 1 + (kI n d i : Int), 1 + beds / ((2 ^ (kI n d i + 10) : Nat) : Int) % 6, 0⟩
def xfF (i : Nat) : MOp := ⟨7, 0, 0, 1 + (i : Int), 0, 0⟩
def xfB (n i : Nat) : MOp := ⟨7, 0, 1, (n : Int) - i, 0, 0⟩
theorem pos_of {o : MOp} (hb : o.b = 0 ∨ o.b = 1) (hp : 1 ≤ o.p ∧ o.p ≤ 40) : posS o 0 = o.p ∧ (spotS o.b o.p 0 = 4 * o.p ∨ spotS o.b o.p 0 = 4 * o.p + 2) := by
  have hn : ¬ (nchk o.b o.p ≠ 0 ∨ ¬ (-4 ≤ (0 : Int) ∧ (0 : Int) ≤ 4)) := by
    rintro (e | e)
    · exact e (nchk_iff.2 ⟨hb, hp⟩)
    · exact e ⟨by decide, by decide⟩
  unfold posS spotS
  rw [if_neg hn]
  split <;> omega
theorem row_run {n : Nat} {d beds : Int} (hn : 1 ≤ n ∧ n ≤ 40) (hd : d = 0 ∨ d = 1) : Run1 n (rowO n d beds) := by
  have hk : ∀ i, i < n → kI n d i < n := fun i hi => by unfold kI; split <;> omega
  have hb : ∀ i, (rowO n d beds i).b = 0 ∨ (rowO n d beds i).b = 1 := fun i => by
    show beds / ((2 ^ kI n d i : Nat) : Int) % 2 = 0 ∨ beds / ((2 ^ kI n d i : Nat) : Int) % 2 = 1; omega
  have hp : ∀ i, i < n → 1 ≤ (rowO n d beds i).p ∧ (rowO n d beds i).p ≤ 40 := fun i hi => by
    have := hk i hi
    show 1 ≤ 1 + (kI n d i : Int) ∧ 1 + (kI n d i : Int) ≤ 40; omega
  refine ⟨hn.1, fun i _ => (by decide : clsS 4 ≠ 0), fun i hi => ⟨rfl, fun _ => ⟨rfl, ?_⟩, fun h => absurd (show clsS 4 = 2 from h) (by decide)⟩, fun i hi => ?_, ?_⟩
  · have h1 := (pos_of (hb i) (hp i (by omega))).2
    have h2 := (pos_of (hb (i + 1)) (hp (i + 1) (by omega))).2
    have e1 : (rowO n d beds i).p = 1 + (kI n d i : Int) := rfl
    have e2 : (rowO n d beds (i + 1)).p = 1 + (kI n d (i + 1) : Int) := rfl
    have ed : (rowO n d beds (i + 1)).d = d := rfl
    rw [ed]
    rcases hd with rfl | rfl
    · rw [if_neg (by decide)]
      have k1 : kI n 0 i = n - 1 - i := rfl
      have k2 : kI n 0 (i + 1) = n - 1 - (i + 1) := rfl
      omega
    · rw [if_pos rfl]
      have k1 : kI n 1 i = i := rfl
      have k2 : kI n 1 (i + 1) = i + 1 := rfl
      omega
  · refine chk0_of ((plain46 (show 4 ≤ (4 : Int) ∧ (4 : Int) ≤ 6 by decide)).2 ⟨⟨hd, ?_, ?_⟩, ⟨hb i, hp i hi⟩, rfl⟩) (show -4 ≤ (0 : Int) ∧ (0 : Int) ≤ 4 by decide)
    · show 1 ≤ 1 + beds / ((2 ^ (kI n d i + 10) : Nat) : Int) % 6; omega
    · show 1 + beds / ((2 ^ (kI n d i + 10) : Nat) : Int) % 6 ≤ 6; omega
  · rcases hd with rfl | rfl
    · refine .inr fun i hi => ?_
      rw [(pos_of (hb i) (hp i hi)).1]
      show 1 + (kI n 0 i : Int) = n - i
      have k1 : kI n 0 i = n - 1 - i := rfl
      omega
    · refine .inl fun i hi => ?_
      rw [(pos_of (hb i) (hp i hi)).1]
      rfl
theorem xfF_run {n : Nat} (hn : 1 ≤ n ∧ n ≤ 40) : Run1 n xfF := by
  have hp : ∀ i, i < n → 1 ≤ (xfF i).p ∧ (xfF i).p ≤ 40 := fun i hi => by show 1 ≤ 1 + (i : Int) ∧ 1 + (i : Int) ≤ 40; omega
  refine ⟨hn.1, fun i _ => (by decide : clsS 7 ≠ 0), fun i hi => ⟨rfl, fun h => absurd (show clsS 7 = 1 from h) (by decide), fun _ => rfl⟩, fun i hi => ?_, .inl fun i hi => (pos_of (.inl rfl) (hp i hi)).1⟩
  exact chk0_of ((plain78 (.inl rfl)).2 ⟨⟨rfl, rfl⟩, ⟨.inl rfl, hp i hi⟩, rfl⟩) (show -4 ≤ (0 : Int) ∧ (0 : Int) ≤ 4 by decide)
theorem xfB_run {n : Nat} (hn : 1 ≤ n ∧ n ≤ 40) : Run1 n (xfB n) := by
  have hp : ∀ i, i < n → 1 ≤ (xfB n i).p ∧ (xfB n i).p ≤ 40 := fun i hi => by show 1 ≤ (n : Int) - i ∧ (n : Int) - i ≤ 40; omega
  refine ⟨hn.1, fun i _ => (by decide : clsS 7 ≠ 0), fun i hi => ⟨rfl, fun h => absurd (show clsS 7 = 1 from h) (by decide), fun _ => rfl⟩, fun i hi => ?_, .inr fun i hi => (pos_of (.inr rfl) (hp i hi)).1⟩
  exact chk0_of ((plain78 (.inl rfl)).2 ⟨⟨rfl, rfl⟩, ⟨.inr rfl, hp i hi⟩, rfl⟩) (show -4 ≤ (0 : Int) ∧ (0 : Int) ≤ 4 by decide)
theorem row_law {n : Nat} {d beds : Int} (hn : 1 ≤ n ∧ n ≤ 40) (hd : d = 0 ∨ d = 1) : countS (runL n (rowO n d beds)) = 1 ∧ timeS (runL n (rowO n d beds)) = 1 + n ∧ countS (runL n (rowO n d beds) ++ runL n xfF ++ runL n (xfB n)) = 3 ∧ timeS (runL n (rowO n d beds) ++ runL n xfF ++ runL n (xfB n)) = 3 + 3 * n := by
  have h1 := row_run (beds := beds) hn hd
  have h2 := xfF_run hn
  have h3 := xfB_run hn
  have v1 : vldS (runL n (rowO n d beds)) := ⟨by rw [runL_len]; omega, run_chk h1⟩
  have v2 : vldS (runL n (rowO n d beds) ++ runL n xfF ++ runL n (xfB n)) := by
    refine ⟨by rw [List.length_append, List.length_append, runL_len, runL_len, runL_len]; omega, fun o ho => ?_⟩
    rcases List.mem_append.1 ho with ho | ho
    · rcases List.mem_append.1 ho with ho | ho
      · exact run_chk h1 o ho
      · exact run_chk h2 o ho
    · exact run_chk h3 o ho
  have t := run_three h1 h2 h3 (fun hf => absurd (show clsS 4 = clsS 7 from hf.1) (by decide)) (fun hf => absurd (show (0 : Int) = 1 from hf.2.2 rfl) (by decide))
  have o := h1.one
  unfold countS timeS
  rw [if_pos v1, if_pos v1, if_pos v2, if_pos v2, o.1, o.2, t.1, t.2]
  exact ⟨rfl, rfl, rfl, rfl⟩
end Go.Lw
