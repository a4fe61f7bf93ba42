/- Shifts, plain: the starts of the neighbours that go alike, and the bounds of a plan. Conditions: none. -/
import Derived.Test.YtacclnebhbakmaaDoorXCab
set_option linter.unusedVariables false
set_option linter.unusedSimpArgs false
namespace Go.Lw
open Go.RowKit
theorem rS_bd {s : PS} {l : List Int} {d : Int} (hs : -1000 ≤ s.2 ∧ s.2 ≤ 1000) (hl : l.getD (l.length - 1) 0 ≤ 500) : -1000 ≤ rS s l d + byS d ∧ rS s l d + byS d ≤ 1000 := by unfold rS byS; omega
theorem moveF_rack : ∀ (f : Nat) (s : PS) (l : List Int) (d : Int), -1000 ≤ s.2 ∧ s.2 ≤ 1000 → l.getD (l.length - 1) 0 + (d.natAbs : Int) ≤ 500 → -1000 ≤ (moveF f s l d).2 ∧ (moveF f s l d).2 ≤ 1000
  | 0, s, l, d, h, _ => h
  | f + 1, s, l, d, h, hl => by
    unfold moveF
    split
    · exact h
    · refine moveF_rack f _ _ _ (by rw [step_rack]; exact rS_bd h (by omega)) ?_
      rw [List.length_map]
      have hb : ((d - byS d).natAbs : Int) + byS d ≤ (d.natAbs : Int) := by unfold byS; omega
      have hc : ((d - byS d).natAbs : Int) ≤ (d.natAbs : Int) := by unfold byS; omega
      rcases Nat.eq_zero_or_pos l.length with e | e
      · have : l = [] := List.eq_nil_of_length_eq_zero e
        subst this
        simp at hl ⊢; omega
      · have e2 : (l.map (· + byS d)).getD (l.length - 1) 0 = l.getD (l.length - 1) 0 + byS d := by simp [List.getD, show l.length - 1 < l.length by omega]
        rw [e2]; omega
theorem togS_bd {b : List Int} {i : Nat} (h : i < b.length) : i < togS b i ∧ togS b i ≤ b.length := by
  unfold togS
  have : ((b.drop (i + 1)).takeWhile (fun z => decide (z = b.getD i 0))).length ≤ (b.drop (i + 1)).length := (List.takeWhile_prefix _).length_le
  rw [List.length_drop] at this; omega
theorem startsF_fuel (b : List Int) : ∀ (f f' i : Nat), b.length - i ≤ f → b.length - i ≤ f' → startsF b f i = startsF b f' i
  | 0, 0, i, _, _ => rfl
  | 0, f' + 1, i, h, _ => by
    unfold startsF; rw [if_neg (by omega)]
  | f + 1, 0, i, _, h => by
    unfold startsF; rw [if_neg (by omega)]
  | f + 1, f' + 1, i, h, h' => by
    unfold startsF
    split
    · rename_i hi
      have := togS_bd hi
      rw [startsF_fuel b f f' (togS b i) (by omega) (by omega)]
    · rfl
theorem starts_step {b : List Int} {i : Nat} (h : i < b.length) : startsF b b.length i = i :: startsF b b.length (togS b i) := by
  have e : startsF b b.length i = startsF b (b.length + 1) i := startsF_fuel b _ _ i (by omega) (by omega)
  rw [e]; rw [startsF, if_pos h]
theorem starts_end {b : List Int} {i : Nat} (h : b.length ≤ i) : startsF b b.length i = [] := by
  cases hb : b.length with
  | zero => rfl
  | succ n => unfold startsF; rw [if_neg (by omega)]
theorem startsF_mem (b : List Int) : ∀ (f i k : Nat), k ∈ startsF b f i → k < b.length
  | 0, _, _, h => by cases h
  | f + 1, i, k, h => by
    unfold startsF at h
    split at h
    · rcases List.mem_cons.1 h with rfl | h
      · assumption
      · exact startsF_mem b f _ k h
    · cases h
theorem startsF_len (b : List Int) : ∀ (f i : Nat), (startsF b f i).length ≤ f
  | 0, _ => by simp [startsF]
  | f + 1, i => by
    unfold startsF
    split
    · have := startsF_len b f (togS b i); simp; omega
    · simp
/-- A plan so far is not too long, and its rack is near. -/
def okP (n : Nat) (s : PS) : Prop := (-1000 ≤ s.2 ∧ s.2 ≤ 1000) ∧ s.1.length ≤ 4000 * n
theorem okP.mono {n m : Nat} {s : PS} (h : okP n s) (hm : n ≤ m) : okP m s := ⟨h.1, by have := h.2; omega⟩
theorem cut_getD {l : List Int} {i e j : Nat} (he : e ≤ l.length) (hj : j < e - i) : ((l.take e).drop i).getD j 0 = l.getD (i + j) 0 := by
  rw [getD_drop, List.getD, List.getElem?_take, if_pos (by omega)]; rfl
theorem ok_move {n : Nat} {s : PS} {l : List Int} {i e : Nat} {d : Int} (h : okP n s) (hl : Asc l) (he : e ≤ l.length) (hd : -40 ≤ d ∧ d ≤ 40) : okP (n + 1) (moveS s ((l.take e).drop i) d) := by
  have h4 := hl.len
  have hlen : ((l.take e).drop i).length = e - i := by rw [List.length_drop, List.length_take]; omega
  refine ⟨moveF_rack _ _ _ _ h.1 ?_, ?_⟩
  · rw [hlen]
    rcases Nat.lt_or_ge i e with hi | hi
    · rw [cut_getD he (by omega)]
      have := hl (i + (e - i - 1)) (by omega)
      omega
    · rw [show (l.take e).drop i = [] from List.drop_eq_nil_of_le (by rw [List.length_take]; omega)]
      simp; omega
  · have := moveF_len d.natAbs s ((l.take e).drop i) d
    have h2 := h.2
    rw [hlen] at this
    have h5 : d.natAbs * (2 + 2 * (e - i)) ≤ 40 * (2 + 2 * 40) := Nat.mul_le_mul (by omega) (by omega)
    unfold moveS; omega
theorem dif_len {xs ys : List Int} (h : ys.length = xs.length) : (dif xs ys).length = xs.length := by simp [dif, h]
theorem dif_getD {xs ys : List Int} {i : Nat} (h : ys.length = xs.length) (hi : i < xs.length) : (dif xs ys).getD i 0 = ys.getD i 0 - xs.getD i 0 := by
  simp [dif, List.getD, List.getElem?_zipWith, hi, h]
theorem dif_bd {xs ys : List Int} {i : Nat} (hx : Asc xs) (hy : Asc ys) (h : ys.length = xs.length) (hi : i < xs.length) : -40 ≤ (dif xs ys).getD i 0 ∧ (dif xs ys).getD i 0 ≤ 40 := by
  rw [dif_getD h hi]
  have := hx i hi
  have := hy i (by omega)
  omega
section
variable {xs ys : List Int} {n : Nat} {s : PS}
theorem ok_up {i : Nat} (h : okP n s) (hx : Asc xs) (hy : Asc ys) (hl : ys.length = xs.length) (hi : i < xs.length) : okP (n + 1) (upS xs (dif xs ys) s i) := by
  unfold upS
  split
  · exact ok_move h hx (by have := (togS_bd (b := dif xs ys) (i := i) (by rw [dif_len hl]; exact hi)).2; rw [dif_len hl] at this; exact this) (dif_bd hx hy hl hi)
  · exact h.mono (by omega)
theorem ok_down {i : Nat} (h : okP n s) (hx : Asc xs) (hy : Asc ys) (hl : ys.length = xs.length) (hi : i < xs.length) : okP (n + 1) (downS xs (dif xs ys) s i) := by
  unfold downS
  split
  · exact ok_move h hx (by have := (togS_bd (b := dif xs ys) (i := i) (by rw [dif_len hl]; exact hi)).2; rw [dif_len hl] at this; exact this) (dif_bd hx hy hl hi)
  · exact h.mono (by omega)
theorem ok_ups (hx : Asc xs) (hy : Asc ys) (hl : ys.length = xs.length) : ∀ (ks : List Nat) (n : Nat) (s : PS), (∀ k ∈ ks, k < xs.length) → okP n s → okP (n + ks.length) (ks.foldl (upS xs (dif xs ys)) s)
  | [], n, s, _, h => h
  | k :: ks, n, s, hk, h => by
    have := ok_ups hx hy hl ks (n + 1) _ (fun j hj => hk j (List.mem_cons_of_mem _ hj)) (ok_up h hx hy hl (hk k List.mem_cons_self))
    rw [List.foldl_cons]; exact this.mono (by rw [List.length_cons]; omega)
theorem ok_downs (hx : Asc xs) (hy : Asc ys) (hl : ys.length = xs.length) : ∀ (ks : List Nat) (n : Nat) (s : PS), (∀ k ∈ ks, k < xs.length) → okP n s → okP (n + ks.length) (ks.foldl (downS xs (dif xs ys)) s)
  | [], n, s, _, h => h
  | k :: ks, n, s, hk, h => by
    have := ok_downs hx hy hl ks (n + 1) _ (fun j hj => hk j (List.mem_cons_of_mem _ hj)) (ok_down h hx hy hl (hk k List.mem_cons_self))
    rw [List.foldl_cons]; exact this.mono (by rw [List.length_cons]; omega)
end
/-- The starts as numbers; those of them that come up from the end. -/
def stI (xs ys : List Int) : List Int := (starts (dif xs ys)).map (fun k : Nat => (k : Int))
theorem stI_len (xs ys : List Int) : (stI xs ys).length = (starts (dif xs ys)).length := by simp [stI]
theorem stS_len {xs ys : List Int} (hl : ys.length = xs.length) : (starts (dif xs ys)).length ≤ xs.length := by
  have := startsF_len (dif xs ys) (dif xs ys).length 0
  rw [dif_len hl] at this; unfold starts; rw [dif_len hl]; exact this
theorem stS_lt {xs ys : List Int} (hl : ys.length = xs.length) {k : Nat} (h : k ∈ starts (dif xs ys)) : k < xs.length := by
  have := startsF_mem _ _ _ _ h
  rw [dif_len hl] at this; exact this
theorem stI_get {xs ys : List Int} {j : Nat} (h : j < (starts (dif xs ys)).length) : (stI xs ys).getD j 0 = (((starts (dif xs ys)).getD j 0 : Nat) : Int) := by simp [stI, List.getD, h]
theorem stS_getD {xs ys : List Int} (hl : ys.length = xs.length) {j : Nat} (h : j < (starts (dif xs ys)).length) : (starts (dif xs ys)).getD j 0 < xs.length := by
  rw [List.getD, List.getElem?_eq_getElem h]; exact stS_lt hl (List.getElem_mem _)
theorem rev_of_idx (l : List Nat) : ((List.range l.length).reverse.map (fun j => l.getD j 0)) = l.reverse := by
  rw [List.map_reverse]; congr 1
  refine List.ext_getElem (by simp) (fun i h1 h2 => ?_)
  simp [List.getD, h2]
def upP (xs ys : List Int) (pre : List Nat) : PS := (pre.map (fun j => (starts (dif xs ys)).getD j 0)).foldl (upS xs (dif xs ys)) ([], 0)
theorem upP_snoc (xs ys : List Int) (pre : List Nat) (j : Nat) : upP xs ys (pre ++ [j]) = upS xs (dif xs ys) (upP xs ys pre) ((starts (dif xs ys)).getD j 0) := by simp [upP]
theorem upP_all (xs ys : List Int) : upP xs ys (List.range (starts (dif xs ys)).length).reverse = (starts (dif xs ys)).reverse.foldl (upS xs (dif xs ys)) ([], 0) := by unfold upP; rw [rev_of_idx]
theorem upP_ok {xs ys : List Int} (hx : Asc xs) (hy : Asc ys) (hl : ys.length = xs.length) (pre : List Nat) (hp : ∀ j ∈ pre, j < (starts (dif xs ys)).length) : okP pre.length (upP xs ys pre) := by
  have := ok_ups hx hy hl (pre.map (fun j => (starts (dif xs ys)).getD j 0)) 0 ([], 0) (fun k hk => by obtain ⟨j, hj, rfl⟩ := List.mem_map.1 hk; exact stS_getD hl (hp j hj)) ⟨⟨by decide, by decide⟩, by simp⟩
  rw [List.length_map, Nat.zero_add] at this; exact this
def downP (xs ys : List Int) (m : Nat) : PS := ((starts (dif xs ys)).take m).foldl (downS xs (dif xs ys)) ((starts (dif xs ys)).reverse.foldl (upS xs (dif xs ys)) ([], 0))
theorem downP_succ {xs ys : List Int} {m : Nat} (h : m < (starts (dif xs ys)).length) : downP xs ys (m + 1) = downS xs (dif xs ys) (downP xs ys m) ((starts (dif xs ys)).getD m 0) := by
  unfold downP
  rw [List.take_add_one, List.getElem?_eq_getElem h, Option.toList, List.foldl_append, List.getD, List.getElem?_eq_getElem h]; rfl
theorem downP_ok {xs ys : List Int} (hx : Asc xs) (hy : Asc ys) (hl : ys.length = xs.length) (m : Nat) : okP 80 (downP xs ys m) := by
  have h4 := hx.len
  have h0 := stS_len (xs := xs) (ys := ys) hl
  have h1 := ok_ups hx hy hl (starts (dif xs ys)).reverse 0 ([], 0) (fun k hk => stS_lt hl (List.mem_reverse.1 hk)) ⟨⟨by decide, by decide⟩, by simp⟩
  have h2 := ok_downs hx hy hl ((starts (dif xs ys)).take m) _ _ (fun k hk => stS_lt hl (List.mem_of_mem_take hk)) h1
  refine h2.mono ?_
  rw [List.length_reverse, List.length_take]; omega
theorem shift_of (xs ys : List Int) : shiftS xs ys = (turnS (downP xs ys (starts (dif xs ys)).length) 0).1 := by
  unfold shiftS downP; rw [List.take_length]
end Go.Lw
