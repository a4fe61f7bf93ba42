/- Texts of the proof, joined. -/
import Derived.Test.YthehggmdcmpjeaaGreatDoorRows
import Derived.Test.YthehggmdcmpjeaaGreatDoorP6
set_option linter.unusedVariables false
set_option linter.unusedSimpArgs false
namespace Go.G14
open Go.Lw
def LnI (t : List UInt8) (i : Nat) (dl : List (List UInt8)) : Prop := (∃ cur, t.take i = linesG dl ++ cur ∧ (10 : UInt8) ∉ cur) ∧ ∀ l ∈ dl, (10 : UInt8) ∉ l
theorem lnI_zero (t : List UInt8) : LnI t 0 [] := ⟨⟨[], by simp [linesG], by simp⟩, by simp⟩
theorem lnI_le {t : List UInt8} {i : Nat} {dl : List (List UInt8)} (h : LnI t i dl) : (linesG dl).length ≤ i := by
 obtain ⟨⟨cur, e, -⟩, -⟩ := h
 have := congrArg List.length e
 rw [List.length_take, List.length_append] at this
 omega
theorem lnI_get {t : List UInt8} {i : Nat} (hi : i < t.length) : t.take (i + 1) = t.take i ++ [t.getD i 0] := by
 rw [List.take_add_one, List.getElem?_eq_getElem hi, List.getD, List.getElem?_eq_getElem hi]; rfl
theorem lnI_yes {t : List UInt8} {i : Nat} {dl : List (List UInt8)} (h : LnI t i dl) (hi : i < t.length) (hc : ((t.getD i 0).toNat : Int) = 10) : LnI t (i + 1) (dl ++ [(t.take i).drop (linesG dl).length]) ∧ (linesG (dl ++ [(t.take i).drop (linesG dl).length])).length = i + 1 := by
 obtain ⟨⟨cur, e, hn⟩, hd⟩ := h
 have e2 : (t.take i).drop (linesG dl).length = cur := by rw [e, List.drop_left]
 have e3 : t.getD i 0 = 10 := UInt8.toNat_inj.1 (by have : (10 : UInt8).toNat = 10 := rfl; omega)
 have e4 : linesG (dl ++ [cur]) = t.take (i + 1) := by
  rw [lnI_get hi, e3, e, linesG_app]; simp [linesG]
 rw [e2]
 refine ⟨⟨⟨[], by rw [e4, List.append_nil], by simp⟩, fun l hl => ?_⟩, by rw [e4, List.length_take]; omega⟩
 rcases List.mem_append.1 hl with hl | hl
 ·exact hd l hl
 rw [List.mem_singleton.1 hl]; exact hn
theorem lnI_no {t : List UInt8} {i : Nat} {dl : List (List UInt8)} (h : LnI t i dl) (hi : i < t.length) (hc : ¬ ((t.getD i 0).toNat : Int) = 10) : LnI t (i + 1) dl := by
 obtain ⟨⟨cur, e, hn⟩, hd⟩ := h
 refine ⟨⟨cur ++ [t.getD i 0], by rw [lnI_get hi, e, List.append_assoc], fun hm => ?_⟩, hd⟩
 rcases List.mem_append.1 hm with hm | hm
 ·exact hn hm
 exact hc (by rw [← List.mem_singleton.1 hm]; rfl)
theorem ln_cut {x y a b : List UInt8} (hx : (10 : UInt8) ∉ x) (hy : (10 : UInt8) ∉ y) (h : x ++ 10 :: a = y ++ 10 :: b) : x = y ∧ a = b := by
 have h1 := cut_ln (s := a) hx
 rw [h, cut_ln hy] at h1
 simp only [Prod.mk.injEq, and_true] at h1
 exact ⟨h1.1.symm, h1.2.symm⟩
theorem lines_eq : ∀ {dl ls : List (List UInt8)} {cur : List UInt8}, linesG ls = linesG dl ++ cur → (10 : UInt8) ∉ cur → (∀ l ∈ dl, (10 : UInt8) ∉ l) → (∀ l ∈ ls, (10 : UInt8) ∉ l) → ls = dl
 | [], [], _, _, _, _, _ => rfl
 | [], l :: ls, cur, h, hc, _, _ => by
  exfalso
  apply hc
  rw [linesG_cons] at h
  have : linesG ([] : List (List UInt8)) = [] := rfl
  rw [this, List.nil_append] at h
  rw [← h]; simp
 | d :: dl, [], cur, h, _, _, _ => by
  rw [linesG_cons] at h
  have := congrArg List.length h
  simp [linesG] at this
 | d :: dl, l :: ls, cur, h, hc, hd, hl => by
  rw [linesG_cons, linesG_cons] at h
  simp only [List.append_assoc, List.cons_append, List.nil_append] at h
  obtain ⟨h1, h2⟩ := ln_cut (hl l (by simp)) (hd d (by simp)) h
  rw [h1, lines_eq h2 hc (fun x hx => hd x (by simp [hx])) (fun x hx => hl x (by simp [hx]))]
theorem lnI_all {t : List UInt8} {dl ls : List (List UInt8)} (h : LnI t t.length dl) (e : t = linesG ls) (hl : ∀ l ∈ ls, (10 : UInt8) ∉ l) : ls = dl := by
 obtain ⟨⟨cur, e2, hn⟩, hd⟩ := h
 rw [List.take_length, e] at e2
 exact lines_eq e2 hn hd hl
def tmA (wh : Int) (z i : Nat) : Int := if ((i : Int) = (z : Int)) ∧ ((wh % 6) = 0) then 0 else 1
def tmB (wh : Int) (z i : Nat) : Int := if ((i : Int) = (z : Int)) ∧ ((wh % 6) = 1) then 2 else tmA wh z i
def lnA (wh : Int) (z i : Nat) (wd l : List UInt8) : List UInt8 := if ((i : Int) = (z : Int)) ∧ ((wh % 6) = 2) then l ++ ([32] ++ wd) else l
def lnB (wh : Int) (z i : Nat) (wd l : List UInt8) : List UInt8 := if ((i : Int) = (z : Int)) ∧ ((wh % 6) = 3) then (lnA wh z i wd l).take ((lnA wh z i wd l).length - 1) else lnA wh z i wd l
theorem tmB_rng (wh : Int) (z i : Nat) : 0 ≤ tmB wh z i ∧ tmB wh z i ≤ 2 := by
 unfold tmB tmA; split
 ·omega
 split <;> omega
theorem lnA_len (wh : Int) (z i : Nat) {wd l : List UInt8} (h : wd.length ≤ 20) : (lnA wh z i wd l).length ≤ l.length + 21 ∧ l.length ≤ (lnA wh z i wd l).length := by
 unfold lnA; split
 ·simp; omega
 omega
theorem lnB_len (wh : Int) (z i : Nat) {wd l : List UInt8} (h : wd.length ≤ 20) : (lnB wh z i wd l).length ≤ l.length + 21 := by
 have := lnA_len wh z i (l := l) h
 unfold lnB; split
 ·rw [List.length_take]; omega
 omega
def repU (x : List UInt8) (k : Nat) : List UInt8 := (List.replicate k x).flatten
theorem repU_step (o x : List UInt8) (k : Nat) : (o ++ repU x k) ++ x = o ++ repU x (k + 1) := by
 rw [List.append_assoc]; congr 1
 unfold repU
 rw [List.replicate_succ', List.flatten_append]; simp
theorem repU_len (x : List UInt8) : ∀ k, (repU x k).length = k * x.length
 | 0 => by simp [repU]
 | k + 1 => by
  have := repU_len x k
  unfold repU at this ⊢
  rw [List.replicate_succ, List.flatten_cons, List.length_append, this, Nat.add_mul]; omega
def spK (wh : Int) (z : Nat) : Nat := if wh % 6 = 1 ∨ wh % 6 = 4 then z + 1 else z
def SpI (ls : List (List UInt8)) (wh : Int) (z i : Nat) (o : List UInt8) : Prop := (i ≤ z → o = linesG (ls.take i)) ∧ (z < i → ∃ r, o = linesG (ls.take (spK wh z)) ++ r) ∧ o.length ≤ 2 * (linesG (ls.take i)).length + 22
theorem spI_zero (ls : List (List UInt8)) (wh : Int) (z : Nat) : SpI ls wh z 0 [] := ⟨fun _ => by simp [linesG], fun h => absurd h (by omega), by simp⟩
theorem lines_take {ls : List (List UInt8)} {i : Nat} (hi : i < ls.length) : linesG (ls.take (i + 1)) = linesG (ls.take i) ++ (ls.getD i [] ++ [10]) := by
 rw [List.take_add_one, List.getElem?_eq_getElem hi, linesG_app, List.getD, List.getElem?_eq_getElem hi]
 simp [linesG]
theorem linesG_mono (ls : List (List UInt8)) (i : Nat) : (linesG (ls.take i)).length ≤ (linesG ls).length := by
 conv => rhs; rw [← List.take_append_drop i ls, linesG_app, List.length_append]
 omega
section
variable {ls : List (List UInt8)} {wd o : List UInt8} {wh : Int} {z i : Nat}
theorem plain_at (h : ¬ i = z ∨ 3 < wh % 6) (l : List UInt8) : tmB wh z i = 1 ∧ lnB wh z i wd l = l := by
 have h0 : ∀ k : Int, k ≤ 3 → ¬ (((i : Int) = (z : Int)) ∧ ((wh % 6) = k)) := fun k hk => by rintro ⟨a, b⟩; rcases h with h | h <;> omega
 unfold tmB tmA lnB lnA
 rw [if_neg (h0 1 (by omega)), if_neg (h0 0 (by omega)), if_neg (h0 3 (by omega)), if_neg (h0 2 (by omega))]
 exact ⟨rfl, rfl⟩
theorem repU_one (x : List UInt8) : repU x (1 : Int).toNat = x := by simp [repU]
theorem spI_len (h : SpI ls wh z i o) (hi : i < ls.length) (hw : wd.length ≤ 20) : (o ++ repU (lnB wh z i wd (ls.getD i []) ++ [10]) (tmB wh z i).toNat).length ≤ 2 * (linesG (ls.take (i + 1))).length + 22 + 22 := by
 have h1 := h.2.2
 have h2 := lnB_len wh z i (l := ls.getD i []) hw
 have h3 := tmB_rng wh z i
 have h4 : (tmB wh z i).toNat ≤ 2 := by omega
 have h5 : (tmB wh z i).toNat * (lnB wh z i wd (ls.getD i []) ++ [10]).length ≤ 2 * (lnB wh z i wd (ls.getD i []) ++ [10]).length := Nat.mul_le_mul_right _ h4
 rw [lines_take hi]
 simp only [List.length_append, List.length_singleton, repU_len] at h5 ⊢
 by_cases c : i = z ∧ wh % 6 = 2
 ·have ht : tmB wh z i = 1 := by unfold tmB tmA; rw [if_neg (by omega), if_neg (by omega)]
  rw [ht] at h5 ⊢
  simp only [Int.toNat_one, Nat.one_mul] at h5 ⊢
  omega
 have h6 : (lnB wh z i wd (ls.getD i [])).length ≤ (ls.getD i []).length := by
  have : lnA wh z i wd (ls.getD i []) = ls.getD i [] := by unfold lnA; rw [if_neg (by omega)]
  unfold lnB; rw [this]; split
  ·rw [List.length_take]; omega
  omega
 omega
theorem spI_step (h : SpI ls wh z i o) (hi : i < ls.length) (hw : wd.length ≤ 20) (hh : 0 ≤ wh) (hb : ¬ (((i : Int) = (z : Int)) ∧ 3 < (wh % 6))) : SpI ls wh z (i + 1) (o ++ repU (lnB wh z i wd (ls.getD i []) ++ [10]) (tmB wh z i).toNat) := by
 obtain ⟨h1, h2, h3⟩ := h
 by_cases e : i = z
 ·subst e
  have ho := h1 (Nat.le_refl _)
  have h6 : wh % 6 = 0 ∨ wh % 6 = 1 ∨ wh % 6 = 2 ∨ wh % 6 = 3 := by omega
  have hk : ∀ r, wh % 6 ≠ 1 → ∃ r', o ++ r = linesG (ls.take (spK wh i)) ++ r' := fun r hr => ⟨r, by rw [ho, spK, if_neg (by omega)]⟩
  refine ⟨fun h => by omega, fun _ => ?_, ?_⟩
  ·by_cases c : wh % 6 = 1
   ·refine ⟨ls.getD i [] ++ [10], ?_⟩
    have hl : lnB wh i i wd (ls.getD i []) = ls.getD i [] := by unfold lnB lnA; rw [if_neg (by omega), if_neg (by omega)]
    have ht : tmB wh i i = 2 := by unfold tmB; rw [if_pos ⟨rfl, c⟩]
    rw [hl, ht, spK, if_pos (.inl c), lines_take hi, ho]
    simp [repU]
   exact hk _ c
  rw [lines_take hi]
  have hlen : (ls.getD i [] ++ [10]).length = (ls.getD i []).length + 1 := by simp
  have hol : o.length = (linesG (ls.take i)).length := by rw [ho]
  rw [List.length_append, List.length_append, hlen, repU_len, List.length_append, List.length_singleton]
  rcases h6 with c | c | c | c
  ·have ht : tmB wh i i = 0 := by unfold tmB tmA; rw [if_neg (by omega), if_pos ⟨rfl, c⟩]
   rw [ht]; simp; omega
  ·have hl : lnB wh i i wd (ls.getD i []) = ls.getD i [] := by unfold lnB lnA; rw [if_neg (by omega), if_neg (by omega)]
   have ht : tmB wh i i = 2 := by unfold tmB; rw [if_pos ⟨rfl, c⟩]
   rw [ht, hl, show (2 : Int).toNat = 2 from rfl]; omega
  ·have ht : tmB wh i i = 1 := by unfold tmB tmA; rw [if_neg (by omega), if_neg (by omega)]
   have := lnB_len wh i i (l := ls.getD i []) hw
   rw [ht, show (1 : Int).toNat = 1 from rfl]; omega
  have ht : tmB wh i i = 1 := by unfold tmB tmA; rw [if_neg (by omega), if_neg (by omega)]
  have : (lnB wh i i wd (ls.getD i [])).length ≤ (ls.getD i []).length := by
   have : lnA wh i i wd (ls.getD i []) = ls.getD i [] := by unfold lnA; rw [if_neg (by omega)]
   unfold lnB; rw [this]; split
   ·rw [List.length_take]; omega
   omega
  rw [ht, show (1 : Int).toNat = 1 from rfl]; omega
 obtain ⟨ht, hl⟩ := plain_at (wd := wd) (wh := wh) (z := z) (i := i) (.inl e) (ls.getD i [])
 rw [ht, hl, repU_one]
 refine ⟨fun h => ?_, fun h => ?_, ?_⟩
 ·rw [h1 (by omega), lines_take hi]
 ·obtain ⟨r, hr⟩ := h2 (by omega)
  exact ⟨r ++ (ls.getD i [] ++ [10]), by rw [hr, List.append_assoc]⟩
 rw [lines_take hi]; simp only [List.length_append]; omega
def SpO (ls : List (List UInt8)) (wh : Int) (z : Nat) (o : List UInt8) : Prop := (∃ r, o = linesG (ls.take (spK wh z)) ++ r) ∧ o.length ≤ 2 * (linesG ls).length + 44
theorem spO_all (h : SpI ls wh z i o) (hz : z < i) : SpO ls wh z o := ⟨h.2.1 hz, by have := h.2.2; have := linesG_mono ls i; omega⟩
theorem spO_four (h : SpI ls wh z i o) (hi : i < ls.length) (hw : wd.length ≤ 20) (hc : ((i : Int) = (z : Int)) ∧ 3 < (wh % 6)) (h5 : ¬ wh % 6 = 5) : SpO ls wh z (o ++ repU (lnB wh z i wd (ls.getD i []) ++ [10]) (tmB wh z i).toNat) := by
 have hlen := spI_len (wd := wd) h hi hw
 have hm := linesG_mono ls (i + 1)
 obtain ⟨e, h3⟩ := hc
 have e : i = z := by omega
 subst e
 refine ⟨⟨[], ?_⟩, by omega⟩
 obtain ⟨ht, hl⟩ := plain_at (wd := wd) (wh := wh) (z := i) (i := i) (.inr h3) (ls.getD i [])
 rw [ht, hl, repU_one, h.1 (Nat.le_refl _), List.append_nil, spK, if_pos (.inr (by omega)), lines_take hi]
theorem spO_five (h : SpI ls wh z i o) (hi : i < ls.length) (hw : wd.length ≤ 20) (hc : ((i : Int) = (z : Int)) ∧ 3 < (wh % 6)) (h5 : wh % 6 = 5) : SpO ls wh z ((o ++ repU (lnB wh z i wd (ls.getD i []) ++ [10]) (tmB wh z i).toNat).take ((o ++ repU (lnB wh z i wd (ls.getD i []) ++ [10]) (tmB wh z i).toNat).length - 1)) := by
 have hlen := spI_len (wd := wd) h hi hw
 have hm := linesG_mono ls (i + 1)
 obtain ⟨e, h3⟩ := hc
 have e : i = z := by omega
 subst e
 refine ⟨⟨ls.getD i [], ?_⟩, by rw [List.length_take]; omega⟩
 obtain ⟨ht, hl⟩ := plain_at (wd := wd) (wh := wh) (z := i) (i := i) (.inr h3) (ls.getD i [])
 rw [ht, hl, repU_one, h.1 (Nat.le_refl _), spK, if_neg (by omega), ← List.append_assoc, List.length_append, List.length_singleton, Nat.add_sub_cancel, List.take_left]
theorem spO_pos {l : List UInt8} (hc : ((i : Int) = (z : Int)) ∧ 3 < (wh % 6)) : 1 ≤ (o ++ repU (lnB wh z i wd l ++ [10]) (tmB wh z i).toNat).length := by
 rw [(plain_at (wd := wd) (.inr hc.2) l).1, repU_one]; simp only [List.length_append, List.length_singleton]; omega
end
theorem headLn_len (p : Pc) : 1 ≤ (headLn p).length := by unfold headLn; simp [wPiece]
theorem linesA_pos {nm : List UInt8} {ps : List Pc} : ∀ l ∈ linesA nm ps, 1 ≤ l.length := fun l hl => by
 unfold linesA at hl
 rcases List.mem_cons.1 hl with rfl | hl
 ·simp [wGarment]
 obtain ⟨p, _, hp⟩ := List.mem_flatMap.1 hl
 unfold linesP at hp
 rcases List.mem_cons.1 hp with rfl | hp
 ·exact headLn_len p
 rcases List.mem_append.1 hp with hp | hp
 ·split at hp
  ·cases hp
  rw [List.mem_singleton.1 hp]; simp [wLeft]
 rcases List.mem_append.1 hp with hp | hp
 ·rw [List.mem_singleton.1 hp]; simp [wTile]
 split at hp
 ·cases hp
 rw [List.mem_singleton.1 hp]; simp [wRight]
theorem pr_ok {s0 nm : List UInt8} {V : Value} {qs : List PQ} {n e : Int} (h : ParseR s0 nm V qs n e) (he : e = 0) : garE nm (pcs qs) = 0 ∧ n = 0 := by
 rcases h with ⟨h1, h2, h3, h4, h5⟩ | ⟨h1, h2, h3, h4, h5⟩ | ⟨⟨a, b, h1, h2, h3⟩, h4⟩
 ·exact ⟨h2, h3⟩
 ·omega
 exact absurd he h3
theorem pr_no {s0 nm : List UInt8} {V : Value} {qs : List PQ} {n e : Int} (h : ParseR s0 nm V qs n e) (he : ¬ e = 0) : nm = [] ∧ qs = [] := by
 rcases h with ⟨h1, h2, h3, h4, h5⟩ | ⟨h1, h2, h3, h4, h5⟩ | ⟨⟨a, b, h1, h2, h3⟩, h4⟩
 ·exact absurd h4 he
 ·exact h5
 exact h4.2
theorem pr_arg {s0 nm : List UInt8} {V : Value} {qs : List PQ} {n e : Int} (h : ParseR s0 nm V qs n e) (he : ¬ e = 0) (h4' : ¬ e = 4) : n = 0 := by
 rcases h with ⟨h1, h2, h3, h4, h5⟩ | ⟨h1, h2, h3, h4, h5⟩ | ⟨⟨a, b, h1, h2, h3⟩, h4⟩
 ·exact h3
 ·exact absurd h4 h4'
 exact h4.1
theorem pr_form {nm0 nm : List UInt8} {ps : List Pc} {V : Value} {qs : List PQ} {n e wh : Int} {z : Nat} {o : List UInt8} (hg : garE nm0 ps = 0) (ho : SpO (linesA nm0 ps) wh z o) (hz : z < (linesA nm0 ps).length) (h : ParseR o nm V qs n e) (h4' : e = 4) : (spK wh z : Int) + 1 ≤ n := by
 obtain ⟨⟨r, rfl⟩, -⟩ := ho
 rcases h with ⟨h1, h2, h3, h4, h5⟩ | ⟨h1, h2, h3, h4, h5⟩ | ⟨⟨a, b, h1, h2, h3⟩, h4⟩
 ·omega
 ·rw [h2]
  exact read_behind hg (spK wh z) (by unfold spK; split <;> omega) r h1
 exact absurd (by rw [← h2]; exact h4') (gar_ne4 a b)
end Go.G14
namespace Go.Proofs.YthehggmdcmpjeaaGreatDoor
open Go.Lw Go.G14
theorem fa66_0 : FieldAt Tryz.prog 66 0 0 := fun _ _ => by kernel_rfl
theorem fa66_1 : FieldAt Tryz.prog 66 1 1 := fun _ _ => by kernel_rfl
theorem fa66_2 : FieldAt Tryz.prog 66 2 2 := fun _ _ => by kernel_rfl
set_option maxHeartbeats 4000000 in
theorem law_parse (nb : Int) (v : Value) (ys : List QD) (wh ta : Int) (wd : List UInt8) (w0 : World) (hnb : 0 ≤ nb ∧ nb ≤ 255) (hwh : 0 ≤ wh ∧ wh ≤ 255) (hta : 0 ≤ ta ∧ ta ≤ 255) (hs : Sl encQd w0 v ys) (hqy : QsAt w0 ys) (hG : GlobZ w0) : Rets Tryz.prog 5 #[.agg #[.int .u8 nb, v], .agg #[.int .u8 wh, .int .u8 ta, S wd]] w0 fun r w' => r = .bool true ∧ Fr [] w0 w' := by
 obtain ⟨B, H, hB, hH, hqF⟩ := mean_at hqy
 obtain ⟨A, c, rfl, hcc, hM, hA⟩ := id hs
 clear hA
 unfold maxLen at hM
 have hGs := hG.sz
 refine we [(0, .agg #[.int .u8 nb, .slice A ys.length c]), (1, .agg #[.int .u8 wh, .int .u8 ta, S wd])] Tryz.func5 rfl Tryz.ntmps5 rfl (.c2 rfl rfl) ?_
 have hs0 := hs
 have hqF0 := hqF
 have hG0 := hG
 refine sr (bx rfl rfl rfl (fun g2 w1 hg2 hb2 q1 z1 => ?_))
 refine bx rfl rfl rfl (fun g3 w2 hg3 hb3 q2 z2 => ?_)
 refine asg rfl (nn (sq (sr (fad rfl fa66_2 (s_loadB rfl hb3 rfl na9 (ln rfl Tryz.underlying9 (gt' rfl rfl (nn ?_))))))))
 refine cd rfl (fun c0 => ?_) (fun c0 => ?_)
 ·refine sr (asg rfl (nn (rt (tr (r1 Tryz.results5 rfl ?_)))))
  exact ⟨_, rfl, rfl, (q1.n1 q2)⟩
 refine sk (tn (sq (sr (asg rfl (nn (bl ?_))))))
 refine lpK (ι := Nat) [(2, _), (3, _)] (fun i => [(5, .int .i64 (i : Int))]) (fun i w' => Fr [] w2 w' ∧ i ≤ wd.length) (fun i => wd.length - i) 0 (.c3 rfl rfl rfl) ⟨Fr.refl _ _, Nat.zero_le _⟩ ?_
 rintro i w3 ⟨q3, hi⟩
 have z3 := q3.size
 refine kpC [(2, _), (3, _), (5, _)] (.c3 rfl rfl rfl) ?_
 refine sq (sr (mv rfl (fad rfl fa66_2 ?_)))
 replace hb3 := hb3.ext q3
 refine s_loadB rfl hb3 rfl na9 (ln rfl Tryz.underlying9 (lt' rfl rfl (nn ?_)))
 refine cd rfl (fun c1 => ?_) (fun c1 => ?_)
 ·refine sk (tn (sq (bl (sr (fad rfl fa66_2 (s_loadB rfl hb3 rfl na9 (mv rfl (s_index rfl rfl Tryz.underlying9 nat_of rfl (fun hy37 => ?_)))))))))
  refine eq' rfl rfl (nn ?_)
  refine cd rfl (fun c2 => ?_) (fun c2 => ?_)
  ·refine sr (asg rfl (nn (rt (rb (tr (tr (rb (tr (r1 Tryz.results5 rfl ?_)))))))))
   exact ⟨_, rfl, rfl, (q1.n2 q2 q3)⟩
  refine sk (bn' (tn (rg (mv rfl (s_add rfl rfl (wi6 (by omega)) (asg rfl (nl ?_)))))))
  exact lpE (i + 1) (.c3 rfl rfl rfl) ⟨q3, by omega⟩ (by omega)
 obtain rfl : i = wd.length := by omega
 refine ex (te (te (xh (tn (sr ?_)))))
 replace hb2 := hb2.ext (q2.n1 q3)
 refine s_loadBA rfl hb2 ag24 ?_
 replace hs := hs0.ext (q1.n2 q2 q3)
 replace hqF := hqF0.ext (q1.n2 q2 q3)
 refine cl (ev1 rfl) co7 (gof_ok B H hB hH nb _ ys _ hnb hs hqF) rfl ?_
 rintro _ w4 ⟨V, qs, rfl, hoG, hpo, he1, q4⟩
 have z4 := q4.size
 have hoG0 := hoG
 have hpo0 := hpo
 obtain ⟨AG, cG, rfl, _⟩ := hoG.sl.form
 have hg0 := gar_valid nb hpo he1
 obtain ⟨nm, hnm⟩ : ∃ n, n = nmF nb := ⟨_, rfl⟩
 rw [← hnm] at hg0 ⊢
 have htl := text_le hg0
 obtain ⟨ls, hls⟩ : ∃ l, l = linesA nm (pcs qs) := ⟨_, rfl⟩
 have hlt_ : textG nm (pcs qs) = linesG ls := by rw [hls]; exact (textG_ln (tiles_of hg0)).symm
 have hl10 : ∀ l ∈ ls, (10 : UInt8) ∉ l := by rw [hls]; exact lines_no hg0
 have hl1 : 1 ≤ ls.length := by rw [hls]; unfold linesA; simp
 refine cl (ev1 rfl) co14 (reftextg_ok nm _ qs _ hoG.sl hpo.q hg0) rfl ?_
 rintro _ w5 ⟨rfl, q5⟩
 have z5 := q5.size
 obtain ⟨tx, htx⟩ : ∃ t, t = textG nm (pcs qs) := ⟨_, rfl⟩
 rw [← htx]
 rw [← htx] at htl hlt_
 refine asg rfl (kpL [(3, _), (6, _)] (.c2 rfl rfl) (nn (sr (asg rfl (nn (sr (asg rfl (nn (sq (sr (asg rfl ?_)))))))))))
 refine nn (bl ?_)
 replace hb3 := hb3.ext (q4.n1 q5)
 skip
 have hb30 := hb3
 skip
 refine lpK (ι := Nat × List (List UInt8) × Value) [(3, _), (6, _)] (fun p => [(9, .int .i64 (p.1 : Int)), (7, p.2.2), (8, .int .i64 ((linesG p.2.1).length : Int))]) (fun p w' => Fr [] w5 w' ∧ p.1 ≤ tx.length ∧ LnI tx p.1 p.2.1 ∧ Lw.Own Enc.str 9 w5.heap.size w' p.2.2 p.2.1) (fun p => tx.length - p.1) (0, [], .slice none 0 0) (.c5 rfl rfl rfl rfl rfl) ⟨(Fr.refl _ _), ⟨Nat.zero_le _, lnI_zero _, Own.nil _⟩⟩ ?_
 rintro ⟨i, dl, vO⟩ w6 ⟨q6, ⟨hi, hln, hoV⟩⟩
 simp only at hi hln hoV
 have hdl := lnI_le hln
 have hdk := lines_len dl
 have z6 := q6.size
 refine kpC [(3, _), (6, _), (9, .int .i64 (i : Int)), (7, vO), (8, .int .i64 ((linesG dl).length : Int))] (.c5 rfl rfl rfl rfl rfl) ?_
 refine sq (sr (mv rfl (mv rfl (ln rfl Tryz.underlying9 (lt' rfl rfl (nn ?_))))))
 refine cd rfl (fun c3 => ?_) (fun c3 => ?_)
 ·refine sk (tn (sq (bl (sr (mv rfl (mv rfl (s_index rfl rfl Tryz.underlying9 nat_of rfl (fun hy50 => ?_))))))))
  refine eq' rfl rfl (nn ?_)
  refine cd rfl (fun c4 => ?_) (fun c4 => ?_)
  ·refine sr (mv rfl (mv rfl (mv rfl (mv rfl (s_ss_lh (p := (linesG dl).length) rfl rfl rfl Tryz.underlying9 (by omega) nat_of (s_bslice ([(tx.take i).drop (linesG dl).length]) (ev1 rfl) rfl rfl rfl el67 (Nat.le_of_ble_eq_true rfl) (fun g57 w7 hg57 ho57 q7 z7 => ?_)) (h2 := (by omega)))))))
   replace hoV := hoV.ext q7
   have hoo58 := hoV
   refine s_append rfl rfl hoV ho57.sl el67 (fun v58 w8 hoV q8 hor58 => ?_)
   have z8 := q8.size
   refine asg rfl (kpL [(3, _), (6, _), (7, _), (9, _)] (.c4 rfl rfl rfl rfl) (nn (rg (mv rfl (s_add rfl rfl (wi6 (by omega)) (asg rfl (nl (bn' (tn (rg (mv rfl ?_)))))))))))
   refine s_add rfl rfl (wi6 (by omega)) (asg rfl (nl ?_))
   exact lpE ((i + 1, dl ++ [(tx.take i).drop (linesG dl).length], v58)) (.c5 rfl rfl rfl rfl (congrArg (fun q => some (Value.int .i64 q)) (by first | rfl | exact congrArg Int.ofNat (lnI_yes hln (by omega) c4).2.symm | (have := (lnI_yes hln (by omega) c4).2; omega)))) ⟨((q6.n1 q7).step q8 (fun k hk hlt => absurd (hoo58.blk k hk).1 (by omega))), ⟨by simp only; omega, (lnI_yes hln (by omega) c4).1, hoV⟩⟩ (by simp only; omega)
  refine sk (bn' (tn (rg (mv rfl (s_add rfl rfl (wi6 (by omega)) (asg rfl (nl ?_)))))))
  exact lpE ((i + 1, dl, vO)) (.c5 rfl rfl rfl rfl (congrArg (fun q => some (Value.int .i64 q)) (by first | rfl | exact congrArg Int.ofNat (lnI_yes hln (by omega) c4).2.symm | (have := (lnI_yes hln (by omega) c4).2; omega)))) ⟨q6, ⟨by simp only; omega, lnI_no hln (by omega) c4, hoV⟩⟩ (by simp only; omega)
 obtain rfl : i = tx.length := by omega
 obtain rfl : ls = dl := lnI_all hln hlt_ hl10
 obtain ⟨AV, cV, rfl, _⟩ := hoV.sl.form
 refine ex (te (te (xh (tn (sr (fad rfl fa66_1 ?_))))))
 replace hb3 := hb30.ext q6
 refine s_loadB rfl hb3 rfl na5 (s_conv rfl (us Tryz.underlying5) Tryz.underlying3 (wi6 (by omega)) (mv rfl (lnS rfl Tryz.underlying67 (s_rem rfl rfl (by first | exact IntWalk.rem_in _ _ (by omega) | rfl) (asg rfl ?_)))))
 obtain ⟨z, hz⟩ : ∃ z : Nat, ta % (ls.length : Int) = (z : Int) := ⟨(ta % (ls.length : Int)).toNat, by have := Int.emod_nonneg ta (show (ls.length : Int) ≠ 0 by omega); omega⟩
 have hzl : z < ls.length := by have := Int.emod_lt_of_pos ta (show (0 : Int) < ls.length by omega); omega
 rw [hz]
 refine kpL [(3, _), (7, _), (10, _)] (.c3 rfl rfl rfl) (nn (sr (asg rfl (nn ?_))))
 refine jn (ι := List UInt8) [(3, _), (10, _)] (fun o => [(11, S o)]) (fun o w' => Fr [] w6 w' ∧ SpO ls wh z o) (.c2 rfl rfl) ?_ ?_
 ·refine sr (asg rfl (nn (bl ?_)))
  skip
  have hoV0 := hoV
  skip
  refine lpK (ι := Nat × List UInt8) [(3, _), (7, _), (10, _)] (fun p => [(12, .int .i64 (p.1 : Int)), (11, S p.2)]) (fun p w' => Fr [] w6 w' ∧ p.1 ≤ ls.length ∧ SpI ls wh z p.1 p.2) (fun p => ls.length - p.1) (0, []) (.c5 rfl rfl rfl rfl rfl) ⟨Fr.refl _ _, ⟨Nat.zero_le _, spI_zero _ _ _⟩⟩ ?_
  rintro ⟨i, o⟩ w9 ⟨q9, ⟨hi, hsp⟩⟩
  simp only at hi hsp
  have hol := hsp.2.2
  have hml := linesG_mono ls i
  have z9 := q9.size
  refine kpC [(3, _), (7, _), (10, _), (12, .int .i64 (i : Int)), (11, S o)] (.c5 rfl rfl rfl rfl rfl) ?_
  refine sq (sr (mv rfl (mv rfl (lnS rfl Tryz.underlying67 (lt' rfl rfl (nn ?_))))))
  refine cd rfl (fun c5 => ?_) (fun c5 => ?_)
  ·refine sk (tn (sq (bl (sr (mv rfl (mv rfl ?_))))))
   replace hoV := hoV0.ext q9
   refine s_idxL ([]) rfl hoV.sl rfl el67 nat_of (fun ad75 hc75 => ?_)
   refine s_loadC0 rfl (hc75 _ hoV.sl) na9 (asg rfl ?_)
   have hli : (ls.getD i []).length + 1 ≤ (linesG ls).length := by
    have h1 := linesG_mono ls (i + 1)
    rw [lines_take (by omega)] at h1; simp only [List.length_append, List.length_singleton] at h1; omega
   have hlp : 1 ≤ (ls.getD i []).length := by rw [hls]; exact linesA_pos _ (getD_memS (by rw [← hls]; omega))
   have hla := lnA_len wh z i (l := ls.getD i []) (show wd.length ≤ 20 by omega)
   have hlb := lnB_len wh z i (l := ls.getD i []) (show wd.length ≤ 20 by omega)
   refine nn (sr (asg rfl (nn ?_)))
   refine jn (ι := Unit) [(3, _), (7, _), (10, _), (11, _), (12, _), (13, _)] (fun _j => [(14, .int .i64 (tmA wh z i))]) (fun _j w' => Fr [] w9 w') (.c6 rfl rfl rfl rfl rfl rfl) ?_ ?_
   ·refine sq ?_
    refine rbo (r := 85) (L' := [(3, _), (7, _), (10, _), (11, _), (12, _), (13, _), (14, _)]) ((((i : Int) = (z : Int)) ∧ ((wh % 6) = 0))) (.c7 rfl rfl rfl rfl rfl rfl rfl) ?_ ?_
    ·refine mv rfl (mv rfl (eq' rfl rfl (mv rfl ?_)))
     refine gs 80 rfl (fun g0 => ?_) (fun g0 => ?_)
     ·refine gY rfl (fad rfl fa66_0 (gY rfl ?_))
      replace hb3 := hb30.ext (q6.n1 q9)
      exact s_loadB rfl hb3 rfl na5 (gY rfl (s_rem rfl rfl (by first | exact IntWalk.rem_in _ _ (by omega) | rfl) (gY rfl (eq' rfl rfl (pkt rfl rfl (rbe rfl (.c7 rfl rfl rfl rfl rfl rfl rfl)))))))
     exact gN rfl rfl rfl (gN rfl rfl rfl (gN rfl rfl rfl (gN rfl rfl rfl (pkf rfl rfl (rbe rfl (.c7 rfl rfl rfl rfl rfl rfl rfl))))))
    refine tn ?_
    refine cd rfl (fun c6 => ?_) (fun c6 => ?_)
    ·refine rg (asg rfl (nl ?_))
     exact jE (()) (.c7 rfl rfl rfl rfl rfl rfl (congrArg (fun q => some (Value.int .i64 q)) (by unfold tmA; first | exact (if_pos c6).symm | exact (if_neg c6).symm))) (Fr.refl _ _)
    refine sk ?_
    exact jE (()) (.c7 rfl rfl rfl rfl rfl rfl (congrArg (fun q => some (Value.int .i64 q)) (by unfold tmA; first | exact (if_pos c6).symm | exact (if_neg c6).symm))) (Fr.refl _ _)
   rintro _j w10 q10
   have z10 := q10.size
   refine kpC [(3, _), (7, _), (10, _), (11, _), (12, _), (13, _), (14, _)] (.c7 rfl rfl rfl rfl rfl rfl rfl) ?_
   refine jn (ι := Unit) [(3, _), (7, _), (10, _), (11, _), (12, _), (13, _)] (fun _j => [(14, .int .i64 (tmB wh z i))]) (fun _j w' => Fr [] w10 w') (.c6 rfl rfl rfl rfl rfl rfl) ?_ ?_
   ·refine sq ?_
    refine rbo (r := 94) (L' := [(3, _), (7, _), (10, _), (11, _), (12, _), (13, _), (14, _)]) ((((i : Int) = (z : Int)) ∧ ((wh % 6) = 1))) (.c7 rfl rfl rfl rfl rfl rfl rfl) ?_ ?_
    ·refine mv rfl (mv rfl (eq' rfl rfl (mv rfl ?_)))
     refine gs 89 rfl (fun g1 => ?_) (fun g1 => ?_)
     ·refine gY rfl (fad rfl fa66_0 (gY rfl ?_))
      replace hb3 := hb30.ext (q6.n2 q9 q10)
      exact s_loadB rfl hb3 rfl na5 (gY rfl (s_rem rfl rfl (by first | exact IntWalk.rem_in _ _ (by omega) | rfl) (gY rfl (eq' rfl rfl (pkt rfl rfl (rbe rfl (.c7 rfl rfl rfl rfl rfl rfl rfl)))))))
     exact gN rfl rfl rfl (gN rfl rfl rfl (gN rfl rfl rfl (gN rfl rfl rfl (pkf rfl rfl (rbe rfl (.c7 rfl rfl rfl rfl rfl rfl rfl))))))
    refine tn ?_
    refine cd rfl (fun c7 => ?_) (fun c7 => ?_)
    ·refine rg (asg rfl (nl ?_))
     exact jE (()) (.c7 rfl rfl rfl rfl rfl rfl (congrArg (fun q => some (Value.int .i64 q)) (by unfold tmB; first | exact (if_pos c7).symm | exact (if_neg c7).symm))) (Fr.refl _ _)
    refine sk ?_
    exact jE (()) (.c7 rfl rfl rfl rfl rfl rfl (congrArg (fun q => some (Value.int .i64 q)) (by unfold tmB; first | exact (if_pos c7).symm | exact (if_neg c7).symm))) (Fr.refl _ _)
   rintro _j w11 q11
   have z11 := q11.size
   refine kpC [(3, _), (7, _), (10, _), (11, _), (12, _), (13, _), (14, _)] (.c7 rfl rfl rfl rfl rfl rfl rfl) ?_
   refine jn (ι := Unit) [(3, _), (7, _), (10, _), (11, _), (12, _), (14, _)] (fun _j => [(13, S (lnA wh z i wd (ls.getD i [])))]) (fun _j w' => Fr [] w11 w') (.c6 rfl rfl rfl rfl rfl rfl) ?_ ?_
   ·refine sq ?_
    refine rbo (r := 103) (L' := [(3, _), (7, _), (10, _), (11, _), (12, _), (13, _), (14, _)]) ((((i : Int) = (z : Int)) ∧ ((wh % 6) = 2))) (.c7 rfl rfl rfl rfl rfl rfl rfl) ?_ ?_
    ·refine mv rfl (mv rfl (eq' rfl rfl (mv rfl ?_)))
     refine gs 98 rfl (fun g2 => ?_) (fun g2 => ?_)
     ·refine gY rfl (fad rfl fa66_0 (gY rfl ?_))
      replace hb3 := hb30.ext (q6.n3 q9 q10 q11)
      exact s_loadB rfl hb3 rfl na5 (gY rfl (s_rem rfl rfl (by first | exact IntWalk.rem_in _ _ (by omega) | rfl) (gY rfl (eq' rfl rfl (pkt rfl rfl (rbe rfl (.c7 rfl rfl rfl rfl rfl rfl rfl)))))))
     exact gN rfl rfl rfl (gN rfl rfl rfl (gN rfl rfl rfl (gN rfl rfl rfl (pkf rfl rfl (rbe rfl (.c7 rfl rfl rfl rfl rfl rfl rfl))))))
    refine tn ?_
    refine cd rfl (fun c8 => ?_) (fun c8 => ?_)
    ·refine rg (mv rfl (fad rfl fa66_2 ?_))
     replace hb3 := hb30.ext (q6.n3 q9 q10 q11)
     refine s_loadB rfl hb3 rfl na9 (s_adds rfl rfl (s_adds rfl rfl (asg rfl (kpL [(3, _), (7, _), (10, _), (11, _), (12, _), (13, _), (14, _)] (.c7 rfl rfl rfl rfl rfl rfl rfl) (nl ?_)))))
     exact jE (()) (.c7 rfl rfl rfl rfl rfl rfl (congrArg (fun q => some (S q)) (by unfold lnA; first | exact (if_pos c8).symm | exact (if_neg c8).symm))) (Fr.refl _ _)
    refine sk ?_
    exact jE (()) (.c7 rfl rfl rfl rfl rfl rfl (congrArg (fun q => some (S q)) (by unfold lnA; first | exact (if_pos c8).symm | exact (if_neg c8).symm))) (Fr.refl _ _)
   rintro _j w12 q12
   have z12 := q12.size
   refine kpC [(3, _), (7, _), (10, _), (11, _), (12, _), (14, _), (13, _)] (.c7 rfl rfl rfl rfl rfl rfl rfl) ?_
   refine jn (ι := Unit) [(3, _), (7, _), (10, _), (11, _), (12, _), (14, _)] (fun _j => [(13, S (lnB wh z i wd (ls.getD i [])))]) (fun _j w' => Fr [] w12 w') (.c6 rfl rfl rfl rfl rfl rfl) ?_ ?_
   ·refine sq ?_
    refine rbo (r := 117) (L' := [(3, _), (7, _), (10, _), (11, _), (12, _), (13, _), (14, _)]) ((((i : Int) = (z : Int)) ∧ ((wh % 6) = 3))) (.c7 rfl rfl rfl rfl rfl rfl rfl) ?_ ?_
    ·refine mv rfl (mv rfl (eq' rfl rfl (mv rfl ?_)))
     refine gs 112 rfl (fun g3 => ?_) (fun g3 => ?_)
     ·refine gY rfl (fad rfl fa66_0 (gY rfl ?_))
      replace hb3 := hb30.ext (q6.n4 q9 q10 q11 q12)
      exact s_loadB rfl hb3 rfl na5 (gY rfl (s_rem rfl rfl (by first | exact IntWalk.rem_in _ _ (by omega) | rfl) (gY rfl (eq' rfl rfl (pkt rfl rfl (rbe rfl (.c7 rfl rfl rfl rfl rfl rfl rfl)))))))
     exact gN rfl rfl rfl (gN rfl rfl rfl (gN rfl rfl rfl (gN rfl rfl rfl (pkf rfl rfl (rbe rfl (.c7 rfl rfl rfl rfl rfl rfl rfl))))))
    refine tn ?_
    refine cd rfl (fun c9 => ?_) (fun c9 => ?_)
    ·refine rg (mv rfl (mv rfl (ln rfl Tryz.underlying9 (s_sub rfl rfl (wi6 (by omega)) (s_ss_h (p := ((lnA wh z i wd (ls.getD i [])).length - 1)) rfl rfl Tryz.underlying9 (by omega) rfl (asg rfl (kpL [(3, _), (7, _), (10, _), (11, _), (12, _), (13, _), (14, _)] (.c7 rfl rfl rfl rfl rfl rfl rfl) (nl ?_))))))))
     exact jE (()) (.c7 rfl rfl rfl rfl rfl rfl (congrArg (fun q => some (S q)) (by unfold lnB; first | exact (if_pos c9).symm | exact (if_neg c9).symm))) (Fr.refl _ _)
    refine sk ?_
    exact jE (()) (.c7 rfl rfl rfl rfl rfl rfl (congrArg (fun q => some (S q)) (by unfold lnB; first | exact (if_pos c9).symm | exact (if_neg c9).symm))) (Fr.refl _ _)
   rintro _j w13 q13
   have z13 := q13.size
   refine kpC [(3, _), (7, _), (10, _), (11, _), (12, _), (14, _), (13, _)] (.c7 rfl rfl rfl rfl rfl rfl rfl) ?_
   refine sq (sr (asg rfl (nn (bl ?_))))
   refine lpK (ι := Nat) [(3, _), (7, _), (10, _), (12, _), (13, _), (14, _)] (fun k => [(15, .int .i64 (k : Int)), (11, S (o ++ repU ((lnB wh z i wd (ls.getD i [])) ++ [10]) k))]) (fun k w' => Fr [] w13 w' ∧ (k : Int) ≤ (tmB wh z i)) (fun k => (tmB wh z i).toNat - k) 0 (.c8 rfl rfl rfl rfl rfl rfl rfl (congrArg (fun q => some (S q)) (by simp [repU]))) ⟨Fr.refl _ _, (tmB_rng _ _ _).1⟩ ?_
   rintro k w14 ⟨q14, hk⟩
   have htr := tmB_rng wh z i
   have hrl := repU_len ((lnB wh z i wd (ls.getD i [])) ++ [10]) k
   have hlb := lnB_len wh z i (l := ls.getD i []) (show wd.length ≤ 20 by omega)
   have hk2 : k * ((lnB wh z i wd (ls.getD i [])) ++ [10]).length ≤ 2 * ((lnB wh z i wd (ls.getD i [])) ++ [10]).length := Nat.mul_le_mul_right _ (by omega)
   simp only [List.length_append, List.length_singleton] at hk2 hrl
   have z14 := q14.size
   refine kpC [(3, _), (7, _), (10, _), (12, _), (13, _), (14, _), (15, _), (11, _)] (.c8 rfl rfl rfl rfl rfl rfl rfl rfl) ?_
   refine sq (sr (mv rfl (mv rfl (lt' rfl rfl (nn ?_)))))
   refine cd rfl (fun c10 => ?_) (fun c10 => ?_)
   ·refine sk (tn (sq (bl (rg (mv rfl (mv rfl (s_adds rfl rfl (s_adds rfl rfl (asg rfl (nl (bn' ?_)))))))))))
    refine tn (rg (mv rfl (s_add rfl rfl (wi6 (by omega)) (asg rfl (nl ?_)))))
    exact lpE (k + 1) (.c8 rfl rfl rfl rfl rfl rfl rfl (congrArg (fun q => some (S q)) (repU_step _ _ _))) ⟨q14, by omega⟩ (by omega)
   obtain rfl : k = (tmB wh z i).toNat := by omega
   have hlen := spI_len (wd := wd) hsp (by omega) (by omega)
   have hml2 := linesG_mono ls (i + 1)
   refine ex (te (te (xh (tn (sq ?_)))))
   refine rbo (r := 140) (L' := [(3, _), (7, _), (10, _), (11, _), (12, _)]) ((((i : Int) = (z : Int)) ∧ (3 < (wh % 6)))) (.c5 rfl rfl rfl rfl rfl) ?_ ?_
   ·refine mv rfl (mv rfl (eq' rfl rfl (mv rfl ?_)))
    refine gs 135 rfl (fun g4 => ?_) (fun g4 => ?_)
    ·refine gY rfl (fad rfl fa66_0 (gY rfl ?_))
     replace hb3 := hb30.ext (q6.n6 q9 q10 q11 q12 q13 q14)
     exact s_loadB rfl hb3 rfl na5 (gY rfl (s_rem rfl rfl (by first | exact IntWalk.rem_in _ _ (by omega) | rfl) (gY rfl (gt' rfl rfl (pkt rfl rfl (rbe rfl (.c5 rfl rfl rfl rfl rfl)))))))
    exact gN rfl rfl rfl (gN rfl rfl rfl (gN rfl rfl rfl (gN rfl rfl rfl (pkf rfl rfl (rbe rfl (.c5 rfl rfl rfl rfl rfl))))))
   refine tn ?_
   refine cd rfl (fun c11 => ?_) (fun c11 => ?_)
   ·refine sq (sr (fad rfl fa66_0 ?_))
    replace hb3 := hb30.ext (q6.n6 q9 q10 q11 q12 q13 q14)
    refine s_loadB rfl hb3 rfl na5 (s_rem rfl rfl (by first | exact IntWalk.rem_in _ _ (by omega) | rfl) (eq' rfl rfl (kpL [(3, _), (10, _), (11, _), (144, _)] (.c4 rfl rfl rfl rfl) (nn ?_))))
    refine cd rfl (fun c12 => ?_) (fun c12 => ?_)
    ·have hop := spO_pos (wd := wd) (o := o) (l := ls.getD i []) c11
     refine rg (mv rfl (mv rfl (ln rfl Tryz.underlying9 (s_sub rfl rfl (wi6 (by omega)) (s_ss_h (p := ((o ++ repU ((lnB wh z i wd (ls.getD i [])) ++ [10]) (tmB wh z i).toNat).length - 1)) rfl rfl Tryz.underlying9 (by omega) rfl (asg rfl (kpL [(3, _), (10, _), (11, _)] (.c3 rfl rfl rfl) (nl (tn (ex (xo rfl ?_)))))))))))
     refine te (te (xh ?_))
     exact jE ((o ++ repU ((lnB wh z i wd (ls.getD i [])) ++ [10]) (tmB wh z i).toNat).take ((o ++ repU ((lnB wh z i wd (ls.getD i [])) ++ [10]) (tmB wh z i).toNat).length - 1)) (.c3 rfl rfl rfl) ⟨(q9.n5 q10 q11 q12 q13 q14), spO_five hsp (by omega) (by omega) c11 c12⟩
    refine sk (tn (ex (xo rfl (te (te (xh ?_))))))
    exact jE ((o ++ repU ((lnB wh z i wd (ls.getD i [])) ++ [10]) (tmB wh z i).toNat)) (.c3 rfl rfl rfl) ⟨(q9.n5 q10 q11 q12 q13 q14), spO_four hsp (by omega) (by omega) c11 c12⟩
   refine sk (bn' (tn (rg (mv rfl (s_add rfl rfl (wi6 (by omega)) (asg rfl (nl ?_)))))))
   exact lpE ((i + 1, (o ++ repU ((lnB wh z i wd (ls.getD i [])) ++ [10]) (tmB wh z i).toNat))) (.c5 rfl rfl rfl rfl rfl) ⟨(q9.n5 q10 q11 q12 q13 q14), ⟨by simp only; omega, spI_step hsp (by omega) (by omega) hwh.1 c11⟩⟩ (by simp only; omega)
  refine ex (te (te (xh ?_)))
  exact jE (o) (.c3 rfl rfl rfl) ⟨q9, spO_all hsp (by omega)⟩
 rintro o w15 ⟨q15, hso⟩
 have z15 := q15.size
 refine kpC [(3, _), (10, _), (11, _)] (.c3 rfl rfl rfl) ?_
 refine sr (mv rfl ?_)
 replace hG := hG0.ext (q1.n6 q2 q3 q4 q5 q6 q15)
 refine cl (ev1 rfl) co15 (gparse_ok o _ hG (by have := hso.2; rw [← hlt_] at this; omega)) rfl ?_
 rintro _ w16 ⟨nm2, V2, qb, n2, e2, rfl, hoB, hpb, hpr, q16⟩
 have z16 := q16.size
 have hoB0 := hoB
 have hpb0 := hpb
 obtain ⟨AB, cB, rfl, _⟩ := hoB.sl.form
 refine mv rfl (xt rfl rfl (xt rfl rfl (xt rfl rfl (al zv27 rfl rfl (fun g16 w17 hg16 hb16 q17 z17 => ?_)))))
 refine s_storeBA (vs := [_, _]) rfl rfl hb16 (by rfl) sz27 (fun w18 hb16 q18 z18 => ?_)
 refine asg rfl (asg rfl (kpL [(3, _), (10, _), (16, _), (17, _), (18, _)] (.c5 rfl rfl rfl rfl rfl) (nn (sq (sr (mv rfl (eq' rfl rfl (nn ?_))))))))
 refine cd rfl (fun c13 => ?_) (fun c13 => ?_)
 ·obtain ⟨hgb, hn2⟩ := pr_ok hpr c13
  refine sr (s_loadBA rfl hb16 ag27 ?_)
  replace hoB := hoB0.ext (q17.z1 q18)
  replace hpb := hpb0.ext (q17.z1 q18)
  replace hG := hG0.ext ((((q1.n6 q2 q3 q4 q5 q6 q15).n1 q16).n1 q17).z1 q18)
  refine cl (ev1 rfl) co16 (gtext_ok nm2 _ qb _ hoB.sl hpb.q hG.sy) rfl ?_
  rintro _ w19 ⟨rfl, q19⟩
  have z19 := q19.size
  rw [show garText nm2 (pcs qb) = textG nm2 (pcs qb) from if_pos hgb]
  have htl2 := text_le hgb
  replace hG := hG0.ext ((((q1.n6 q2 q3 q4 q5 q6 q15).n1 q16).n1 q17).z2 q18 q19)
  refine cl (ev1 rfl) co15 (gparse_ok (textG nm2 (pcs qb)) _ hG (by omega)) rfl ?_
  rintro _ w20 ⟨nm3, V3, qc, n3, e3, rfl, hoC, hpc, hpr2, q20⟩
  have z20 := q20.size
  have hoC0 := hoC
  have hpc0 := hpc
  obtain ⟨hn3, hec, hz3, he3, -⟩ := gparse_text hgb hpr2
  obtain ⟨AC, cC, rfl, _⟩ := hoC.sl.form
  rw [hn3]
  refine mv rfl (xt rfl rfl (xt rfl rfl (xt rfl rfl (al zv27 rfl rfl (fun g19 w21 hg19 hb19 q21 z21 => ?_)))))
  refine s_storeBA (vs := [_, _]) rfl rfl hb19 (by rfl) sz27 (fun w22 hb19 q22 z22 => ?_)
  refine asg rfl (asg rfl (kpL [(16, _), (17, _), (19, _), (20, _), (21, _)] (.c5 rfl rfl rfl rfl rfl) (nn (sr (mv rfl (eq' rfl rfl (mv rfl ?_)))))))
  refine gs 167 rfl (fun g5 => ?_) (fun hh => absurd (by exact hn2) hh)
  refine gY rfl ?_
  replace hb16 := (hb16.ext (q19.n2 q20 q21)).fr q22 (by simp[blks]<;>omega)
  refine s_loadBA rfl hb16 ag27 (gY rfl ?_)
  replace hoB := hoB0.ext (q17.z5 q18 q19 q20 q21 q22)
  replace hpb := hpb0.ext (q17.z5 q18 q19 q20 q21 q22)
  refine cl (ev1 rfl) co18 (refgar_ok nm2 _ qb _ hoB.sl hpb.q) rfl ?_
  rintro _ w23 ⟨rfl, q23⟩
  have z23 := q23.size
  refine gY rfl (eq' rfl rfl (pkt rfl rfl (mv rfl ?_)))
  refine gs 172 rfl (fun g6 => ?_) (fun hh => absurd (by exact hgb) hh)
  refine gY rfl (mv rfl (gY rfl (eq' rfl rfl (pkt rfl rfl (mv rfl ?_)))))
  refine gs 176 rfl (fun g7 => ?_) (fun hh => absurd (by exact he3) hh)
  refine gY rfl (mv rfl (gY rfl (eq' rfl rfl (pkt rfl rfl (mv rfl ?_)))))
  refine gs 180 rfl (fun g8 => ?_) (fun hh => absurd (by exact hz3) hh)
  refine gY rfl ?_
  replace hb19 := hb19.ext q23
  refine s_loadBA rfl hb19 ag27 (gY rfl ?_)
  replace hb16 := hb16.ext q23
  refine s_loadBA rfl hb16 ag27 (gY rfl ?_)
  replace hoC := hoC0.ext (q21.z2 q22 q23)
  replace hoB := hoB0.ext (q17.z6 q18 q19 q20 q21 q22 q23)
  replace hpc := hpc0.ext (q21.z2 q22 q23)
  replace hpb := hpb0.ext (q17.z6 q18 q19 q20 q21 q22 q23)
  refine cl (ev2 rfl rfl) co17 (gdiff_ok nm2 _ _ qc qb _ hoC.sl hoB.sl hpc.q hpb.q hec) rfl ?_
  rintro _ w24 ⟨rfl, q24⟩
  have z24 := q24.size
  refine gY rfl (eq' rfl rfl (pkt rfl rfl (mv rfl ?_)))
  refine gs 186 rfl (fun g9 => ?_) (fun hh => absurd (by rfl) hh)
  refine gY rfl ?_
  replace hG := hG0.ext (((((q1.n6 q2 q3 q4 q5 q6 q15).n1 q16).n1 q17).z6 q18 q19 q20 q21 q22 q23).next q24)
  refine cl evs_nil co13 (lives22_ok _ hG.sy) rfl ?_
  rintro _ w25 ⟨rfl, q25⟩
  have z25 := q25.size
  refine pkt rfl rfl (asg rfl (kpL [(4, _)] (.cons rfl .nil) (nn (rt (tr (r1 Tryz.results5 rfl ?_))))))
  exact ⟨_, rfl, rfl, ((((((q1.n6 q2 q3 q4 q5 q6 q15).n1 q16).n1 q17).z6 q18 q19 q20 q21 q22 q23).next q24).next q25)⟩
 obtain ⟨hnmB, hqb⟩ := pr_no hpr c13
 refine sk (tn (sq (sr (fad rfl fa27_1 (s_loadB rfl hb16 rfl na25 (lnS rfl Tryz.underlying25 (ne' rfl rfl (mv rfl ?_))))))))
 refine gs 193 rfl (fun hh => absurd hh (by exact fun e => e (by rw [hqb]; rfl))) (fun g10 => ?_)
 refine gY rfl (fad rfl fa27_0 (gY rfl (s_loadB rfl hb16 rfl na9 (gY rfl (s_nes rfl rfl (pkf rfl rfl (kpL [(3, _), (10, _), (17, _), (18, _), (197, _)] (.c5 rfl rfl rfl rfl rfl) (nn ?_))))))))
 refine cd rfl (fun c14 => ?_) (fun c14 => ?_)
 ·exact absurd c14 (fun e => e hnmB)
 refine sk (tn (sq (sr (mv rfl (ne' rfl rfl (nn ?_))))))
 refine cd rfl (fun c15 => ?_) (fun c15 => ?_)
 ·have hn2 := pr_arg hpr c13 c15
  refine sr (mv rfl (eq' rfl rfl (mv rfl ?_)))
  refine gs 202 rfl (fun g11 => ?_) (fun hh => absurd (by exact hn2) hh)
  refine gY rfl ?_
  replace hG := hG0.ext ((((q1.n6 q2 q3 q4 q5 q6 q15).n1 q16).n1 q17).z1 q18)
  refine cl evs_nil co13 (lives22_ok _ hG.sy) rfl ?_
  rintro _ w26 ⟨rfl, q26⟩
  have z26 := q26.size
  refine pkt rfl rfl (asg rfl (kpL [(4, _)] (.cons rfl .nil) (nn (rt (tr (r1 Tryz.results5 rfl ?_))))))
  exact ⟨_, rfl, rfl, ((((q1.n6 q2 q3 q4 q5 q6 q15).n1 q16).n1 q17).z2 q18 q26)⟩
 have hfin := pr_form (wh := wh) hg0 (by rw [← hls]; exact hso) (by rw [← hls]; exact hzl) hpr (by omega)
 refine sk (tn (sr (mv rfl (s_add rfl rfl (wi6 (by omega)) (asg rfl (nn (sq (sq ?_))))))))
 refine rbo (r := 216) (L' := [(10, _), (17, _), (22, _)]) ((((wh % 6) = 1) ∨ ((wh % 6) = 4))) (.c3 rfl rfl rfl) ?_ ?_
 ·refine fad rfl fa66_0 ?_
  replace hb3 := hb30.ext (q6.z4 q15 q16 q17 q18)
  refine s_loadB rfl hb3 rfl na5 (s_rem rfl rfl (by first | exact IntWalk.rem_in _ _ (by omega) | rfl) (eq' rfl rfl (mv rfl ?_)))
  refine gs 211 rfl (fun g12 => ?_) (fun g12 => ?_)
  ·exact gN rfl rfl rfl (gN rfl rfl rfl (gN rfl rfl rfl (gN rfl rfl rfl (pkt rfl rfl (rbe rfl (.c3 rfl rfl rfl))))))
  exact gY rfl (fad rfl fa66_0 (gY rfl (s_loadB rfl hb3 rfl na5 (gY rfl (s_rem rfl rfl (by first | exact IntWalk.rem_in _ _ (by omega) | rfl) (gY rfl (eq' rfl rfl (pkf rfl rfl (rbe rfl (.c3 rfl rfl rfl))))))))))
 refine tn ?_
 refine cd rfl (fun c16 => ?_) (fun c16 => ?_)
 ·have hf3 : (z : Int) + 2 ≤ n2 := by unfold spK at hfin; rw [if_pos c16] at hfin; omega
  refine rg (mv rfl (s_add rfl rfl (wi6 (by omega)) (asg rfl (nl (tn (sr (mv rfl (mv rfl (ge' rfl rfl (mv rfl ?_))))))))))
  refine gs 222 rfl (fun g13 => ?_) (fun hh => absurd (by omega) hh)
  refine gY rfl ?_
  replace hG := hG0.ext ((((q1.n6 q2 q3 q4 q5 q6 q15).n1 q16).n1 q17).z1 q18)
  refine cl evs_nil co13 (lives22_ok _ hG.sy) rfl ?_
  rintro _ w27 ⟨rfl, q27⟩
  have z27 := q27.size
  refine pkt rfl rfl (asg rfl (kpL [(4, _)] (.cons rfl .nil) (nn (rt (r1 Tryz.results5 rfl ?_)))))
  exact ⟨_, rfl, rfl, ((((q1.n6 q2 q3 q4 q5 q6 q15).n1 q16).n1 q17).z2 q18 q27)⟩
 have hf3 : (z : Int) + 1 ≤ n2 := by unfold spK at hfin; rw [if_neg c16] at hfin; omega
 refine sk (tn (sr (mv rfl (mv rfl (ge' rfl rfl (mv rfl ?_))))))
 refine gs 222 rfl (fun g14 => ?_) (fun hh => absurd (by omega) hh)
 refine gY rfl ?_
 replace hG := hG0.ext ((((q1.n6 q2 q3 q4 q5 q6 q15).n1 q16).n1 q17).z1 q18)
 refine cl evs_nil co13 (lives22_ok _ hG.sy) rfl ?_
 rintro _ w28 ⟨rfl, q28⟩
 have z28 := q28.size
 refine pkt rfl rfl (asg rfl (kpL [(4, _)] (.cons rfl .nil) (nn (rt (r1 Tryz.results5 rfl ?_)))))
 exact ⟨_, rfl, rfl, ((((q1.n6 q2 q3 q4 q5 q6 q15).n1 q16).n1 q17).z2 q18 q28)⟩
end Go.Proofs.YthehggmdcmpjeaaGreatDoor
