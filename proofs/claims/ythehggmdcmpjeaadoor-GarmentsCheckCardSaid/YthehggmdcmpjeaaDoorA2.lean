/- Texts of the proof, joined: XChart XScope XMap XShelf W1 XCard CBase XOpen XMot XCnt XGar XRl Opens W3 W4 W5 W8 W9 -/
import Derived.Scope
import Derived.WalkSmall
import Derived.Test.YthehggmdcmpjeaaDoorRows
import Derived.ProofKit
import Derived.OpenShut
import Derived.Carry
import Derived.ChangeOld
import Derived.Deep.DeepHandedRow
import Derived.Lib.LaidTab
import Derived.Test.YthehggmdcmpjeaaDoorCards
import Derived.Test.YthehggmdcmpjeaaDoorTie
import Derived.ChangeMaps5
import Derived.Test.YthehggmdcmpjeaaDoorA1
set_option linter.unusedVariables false
set_option linter.unusedSimpArgs false
namespace Go.G14
open Go.Lw

def needsR (xs : List Stitch) : Int := (xs.map needsS).sum
def makesR (xs : List Stitch) : Int := (xs.map makesS).sum
theorem sum_rng {f : Stitch → Int} (hf : ∀ s, 0 ≤ f s ∧ f s ≤ 4) : ∀ xs : List Stitch, 0 ≤ (xs.map f).sum ∧ (xs.map f).sum ≤ 4 * xs.length
  | [] => by simp
  | x :: xs => by
    have := sum_rng hf xs
    have := hf x
    simp only [List.map_cons, List.sum_cons, List.length_cons]
    omega
theorem sum_next {f : Stitch → Int} {xs : List Stitch} {k : Nat} {x : Stitch} (hx : xs[k]? = some x) : ((xs.take (k + 1)).map f).sum = ((xs.take k).map f).sum + f x := by
  rw [List.take_add_one, hx]; simp
theorem sum_drop {f : Stitch → Int} {xs : List Stitch} {k : Nat} {x : Stitch} (hx : xs[k]? = some x) : ((xs.drop k).map f).sum = f x + ((xs.drop (k + 1)).map f).sum := by
  rw [List.drop_eq_getElem_cons (List.getElem?_eq_some_iff.1 hx).1]
  have : xs[k]'(List.getElem?_eq_some_iff.1 hx).1 = x := (List.getElem?_eq_some_iff.1 hx).2
  simp [this]
def rowE (xs : List Stitch) : Int :=
  if 16 < xs.length then 3 else if xs.length = 0 then 1 else if xs.all okB = false then 1
  else if needsR xs < 1 ∨ 16 < needsR xs ∨ makesR xs < 1 ∨ 16 < makesR xs then 5 else 0
def adjB (rows : List (List Stitch)) : Bool := (List.range (rows.length - 1)).all fun i => decide (needsR (rows.getD (i + 1) []) = makesR (rows.getD i []))
def firstE : List (List Stitch) → Int
  | [] => 0
  | r :: rs => if rowE r ≠ 0 then rowE r else firstE rs
def rowsE (rows : List (List Stitch)) : Int :=
  if 31 < rows.length then 3 else if rows.length % 2 = 0 then 1 else if firstE rows ≠ 0 then firstE rows else if adjB rows = true then 0 else 14
/-- The loops behind a row, and its error. -/
def runRow : List Stitch → List Int → List Int → List Int × Int
  | [], _, acc => (acc, 0)
  | s :: xs, ls, acc => if (loadsS s (ls.take (needsS s).toNat)).2 ≠ 0 then ([], (loadsS s (ls.take (needsS s).toNat)).2) else runRow xs (ls.drop (needsS s).toNat) (acc ++ (loadsS s (ls.take (needsS s).toNat)).1)
def runRows : List (List Stitch) → List Int → Int
  | [], _ => 0
  | r :: rs, ls => if (runRow r ls []).2 ≠ 0 then (runRow r ls []).2 else runRows rs (runRow r ls []).1
def startL (rows : List (List Stitch)) : List Int := List.replicate (needsR (rows.getD 0 [])).toNat 1
def chartE (rows : List (List Stitch)) : Int := if rowsE rows ≠ 0 then rowsE rows else runRows rows (startL rows)
variable {xs : List Stitch} {rows : List (List Stitch)}
theorem row3 (h : 16 < xs.length) : rowE xs = 3 := if_pos h
theorem row1 (h : ¬ 16 < xs.length) (h0 : xs.length = 0) : rowE xs = 1 := by rw [rowE, if_neg h, if_pos h0]
theorem row1b (h : ¬ 16 < xs.length) {k : Nat} {x : Stitch} (hx : xs[k]? = some x) (hb : checkS x ≠ 0) : rowE xs = 1 := by
  have : xs.all okB = false := by
    rw [Bool.eq_false_iff]; intro e
    exact hb ((okB_iff x).1 (List.all_eq_true.1 e x (List.mem_of_getElem? hx)))
  have h0 : ¬ xs.length = 0 := by have := (List.getElem?_eq_some_iff.1 hx).1; omega
  rw [rowE, if_neg h, if_neg h0, if_pos this]
theorem row5 (h : ¬ 16 < xs.length) (h0 : ¬ xs.length = 0) (ha : xs.all okB = true) (hc : needsR xs < 1 ∨ 16 < needsR xs ∨ makesR xs < 1 ∨ 16 < makesR xs) : rowE xs = 5 := by
  rw [rowE, if_neg h, if_neg h0, if_neg (by rw [ha]; simp), if_pos hc]
theorem row0 (h : ¬ 16 < xs.length) (h0 : ¬ xs.length = 0) (ha : xs.all okB = true) (hc : ¬ (needsR xs < 1 ∨ 16 < needsR xs ∨ makesR xs < 1 ∨ 16 < makesR xs)) : rowE xs = 0 := by
  rw [rowE, if_neg h, if_neg h0, if_neg (by rw [ha]; simp), if_neg hc]
theorem row_ok_of (h : rowE xs = 0) : xs.length ≤ 16 ∧ 1 ≤ xs.length ∧ xs.all okB = true ∧ 1 ≤ needsR xs ∧ needsR xs ≤ 16 ∧ 1 ≤ makesR xs ∧ makesR xs ≤ 16 := by
  unfold rowE at h
  split at h
  · omega
  split at h
  · omega
  split at h
  · omega
  split at h
  · omega
  · rename_i h1 h2 h3 h4
    refine ⟨by omega, by omega, by simpa using h3, by omega, by omega, by omega, by omega⟩
theorem first_bad : ∀ {rows : List (List Stitch)} {k : Nat} {r : List Stitch}, (∀ i q, i < k → rows[i]? = some q → rowE q = 0) → rows[k]? = some r → rowE r ≠ 0 → firstE rows = rowE r
  | [], k, r, _, h, _ => by simp at h
  | q :: rs, 0, r, _, h, hb => by simp at h; subst h; rw [firstE, if_pos hb]
  | q :: rs, k + 1, r, hz, h, hb => by
    have hq := hz 0 q (by omega) rfl
    rw [firstE, if_neg (by omega)]
    exact first_bad (k := k) (fun i p hi hp => hz (i + 1) p (by omega) (by simpa using hp)) (by simpa using h) hb
theorem first_good : ∀ {rows : List (List Stitch)}, (∀ (i : Nat) (q : List Stitch), rows[i]? = some q → rowE q = 0) → firstE rows = 0
  | [], _ => rfl
  | q :: rs, hz => by
    have hq := hz 0 q rfl
    rw [firstE, if_neg (by omega)]
    exact first_good fun i p hp => hz (i + 1) p (by simpa using hp)
theorem first_all : ∀ {rows : List (List Stitch)}, firstE rows = 0 → ∀ (i : Nat) (q : List Stitch), rows[i]? = some q → rowE q = 0
  | [], _, i, q, h => by simp at h
  | r :: rs, hz, i, q, h => by
    unfold firstE at hz
    split at hz
    · rename_i hb; exact absurd hz hb
    · rename_i hb
      match i with
      | 0 => simp at h; subst h; omega
      | i + 1 => exact first_all hz i q (by simpa using h)
theorem rows3 (h : 31 < rows.length) : rowsE rows = 3 := if_pos h
theorem rows1 (h : ¬ 31 < rows.length) (h2 : rows.length % 2 = 0) : rowsE rows = 1 := by rw [rowsE, if_neg h, if_pos h2]
theorem rowsB (h : ¬ 31 < rows.length) (h2 : ¬ rows.length % 2 = 0) {k : Nat} {r : List Stitch} (hz : ∀ i q, i < k → rows[i]? = some q → rowE q = 0) (hr : rows[k]? = some r) (hb : rowE r ≠ 0) : rowsE rows = rowE r := by
  have := first_bad hz hr hb
  rw [rowsE, if_neg h, if_neg h2, if_pos (by omega), this]
theorem adj_at {k : Nat} (h : adjB rows = true) (hk : k + 1 < rows.length) : needsR (rows.getD (k + 1) []) = makesR (rows.getD k []) := by
  have := List.all_eq_true.1 h k (List.mem_range.2 (by omega))
  simpa using this
theorem rows14 (h : ¬ 31 < rows.length) (h2 : ¬ rows.length % 2 = 0) (hz : ∀ (i : Nat) (q : List Stitch), rows[i]? = some q → rowE q = 0) {k : Nat} {r q : List Stitch} (hr : rows[k]? = some r) (hq : rows[k + 1]? = some q) (hne : needsR q ≠ makesR r) : rowsE rows = 14 := by
  have h0 := first_good hz
  have ha : ¬ adjB rows = true := fun e => by
    have := adj_at (k := k) e (List.getElem?_eq_some_iff.1 hq).1
    rw [List.getD, List.getD, hq, hr] at this
    exact hne this
  rw [rowsE, if_neg h, if_neg h2, if_neg (by omega), if_neg ha]
theorem rows0 (h : ¬ 31 < rows.length) (h2 : ¬ rows.length % 2 = 0) (hz : ∀ (i : Nat) (q : List Stitch), rows[i]? = some q → rowE q = 0) (ha : ∀ (k : Nat) (r q : List Stitch), rows[k]? = some r → rows[k + 1]? = some q → needsR q = makesR r) : rowsE rows = 0 := by
  have h0 := first_good hz
  have ha : adjB rows = true := by
    refine List.all_eq_true.2 fun k hk => ?_
    have hk := List.mem_range.1 hk
    have h1 : k < rows.length := by omega
    have h3 : k + 1 < rows.length := by omega
    rw [decide_eq_true_iff, List.getD, List.getD, List.getElem?_eq_getElem h1, List.getElem?_eq_getElem h3]
    exact ha k _ _ (List.getElem?_eq_getElem h1) (List.getElem?_eq_getElem h3)
  rw [rowsE, if_neg h, if_neg h2, if_neg (by omega), if_pos ha]
theorem rows_of (h : rowsE rows = 0) : rows.length ≤ 31 ∧ rows.length % 2 = 1 ∧ (∀ (i : Nat) (q : List Stitch), rows[i]? = some q → rowE q = 0) ∧ ∀ (k : Nat) (r q : List Stitch), rows[k]? = some r → rows[k + 1]? = some q → needsR q = makesR r := by
  unfold rowsE at h
  split at h
  · omega
  split at h
  · omega
  split at h
  · omega
  split at h
  · rename_i h1 h2 h3 h4
    refine ⟨by omega, by omega, first_all (by omega), fun k r q hr hq => ?_⟩
    have := adj_at (k := k) h4 (List.getElem?_eq_some_iff.1 hq).1
    rw [List.getD, List.getD, hq, hr] at this
    exact this
  · omega
theorem run_bad {s : Stitch} {xs : List Stitch} {ls acc : List Int} (h : (loadsS s (ls.take (needsS s).toNat)).2 ≠ 0) : runRow (s :: xs) ls acc = ([], (loadsS s (ls.take (needsS s).toNat)).2) := by rw [runRow, if_pos h]
theorem run_next {s : Stitch} {xs : List Stitch} {ls acc : List Int} (h : ¬ (loadsS s (ls.take (needsS s).toNat)).2 ≠ 0) : runRow (s :: xs) ls acc = runRow xs (ls.drop (needsS s).toNat) (acc ++ (loadsS s (ls.take (needsS s).toNat)).1) := by rw [runRow, if_neg h]
theorem drop_cons {α : Type} {l : List α} {k : Nat} {x : α} (h : l[k]? = some x) : l.drop k = x :: l.drop (k + 1) := by
  rw [List.drop_eq_getElem_cons (List.getElem?_eq_some_iff.1 h).1, (List.getElem?_eq_some_iff.1 h).2]
theorem run_len : ∀ (xs : List Stitch) (ls acc : List Int), (runRow xs ls acc).2 = 0 → ((runRow xs ls acc).1.length : Int) = acc.length + makesR xs
  | [], ls, acc, _ => by simp [runRow, makesR]
  | s :: xs, ls, acc, h => by
    by_cases hb : (loadsS s (ls.take (needsS s).toNat)).2 ≠ 0
    · rw [run_bad hb] at h; exact absurd h hb
    · rw [run_next hb] at h ⊢
      have hl := (loads_few (Decidable.not_not.1 hb)).2.1
      rw [run_len xs _ _ h, List.length_append]
      simp only [makesR, List.map_cons, List.sum_cons]
      push_cast; omega
end Go.G14
namespace Go.G14
theorem set_one (j m : Nat) (h : j < m) : (List.replicate j (1 : Int) ++ List.replicate (m - j) 0).set j 1 = List.replicate (j + 1) 1 ++ List.replicate (m - (j + 1)) 0 := by
  obtain ⟨r, rfl⟩ : ∃ r, m = j + 1 + r := ⟨m - (j + 1), by omega⟩
  rw [show j + 1 + r - j = r + 1 by omega, show j + 1 + r - (j + 1) = r by omega, List.replicate_succ]
  rw [List.set_append_right _ _ (by simp)]
  simp [List.replicate_succ']
end Go.G14
namespace Go.G14
theorem z_next {rows : List (List Stitch)} {k : Nat} {r : List Stitch} (hz : ∀ (i : Nat) (q : List Stitch), i < k → rows[i]? = some q → rowE q = 0) (hr : rows[k]? = some r) (h0 : rowE r = 0) : ∀ (i : Nat) (q : List Stitch), i < k + 1 → rows[i]? = some q → rowE q = 0 := by
  intro i q hi hq
  rcases Nat.lt_or_ge i k with h | h
  · exact hz i q h hq
  · obtain rfl : i = k := by omega
    rw [hr] at hq; cases hq; exact h0
theorem adj_next {rows : List (List Stitch)} {k : Nat} {r q : List Stitch} (ha : ∀ (j : Nat) (r q : List Stitch), j < k → rows[j]? = some r → rows[j + 1]? = some q → needsR q = makesR r) (hr : rows[k]? = some r) (hq : rows[k + 1]? = some q) (h0 : needsR q = makesR r) :
    ∀ (j : Nat) (r q : List Stitch), j < k + 1 → rows[j]? = some r → rows[j + 1]? = some q → needsR q = makesR r := by
  intro j r1 q1 hj h1 h2
  rcases Nat.lt_or_ge j k with h | h
  · exact ha j r1 q1 h h1 h2
  · obtain rfl : j = k := by omega
    rw [hr] at h1; rw [hq] at h2; cases h1; cases h2; exact h0
end Go.G14
namespace Go.G14
theorem rr_next {r : List Stitch} {ls acc : List Int} {k at_ : Nat} {s : Stitch} {R : List Int × Int} (h : runRow (r.drop k) (ls.drop at_) acc = R) (hs : r[k]? = some s) (h0 : ¬ (loadsS s ((ls.drop at_).take (needsS s).toNat)).2 ≠ 0) :
    runRow (r.drop (k + 1)) (ls.drop (at_ + (needsS s).toNat)) (acc ++ (loadsS s ((ls.drop at_).take (needsS s).toNat)).1) = R := by
  rw [drop_cons hs, run_next h0, List.drop_drop] at h; exact h
theorem rr_bad {r : List Stitch} {ls acc : List Int} {k at_ : Nat} {s : Stitch} {R : List Int × Int} (h : runRow (r.drop k) (ls.drop at_) acc = R) (hs : r[k]? = some s) (h0 : (loadsS s ((ls.drop at_).take (needsS s).toNat)).2 ≠ 0) :
    R.2 = (loadsS s ((ls.drop at_).take (needsS s).toNat)).2 := by
  rw [drop_cons hs, run_bad h0] at h; rw [← h]
theorem rr_end {r : List Stitch} {ls acc : List Int} {at_ : Nat} {R : List Int × Int} (h : runRow (r.drop r.length) (ls.drop at_) acc = R) : R = (acc, 0) := by
  rw [List.drop_length, runRow] at h; exact h.symm
theorem rs_next {rows : List (List Stitch)} {ls : List Int} {i : Nat} {r : List Stitch} {E : Int} (h : runRows (rows.drop i) ls = E) (hr : rows[i]? = some r) {acc : List Int} (h0 : runRow r ls [] = (acc, 0)) : runRows (rows.drop (i + 1)) acc = E := by
  rw [drop_cons hr, runRows, h0, if_neg (by simp)] at h; exact h
theorem rs_bad {rows : List (List Stitch)} {ls : List Int} {i : Nat} {r : List Stitch} {E : Int} (h : runRows (rows.drop i) ls = E) (hr : rows[i]? = some r) (h0 : (runRow r ls []).2 ≠ 0) : E = (runRow r ls []).2 := by
  rw [drop_cons hr, runRows, if_pos h0] at h; exact h.symm
theorem rs_end {rows : List (List Stitch)} {ls : List Int} {E : Int} (h : runRows (rows.drop rows.length) ls = E) : E = 0 := by
  rw [List.drop_length, runRows] at h; exact h.symm
theorem needs_drop {r : List Stitch} {k : Nat} {s : Stitch} (hs : r[k]? = some s) : needsR (r.drop k) = needsS s + needsR (r.drop (k + 1)) := sum_drop hs
theorem needs_pos (xs : List Stitch) : 0 ≤ needsR xs := (sum_rng needs_rng xs).1
theorem chart_run {rows : List (List Stitch)} (h : rowsE rows = 0) : chartE rows = runRows rows (startL rows) := by rw [chartE, if_neg (by omega)]
theorem chart_bad {rows : List (List Stitch)} {e : Int} (h : rowsE rows = e) (he : e ≠ 0) : chartE rows = e := by rw [chartE, if_pos (by omega), h]
theorem run_next_len {r : List Stitch} {ls acc : List Int} (h0 : runRow r ls [] = (acc, 0)) : (acc.length : Int) = makesR r := by
  have := run_len r ls [] (by rw [h0])
  rw [h0] at this; simpa using this
theorem loads_len (s : Stitch) (l : List Int) : (loadsS s l).1.length ≤ 4 := by
  by_cases h : (loadsS s l).2 = 0
  · have := (loads_few h).2.1
    have := makes_rng s
    omega
  · unfold loadsS at h ⊢
    (repeat' split) <;> simp_all
structure RefSt where
  i : Nat
  N : Value
  ls : List Int
  OV : Value
  hs : List Go.Lw.SV
structure InSt where
  k : Nat
  at_ : Nat
  acc : List Int
  X : Value
end Go.G14
namespace Go.G14
open Go.Lw
structure LdSt where
  i : Nat
  OV : Value
  ps : List (SV × List Int)
  u : SV
  ls : List Int
structure LeSt where
  k : Nat
  at_ : Nat
  acc : List Int
  X : Value
  B : Value
theorem rws_one {E : Enc Int} {R T : TypeId} {base : Nat} {w : World} {OV : Value} {u : SV} {ls : List Int} (ho : Own Enc.sl R base w OV [u]) (hi : Own E T base w (slv u) ls) (hd : ∀ k ∈ blks (slv u), k ∉ blks OV) : Rws E R T base w OV ([] ++ [(u, ls)]) :=
  ⟨by simpa using ho, fun p hp => by simp at hp; subst hp; exact hi, fun p hp => by simp at hp; subst hp; exact hd⟩
end Go.G14
namespace Go.Lw
section
variable {a : Act} {w : World} {Q : Exit → Act → World → Prop}
theorem ret_sc (h : Q .ret a w) : Exit.noGoto Q .ret a w := h
end
end Go.Lw
namespace Go.Lw
open Go.RowKit

/-- The law of a key type. -/
structure KeyLaw {κ : Type} [DecidableEq κ] (P : Program) (K : TypeId) (V : κ → Value) : Prop where
  check : ∀ b k (w : World), (Instr.checkKey b 10000 K (V k)).run P w = .ok () w
  find : ∀ k (es : List MapEntry) (ks : List κ) (w : World), es.map (·.key) = ks.map V →
    (Instr.findKey K (V k) es).run P w = .ok ((ks.findIdx? (fun x => decide (k = x))).bind fun i => (es[i]?).map fun e => (i, e.val)) w
  bits : ∀ k, Instr.sameBits 10000 (V k) (V k) = true

def assocGet {κ : Type} [DecidableEq κ] : List (κ × Value) → κ → Option Value
  | [], _ => none
  | p :: r, k => if k = p.1 then some p.2 else assocGet r k
/-- Block g is a map that holds f. -/
def MapF {κ : Type} [DecidableEq κ] (V : κ → Value) (w : World) (g : Nat) (f : κ → Option Value) : Prop :=
  ∃ (es : Array MapEntry) (c : Nat) (m : List (κ × Value)), w.heap[g]? = some (.map es c) ∧ es.toList.map (fun e => (e.key, e.val)) = m.map (fun p => (V p.1, p.2)) ∧ ∀ k, assocGet m k = f k

section
variable {κ : Type} [DecidableEq κ] {V : κ → Value} {P : Program} {K : TypeId}
theorem findAsking_eq (heq : ∀ k k' (w : World), (Op.equal K (V k) (V k')).run P w = .ok (decide (k = k')) w) (k : κ) : ∀ (es : List MapEntry) (ks : List κ) (i : Nat) (w : World), es.map (·.key) = ks.map V →
    (Instr.findAsking K (V k) es i).run P w = .ok ((ks.findIdx? (fun x => decide (k = x))).bind fun j => (es[j]?).map fun e => (i + j, e.val)) w
  | [], [], i, w, _ => by simp [Instr.findAsking]
  | [], _ :: _, _, _, h => by simp at h
  | _ :: _, [], _, _, h => by simp at h
  | e :: es, x :: ks, i, w, h => by
    simp only [List.map_cons, List.cons.injEq] at h
    have ih := findAsking_eq heq k es ks (i + 1) w h.2
    simp only [Instr.findAsking, h.1, Sem.run_bind, heq k x w, Result.andThen_ok]
    by_cases hx : k = x
    · simp [hx, List.findIdx?_cons]
    · simp only [hx, decide_false, Bool.false_eq_true, if_false, ih, List.findIdx?_cons, Option.bind_map]
      congr 1
      cases hf : ks.findIdx? (fun x => decide (k = x)) with
      | none => simp
      | some j => simp [Nat.add_assoc, Nat.add_comm 1 j]
theorem KeyLaw.asking {d : TypeDesc} (hu : P.underlying K = some d) (hs : ∀ k k', Instr.sameNow d (V k) (V k') = none) (hc : ∀ b k (w : World), (Instr.checkKey b 10000 K (V k)).run P w = .ok () w)
    (heq : ∀ k k' (w : World), (Op.equal K (V k) (V k')).run P w = .ok (decide (k = k')) w) (hb : ∀ k, Instr.sameBits 10000 (V k) (V k) = true) : KeyLaw P K V := by
  refine ⟨hc, fun k es ks w h => ?_, hb⟩
  cases es with
  | nil =>
    cases ks with
    | nil => simp [Instr.findKey, run_underlying hu, Instr.findNow]
    | cons x ks => simp at h
  | cons e es =>
    cases ks with
    | nil => simp at h
    | cons x ks =>
      have hn : Instr.findNow d (V k) (e :: es) 0 = none := by
        simp only [List.map_cons, List.cons.injEq] at h
        simp [Instr.findNow, h.1, hs]
      have := findAsking_eq heq k (e :: es) (x :: ks) 0 w h
      simp only [Instr.findKey, Sem.run_bind, run_underlying hu, Result.andThen_ok, hn, this, Nat.zero_add]

theorem assoc_find (m : List (κ × Value)) (k : κ) : ∀ (es : List MapEntry), es.map (fun e => (e.key, e.val)) = m.map (fun p => (V p.1, p.2)) →
    (((m.map (·.1)).findIdx? (fun x => decide (k = x))).bind fun i => (es[i]?).map fun e => (i, e.val)).map (·.2) = assocGet m k := by
  induction m with
  | nil => intro es h; simp [assocGet]
  | cons p m ih =>
    intro es h
    match es, h with
    | e :: es, h =>
      simp only [List.map_cons, List.cons.injEq, Prod.mk.injEq] at h
      have := ih es h.2
      unfold assocGet
      by_cases hk : k = p.1
      · simp [hk, List.findIdx?_cons, h.1.2]
      · simp only [List.map_cons, List.findIdx?_cons, hk, decide_false, if_false, Bool.false_eq_true]
        rw [← this]
        cases (m.map (·.1)).findIdx? (fun x => decide (k = x)) with
        | none => simp
        | some j =>
          simp
          rfl
theorem assocGet_app (m : List (κ × Value)) (k k' : κ) (v : Value) : (m.map (·.1)).findIdx? (fun x => decide (k = x)) = none → assocGet (m ++ [(k, v)]) k' = if k' = k then some v else assocGet m k' := by
  induction m with
  | nil => intro _; simp [assocGet]
  | cons p m ih =>
    intro h
    simp only [List.map_cons, List.findIdx?_cons] at h
    split at h
    · cases h
    · rename_i hk
      have hk' : ¬ k = p.1 := by simpa using hk
      have := ih (by simpa using h)
      simp only [List.cons_append, assocGet, this]
      by_cases e : k' = p.1
      · subst e
        simp [Ne.symm hk']
      · simp [e]
theorem assocGet_mod (k k' : κ) (v : Value) : ∀ (m : List (κ × Value)) (i : Nat), (m.map (·.1)).findIdx? (fun x => decide (k = x)) = some i → assocGet (m.modify i fun p => (p.1, v)) k' = if k' = k then some v else assocGet m k'
  | [], i, h => by simp at h
  | p :: m, i, h => by
    simp only [List.map_cons, List.findIdx?_cons] at h
    split at h
    · rename_i hk
      have hk' : k = p.1 := by simpa using hk
      simp at h; subst h
      simp only [List.modify_zero_cons, assocGet, hk']
      by_cases e : k' = p.1 <;> simp [e]
    · rename_i hk
      have hk' : ¬ k = p.1 := by simpa using hk
      cases hf : (m.map (·.1)).findIdx? (fun x => decide (k = x)) with
      | none => rw [hf] at h; simp at h
      | some j =>
        rw [hf] at h; simp at h; subst h
        have := assocGet_mod k k' v m j hf
        simp only [List.modify_succ_cons, assocGet, this]
        by_cases e : k' = p.1
        · subst e; simp [Ne.symm hk']
        · simp [e]
theorem MapF.fr {w w' : World} {g : Nat} {f : κ → Option Value} {S : List Nat} (h : MapF V w g f) (hf : Fr S w w') (hn : g ∉ S) : MapF V w' g f := by
  obtain ⟨es, c, m, h1, h2, h3⟩ := h
  exact ⟨es, c, m, (hf.block g (Array.getElem?_eq_some_iff.1 h1).1 hn).trans h1, h2, h3⟩
theorem MapF.ext {w w' : World} {g : Nat} {f : κ → Option Value} (h : MapF V w g f) (hf : Fr [] w w') : MapF V w' g f := h.fr hf (by simp)
theorem MapF.lt {w : World} {g : Nat} {f : κ → Option Value} (h : MapF V w g f) : g < w.heap.size := let ⟨_, _, _, h1, _⟩ := h; (Array.getElem?_eq_some_iff.1 h1).1
theorem run_getObj {w : World} {g : Nat} {es : Array MapEntry} {c : Nat} (h : w.heap[g]? = some (.map es c)) : (getObj g).run P w = .ok (.map es c) w := by
  simp [getObj, Sem.run, h]
theorem run_lookup {w : World} {g : Nat} {f : κ → Option Value} {t E : TypeId} {z : Value} (h : MapF V w g f) (hk : KeyLaw P K V) (hu : P.underlying t = some (.map K E)) (hz : (zeroValue E).run P w = .ok z w) (k : κ) :
    (Instr.lookup t (.map (some g)) (V k) false).run P w = .ok ((f k).getD z) w := by
  obtain ⟨es, c, m, h1, h2, h3⟩ := h
  have hkeys : es.toList.map (·.key) = (m.map (·.1)).map V := by
    have := congrArg (List.map Prod.fst) h2
    simpa [List.map_map, Function.comp_def] using this
  have hfi := hk.find k es.toList (m.map (·.1)) w hkeys
  have hval := assoc_find (V := V) m k es.toList h2
  rw [h3] at hval
  generalize ((m.map (·.1)).findIdx? (fun x => decide (k = x))).bind (fun i => (es.toList[i]?).map fun e => (i, e.val)) = r at hfi hval
  cases r with
  | none => simp at hval; simp [Instr.lookup, run_underlying hu, run_getObj h1, hk.check, hfi, hz, ← hval]
  | some p => simp at hval; simp [Instr.lookup, run_underlying hu, run_getObj h1, hk.check, hfi, ← hval]
theorem run_mapUpdate {w : World} {g : Nat} {f : κ → Option Value} {t E : TypeId} (h : MapF V w g f) (hk : KeyLaw P K V) (hu : P.underlying t = some (.map K E)) (k : κ) (v : Value) :
    ∃ w', (Instr.mapUpdate t (.map (some g)) (V k) v).run P w = .ok () w' ∧ MapF V w' g (fun k' => if k' = k then some v else f k') ∧ Fr [g] w w' ∧ w'.heap.size = w.heap.size := by
  obtain ⟨es, c, m, h1, h2, h3⟩ := h
  have hlt := (Array.getElem?_eq_some_iff.1 h1).1
  have hkeys : es.toList.map (·.key) = (m.map (·.1)).map V := by
    have := congrArg (List.map Prod.fst) h2
    simpa [List.map_map, Function.comp_def] using this
  have hfi := hk.find k es.toList (m.map (·.1)) w hkeys
  have hset : ∀ o, (setObj g o).run P w = .ok () { w with heap := w.heap.setIfInBounds g o } := by intro o; simp [setObj, Sem.run, h1]
  have hfr : ∀ o, Fr [g] w { w with heap := w.heap.setIfInBounds g o } := fun o => ⟨rfl, rfl, rfl, by simp, fun i _ hn => by
    simp only
    rw [Array.getElem?_setIfInBounds_ne (by intro e; subst e; simp at hn)]⟩
  have hheap : ∀ o, ({ w with heap := w.heap.setIfInBounds g o } : World).heap[g]? = some o := by intro o; simp [hlt]
  have hlen : es.toList.length = m.length := by have := congrArg List.length h2; simpa using this
  cases hf : (m.map (·.1)).findIdx? (fun x => decide (k = x)) with
  | none =>
    refine ⟨_, ?_, ⟨_, _, m ++ [(k, v)], hheap (.map (es.push { key := V k, val := v, born := c }) (c + 1)), ?_, fun k' => ?_⟩, hfr _, by simp⟩
    · rw [hf] at hfi
      simp only [Instr.mapUpdate, Sem.run_bind, run_underlying hu, Result.andThen_ok, run_getObj h1, hk.check, hfi, Option.bind_none, hset]
    · simp [h2]
    · rw [assocGet_app m k k' v hf, h3]
  | some i =>
    have hi : i < m.length := by
      have := List.findIdx?_eq_some_iff_findIdx_eq.1 hf
      simpa using this.1
    have hi' : i < es.toList.length := by omega
    have hki : V k = (es.toList[i]).key := by
      have hmem := List.findIdx?_eq_some_iff_getElem.1 hf
      obtain ⟨hlt', hp, _⟩ := hmem
      have hp' : k = (m.map (·.1))[i] := by simpa using hp
      have e1 : (es.toList.map (·.key))[i]? = ((m.map (·.1)).map V)[i]? := by rw [hkeys]
      simp only [List.getElem?_map, List.getElem?_eq_getElem hi', List.getElem?_eq_getElem hi, Option.map_some, Option.some.injEq] at e1
      rw [e1, hp']; simp
    refine ⟨_, ?_, ⟨_, _, m.modify i fun p => (p.1, v), hheap (.map (es.modify i fun e => { e with key := V k, val := v }) c), ?_, fun k' => ?_⟩, hfr _, by simp⟩
    · rw [hf] at hfi
      have hes : es[i]? = some es.toList[i] := by rw [← Array.getElem?_toList, List.getElem?_eq_getElem hi']
      simp only [Option.bind_some, List.getElem?_eq_getElem hi', Option.map_some] at hfi
      have hstay : (Instr.keyThatStays (((es[i]?).map (·.key)).getD (V k)) (V k)).run P w = .ok (V k) w := by
        rw [hes]
        simp only [Option.map_some, Option.getD_some, ← hki, Instr.keyThatStays, hk.bits, if_true, Sem.run_pure]
      simp only [Instr.mapUpdate, Sem.run_bind, run_underlying hu, Result.andThen_ok, run_getObj h1, hk.check, hfi, hstay, hset]
    · apply List.ext_getElem?
      intro j
      have e2 := congrArg (·[j]?) h2
      simp only [List.getElem?_map] at e2 ⊢
      rw [Array.getElem?_toList, Array.getElem?_modify, List.getElem?_modify]
      rw [Array.getElem?_toList] at e2
      by_cases hj : i = j
      · subst hj
        have e3 := List.getElem?_eq_getElem hi
        have hes : es[i]? = some es.toList[i] := by rw [← Array.getElem?_toList, List.getElem?_eq_getElem hi']
        rw [hes, e3] at e2 ⊢
        simp only [Option.map_some, Option.some.injEq, Prod.mk.injEq] at e2
        simp only [if_true, Option.map_some]
        rw [hki, e2.1]; rfl
      · simp only [hj, if_false]
        rw [e2]; simp
    · rw [assocGet_mod k k' v m i hf, h3]
variable {a : Act} {n : Nat} {L : List (Nat × Value)} {ds : List Nat} {w w' : World} {Q : Exit → Act → World → Prop} {C : World → Prop} {Qa : Act → Prop} {ops : Array Oper} {rest : List Oper}
variable {d : Nat} {ty : TypeId} {pos : String} {after : Array Edge} {x y z : Operand} {t E : TypeId} {g : Nat} {f : κ → Option Value} {k : κ} {v zv : Value}
theorem st_makeMap (V : κ → Value) (h : AgM ds a n L) (hn : Nat.blt d n = true)
    (q : ∀ g w', g = w.heap.size → MapF V w' g (fun _ => none) → Fr [] w w' → w'.heap.size = g + 1 → ∀ a, AgM ds a n ((d, .map (some g)) :: L) → wpList P ops Q rest a w') : wpList P ops Q (⟨some d, .makeMap t none, ty, pos, after, none⟩ :: rest) a w :=
  st_ok h rfl rfl hn (w' := w.alloc (.map #[] 0)) (by simp [execOp, Instr.makeMap]) (q _ _ rfl ⟨_, _, [], heap_alloc_new w _, by simp, fun _ => rfl⟩ (Fr.alloc [] w _) (by simp))
theorem ex_lookup (h : AgM ds a n L) (hx : ev L x = some (.map (some g))) (hy : ev L y = some (V k)) (hm : MapF V w g f) (hk : KeyLaw P K V) (hu : P.underlying t = some (.map K E)) (hz : ∀ w : World, (zeroValue E).run P w = .ok zv w) :
    (execOp a.eval ⟨some d, .lookup t x y false, ty, pos, after, none⟩).run P w = .ok (.value ((f k).getD zv)) w := by
  simp [execOp, h.eval hx, h.eval hy, run_lookup hm hk hu (hz w) k]
theorem st_lookup (h : AgM ds a n L) (hx : ev L x = some (.map (some g))) (hy : ev L y = some (V k)) (hm : MapF V w g f) (hk : KeyLaw P K V) (hu : P.underlying t = some (.map K E)) (hz : ∀ w : World, (zeroValue E).run P w = .ok zv w) (hv : (f k).getD zv = v) (hn : Nat.blt d n = true)
    (q : ∀ a, AgM ds a n ((d, v) :: L) → wpList P ops Q rest a w) : wpList P ops Q (⟨some d, .lookup t x y false, ty, pos, after, none⟩ :: rest) a w :=
  st_ok h rfl rfl hn (by rw [← hv]; exact ex_lookup h hx hy hm hk hu hz) q
theorem qt_lookup (h : AgM ds a n L) (hx : ev L x = some (.map (some g))) (hy : ev L y = some (V k)) (hm : ∀ w, C w → MapF V w g f) (hk : KeyLaw P K V) (hu : P.underlying t = some (.map K E)) (hz : ∀ w : World, (zeroValue E).run P w = .ok zv w) (hv : (f k).getD zv = v) (hn : Nat.blt d n = true)
    (q : ∀ a, AgM ds a n ((d, v) :: L) → wpQuiet P ops C Qa rest a) : wpQuiet P ops C Qa (⟨some d, .lookup t x y false, ty, pos, after, none⟩ :: rest) a :=
  qt_ok h rfl rfl hn (fun w hw => by rw [← hv]; exact ex_lookup h hx hy (hm w hw) hk hu hz) q
theorem st_mapSet (h : AgM ds a n L) (hx : ev L x = some (.map (some g))) (hy : ev L y = some (V k)) (hz : ev L z = some v) (hm : MapF V w g f) (hk : KeyLaw P K V) (hu : P.underlying t = some (.map K E))
    (q : ∀ w', MapF V w' g (fun k' => if k' = k then some v else f k') → Fr [g] w w' → w'.heap.size = w.heap.size → ∀ a, AgM ds a n L → wpList P ops Q rest a w') : wpList P ops Q (⟨none, .mapUpdate t x y z, ty, pos, after, none⟩ :: rest) a w := by
  obtain ⟨w', hr, h1, h2, h3⟩ := run_mapUpdate hm hk hu k v
  exact st_skip h rfl rfl (w' := w') (by simp [execOp, h.eval hx, h.eval hy, h.eval hz, hr]) (q w' h1 h2 h3)
end
end Go.Lw
namespace Go.Lw
/-- The cell of a package-level variable holds an int. -/
def IntAt (g : Nat) (w : World) : Prop := ∃ m : Int, w.cell? ⟨g, 0, none⟩ = some (.int .i64 m)
theorem IntAt.fr {g : Nat} {S : List Nat} {w w' : World} (h : IntAt g w) (hf : Fr S w w') (hn : g ∉ S) : IntAt g w' := let ⟨m, hm⟩ := h; ⟨m, hf.cell hm hn⟩
theorem IntAt.ext {g : Nat} {w w' : World} (h : IntAt g w) (hf : Fr [] w w') : IntAt g w' := h.fr hf (by simp)
theorem IntAt.lt {g : Nat} {w : World} (h : IntAt g w) : g < w.heap.size := let ⟨_, hm⟩ := h; block_lt_of_cell hm
end Go.Lw
namespace Go.Lw
section
variable {P : Program} {a : Act} {n : Nat} {L : List (Nat × Value)} {ds : List Nat} {w w' : World} {Q : Exit → Act → World → Prop} {ops : Array Oper} {rest : List Oper}
variable {d : Nat} {ty : TypeId} {pos : String} {after : Array Edge} {x y : Operand} {t t' T : TypeId} {A : Option Addr} {m c : Nat}
end
end Go.Lw
namespace Go.Proofs.YthehggmdcmpjeaaDoor
open Go.Lw Go.G14
theorem ag100 : AggOf Tryd.prog 100 5 := ⟨fun _ => by kernel_rfl, fun _ => by kernel_rfl⟩
theorem co68 : CallOf Tryd.prog 68 := CallOf.mk' Tryd.func68 (by kernel_rfl) (by kernel_rfl)
theorem co101 : CallOf Tryd.prog 101 := CallOf.mk' Tryd.func101 (by kernel_rfl) (by kernel_rfl)
theorem co102 : CallOf Tryd.prog 102 := CallOf.mk' Tryd.func102 (by kernel_rfl) (by kernel_rfl)
theorem el76 : ElemOf Tryd.prog 76 5 Enc.b 1 := ElemOf.mk' (z := (.int .u8 0)) Tryd.underlying76 (by kernel_rfl) rfl
theorem fa100_0 : FieldAt Tryd.prog 100 0 0 := fun _ _ => by kernel_rfl
theorem fa100_1 : FieldAt Tryd.prog 100 1 1 := fun _ _ => by kernel_rfl
theorem fa100_2 : FieldAt Tryd.prog 100 2 2 := fun _ _ => by kernel_rfl
theorem fa100_3 : FieldAt Tryd.prog 100 3 3 := fun _ _ => by kernel_rfl
theorem fa100_4 : FieldAt Tryd.prog 100 4 4 := fun _ _ => by kernel_rfl
theorem hmix : Tryd.prog.follows .mixedOrders = true := by kernel_rfl
theorem na3 : NotAgg Tryd.prog 3 := fun _ => by kernel_rfl
theorem na4 : NotAgg Tryd.prog 4 := fun _ => by kernel_rfl
theorem na5 : NotAgg Tryd.prog 5 := fun _ => by kernel_rfl
theorem na87 : NotAgg Tryd.prog 87 := fun _ => by kernel_rfl
theorem sz5 : SizeOf Tryd.prog 5 1 := fun _ => by kernel_rfl
theorem digit_ok (n : Int) (w0 : World) (h0 : 0 ≤ n) (h1 : n ≤ 9) : Rets Tryd.prog 102 #[.int .i64 n] w0 fun v w' => v = .int .u8 ((dg n).toNat : Int) ∧ w0 = w' := by
 refine enter [(0, .int .i64 n)] Tryd.func102 rfl Tryd.ntmps102 rfl (.cons rfl .nil) ?_
 intro a h
 refine wp_seq ?_
 refine wR ?_
 refine st_assign h rfl rfl ?_; clear h a; intro a h
 replace h : Ag a 6 [(0, _)] := h.sub (.cons rfl .nil)
 refine wnt ?_
 refine wp_seq ?_
 refine wR ?_
 refine st_move h rfl rfl ?_; clear h a; intro a h
 refine st_add h rfl rfl (by first | exact IntWalk.i64_in _ (by omega) | rfl) rfl ?_; clear h a; intro a h
 refine st_conv h rfl (by rw [Tryd.underlying3]; rfl) Tryd.underlying5 (by first | exact IntWalk.u8_in _ (by omega) | rfl) rfl ?_; clear h a; intro a h
 refine st_assign h rfl rfl ?_; clear h a; intro a h
 replace h : Ag a 6 [(2, _)] := h.sub (.cons rfl .nil)
 refine wnt ?_
 refine wp_ret ?_
 refine ret1 h Tryd.results102 rfl ?_
 exact ⟨_, rfl, by rw [dg_val n h0 h1], rfl⟩
theorem put_ok (l m : List UInt8) (x : Value) (w0 : World) (hx : Sl Enc.b w0 x m) (hb : l.length + m.length ≤ 9223372036854775807) : Rets Tryd.prog 101 #[S l, x] w0 fun v w' => v = S (l ++ m) ∧ w0 = w' := by
 refine enter [(0, S l), (1, x)] Tryd.func101 rfl Tryd.ntmps101 rfl (.cons rfl (.cons rfl .nil)) ?_
 intro a h
 refine wp_seq ?_
 refine wR ?_
 refine st_assign h rfl rfl ?_; clear h a; intro a h
 replace h : Ag a 9 [(0, _), (1, _)] := h.sub (.cons rfl (.cons rfl .nil))
 refine wnt ?_
 refine wp_seq ?_
 refine wR ?_
 refine st_move h rfl rfl ?_; clear h a; intro a h
 refine st_move h rfl rfl ?_; clear h a; intro a h
 refine st_b2s h rfl (by assumption) el76 Tryd.underlying5 Tryd.underlying9 rfl ?_; clear h a; intro a h
 refine st_adds h rfl rfl (by exact hb) rfl ?_; clear h a; intro a h
 refine st_assign h rfl rfl ?_; clear h a; intro a h
 replace h : Ag a 9 [(4, _)] := h.sub (.cons rfl .nil)
 refine wnt ?_
 refine wp_ret ?_
 refine ret1 h Tryd.results101 rfl ?_
 exact ⟨_, rfl, rfl, rfl⟩
theorem check_ok (s : Stitch) (w0 : World) : Rets Tryd.prog 68 #[stV s] w0 fun v w' => v = .int .i64 (checkS s) ∧ Fr [] w0 w' := by
 refine enter [(0, stV s)] Tryd.func68 rfl Tryd.ntmps68 rfl (.cons rfl .nil) ?_
 have hf := Fr.refl [] w0
 intro a h
 refine wp_seq ?_
 refine wR ?_
 refine st_box h rfl rfl rfl ?_; clear h a; intro w1 hb1 hq hz a h
 obtain ⟨g_1, hg⟩ : ∃ g, g = w0.heap.size := ⟨_, rfl⟩; rw [← hg] at hb1 h hz
 have hl1 : w0.heap.size ≤ g_1 := by have := hf.size; omega
 replace hf := hf.next hq
 clear hq hz hg
 refine st_assign h rfl rfl ?_; clear h a; intro a h
 replace h : Ag a 57 [(1, _)] := h.sub (.cons rfl .nil)
 refine wnt ?_
 refine wp_seq ?_
 refine wp_seq ?_
 refine region_bool (r := 20) (L' := [(1, _)]) (s.k < 1 ∨ 8 < s.k ∨ s.y < 1 ∨ 6 < s.y) h (.cons rfl .nil) ?_ ?_
 ·refine id ?_
  refine st_fieldAddr h rfl fa100_0 rfl ?_; clear h a; intro a h
  refine st_loadB h rfl hb1 rfl na87 rfl ?_; clear h a; intro a h
  refine st_lt h rfl rfl rfl ?_; clear h a; intro a h
  refine st_move h rfl rfl ?_; clear h a; intro a h
  first | refine guard_dec (D := 6) h rfl ?_ ?_ | refine guard_ndec (D := 6) h rfl ?_ ?_ | refine guard_any (D := 6) h rfl ?_ ?_
  ·clear h; intro g0 h
   refine gd_no h rfl rfl rfl rfl rfl rfl rfl rfl ?_; clear h a; intro a h
   refine gd_no h rfl rfl rfl rfl rfl rfl rfl rfl ?_; clear h a; intro a h
   refine gd_no h rfl rfl rfl rfl rfl rfl rfl rfl ?_; clear h a; intro a h
   refine st_pick_t h rfl rfl rfl rfl ?_; clear h a; intro a h
   refine st_move h rfl rfl ?_; clear h a; intro a h
   refine gd_no h rfl rfl rfl rfl rfl rfl rfl rfl ?_; clear h a; intro a h
   refine gd_no h rfl rfl rfl rfl rfl rfl rfl rfl ?_; clear h a; intro a h
   refine gd_no h rfl rfl rfl rfl rfl rfl rfl rfl ?_; clear h a; intro a h
   refine st_pick_t h rfl rfl rfl rfl ?_; clear h a; intro a h
   refine st_move h rfl rfl ?_; clear h a; intro a h
   refine gd_no h rfl rfl rfl rfl rfl rfl rfl rfl ?_; clear h a; intro a h
   refine gd_no h rfl rfl rfl rfl rfl rfl rfl rfl ?_; clear h a; intro a h
   refine gd_no h rfl rfl rfl rfl rfl rfl rfl rfl ?_; clear h a; intro a h
   refine st_pick_t h rfl rfl rfl rfl ?_; clear h a; intro a h
   exact wpList_nil (bool_end h rfl (by first | exact bt (by omega) | exact bf (by omega) | exact bi (by omega) | exact bn (by omega)) (.cons rfl .nil))
  ·clear h; intro g0 h
   refine gd_yes h rfl rfl rfl rfl rfl rfl ?_
   refine st_fieldAddr h rfl fa100_0 rfl ?_; clear h a; intro a h
   refine gd_yes h rfl rfl rfl rfl rfl rfl ?_
   refine st_loadB h rfl hb1 rfl na87 rfl ?_; clear h a; intro a h
   refine gd_yes h rfl rfl rfl rfl rfl rfl ?_
   refine st_gt h rfl rfl rfl ?_; clear h a; intro a h
   refine st_pick_f h rfl rfl rfl rfl ?_; clear h a; intro a h
   refine st_move h rfl rfl ?_; clear h a; intro a h
   first | refine guard_dec (D := 11) h rfl ?_ ?_ | refine guard_ndec (D := 11) h rfl ?_ ?_ | refine guard_any (D := 11) h rfl ?_ ?_
   ·clear h; intro g1 h
    refine gd_no h rfl rfl rfl rfl rfl rfl rfl rfl ?_; clear h a; intro a h
    refine gd_no h rfl rfl rfl rfl rfl rfl rfl rfl ?_; clear h a; intro a h
    refine gd_no h rfl rfl rfl rfl rfl rfl rfl rfl ?_; clear h a; intro a h
    refine st_pick_t h rfl rfl rfl rfl ?_; clear h a; intro a h
    refine st_move h rfl rfl ?_; clear h a; intro a h
    refine gd_no h rfl rfl rfl rfl rfl rfl rfl rfl ?_; clear h a; intro a h
    refine gd_no h rfl rfl rfl rfl rfl rfl rfl rfl ?_; clear h a; intro a h
    refine gd_no h rfl rfl rfl rfl rfl rfl rfl rfl ?_; clear h a; intro a h
    refine st_pick_t h rfl rfl rfl rfl ?_; clear h a; intro a h
    exact wpList_nil (bool_end h rfl (by first | exact bt (by omega) | exact bf (by omega) | exact bi (by omega) | exact bn (by omega)) (.cons rfl .nil))
   ·clear h; intro g1 h
    refine gd_yes h rfl rfl rfl rfl rfl rfl ?_
    refine st_fieldAddr h rfl fa100_1 rfl ?_; clear h a; intro a h
    refine gd_yes h rfl rfl rfl rfl rfl rfl ?_
    refine st_loadB h rfl hb1 rfl na5 rfl ?_; clear h a; intro a h
    refine gd_yes h rfl rfl rfl rfl rfl rfl ?_
    refine st_lt h rfl rfl rfl ?_; clear h a; intro a h
    refine st_pick_f h rfl rfl rfl rfl ?_; clear h a; intro a h
    refine st_move h rfl rfl ?_; clear h a; intro a h
    first | refine guard_dec (D := 16) h rfl ?_ ?_ | refine guard_ndec (D := 16) h rfl ?_ ?_ | refine guard_any (D := 16) h rfl ?_ ?_
    ·clear h; intro g2 h
     refine gd_no h rfl rfl rfl rfl rfl rfl rfl rfl ?_; clear h a; intro a h
     refine gd_no h rfl rfl rfl rfl rfl rfl rfl rfl ?_; clear h a; intro a h
     refine gd_no h rfl rfl rfl rfl rfl rfl rfl rfl ?_; clear h a; intro a h
     refine st_pick_t h rfl rfl rfl rfl ?_; clear h a; intro a h
     exact wpList_nil (bool_end h rfl (by first | exact bt (by omega) | exact bf (by omega) | exact bi (by omega) | exact bn (by omega)) (.cons rfl .nil))
    ·clear h; intro g2 h
     refine gd_yes h rfl rfl rfl rfl rfl rfl ?_
     refine st_fieldAddr h rfl fa100_1 rfl ?_; clear h a; intro a h
     refine gd_yes h rfl rfl rfl rfl rfl rfl ?_
     refine st_loadB h rfl hb1 rfl na5 rfl ?_; clear h a; intro a h
     refine gd_yes h rfl rfl rfl rfl rfl rfl ?_
     refine st_gt h rfl rfl rfl ?_; clear h a; intro a h
     refine st_pick_f h rfl rfl rfl rfl ?_; clear h a; intro a h
     exact wpList_nil (bool_end h rfl (by first | exact bt (by omega) | exact bf (by omega) | exact bi (by omega) | exact bn (by omega)) (.cons rfl .nil))
 ·clear h a; intro a h
  refine (norm_then ?_)
  first | refine cond_dec h rfl (fun c0 => ?_) (fun c0 => ?_) | refine cond_ndec h rfl (fun c0 => ?_) (fun c0 => ?_) | refine cond_split h rfl (fun c0 => ?_) (fun c0 => ?_)
  ·refine id ?_
   refine wp_seq ?_
   refine wR ?_
   refine st_assign h rfl rfl ?_; clear h a; intro a h
   replace h : Ag a 57 [(2, _)] := h.sub (.cons rfl .nil)
   refine wnt ?_
   refine wp_ret (ret_then ?_)
   refine ret1 h Tryd.results68 rfl ?_
   exact ⟨_, rfl, by unfold checkS; (repeat' split) <;> first | rfl | (exfalso; first | omega | (simp_all; done) | (simp_all; omega)), hf⟩
  ·refine id ?_
   refine wsn ?_
   refine wp_seq ?_
   refine wp_seq ?_
   refine wR ?_
   refine st_fieldAddr h rfl fa100_0 rfl ?_; clear h a; intro a h
   refine st_loadB h rfl hb1 rfl na87 rfl ?_; clear h a; intro a h
   refine st_ne h rfl rfl rfl ?_; clear h a; intro a h
   replace h : Ag a 57 [(1, _), (23, _)] := h.sub (.cons rfl (.cons rfl .nil))
   refine wnt ?_
   first | refine cond_dec h rfl (fun c1 => ?_) (fun c1 => ?_) | refine cond_ndec h rfl (fun c1 => ?_) (fun c1 => ?_) | refine cond_split h rfl (fun c1 => ?_) (fun c1 => ?_)
   ·refine id ?_
    refine wp_seq ?_
    refine wp_seq ?_
    refine region_bool (r := 35) (L' := []) (s.a ≠ 0 ∨ s.b ≠ 0 ∨ s.f = true) h .nil ?_ ?_
    ·refine id ?_
     refine st_fieldAddr h rfl fa100_2 rfl ?_; clear h a; intro a h
     refine st_loadB h rfl hb1 rfl na3 rfl ?_; clear h a; intro a h
     refine st_ne h rfl rfl rfl ?_; clear h a; intro a h
     refine st_move h rfl rfl ?_; clear h a; intro a h
     first | refine guard_dec (D := 27) h rfl ?_ ?_ | refine guard_ndec (D := 27) h rfl ?_ ?_ | refine guard_any (D := 27) h rfl ?_ ?_
     ·clear h; intro g3 h
      refine gd_no h rfl rfl rfl rfl rfl rfl rfl rfl ?_; clear h a; intro a h
      refine gd_no h rfl rfl rfl rfl rfl rfl rfl rfl ?_; clear h a; intro a h
      refine gd_no h rfl rfl rfl rfl rfl rfl rfl rfl ?_; clear h a; intro a h
      refine st_pick_t h rfl rfl rfl rfl ?_; clear h a; intro a h
      refine st_move h rfl rfl ?_; clear h a; intro a h
      refine gd_no h rfl rfl rfl rfl rfl rfl rfl rfl ?_; clear h a; intro a h
      refine gd_no h rfl rfl rfl rfl rfl rfl rfl rfl ?_; clear h a; intro a h
      refine st_pick_t h rfl rfl rfl rfl ?_; clear h a; intro a h
      exact wpList_nil (bool_end h rfl (by simp_all) .nil)
     ·clear h; intro g3 h
      refine gd_yes h rfl rfl rfl rfl rfl rfl ?_
      refine st_fieldAddr h rfl fa100_3 rfl ?_; clear h a; intro a h
      refine gd_yes h rfl rfl rfl rfl rfl rfl ?_
      refine st_loadB h rfl hb1 rfl na3 rfl ?_; clear h a; intro a h
      refine gd_yes h rfl rfl rfl rfl rfl rfl ?_
      refine st_ne h rfl rfl rfl ?_; clear h a; intro a h
      refine st_pick_f h rfl rfl rfl rfl ?_; clear h a; intro a h
      refine st_move h rfl rfl ?_; clear h a; intro a h
      first | refine guard_dec (D := 32) h rfl ?_ ?_ | refine guard_ndec (D := 32) h rfl ?_ ?_ | refine guard_any (D := 32) h rfl ?_ ?_
      ·clear h; intro g4 h
       refine gd_no h rfl rfl rfl rfl rfl rfl rfl rfl ?_; clear h a; intro a h
       refine gd_no h rfl rfl rfl rfl rfl rfl rfl rfl ?_; clear h a; intro a h
       refine st_pick_t h rfl rfl rfl rfl ?_; clear h a; intro a h
       exact wpList_nil (bool_end h rfl (by simp_all) .nil)
      ·clear h; intro g4 h
       refine gd_yes h rfl rfl rfl rfl rfl rfl ?_
       refine st_fieldAddr h rfl fa100_4 rfl ?_; clear h a; intro a h
       refine gd_yes h rfl rfl rfl rfl rfl rfl ?_
       refine st_loadB h rfl hb1 rfl na4 rfl ?_; clear h a; intro a h
       refine st_pick_f h rfl rfl rfl rfl ?_; clear h a; intro a h
       exact wpList_nil (bool_end h rfl (by simp_all) .nil)
    ·clear h a; intro a h
     refine (norm_then ?_)
     first | refine cond_dec h rfl (fun c2 => ?_) (fun c2 => ?_) | refine cond_ndec h rfl (fun c2 => ?_) (fun c2 => ?_) | refine cond_split h rfl (fun c2 => ?_) (fun c2 => ?_)
     ·refine id ?_
      refine wp_seq ?_
      refine wR ?_
      refine st_assign h rfl rfl ?_; clear h a; intro a h
      replace h : Ag a 57 [(2, _)] := h.sub (.cons rfl .nil)
      refine wnt ?_
      refine wp_ret (ret_then (ret_then ?_))
      refine ret1 h Tryd.results68 rfl ?_
      exact ⟨_, rfl, by unfold checkS; (repeat' split) <;> first | rfl | (exfalso; first | omega | (simp_all; done) | (simp_all; omega)), hf⟩
     ·refine id ?_
      refine wsn ?_
      refine wp_seq ?_
      refine wR ?_
      refine st_assign h rfl rfl ?_; clear h a; intro a h
      replace h : Ag a 57 [(2, _)] := h.sub (.cons rfl .nil)
      refine wnt ?_
      refine wp_ret (ret_then ?_)
      refine ret1 h Tryd.results68 rfl ?_
      exact ⟨_, rfl, by unfold checkS; (repeat' split) <;> first | rfl | (exfalso; first | omega | (simp_all; done) | (simp_all; omega)), hf⟩
   ·refine id ?_
    refine wsn ?_
    refine wp_seq ?_
    refine wp_seq ?_
    refine region_bool (r := 56) (L' := []) (s.a < 1 ∨ 4 < s.a ∨ s.b < 1 ∨ 4 - s.a < s.b) h .nil ?_ ?_
    ·refine id ?_
     refine st_fieldAddr h rfl fa100_2 rfl ?_; clear h a; intro a h
     refine st_loadB h rfl hb1 rfl na3 rfl ?_; clear h a; intro a h
     refine st_lt h rfl rfl rfl ?_; clear h a; intro a h
     refine st_move h rfl rfl ?_; clear h a; intro a h
     first | refine guard_dec (D := 39) h rfl ?_ ?_ | refine guard_ndec (D := 39) h rfl ?_ ?_ | refine guard_any (D := 39) h rfl ?_ ?_
     ·clear h; intro g5 h
      refine gd_no h rfl rfl rfl rfl rfl rfl rfl rfl ?_; clear h a; intro a h
      refine gd_no h rfl rfl rfl rfl rfl rfl rfl rfl ?_; clear h a; intro a h
      refine gd_no h rfl rfl rfl rfl rfl rfl rfl rfl ?_; clear h a; intro a h
      refine st_pick_t h rfl rfl rfl rfl ?_; clear h a; intro a h
      refine st_move h rfl rfl ?_; clear h a; intro a h
      refine gd_no h rfl rfl rfl rfl rfl rfl rfl rfl ?_; clear h a; intro a h
      refine gd_no h rfl rfl rfl rfl rfl rfl rfl rfl ?_; clear h a; intro a h
      refine gd_no h rfl rfl rfl rfl rfl rfl rfl rfl ?_; clear h a; intro a h
      refine st_pick_t h rfl rfl rfl rfl ?_; clear h a; intro a h
      refine st_move h rfl rfl ?_; clear h a; intro a h
      refine gd_no h rfl rfl rfl rfl rfl rfl rfl rfl ?_; clear h a; intro a h
      refine gd_no h rfl rfl rfl rfl rfl rfl rfl rfl ?_; clear h a; intro a h
      refine gd_no h rfl rfl rfl rfl rfl rfl rfl rfl ?_; clear h a; intro a h
      refine gd_no h rfl rfl rfl rfl rfl rfl rfl rfl ?_; clear h a; intro a h
      refine gd_no h rfl rfl rfl rfl rfl rfl rfl rfl ?_; clear h a; intro a h
      refine gd_no h rfl rfl rfl rfl rfl rfl rfl rfl ?_; clear h a; intro a h
      refine st_pick_t h rfl rfl rfl rfl ?_; clear h a; intro a h
      exact wpList_nil (bool_end h rfl (by first | exact bt (by omega) | exact bf (by omega) | exact bi (by omega) | exact bn (by omega)) .nil)
     ·clear h; intro g5 h
      refine gd_yes h rfl rfl rfl rfl rfl rfl ?_
      refine st_fieldAddr h rfl fa100_2 rfl ?_; clear h a; intro a h
      refine gd_yes h rfl rfl rfl rfl rfl rfl ?_
      refine st_loadB h rfl hb1 rfl na3 rfl ?_; clear h a; intro a h
      refine gd_yes h rfl rfl rfl rfl rfl rfl ?_
      refine st_gt h rfl rfl rfl ?_; clear h a; intro a h
      refine st_pick_f h rfl rfl rfl rfl ?_; clear h a; intro a h
      refine st_move h rfl rfl ?_; clear h a; intro a h
      first | refine guard_dec (D := 44) h rfl ?_ ?_ | refine guard_ndec (D := 44) h rfl ?_ ?_ | refine guard_any (D := 44) h rfl ?_ ?_
      ·clear h; intro g6 h
       refine gd_no h rfl rfl rfl rfl rfl rfl rfl rfl ?_; clear h a; intro a h
       refine gd_no h rfl rfl rfl rfl rfl rfl rfl rfl ?_; clear h a; intro a h
       refine gd_no h rfl rfl rfl rfl rfl rfl rfl rfl ?_; clear h a; intro a h
       refine st_pick_t h rfl rfl rfl rfl ?_; clear h a; intro a h
       refine st_move h rfl rfl ?_; clear h a; intro a h
       refine gd_no h rfl rfl rfl rfl rfl rfl rfl rfl ?_; clear h a; intro a h
       refine gd_no h rfl rfl rfl rfl rfl rfl rfl rfl ?_; clear h a; intro a h
       refine gd_no h rfl rfl rfl rfl rfl rfl rfl rfl ?_; clear h a; intro a h
       refine gd_no h rfl rfl rfl rfl rfl rfl rfl rfl ?_; clear h a; intro a h
       refine gd_no h rfl rfl rfl rfl rfl rfl rfl rfl ?_; clear h a; intro a h
       refine gd_no h rfl rfl rfl rfl rfl rfl rfl rfl ?_; clear h a; intro a h
       refine st_pick_t h rfl rfl rfl rfl ?_; clear h a; intro a h
       exact wpList_nil (bool_end h rfl (by first | exact bt (by omega) | exact bf (by omega) | exact bi (by omega) | exact bn (by omega)) .nil)
      ·clear h; intro g6 h
       refine gd_yes h rfl rfl rfl rfl rfl rfl ?_
       refine st_fieldAddr h rfl fa100_3 rfl ?_; clear h a; intro a h
       refine gd_yes h rfl rfl rfl rfl rfl rfl ?_
       refine st_loadB h rfl hb1 rfl na3 rfl ?_; clear h a; intro a h
       refine gd_yes h rfl rfl rfl rfl rfl rfl ?_
       refine st_lt h rfl rfl rfl ?_; clear h a; intro a h
       refine st_pick_f h rfl rfl rfl rfl ?_; clear h a; intro a h
       refine st_move h rfl rfl ?_; clear h a; intro a h
       first | refine guard_dec (D := 49) h rfl ?_ ?_ | refine guard_ndec (D := 49) h rfl ?_ ?_ | refine guard_any (D := 49) h rfl ?_ ?_
       ·clear h; intro g7 h
        refine gd_no h rfl rfl rfl rfl rfl rfl rfl rfl ?_; clear h a; intro a h
        refine gd_no h rfl rfl rfl rfl rfl rfl rfl rfl ?_; clear h a; intro a h
        refine gd_no h rfl rfl rfl rfl rfl rfl rfl rfl ?_; clear h a; intro a h
        refine gd_no h rfl rfl rfl rfl rfl rfl rfl rfl ?_; clear h a; intro a h
        refine gd_no h rfl rfl rfl rfl rfl rfl rfl rfl ?_; clear h a; intro a h
        refine gd_no h rfl rfl rfl rfl rfl rfl rfl rfl ?_; clear h a; intro a h
        refine st_pick_t h rfl rfl rfl rfl ?_; clear h a; intro a h
        exact wpList_nil (bool_end h rfl (by first | exact bt (by omega) | exact bf (by omega) | exact bi (by omega) | exact bn (by omega)) .nil)
       ·clear h; intro g7 h
        refine gd_yes h rfl rfl rfl rfl rfl rfl ?_
        refine st_fieldAddr h rfl fa100_3 rfl ?_; clear h a; intro a h
        refine gd_yes h rfl rfl rfl rfl rfl rfl ?_
        refine st_loadB h rfl hb1 rfl na3 rfl ?_; clear h a; intro a h
        refine gd_yes h rfl rfl rfl rfl rfl rfl ?_
        refine st_fieldAddr h rfl fa100_2 rfl ?_; clear h a; intro a h
        refine gd_yes h rfl rfl rfl rfl rfl rfl ?_
        refine st_loadB h rfl hb1 rfl na3 rfl ?_; clear h a; intro a h
        refine gd_yes h rfl rfl rfl rfl rfl rfl ?_
        refine st_sub h rfl rfl (by first | exact IntWalk.i64_in _ (by omega) | rfl) rfl ?_; clear h a; intro a h
        refine gd_yes h rfl rfl rfl rfl rfl rfl ?_
        refine st_gt h rfl rfl rfl ?_; clear h a; intro a h
        refine st_pick_f h rfl rfl rfl rfl ?_; clear h a; intro a h
        exact wpList_nil (bool_end h rfl (by first | exact bt (by omega) | exact bf (by omega) | exact bi (by omega) | exact bn (by omega)) .nil)
    ·clear h a; intro a h
     refine (norm_then ?_)
     first | refine cond_dec h rfl (fun c3 => ?_) (fun c3 => ?_) | refine cond_ndec h rfl (fun c3 => ?_) (fun c3 => ?_) | refine cond_split h rfl (fun c3 => ?_) (fun c3 => ?_)
     ·refine id ?_
      refine wp_seq ?_
      refine wR ?_
      refine st_assign h rfl rfl ?_; clear h a; intro a h
      replace h : Ag a 57 [(2, _)] := h.sub (.cons rfl .nil)
      refine wnt ?_
      refine wp_ret (ret_then ?_)
      refine ret1 h Tryd.results68 rfl ?_
      exact ⟨_, rfl, by unfold checkS; (repeat' split) <;> first | rfl | (exfalso; first | omega | (simp_all; done) | (simp_all; omega)), hf⟩
     ·refine id ?_
      refine wsn ?_
      refine wp_seq ?_
      refine wR ?_
      refine st_assign h rfl rfl ?_; clear h a; intro a h
      replace h : Ag a 57 [(2, _)] := h.sub (.cons rfl .nil)
      refine wnt ?_
      refine wp_ret ?_
      refine ret1 h Tryd.results68 rfl ?_
      exact ⟨_, rfl, by unfold checkS; (repeat' split) <;> first | rfl | (exfalso; first | omega | (simp_all; done) | (simp_all; omega)), hf⟩
theorem text_ok (s : Stitch) (w0 : World) (hy : Sym w0) : Rets Tryd.prog 90 #[stV s] w0 fun v w' => v = S (textS s) ∧ Fr [] w0 w' := by
 refine enter [(0, stV s)] Tryd.func90 rfl Tryd.ntmps90 rfl (.cons rfl .nil) ?_
 have hf := Fr.refl [] w0
 intro a h
 refine wp_seq ?_
 refine wR ?_
 refine st_box h rfl rfl rfl ?_; clear h a; intro w1 hb1 hq hz a h
 obtain ⟨g_1, hg⟩ : ∃ g, g = w0.heap.size := ⟨_, rfl⟩; rw [← hg] at hb1 h hz
 have hl1 : w0.heap.size ≤ g_1 := by have := hf.size; omega
 replace hf := hf.next hq
 replace hy := hy.ext hq
 clear hq hz hg
 refine st_assign h rfl rfl ?_; clear h a; intro a h
 replace h : Ag a 41 [(1, _)] := h.sub (.cons rfl .nil)
 refine wnt ?_
 refine wp_seq ?_
 refine wp_seq ?_
 refine wR ?_
 refine st_loadBA h rfl hb1 ag100 rfl ?_; clear h a; intro a h
 refine st_call h (evs_cons rfl evs_nil) co68 (check_ok _ _) rfl ?_; clear h a; rintro _ w2 ⟨rfl, hq⟩ a h
 replace hf := hf.next hq
 replace hy := hy.ext hq
 replace hb1 := hb1.ext hq
 clear hq
 refine st_ne h rfl rfl rfl ?_; clear h a; intro a h
 replace h : Ag a 41 [(1, _), (7, _)] := h.sub (.cons rfl (.cons rfl .nil))
 refine wnt ?_
 first | refine cond_dec h rfl (fun c0 => ?_) (fun c0 => ?_) | refine cond_ndec h rfl (fun c0 => ?_) (fun c0 => ?_) | refine cond_split h rfl (fun c0 => ?_) (fun c0 => ?_)
 ·refine id ?_
  refine wp_seq ?_
  refine wR ?_
  refine st_assign h rfl rfl ?_; clear h a; intro a h
  replace h : Ag a 41 [(2, _)] := h.sub (.cons rfl .nil)
  refine wnt ?_
  refine wp_ret (ret_then ?_)
  refine ret1 h Tryd.results90 rfl ?_
  exact ⟨_, rfl, by rw [textS, if_pos (by assumption)]; rfl, hf⟩
 ·have hc : checkS s = 0 := by omega
  obtain ⟨k1, k8, y1, y6, kn, ky⟩ := check_rng hc
  refine wsn ?_
  refine wp_seq ?_
  refine wR ?_
  refine st_fieldAddr h rfl fa100_0 rfl ?_; clear h a; intro a h
  refine st_loadB h rfl hb1 rfl na87 rfl ?_; clear h a; intro a h
  refine st_sub h rfl rfl (by first | exact IntWalk.u8_in _ (by omega) | rfl) rfl ?_; clear h a; intro a h
  refine st_idxA h rfl rfl Tryd.underlying168 sz5 (by omega) (by omega) rfl ?_; clear h a; intro a h
  refine st_load h rfl (hy.at _ (by omega)) na5 rfl ?_; clear h a; intro a h
  refine st_bslice ([symbols.getD (s.k - 1).toNat 0]) h (evs_cons rfl evs_nil) rfl rfl rfl el76 (Nat.le_of_ble_eq_true rfl) rfl ?_; clear h a; intro g_13 w3 hg ho13 hq hz a h
  have hn_1_13 : g_1 < g_13 := by have := hb1.lt; omega
  have hl13 : w0.heap.size ≤ g_13 := by have := hf.size; omega
  replace hf := hf.next hq
  replace hy := hy.ext hq
  replace hb1 := hb1.ext hq
  clear hq hz hg
  refine st_call h (evs_cons rfl (evs_cons rfl evs_nil)) co101 (put_ok _ _ _ _ ho13.sl (by simp)) rfl ?_; clear h a; rintro _ _ ⟨rfl, rfl⟩ a h
  refine st_assign h rfl rfl ?_; clear h a; intro a h
  replace h : Ag a 41 [(1, _), (3, _)] := h.sub (.cons rfl (.cons rfl .nil))
  refine wnt ?_
  refine wp_seq ?_
  refine wp_seq ?_
  refine wR ?_
  refine st_fieldAddr h rfl fa100_0 rfl ?_; clear h a; intro a h
  refine st_loadB h rfl hb1 rfl na87 rfl ?_; clear h a; intro a h
  refine st_eq h rfl rfl rfl ?_; clear h a; intro a h
  replace h : Ag a 41 [(1, _), (3, _), (17, _)] := h.sub (.cons rfl (.cons rfl (.cons rfl .nil)))
  refine wnt ?_
  first | refine cond_dec h rfl (fun c1 => ?_) (fun c1 => ?_) | refine cond_ndec h rfl (fun c1 => ?_) (fun c1 => ?_) | refine cond_split h rfl (fun c1 => ?_) (fun c1 => ?_)
  ·refine id ?_
   refine wp_seq ?_
   refine wR ?_
   refine st_assign h rfl rfl ?_; clear h a; intro a h
   replace h : Ag a 41 [(1, _), (3, _), (4, _)] := h.sub (.cons rfl (.cons rfl (.cons rfl .nil)))
   refine wnt ?_
   refine wp_seq ?_
   refine wp_seq ?_
   refine wR ?_
   refine st_fieldAddr h rfl fa100_4 rfl ?_; clear h a; intro a h
   refine st_loadB h rfl hb1 rfl na4 rfl ?_; clear h a; intro a h
   replace h : Ag a 41 [(1, _), (3, _), (4, _), (19, _)] := h.sub (.cons rfl (.cons rfl (.cons rfl (.cons rfl .nil))))
   refine wnt ?_
   first | refine cond_dec h rfl (fun c2 => ?_) (fun c2 => ?_) | refine cond_ndec h rfl (fun c2 => ?_) (fun c2 => ?_) | refine cond_split h rfl (fun c2 => ?_) (fun c2 => ?_)
   ·refine id ?_
    refine wR ?_
    refine st_assign h rfl rfl ?_; clear h a; intro a h
    replace h : Ag a 41 [(1, _), (3, _), (4, _)] := h.sub (.cons rfl (.cons rfl (.cons rfl .nil)))
    refine wnt ?_
    refine region_held (fun wb w' => Fr [] wb w') hmix ?_; intro w4 hq
    replace hf := hf.next hq
    replace hy := hy.ext hq
    replace hb1 := hb1.ext hq
    replace ho13 := ho13.ext hq
    clear hq; have hC : Fr [] w4 w4 := Fr.refl _ _
    have hy_b := hy
    have hb1_b := hb1
    have ho13_b := ho13
    refine hd_move 0 (by kernel_rfl) (by kernel_rfl) (by kernel_rfl) hC h wn rfl rfl rfl ?_; clear h a; intro a h
    refine hd_fieldAddr 1 (by kernel_rfl) (by kernel_rfl) (by kernel_rfl) hC h wn rfl fa100_2 rfl rfl ?_; clear h a; intro a h
    refine hd_loadB 2 (by kernel_rfl) (by kernel_rfl) (by kernel_rfl) hC h wn rfl (fun _ hw => hb1_b.ext hw) rfl na3 rfl rfl ?_; clear h a; intro a h
    refine hd_fieldAddr 4 (by kernel_rfl) (by kernel_rfl) (by kernel_rfl) hC h wn rfl fa100_3 rfl rfl ?_; clear h a; intro a h
    refine hd_loadB 5 (by kernel_rfl) (by kernel_rfl) (by kernel_rfl) hC h wn rfl (fun _ hw => hb1_b.ext hw) rfl na3 rfl rfl ?_; clear h a; intro a h
    refine hd_move 7 (by kernel_rfl) (by kernel_rfl) (by kernel_rfl) hC h wn rfl rfl rfl ?_; clear h a; intro a h
    refine hd_one 3 (by kernel_rfl) rfl ?_
    refine st_call h (evs_cons rfl evs_nil) co102 (digit_ok _ _ (by omega) (by omega)) rfl ?_; clear h a; rintro _ _ ⟨rfl, rfl⟩ a h
    refine hd_next hC ?_
    refine hd_one 6 (by kernel_rfl) rfl ?_
    refine st_call h (evs_cons rfl evs_nil) co102 (digit_ok _ _ (by omega) (by omega)) rfl ?_; clear h a; rintro _ _ ⟨rfl, rfl⟩ a h
    refine hd_next hC ?_
    refine hd_one 8 (by kernel_rfl) rfl ?_
    refine st_bslice ([dg s.a, dg s.b, if s.f then 70 else 66]) h (evs_cons rfl (evs_cons rfl (evs_cons rfl evs_nil))) rfl (by rw [c2]; rfl) rfl el76 (Nat.le_of_ble_eq_true rfl) rfl ?_; clear h a; intro g_28 w5 hg ho28 hq hz a h
    have hn_1_28 : g_1 < g_28 := by have := hb1.lt; omega
    have hl28 : w0.heap.size ≤ g_28 := by have := hf.size; omega
    replace hf := hf.next hq
    replace hy := hy.ext hq
    replace hb1 := hb1.ext hq
    replace ho13 := ho13.ext hq
    replace hC := hC.next hq
    clear hq hz hg
    refine hd_next hC ?_
    refine hd_one 9 (by kernel_rfl) rfl ?_
    refine st_call h (evs_cons rfl (evs_cons rfl evs_nil)) co101 (put_ok _ _ _ _ ho28.sl (by simp)) rfl ?_; clear h a; rintro _ _ ⟨rfl, rfl⟩ a h
    refine hd_next hC ?_
    refine hd_one 10 (by kernel_rfl) rfl ?_
    refine st_assign h rfl rfl ?_; clear h a; intro a h
    refine hd_next hC ?_
    refine hd_end (by kernel_rfl) ?_
    clear hC hy_b hb1_b ho13_b
    replace h : Ag a 41 [(1, _), (3, _)] := h.sub (.cons rfl (.cons rfl .nil))
    refine (norm_then ?_)
    refine wp_seq ?_
    refine wp_seq ?_
    refine wR ?_
    refine st_fieldAddr h rfl fa100_1 rfl ?_; clear h a; intro a h
    refine st_loadB h rfl hb1 rfl na5 rfl ?_; clear h a; intro a h
    refine st_ne h rfl rfl rfl ?_; clear h a; intro a h
    replace h : Ag a 41 [(1, _), (3, _), (32, _)] := h.sub (.cons rfl (.cons rfl (.cons rfl .nil)))
    refine wnt ?_
    first | refine cond_dec h rfl (fun c3 => ?_) (fun c3 => ?_) | refine cond_ndec h rfl (fun c3 => ?_) (fun c3 => ?_) | refine cond_split h rfl (fun c3 => ?_) (fun c3 => ?_)
    ·refine id ?_
     refine wR ?_
     refine st_move h rfl rfl ?_; clear h a; intro a h
     refine st_fieldAddr h rfl fa100_1 rfl ?_; clear h a; intro a h
     refine st_loadB h rfl hb1 rfl na5 rfl ?_; clear h a; intro a h
     refine st_conv h rfl (by rw [Tryd.underlying5]; rfl) Tryd.underlying3 (by first | exact IntWalk.i64_in _ (by omega) | rfl) rfl ?_; clear h a; intro a h
     refine st_call h (evs_cons rfl evs_nil) co102 (digit_ok _ _ (by omega) (by omega)) rfl ?_; clear h a; rintro _ _ ⟨rfl, rfl⟩ a h
     refine st_bslice ([dg s.y]) h (evs_cons rfl evs_nil) rfl rfl rfl el76 (Nat.le_of_ble_eq_true rfl) rfl ?_; clear h a; intro g_38 w6 hg ho38 hq hz a h
     have hn_1_38 : g_1 < g_38 := by have := hb1.lt; omega
     have hl38 : w0.heap.size ≤ g_38 := by have := hf.size; omega
     replace hf := hf.next hq
     replace hy := hy.ext hq
     replace hb1 := hb1.ext hq
     replace ho13 := ho13.ext hq
     replace ho28 := ho28.ext hq
     clear hq hz hg
     refine st_call h (evs_cons rfl (evs_cons rfl evs_nil)) co101 (put_ok _ _ _ _ ho38.sl (by simp)) rfl ?_; clear h a; rintro _ _ ⟨rfl, rfl⟩ a h
     refine st_assign h rfl rfl ?_; clear h a; intro a h
     replace h : Ag a 41 [(3, _)] := h.sub (.cons rfl .nil)
     refine wnt ?_
     refine wp_seq ?_
     refine wR ?_
     refine st_move h rfl rfl ?_; clear h a; intro a h
     refine st_assign h rfl rfl ?_; clear h a; intro a h
     replace h : Ag a 41 [(2, _)] := h.sub (.cons rfl .nil)
     refine wnt ?_
     refine wp_ret ?_
     refine ret1 h Tryd.results90 rfl ?_
     exact ⟨_, rfl, by simp_all [textS], hf⟩
    ·refine id ?_
     refine wsn ?_
     refine wp_seq ?_
     refine wR ?_
     refine st_move h rfl rfl ?_; clear h a; intro a h
     refine st_assign h rfl rfl ?_; clear h a; intro a h
     replace h : Ag a 41 [(2, _)] := h.sub (.cons rfl .nil)
     refine wnt ?_
     refine wp_ret ?_
     refine ret1 h Tryd.results90 rfl ?_
     exact ⟨_, rfl, by simp_all [textS], hf⟩
   ·refine id ?_
    refine wsn ?_
    refine region_held (fun wb w' => Fr [] wb w') hmix ?_; intro w7 hq
    replace hf := hf.next hq
    replace hy := hy.ext hq
    replace hb1 := hb1.ext hq
    replace ho13 := ho13.ext hq
    clear hq; have hC : Fr [] w7 w7 := Fr.refl _ _
    have hy_b := hy
    have hb1_b := hb1
    have ho13_b := ho13
    refine hd_move 0 (by kernel_rfl) (by kernel_rfl) (by kernel_rfl) hC h wn rfl rfl rfl ?_; clear h a; intro a h
    refine hd_fieldAddr 1 (by kernel_rfl) (by kernel_rfl) (by kernel_rfl) hC h wn rfl fa100_2 rfl rfl ?_; clear h a; intro a h
    refine hd_loadB 2 (by kernel_rfl) (by kernel_rfl) (by kernel_rfl) hC h wn rfl (fun _ hw => hb1_b.ext hw) rfl na3 rfl rfl ?_; clear h a; intro a h
    refine hd_fieldAddr 4 (by kernel_rfl) (by kernel_rfl) (by kernel_rfl) hC h wn rfl fa100_3 rfl rfl ?_; clear h a; intro a h
    refine hd_loadB 5 (by kernel_rfl) (by kernel_rfl) (by kernel_rfl) hC h wn rfl (fun _ hw => hb1_b.ext hw) rfl na3 rfl rfl ?_; clear h a; intro a h
    refine hd_move 7 (by kernel_rfl) (by kernel_rfl) (by kernel_rfl) hC h wn rfl rfl rfl ?_; clear h a; intro a h
    refine hd_one 3 (by kernel_rfl) rfl ?_
    refine st_call h (evs_cons rfl evs_nil) co102 (digit_ok _ _ (by omega) (by omega)) rfl ?_; clear h a; rintro _ _ ⟨rfl, rfl⟩ a h
    refine hd_next hC ?_
    refine hd_one 6 (by kernel_rfl) rfl ?_
    refine st_call h (evs_cons rfl evs_nil) co102 (digit_ok _ _ (by omega) (by omega)) rfl ?_; clear h a; rintro _ _ ⟨rfl, rfl⟩ a h
    refine hd_next hC ?_
    refine hd_one 8 (by kernel_rfl) rfl ?_
    refine st_bslice ([dg s.a, dg s.b, if s.f then 70 else 66]) h (evs_cons rfl (evs_cons rfl (evs_cons rfl evs_nil))) rfl (by rw [c2]; rfl) rfl el76 (Nat.le_of_ble_eq_true rfl) rfl ?_; clear h a; intro g_28 w8 hg ho28 hq hz a h
    have hn_1_28 : g_1 < g_28 := by have := hb1.lt; omega
    have hl28 : w0.heap.size ≤ g_28 := by have := hf.size; omega
    replace hf := hf.next hq
    replace hy := hy.ext hq
    replace hb1 := hb1.ext hq
    replace ho13 := ho13.ext hq
    replace hC := hC.next hq
    clear hq hz hg
    refine hd_next hC ?_
    refine hd_one 9 (by kernel_rfl) rfl ?_
    refine st_call h (evs_cons rfl (evs_cons rfl evs_nil)) co101 (put_ok _ _ _ _ ho28.sl (by simp)) rfl ?_; clear h a; rintro _ _ ⟨rfl, rfl⟩ a h
    refine hd_next hC ?_
    refine hd_one 10 (by kernel_rfl) rfl ?_
    refine st_assign h rfl rfl ?_; clear h a; intro a h
    refine hd_next hC ?_
    refine hd_end (by kernel_rfl) ?_
    clear hC hy_b hb1_b ho13_b
    replace h : Ag a 41 [(1, _), (3, _)] := h.sub (.cons rfl (.cons rfl .nil))
    refine (norm_then ?_)
    refine wp_seq ?_
    refine wp_seq ?_
    refine wR ?_
    refine st_fieldAddr h rfl fa100_1 rfl ?_; clear h a; intro a h
    refine st_loadB h rfl hb1 rfl na5 rfl ?_; clear h a; intro a h
    refine st_ne h rfl rfl rfl ?_; clear h a; intro a h
    replace h : Ag a 41 [(1, _), (3, _), (32, _)] := h.sub (.cons rfl (.cons rfl (.cons rfl .nil)))
    refine wnt ?_
    first | refine cond_dec h rfl (fun c3 => ?_) (fun c3 => ?_) | refine cond_ndec h rfl (fun c3 => ?_) (fun c3 => ?_) | refine cond_split h rfl (fun c3 => ?_) (fun c3 => ?_)
    ·refine id ?_
     refine wR ?_
     refine st_move h rfl rfl ?_; clear h a; intro a h
     refine st_fieldAddr h rfl fa100_1 rfl ?_; clear h a; intro a h
     refine st_loadB h rfl hb1 rfl na5 rfl ?_; clear h a; intro a h
     refine st_conv h rfl (by rw [Tryd.underlying5]; rfl) Tryd.underlying3 (by first | exact IntWalk.i64_in _ (by omega) | rfl) rfl ?_; clear h a; intro a h
     refine st_call h (evs_cons rfl evs_nil) co102 (digit_ok _ _ (by omega) (by omega)) rfl ?_; clear h a; rintro _ _ ⟨rfl, rfl⟩ a h
     refine st_bslice ([dg s.y]) h (evs_cons rfl evs_nil) rfl rfl rfl el76 (Nat.le_of_ble_eq_true rfl) rfl ?_; clear h a; intro g_38 w9 hg ho38 hq hz a h
     have hn_1_38 : g_1 < g_38 := by have := hb1.lt; omega
     have hl38 : w0.heap.size ≤ g_38 := by have := hf.size; omega
     replace hf := hf.next hq
     replace hy := hy.ext hq
     replace hb1 := hb1.ext hq
     replace ho13 := ho13.ext hq
     replace ho28 := ho28.ext hq
     clear hq hz hg
     refine st_call h (evs_cons rfl (evs_cons rfl evs_nil)) co101 (put_ok _ _ _ _ ho38.sl (by simp)) rfl ?_; clear h a; rintro _ _ ⟨rfl, rfl⟩ a h
     refine st_assign h rfl rfl ?_; clear h a; intro a h
     replace h : Ag a 41 [(3, _)] := h.sub (.cons rfl .nil)
     refine wnt ?_
     refine wp_seq ?_
     refine wR ?_
     refine st_move h rfl rfl ?_; clear h a; intro a h
     refine st_assign h rfl rfl ?_; clear h a; intro a h
     replace h : Ag a 41 [(2, _)] := h.sub (.cons rfl .nil)
     refine wnt ?_
     refine wp_ret ?_
     refine ret1 h Tryd.results90 rfl ?_
     exact ⟨_, rfl, by simp_all [textS], hf⟩
    ·refine id ?_
     refine wsn ?_
     refine wp_seq ?_
     refine wR ?_
     refine st_move h rfl rfl ?_; clear h a; intro a h
     refine st_assign h rfl rfl ?_; clear h a; intro a h
     replace h : Ag a 41 [(2, _)] := h.sub (.cons rfl .nil)
     refine wnt ?_
     refine wp_ret ?_
     refine ret1 h Tryd.results90 rfl ?_
     exact ⟨_, rfl, by simp_all [textS], hf⟩
  ·refine id ?_
   refine wsn ?_
   refine wp_seq ?_
   refine wp_seq ?_
   refine wR ?_
   refine st_fieldAddr h rfl fa100_1 rfl ?_; clear h a; intro a h
   refine st_loadB h rfl hb1 rfl na5 rfl ?_; clear h a; intro a h
   refine st_ne h rfl rfl rfl ?_; clear h a; intro a h
   replace h : Ag a 41 [(1, _), (3, _), (32, _)] := h.sub (.cons rfl (.cons rfl (.cons rfl .nil)))
   refine wnt ?_
   first | refine cond_dec h rfl (fun c3 => ?_) (fun c3 => ?_) | refine cond_ndec h rfl (fun c3 => ?_) (fun c3 => ?_) | refine cond_split h rfl (fun c3 => ?_) (fun c3 => ?_)
   ·refine id ?_
    refine wR ?_
    refine st_move h rfl rfl ?_; clear h a; intro a h
    refine st_fieldAddr h rfl fa100_1 rfl ?_; clear h a; intro a h
    refine st_loadB h rfl hb1 rfl na5 rfl ?_; clear h a; intro a h
    refine st_conv h rfl (by rw [Tryd.underlying5]; rfl) Tryd.underlying3 (by first | exact IntWalk.i64_in _ (by omega) | rfl) rfl ?_; clear h a; intro a h
    refine st_call h (evs_cons rfl evs_nil) co102 (digit_ok _ _ (by omega) (by omega)) rfl ?_; clear h a; rintro _ _ ⟨rfl, rfl⟩ a h
    refine st_bslice ([dg s.y]) h (evs_cons rfl evs_nil) rfl rfl rfl el76 (Nat.le_of_ble_eq_true rfl) rfl ?_; clear h a; intro g_38 w10 hg ho38 hq hz a h
    have hn_1_38 : g_1 < g_38 := by have := hb1.lt; omega
    have hl38 : w0.heap.size ≤ g_38 := by have := hf.size; omega
    replace hf := hf.next hq
    replace hy := hy.ext hq
    replace hb1 := hb1.ext hq
    replace ho13 := ho13.ext hq
    clear hq hz hg
    refine st_call h (evs_cons rfl (evs_cons rfl evs_nil)) co101 (put_ok _ _ _ _ ho38.sl (by simp)) rfl ?_; clear h a; rintro _ _ ⟨rfl, rfl⟩ a h
    refine st_assign h rfl rfl ?_; clear h a; intro a h
    replace h : Ag a 41 [(3, _)] := h.sub (.cons rfl .nil)
    refine wnt ?_
    refine wp_seq ?_
    refine wR ?_
    refine st_move h rfl rfl ?_; clear h a; intro a h
    refine st_assign h rfl rfl ?_; clear h a; intro a h
    replace h : Ag a 41 [(2, _)] := h.sub (.cons rfl .nil)
    refine wnt ?_
    refine wp_ret ?_
    refine ret1 h Tryd.results90 rfl ?_
    exact ⟨_, rfl, by simp_all [textS], hf⟩
   ·refine id ?_
    refine wsn ?_
    refine wp_seq ?_
    refine wR ?_
    refine st_move h rfl rfl ?_; clear h a; intro a h
    refine st_assign h rfl rfl ?_; clear h a; intro a h
    replace h : Ag a 41 [(2, _)] := h.sub (.cons rfl .nil)
    refine wnt ?_
    refine wp_ret ?_
    refine ret1 h Tryd.results90 rfl ?_
    exact ⟨_, rfl, by simp_all [textS], hf⟩
end Go.Proofs.YthehggmdcmpjeaaDoor
namespace Go.Lw
open Go.ChangeShapes Go.WideShapes Go.ChangeAt Go.RowKit

section
variable {H : Type} {enc : TypeId × Value → H} {P : Program}
theorem trodAll_stays (hl : laidOutB P = true) {W W' : World} (hb : Below W.heap.size W W') {sp : Nat → Bool} : ∀ {ts : List TypeId} {vs : List Value} {ds : List (DataW H)} {ps : List MemPlace},
    (∀ t ∈ ts, P.readableRec t = true ∧ t < P.types.size) → (∀ p ∈ ps, sp p.block = true) → (∀ p ∈ ps, p.block < W.heap.size) → DataW.TrodAll enc P W 0 (fun _ => true) true ts vs ds ps → DataW.TrodAll enc P W' 0 sp true ts vs ds ps
  | [], vs, ds, ps, _, _, _, h => by
    obtain ⟨rfl, rfl, rfl⟩ := trodAll_nil h
    exact trodAll_mk0
  | t :: ts, vs, ds, ps, ht, hs, hlt, h => by
    obtain ⟨v, vs', d, ds', p, q, rfl, rfl, rfl, h1, h2⟩ := trodAll_cons h
    refine trodAll_cons_mk (WideElems.Trod_stays hl (ht t (by simp)).1 (ht t (by simp)).2 h1 (fun x hx => hb.same (hlt x (by simp [hx]))) (fun x hx => hs x (by simp [hx]))) ?_
    exact trodAll_stays hl hb (fun t' h' => ht t' (by simp [h'])) (fun x hx => hs x (by simp [hx])) (fun x hx => hlt x (by simp [hx])) h2

/-- A law that returned true and turned nothing old. -/
theorem post_true {f : Func} {s : ChangeSpec} {apart fresh handsOn again : Bool} {W W' : World} {args : Array Value} {ds : List (DataW H)} {before : List MemPlace} {tb : TypeId}
    (hW : DataW.Whole enc P f.params.toList s.vars apart W args.toList ds [] before) (hv : s.vars = []) (hfn : s.fn H ds = { results := [.lit (.bool true)], args := ds }) (hf : Fr [] W W')
    (hl : laidOutB P = true) (hr : ∀ t ∈ f.params.toList, P.readableRec t = true ∧ t < P.types.size) (hrt : f.resultTypes = #[tb]) (hbt : P.underlying tb = some .bool) : s.post enc P f apart fresh handsOn again W args (.bool true) W' := by
  have hb := hf.below
  have hlt := hW.lt
  have hW' := hW
  obtain ⟨pa, pv, hA, hV, rfl, hz, hn⟩ := hW
  rw [hv] at hV
  obtain ⟨-, rfl⟩ := trodVars_none hV
  rw [List.append_nil] at hW' hlt hz hn
  have hargs : ∀ sp : Nat → Bool, (∀ p ∈ pa, sp p.block = true) → DataW.TrodAll enc P W' 0 sp true f.params.toList args.toList (s.fn H (ds ++ [])).args pa := by
    intro sp hsp
    rw [List.append_nil, hfn]
    exact trodAll_stays hl hb hr hsp hlt hA
  have hres : ∀ (b : Nat) (sp : Nat → Bool) (hd : Bool), DataW.TrodAll enc P W' b sp hd f.resultTypes.toList ((Value.bool true).resultList f.resultTypes.size) (s.fn H (ds ++ [])).results [] := by
    intro b sp hd
    rw [List.append_nil, hfn, hrt]
    exact trodAll_cons_mk (shut_bool hbt true) trodAll_mk0
  have hvars : ∀ sp : Nat → Bool, DataW.TrodVars enc P W' sp s.vars (s.fn H (ds ++ [])).vars [] := by
    intro sp
    rw [hv, List.append_nil, hfn]
    rfl
  have hold : ∀ p ∈ pa, (fun b => decide (b < W.heap.size)) p.block = true := fun p hp => by simpa using hlt p hp
  refine ⟨ds, [], pa, [], pa, [], hW', hres _ _ _, hargs _ hold, hvars _, World.keptBut_mono (fun p hp => ⟨hp, by simp [hp]⟩) (hb.frame _), fun _ => ⟨ok_one hrt rfl (okWide_bool_mk hbt true), _, _, ([] ++ pa) ++ [], ⟨[] ++ pa, [], trodAll_append (hargs _ (fun _ _ => rfl)) (hres _ _ _), hvars _, rfl, ?_, ?_⟩, ?_⟩⟩
  · intro b off hp
    have hp' : MemPlace.cell b off ∈ pa := by simpa using hp
    rw [hb.frozen (hlt _ hp')]
    exact hz b off hp'
  · intro ha
    simpa using hn ha
  · intro p hp _
    simpa using hp
/-- The walk's contract, as the row asks it. -/
theorem calls_true {f : FuncId} {fn : Func} {s : ChangeSpec} {apart fresh handsOn again : Bool} {W : World} {args : Array Value} {ds : List (DataW H)} {before : List MemPlace} {tb : TypeId}
    (hw : Rets P f args W fun v w' => v = .bool true ∧ Fr [] W w')
    (hW : DataW.Whole enc P fn.params.toList s.vars apart W args.toList ds [] before) (hv : s.vars = []) (hfn : s.fn H ds = { results := [.lit (.bool true)], args := ds })
    (hl : laidOutB P = true) (hr : ∀ t ∈ fn.params.toList, P.readableRec t = true ∧ t < P.types.size) (hrt : fn.resultTypes = #[tb]) (hbt : P.underlying tb = some .bool) :
    Calls P f args W fun e W' => ∃ v, e = .returned v ∧ s.post enc P fn apart fresh handsOn again W args v W' :=
  Calls.mono hw fun e w' ⟨v, he, hv', hf⟩ => ⟨v, he, by subst hv'; exact post_true hW hv hfn hf hl hr hrt hbt⟩
end

theorem str_len {b : ByteArray} (h : b.size ≤ maxLen) : b.data.toList.length ≤ 9223372036854775807 := by
  have hm : maxLen = 9223372036854775807 := by decide +kernel
  rw [Array.length_toList, ← hm]; exact h
/-! Worlds for the witness: the settled one, the listed tables of numbers laid. -/
def litV {H : Type} : DataW H → Value
  | .lit (.int k z) => .int k z
  | .lit (.string s) => .string ⟨s.toArray⟩
  | _ => .bool false
def itemV {H : Type} : DataW H → List Value
  | .agg es => es.map litV
  | d => [litV d]
def tabV {H : Type} : DataW H → Array Value
  | .agg ds => (ds.flatMap itemV).toArray
  | _ => #[]
def layW (w : World) (g : Nat) (cs : Array Value) : World :=
  { w with heap := w.heap.modify g fun
      | .cells _ t fr => .cells cs t fr
      | o => o }
noncomputable def laidW (P : Program) (os : Os) (laid : List (String × DataW Unit)) : World :=
  laid.foldl (fun w p => match P.globalNamed p.1 with
    | some g => layW w g (tabV p.2)
    | none => w) (World.holding P os ⟨#[], #[], []⟩)
end Go.Lw
namespace Go.Proofs.YthehggmdcmpjeaaDoor
open Go.ChangeShapes Go.WideShapes Go.ChangeAt Go.RowKit Go.Lw

open Go.G14
theorem own : ownKnob Tryd.prog.godebug = none := by kernel_rfl
theorem laidOut : laidOutB Tryd.prog = true := by kernel_rfl
theorem gSym : Tryd.prog.globalNamed "gansey/stitches.symbols" = some 1 := by kernel_rfl
theorem gSymT : (Tryd.prog.globals[1]?).map (·.type) = some 168 := by kernel_rfl
theorem cellsA : Tryd.prog.cellsOf 168 = 8 := by kernel_rfl
theorem cells1 : Tryd.prog.cellsOf 5 = 1 := by kernel_rfl
/-- What the rows list. -/
def laidL : List (String × DataW Unit) := [("gansey/stitches.symbols", Rows.laid_gansey_stitches_symbols), ("math/bits.deBruijn32tab", Rows.laid_math_bits_deBruijn32tab), ("math/bits.deBruijn64tab", Rows.laid_math_bits_deBruijn64tab), ("internal/strconv.uint64pow10", Rows.laid_internal_strconv_uint64pow10)]
theorem sym_of {W : World} (h : laidMetH Tryd.prog laidL W) : Sym W := by
  have ht : Lib.TabIs Tryd.prog W "gansey/stitches.symbols" .u8 [107, 112, 111, 47, 118, 116, 115, 99] :=
    Lib.tabIs_of_head (rest := laidL.drop 1) gSym gSymT Tryd.underlying168 Tryd.underlying5 cells1 cellsA h
  intro j u hu
  have hj : j < 8 := by
    have := (List.getElem?_eq_some_iff.1 hu).1
    rwa [show (symbols.flatMap Enc.b.enc).length = 8 from rfl] at this
  have hc := ht.cell gSym j hj
  rw [lit_add, Nat.zero_add, hc]
  match j, hj, hu with
  | 0, _, hu => exact hu
  | 1, _, hu => exact hu
  | 2, _, hu => exact hu
  | 3, _, hu => exact hu
  | 4, _, hu => exact hu
  | 5, _, hu => exact hu
  | 6, _, hu => exact hu
  | 7, _, hu => exact hu
noncomputable def witW (os : Os) : World := laidW Tryd.prog os laidL

end Go.Proofs.YthehggmdcmpjeaaDoor
namespace Go.Lw
open Go.ChangeShapes Go.WideShapes Go.ChangeAt Go.RowKit

/-- What is read at a type lies in cells as E says, and R is known of it. -/
def Opens (P : Program) (t : TypeId) {α : Type} (E : Enc α) (R : World → α → Prop) : Prop :=
  ∀ (H : Type) (enc : TypeId × Value → H) (w : World) (base : Nat) (sp : Nat → Bool) (held : Bool) (fuel : Nat) (cs : List Value) (x : DataW H × List MemPlace),
    DataW.trod enc P w base sp held fuel t cs = some x → ∃ y, cs = E.enc y ∧ R w y
def Enc.int (k : IntKind) : Enc Int := ⟨fun n => [.int k n], 1, fun _ => rfl, fun _ u h => by simp at h; subst h; rfl, by decide⟩
def Enc.bool : Enc Bool := ⟨fun n => [.bool n], 1, fun _ => rfl, fun _ u h => by simp at h; subst h; rfl, by decide⟩
def SlR {α : Type} (E : Enc α) (R : World → α → Prop) (w : World) (v : SV) : Prop := ∃ ys, Sl E w (slv v) ys ∧ ∀ y ∈ ys, R w y
section
variable {P : Program} {t e : TypeId}
theorem opens_int {k : IntKind} (hu : P.underlying t = some (.int k)) : Opens P t (Enc.int k) (fun _ n => k.min ≤ n ∧ n ≤ k.max) := by
  intro H enc w base sp held fuel cs x h
  obtain ⟨n, rfl, _, hw⟩ := DataW.trod_int hu h
  refine ⟨n, rfl, ?_⟩
  simpa [Lit.wf] using hw
theorem opens_i64 (hu : P.underlying t = some (.int .i64)) : Opens P t Enc.i64 (fun _ n => -9223372036854775808 ≤ n ∧ n ≤ 9223372036854775807) := by
  intro H enc w base sp held fuel cs x h
  obtain ⟨n, rfl, r⟩ := opens_int hu H enc w base sp held fuel cs x h
  exact ⟨n, rfl, r⟩
theorem opens_u8 (hu : P.underlying t = some (.int .u8)) : Opens P t Enc.u8 (fun _ n => 0 ≤ n ∧ n ≤ 255) := by
  intro H enc w base sp held fuel cs x h
  obtain ⟨n, rfl, r⟩ := opens_int hu H enc w base sp held fuel cs x h
  exact ⟨n, rfl, r⟩
theorem opens_bool (hu : P.underlying t = some .bool) : Opens P t Enc.bool (fun _ _ => True) := by
  intro H enc w base sp held fuel cs x h
  obtain ⟨b, rfl, _⟩ := DataW.trod_bool hu h
  exact ⟨b, rfl, trivial⟩
theorem opens_str (hu : P.underlying t = some .string) : Opens P t Enc.str (fun _ l => l.length ≤ 9223372036854775807) := by
  intro H enc w base sp held fuel cs x h
  obtain ⟨s, rfl, _, hs⟩ := DataW.trod_string hu h
  exact ⟨s.data.toList, by simp [Enc.str, S], str_len hs⟩
theorem opens_slice {α : Type} {E : Enc α} {R : World → α → Prop} (hu : P.underlying t = some (.slice e)) (hc : P.cellsOf e = E.sz) (ho : Opens P e E R) : Opens P t Enc.sl (SlR E R) := by
  intro H enc w base sp held fuel cs x h
  rcases DataW.trod_slice hu h with ⟨rfl, _⟩ | ⟨ad, len, cap, elems, rest, n, _, rfl, _, hb, hl, hm, hlen, hel, _⟩
  · exact ⟨(none, 0, 0), rfl, [], Sl.nil w, by simp⟩
  have each : ∀ i, i < len → ∃ y, Cells w (ad.add (i * E.sz)) (E.enc y) ∧ R w y := by
    intro i hi
    have h1 := hel i hi
    rw [List.getElem?_eq_getElem (by omega), Option.bind_eq_some_iff, hc] at h1
    obtain ⟨cs', h2, h3⟩ := h1
    obtain ⟨y, rfl, hR⟩ := ho H enc w base sp held n cs' _ h3
    obtain ⟨_, h5, h6⟩ := World.cells?_some h2
    refine ⟨y, fun j u hj => ?_, hR⟩
    have hjl : j < E.sz := by rw [← E.len y]; exact (List.getElem?_eq_some_iff.1 hj).1
    rw [h6 j hjl, hj]
  have all : ∀ m, m ≤ len → ∃ ys : List α, ys.length = m ∧ ∀ i y, ys[i]? = some y → Cells w (ad.add (i * E.sz)) (E.enc y) ∧ R w y := by
    intro m
    induction m with
    | zero => exact fun _ => ⟨[], rfl, fun i y h => by simp at h⟩
    | succ m ih =>
      intro hm
      obtain ⟨ys, h1, h2⟩ := ih (by omega)
      obtain ⟨y, h3⟩ := each m (by omega)
      refine ⟨ys ++ [y], by simp [h1], fun i z hz => ?_⟩
      rcases Nat.lt_or_ge i m with hi | hi
      · rw [List.getElem?_append_left (by omega)] at hz
        exact h2 i z hz
      · have hi' : i = m := by
          have := (List.getElem?_eq_some_iff.1 hz).1
          simp [h1] at this; omega
        subst hi'
        rw [List.getElem?_append_right (by omega), h1, Nat.sub_self] at hz
        simp at hz; subst hz
        exact h3
  obtain ⟨ys, h1, h2⟩ := all len (Nat.le_refl _)
  refine ⟨(some ad, len, cap), rfl, ys, ⟨some ad, cap, by simp [slv, h1], by omega, hm, fun i y hy => ⟨ad, rfl, (h2 i y hy).1⟩⟩, fun y hy => ?_⟩
  obtain ⟨i, hi⟩ := List.getElem?_of_mem hy
  exact (h2 i y hi).2
/-- A field of a struct. -/
theorem opens_field {H : Type} {enc : TypeId × Value → H} {w : World} {base : Nat} {sp : Nat → Bool} {held : Bool} {n : Nat} {cs : List Value} {xs : List (DataW H × List MemPlace)} {f : TypeId} {α : Type} {E : Enc α} {R : World → α → Prop} {i m : Nat}
    (h : DataW.trod enc P w base sp held n f cs = xs[i]?) (hl : xs.length = m) (hi : i < m) (ho : Opens P f E R) : ∃ y, cs = E.enc y ∧ R w y := by
  rw [List.getElem?_eq_getElem (by omega)] at h
  exact ho H enc w base sp held n cs _ h
theorem arg_struct {H : Type} {enc : TypeId × Value → H} {w : World} {base b0 : Nat} {r : Reach} {sp : Nat → Bool} {held : Bool} {v : Value} {d : DataW H} {ps : List MemPlace} {α : Type} {E : Enc α} {R : World → α → Prop} {fs : Array Field}
    (hu : P.underlying t = some (.struct fs)) (ho : Opens P t E R) (hv : Value.okWide P w r b0 t v) (hd : DataW.Trod enc P w base sp held t v d ps) : ∃ y, v = .agg (E.enc y).toArray ∧ R w y := by
  simp only [Value.okWide, hu] at hv
  obtain ⟨cs, rfl, _⟩ := hv
  obtain ⟨fuel, hf⟩ := hd
  obtain ⟨y, h1, h2⟩ := ho H enc w base sp held fuel _ _ hf
  refine ⟨y, ?_, h2⟩
  have h1' : cs.toList = E.enc y := h1
  rw [← h1']
end
end Go.Lw
namespace Go.G14
open Go.Lw

abbrev RowL := List (List Stitch)
structure Mot where
  L : RowL
  T : RowL
  R : RowL
def largeB (c : RowL) : Bool := decide (31 < c.length) || c.any fun r => decide (16 < r.length)
def goodB (c : RowL) : Bool := c.all fun r => r.all okB
def motE (m : Mot) : Int :=
  if largeB m.L = true ∨ largeB m.T = true ∨ largeB m.R = true then 3
  else if (m.L.length ≠ 0 ∧ m.L.length ≠ m.T.length) ∨ (m.R.length ≠ 0 ∧ m.R.length ≠ m.T.length) then 5
  else if m.T.length = 0 ∨ goodB m.L = false ∨ goodB m.T = false ∨ goodB m.R = false then 1
  else if m.T.all (fun r => decide (r.length ≠ 0)) = true then 0 else 1
def sideR (m : Mot) (n i : Nat) : List Stitch := m.L.getD i [] ++ ((List.replicate n (m.T.getD i [])).flatten ++ m.R.getD i [])
def sideM (m : Mot) (n : Nat) : RowL := (List.range m.T.length).map (sideR m n)
def stackM (m : Mot) (n up : Nat) : RowL := (List.replicate up (sideM m n)).flatten
def stackE (m : Mot) (n up : Int) : Int :=
  if motE m ≠ 0 then motE m else if n < 1 ∨ up < 1 then 1 else if largeB (stackM m n.toNat up.toNat) = true then 3 else chartE (stackM m n.toNat up.toNat)
def stackS (m : Mot) (n up : Int) : RowL := if stackE m n up = 0 then stackM m n.toNat up.toNat else []

/-! The mirror image. -/
end Go.G14
namespace Go.G14
open Go.Lw

def firstY : List Stitch → Int
  | [] => 0
  | s :: xs => xs.foldl (fun y x => min y x.y) s.y
def rowC (y : Int) (r : List Stitch) : Int := (r.map fun s => if s.k ≠ 7 ∧ s.y = y then makesS s else 0).sum
def cntY (c : RowL) (y : Int) : Int :=
  (if firstY (c.getD 0 []) = y then needsR (c.getD 0 []) else 0) + (if firstY (c.getD (c.length - 1) []) = y then makesR (c.getD (c.length - 1) []) else 0) + (c.map (rowC y)).sum
theorem fold_min : ∀ (xs : List Stitch) (a : Int), xs.foldl (fun y x => min y x.y) a ≤ a ∧ (∀ s ∈ xs, xs.foldl (fun y x => min y x.y) a ≤ s.y) ∧ (xs.foldl (fun y x => min y x.y) a = a ∨ ∃ s ∈ xs, xs.foldl (fun y x => min y x.y) a = s.y)
  | [], a => ⟨Int.le_refl _, by simp, .inl rfl⟩
  | x :: xs, a => by
    obtain ⟨h1, h2, h3⟩ := fold_min xs (min a x.y)
    rw [List.foldl_cons]
    refine ⟨by omega, fun s hs => ?_, ?_⟩
    · rcases List.mem_cons.1 hs with rfl | hs
      · omega
      · exact h2 s hs
    · rcases h3 with h3 | ⟨s, hs, h3⟩
      · rcases Int.le_total a x.y with h | h
        · left; omega
        · right; exact ⟨x, by simp, by omega⟩
      · right; exact ⟨s, by simp [hs], h3⟩
theorem first_spec {r : List Stitch} (h : r ≠ []) : (∃ s ∈ r, s.y = firstY r) ∧ ∀ s ∈ r, firstY r ≤ s.y := by
  match r, h with
  | x :: xs, _ =>
    obtain ⟨h1, h2, h3⟩ := fold_min xs x.y
    refine ⟨?_, fun s hs => ?_⟩
    · rcases h3 with h3 | ⟨s, hs, h3⟩
      · exact ⟨x, by simp, h3.symm⟩
      · exact ⟨s, by simp [hs], h3.symm⟩
    · rcases List.mem_cons.1 hs with rfl | hs
      · exact h1
      · exact h2 s hs
theorem rowC_pos (y : Int) (r : List Stitch) : 0 ≤ rowC y r ∧ rowC y r ≤ 4 * r.length :=
  sum_rng (f := fun s => if s.k ≠ 7 ∧ s.y = y then makesS s else 0) (fun s => by have := makes_rng s; split <;> omega) r
/-! More tiles. -/
theorem sideM_len (m : Mot) (n : Nat) : (sideM m n).length = m.T.length := by simp [sideM]
theorem sideM_get (m : Mot) (n i : Nat) (h : i < m.T.length) : (sideM m n).getD i [] = sideR m n i := by
  unfold sideM
  rw [List.getD, List.getElem?_map, List.getElem?_range h]; rfl
theorem stackM_succ (m : Mot) (n up : Nat) : stackM m n (up + 1) = sideM m n ++ stackM m n up := by simp [stackM, List.replicate_succ]
theorem stackM_succ' (m : Mot) (n up : Nat) : stackM m n (up + 1) = stackM m n up ++ sideM m n := by simp [stackM, List.replicate_succ']
theorem stackM_len (m : Mot) (n up : Nat) : (stackM m n up).length = up * m.T.length := by
  induction up with
  | zero => simp [stackM]
  | succ up ih => rw [stackM_succ, List.length_append, ih, sideM_len, Nat.add_mul]; omega
theorem mot_tile {m : Mot} (h : motE m = 0) : 1 ≤ m.T.length ∧ (∀ i, i < m.T.length → m.T.getD i [] ≠ []) ∧ m.T.length ≤ 31 := by
  unfold motE at h
  split at h
  · omega
  split at h
  · omega
  split at h
  · omega
  split at h
  · rename_i h1 h2 h3 h4
    refine ⟨by omega, fun i hi e => ?_, ?_⟩
    · have := List.all_eq_true.1 h4 (m.T.getD i []) (by rw [List.getD, List.getElem?_eq_getElem hi]; exact List.getElem_mem hi)
      rw [e] at this; simp at this
    · have : ¬ largeB m.T = true := fun e => h1 (.inr (.inl e))
      unfold largeB at this
      simp only [Bool.or_eq_true, decide_eq_true_eq, not_or] at this
      omega
  · omega
end Go.G14
namespace Go.G14
open Go.Lw

structure Pc where
  nm : List UInt8
  mot : Mot
  ba : Int
  st : Int
  up : Int
  ct : Int
def pc0 : Pc := ⟨[], ⟨[], [], []⟩, 0, 0, 0, 0⟩
def lower (c : UInt8) : Bool := decide (97 ≤ c.toNat ∧ c.toNat ≤ 122)
def nameB (s : List UInt8) : Bool := decide (1 ≤ s.length ∧ s.length ≤ 16) && s.all lower
def rightB (p : Pc) : Bool := nameB p.nm && decide (1 ≤ p.ba ∧ p.ba ≤ 16 ∧ 0 ≤ p.st ∧ p.st ≤ 4 ∧ 1 ≤ p.up ∧ p.up ≤ 31 ∧ 1 ≤ p.ct ∧ p.ct ≤ 9)
def dupB (ps : List Pc) : Bool := (List.range ps.length).any fun i => (List.range i).any fun k => decide ((ps.getD i pc0).nm = (ps.getD k pc0).nm)
def motsE : List Pc → Int
  | [] => 0
  | p :: ps => if motE p.mot ≠ 0 then motE p.mot else motsE ps
def garE (nm : List UInt8) (ps : List Pc) : Int :=
  if 8 < ps.length then 3 else if ps.length = 0 ∨ nameB nm = false then 1 else if ps.all rightB = false then 1 else if dupB ps = true then 8 else motsE ps
def tiles (p : Pc) (size : Int) : Int := p.ba + size * p.st
def chartsE (size : Int) : List Pc → Int
  | [] => 0
  | p :: ps => if stackE p.mot (tiles p size) p.up ≠ 0 then stackE p.mot (tiles p size) p.up else chartsE size ps
def makeE (nm : List UInt8) (ps : List Pc) (size : Int) : Int :=
  if garE nm ps ≠ 0 then garE nm ps else if size < 0 ∨ 9 < size then 1 else chartsE size ps
def chartP (size : Int) (p : Pc) : RowL := stackM p.mot (tiles p size).toNat p.up.toNat
def needY (ps : List Pc) (size y : Int) : Int := (ps.map fun p => p.ct * cntY (chartP size p) y).sum
def needL (ps : List Pc) (size : Int) : List Int := (List.range 6).map fun y => needY ps size (y + 1 : Nat)
theorem mots_of : ∀ {ps : List Pc}, motsE ps = 0 → ∀ p ∈ ps, motE p.mot = 0
  | [], _, p, h => by cases h
  | q :: ps, h0, p, h => by
    rw [motsE] at h0
    by_cases c : motE q.mot ≠ 0
    · rw [if_pos c] at h0; exact absurd h0 c
    rw [if_neg c] at h0
    rcases List.mem_cons.1 h with rfl | h
    · simpa using c
    · exact mots_of h0 p h
theorem gar_of {nm : List UInt8} {ps : List Pc} (h : garE nm ps = 0) : ps.length ≤ 8 ∧ 1 ≤ ps.length ∧ nameB nm = true ∧ (∀ p ∈ ps, rightB p = true) ∧ (∀ p ∈ ps, motE p.mot = 0) ∧ dupB ps = false := by
  unfold garE at h
  split at h
  · omega
  split at h
  · omega
  split at h
  · omega
  split at h
  · omega
  · rename_i h1 h2 h3 h4
    refine ⟨by omega, by omega, ?_, ?_, mots_of h, by simpa using h4⟩
    · cases e : nameB nm
      · exact absurd (.inr e) h2
      · rfl
    · have : ps.all rightB = true := by simpa using h3
      exact List.all_eq_true.1 this
theorem right_of {p : Pc} (h : rightB p = true) : nameB p.nm = true ∧ 1 ≤ p.ba ∧ p.ba ≤ 16 ∧ 0 ≤ p.st ∧ p.st ≤ 4 ∧ 1 ≤ p.up ∧ p.up ≤ 31 ∧ 1 ≤ p.ct ∧ p.ct ≤ 9 := by
  unfold rightB at h
  rw [Bool.and_eq_true, decide_eq_true_eq] at h
  exact ⟨h.1, h.2⟩
theorem charts_of {size : Int} : ∀ {ps : List Pc}, chartsE size ps = 0 → ∀ p ∈ ps, stackE p.mot (tiles p size) p.up = 0
  | [], _, p, h => by cases h
  | q :: ps, h0, p, h => by
    rw [chartsE] at h0
    by_cases c : stackE q.mot (tiles q size) q.up ≠ 0
    · rw [if_pos c] at h0; exact absurd h0 c
    rw [if_neg c] at h0
    rcases List.mem_cons.1 h with rfl | h
    · simpa using c
    · exact charts_of h0 p h
theorem make_of {nm : List UInt8} {ps : List Pc} {size : Int} (h : makeE nm ps size = 0) : garE nm ps = 0 ∧ 0 ≤ size ∧ size ≤ 9 ∧ chartsE size ps = 0 := by
  unfold makeE at h
  split at h
  · exact absurd h (by assumption)
  split at h
  · omega
  · rename_i h1 h2
    exact ⟨by simpa using h1, by omega, by omega, h⟩
theorem stack_of {m : Mot} {n up : Int} (h : stackE m n up = 0) : motE m = 0 ∧ 1 ≤ n ∧ 1 ≤ up ∧ largeB (stackM m n.toNat up.toNat) = false ∧ chartE (stackM m n.toNat up.toNat) = 0 := by
  unfold stackE at h
  split at h
  · exact absurd h (by assumption)
  split at h
  · omega
  split at h
  · omega
  · rename_i h1 h2 h3
    exact ⟨by simpa using h1, by omega, by omega, by simpa using h3, h⟩
/-! In a greater size at least as many loops are needed. -/
end Go.G14
namespace Go.G14
open Go.Lw

abbrev RQ := SV × List Stitch
abbrev CQ := SV × RowL
def sv0 : SV := (none, 0, 0)
abbrev rq0 : RQ := (sv0, [])
abbrev cq0 : CQ := (sv0, [])
def encRq : Enc RQ := ⟨fun p => [.slice p.1.1 p.1.2.1 p.1.2.2], 1, fun _ => rfl, fun _ u h => by simp at h; subst h; rfl, by decide⟩
def encCq : Enc CQ := ⟨fun p => [.slice p.1.1 p.1.2.1 p.1.2.2], 1, fun _ => rfl, fun _ u h => by simp at h; subst h; rfl, by decide⟩
/-- The rows read as the lists. -/
def RowsQ (w : World) (qs : List RQ) : Prop := ∀ q ∈ qs, Sl encSt w (slv q.1) q.2
def ChsQ (w : World) (qs : List CQ) : Prop := ∀ q ∈ qs, Sll encSt w (slv q.1) q.2
theorem RowsQ.ext {w w' : World} {qs : List RQ} (h : RowsQ w qs) (hf : Fr [] w w') : RowsQ w' qs := fun q hq => (h q hq).ext hf
theorem ChsQ.ext {w w' : World} {qs : List CQ} (h : ChsQ w qs) (hf : Fr [] w w') : ChsQ w' qs := fun q hq => (h q hq).ext hf
theorem getD_memS {α : Type} {l : List α} {i : Nat} {d : α} (h : i < l.length) : l.getD i d ∈ l := by
  rw [List.getD, List.getElem?_eq_getElem h]; exact List.getElem_mem h
theorem sl_len {α : Type} {E : Enc α} {w : World} {p : SV} {l : List α} (h : Sl E w (slv p) l) : p.2.1 = l.length := by
  obtain ⟨A, c, e, _⟩ := h; simp only [slv, Value.slice.injEq] at e; exact e.2.1
theorem sll_len {α : Type} {E : Enc α} {w : World} {p : SV} {l : List (List α)} (h : Sll E w (slv p) l) : p.2.1 = l.length := by
  obtain ⟨A, c, e, _⟩ := h.form; simp only [slv, Value.slice.injEq] at e; exact e.2.1
theorem RowsQ.at {w : World} {qs : List RQ} (h : RowsQ w qs) {i : Nat} (hi : i < qs.length) : Sl encSt w (slv (qs.getD i rq0).1) (qs.getD i rq0).2 ∧ (qs.getD i rq0).1.2.1 = (qs.getD i rq0).2.length :=
  have h1 := h _ (getD_memS hi); ⟨h1, sl_len h1⟩
theorem ChsQ.at {w : World} {qs : List CQ} (h : ChsQ w qs) {i : Nat} (hi : i < qs.length) : Sll encSt w (slv (qs.getD i cq0).1) (qs.getD i cq0).2 ∧ (qs.getD i cq0).1.2.1 = (qs.getD i cq0).2.length :=
  have h1 := h _ (getD_memS hi); ⟨h1, sll_len h1⟩
theorem Sll.opn {w : World} {v : Value} {rows : RowL} (h : Sll encSt w v rows) : ∃ qs : List RQ, Sl encRq w v qs ∧ RowsQ w qs ∧ qs.map Prod.snd = rows := by
  obtain ⟨hs, h1, h2, h3⟩ := h
  refine ⟨hs.zip rows, ?_, ?_, ?_⟩
  · obtain ⟨A, c, e, r1, r2, r3⟩ := h1
    have hl : (hs.zip rows).length = hs.length := by rw [List.length_zip]; omega
    refine ⟨A, c, by rw [hl]; exact e, by omega, r2, fun i y hy => ?_⟩
    rw [List.getElem?_zip_eq_some] at hy
    exact r3 i y.1 hy.1
  · intro q hq
    obtain ⟨i, hi⟩ := List.getElem?_of_mem hq
    rw [List.getElem?_zip_eq_some] at hi
    exact h3 i q.1 q.2 hi.1 hi.2
  · exact List.map_snd_zip (by omega)
theorem sll_of {w : World} {v : Value} {qs : List RQ} (h : Sl encRq w v qs) (hr : RowsQ w qs) : Sll encSt w v (qs.map Prod.snd) := by
  refine ⟨qs.map Prod.fst, ?_, by simp, ?_⟩
  · obtain ⟨A, c, e, r1, r2, r3⟩ := h
    refine ⟨A, c, by rw [List.length_map]; exact e, by rw [List.length_map]; exact r1, r2, fun i y hy => ?_⟩
    rw [List.getElem?_map, Option.map_eq_some_iff] at hy
    obtain ⟨q, hq, rfl⟩ := hy
    exact r3 i q hq
  · intro i p r hp hx
    rw [List.getElem?_map, Option.map_eq_some_iff] at hp hx
    obtain ⟨q, hq, rfl⟩ := hp
    obtain ⟨q', hq', rfl⟩ := hx
    rw [hq] at hq'; cases hq'
    exact hr q (List.mem_of_getElem? hq)
theorem map_getD {α β : Type} (f : α → β) (l : List α) (i : Nat) (d : α) (e : β) (h : i < l.length) : (l.map f).getD i e = f (l.getD i d) := by
  rw [List.getD, List.getD, List.getElem?_map, List.getElem?_eq_getElem h]; rfl
/-- Rows of the call's own, from a block on. -/
def RwO (T N : Nat) (w : World) (qs : List RQ) : Prop := ∀ q ∈ qs, Lw.Own encSt T N w (slv q.1) q.2
theorem RwO.fr {T N : Nat} {w w' : World} {qs : List RQ} {S : List Nat} (h : RwO T N w qs) (hf : Fr S w w') (hS : ∀ k ∈ S, k < N) : RwO T N w' qs :=
  fun q hq => (h q hq).fr hf fun k hk hb => by have := ((h q hq).blk k hb).1; have := hS k hk; omega
theorem RwO.ext {T N : Nat} {w w' : World} {qs : List RQ} (h : RwO T N w qs) (hf : Fr [] w w') : RwO T N w' qs := h.fr hf (by simp)
theorem RwO.q {T N : Nat} {w : World} {qs : List RQ} (h : RwO T N w qs) : RowsQ w qs := fun q hq => (h q hq).sl
theorem RwO.nil {T N : Nat} {w : World} : RwO T N w [] := fun q hq => by cases hq
theorem RwO.snoc {T N : Nat} {w : World} {qs : List RQ} {q : RQ} (h : RwO T N w qs) (hq : Lw.Own encSt T N w (slv q.1) q.2) : RwO T N w (qs ++ [q]) := fun x hx => by
  rcases List.mem_append.1 hx with hx | hx
  · exact h x hx
  · rw [List.mem_singleton.1 hx]; exact hq
theorem set_at {α : Type} (l : List α) (m : Nat) (z e : α) : (l ++ List.replicate (m + 1) z).set l.length e = (l ++ [e]) ++ List.replicate m z := by
  rw [List.set_append_right _ _ (Nat.le_refl _), Nat.sub_self, List.replicate_succ, List.set_cons_zero, List.append_assoc]; rfl
abbrev KQ := SV × List CQ
abbrev kq0 : KQ := (sv0, [])
def encKq : Enc KQ := ⟨fun p => [.slice p.1.1 p.1.2.1 p.1.2.2], 1, fun _ => rfl, fun _ u h => by simp at h; subst h; rfl, by decide⟩
def KsQ (w : World) (ks : List KQ) : Prop := ∀ q ∈ ks, Sl encCq w (slv q.1) q.2
theorem KsQ.ext {w w' : World} {qs : List KQ} (h : KsQ w qs) (hf : Fr [] w w') : KsQ w' qs := fun q hq => (h q hq).ext hf
theorem flat_succ {α β : Type} (f : α → List β) (l : List α) (i : Nat) (d : α) (h : i < l.length) : (l.take (i + 1)).flatMap f = (l.take i).flatMap f ++ f (l.getD i d) := by
  rw [List.take_add_one, List.getElem?_eq_getElem h, List.flatMap_append, List.getD, List.getElem?_eq_getElem h]; simp
theorem flat_le {α β : Type} (f : α → List β) (l : List α) (i : Nat) : ((l.take i).flatMap f).length ≤ (l.flatMap f).length := by
  conv => rhs; rw [← List.take_append_drop i l, List.flatMap_append, List.length_append]
  omega
theorem rep_copy {α : Type} (q z : α) {n m k : Nat} (hk : k = min (n - m) m) (h : m ≤ n) : (List.replicate m q ++ List.replicate (n - m) z).take m ++ (List.replicate m q).take k ++ (List.replicate m q ++ List.replicate (n - m) z).drop (m + k) = List.replicate (m + k) q ++ List.replicate (n - (m + k)) z := by
  have e1 : (List.replicate m q ++ List.replicate (n - m) z).take m = List.replicate m q := by
    rw [List.take_append_of_le_length (by simp), List.take_of_length_le (by simp)]
  have e2 : (List.replicate m q ++ List.replicate (n - m) z).drop (m + k) = List.replicate (n - (m + k)) z := by
    rw [List.drop_append, List.drop_of_length_le (by simp), List.nil_append, List.length_replicate, List.drop_replicate]
    congr 1; omega
  rw [e1, e2, List.take_replicate, Nat.min_eq_left (by omega), List.replicate_append_replicate]
def edgeL (q : CQ) : List CQ := if q.2.length = 0 then [] else [q]
/-! Pieces. -/
structure PQ where
  p : Pc
  l : SV
  t : SV
  r : SV
def pq0 : PQ := ⟨pc0, sv0, sv0, sv0⟩
def encPq : Enc PQ := ⟨fun q => [S q.p.nm, .slice q.l.1 q.l.2.1 q.l.2.2, .slice q.t.1 q.t.2.1 q.t.2.2, .slice q.r.1 q.r.2.1 q.r.2.2, .int .i64 q.p.ba, .int .i64 q.p.st, .int .i64 q.p.up, .int .i64 q.p.ct], 8, fun _ => rfl, fun _ u h => by simp at h; rcases h with rfl | rfl | rfl | rfl | rfl | rfl | rfl | rfl <;> rfl, by decide⟩
/-- A motif in memory: the headers of its blocks read as the blocks. -/
def rowsR (c : RowL) : Prop := ∀ r ∈ c, ∀ x ∈ r, 0 ≤ x.k ∧ 0 ≤ x.y
structure MotAt (w : World) (m : Mot) (l t r : SV) : Prop where
  L : Sll encSt w (slv l) m.L
  T : Sll encSt w (slv t) m.T
  R : Sll encSt w (slv r) m.R
  gL : rowsR m.L
  gT : rowsR m.T
  gR : rowsR m.R
theorem MotAt.ext {w w' : World} {m : Mot} {l t r : SV} (h : MotAt w m l t r) (hf : Fr [] w w') : MotAt w' m l t r := ⟨h.L.ext hf, h.T.ext hf, h.R.ext hf, h.gL, h.gT, h.gR⟩
def bl3 (m : Mot) (l t r : SV) : List CQ := [(l, m.L), (t, m.T), (r, m.R)]
def bl2 (m : Mot) (l r : SV) : List CQ := [(l, m.L), (r, m.R)]
theorem MotAt.chs3 {w : World} {m : Mot} {l t r : SV} (h : MotAt w m l t r) : ChsQ w (bl3 m l t r) := fun q hq => by
  simp only [bl3, List.mem_cons, List.not_mem_nil, or_false] at hq
  rcases hq with rfl | rfl | rfl
  · exact h.L
  · exact h.T
  · exact h.R
theorem MotAt.chs2 {w : World} {m : Mot} {l t r : SV} (h : MotAt w m l t r) : ChsQ w (bl2 m l r) := fun q hq => by
  simp only [bl2, List.mem_cons, List.not_mem_nil, or_false] at hq
  rcases hq with rfl | rfl
  · exact h.L
  · exact h.R
theorem MotAt.rng3 {w : World} {m : Mot} {l t r : SV} (h : MotAt w m l t r) {k : Nat} (hk : k < 3) : rowsR ((bl3 m l t r).getD k cq0).2 := by
  match k, hk with
  | 0, _ => exact h.gL
  | 1, _ => exact h.gT
  | 2, _ => exact h.gR
theorem bl3_get (m : Mot) (l t r : SV) {k : Nat} (hk : k < 3) : ([.slice l.1 l.2.1 l.2.2, .slice t.1 t.2.1 t.2.2, .slice r.1 r.2.1 r.2.2] : List Value)[(k : Int).toNat * 1 + 0]? = some (slv ((bl3 m l t r).getD k cq0).1) := by
  match k, hk with
  | 0, _ | 1, _ | 2, _ => rfl
section
variable {m : Mot} {l t r : SV}
abbrev NoL (m : Mot) (l t r : SV) : Prop := ∀ q ∈ bl3 m l t r, largeB q.2 = false
abbrev Edg (m : Mot) : Prop := (m.L.length ≠ 0 ∧ m.L.length ≠ m.T.length) ∨ (m.R.length ≠ 0 ∧ m.R.length ≠ m.T.length)
theorem nol_iff : NoL m l t r ↔ largeB m.L = false ∧ largeB m.T = false ∧ largeB m.R = false := by simp [NoL, bl3]
theorem mot3 (h : ¬ NoL m l t r) : motE m = 3 := by
  unfold motE
  rw [if_pos]
  rw [nol_iff] at h
  cases e1 : largeB m.L
  · cases e2 : largeB m.T
    · cases e3 : largeB m.R
      · exact absurd ⟨e1, e2, e3⟩ h
      · exact .inr (.inr rfl)
    · exact .inr (.inl rfl)
  · exact .inl rfl
theorem nol_if (h : NoL m l t r) : ¬ (largeB m.L = true ∨ largeB m.T = true ∨ largeB m.R = true) := by
  obtain ⟨a, b, c⟩ := nol_iff.1 h
  rintro (e | e | e) <;> simp_all
theorem mot5 (h : NoL m l t r) (he : Edg m) : motE m = 5 := by unfold motE; rw [if_neg (nol_if h), if_pos he]
theorem mot1 (h : NoL m l t r) (he : ¬ Edg m) (h1 : m.T.length = 0 ∨ ¬ ∀ q ∈ bl3 m l t r, goodB q.2 = true) : motE m = 1 := by
  unfold motE; rw [if_neg (nol_if h), if_neg he, if_pos]
  rcases h1 with h1 | h1
  · exact .inl h1
  · right
    simp only [bl3, List.mem_cons, List.not_mem_nil, or_false, forall_eq_or_imp, forall_eq] at h1
    cases e1 : goodB m.L
    · exact .inl rfl
    · cases e2 : goodB m.T
      · exact .inr (.inl rfl)
      · cases e3 : goodB m.R
        · exact .inr (.inr rfl)
        · exact absurd ⟨e1, e2, e3⟩ h1
theorem good_if (h0 : ¬ m.T.length = 0) (h : ∀ q ∈ bl3 m l t r, goodB q.2 = true) : ¬ (m.T.length = 0 ∨ goodB m.L = false ∨ goodB m.T = false ∨ goodB m.R = false) := by
  simp only [bl3, List.mem_cons, List.not_mem_nil, or_false, forall_eq_or_imp, forall_eq] at h
  rintro (e | e | e | e)
  · exact h0 e
  · rw [h.1] at e; cases e
  · rw [h.2.1] at e; cases e
  · rw [h.2.2] at e; cases e
theorem mot1r (h : NoL m l t r) (he : ¬ Edg m) (hr : ∃ r ∈ m.T, r.length = 0) : motE m = 1 := by
  unfold motE; rw [if_neg (nol_if h), if_neg he]
  split
  · rfl
  · rw [if_neg]
    intro e
    obtain ⟨r, hr, e0⟩ := hr
    have := List.all_eq_true.1 e r hr
    simp [e0] at this
theorem mot0 (h : NoL m l t r) (he : ¬ Edg m) (h0 : ¬ m.T.length = 0) (hg : ∀ q ∈ bl3 m l t r, goodB q.2 = true) (hr : ∀ r ∈ m.T, ¬ r.length = 0) : motE m = 0 := by
  unfold motE; rw [if_neg (nol_if h), if_neg he, if_neg (good_if h0 hg), if_pos]
  exact List.all_eq_true.2 fun r h => by simpa using hr r h
theorem edg_at {i : Nat} (hi : i < 2) (h : 0 < ((bl2 m l r).getD i cq0).2.length ∧ ((bl2 m l r).getD i cq0).2.length ≠ m.T.length) : Edg m := by
  match i, hi, h with
  | 0, _, h => exact .inl ⟨by have := h.1; simp only [bl2, List.getD, List.getElem?_cons_zero, Option.getD_some] at this; omega, h.2⟩
  | 1, _, h => exact .inr ⟨by have := h.1; simp only [bl2, List.getD, List.getElem?_cons_succ, List.getElem?_cons_zero, Option.getD_some] at this; omega, h.2⟩
theorem edg_no (h : ∀ i, i < 2 → ¬ (0 < ((bl2 m l r).getD i cq0).2.length ∧ ((bl2 m l r).getD i cq0).2.length ≠ m.T.length)) : ¬ Edg m := by
  rintro (e | e)
  · exact h 0 (by omega) ⟨Nat.pos_of_ne_zero e.1, e.2⟩
  · exact h 1 (by omega) ⟨Nat.pos_of_ne_zero e.1, e.2⟩
end
theorem MotAt.len {w : World} {m : Mot} {l t r : SV} (h : MotAt w m l t r) : l.2.1 = m.L.length ∧ t.2.1 = m.T.length ∧ r.2.1 = m.R.length := ⟨sll_len h.L, sll_len h.T, sll_len h.R⟩
def PcsQ (w : World) (qs : List PQ) : Prop := ∀ q ∈ qs, MotAt w q.p.mot q.l q.t q.r
theorem PcsQ.ext {w w' : World} {qs : List PQ} (h : PcsQ w qs) (hf : Fr [] w w') : PcsQ w' qs := fun q hq => (h q hq).ext hf
theorem PcsQ.at {w : World} {qs : List PQ} (h : PcsQ w qs) {i : Nat} (hi : i < qs.length) : MotAt w (qs.getD i pq0).p.mot (qs.getD i pq0).l (qs.getD i pq0).t (qs.getD i pq0).r := h _ (getD_memS hi)
abbrev pcs (qs : List PQ) : List Pc := qs.map PQ.p
theorem pcs_get (qs : List PQ) (i : Nat) : (pcs qs).getD i pc0 = (qs.getD i pq0).p := by
  rw [List.getD, List.getD, List.getElem?_map]
  cases qs[i]? <;> rfl
/-! Items: a name, a chart, a number. -/
structure IQ where
  nm : List UInt8
  c : SV
  ct : Int
  rows : RowL
def iq0 : IQ := ⟨[], sv0, 0, []⟩
def encIq : Enc IQ := ⟨fun q => [S q.nm, .slice q.c.1 q.c.2.1 q.c.2.2, .int .i64 q.ct], 3, fun _ => rfl, fun _ u h => by simp at h; rcases h with rfl | rfl | rfl <;> rfl, by decide⟩
def ItmQ (w : World) (qs : List IQ) : Prop := ∀ q ∈ qs, Sll encSt w (slv q.c) q.rows
theorem ItmQ.ext {w w' : World} {qs : List IQ} (h : ItmQ w qs) (hf : Fr [] w w') : ItmQ w' qs := fun q hq => (h q hq).ext hf
theorem ItmQ.at {w : World} {qs : List IQ} (h : ItmQ w qs) {i : Nat} (hi : i < qs.length) : Sll encSt w (slv (qs.getD i iq0).c) (qs.getD i iq0).rows := h _ (getD_memS hi)
end Go.G14
namespace Go.Proofs.YthehggmdcmpjeaaDoor
open Go.Lw Go.G14
def encCh : Enc SV := ⟨fun p => [slv p], 1, fun _ => rfl, fun _ u h => by simp [slv] at h; subst h; rfl, by decide⟩
def encMq : Enc (CQ × CQ × CQ) := ⟨fun p => [slv p.1.1, slv p.2.1.1, slv p.2.2.1], 3, fun _ => rfl, fun _ u h => by simp [slv] at h; rcases h with rfl | rfl | rfl <;> rfl, by decide⟩
def encGm : Enc (List UInt8 × SV) := ⟨fun p => [S p.1, slv p.2], 2, fun _ => rfl, fun _ u h => by simp [slv] at h; rcases h with rfl | rfl <;> rfl, by decide⟩
theorem opSt_len {cs : List Value} (h : cs.length = 5) : ∃ c0 c1 c2 c3 c4, cs = [c0, c1, c2, c3, c4] := match cs, h with | [c0, c1, c2, c3, c4], _ => ⟨c0, c1, c2, c3, c4, rfl⟩
theorem opSt : Opens Tryd.prog 100 encSt (fun _ s => 0 ≤ s.k ∧ s.k ≤ 255 ∧ 0 ≤ s.y ∧ s.y ≤ 255 ∧ -9223372036854775808 ≤ s.a ∧ s.a ≤ 9223372036854775807 ∧ -9223372036854775808 ≤ s.b ∧ s.b ≤ 9223372036854775807) := by
  intro H enc w base sp held fuel cs x h
  obtain ⟨xs, n, _, _, hl, hlen, hf⟩ := DataW.trod_struct Tryd.underlying100 h
  rw [show Tryd.prog.cellsOf 100 = 5 by kernel_rfl] at hl
  obtain ⟨c0, c1, c2, c3, c4, rfl⟩ := opSt_len hl
  have h0 : DataW.trod enc Tryd.prog w base sp held n 87 (([c0, c1, c2, c3, c4].drop 0).take (Tryd.prog.cellsOf 87)) = xs[0]? := hf 0 _ rfl
  rw [show Tryd.prog.cellsOf 87 = 1 by kernel_rfl] at h0
  obtain ⟨y0, e0, r0⟩ := opens_field (cs := [c0]) h0 hlen (by decide) (opens_u8 Tryd.underlying87)
  have h1 : DataW.trod enc Tryd.prog w base sp held n 5 (([c0, c1, c2, c3, c4].drop 1).take (Tryd.prog.cellsOf 5)) = xs[1]? := hf 1 _ rfl
  rw [show Tryd.prog.cellsOf 5 = 1 by kernel_rfl] at h1
  obtain ⟨y1, e1, r1⟩ := opens_field (cs := [c1]) h1 hlen (by decide) (opens_u8 Tryd.underlying5)
  have h2 : DataW.trod enc Tryd.prog w base sp held n 3 (([c0, c1, c2, c3, c4].drop 2).take (Tryd.prog.cellsOf 3)) = xs[2]? := hf 2 _ rfl
  rw [show Tryd.prog.cellsOf 3 = 1 by kernel_rfl] at h2
  obtain ⟨y2, e2, r2⟩ := opens_field (cs := [c2]) h2 hlen (by decide) (opens_i64 Tryd.underlying3)
  have h3 : DataW.trod enc Tryd.prog w base sp held n 3 (([c0, c1, c2, c3, c4].drop 3).take (Tryd.prog.cellsOf 3)) = xs[3]? := hf 3 _ rfl
  rw [show Tryd.prog.cellsOf 3 = 1 by kernel_rfl] at h3
  obtain ⟨y3, e3, r3⟩ := opens_field (cs := [c3]) h3 hlen (by decide) (opens_i64 Tryd.underlying3)
  have h4 : DataW.trod enc Tryd.prog w base sp held n 4 (([c0, c1, c2, c3, c4].drop 4).take (Tryd.prog.cellsOf 4)) = xs[4]? := hf 4 _ rfl
  rw [show Tryd.prog.cellsOf 4 = 1 by kernel_rfl] at h4
  obtain ⟨y4, e4, r4⟩ := opens_field (cs := [c4]) h4 hlen (by decide) (opens_bool Tryd.underlying4)
  cases e0
  cases e1
  cases e2
  cases e3
  cases e4
  exact ⟨⟨y0, y1, y2, y3, y4⟩, rfl, ⟨r0.1, r0.2, r1.1, r1.2, r2.1, r2.2, r3.1, r3.2⟩⟩
theorem opCh0_len {cs : List Value} (h : cs.length = 1) : ∃ c0, cs = [c0] := match cs, h with | [c0], _ => ⟨c0, rfl⟩
theorem opCh0 : Opens Tryd.prog 47 encCh (fun w y => SlR Enc.sl (SlR encSt (fun _ s => 0 ≤ s.k ∧ s.k ≤ 255 ∧ 0 ≤ s.y ∧ s.y ≤ 255 ∧ -9223372036854775808 ≤ s.a ∧ s.a ≤ 9223372036854775807 ∧ -9223372036854775808 ≤ s.b ∧ s.b ≤ 9223372036854775807)) w y) := by
  intro H enc w base sp held fuel cs x h
  obtain ⟨xs, n, _, _, hl, hlen, hf⟩ := DataW.trod_struct Tryd.underlying47 h
  rw [show Tryd.prog.cellsOf 47 = 1 by kernel_rfl] at hl
  obtain ⟨c0, rfl⟩ := opCh0_len hl
  have h0 : DataW.trod enc Tryd.prog w base sp held n 45 (([c0].drop 0).take (Tryd.prog.cellsOf 45)) = xs[0]? := hf 0 _ rfl
  rw [show Tryd.prog.cellsOf 45 = 1 by kernel_rfl] at h0
  obtain ⟨y0, e0, r0⟩ := opens_field (cs := [c0]) h0 hlen (by decide) (opens_slice Tryd.underlying45 (by kernel_rfl) (opens_slice Tryd.underlying61 (by kernel_rfl) opSt))
  cases e0
  exact ⟨y0, rfl, r0⟩
theorem rows_of_hs {w : World} {R : World → Stitch → Prop} : ∀ (hs : List SV), (∀ p ∈ hs, SlR encSt R w p) → ∃ rows : List (List Stitch), hs.length = rows.length ∧ (∀ (i : Nat) (p : SV) (r : List Stitch), hs[i]? = some p → rows[i]? = some r → Sl encSt w (slv p) r) ∧ ∀ r ∈ rows, ∀ x ∈ r, R w x
  | [], _ => ⟨[], rfl, fun i p r h => by simp at h, by simp⟩
  | p :: hs, h => by
    obtain ⟨rows, e, h1, h2⟩ := rows_of_hs hs (fun q hq => h q (by simp [hq]))
    obtain ⟨xs, hx, hr⟩ := h p (by simp)
    refine ⟨xs :: rows, by simp [e], fun i q r hq hr2 => ?_, fun r hr2 => ?_⟩
    · cases i with
      | zero => simp at hq hr2; subst hq hr2; exact hx
      | succ i => simp at hq hr2; exact h1 i q r hq hr2
    · rcases List.mem_cons.1 hr2 with rfl | h3
      · exact hr
      · exact h2 r h3
theorem sll_hs {w : World} {R : World → Stitch → Prop} {v : Value} {hs : List SV} (h1 : Sl Enc.sl w v hs) (h2 : ∀ p ∈ hs, SlR encSt R w p) : ∃ rows, Sll encSt w v rows ∧ ∀ r ∈ rows, ∀ x ∈ r, R w x := by
  obtain ⟨rows, e, h3, h4⟩ := rows_of_hs hs h2
  exact ⟨rows, ⟨hs, h1, e, h3⟩, h4⟩
def RCh (w : World) (q : CQ) : Prop := Sll encSt w (slv q.1) q.2 ∧ rowsR q.2
theorem opCh : Opens Tryd.prog 47 encCq RCh := by
  intro H enc w base sp held fuel cs x h
  obtain ⟨y, rfl, hs, h1, h2⟩ := opCh0 H enc w base sp held fuel cs x h
  obtain ⟨rows, h3, h4⟩ := sll_hs h1 h2
  exact ⟨(y, rows), rfl, h3, fun r hr s hs => ⟨(h4 r hr s hs).1, (h4 r hr s hs).2.2.1⟩⟩
theorem opMo_len {cs : List Value} (h : cs.length = 3) : ∃ c0 c1 c2, cs = [c0, c1, c2] := match cs, h with | [c0, c1, c2], _ => ⟨c0, c1, c2, rfl⟩
theorem opMo : Opens Tryd.prog 49 encMq (fun w m => RCh w m.1 ∧ RCh w m.2.1 ∧ RCh w m.2.2) := by
  intro H enc w base sp held fuel cs x h
  obtain ⟨xs, n, _, _, hl, hlen, hf⟩ := DataW.trod_struct Tryd.underlying49 h
  rw [show Tryd.prog.cellsOf 49 = 3 by kernel_rfl] at hl
  obtain ⟨c0, c1, c2, rfl⟩ := opMo_len hl
  have h0 : DataW.trod enc Tryd.prog w base sp held n 47 (([c0, c1, c2].drop 0).take (Tryd.prog.cellsOf 47)) = xs[0]? := hf 0 _ rfl
  rw [show Tryd.prog.cellsOf 47 = 1 by kernel_rfl] at h0
  obtain ⟨y0, e0, r0⟩ := opens_field (cs := [c0]) h0 hlen (by decide) opCh
  have h1 : DataW.trod enc Tryd.prog w base sp held n 47 (([c0, c1, c2].drop 1).take (Tryd.prog.cellsOf 47)) = xs[1]? := hf 1 _ rfl
  rw [show Tryd.prog.cellsOf 47 = 1 by kernel_rfl] at h1
  obtain ⟨y1, e1, r1⟩ := opens_field (cs := [c1]) h1 hlen (by decide) opCh
  have h2 : DataW.trod enc Tryd.prog w base sp held n 47 (([c0, c1, c2].drop 2).take (Tryd.prog.cellsOf 47)) = xs[2]? := hf 2 _ rfl
  rw [show Tryd.prog.cellsOf 47 = 1 by kernel_rfl] at h2
  obtain ⟨y2, e2, r2⟩ := opens_field (cs := [c2]) h2 hlen (by decide) opCh
  cases e0
  cases e1
  cases e2
  exact ⟨(y0, y1, y2), rfl, ⟨r0, r1, r2⟩⟩
theorem opPc_len {cs : List Value} (h : cs.length = 8) : ∃ c0 c1 c2 c3 c4 c5 c6 c7, cs = [c0, c1, c2, c3, c4, c5, c6, c7] := match cs, h with | [c0, c1, c2, c3, c4, c5, c6, c7], _ => ⟨c0, c1, c2, c3, c4, c5, c6, c7, rfl⟩
theorem opPc : Opens Tryd.prog 51 encPq (fun w q => MotAt w q.p.mot q.l q.t q.r) := by
  intro H enc w base sp held fuel cs x h
  obtain ⟨xs, n, _, _, hl, hlen, hf⟩ := DataW.trod_struct Tryd.underlying51 h
  rw [show Tryd.prog.cellsOf 51 = 8 by kernel_rfl] at hl
  obtain ⟨c0, c1, c2, c3, c4, c5, c6, c7, rfl⟩ := opPc_len hl
  have h0 : DataW.trod enc Tryd.prog w base sp held n 9 (([c0, c1, c2, c3, c4, c5, c6, c7].drop 0).take (Tryd.prog.cellsOf 9)) = xs[0]? := hf 0 _ rfl
  rw [show Tryd.prog.cellsOf 9 = 1 by kernel_rfl] at h0
  obtain ⟨y0, e0, r0⟩ := opens_field (cs := [c0]) h0 hlen (by decide) (opens_str Tryd.underlying9)
  have h1 : DataW.trod enc Tryd.prog w base sp held n 49 (([c0, c1, c2, c3, c4, c5, c6, c7].drop 1).take (Tryd.prog.cellsOf 49)) = xs[1]? := hf 1 _ rfl
  rw [show Tryd.prog.cellsOf 49 = 3 by kernel_rfl] at h1
  obtain ⟨y1, e1, r1⟩ := opens_field (cs := [c1, c2, c3]) h1 hlen (by decide) opMo
  have h2 : DataW.trod enc Tryd.prog w base sp held n 3 (([c0, c1, c2, c3, c4, c5, c6, c7].drop 4).take (Tryd.prog.cellsOf 3)) = xs[2]? := hf 2 _ rfl
  rw [show Tryd.prog.cellsOf 3 = 1 by kernel_rfl] at h2
  obtain ⟨y2, e2, r2⟩ := opens_field (cs := [c4]) h2 hlen (by decide) (opens_i64 Tryd.underlying3)
  have h3 : DataW.trod enc Tryd.prog w base sp held n 3 (([c0, c1, c2, c3, c4, c5, c6, c7].drop 5).take (Tryd.prog.cellsOf 3)) = xs[3]? := hf 3 _ rfl
  rw [show Tryd.prog.cellsOf 3 = 1 by kernel_rfl] at h3
  obtain ⟨y3, e3, r3⟩ := opens_field (cs := [c5]) h3 hlen (by decide) (opens_i64 Tryd.underlying3)
  have h4 : DataW.trod enc Tryd.prog w base sp held n 3 (([c0, c1, c2, c3, c4, c5, c6, c7].drop 6).take (Tryd.prog.cellsOf 3)) = xs[4]? := hf 4 _ rfl
  rw [show Tryd.prog.cellsOf 3 = 1 by kernel_rfl] at h4
  obtain ⟨y4, e4, r4⟩ := opens_field (cs := [c6]) h4 hlen (by decide) (opens_i64 Tryd.underlying3)
  have h5 : DataW.trod enc Tryd.prog w base sp held n 3 (([c0, c1, c2, c3, c4, c5, c6, c7].drop 7).take (Tryd.prog.cellsOf 3)) = xs[5]? := hf 5 _ rfl
  rw [show Tryd.prog.cellsOf 3 = 1 by kernel_rfl] at h5
  obtain ⟨y5, e5, r5⟩ := opens_field (cs := [c7]) h5 hlen (by decide) (opens_i64 Tryd.underlying3)
  cases e0
  cases e1
  cases e2
  cases e3
  cases e4
  cases e5
  exact ⟨⟨⟨y0, ⟨y1.1.2, y1.2.1.2, y1.2.2.2⟩, y2, y3, y4, y5⟩, y1.1.1, y1.2.1.1, y1.2.2.1⟩, rfl, ⟨r1.1.1, r1.2.1.1, r1.2.2.1, r1.1.2, r1.2.1.2, r1.2.2.2⟩⟩
theorem opGm_len {cs : List Value} (h : cs.length = 2) : ∃ c0 c1, cs = [c0, c1] := match cs, h with | [c0, c1], _ => ⟨c0, c1, rfl⟩
theorem opGm : Opens Tryd.prog 24 encGm (fun w g => SlR encPq (fun w q => MotAt w q.p.mot q.l q.t q.r) w g.2) := by
  intro H enc w base sp held fuel cs x h
  obtain ⟨xs, n, _, _, hl, hlen, hf⟩ := DataW.trod_struct Tryd.underlying24 h
  rw [show Tryd.prog.cellsOf 24 = 2 by kernel_rfl] at hl
  obtain ⟨c0, c1, rfl⟩ := opGm_len hl
  have h0 : DataW.trod enc Tryd.prog w base sp held n 9 (([c0, c1].drop 0).take (Tryd.prog.cellsOf 9)) = xs[0]? := hf 0 _ rfl
  rw [show Tryd.prog.cellsOf 9 = 1 by kernel_rfl] at h0
  obtain ⟨y0, e0, r0⟩ := opens_field (cs := [c0]) h0 hlen (by decide) (opens_str Tryd.underlying9)
  have h1 : DataW.trod enc Tryd.prog w base sp held n 22 (([c0, c1].drop 1).take (Tryd.prog.cellsOf 22)) = xs[1]? := hf 1 _ rfl
  rw [show Tryd.prog.cellsOf 22 = 1 by kernel_rfl] at h1
  obtain ⟨y1, e1, r1⟩ := opens_field (cs := [c1]) h1 hlen (by decide) (opens_slice Tryd.underlying22 (by kernel_rfl) opPc)
  cases e0
  cases e1
  exact ⟨(y0, y1), rfl, r1⟩
end Go.Proofs.YthehggmdcmpjeaaDoor
namespace Go.Proofs.YthehggmdcmpjeaaDoor
open Go.Lw Go.G14

theorem less_ok (l m : List UInt8) (w0 : World) : Rets Tryd.prog 79 #[S l, S m] w0 fun v w' => v = .int .i64 (if lessP l m then 1 else 0) ∧ w0 = w' := by
 refine enter [(0, S l), (1, S m)] Tryd.func79 rfl Tryd.ntmps79 rfl (.cons rfl (.cons rfl .nil)) ?_
 intro a h
 refine wp_seq ?_
 refine wR ?_
 refine st_assign h rfl rfl ?_; clear h a; intro a h
 replace h : Ag a 22 [(0, _), (1, _)] := h.sub (.cons rfl (.cons rfl .nil))
 refine wnt ?_
 refine wp_seq ?_
 refine wp_seq ?_
 refine region_bool (r := 21) (L' := []) (lessP l m) h .nil ?_ ?_
 ·refine id ?_
  refine st_move h rfl rfl ?_; clear h a; intro a h
  refine st_len h rfl Tryd.underlying9 rfl ?_; clear h a; intro a h
  refine st_move h rfl rfl ?_; clear h a; intro a h
  refine st_len h rfl Tryd.underlying9 rfl ?_; clear h a; intro a h
  refine st_lt h rfl rfl rfl ?_; clear h a; intro a h
  refine st_move h rfl rfl ?_; clear h a; intro a h
  first | refine guard_dec (D := 10) h rfl ?_ ?_ | refine guard_ndec (D := 10) h rfl ?_ ?_ | refine guard_any (D := 10) h rfl ?_ ?_
  ·clear h; intro g0 h
   refine gd_no h rfl rfl rfl rfl rfl rfl rfl rfl ?_; clear h a; intro a h
   refine gd_no h rfl rfl rfl rfl rfl rfl rfl rfl ?_; clear h a; intro a h
   refine gd_no h rfl rfl rfl rfl rfl rfl rfl rfl ?_; clear h a; intro a h
   refine gd_no h rfl rfl rfl rfl rfl rfl rfl rfl ?_; clear h a; intro a h
   refine gd_no h rfl rfl rfl rfl rfl rfl rfl rfl ?_; clear h a; intro a h
   refine gd_no h rfl rfl rfl rfl rfl rfl rfl rfl ?_; clear h a; intro a h
   refine gd_skip h rfl rfl rfl rfl rfl rfl rfl ?_; clear h a; intro a h
   refine gd_skip h rfl rfl rfl rfl rfl rfl rfl ?_; clear h a; intro a h
   refine gd_skip h rfl rfl rfl rfl rfl rfl rfl ?_; clear h a; intro a h
   refine gd_no h rfl rfl rfl rfl rfl rfl rfl rfl ?_; clear h a; intro a h
   refine st_pick_t h rfl rfl rfl rfl ?_; clear h a; intro a h
   exact wpList_nil (bool_end h rfl (by first | exact bt (.inl (by omega)) | exact bf (by rintro (h | h) <;> omega) | exact bb ⟨fun e => .inr ⟨by omega, e⟩, by rintro (h | h); omega; exact h.2⟩) .nil)
  ·clear h; intro g0 h
   refine gd_yes h rfl rfl rfl rfl rfl rfl ?_
   refine st_move h rfl rfl ?_; clear h a; intro a h
   refine gd_yes h rfl rfl rfl rfl rfl rfl ?_
   refine st_len h rfl Tryd.underlying9 rfl ?_; clear h a; intro a h
   refine gd_yes h rfl rfl rfl rfl rfl rfl ?_
   refine st_move h rfl rfl ?_; clear h a; intro a h
   refine gd_yes h rfl rfl rfl rfl rfl rfl ?_
   refine st_len h rfl Tryd.underlying9 rfl ?_; clear h a; intro a h
   refine gd_yes h rfl rfl rfl rfl rfl rfl ?_
   refine st_eq h rfl rfl rfl ?_; clear h a; intro a h
   refine gd_yes h rfl rfl rfl rfl rfl rfl ?_
   refine st_move h rfl rfl ?_; clear h a; intro a h
   first | refine guard_dec (D := 16) h rfl ?_ ?_ | refine guard_ndec (D := 16) h rfl ?_ ?_ | refine guard_any (D := 16) h rfl ?_ ?_
   ·clear h; intro g1 h
    refine gd_yes h rfl rfl rfl rfl rfl rfl ?_
    refine st_move h rfl rfl ?_; clear h a; intro a h
    refine gd_yes h rfl rfl rfl rfl rfl rfl ?_
    refine st_move h rfl rfl ?_; clear h a; intro a h
    refine gd_yes h rfl rfl rfl rfl rfl rfl ?_
    refine st_lts h rfl rfl rfl ?_; clear h a; intro a h
    refine gd_yes h rfl rfl rfl rfl rfl rfl ?_
    refine st_pick_t h rfl rfl rfl rfl ?_; clear h a; intro a h
    refine st_pick_f h rfl rfl rfl rfl ?_; clear h a; intro a h
    exact wpList_nil (bool_end h rfl (by first | exact bt (.inl (by omega)) | exact bf (by rintro (h | h) <;> omega) | exact bb ⟨fun e => .inr ⟨by omega, e⟩, by rintro (h | h); omega; exact h.2⟩) .nil)
   ·clear h; intro g1 h
    refine gd_no h rfl rfl rfl rfl rfl rfl rfl rfl ?_; clear h a; intro a h
    refine gd_no h rfl rfl rfl rfl rfl rfl rfl rfl ?_; clear h a; intro a h
    refine gd_no h rfl rfl rfl rfl rfl rfl rfl rfl ?_; clear h a; intro a h
    refine gd_yes h rfl rfl rfl rfl rfl rfl ?_
    refine st_pick_f h rfl rfl rfl rfl ?_; clear h a; intro a h
    refine st_pick_f h rfl rfl rfl rfl ?_; clear h a; intro a h
    exact wpList_nil (bool_end h rfl (by first | exact bt (.inl (by omega)) | exact bf (by rintro (h | h) <;> omega) | exact bb ⟨fun e => .inr ⟨by omega, e⟩, by rintro (h | h); omega; exact h.2⟩) .nil)
 ·clear h a; intro a h
  refine (norm_then ?_)
  first | refine cond_dec h rfl (fun c0 => ?_) (fun c0 => ?_) | refine cond_ndec h rfl (fun c0 => ?_) (fun c0 => ?_) | refine cond_split h rfl (fun c0 => ?_) (fun c0 => ?_)
  ·refine id ?_
   refine wp_seq ?_
   refine wR ?_
   refine st_assign h rfl rfl ?_; clear h a; intro a h
   replace h : Ag a 22 [(4, _)] := h.sub (.cons rfl .nil)
   refine wnt ?_
   refine wp_ret (ret_then ?_)
   refine ret1 h Tryd.results79 rfl ?_
   exact ⟨_, rfl, by first | rw [if_pos c0] | rw [if_neg c0], rfl⟩
  ·refine id ?_
   refine wsn ?_
   refine wp_seq ?_
   refine wR ?_
   refine st_assign h rfl rfl ?_; clear h a; intro a h
   replace h : Ag a 22 [(4, _)] := h.sub (.cons rfl .nil)
   refine wnt ?_
   refine wp_ret ?_
   refine ret1 h Tryd.results79 rfl ?_
   exact ⟨_, rfl, by first | rw [if_pos c0] | rw [if_neg c0], rfl⟩
theorem better_ok (l m : List UInt8) (w0 : World) : Rets Tryd.prog 92 #[S l, S m] w0 fun v w' => v = S (betterS l m) ∧ w0 = w' := by
 refine enter [(0, S l), (1, S m)] Tryd.func92 rfl Tryd.ntmps92 rfl (.cons rfl (.cons rfl .nil)) ?_
 intro a h
 refine wp_seq ?_
 refine wR ?_
 refine st_assign h rfl rfl ?_; clear h a; intro a h
 replace h : Ag a 32 [(0, _), (1, _)] := h.sub (.cons rfl (.cons rfl .nil))
 refine wnt ?_
 refine wp_seq ?_
 refine wp_seq ?_
 refine region_bool (r := 29) (L' := [(0, _), (1, _)]) (l = [] ∨ (m ≠ [] ∧ lessP m l)) h (.cons rfl (.cons rfl .nil)) ?_ ?_
 ·refine id ?_
  refine st_move h rfl rfl ?_; clear h a; intro a h
  refine st_eqs h rfl rfl rfl ?_; clear h a; intro a h
  refine st_move h rfl rfl ?_; clear h a; intro a h
  first | refine guard_dec (D := 7) h rfl ?_ ?_ | refine guard_ndec (D := 7) h rfl ?_ ?_ | refine guard_any (D := 7) h rfl ?_ ?_
  ·clear h; intro g0 h
   refine gd_no h rfl rfl rfl rfl rfl rfl rfl rfl ?_; clear h a; intro a h
   refine gd_no h rfl rfl rfl rfl rfl rfl rfl rfl ?_; clear h a; intro a h
   refine gd_no h rfl rfl rfl rfl rfl rfl rfl rfl ?_; clear h a; intro a h
   refine gd_skip h rfl rfl rfl rfl rfl rfl rfl ?_; clear h a; intro a h
   refine gd_skip h rfl rfl rfl rfl rfl rfl rfl ?_; clear h a; intro a h
   refine gd_skip h rfl rfl rfl rfl rfl rfl rfl ?_; clear h a; intro a h
   refine gd_skip h rfl rfl rfl rfl rfl rfl rfl ?_; clear h a; intro a h
   refine gd_skip h rfl rfl rfl rfl rfl rfl rfl ?_; clear h a; intro a h
   refine gd_skip h rfl rfl rfl rfl rfl rfl rfl ?_; clear h a; intro a h
   refine gd_skip h rfl rfl rfl rfl rfl rfl rfl ?_; clear h a; intro a h
   refine gd_skip h rfl rfl rfl rfl rfl rfl rfl ?_; clear h a; intro a h
   refine gd_skip h rfl rfl rfl rfl rfl rfl rfl ?_; clear h a; intro a h
   refine gd_skip h rfl rfl rfl rfl rfl rfl rfl ?_; clear h a; intro a h
   refine gd_skip h rfl rfl rfl rfl rfl rfl rfl ?_; clear h a; intro a h
   refine gd_skip h rfl rfl rfl rfl rfl rfl rfl ?_; clear h a; intro a h
   refine gd_skip h rfl rfl rfl rfl rfl rfl rfl ?_; clear h a; intro a h
   refine gd_skip h rfl rfl rfl rfl rfl rfl rfl ?_; clear h a; intro a h
   refine gd_skip h rfl rfl rfl rfl rfl rfl rfl ?_; clear h a; intro a h
   refine gd_skip h rfl rfl rfl rfl rfl rfl rfl ?_; clear h a; intro a h
   refine gd_skip h rfl rfl rfl rfl rfl rfl rfl ?_; clear h a; intro a h
   refine gd_no h rfl rfl rfl rfl rfl rfl rfl rfl ?_; clear h a; intro a h
   refine st_pick_t h rfl rfl rfl rfl ?_; clear h a; intro a h
   exact wpList_nil (bool_end h rfl (by first | exact bt (Or.inl ‹l = []›) | exact bf (by rintro (h | ⟨h, _⟩); exact absurd h ‹¬ l = []›; exact absurd h ‹¬ m ≠ []›) | exact bt (.inr ⟨‹m ≠ []›, .inl (by omega)⟩) | exact bf (by rintro (h | ⟨_, h | h⟩); exact absurd h ‹¬ l = []›; omega; omega) | exact bb ⟨fun e => .inr ⟨‹m ≠ []›, .inr ⟨by omega, e⟩⟩, by rintro (h | ⟨_, h | h⟩); exact absurd h ‹¬ l = []›; omega; exact h.2⟩) (.cons rfl (.cons rfl .nil)))
  ·clear h; intro g0 h
   refine gd_yes h rfl rfl rfl rfl rfl rfl ?_
   refine st_move h rfl rfl ?_; clear h a; intro a h
   refine gd_yes h rfl rfl rfl rfl rfl rfl ?_
   refine st_nes h rfl rfl rfl ?_; clear h a; intro a h
   refine gd_yes h rfl rfl rfl rfl rfl rfl ?_
   refine st_move h rfl rfl ?_; clear h a; intro a h
   first | refine guard_dec (D := 10) h rfl ?_ ?_ | refine guard_ndec (D := 10) h rfl ?_ ?_ | refine guard_any (D := 10) h rfl ?_ ?_
   ·clear h; intro g1 h
    refine gd_yes h rfl rfl rfl rfl rfl rfl ?_
    refine st_move h rfl rfl ?_; clear h a; intro a h
    refine gd_yes h rfl rfl rfl rfl rfl rfl ?_
    refine st_len h rfl Tryd.underlying9 rfl ?_; clear h a; intro a h
    refine gd_yes h rfl rfl rfl rfl rfl rfl ?_
    refine st_move h rfl rfl ?_; clear h a; intro a h
    refine gd_yes h rfl rfl rfl rfl rfl rfl ?_
    refine st_len h rfl Tryd.underlying9 rfl ?_; clear h a; intro a h
    refine gd_yes h rfl rfl rfl rfl rfl rfl ?_
    refine st_lt h rfl rfl rfl ?_; clear h a; intro a h
    refine gd_yes h rfl rfl rfl rfl rfl rfl ?_
    refine st_move h rfl rfl ?_; clear h a; intro a h
    first | refine guard_dec (D := 16) h rfl ?_ ?_ | refine guard_ndec (D := 16) h rfl ?_ ?_ | refine guard_any (D := 16) h rfl ?_ ?_
    ·clear h; intro g2 h
     refine gd_no h rfl rfl rfl rfl rfl rfl rfl rfl ?_; clear h a; intro a h
     refine gd_no h rfl rfl rfl rfl rfl rfl rfl rfl ?_; clear h a; intro a h
     refine gd_no h rfl rfl rfl rfl rfl rfl rfl rfl ?_; clear h a; intro a h
     refine gd_no h rfl rfl rfl rfl rfl rfl rfl rfl ?_; clear h a; intro a h
     refine gd_no h rfl rfl rfl rfl rfl rfl rfl rfl ?_; clear h a; intro a h
     refine gd_no h rfl rfl rfl rfl rfl rfl rfl rfl ?_; clear h a; intro a h
     refine gd_skip h rfl rfl rfl rfl rfl rfl rfl ?_; clear h a; intro a h
     refine gd_skip h rfl rfl rfl rfl rfl rfl rfl ?_; clear h a; intro a h
     refine gd_skip h rfl rfl rfl rfl rfl rfl rfl ?_; clear h a; intro a h
     refine gd_no h rfl rfl rfl rfl rfl rfl rfl rfl ?_; clear h a; intro a h
     refine gd_yes h rfl rfl rfl rfl rfl rfl ?_
     refine st_pick_t h rfl rfl rfl rfl ?_; clear h a; intro a h
     refine gd_yes h rfl rfl rfl rfl rfl rfl ?_
     refine st_pick_t h rfl rfl rfl rfl ?_; clear h a; intro a h
     refine st_pick_f h rfl rfl rfl rfl ?_; clear h a; intro a h
     exact wpList_nil (bool_end h rfl (by first | exact bt (Or.inl ‹l = []›) | exact bf (by rintro (h | ⟨h, _⟩); exact absurd h ‹¬ l = []›; exact absurd h ‹¬ m ≠ []›) | exact bt (.inr ⟨‹m ≠ []›, .inl (by omega)⟩) | exact bf (by rintro (h | ⟨_, h | h⟩); exact absurd h ‹¬ l = []›; omega; omega) | exact bb ⟨fun e => .inr ⟨‹m ≠ []›, .inr ⟨by omega, e⟩⟩, by rintro (h | ⟨_, h | h⟩); exact absurd h ‹¬ l = []›; omega; exact h.2⟩) (.cons rfl (.cons rfl .nil)))
    ·clear h; intro g2 h
     refine gd_yes h rfl rfl rfl rfl rfl rfl ?_
     refine st_move h rfl rfl ?_; clear h a; intro a h
     refine gd_yes h rfl rfl rfl rfl rfl rfl ?_
     refine st_len h rfl Tryd.underlying9 rfl ?_; clear h a; intro a h
     refine gd_yes h rfl rfl rfl rfl rfl rfl ?_
     refine st_move h rfl rfl ?_; clear h a; intro a h
     refine gd_yes h rfl rfl rfl rfl rfl rfl ?_
     refine st_len h rfl Tryd.underlying9 rfl ?_; clear h a; intro a h
     refine gd_yes h rfl rfl rfl rfl rfl rfl ?_
     refine st_eq h rfl rfl rfl ?_; clear h a; intro a h
     refine gd_yes h rfl rfl rfl rfl rfl rfl ?_
     refine st_move h rfl rfl ?_; clear h a; intro a h
     first | refine guard_dec (D := 22) h rfl ?_ ?_ | refine guard_ndec (D := 22) h rfl ?_ ?_ | refine guard_any (D := 22) h rfl ?_ ?_
     ·clear h; intro g3 h
      refine gd_yes h rfl rfl rfl rfl rfl rfl ?_
      refine st_move h rfl rfl ?_; clear h a; intro a h
      refine gd_yes h rfl rfl rfl rfl rfl rfl ?_
      refine st_move h rfl rfl ?_; clear h a; intro a h
      refine gd_yes h rfl rfl rfl rfl rfl rfl ?_
      refine st_lts h rfl rfl rfl ?_; clear h a; intro a h
      refine gd_yes h rfl rfl rfl rfl rfl rfl ?_
      refine st_pick_t h rfl rfl rfl rfl ?_; clear h a; intro a h
      refine gd_yes h rfl rfl rfl rfl rfl rfl ?_
      refine st_pick_f h rfl rfl rfl rfl ?_; clear h a; intro a h
      refine gd_yes h rfl rfl rfl rfl rfl rfl ?_
      refine st_pick_t h rfl rfl rfl rfl ?_; clear h a; intro a h
      refine st_pick_f h rfl rfl rfl rfl ?_; clear h a; intro a h
      exact wpList_nil (bool_end h rfl (by first | exact bt (Or.inl ‹l = []›) | exact bf (by rintro (h | ⟨h, _⟩); exact absurd h ‹¬ l = []›; exact absurd h ‹¬ m ≠ []›) | exact bt (.inr ⟨‹m ≠ []›, .inl (by omega)⟩) | exact bf (by rintro (h | ⟨_, h | h⟩); exact absurd h ‹¬ l = []›; omega; omega) | exact bb ⟨fun e => .inr ⟨‹m ≠ []›, .inr ⟨by omega, e⟩⟩, by rintro (h | ⟨_, h | h⟩); exact absurd h ‹¬ l = []›; omega; exact h.2⟩) (.cons rfl (.cons rfl .nil)))
     ·clear h; intro g3 h
      refine gd_no h rfl rfl rfl rfl rfl rfl rfl rfl ?_; clear h a; intro a h
      refine gd_no h rfl rfl rfl rfl rfl rfl rfl rfl ?_; clear h a; intro a h
      refine gd_no h rfl rfl rfl rfl rfl rfl rfl rfl ?_; clear h a; intro a h
      refine gd_yes h rfl rfl rfl rfl rfl rfl ?_
      refine st_pick_f h rfl rfl rfl rfl ?_; clear h a; intro a h
      refine gd_yes h rfl rfl rfl rfl rfl rfl ?_
      refine st_pick_f h rfl rfl rfl rfl ?_; clear h a; intro a h
      refine gd_yes h rfl rfl rfl rfl rfl rfl ?_
      refine st_pick_t h rfl rfl rfl rfl ?_; clear h a; intro a h
      refine st_pick_f h rfl rfl rfl rfl ?_; clear h a; intro a h
      exact wpList_nil (bool_end h rfl (by first | exact bt (Or.inl ‹l = []›) | exact bf (by rintro (h | ⟨h, _⟩); exact absurd h ‹¬ l = []›; exact absurd h ‹¬ m ≠ []›) | exact bt (.inr ⟨‹m ≠ []›, .inl (by omega)⟩) | exact bf (by rintro (h | ⟨_, h | h⟩); exact absurd h ‹¬ l = []›; omega; omega) | exact bb ⟨fun e => .inr ⟨‹m ≠ []›, .inr ⟨by omega, e⟩⟩, by rintro (h | ⟨_, h | h⟩); exact absurd h ‹¬ l = []›; omega; exact h.2⟩) (.cons rfl (.cons rfl .nil)))
   ·clear h; intro g1 h
    refine gd_no h rfl rfl rfl rfl rfl rfl rfl rfl ?_; clear h a; intro a h
    refine gd_no h rfl rfl rfl rfl rfl rfl rfl rfl ?_; clear h a; intro a h
    refine gd_no h rfl rfl rfl rfl rfl rfl rfl rfl ?_; clear h a; intro a h
    refine gd_no h rfl rfl rfl rfl rfl rfl rfl rfl ?_; clear h a; intro a h
    refine gd_no h rfl rfl rfl rfl rfl rfl rfl rfl ?_; clear h a; intro a h
    refine gd_no h rfl rfl rfl rfl rfl rfl rfl rfl ?_; clear h a; intro a h
    refine gd_skip h rfl rfl rfl rfl rfl rfl rfl ?_; clear h a; intro a h
    refine gd_skip h rfl rfl rfl rfl rfl rfl rfl ?_; clear h a; intro a h
    refine gd_skip h rfl rfl rfl rfl rfl rfl rfl ?_; clear h a; intro a h
    refine gd_skip h rfl rfl rfl rfl rfl rfl rfl ?_; clear h a; intro a h
    refine gd_skip h rfl rfl rfl rfl rfl rfl rfl ?_; clear h a; intro a h
    refine gd_skip h rfl rfl rfl rfl rfl rfl rfl ?_; clear h a; intro a h
    refine gd_skip h rfl rfl rfl rfl rfl rfl rfl ?_; clear h a; intro a h
    refine gd_skip h rfl rfl rfl rfl rfl rfl rfl ?_; clear h a; intro a h
    refine gd_skip h rfl rfl rfl rfl rfl rfl rfl ?_; clear h a; intro a h
    refine gd_skip h rfl rfl rfl rfl rfl rfl rfl ?_; clear h a; intro a h
    refine gd_no h rfl rfl rfl rfl rfl rfl rfl rfl ?_; clear h a; intro a h
    refine gd_yes h rfl rfl rfl rfl rfl rfl ?_
    refine st_pick_f h rfl rfl rfl rfl ?_; clear h a; intro a h
    refine st_pick_f h rfl rfl rfl rfl ?_; clear h a; intro a h
    exact wpList_nil (bool_end h rfl (by first | exact bt (Or.inl ‹l = []›) | exact bf (by rintro (h | ⟨h, _⟩); exact absurd h ‹¬ l = []›; exact absurd h ‹¬ m ≠ []›) | exact bt (.inr ⟨‹m ≠ []›, .inl (by omega)⟩) | exact bf (by rintro (h | ⟨_, h | h⟩); exact absurd h ‹¬ l = []›; omega; omega) | exact bb ⟨fun e => .inr ⟨‹m ≠ []›, .inr ⟨by omega, e⟩⟩, by rintro (h | ⟨_, h | h⟩); exact absurd h ‹¬ l = []›; omega; exact h.2⟩) (.cons rfl (.cons rfl .nil)))
 ·clear h a; intro a h
  refine (norm_then ?_)
  first | refine cond_dec h rfl (fun c0 => ?_) (fun c0 => ?_) | refine cond_ndec h rfl (fun c0 => ?_) (fun c0 => ?_) | refine cond_split h rfl (fun c0 => ?_) (fun c0 => ?_)
  ·refine id ?_
   refine wp_seq ?_
   refine wR ?_
   refine st_move h rfl rfl ?_; clear h a; intro a h
   refine st_assign h rfl rfl ?_; clear h a; intro a h
   replace h : Ag a 32 [(4, _)] := h.sub (.cons rfl .nil)
   refine wnt ?_
   refine wp_ret (ret_then ?_)
   refine ret1 h Tryd.results92 rfl ?_
   exact ⟨_, rfl, by first | rw [betterS, if_pos c0] | rw [betterS, if_neg c0], rfl⟩
  ·refine id ?_
   refine wsn ?_
   refine wp_seq ?_
   refine wR ?_
   refine st_move h rfl rfl ?_; clear h a; intro a h
   refine st_assign h rfl rfl ?_; clear h a; intro a h
   replace h : Ag a 32 [(4, _)] := h.sub (.cons rfl .nil)
   refine wnt ?_
   refine wp_ret ?_
   refine ret1 h Tryd.results92 rfl ?_
   exact ⟨_, rfl, by first | rw [betterS, if_pos c0] | rw [betterS, if_neg c0], rfl⟩
end Go.Proofs.YthehggmdcmpjeaaDoor
namespace Go.Proofs.YthehggmdcmpjeaaDoor
open Go.Lw Go.G14
theorem co55 : CallOf Tryd.prog 55 := CallOf.mk' Tryd.func55 (by kernel_rfl) (by kernel_rfl)
theorem co75 : CallOf Tryd.prog 75 := CallOf.mk' Tryd.func75 (by kernel_rfl) (by kernel_rfl)
theorem co86 : CallOf Tryd.prog 86 := CallOf.mk' Tryd.func86 (by kernel_rfl) (by kernel_rfl)
theorem el61 : ElemOf Tryd.prog 61 100 encSt 32 := ElemOf.mk' (z := (.agg #[.int .u8 0, .int .u8 0, .int .i64 0, .int .i64 0, .bool false])) Tryd.underlying61 (by kernel_rfl) rfl
theorem eqv36 : EqOf Tryd.prog 100 stV := by
 intro e f ox oy w
 have hg : ∀ op, (eqGuard op 100 ox oy (stV e) (stV f)).run Tryd.prog w = .ok () w := fun op => run_eqGuard_agg w op 100 ox oy _ _ (by kernel_rfl)
 have h1 : Tryd.prog.stoodInHeld 100 = false := by kernel_rfl
 obtain ⟨k, y, a, b, c⟩ := e
 obtain ⟨k', y', a', b', c'⟩ := f
 refine ⟨hg _, hg _, ?_, ?_⟩
 ·unfold stV
  simp [go_sem, h1, Tryd.underlying100]
  (repeat' split) <;> simp_all
 ·unfold stV
  simp [go_sem, h1, Tryd.underlying100]
  (repeat' split) <;> simp_all
theorem equal_ok (u v : Value) (xs ys : List Stitch) (w0 : World) (hu : Sl encSt w0 u xs) (hv : Sl encSt w0 v ys) : Rets Tryd.prog 103 #[u, v] w0 fun r w' => r = .bool (decide (xs = ys)) ∧ Fr [] w0 w' := by
 obtain ⟨A, c, rfl, hc, hM, hA⟩ := hu
 obtain ⟨B, d, rfl, hd, hN, hB⟩ := hv
 unfold maxLen at hM hN
 refine enter [(0, .slice A xs.length c), (1, .slice B ys.length d)] Tryd.func103 rfl Tryd.ntmps103 rfl (.cons rfl (.cons rfl .nil)) ?_
 have hf := Fr.refl [] w0
 intro a h
 refine wp_seq ?_
 refine wR ?_
 refine st_assign h rfl rfl ?_; clear h a; intro a h
 replace h : Ag a 26 [(0, _), (1, _)] := h.sub (.cons rfl (.cons rfl .nil))
 refine wnt ?_
 refine wp_seq ?_
 refine wp_seq ?_
 refine wR ?_
 refine st_move h rfl rfl ?_; clear h a; intro a h
 refine st_lenS h rfl Tryd.underlying61 rfl ?_; clear h a; intro a h
 refine st_move h rfl rfl ?_; clear h a; intro a h
 refine st_lenS h rfl Tryd.underlying61 rfl ?_; clear h a; intro a h
 refine st_ne h rfl rfl rfl ?_; clear h a; intro a h
 replace h : Ag a 26 [(0, _), (1, _), (10, _)] := h.sub (.cons rfl (.cons rfl (.cons rfl .nil)))
 refine wnt ?_
 first | refine cond_dec h rfl (fun c0 => ?_) (fun c0 => ?_) | refine cond_ndec h rfl (fun c0 => ?_) (fun c0 => ?_) | refine cond_split h rfl (fun c0 => ?_) (fun c0 => ?_)
 ·refine id ?_
  refine wp_seq ?_
  refine wR ?_
  refine st_assign h rfl rfl ?_; clear h a; intro a h
  replace h : Ag a 26 [(4, _)] := h.sub (.cons rfl .nil)
  refine wnt ?_
  refine wp_ret (ret_then ?_)
  refine ret1 h Tryd.results103 rfl ?_
  exact ⟨_, rfl, by first | (rw [decide_eq_false]; intro e; subst e; omega) | (rw [decide_eq_false]; intro e; subst e; rw [hxk] at hyk; cases hyk; exact c2 rfl) | rw [decide_eq_true ht], hf⟩
 ·refine id ?_
  refine wsn ?_
  refine wp_seq ?_
  refine wp_seq ?_
  refine wR ?_
  refine st_move h rfl rfl ?_; clear h a; intro a h
  refine st_lenS h rfl Tryd.underlying61 rfl ?_; clear h a; intro a h
  refine st_move h rfl rfl ?_; clear h a; intro a h
  replace h : Ag a 26 [(0, _), (1, _), (12, _), (13, _)] := h.sub (.cons rfl (.cons rfl (.cons rfl (.cons rfl .nil))))
  refine wnt ?_
  refine wp_block ?_
  refine loop (ι := Nat) (fun k => [(0, .slice A xs.length c), (1, .slice B ys.length d), (12, .int .i64 (xs.length : Int)), (13, .int .i64 (k : Int))]) (fun k w' => k ≤ xs.length ∧ xs.take k = ys.take k ∧ Fr [] w0 w') (fun k => xs.length - k) 0 (h.sub (.cons rfl (.cons rfl (.cons rfl (.cons rfl .nil))))) ⟨by omega, by simp, hf⟩ ?_
  clear h a hf
  rintro k w1 a h ⟨hk, ht, hf⟩
  refine wp_seq ?_
  refine wR ?_
  refine st_lt h rfl rfl rfl ?_; clear h a; intro a h
  refine wnt ?_
  refine wp_seq ?_
  first | refine cond_dec h rfl (fun c1 => ?_) (fun c1 => ?_) | refine cond_ndec h rfl (fun c1 => ?_) (fun c1 => ?_) | refine cond_split h rfl (fun c1 => ?_) (fun c1 => ?_)
  ·obtain ⟨x, hxk⟩ : ∃ x, xs[k]? = some x := ⟨_, List.getElem?_eq_getElem (by omega)⟩
   obtain ⟨y, hyk⟩ : ∃ y, ys[k]? = some y := ⟨_, List.getElem?_eq_getElem (by omega)⟩
   obtain ⟨ad, rfl, ca⟩ := hA k x hxk
   obtain ⟨bd, rfl, cb⟩ := hB k y hyk
   refine wsn ?_
   refine wp_seq ?_
   refine wp_block ?_
   refine wp_seq ?_
   refine wR ?_
   refine st_move h rfl rfl ?_; clear h a; intro a h
   refine st_assign h rfl rfl ?_; clear h a; intro a h
   replace h : Ag a 26 [(0, _), (1, _), (5, _), (12, _), (13, _)] := h.sub (.cons rfl (.cons rfl (.cons rfl (.cons rfl (.cons rfl .nil)))))
   refine wnt ?_
   refine wp_seq ?_
   refine region_quiet hmix (by kernel_rfl) ?_
   refine qt_move h rfl rfl ?_; clear h a; intro a h
   refine qt_move h rfl rfl ?_; clear h a; intro a h
   refine qt_idx h rfl rfl rfl el61 (by omega) (by omega) rfl ?_; clear h a; intro a h
   refine qt_loadA h rfl (fun _ hw => (ca.fr hf (by simp)).fr hw (by simp)) ag100 rfl ?_; clear h a; intro a h
   refine qt_move h rfl rfl ?_; clear h a; intro a h
   refine qt_move h rfl rfl ?_; clear h a; intro a h
   refine qt_idx h rfl rfl rfl el61 (by omega) (by omega) rfl ?_; clear h a; intro a h
   refine qt_loadA h rfl (fun _ hw => (cb.fr hf (by simp)).fr hw (by simp)) ag100 rfl ?_; clear h a; intro a h
   refine qt_neV (e := x) (f := y) h rfl rfl eqv36 rfl ?_; clear h a; intro a h
   refine wpQuiet_nil ?_
   intro w2 hq
   replace hf := hf.next hq
   clear hq
   replace h : Ag a 26 [(0, _), (1, _), (12, _), (13, _), (24, _)] := h.sub (.cons rfl (.cons rfl (.cons rfl (.cons rfl (.cons rfl .nil)))))
   refine (norm_then ?_)
   first | refine cond_dec h rfl (fun c2 => ?_) (fun c2 => ?_) | refine cond_ndec h rfl (fun c2 => ?_) (fun c2 => ?_) | refine cond_split h rfl (fun c2 => ?_) (fun c2 => ?_)
   ·refine id ?_
    refine wp_seq ?_
    refine wR ?_
    refine st_assign h rfl rfl ?_; clear h a; intro a h
    replace h : Ag a 26 [(4, _)] := h.sub (.cons rfl .nil)
    refine wnt ?_
    refine wp_ret (ret_blk (ret_then (ret_then (ret_blk (ret_then ?_)))))
    refine ret1 h Tryd.results103 rfl ?_
    exact ⟨_, rfl, by first | (rw [decide_eq_false]; intro e; subst e; omega) | (rw [decide_eq_false]; intro e; subst e; rw [hxk] at hyk; cases hyk; exact c2 rfl) | rw [decide_eq_true ht], hf⟩
   ·refine id ?_
    refine wp_skip (norm_blk (norm_then ?_))
    refine wR ?_
    refine st_add h rfl rfl (by first | exact IntWalk.i64_in _ (by omega) | rfl) rfl ?_; clear h a; intro a h
    refine st_move h rfl rfl ?_; clear h a; intro a h
    replace h : Ag a 26 [(0, _), (1, _), (12, _), (13, _)] := h.sub (.cons rfl (.cons rfl (.cons rfl (.cons rfl .nil))))
    refine wnt ?_
    exact ⟨k + 1, h.sub (.cons rfl (.cons rfl (.cons rfl (.cons rfl .nil)))), ⟨by omega, by rw [List.take_add_one, List.take_add_one, ht, hxk, hyk, Decidable.not_not.1 c2], hf⟩, by omega⟩
  ·obtain rfl : k = xs.length := by omega
   rw [List.take_length, show xs.length = ys.length by omega, List.take_length] at ht
   refine wp_exit (exit_then (exit_then (exit_here (norm_then ?_))))
   refine wp_seq ?_
   refine wR ?_
   refine st_assign h rfl rfl ?_; clear h a; intro a h
   replace h : Ag a 26 [(4, _)] := h.sub (.cons rfl .nil)
   refine wnt ?_
   refine wp_ret ?_
   refine ret1 h Tryd.results103 rfl ?_
   exact ⟨_, rfl, by first | (rw [decide_eq_false]; intro e; subst e; omega) | (rw [decide_eq_false]; intro e; subst e; rw [hxk] at hyk; cases hyk; exact c2 rfl) | rw [decide_eq_true ht], hf⟩
theorem small_ok (n : Nat) (w0 : World) (hn : n < 100) : Rets Tryd.prog 86 #[.int .i64 (n : Int)] w0 fun v w' => v = S (itoaS n) ∧ w0 = w' := by
 refine enter [(0, .int .i64 (n : Int))] Tryd.func86 rfl Tryd.ntmps86 rfl (.cons rfl .nil) ?_
 intro a h
 refine wp_seq ?_
 refine wR ?_
 refine st_assign h rfl rfl ?_; clear h a; intro a h
 replace h : Ag a 15 [(0, _)] := h.sub (.cons rfl .nil)
 refine wnt ?_
 refine wp_seq ?_
 refine wp_seq ?_
 refine wR ?_
 refine st_move h rfl rfl ?_; clear h a; intro a h
 refine st_lt h rfl rfl rfl ?_; clear h a; intro a h
 replace h : Ag a 15 [(0, _), (4, _)] := h.sub (.cons rfl (.cons rfl .nil))
 refine wnt ?_
 first | refine cond_dec h rfl (fun c0 => ?_) (fun c0 => ?_) | refine cond_ndec h rfl (fun c0 => ?_) (fun c0 => ?_) | refine cond_split h rfl (fun c0 => ?_) (fun c0 => ?_)
 ·refine id ?_
  refine wp_seq ?_
  refine wR ?_
  refine st_move h rfl rfl ?_; clear h a; intro a h
  refine st_move h rfl rfl ?_; clear h a; intro a h
  refine st_add h rfl rfl (by first | exact IntWalk.i64_in _ (by omega) | rfl) rfl ?_; clear h a; intro a h
  refine st_ss_lh (p := n) (p' := n + 1) h rfl rfl rfl Tryd.underlying9 (by omega) (by omega) (by simp; omega) (by omega) (by omega) rfl ?_; clear h a; intro a h
  refine st_assign h rfl rfl ?_; clear h a; intro a h
  replace h : Ag a 15 [(2, _)] := h.sub (.cons rfl .nil)
  refine wnt ?_
  refine wp_ret (ret_then ?_)
  refine ret1 h Tryd.results86 rfl ?_
  refine ⟨_, rfl, ?_, rfl⟩
  clear h
  have e : n < 10 := by omega
  clear c0 hn; refine congrArg S ?_; revert n; decide +kernel
 ·refine id ?_
  refine wsn ?_
  refine wp_seq ?_
  refine wR ?_
  refine st_move h rfl rfl ?_; clear h a; intro a h
  refine st_mul h rfl rfl (by first | exact IntWalk.i64_in _ (by omega) | rfl) rfl ?_; clear h a; intro a h
  refine st_move h rfl rfl ?_; clear h a; intro a h
  refine st_mul h rfl rfl (by first | exact IntWalk.i64_in _ (by omega) | rfl) rfl ?_; clear h a; intro a h
  refine st_add h rfl rfl (by first | exact IntWalk.i64_in _ (by omega) | rfl) rfl ?_; clear h a; intro a h
  refine st_ss_lh (p := 2 * n) (p' := 2 * n + 2) h rfl rfl rfl Tryd.underlying9 (by omega) (by omega) (Int.le_trans (b := 200) (by omega) (by decide +kernel)) (by omega) (by omega) rfl ?_; clear h a; intro a h
  refine st_assign h rfl rfl ?_; clear h a; intro a h
  replace h : Ag a 15 [(2, _)] := h.sub (.cons rfl .nil)
  refine wnt ?_
  refine wp_ret ?_
  refine ret1 h Tryd.results86 rfl ?_
  refine ⟨_, rfl, ?_, rfl⟩
  clear h
  have e : 10 ≤ n := by omega
  clear c0; refine congrArg S ?_; revert n; decide +kernel
theorem formatInt_ok (n : Nat) (w0 : World) (hn : n < 100) : Rets Tryd.prog 75 #[.int .i64 (n : Int), .int .i64 10] w0 fun v w' => v = S (itoaS n) ∧ w0 = w' := by
 refine enter [(0, .int .i64 (n : Int)), (1, .int .i64 10)] Tryd.func75 rfl Tryd.ntmps75 rfl (.cons rfl (.cons rfl .nil)) ?_
 intro a h
 refine wp_seq ?_
 refine wR ?_
 refine st_assign h rfl rfl ?_; clear h a; intro a h
 replace h : Ag a 54 [(0, _), (1, _)] := h.sub (.cons rfl (.cons rfl .nil))
 refine wnt ?_
 refine wp_seq ?_
 refine wp_seq ?_
 refine wR ?_
 refine st_move h rfl rfl ?_; clear h a; intro a h
 refine st_eq h rfl rfl rfl ?_; clear h a; intro a h
 replace h : Ag a 54 [(0, _), (1, _), (11, _)] := h.sub (.cons rfl (.cons rfl (.cons rfl .nil)))
 refine wnt ?_
 first | refine cond_dec h rfl (fun c0 => ?_) (fun c0 => ?_) | refine cond_ndec h rfl (fun c0 => ?_) (fun c0 => ?_) | refine cond_split h rfl (fun c0 => ?_) (fun c0 => ?_)
 ·refine id ?_
  refine wp_seq ?_
  refine wp_seq ?_
  refine region_bool (r := 17) (L' := [(0, _)]) (True) h (.cons rfl .nil) ?_ ?_
  ·refine id ?_
   refine st_move h rfl rfl ?_; clear h a; intro a h
   refine st_le h rfl rfl rfl ?_; clear h a; intro a h
   refine st_move h rfl rfl ?_; clear h a; intro a h
   first | refine guard_dec (D := 14) h rfl ?_ ?_ | refine guard_ndec (D := 14) h rfl ?_ ?_ | refine guard_any (D := 14) h rfl ?_ ?_
   ·clear h; intro g0 h
    refine gd_yes h rfl rfl rfl rfl rfl rfl ?_
    refine st_move h rfl rfl ?_; clear h a; intro a h
    refine gd_yes h rfl rfl rfl rfl rfl rfl ?_
    refine st_lt h rfl rfl rfl ?_; clear h a; intro a h
    refine st_pick_t h rfl rfl rfl rfl ?_; clear h a; intro a h
    exact wpList_nil (bool_end h rfl (by first | exact bi (iff_true_intro (by omega)) | (exfalso; omega)) (.cons rfl .nil))
   ·clear h; intro g0 h
    refine gd_no h rfl rfl rfl rfl rfl rfl rfl rfl ?_; clear h a; intro a h
    refine gd_no h rfl rfl rfl rfl rfl rfl rfl rfl ?_; clear h a; intro a h
    refine st_pick_f h rfl rfl rfl rfl ?_; clear h a; intro a h
    exact wpList_nil (bool_end h rfl (by first | exact bi (iff_true_intro (by omega)) | (exfalso; omega)) (.cons rfl .nil))
  ·clear h a; intro a h
   refine (norm_then ?_)
   first | refine cond_dec h rfl (fun c1 => ?_) (fun c1 => ?_) | refine cond_ndec h rfl (fun c1 => ?_) (fun c1 => ?_) | refine cond_split h rfl (fun c1 => ?_) (fun c1 => ?_)
   ·refine id ?_
    refine wp_seq ?_
    refine wR ?_
    refine st_move h rfl rfl ?_; clear h a; intro a h
    refine st_call h (evs_cons rfl evs_nil) co86 (small_ok _ _ (by omega)) rfl ?_; clear h a; rintro _ _ ⟨rfl, rfl⟩ a h
    refine st_assign h rfl rfl ?_; clear h a; intro a h
    replace h : Ag a 54 [(4, _)] := h.sub (.cons rfl .nil)
    refine wnt ?_
    refine wp_ret (ret_then (ret_then ?_))
    refine ret1 h Tryd.results75 rfl ?_
    exact ⟨_, rfl, rfl, rfl⟩
   ·exact absurd trivial c1
 ·exact absurd rfl c0
theorem itoa0_ok (n : Nat) (w0 : World) (hn : n < 100) : Rets Tryd.prog 55 #[.int .i64 (n : Int)] w0 fun v w' => v = S (itoaS n) ∧ w0 = w' := by
 refine enter [(0, .int .i64 (n : Int))] Tryd.func55 rfl Tryd.ntmps55 rfl (.cons rfl .nil) ?_
 intro a h
 refine wp_seq ?_
 refine wR ?_
 refine st_assign h rfl rfl ?_; clear h a; intro a h
 replace h : Ag a 5 [(0, _)] := h.sub (.cons rfl .nil)
 refine wnt ?_
 refine wp_seq ?_
 refine wR ?_
 refine st_move h rfl rfl ?_; clear h a; intro a h
 refine st_call h (evs_cons rfl (evs_cons rfl evs_nil)) co75 (formatInt_ok _ _ (by omega)) rfl ?_; clear h a; rintro _ _ ⟨rfl, rfl⟩ a h
 refine st_assign h rfl rfl ?_; clear h a; intro a h
 replace h : Ag a 5 [(2, _)] := h.sub (.cons rfl .nil)
 refine wnt ?_
 refine wp_ret ?_
 refine ret1 h Tryd.results55 rfl ?_
 exact ⟨_, rfl, rfl, rfl⟩
theorem itoa_ok (n : Nat) (w0 : World) (hn : n < 100) : Rets Tryd.prog 32 #[.int .i64 (n : Int)] w0 fun v w' => v = S (itoaS n) ∧ w0 = w' := by
 refine enter [(0, .int .i64 (n : Int))] Tryd.func32 rfl Tryd.ntmps32 rfl (.cons rfl .nil) ?_
 intro a h
 refine wp_seq ?_
 refine wR ?_
 refine st_assign h rfl rfl ?_; clear h a; intro a h
 replace h : Ag a 5 [(0, _)] := h.sub (.cons rfl .nil)
 refine wnt ?_
 refine wp_seq ?_
 refine wR ?_
 refine st_move h rfl rfl ?_; clear h a; intro a h
 refine st_call h (evs_cons rfl evs_nil) co55 (itoa0_ok _ _ (by omega)) rfl ?_; clear h a; rintro _ _ ⟨rfl, rfl⟩ a h
 refine st_assign h rfl rfl ?_; clear h a; intro a h
 replace h : Ag a 5 [(2, _)] := h.sub (.cons rfl .nil)
 refine wnt ?_
 refine wp_ret ?_
 refine ret1 h Tryd.results32 rfl ?_
 exact ⟨_, rfl, rfl, rfl⟩
end Go.Proofs.YthehggmdcmpjeaaDoor
namespace Go.Proofs.YthehggmdcmpjeaaDoor
open Go.Lw Go.G14
theorem co103 : CallOf Tryd.prog 103 := CallOf.mk' Tryd.func103 (by kernel_rfl) (by kernel_rfl)
theorem el45 : ElemOf Tryd.prog 45 61 Enc.sl 24 := ElemOf.mk' (z := (.slice none 0 0)) Tryd.underlying45 (by kernel_rfl) rfl
theorem fa47_0 : FieldAt Tryd.prog 47 0 0 := fun _ _ => by kernel_rfl
theorem na45 : NotAgg Tryd.prog 45 := fun _ => by kernel_rfl
theorem na61 : NotAgg Tryd.prog 61 := fun _ => by kernel_rfl
theorem ne_rows {xs ys : List (List Stitch)} {i k : Nat} {x y : List Stitch} {s t : Stitch} (hx : xs[i]? = some x) (hy : ys[i]? = some y) (hs : x[k]? = some s) (ht : y[k]? = some t) (h : s ≠ t) : xs ≠ ys := take_ne hx hy (take_ne hs ht h)
set_option maxHeartbeats 1000000 in
theorem differ2_ok (u v : Value) (xs ys : List (List Stitch)) (w0 : World) (hu : Sl2 w0 u xs) (hv : Sl2 w0 v ys) : Rets Tryd.prog 19 #[.agg #[u], .agg #[v]] w0 fun r w' => r = .int .i64 (if xs = ys then 0 else 1) ∧ Fr [] w0 w' := by
 obtain ⟨hs, hsl, hl, hr⟩ := hu
 obtain ⟨gs, gsl, gl, gr⟩ := hv
 obtain ⟨A, c, rfl, hc, hM, hA⟩ := hsl
 obtain ⟨B, d, rfl, hd, hN, hB⟩ := gsl
 unfold maxLen at hM hN
 refine enter [(0, .agg #[.slice A hs.length c]), (1, .agg #[.slice B gs.length d])] Tryd.func19 rfl Tryd.ntmps19 rfl (.cons rfl (.cons rfl .nil)) ?_
 have hf := Fr.refl [] w0
 intro a h
 refine wp_seq ?_
 refine wR ?_
 refine st_box h rfl rfl rfl ?_; clear h a; intro w1 hb2 hq hz a h
 obtain ⟨g_2, hg⟩ : ∃ g, g = w0.heap.size := ⟨_, rfl⟩; rw [← hg] at hb2 h hz
 have hl2 : w0.heap.size ≤ g_2 := by have := hf.size; omega
 replace hf := hf.next hq
 clear hq hz hg
 refine st_box h rfl rfl rfl ?_; clear h a; intro w2 hb3 hq hz a h
 obtain ⟨g_3, hg⟩ : ∃ g, g = w1.heap.size := ⟨_, rfl⟩; rw [← hg] at hb3 h hz
 have hl3 : w0.heap.size ≤ g_3 := by have := hf.size; omega
 have hn_2_3 : g_2 < g_3 := by have := hb2.lt; omega
 replace hf := hf.next hq
 replace hb2 := hb2.ext hq
 clear hq hz hg
 refine st_assign h rfl rfl ?_; clear h a; intro a h
 replace h : Ag a 61 [(2, _), (3, _)] := h.sub (.cons rfl (.cons rfl .nil))
 refine wnt ?_
 refine wp_seq ?_
 refine wp_seq ?_
 refine wR ?_
 refine st_fieldAddr h rfl fa47_0 rfl ?_; clear h a; intro a h
 refine st_loadB h rfl hb2 rfl na45 rfl ?_; clear h a; intro a h
 refine st_lenS h rfl Tryd.underlying45 rfl ?_; clear h a; intro a h
 refine st_fieldAddr h rfl fa47_0 rfl ?_; clear h a; intro a h
 refine st_loadB h rfl hb3 rfl na45 rfl ?_; clear h a; intro a h
 refine st_lenS h rfl Tryd.underlying45 rfl ?_; clear h a; intro a h
 refine st_ne h rfl rfl rfl ?_; clear h a; intro a h
 replace h : Ag a 61 [(2, _), (3, _), (13, _)] := h.sub (.cons rfl (.cons rfl (.cons rfl .nil)))
 refine wnt ?_
 first | refine cond_dec h rfl (fun c0 => ?_) (fun c0 => ?_) | refine cond_ndec h rfl (fun c0 => ?_) (fun c0 => ?_) | refine cond_split h rfl (fun c0 => ?_) (fun c0 => ?_)
 ·refine id ?_
  refine wp_seq ?_
  refine wR ?_
  refine st_assign h rfl rfl ?_; clear h a; intro a h
  replace h : Ag a 61 [(4, _)] := h.sub (.cons rfl .nil)
  refine wnt ?_
  refine wp_ret (ret_then ?_)
  refine ret1 h Tryd.results19 rfl ?_
  exact ⟨_, rfl, by rw [if_neg (by rintro rfl; omega)], hf⟩
 ·refine id ?_
  refine wsn ?_
  refine wp_seq ?_
  refine wp_seq ?_
  refine wR ?_
  refine st_assign h rfl rfl ?_; clear h a; intro a h
  replace h : Ag a 61 [(2, _), (3, _), (5, _)] := h.sub (.cons rfl (.cons rfl (.cons rfl .nil)))
  refine wnt ?_
  refine wp_block ?_
  refine loop (ι := Nat) (fun i => [(2, .pointer (some ⟨g_2, 0, none⟩)), (3, .pointer (some ⟨g_3, 0, none⟩)), (5, .int .i64 (i : Int))]) (fun i w' => i ≤ hs.length ∧ xs.take i = ys.take i ∧ Blk w' g_2 47 [.slice A hs.length c] ∧ Blk w' g_3 47 [.slice B gs.length d] ∧ Fr [] w0 w') (fun i => hs.length - i) 0 (h.sub (.cons rfl (.cons rfl (.cons rfl .nil)))) ⟨by omega, by simp, hb2, hb3, hf⟩ ?_
  clear h a hf hb2 hb3
  rintro i w3 a h ⟨hi, ht, hb2, hb3, hf⟩
  refine wp_seq ?_
  refine wp_seq ?_
  refine wR ?_
  refine st_move h rfl rfl ?_; clear h a; intro a h
  refine st_fieldAddr h rfl fa47_0 rfl ?_; clear h a; intro a h
  refine st_loadB h rfl hb2 rfl na45 rfl ?_; clear h a; intro a h
  refine st_lenS h rfl Tryd.underlying45 rfl ?_; clear h a; intro a h
  refine st_lt h rfl rfl rfl ?_; clear h a; intro a h
  replace h : Ag a 61 [(2, _), (3, _), (5, _), (18, _)] := h.sub (.cons rfl (.cons rfl (.cons rfl (.cons rfl .nil))))
  refine wnt ?_
  first | refine cond_dec h rfl (fun c1 => ?_) (fun c1 => ?_) | refine cond_ndec h rfl (fun c1 => ?_) (fun c1 => ?_) | refine cond_split h rfl (fun c1 => ?_) (fun c1 => ?_)
  ·obtain ⟨p, hp⟩ : ∃ p, hs[i]? = some p := ⟨_, List.getElem?_eq_getElem (by omega)⟩
   obtain ⟨q, hq'⟩ : ∃ p, gs[i]? = some p := ⟨_, List.getElem?_eq_getElem (by omega)⟩
   obtain ⟨x, hx⟩ : ∃ x, xs[i]? = some x := ⟨_, List.getElem?_eq_getElem (by omega)⟩
   obtain ⟨y, hy⟩ : ∃ y, ys[i]? = some y := ⟨_, List.getElem?_eq_getElem (by omega)⟩
   obtain ⟨ad, rfl, ca⟩ := hA i p hp
   obtain ⟨bd, rfl, cb⟩ := hB i q hq'
   obtain ⟨pl, pc, pM, pA⟩ := Sl.open_ (hr i p x hp hx)
   obtain ⟨ql, qc, qM, qB⟩ := Sl.open_ (gr i q y hq' hy)
   unfold maxLen at pM qM
   refine wsn ?_
   refine wp_seq ?_
   refine wp_block ?_
   refine wp_seq ?_
   refine wp_seq ?_
   refine region_quiet hmix (by kernel_rfl) ?_
   refine qt_fieldAddr h rfl fa47_0 rfl ?_; clear h a; intro a h
   refine qt_loadB h rfl (fun _ hw => hb2.ext hw) rfl na45 rfl ?_; clear h a; intro a h
   refine qt_move h rfl rfl ?_; clear h a; intro a h
   refine qt_idxS h rfl rfl el45 (by omega) (by omega) rfl rfl ?_; clear h a; intro a h
   refine qt_loadC0 h rfl (fun _ hw => (ca.fr hf (by simp)).fr hw (by simp)) na61 rfl ?_; clear h a; intro a h
   refine qt_lenS h rfl Tryd.underlying61 rfl ?_; clear h a; intro a h
   refine qt_fieldAddr h rfl fa47_0 rfl ?_; clear h a; intro a h
   refine qt_loadB h rfl (fun _ hw => hb3.ext hw) rfl na45 rfl ?_; clear h a; intro a h
   refine qt_move h rfl rfl ?_; clear h a; intro a h
   refine qt_idxS h rfl rfl el45 (by omega) (by omega) rfl rfl ?_; clear h a; intro a h
   refine qt_loadC0 h rfl (fun _ hw => (cb.fr hf (by simp)).fr hw (by simp)) na61 rfl ?_; clear h a; intro a h
   refine qt_lenS h rfl Tryd.underlying61 rfl ?_; clear h a; intro a h
   refine qt_ne h rfl rfl rfl ?_; clear h a; intro a h
   refine wpQuiet_nil ?_
   intro w4 hq
   replace hf := hf.next hq
   replace hb2 := hb2.ext hq
   replace hb3 := hb3.ext hq
   clear hq
   replace h : Ag a 61 [(2, _), (3, _), (5, _), (33, _)] := h.sub (.cons rfl (.cons rfl (.cons rfl (.cons rfl .nil))))
   refine (norm_then ?_)
   first | refine cond_dec h rfl (fun c2 => ?_) (fun c2 => ?_) | refine cond_ndec h rfl (fun c2 => ?_) (fun c2 => ?_) | refine cond_split h rfl (fun c2 => ?_) (fun c2 => ?_)
   ·refine id ?_
    refine wp_seq ?_
    refine wR ?_
    refine st_assign h rfl rfl ?_; clear h a; intro a h
    replace h : Ag a 61 [(4, _)] := h.sub (.cons rfl .nil)
    refine wnt ?_
    refine wp_ret (ret_then (ret_blk (ret_then (ret_then (ret_blk (ret_then ?_))))))
    refine ret1 h Tryd.results19 rfl ?_
    exact ⟨_, rfl, by rw [if_neg (take_ne hx hy (by rintro rfl; omega))], hf⟩
   ·refine id ?_
    refine wsn ?_
    refine wp_seq ?_
    refine wR ?_
    refine st_assign h rfl rfl ?_; clear h a; intro a h
    replace h : Ag a 61 [(2, _), (3, _), (5, _), (6, _)] := h.sub (.cons rfl (.cons rfl (.cons rfl (.cons rfl .nil))))
    refine wnt ?_
    refine wp_block ?_
    refine loop (ι := Nat) (fun k => [(2, .pointer (some ⟨g_2, 0, none⟩)), (3, .pointer (some ⟨g_3, 0, none⟩)), (5, .int .i64 (i : Int)), (6, .int .i64 (k : Int))]) (fun k w' => k ≤ p.2.1 ∧ x.take k = y.take k ∧ Blk w' g_2 47 [.slice (some ad) hs.length c] ∧ Blk w' g_3 47 [.slice (some bd) gs.length d] ∧ Fr [] w0 w') (fun k => p.2.1 - k) 0 (h.sub (.cons rfl (.cons rfl (.cons rfl (.cons rfl .nil))))) ⟨by omega, by simp, hb2, hb3, hf⟩ ?_
    clear h a hf hb2 hb3
    rintro k w5 a h ⟨hk, hkt, hb2, hb3, hf⟩
    refine wp_seq ?_
    refine wp_seq ?_
    refine wR ?_
    refine st_move h rfl rfl ?_; clear h a; intro a h
    refine st_fieldAddr h rfl fa47_0 rfl ?_; clear h a; intro a h
    refine st_loadB h rfl hb2 rfl na45 rfl ?_; clear h a; intro a h
    refine st_move h rfl rfl ?_; clear h a; intro a h
    refine st_idxS h rfl rfl el45 (by omega) (by omega) rfl rfl ?_; clear h a; intro a h
    refine st_loadC0 h rfl (ca.fr hf (by simp)) na61 rfl ?_; clear h a; intro a h
    refine st_lenS h rfl Tryd.underlying61 rfl ?_; clear h a; intro a h
    refine st_lt h rfl rfl rfl ?_; clear h a; intro a h
    replace h : Ag a 61 [(2, _), (3, _), (5, _), (6, _), (41, _)] := h.sub (.cons rfl (.cons rfl (.cons rfl (.cons rfl (.cons rfl .nil)))))
    refine wnt ?_
    first | refine cond_dec h rfl (fun c3 => ?_) (fun c3 => ?_) | refine cond_ndec h rfl (fun c3 => ?_) (fun c3 => ?_) | refine cond_split h rfl (fun c3 => ?_) (fun c3 => ?_)
    ·obtain ⟨s, hs'⟩ : ∃ s, x[k]? = some s := ⟨_, List.getElem?_eq_getElem (by omega)⟩
     obtain ⟨t, ht'⟩ : ∃ t, y[k]? = some t := ⟨_, List.getElem?_eq_getElem (by omega)⟩
     obtain ⟨pa, hpa, cs⟩ := pA k s hs'
     obtain ⟨qa, hqa, ct⟩ := qB k t ht'
     refine wsn ?_
     refine wp_seq ?_
     refine wp_block ?_
     refine wp_seq ?_
     refine region_quiet hmix (by kernel_rfl) ?_
     refine qt_fieldAddr h rfl fa47_0 rfl ?_; clear h a; intro a h
     refine qt_loadB h rfl (fun _ hw => hb2.ext hw) rfl na45 rfl ?_; clear h a; intro a h
     refine qt_move h rfl rfl ?_; clear h a; intro a h
     refine qt_idxS h rfl rfl el45 (by omega) (by omega) rfl rfl ?_; clear h a; intro a h
     refine qt_loadC0 h rfl (fun _ hw => (ca.fr hf (by simp)).fr hw (by simp)) na61 rfl ?_; clear h a; intro a h
     refine qt_move h rfl rfl ?_; clear h a; intro a h
     refine qt_idx h rfl rfl hpa el61 (by omega) (by omega) rfl ?_; clear h a; intro a h
     refine qt_loadA h rfl (fun _ hw => (cs.fr hf (by simp)).fr hw (by simp)) ag100 rfl ?_; clear h a; intro a h
     refine qt_fieldAddr h rfl fa47_0 rfl ?_; clear h a; intro a h
     refine qt_loadB h rfl (fun _ hw => hb3.ext hw) rfl na45 rfl ?_; clear h a; intro a h
     refine qt_move h rfl rfl ?_; clear h a; intro a h
     refine qt_idxS h rfl rfl el45 (by omega) (by omega) rfl rfl ?_; clear h a; intro a h
     refine qt_loadC0 h rfl (fun _ hw => (cb.fr hf (by simp)).fr hw (by simp)) na61 rfl ?_; clear h a; intro a h
     refine qt_move h rfl rfl ?_; clear h a; intro a h
     refine qt_idx h rfl rfl hqa el61 (by omega) (by omega) rfl ?_; clear h a; intro a h
     refine qt_loadA h rfl (fun _ hw => (ct.fr hf (by simp)).fr hw (by simp)) ag100 rfl ?_; clear h a; intro a h
     refine qt_neV (e := s) (f := t) h rfl rfl eqv36 rfl ?_; clear h a; intro a h
     refine wpQuiet_nil ?_
     intro w6 hq
     replace hf := hf.next hq
     replace hb2 := hb2.ext hq
     replace hb3 := hb3.ext hq
     clear hq
     replace h : Ag a 61 [(2, _), (3, _), (5, _), (6, _), (60, _)] := h.sub (.cons rfl (.cons rfl (.cons rfl (.cons rfl (.cons rfl .nil)))))
     refine (norm_then ?_)
     first | refine cond_dec h rfl (fun c4 => ?_) (fun c4 => ?_) | refine cond_ndec h rfl (fun c4 => ?_) (fun c4 => ?_) | refine cond_split h rfl (fun c4 => ?_) (fun c4 => ?_)
     ·refine id ?_
      refine wp_seq ?_
      refine wR ?_
      refine st_assign h rfl rfl ?_; clear h a; intro a h
      replace h : Ag a 61 [(4, _)] := h.sub (.cons rfl .nil)
      refine wnt ?_
      refine wp_ret (ret_blk (ret_then (ret_then (ret_blk (ret_blk (ret_then (ret_then (ret_blk (ret_then ?_)))))))))
      refine ret1 h Tryd.results19 rfl ?_
      exact ⟨_, rfl, by rw [if_neg (ne_rows hx hy hs' ht' c4)], hf⟩
     ·refine id ?_
      refine wp_skip (norm_blk (norm_then ?_))
      refine wR ?_
      refine st_move h rfl rfl ?_; clear h a; intro a h
      refine st_add h rfl rfl (by first | exact IntWalk.i64_in _ (by omega) | rfl) rfl ?_; clear h a; intro a h
      refine st_assign h rfl rfl ?_; clear h a; intro a h
      replace h : Ag a 61 [(2, _), (3, _), (5, _), (6, _)] := h.sub (.cons rfl (.cons rfl (.cons rfl (.cons rfl .nil))))
      refine wnt ?_
      exact ⟨k + 1, h.sub (.cons rfl (.cons rfl (.cons rfl (.cons rfl .nil)))), ⟨by omega, by rw [List.take_add_one, List.take_add_one, hkt, hs', ht', Decidable.not_not.1 c4], hb2, hb3, hf⟩, by omega⟩
    ·have hxy : x = y := by
      have e : k = x.length := by omega
      rwa [e, List.take_length, show x.length = y.length by omega, List.take_length] at hkt
     refine wp_exit (exit_then (exit_then (exit_here (norm_blk (norm_then ?_)))))
     refine wR ?_
     refine st_move h rfl rfl ?_; clear h a; intro a h
     refine st_add h rfl rfl (by first | exact IntWalk.i64_in _ (by omega) | rfl) rfl ?_; clear h a; intro a h
     refine st_assign h rfl rfl ?_; clear h a; intro a h
     replace h : Ag a 61 [(2, _), (3, _), (5, _)] := h.sub (.cons rfl (.cons rfl (.cons rfl .nil)))
     refine wnt ?_
     exact ⟨i + 1, h.sub (.cons rfl (.cons rfl (.cons rfl .nil))), ⟨by omega, by rw [List.take_add_one, List.take_add_one, ht, hx, hy, hxy], hb2, hb3, hf⟩, by omega⟩
  ·obtain rfl : i = hs.length := by omega
   have hxy : xs = ys := by
    rwa [hl, List.take_length, show xs.length = ys.length by omega, List.take_length] at ht
   refine wp_exit (exit_then (exit_then (exit_here (norm_then ?_))))
   refine wp_seq ?_
   refine wR ?_
   refine st_assign h rfl rfl ?_; clear h a; intro a h
   replace h : Ag a 61 [(4, _)] := h.sub (.cons rfl .nil)
   refine wnt ?_
   refine wp_ret ?_
   refine ret1 h Tryd.results19 rfl ?_
   exact ⟨_, rfl, by rw [if_pos hxy], hf⟩
theorem repeats_ok (u : Value) (xs : List Stitch) (m : Nat) (w0 : World) (hu : Sl encSt w0 u xs) (hm : m ≤ xs.length) : Rets Tryd.prog 91 #[u, .int .i64 (m : Int)] w0 fun r w' => r = .bool (decide (xs.drop m = xs.take (xs.length - m))) ∧ Fr [] w0 w' := by
 have hu' := hu
 obtain ⟨A, c, rfl, hc, hM, hA⟩ := hu
 unfold maxLen at hM
 have ha := hu'.drop rfl hm (B := if c = m then A else A.map (·.add (m * encSt.sz))) (c' := c - m) (by omega) (by unfold maxLen; omega) (fun hlt => by rw [if_neg (by omega)])
 have hb := hu'.take rfl (m := xs.length - m) (by omega) (B := A) (c' := c) (by omega) (by unfold maxLen; omega) (fun _ => rfl)
 refine enter [(0, .slice A xs.length c), (1, .int .i64 (m : Int))] Tryd.func91 rfl Tryd.ntmps91 rfl (.cons rfl (.cons rfl .nil)) ?_
 have hf := Fr.refl [] w0
 intro a h
 refine wp_seq ?_
 refine wR ?_
 refine st_assign h rfl rfl ?_; clear h a; intro a h
 replace h : Ag a 15 [(0, _), (1, _)] := h.sub (.cons rfl (.cons rfl .nil))
 refine wnt ?_
 refine wp_seq ?_
 refine region_quiet hmix (by kernel_rfl) ?_
 refine qt_move h rfl rfl ?_; clear h a; intro a h
 refine qt_move h rfl rfl ?_; clear h a; intro a h
 refine qt_sl_l (p := m) h rfl rfl el61 (by omega) (by omega) (by omega) rfl ?_; clear h a; intro a h
 refine qt_move h rfl rfl ?_; clear h a; intro a h
 refine qt_move h rfl rfl ?_; clear h a; intro a h
 refine qt_lenS h rfl Tryd.underlying61 rfl ?_; clear h a; intro a h
 refine qt_move h rfl rfl ?_; clear h a; intro a h
 refine qt_sub h rfl rfl (by first | exact IntWalk.i64_in _ (by omega) | rfl) rfl ?_; clear h a; intro a h
 refine qt_sl_h (p := xs.length - m) h rfl rfl el61 (by omega) (by omega) (by omega) rfl ?_; clear h a; intro a h
 refine qt_call h (evs_cons rfl (evs_cons rfl evs_nil)) co103 (fun w hw => (equal_ok _ _ _ _ w (ha.ext hw) (hb.ext hw)).mono fun u w' ⟨e, f⟩ => ⟨e, hw.next f⟩) rfl ?_; clear h a; intro a h
 refine qt_assign h rfl rfl ?_; clear h a; intro a h
 refine wpQuiet_nil ?_
 intro w1 hq
 replace hf := hf.next hq
 clear hq
 replace h : Ag a 15 [(4, _)] := h.sub (.cons rfl .nil)
 refine (norm_then ?_)
 refine wp_ret ?_
 refine ret1 h Tryd.results91 rfl ?_
 exact ⟨_, rfl, rfl, hf⟩
end Go.Proofs.YthehggmdcmpjeaaDoor
namespace Go.Proofs.YthehggmdcmpjeaaDoor
open Go.Lw Go.G14
theorem bo157 : BuildAt Tryd.prog 157 [(0, 1), (1, 1)] [(.int .i64 0), (.int .i64 0)] := BuildAt.array (sz := 1) Tryd.underlying157 (fun _ => by kernel_rfl) (fun _ => by kernel_rfl) (fun i q h => by match i, h with | 0, h => simpa using h.symm | 1, h => simpa using h.symm | (k + 2), h => simp at h)
theorem co32 : CallOf Tryd.prog 32 := CallOf.mk' Tryd.func32 (by kernel_rfl) (by kernel_rfl)
theorem co90 : CallOf Tryd.prog 90 := CallOf.mk' Tryd.func90 (by kernel_rfl) (by kernel_rfl)
theorem co91 : CallOf Tryd.prog 91 := CallOf.mk' Tryd.func91 (by kernel_rfl) (by kernel_rfl)
theorem co92 : CallOf Tryd.prog 92 := CallOf.mk' Tryd.func92 (by kernel_rfl) (by kernel_rfl)
theorem zv9 (w : World) : (zeroValue 9).run Tryd.prog w = .ok (S []) w := by kernel_rfl
def kV (p : Int × Int) : Value := .agg #[.int .i64 p.1, .int .i64 p.2]
theorem eq98 (p q : Int × Int) (w : World) : (Op.equal 157 (kV p) (kV q)).run Tryd.prog w = .ok (decide (p = q)) w := by
 obtain ⟨a, b⟩ := p
 obtain ⟨c, d⟩ := q
 have hp0 : ∀ (x y : Value) w, (part 3 #[x, y] (0 * 1)).run Tryd.prog w = .ok x w := fun _ _ _ => by kernel_rfl
 have hp1 : ∀ (x y : Value) w, (part 3 #[x, y] 1).run Tryd.prog w = .ok y w := fun _ _ _ => by kernel_rfl
 have hs : ∀ w : World, (sizeOf 3).run Tryd.prog w = .ok 1 w := fun _ => by kernel_rfl
 show (Op.equalIn (9998 + 1 + 1) 157 (kV (a, b)) (kV (c, d))).run Tryd.prog w = _
 unfold Op.equalIn
 simp only [kV, Sem.run_bind, run_underlying Tryd.underlying157, Result.andThen_ok, hs]
 simp only [Std.Legacy.Range.forIn_eq_forIn_range', Std.Legacy.Range.size]
 have hI : ∀ (x y : Int) (w : World), (Op.equalIn 9999 3 (.int .i64 x) (.int .i64 y)).run Tryd.prog w = .ok (x == y) w := fun x y w => run_equalIn_int w 9998 3 _ _ x y Tryd.underlying3
 rw [show List.range' 0 ((2 - 0 + 1 - 1) / 1) = [0, 1] from rfl]
 simp only [List.forIn_cons, List.forIn_nil, Sem.run_bind, hp0, hI, Result.andThen_ok]
 by_cases e : a = c
 ·subst e
  by_cases f : b = d
  ·subst f; simp [hp1, hI]
  ·simp [f, hp1, hI]
 ·simp [e]
theorem key98 : KeyLaw Tryd.prog 157 kV := KeyLaw.asking Tryd.underlying157 (fun _ _ => rfl) (fun _ _ _ => by kernel_rfl) eq98 (fun _ => by simp [kV, Instr.sameBits])
set_option maxHeartbeats 4000000 in
theorem shortest_ok (u : Value) (xs : List Stitch) (w0 : World) (hu : Sl encSt w0 u xs) (hn : 1 ≤ xs.length) (hm : xs.length ≤ 16) (hy : Sym w0) : Rets Tryd.prog 76 #[u] w0 fun v w' => v = S (shortS xs) ∧ Fr [] w0 w' := by
 have h00 := hy.pos
 have hrb := hu.blk (by intro e; subst e; simp at hn)
 obtain ⟨A, c, rfl, hc⟩ := hu.form
 have hs := hu
 obtain ⟨-, -, hM, hA⟩ := Sl.open_ hu
 unfold maxLen at hM
 refine enter [(0, .slice A xs.length c)] Tryd.func76 rfl Tryd.ntmps76 rfl (.cons rfl .nil) ?_
 have hf := Fr.refl [] w0
 intro a h
 refine wp_seq ?_
 refine wR ?_
 refine st_assign h rfl rfl ?_; clear h a; intro a h
 replace h : Ag a 115 [(0, _)] := h.sub (.cons rfl .nil)
 refine wnt ?_
 refine wp_seq ?_
 refine wR ?_
 refine st_makeMap kV h rfl ?_; clear h a; intro gt w1 hg hmt hq hz a h
 have hlgt : w0.heap.size ≤ gt := by have := hf.size; omega
 replace hf := hf.next hq
 replace hs := hs.ext hq
 replace hy := hy.ext hq
 clear hq hz hg
 refine st_assign h rfl rfl ?_; clear h a; intro a h
 replace h : Ag a 115 [(0, _), (3, _)] := h.sub (.cons rfl (.cons rfl .nil))
 refine wnt ?_
 refine wp_seq ?_
 refine wR ?_
 refine st_makeMap kV h rfl ?_; clear h a; intro gi w2 hg hmi hq hz a h
 have hlgi : w0.heap.size ≤ gi := by have := hf.size; omega
 have hti : gt < gi := by have := hmt.lt; omega
 replace hf := hf.next hq
 replace hs := hs.ext hq
 replace hy := hy.ext hq
 replace hmt := hmt.ext hq
 clear hq hz hg
 refine st_assign h rfl rfl ?_; clear h a; intro a h
 replace h : Ag a 115 [(0, _), (3, _), (4, _)] := h.sub (.cons rfl (.cons rfl (.cons rfl .nil)))
 refine wnt ?_
 refine wp_seq ?_
 refine wp_seq ?_
 refine wR ?_
 refine st_assign h rfl rfl ?_; clear h a; intro a h
 refine wnt ?_
 refine wp_block ?_
 refine loop (ι := Nat) (fun L => [(0, .slice A xs.length c), (3, .map (some gt)), (4, .map (some gi)), (5, .int .i64 (L : Int))]) (fun L w' => 1 ≤ L ∧ L ≤ xs.length + 1 ∧ MapF kV w' gt (mfun xs.length (fun a m => (T xs a m).2) L 0) ∧ MapF kV w' gi (mfun xs.length (fun a m => (T xs a m).1) L 0) ∧ Sl encSt w' (.slice A xs.length c) xs ∧ Sym w' ∧ Fr [] w0 w') (fun L => xs.length + 1 - L) 1 (h.sub (.cons rfl (.cons rfl (.cons rfl (.cons rfl .nil))))) ⟨by omega, by omega, by rw [mfun_zero]; exact hmt, by rw [mfun_zero]; exact hmi, hs, hy, hf⟩ ?_
 clear h a hmt hmi hs hy hf
 rintro L w3 a h ⟨hL1, hL2, hmt, hmi, hs, hy, hf⟩
 refine wp_seq ?_
 refine wp_seq ?_
 refine wR ?_
 refine st_move h rfl rfl ?_; clear h a; intro a h
 refine st_move h rfl rfl ?_; clear h a; intro a h
 refine st_lenS h rfl Tryd.underlying61 rfl ?_; clear h a; intro a h
 refine st_le h rfl rfl rfl ?_; clear h a; intro a h
 replace h : Ag a 115 [(0, _), (3, _), (4, _), (5, _), (19, _)] := h.sub (.cons rfl (.cons rfl (.cons rfl (.cons rfl (.cons rfl .nil)))))
 refine wnt ?_
 first | refine cond_dec h rfl (fun c0 => ?_) (fun c0 => ?_) | refine cond_ndec h rfl (fun c0 => ?_) (fun c0 => ?_) | refine cond_split h rfl (fun c0 => ?_) (fun c0 => ?_)
 ·refine id ?_
  refine wsn ?_
  refine wp_seq ?_
  refine wp_block ?_
  refine wp_seq ?_
  refine wR ?_
  refine st_assign h rfl rfl ?_; clear h a; intro a h
  replace h : Ag a 115 [(0, _), (3, _), (4, _), (5, _), (6, _)] := h.sub (.cons rfl (.cons rfl (.cons rfl (.cons rfl (.cons rfl .nil)))))
  refine wnt ?_
  refine wp_block ?_
  refine loop (ι := Nat) (fun i => [(0, .slice A xs.length c), (3, .map (some gt)), (4, .map (some gi)), (5, .int .i64 (L : Int)), (6, .int .i64 (i : Int))]) (fun i w' => i ≤ xs.length + 1 - L ∧ MapF kV w' gt (mfun xs.length (fun a m => (T xs a m).2) L i) ∧ MapF kV w' gi (mfun xs.length (fun a m => (T xs a m).1) L i) ∧ Sl encSt w' (.slice A xs.length c) xs ∧ Sym w' ∧ Fr [] w0 w') (fun i => xs.length + 1 - i) 0 (h.sub (.cons rfl (.cons rfl (.cons rfl (.cons rfl (.cons rfl .nil)))))) ⟨by omega, hmt, hmi, hs, hy, hf⟩ ?_
  clear h a hmt hmi hs hy hf
  rintro i w4 a h ⟨hiL, hmt, hmi, hs, hy, hf⟩
  refine wp_seq ?_
  refine wp_seq ?_
  refine wR ?_
  refine st_move h rfl rfl ?_; clear h a; intro a h
  refine st_move h rfl rfl ?_; clear h a; intro a h
  refine st_add h rfl rfl (by first | exact IntWalk.i64_in _ (by omega) | rfl) rfl ?_; clear h a; intro a h
  refine st_move h rfl rfl ?_; clear h a; intro a h
  refine st_lenS h rfl Tryd.underlying61 rfl ?_; clear h a; intro a h
  refine st_le h rfl rfl rfl ?_; clear h a; intro a h
  replace h : Ag a 115 [(0, _), (3, _), (4, _), (5, _), (6, _), (27, _)] := h.sub (.cons rfl (.cons rfl (.cons rfl (.cons rfl (.cons rfl (.cons rfl .nil))))))
  refine wnt ?_
  first | refine cond_dec h rfl (fun c1 => ?_) (fun c1 => ?_) | refine cond_ndec h rfl (fun c1 => ?_) (fun c1 => ?_) | refine cond_split h rfl (fun c1 => ?_) (fun c1 => ?_)
  ·refine id ?_
   refine wsn ?_
   refine wp_seq ?_
   refine wp_block ?_
   refine wp_seq ?_
   refine wR ?_
   refine st_move h rfl rfl ?_; clear h a; intro a h
   refine st_move h rfl rfl ?_; clear h a; intro a h
   refine st_add h rfl rfl (by first | exact IntWalk.i64_in _ (by omega) | rfl) rfl ?_; clear h a; intro a h
   refine st_assign h rfl rfl ?_; clear h a; intro a h
   replace h : Ag a 115 [(0, _), (3, _), (4, _), (5, _), (6, _), (7, _)] := h.sub (.cons rfl (.cons rfl (.cons rfl (.cons rfl (.cons rfl (.cons rfl .nil))))))
   refine wnt ?_
   refine wp_seq ?_
   refine wR ?_
   refine st_assign h rfl rfl ?_; clear h a; intro a h
   refine wnt ?_
   refine seq_cut (Cut (ι := Unit) 115 (fun u => [(0, .slice A xs.length c), (3, .map (some gt)), (4, .map (some gi)), (5, .int .i64 (L : Int)), (6, .int .i64 (i : Int)), (7, .int .i64 ((i : Int) + (L : Int))), (8, S (itemTo (T xs) xs i L 0))]) (fun u w' => MapF kV w' gt (mfun xs.length (fun a m => (T xs a m).2) L i) ∧ MapF kV w' gi (mfun xs.length (fun a m => (T xs a m).1) L i) ∧ Sl encSt w' (.slice A xs.length c) xs ∧ Sym w' ∧ Fr [] w0 w')) ?_ ?_
   ·refine id ?_
    refine wp_seq ?_
    refine wR ?_
    refine st_move h rfl rfl ?_; clear h a; intro a h
    refine st_eq h rfl rfl rfl ?_; clear h a; intro a h
    replace h : Ag a 115 [(0, _), (3, _), (4, _), (5, _), (6, _), (7, _), (8, _), (34, _)] := h.sub (.cons rfl (.cons rfl (.cons rfl (.cons rfl (.cons rfl (.cons rfl (.cons rfl (.cons rfl .nil))))))))
    refine wnt ?_
    first | refine cond_dec h rfl (fun c2 => ?_) (fun c2 => ?_) | refine cond_ndec h rfl (fun c2 => ?_) (fun c2 => ?_) | refine cond_split h rfl (fun c2 => ?_) (fun c2 => ?_)
    ·obtain ⟨x, hxi⟩ : ∃ x, xs[i]? = some x := ⟨_, List.getElem?_eq_getElem (by omega)⟩
     obtain ⟨ad, hAd, ca⟩ := hA i x hxi
     refine wR ?_
     refine st_move h rfl rfl ?_; clear h a; intro a h
     refine st_move h rfl rfl ?_; clear h a; intro a h
     refine st_idxS h (by rw [hAd]; rfl) rfl el61 (by omega) (by omega) rfl rfl ?_; clear h a; intro a h
     refine st_loadA h rfl (ca.fr hf (by simp)) ag100 rfl ?_; clear h a; intro a h
     refine st_call h (evs_cons rfl evs_nil) co90 (text_ok _ _ hy) rfl ?_; clear h a; rintro _ w5 ⟨rfl, hq⟩ a h
     replace hf := hf.next hq
     replace hmt := hmt.ext hq
     replace hmi := hmi.ext hq
     replace hs := hs.ext hq
     replace hy := hy.ext hq
     clear hq
     refine st_assign h rfl rfl ?_; clear h a; intro a h
     replace h : Ag a 115 [(0, _), (3, _), (4, _), (5, _), (6, _), (7, _), (8, _)] := h.sub (.cons rfl (.cons rfl (.cons rfl (.cons rfl (.cons rfl (.cons rfl (.cons rfl .nil)))))))
     refine wnt ?_
     exact ⟨(), h.sub (.cons rfl (.cons rfl (.cons rfl (.cons rfl (.cons rfl (.cons rfl (.cons (by first | (rw [itemTo, if_pos (by omega), List.getD, hxi]; rfl) | (rw [itemTo, if_neg (by omega)]; rfl)) .nil))))))), hmt, hmi, hs, hy, hf⟩
    ·refine id ?_
     refine wsn ?_
     exact ⟨(), h.sub (.cons rfl (.cons rfl (.cons rfl (.cons rfl (.cons rfl (.cons rfl (.cons (by first | (rw [itemTo, if_pos (by omega), List.getD, hxi]; rfl) | (rw [itemTo, if_neg (by omega)]; rfl)) .nil))))))), hmt, hmi, hs, hy, hf⟩
   ·clear h a hmt hmi hs hy hf
    rintro a w6 ⟨u, h, ⟨hmt, hmi, hs, hy, hf⟩⟩
    refine wp_seq ?_
    refine wp_seq ?_
    refine wR ?_
    refine st_assign h rfl rfl ?_; clear h a; intro a h
    refine wnt ?_
    refine wp_block ?_
    refine loop (ι := Nat) (fun k => [(0, .slice A xs.length c), (3, .map (some gt)), (4, .map (some gi)), (5, .int .i64 (L : Int)), (6, .int .i64 (i : Int)), (7, .int .i64 ((i : Int) + (L : Int))), (8, S (itemTo (T xs) xs i L k)), (9, .int .i64 ((k : Int) + 2))]) (fun k w' => k ≤ L - 1 ∧ MapF kV w' gt (mfun xs.length (fun a m => (T xs a m).2) L i) ∧ MapF kV w' gi (mfun xs.length (fun a m => (T xs a m).1) L i) ∧ Sl encSt w' (.slice A xs.length c) xs ∧ Sym w' ∧ Fr [] w0 w') (fun k => L - k) 0 (h.sub (.cons rfl (.cons rfl (.cons rfl (.cons rfl (.cons rfl (.cons rfl (.cons rfl (.cons rfl .nil))))))))) ⟨by omega, hmt, hmi, hs, hy, hf⟩ ?_
    clear h a hmt hmi hs hy hf
    rintro k w7 a h ⟨hk, hmt, hmi, hs, hy, hf⟩
    have hdl : L / (k + 2) * (k + 2) ≤ L := Nat.div_mul_le_self _ _
    have hil := itemT_len xs i L k hL1
    refine wp_seq ?_
    refine wp_seq ?_
    refine wR ?_
    refine st_move h rfl rfl ?_; clear h a; intro a h
    refine st_move h rfl rfl ?_; clear h a; intro a h
    refine st_le h rfl rfl rfl ?_; clear h a; intro a h
    replace h : Ag a 115 [(0, _), (3, _), (4, _), (5, _), (6, _), (7, _), (8, _), (9, _), (42, _)] := h.sub (.cons rfl (.cons rfl (.cons rfl (.cons rfl (.cons rfl (.cons rfl (.cons rfl (.cons rfl (.cons rfl .nil)))))))))
    refine wnt ?_
    first | refine cond_dec h rfl (fun c3 => ?_) (fun c3 => ?_) | refine cond_ndec h rfl (fun c3 => ?_) (fun c3 => ?_) | refine cond_split h rfl (fun c3 => ?_) (fun c3 => ?_)
    ·have hk2 : 2 ≤ k + 2 := by omega
     refine wsn ?_
     refine wp_seq ?_
     refine wp_block ?_
     refine wp_seq ?_
     refine wR ?_
     refine st_move h rfl rfl ?_; clear h a; intro a h
     refine st_move h rfl rfl ?_; clear h a; intro a h
     refine st_quo (z := ((L / (k + 2) : Nat) : Int)) h rfl rfl (by omega) (by rw [IntWalk.i64_quo _ _ (by omega)]; exact (Int.natCast_ediv L (k + 2)).symm) rfl ?_; clear h a; intro a h
     refine st_assign h rfl rfl ?_; clear h a; intro a h
     replace h : Ag a 115 [(0, _), (3, _), (4, _), (5, _), (6, _), (7, _), (8, _), (9, _), (10, _)] := h.sub (.cons rfl (.cons rfl (.cons rfl (.cons rfl (.cons rfl (.cons rfl (.cons rfl (.cons rfl (.cons rfl .nil)))))))))
     refine wnt ?_
     refine wp_seq ?_
     refine wR ?_
     refine st_move h rfl rfl ?_; clear h a; intro a h
     refine st_move h rfl rfl ?_; clear h a; intro a h
     refine st_mul (z := ((L / (k + 2) * (k + 2) : Nat) : Int)) h rfl rfl (by rw [show ((L / (k + 2) : Nat) : Int) * ((k : Int) + 2) = ((L / (k + 2) * (k + 2) : Nat) : Int) from rfl]; exact IntWalk.i64_in _ (by omega)) rfl ?_; clear h a; intro a h
     refine st_move h rfl rfl ?_; clear h a; intro a h
     refine st_eq h rfl rfl rfl ?_; clear h a; intro a h
     refine st_move h rfl rfl ?_; clear h a; intro a h
     first | refine guard_dec (D := 53) h rfl ?_ ?_ | refine guard_ndec (D := 53) h rfl ?_ ?_ | refine guard_any (D := 53) h rfl ?_ ?_
     ·clear h; intro g0 h
      refine gd_yes h rfl rfl rfl rfl rfl rfl ?_
      refine st_move h rfl rfl ?_; clear h a; intro a h
      refine gd_yes h rfl rfl rfl rfl rfl rfl ?_
      refine st_move h rfl rfl ?_; clear h a; intro a h
      refine gd_yes h rfl rfl rfl rfl rfl rfl ?_
      refine st_move h rfl rfl ?_; clear h a; intro a h
      refine gd_yes h rfl rfl rfl rfl rfl rfl ?_
      refine st_sl_lh (p := i) (p' := i + L) h rfl rfl rfl el61 (by omega) (by omega) (by omega) (by omega) (by omega) rfl ?_; clear h a; intro a h
      refine gd_yes h rfl rfl rfl rfl rfl rfl ?_
      refine st_move h rfl rfl ?_; clear h a; intro a h
      refine gd_yes h rfl rfl rfl rfl rfl rfl ?_
      refine st_call h (evs_cons rfl (evs_cons rfl evs_nil)) co91 (repeats_ok _ (partS xs i L) _ _ (part_sl hs (by omega)) (by rw [part_len (show i + L ≤ xs.length by omega)]; have := Nat.div_le_self L (k + 2); omega)) rfl ?_; clear h a; rintro _ w8 ⟨rfl, hq⟩ a h
      replace hf := hf.next hq
      replace hmt := hmt.ext hq
      replace hmi := hmi.ext hq
      replace hs := hs.ext hq
      replace hy := hy.ext hq
      clear hq
      refine st_pick_t h rfl rfl rfl rfl ?_; clear h a; intro a h
      replace h : Ag a 115 [(0, _), (3, _), (4, _), (5, _), (6, _), (7, _), (8, _), (9, _), (10, _), (60, _)] := h.sub (.cons rfl (.cons rfl (.cons rfl (.cons rfl (.cons rfl (.cons rfl (.cons rfl (.cons rfl (.cons rfl (.cons rfl .nil))))))))))
      refine wnt ?_
      first | refine cond_dec h rfl (fun c4 => ?_) (fun c4 => ?_) | refine cond_ndec h rfl (fun c4 => ?_) (fun c4 => ?_) | refine cond_split h rfl (fun c4 => ?_) (fun c4 => ?_)
      ·have hone : 1 ≤ L / (k + 2) := by
        rcases Nat.eq_zero_or_pos (L / (k + 2)) with e | e
        ·rw [e] at hdl; have hz : L / (k + 2) * (k + 2) = L := by omega
         rw [e] at hz; omega
        ·exact e
       have hlt1 : L / (k + 2) < L := Nat.div_lt_self (by omega) (by omega)
       have hTl := (T_len xs i (L / (k + 2)) hone).2
       refine region_quiet hmix (by kernel_rfl) ?_
       refine qt_move h rfl rfl ?_; clear h a; intro a h
       refine qt_move h rfl rfl ?_; clear h a; intro a h
       refine qt_move h rfl rfl ?_; clear h a; intro a h
       refine qt_move h rfl rfl ?_; clear h a; intro a h
       refine qt_move h rfl rfl ?_; clear h a; intro a h
       refine qt_add h rfl rfl (by first | exact IntWalk.i64_in _ (by omega) | rfl) rfl ?_; clear h a; intro a h
       refine qt_lit (cs := [_, _]) h (evs_cons rfl (evs_cons rfl evs_nil)) bo157 (pok_cons rfl rfl rfl (pok_cons rfl rfl rfl pok_nil)) rfl rfl ?_; clear h a; intro a h
       refine qt_lookup (V := kV) (k := ((i : Int), (i : Int) + ((L / (k + 2) : Nat) : Int))) h rfl rfl (fun _ hw => hmt.ext hw) key98 Tryd.underlying154 zv9 (mfun_hit _ (i) (L / (k + 2)) _ _ (by omega) (by omega) (by omega) (by omega) (by omega) _) rfl ?_; clear h a; intro a h
       refine qt_adds h rfl rfl (by first | (simp; done) | (simp; omega)) rfl ?_; clear h a; intro a h
       refine qt_adds h rfl rfl (by first | (simp; done) | (simp; omega)) rfl ?_; clear h a; intro a h
       refine qt_move h rfl rfl ?_; clear h a; intro a h
       refine qt_call h (evs_cons rfl evs_nil) co32 (fun w hw => (itoa_ok (k + 2) w (by omega)).mono fun u w' ⟨e, f⟩ => ⟨e, f ▸ hw⟩) rfl ?_; clear h a; intro a h
       have hit := itoa_len (k + 2)
       refine qt_adds h rfl rfl (by simp; omega) rfl ?_; clear h a; intro a h
       refine qt_call h (evs_cons rfl (evs_cons rfl evs_nil)) co92 (fun w hw => (better_ok _ _ w).mono fun u w' ⟨e, f⟩ => ⟨e, f ▸ hw⟩) rfl ?_; clear h a; intro a h
       refine qt_assign h rfl rfl ?_; clear h a; intro a h
       refine wpQuiet_nil ?_
       intro w9 hq
       replace hf := hf.next hq
       replace hmt := hmt.ext hq
       replace hmi := hmi.ext hq
       replace hs := hs.ext hq
       replace hy := hy.ext hq
       clear hq
       replace h : Ag a 115 [(0, _), (3, _), (4, _), (5, _), (6, _), (7, _), (8, _), (9, _)] := h.sub (.cons rfl (.cons rfl (.cons rfl (.cons rfl (.cons rfl (.cons rfl (.cons rfl (.cons rfl .nil))))))))
       refine (norm_blk (norm_then ?_))
       refine wR ?_
       refine st_move h rfl rfl ?_; clear h a; intro a h
       refine st_add h rfl rfl (by first | exact IntWalk.i64_in _ (by omega) | rfl) rfl ?_; clear h a; intro a h
       refine st_assign h rfl rfl ?_; clear h a; intro a h
       replace h : Ag a 115 [(0, _), (3, _), (4, _), (5, _), (6, _), (7, _), (8, _), (9, _)] := h.sub (.cons rfl (.cons rfl (.cons rfl (.cons rfl (.cons rfl (.cons rfl (.cons rfl (.cons rfl .nil))))))))
       refine wnt ?_
       exact ⟨k + 1, h.sub (.cons rfl (.cons rfl (.cons rfl (.cons rfl (.cons rfl (.cons rfl (.cons (by first | rfl | exact congrArg (fun x => some (S x)) (itemTo_no (fun e => absurd e.1 (by omega))) | exact congrArg (fun x => some (S x)) (itemTo_no (fun e => c4 ((repsB_iff (by omega)).1 e.2))) | exact congrArg (fun x => some (S x)) (itemTo_yes (by omega) ((repsB_iff (by omega)).2 c4))) (.cons (by first | rfl | (congr 2; omega)) .nil)))))))), ⟨by omega, hmt, hmi, hs, hy, hf⟩, by omega⟩
      ·refine id ?_
       refine wp_skip (norm_blk (norm_then ?_))
       refine wR ?_
       refine st_move h rfl rfl ?_; clear h a; intro a h
       refine st_add h rfl rfl (by first | exact IntWalk.i64_in _ (by omega) | rfl) rfl ?_; clear h a; intro a h
       refine st_assign h rfl rfl ?_; clear h a; intro a h
       replace h : Ag a 115 [(0, _), (3, _), (4, _), (5, _), (6, _), (7, _), (8, _), (9, _)] := h.sub (.cons rfl (.cons rfl (.cons rfl (.cons rfl (.cons rfl (.cons rfl (.cons rfl (.cons rfl .nil))))))))
       refine wnt ?_
       exact ⟨k + 1, h.sub (.cons rfl (.cons rfl (.cons rfl (.cons rfl (.cons rfl (.cons rfl (.cons (by first | rfl | exact congrArg (fun x => some (S x)) (itemTo_no (fun e => absurd e.1 (by omega))) | exact congrArg (fun x => some (S x)) (itemTo_no (fun e => c4 ((repsB_iff (by omega)).1 e.2))) | exact congrArg (fun x => some (S x)) (itemTo_yes (by omega) ((repsB_iff (by omega)).2 c4))) (.cons (by first | rfl | (congr 2; omega)) .nil)))))))), ⟨by omega, hmt, hmi, hs, hy, hf⟩, by omega⟩
     ·clear h; intro g0 h
      refine gd_no h rfl rfl rfl rfl rfl rfl rfl rfl ?_; clear h a; intro a h
      refine gd_no h rfl rfl rfl rfl rfl rfl rfl rfl ?_; clear h a; intro a h
      refine gd_no h rfl rfl rfl rfl rfl rfl rfl rfl ?_; clear h a; intro a h
      refine gd_no h rfl rfl rfl rfl rfl rfl rfl rfl ?_; clear h a; intro a h
      refine gd_no h rfl rfl rfl rfl rfl rfl rfl rfl ?_; clear h a; intro a h
      refine gd_no h rfl rfl rfl rfl rfl rfl rfl rfl ?_; clear h a; intro a h
      refine st_pick_f h rfl rfl rfl rfl ?_; clear h a; intro a h
      replace h : Ag a 115 [(0, _), (3, _), (4, _), (5, _), (6, _), (7, _), (8, _), (9, _), (10, _), (60, _)] := h.sub (.cons rfl (.cons rfl (.cons rfl (.cons rfl (.cons rfl (.cons rfl (.cons rfl (.cons rfl (.cons rfl (.cons rfl .nil))))))))))
      refine wnt ?_
      refine cond_false h rfl ?_
      refine wp_skip (norm_blk (norm_then ?_))
      refine wR ?_
      refine st_move h rfl rfl ?_; clear h a; intro a h
      refine st_add h rfl rfl (by first | exact IntWalk.i64_in _ (by omega) | rfl) rfl ?_; clear h a; intro a h
      refine st_assign h rfl rfl ?_; clear h a; intro a h
      replace h : Ag a 115 [(0, _), (3, _), (4, _), (5, _), (6, _), (7, _), (8, _), (9, _)] := h.sub (.cons rfl (.cons rfl (.cons rfl (.cons rfl (.cons rfl (.cons rfl (.cons rfl (.cons rfl .nil))))))))
      refine wnt ?_
      exact ⟨k + 1, h.sub (.cons rfl (.cons rfl (.cons rfl (.cons rfl (.cons rfl (.cons rfl (.cons (by first | rfl | exact congrArg (fun x => some (S x)) (itemTo_no (fun e => absurd e.1 (by omega))) | exact congrArg (fun x => some (S x)) (itemTo_no (fun e => c4 ((repsB_iff (by omega)).1 e.2))) | exact congrArg (fun x => some (S x)) (itemTo_yes (by omega) ((repsB_iff (by omega)).2 c4))) (.cons (by first | rfl | (congr 2; omega)) .nil)))))))), ⟨by omega, hmt, hmi, hs, hy, hf⟩, by omega⟩
    ·obtain rfl : k = L - 1 := by omega
     refine wp_exit (exit_then (exit_then (exit_here (norm_then ?_))))
     refine wp_seq ?_
     refine wR ?_
     refine st_move h rfl rfl ?_; clear h a; intro a h
     refine st_assign h rfl rfl ?_; clear h a; intro a h
     replace h : Ag a 115 [(0, _), (3, _), (4, _), (5, _), (6, _), (7, _), (8, _), (11, _)] := h.sub (.cons rfl (.cons rfl (.cons rfl (.cons rfl (.cons rfl (.cons rfl (.cons rfl (.cons rfl .nil))))))))
     refine wnt ?_
     refine wp_seq ?_
     refine wp_seq ?_
     refine wR ?_
     refine st_move h rfl rfl ?_; clear h a; intro a h
     refine st_add h rfl rfl (by first | exact IntWalk.i64_in _ (by omega) | rfl) rfl ?_; clear h a; intro a h
     refine st_assign h rfl rfl ?_; clear h a; intro a h
     replace h : Ag a 115 [(0, _), (3, _), (4, _), (5, _), (6, _), (7, _), (8, _), (11, _), (12, _)] := h.sub (.cons rfl (.cons rfl (.cons rfl (.cons rfl (.cons rfl (.cons rfl (.cons rfl (.cons rfl (.cons rfl .nil)))))))))
     refine wnt ?_
     refine wp_block ?_
     refine loop (ι := Nat) (fun m => [(0, .slice A xs.length c), (3, .map (some gt)), (4, .map (some gi)), (5, .int .i64 (L : Int)), (6, .int .i64 (i : Int)), (7, .int .i64 ((i : Int) + (L : Int))), (8, S (itemTo (T xs) xs i L (L - 1))), (11, S (textTo (T xs) i L (itemTo (T xs) xs i L (L - 1)) m)), (12, .int .i64 ((i : Int) + 1 + (m : Int)))]) (fun m w' => m ≤ L - 1 ∧ MapF kV w' gt (mfun xs.length (fun a m => (T xs a m).2) L i) ∧ MapF kV w' gi (mfun xs.length (fun a m => (T xs a m).1) L i) ∧ Sl encSt w' (.slice A xs.length c) xs ∧ Sym w' ∧ Fr [] w0 w') (fun m => L - m) 0 (h.sub (.cons rfl (.cons rfl (.cons rfl (.cons rfl (.cons rfl (.cons rfl (.cons rfl (.cons rfl (.cons (by first | rfl | (congr 2; omega)) .nil)))))))))) ⟨by omega, hmt, hmi, hs, hy, hf⟩ ?_
     clear h a hmt hmi hs hy hf
     rintro m w10 a h ⟨hml, hmt, hmi, hs, hy, hf⟩
     have hil := itemT_len xs i L (L - 1) hL1
     have htl := textT_len xs i L m _ hil (by omega)
     refine wp_seq ?_
     refine wp_seq ?_
     refine wR ?_
     refine st_move h rfl rfl ?_; clear h a; intro a h
     refine st_move h rfl rfl ?_; clear h a; intro a h
     refine st_lt h rfl rfl rfl ?_; clear h a; intro a h
     replace h : Ag a 115 [(0, _), (3, _), (4, _), (5, _), (6, _), (7, _), (8, _), (11, _), (12, _), (80, _)] := h.sub (.cons rfl (.cons rfl (.cons rfl (.cons rfl (.cons rfl (.cons rfl (.cons rfl (.cons rfl (.cons rfl (.cons rfl .nil))))))))))
     refine wnt ?_
     first | refine cond_dec h rfl (fun c5 => ?_) (fun c5 => ?_) | refine cond_ndec h rfl (fun c5 => ?_) (fun c5 => ?_) | refine cond_split h rfl (fun c5 => ?_) (fun c5 => ?_)
     ·refine id ?_
      refine wsn ?_
      refine wp_seq ?_
      refine wp_block ?_
      refine wp_seq ?_
      refine wR ?_
      refine st_move h rfl rfl ?_; clear h a; intro a h
      refine st_move h rfl rfl ?_; clear h a; intro a h
      refine st_move h rfl rfl ?_; clear h a; intro a h
      refine st_lit (cs := [_, _]) h (evs_cons rfl (evs_cons rfl evs_nil)) bo157 (pok_cons rfl rfl rfl (pok_cons rfl rfl rfl pok_nil)) rfl rfl ?_; clear h a; intro a h
      have hTi := T_len xs i (m + 1) (by omega)
      refine st_lookup (V := kV) (k := ((i : Int), (i : Int) + 1 + (m : Int))) h rfl rfl hmi key98 Tryd.underlying154 zv9 (mfun_hit _ (i) (m + 1) _ _ (by omega) (by omega) (by omega) (by omega) (by omega) _) rfl ?_; clear h a; intro a h
      refine st_assign h rfl rfl ?_; clear h a; intro a h
      replace h : Ag a 115 [(0, _), (3, _), (4, _), (5, _), (6, _), (7, _), (8, _), (11, _), (12, _), (13, _)] := h.sub (.cons rfl (.cons rfl (.cons rfl (.cons rfl (.cons rfl (.cons rfl (.cons rfl (.cons rfl (.cons rfl (.cons rfl .nil))))))))))
      refine wnt ?_
      refine wp_seq ?_
      refine wR ?_
      refine st_move h rfl rfl ?_; clear h a; intro a h
      refine st_nes h rfl rfl rfl ?_; clear h a; intro a h
      replace h : Ag a 115 [(0, _), (3, _), (4, _), (5, _), (6, _), (7, _), (8, _), (11, _), (12, _), (13, _), (89, _)] := h.sub (.cons rfl (.cons rfl (.cons rfl (.cons rfl (.cons rfl (.cons rfl (.cons rfl (.cons rfl (.cons rfl (.cons rfl (.cons rfl .nil)))))))))))
      refine wnt ?_
      first | refine cond_dec h rfl (fun c6 => ?_) (fun c6 => ?_) | refine cond_ndec h rfl (fun c6 => ?_) (fun c6 => ?_) | refine cond_split h rfl (fun c6 => ?_) (fun c6 => ?_)
      ·refine id ?_
       refine wR ?_
       refine st_move h rfl rfl ?_; clear h a; intro a h
       refine st_move h rfl rfl ?_; clear h a; intro a h
       refine st_adds h rfl rfl (by first | (simp; done) | (simp; omega)) rfl ?_; clear h a; intro a h
       refine st_move h rfl rfl ?_; clear h a; intro a h
       refine st_move h rfl rfl ?_; clear h a; intro a h
       refine st_move h rfl rfl ?_; clear h a; intro a h
       refine st_lit (cs := [_, _]) h (evs_cons rfl (evs_cons rfl evs_nil)) bo157 (pok_cons rfl rfl rfl (pok_cons rfl rfl rfl pok_nil)) rfl rfl ?_; clear h a; intro a h
       have hTr := (T_len xs (i + (m + 1)) (L - (m + 1)) (by omega)).2
       refine st_lookup (V := kV) (k := ((i : Int) + 1 + (m : Int), (i : Int) + (L : Int))) h rfl rfl hmt key98 Tryd.underlying154 zv9 (mfun_hit _ (i + (m + 1)) (L - (m + 1)) _ _ (by omega) (by omega) (by omega) (by omega) (by omega) _) rfl ?_; clear h a; intro a h
       refine st_adds h rfl rfl (by first | (simp; done) | (simp; omega)) rfl ?_; clear h a; intro a h
       refine st_call h (evs_cons rfl (evs_cons rfl evs_nil)) co92 (better_ok _ _ _) rfl ?_; clear h a; rintro _ _ ⟨rfl, rfl⟩ a h
       refine st_assign h rfl rfl ?_; clear h a; intro a h
       replace h : Ag a 115 [(0, _), (3, _), (4, _), (5, _), (6, _), (7, _), (8, _), (11, _), (12, _)] := h.sub (.cons rfl (.cons rfl (.cons rfl (.cons rfl (.cons rfl (.cons rfl (.cons rfl (.cons rfl (.cons rfl .nil)))))))))
       refine wpList_nil (norm_blk (norm_then ?_))
       refine wR ?_
       refine st_move h rfl rfl ?_; clear h a; intro a h
       refine st_add h rfl rfl (by first | exact IntWalk.i64_in _ (by omega) | rfl) rfl ?_; clear h a; intro a h
       refine st_assign h rfl rfl ?_; clear h a; intro a h
       replace h : Ag a 115 [(0, _), (3, _), (4, _), (5, _), (6, _), (7, _), (8, _), (11, _), (12, _)] := h.sub (.cons rfl (.cons rfl (.cons rfl (.cons rfl (.cons rfl (.cons rfl (.cons rfl (.cons rfl (.cons rfl .nil)))))))))
       refine wnt ?_
       exact ⟨m + 1, h.sub (.cons rfl (.cons rfl (.cons rfl (.cons rfl (.cons rfl (.cons rfl (.cons rfl (.cons (by first | exact congrArg (fun x => some (S x)) (textTo_yes c6) | exact congrArg (fun x => some (S x)) (textTo_no c6)) (.cons (by first | rfl | (congr 2; omega)) .nil))))))))), ⟨by omega, hmt, hmi, hs, hy, hf⟩, by omega⟩
      ·refine id ?_
       refine wp_skip (norm_blk (norm_then ?_))
       refine wR ?_
       refine st_move h rfl rfl ?_; clear h a; intro a h
       refine st_add h rfl rfl (by first | exact IntWalk.i64_in _ (by omega) | rfl) rfl ?_; clear h a; intro a h
       refine st_assign h rfl rfl ?_; clear h a; intro a h
       replace h : Ag a 115 [(0, _), (3, _), (4, _), (5, _), (6, _), (7, _), (8, _), (11, _), (12, _)] := h.sub (.cons rfl (.cons rfl (.cons rfl (.cons rfl (.cons rfl (.cons rfl (.cons rfl (.cons rfl (.cons rfl .nil)))))))))
       refine wnt ?_
       exact ⟨m + 1, h.sub (.cons rfl (.cons rfl (.cons rfl (.cons rfl (.cons rfl (.cons rfl (.cons rfl (.cons (by first | exact congrArg (fun x => some (S x)) (textTo_yes c6) | exact congrArg (fun x => some (S x)) (textTo_no c6)) (.cons (by first | rfl | (congr 2; omega)) .nil))))))))), ⟨by omega, hmt, hmi, hs, hy, hf⟩, by omega⟩
     ·obtain rfl : m = L - 1 := by omega
      rw [show itemTo (T xs) xs i L (L - 1) = (T xs i L).1 from (T_item xs i L hL1 (by omega)).symm, ← T_text xs i L hL1 (by omega), T_item xs i L hL1 (by omega)] at h
      refine wp_exit (exit_then (exit_then (exit_here (norm_then ?_))))
      refine wp_seq ?_
      refine wR ?_
      refine st_move h rfl rfl ?_; clear h a; intro a h
      refine st_move h rfl rfl ?_; clear h a; intro a h
      refine st_move h rfl rfl ?_; clear h a; intro a h
      refine st_lit (cs := [_, _]) h (evs_cons rfl (evs_cons rfl evs_nil)) bo157 (pok_cons rfl rfl rfl (pok_cons rfl rfl rfl pok_nil)) rfl rfl ?_; clear h a; intro a h
      refine st_move h rfl rfl ?_; clear h a; intro a h
      refine st_mapSet (k := ((i : Int), (i : Int) + (L : Int))) h rfl rfl rfl hmi key98 Tryd.underlying154 ?_; clear h a; intro w11 hmn hq hz a h
      replace hf := hf.step hq (by simp; omega)
      replace hs := hs.fr hq (by intro k hk hb; have := hrb k hb; simp at hk; omega)
      replace hy := hy.fr hq (by simp; omega)
      replace hmt := hmt.fr hq (by simp; omega)
      rw [show itemTo (T xs) xs i L (L - 1) = (T xs i L).1 from (T_item xs i L hL1 (by omega)).symm] at hmn
      rw [mfun_set (fun a m => (T xs a m).1) hL1 (by omega)] at hmn
      clear hq hz hmi; have hmi := hmn; clear hmn
      replace h : Ag a 115 [(0, _), (3, _), (4, _), (5, _), (6, _), (7, _), (11, _)] := h.sub (.cons rfl (.cons rfl (.cons rfl (.cons rfl (.cons rfl (.cons rfl (.cons rfl .nil)))))))
      refine wnt ?_
      refine wR ?_
      refine st_move h rfl rfl ?_; clear h a; intro a h
      refine st_move h rfl rfl ?_; clear h a; intro a h
      refine st_move h rfl rfl ?_; clear h a; intro a h
      refine st_lit (cs := [_, _]) h (evs_cons rfl (evs_cons rfl evs_nil)) bo157 (pok_cons rfl rfl rfl (pok_cons rfl rfl rfl pok_nil)) rfl rfl ?_; clear h a; intro a h
      refine st_move h rfl rfl ?_; clear h a; intro a h
      refine st_mapSet (k := ((i : Int), (i : Int) + (L : Int))) h rfl rfl rfl hmt key98 Tryd.underlying154 ?_; clear h a; intro w12 hmn hq hz a h
      replace hf := hf.step hq (by simp; omega)
      replace hs := hs.fr hq (by intro k hk hb; have := hrb k hb; simp at hk; omega)
      replace hy := hy.fr hq (by simp; omega)
      replace hmi := hmi.fr hq (by simp; omega)
      rw [mfun_set (fun a m => (T xs a m).2) hL1 (by omega)] at hmn
      clear hq hz hmt; have hmt := hmn; clear hmn
      replace h : Ag a 115 [(0, _), (3, _), (4, _), (5, _), (6, _)] := h.sub (.cons rfl (.cons rfl (.cons rfl (.cons rfl (.cons rfl .nil)))))
      refine wpList_nil (norm_blk (norm_then ?_))
      refine wR ?_
      refine st_move h rfl rfl ?_; clear h a; intro a h
      refine st_add h rfl rfl (by first | exact IntWalk.i64_in _ (by omega) | rfl) rfl ?_; clear h a; intro a h
      refine st_assign h rfl rfl ?_; clear h a; intro a h
      replace h : Ag a 115 [(0, _), (3, _), (4, _), (5, _), (6, _)] := h.sub (.cons rfl (.cons rfl (.cons rfl (.cons rfl (.cons rfl .nil)))))
      refine wnt ?_
      exact ⟨i + 1, h.sub (.cons rfl (.cons rfl (.cons rfl (.cons rfl (.cons rfl .nil))))), ⟨by omega, hmt, hmi, hs, hy, hf⟩, by omega⟩
  ·refine id ?_
   refine wp_exit (exit_then (exit_then (exit_here (norm_blk (norm_then ?_)))))
   refine wR ?_
   refine st_move h rfl rfl ?_; clear h a; intro a h
   refine st_add h rfl rfl (by first | exact IntWalk.i64_in _ (by omega) | rfl) rfl ?_; clear h a; intro a h
   refine st_assign h rfl rfl ?_; clear h a; intro a h
   replace h : Ag a 115 [(0, _), (3, _), (4, _), (5, _)] := h.sub (.cons rfl (.cons rfl (.cons rfl (.cons rfl .nil))))
   refine wnt ?_
   exact ⟨L + 1, h.sub (.cons rfl (.cons rfl (.cons rfl (.cons rfl .nil)))), ⟨by omega, by omega, by rw [← mfun_next _ (show xs.length < i + L by omega)]; exact hmt, by rw [← mfun_next _ (show xs.length < i + L by omega)]; exact hmi, hs, hy, hf⟩, by omega⟩
 ·obtain rfl : L = xs.length + 1 := by omega
  refine wp_exit (exit_then (exit_then (exit_here (norm_then ?_))))
  refine wp_seq ?_
  refine wR ?_
  refine st_move h rfl rfl ?_; clear h a; intro a h
  refine st_move h rfl rfl ?_; clear h a; intro a h
  refine st_lenS h rfl Tryd.underlying61 rfl ?_; clear h a; intro a h
  refine st_lit (cs := [_, _]) h (evs_cons rfl (evs_cons rfl evs_nil)) bo157 (pok_cons rfl rfl rfl (pok_cons rfl rfl rfl pok_nil)) rfl rfl ?_; clear h a; intro a h
  refine st_lookup (V := kV) (k := (0, (xs.length : Int))) h rfl rfl hmt key98 Tryd.underlying154 zv9 (mfun_hit _ 0 xs.length _ _ (by omega) (by omega) (by omega) (by omega) (by omega) _) rfl ?_; clear h a; intro a h
  refine st_assign h rfl rfl ?_; clear h a; intro a h
  replace h : Ag a 115 [(2, _)] := h.sub (.cons rfl .nil)
  refine wnt ?_
  refine wp_ret ?_
  refine ret1 h Tryd.results76 rfl ?_
  exact ⟨_, rfl, rfl, hf⟩
end Go.Proofs.YthehggmdcmpjeaaDoor
namespace Go.Proofs.YthehggmdcmpjeaaDoor
open Go.Lw Go.G14
theorem co42 : CallOf Tryd.prog 42 := CallOf.mk' Tryd.func42 (by kernel_rfl) (by kernel_rfl)
theorem co76 : CallOf Tryd.prog 76 := CallOf.mk' Tryd.func76 (by kernel_rfl) (by kernel_rfl)
theorem sz100 : SizeOf Tryd.prog 100 5 := fun _ => by kernel_rfl
theorem zv100 (w : World) : (zeroValue 100).run Tryd.prog w = .ok (.agg #[(.int .u8 0), (.int .u8 0), (.int .i64 0), (.int .i64 0), (.bool false)]) w := by kernel_rfl
theorem shorten_ok (u : Value) (xs : List Stitch) (w0 : World) (hu : Sl encSt w0 u xs) (hy : Sym w0) : Rets Tryd.prog 56 #[u] w0 fun v w' => v = .tuple #[S (shortenS xs).1, .int .i64 (shortenS xs).2] ∧ Fr [] w0 w' := by
 have h00 := hy.pos
 obtain ⟨A, c, rfl, hc⟩ := hu.form
 have hs := hu
 obtain ⟨-, -, hM, hA⟩ := Sl.open_ hu
 unfold maxLen at hM
 refine enter [(0, .slice A xs.length c)] Tryd.func56 rfl Tryd.ntmps56 rfl (.cons rfl .nil) ?_
 have hf := Fr.refl [] w0
 intro a h
 refine wp_seq ?_
 refine wR ?_
 refine st_assign h rfl rfl ?_; clear h a; intro a h
 refine st_assign h rfl rfl ?_; clear h a; intro a h
 replace h : Ag a 24 [(0, _)] := h.sub (.cons rfl .nil)
 refine wnt ?_
 refine wp_seq ?_
 refine wp_seq ?_
 refine wR ?_
 refine st_move h rfl rfl ?_; clear h a; intro a h
 refine st_lenS h rfl Tryd.underlying61 rfl ?_; clear h a; intro a h
 refine st_gt h rfl rfl rfl ?_; clear h a; intro a h
 replace h : Ag a 24 [(0, _), (8, _)] := h.sub (.cons rfl (.cons rfl .nil))
 refine wnt ?_
 first | refine cond_dec h rfl (fun c0 => ?_) (fun c0 => ?_) | refine cond_ndec h rfl (fun c0 => ?_) (fun c0 => ?_) | refine cond_split h rfl (fun c0 => ?_) (fun c0 => ?_)
 ·refine id ?_
  refine wp_seq ?_
  refine wR ?_
  refine st_assign h rfl rfl ?_; clear h a; intro a h
  refine st_assign h rfl rfl ?_; clear h a; intro a h
  replace h : Ag a 24 [(2, _), (3, _)] := h.sub (.cons rfl (.cons rfl .nil))
  refine wnt ?_
  refine wp_ret (ret_then ?_)
  refine ret2 h Tryd.results56 rfl rfl ?_
  exact ⟨_, rfl, by rw [shortenS, if_pos (by omega)]; rfl, hf⟩
 ·refine id ?_
  refine wsn ?_
  refine wp_seq ?_
  refine wp_seq ?_
  refine wR ?_
  refine st_move h rfl rfl ?_; clear h a; intro a h
  refine st_lenS h rfl Tryd.underlying61 rfl ?_; clear h a; intro a h
  refine st_eq h rfl rfl rfl ?_; clear h a; intro a h
  replace h : Ag a 24 [(0, _), (11, _)] := h.sub (.cons rfl (.cons rfl .nil))
  refine wnt ?_
  first | refine cond_dec h rfl (fun c1 => ?_) (fun c1 => ?_) | refine cond_ndec h rfl (fun c1 => ?_) (fun c1 => ?_) | refine cond_split h rfl (fun c1 => ?_) (fun c1 => ?_)
  ·refine id ?_
   refine wp_seq ?_
   refine wR ?_
   refine st_assign h rfl rfl ?_; clear h a; intro a h
   refine st_assign h rfl rfl ?_; clear h a; intro a h
   replace h : Ag a 24 [(2, _), (3, _)] := h.sub (.cons rfl (.cons rfl .nil))
   refine wnt ?_
   refine wp_ret (ret_then ?_)
   refine ret2 h Tryd.results56 rfl rfl ?_
   exact ⟨_, rfl, by rw [shortenS, if_neg (by omega), if_pos (by omega)]; rfl, hf⟩
  ·refine id ?_
   refine wsn ?_
   refine wp_seq ?_
   refine wp_seq ?_
   refine wR ?_
   refine st_move h rfl rfl ?_; clear h a; intro a h
   refine st_lenS h rfl Tryd.underlying61 rfl ?_; clear h a; intro a h
   refine st_move h rfl rfl ?_; clear h a; intro a h
   replace h : Ag a 24 [(0, _), (12, _), (13, _), (14, _)] := h.sub (.cons rfl (.cons rfl (.cons rfl (.cons rfl .nil))))
   refine wnt ?_
   refine wp_block ?_
   refine loop (ι := Nat) (fun k => [(0, .slice A xs.length c), (12, .slice A xs.length c), (13, .int .i64 (xs.length : Int)), (14, .int .i64 (k : Int))]) (fun k w' => k ≤ xs.length ∧ (xs.take k).all okB = true ∧ Sl encSt w' (.slice A xs.length c) xs ∧ Sym w' ∧ Fr [] w0 w') (fun k => xs.length - k) 0 (h.sub (.cons rfl (.cons rfl (.cons rfl (.cons rfl .nil))))) ⟨by omega, rfl, hs, hy, hf⟩ ?_
   clear h a hs hy hf
   rintro k w1 a h ⟨hk, ha, hs, hy, hf⟩
   refine wp_seq ?_
   refine wR ?_
   refine st_lt h rfl rfl rfl ?_; clear h a; intro a h
   refine wnt ?_
   refine wp_seq ?_
   first | refine cond_dec h rfl (fun c2 => ?_) (fun c2 => ?_) | refine cond_ndec h rfl (fun c2 => ?_) (fun c2 => ?_) | refine cond_split h rfl (fun c2 => ?_) (fun c2 => ?_)
   ·have hrb := hu.blk (by intro e; subst e; simp at c1)
    obtain ⟨x, hxk⟩ : ∃ x, xs[k]? = some x := ⟨_, List.getElem?_eq_getElem (by omega)⟩
    obtain ⟨ad, hAd, ca⟩ := hA k x hxk
    refine wsn ?_
    refine wp_seq ?_
    refine wp_block ?_
    refine wp_seq ?_
    refine wR ?_
    refine st_idxS h (by rw [hAd]; rfl) rfl el61 (by omega) (by omega) rfl rfl ?_; clear h a; intro a h
    refine st_loadA h rfl (ca.fr hf (by simp)) ag100 rfl ?_; clear h a; intro a h
    refine st_alloc h zv100 rfl rfl ?_; clear h a; intro w2 hb5 hq hz a h
    obtain ⟨g_5, hg⟩ : ∃ g, g = w1.heap.size := ⟨_, rfl⟩; rw [← hg] at hb5 h hz
    have hl5 : w0.heap.size ≤ g_5 := by have := hf.size; omega
    replace hf := hf.next hq
    replace hs := hs.ext hq
    replace hy := hy.ext hq
    clear hq hz hg
    refine st_storeBA h rfl rfl hb5 rfl (by first | (simp [Value.oneCell', S]; done) | exact Enc.one _ _) sz100 ?_; clear h a; intro w3 hbn hq hz a h
    replace hf := hf.step hq (by first | (simp; done) | (simp; omega))
    replace hs := hs.fr hq (by intro k hk hb; have := hrb k hb; simp at hk; omega)
    replace hy := hy.fr hq (by first | (simp; done) | (simp; omega) | (simp [blks]; done) | (simp [blks]; omega))
    clear hb5 hq hz; have hb5 : Blk w3 g_5 _ [_, _, _, _, _] := hbn; clear hbn
    replace h : Ag a 24 [(0, _), (5, _), (12, _), (13, _), (14, _)] := h.sub (.cons rfl (.cons rfl (.cons rfl (.cons rfl (.cons rfl .nil)))))
    refine wnt ?_
    refine wp_seq ?_
    refine wR ?_
    refine st_loadBA h rfl hb5 ag100 rfl ?_; clear h a; intro a h
    refine st_call h (evs_cons rfl evs_nil) co68 (check_ok x _) rfl ?_; clear h a; rintro _ w4 ⟨rfl, hq⟩ a h
    replace hf := hf.next hq
    replace hs := hs.ext hq
    replace hy := hy.ext hq
    replace hb5 := hb5.ext hq
    clear hq
    refine st_ne h rfl rfl rfl ?_; clear h a; intro a h
    replace h : Ag a 24 [(0, _), (12, _), (13, _), (14, _), (20, _)] := h.sub (.cons rfl (.cons rfl (.cons rfl (.cons rfl (.cons rfl .nil)))))
    refine wnt ?_
    first | refine cond_dec h rfl (fun c3 => ?_) (fun c3 => ?_) | refine cond_ndec h rfl (fun c3 => ?_) (fun c3 => ?_) | refine cond_split h rfl (fun c3 => ?_) (fun c3 => ?_)
    ·refine id ?_
     refine wp_seq ?_
     refine wR ?_
     refine st_assign h rfl rfl ?_; clear h a; intro a h
     refine st_assign h rfl rfl ?_; clear h a; intro a h
     replace h : Ag a 24 [(2, _), (3, _)] := h.sub (.cons rfl (.cons rfl .nil))
     refine wnt ?_
     refine wp_ret (ret_blk (ret_then (ret_then (ret_blk (ret_then ?_)))))
     refine ret2 h Tryd.results56 rfl rfl ?_
     exact ⟨_, rfl, by rw [shortenS, if_neg (by omega), if_neg (by omega), if_neg (fun e => c3 ((okB_iff _).1 (List.all_eq_true.1 e x (List.mem_of_getElem? hxk))))]; rfl, hf⟩
    ·refine id ?_
     refine wp_skip (norm_blk (norm_then ?_))
     refine wR ?_
     refine st_add h rfl rfl (by first | exact IntWalk.i64_in _ (by omega) | rfl) rfl ?_; clear h a; intro a h
     refine st_move h rfl rfl ?_; clear h a; intro a h
     replace h : Ag a 24 [(0, _), (12, _), (13, _), (14, _)] := h.sub (.cons rfl (.cons rfl (.cons rfl (.cons rfl .nil))))
     refine wnt ?_
     exact ⟨k + 1, h.sub (.cons rfl (.cons rfl (.cons rfl (.cons rfl .nil)))), ⟨by omega, by rw [List.take_add_one, hxk]; exact all_snocS _ _ ha ((okB_iff _).2 (by omega)), hs, hy, hf⟩, by omega⟩
   ·obtain rfl : k = xs.length := by omega
    rw [List.take_length] at ha
    refine wp_exit (exit_then (exit_then (exit_here (norm_then ?_))))
    refine wp_seq ?_
    refine wR ?_
    refine st_move h rfl rfl ?_; clear h a; intro a h
    refine st_call h (evs_cons rfl evs_nil) co76 (shortest_ok _ xs _ hs (by omega) (by omega) hy) rfl ?_; clear h a; rintro _ w5 ⟨rfl, hq⟩ a h
    replace hf := hf.next hq
    replace hs := hs.ext hq
    replace hy := hy.ext hq
    clear hq
    refine st_assign h rfl rfl ?_; clear h a; intro a h
    refine st_assign h rfl rfl ?_; clear h a; intro a h
    replace h : Ag a 24 [(2, _), (3, _)] := h.sub (.cons rfl (.cons rfl .nil))
    refine wnt ?_
    refine wp_ret ?_
    refine ret2 h Tryd.results56 rfl rfl ?_
    exact ⟨_, rfl, by rw [shortenS, if_neg (by omega), if_neg (by omega), if_pos ha], hf⟩
theorem valid_ok (s : Stitch) (w0 : World) (hk : 0 ≤ s.k) (hy : 0 ≤ s.y) : Rets Tryd.prog 42 #[stV s] w0 fun v w' => v = .int .i64 (if checkS s = 0 then 1 else 0) ∧ Fr [] w0 w' := by
 refine enter [(0, stV s)] Tryd.func42 rfl Tryd.ntmps42 rfl (.cons rfl .nil) ?_
 have hf := Fr.refl [] w0
 intro a h
 refine wp_seq ?_
 refine wR ?_
 refine st_box h rfl rfl rfl ?_; clear h a; intro w1 hb1 hq hz a h
 obtain ⟨g_1, hg⟩ : ∃ g, g = w0.heap.size := ⟨_, rfl⟩; rw [← hg] at hb1 h hz
 have hl1 : w0.heap.size ≤ g_1 := by have := hf.size; omega
 replace hf := hf.next hq
 clear hq hz hg
 refine st_assign h rfl rfl ?_; clear h a; intro a h
 replace h : Ag a 58 [(1, _)] := h.sub (.cons rfl .nil)
 refine wnt ?_
 refine wp_seq ?_
 refine wp_seq ?_
 refine region_bool (r := 22) (L' := [(1, _)]) (s.y = 0 ∨ 6 < s.y ∨ s.k = 0 ∨ 8 < s.k) h (.cons rfl .nil) ?_ ?_
 ·refine id ?_
  refine st_fieldAddr h rfl fa100_1 rfl ?_; clear h a; intro a h
  refine st_loadB h rfl hb1 rfl na5 rfl ?_; clear h a; intro a h
  refine st_eq h rfl rfl rfl ?_; clear h a; intro a h
  refine st_move h rfl rfl ?_; clear h a; intro a h
  first | refine guard_dec (D := 8) h rfl ?_ ?_ | refine guard_ndec (D := 8) h rfl ?_ ?_ | refine guard_any (D := 8) h rfl ?_ ?_
  ·clear h; intro g0 h
   refine gd_no h rfl rfl rfl rfl rfl rfl rfl rfl ?_; clear h a; intro a h
   refine gd_no h rfl rfl rfl rfl rfl rfl rfl rfl ?_; clear h a; intro a h
   refine gd_no h rfl rfl rfl rfl rfl rfl rfl rfl ?_; clear h a; intro a h
   refine st_pick_t h rfl rfl rfl rfl ?_; clear h a; intro a h
   refine st_move h rfl rfl ?_; clear h a; intro a h
   refine gd_no h rfl rfl rfl rfl rfl rfl rfl rfl ?_; clear h a; intro a h
   refine gd_no h rfl rfl rfl rfl rfl rfl rfl rfl ?_; clear h a; intro a h
   refine gd_no h rfl rfl rfl rfl rfl rfl rfl rfl ?_; clear h a; intro a h
   refine st_pick_t h rfl rfl rfl rfl ?_; clear h a; intro a h
   refine st_move h rfl rfl ?_; clear h a; intro a h
   refine gd_no h rfl rfl rfl rfl rfl rfl rfl rfl ?_; clear h a; intro a h
   refine gd_no h rfl rfl rfl rfl rfl rfl rfl rfl ?_; clear h a; intro a h
   refine gd_no h rfl rfl rfl rfl rfl rfl rfl rfl ?_; clear h a; intro a h
   refine st_pick_t h rfl rfl rfl rfl ?_; clear h a; intro a h
   exact wpList_nil (bool_end h rfl (by first | exact bt (by omega) | exact bf (by omega) | exact bi (by omega) | exact bn (by omega)) (.cons rfl .nil))
  ·clear h; intro g0 h
   refine gd_yes h rfl rfl rfl rfl rfl rfl ?_
   refine st_fieldAddr h rfl fa100_1 rfl ?_; clear h a; intro a h
   refine gd_yes h rfl rfl rfl rfl rfl rfl ?_
   refine st_loadB h rfl hb1 rfl na5 rfl ?_; clear h a; intro a h
   refine gd_yes h rfl rfl rfl rfl rfl rfl ?_
   refine st_gt h rfl rfl rfl ?_; clear h a; intro a h
   refine st_pick_f h rfl rfl rfl rfl ?_; clear h a; intro a h
   refine st_move h rfl rfl ?_; clear h a; intro a h
   first | refine guard_dec (D := 13) h rfl ?_ ?_ | refine guard_ndec (D := 13) h rfl ?_ ?_ | refine guard_any (D := 13) h rfl ?_ ?_
   ·clear h; intro g1 h
    refine gd_no h rfl rfl rfl rfl rfl rfl rfl rfl ?_; clear h a; intro a h
    refine gd_no h rfl rfl rfl rfl rfl rfl rfl rfl ?_; clear h a; intro a h
    refine gd_no h rfl rfl rfl rfl rfl rfl rfl rfl ?_; clear h a; intro a h
    refine st_pick_t h rfl rfl rfl rfl ?_; clear h a; intro a h
    refine st_move h rfl rfl ?_; clear h a; intro a h
    refine gd_no h rfl rfl rfl rfl rfl rfl rfl rfl ?_; clear h a; intro a h
    refine gd_no h rfl rfl rfl rfl rfl rfl rfl rfl ?_; clear h a; intro a h
    refine gd_no h rfl rfl rfl rfl rfl rfl rfl rfl ?_; clear h a; intro a h
    refine st_pick_t h rfl rfl rfl rfl ?_; clear h a; intro a h
    exact wpList_nil (bool_end h rfl (by first | exact bt (by omega) | exact bf (by omega) | exact bi (by omega) | exact bn (by omega)) (.cons rfl .nil))
   ·clear h; intro g1 h
    refine gd_yes h rfl rfl rfl rfl rfl rfl ?_
    refine st_fieldAddr h rfl fa100_0 rfl ?_; clear h a; intro a h
    refine gd_yes h rfl rfl rfl rfl rfl rfl ?_
    refine st_loadB h rfl hb1 rfl na87 rfl ?_; clear h a; intro a h
    refine gd_yes h rfl rfl rfl rfl rfl rfl ?_
    refine st_eq h rfl rfl rfl ?_; clear h a; intro a h
    refine st_pick_f h rfl rfl rfl rfl ?_; clear h a; intro a h
    refine st_move h rfl rfl ?_; clear h a; intro a h
    first | refine guard_dec (D := 18) h rfl ?_ ?_ | refine guard_ndec (D := 18) h rfl ?_ ?_ | refine guard_any (D := 18) h rfl ?_ ?_
    ·clear h; intro g2 h
     refine gd_no h rfl rfl rfl rfl rfl rfl rfl rfl ?_; clear h a; intro a h
     refine gd_no h rfl rfl rfl rfl rfl rfl rfl rfl ?_; clear h a; intro a h
     refine gd_no h rfl rfl rfl rfl rfl rfl rfl rfl ?_; clear h a; intro a h
     refine st_pick_t h rfl rfl rfl rfl ?_; clear h a; intro a h
     exact wpList_nil (bool_end h rfl (by first | exact bt (by omega) | exact bf (by omega) | exact bi (by omega) | exact bn (by omega)) (.cons rfl .nil))
    ·clear h; intro g2 h
     refine gd_yes h rfl rfl rfl rfl rfl rfl ?_
     refine st_fieldAddr h rfl fa100_0 rfl ?_; clear h a; intro a h
     refine gd_yes h rfl rfl rfl rfl rfl rfl ?_
     refine st_loadB h rfl hb1 rfl na87 rfl ?_; clear h a; intro a h
     refine gd_yes h rfl rfl rfl rfl rfl rfl ?_
     refine st_gt h rfl rfl rfl ?_; clear h a; intro a h
     refine st_pick_f h rfl rfl rfl rfl ?_; clear h a; intro a h
     exact wpList_nil (bool_end h rfl (by first | exact bt (by omega) | exact bf (by omega) | exact bi (by omega) | exact bn (by omega)) (.cons rfl .nil))
 ·clear h a; intro a h
  refine (norm_then ?_)
  first | refine cond_dec h rfl (fun c0 => ?_) (fun c0 => ?_) | refine cond_ndec h rfl (fun c0 => ?_) (fun c0 => ?_) | refine cond_split h rfl (fun c0 => ?_) (fun c0 => ?_)
  ·refine id ?_
   refine wp_seq ?_
   refine wR ?_
   refine st_assign h rfl rfl ?_; clear h a; intro a h
   replace h : Ag a 58 [(2, _)] := h.sub (.cons rfl .nil)
   refine wnt ?_
   refine wp_ret (ret_then ?_)
   refine ret1 h Tryd.results42 rfl ?_
   exact ⟨_, rfl, by rw [if_neg (fun e => by have := check_rng e; omega)], hf⟩
  ·refine id ?_
   refine wsn ?_
   refine wp_seq ?_
   refine wp_seq ?_
   refine wR ?_
   refine st_fieldAddr h rfl fa100_0 rfl ?_; clear h a; intro a h
   refine st_loadB h rfl hb1 rfl na87 rfl ?_; clear h a; intro a h
   refine st_eq h rfl rfl rfl ?_; clear h a; intro a h
   replace h : Ag a 58 [(1, _), (25, _)] := h.sub (.cons rfl (.cons rfl .nil))
   refine wnt ?_
   first | refine cond_dec h rfl (fun c1 => ?_) (fun c1 => ?_) | refine cond_ndec h rfl (fun c1 => ?_) (fun c1 => ?_) | refine cond_split h rfl (fun c1 => ?_) (fun c1 => ?_)
   ·refine id ?_
    refine wp_seq ?_
    refine wp_seq ?_
    refine wR ?_
    refine st_assign h rfl rfl ?_; clear h a; intro a h
    replace h : Ag a 58 [(1, _), (3, _)] := h.sub (.cons rfl (.cons rfl .nil))
    refine wnt ?_
    refine wp_block ?_
    refine loop (ι := Nat) (fun i => [(1, .pointer (some ⟨g_1, 0, none⟩)), (3, .int .i64 (i : Int))]) (fun i w' => 1 ≤ i ∧ i ≤ 4 ∧ ¬ (1 ≤ s.a ∧ s.a < i ∧ 1 ≤ s.b ∧ s.a + s.b ≤ 4) ∧ Blk w' g_1 100 [.int .u8 s.k, .int .u8 s.y, .int .i64 s.a, .int .i64 s.b, .bool s.f] ∧ Fr [] w0 w') (fun i => 4 - i) 1 (h.sub (.cons rfl (.cons rfl .nil))) ⟨by omega, by omega, by omega, hb1, hf⟩ ?_
    clear h a hb1 hf
    rintro i w2 a h ⟨hi1, hi4, hno, hb1, hf⟩
    refine wp_seq ?_
    refine wp_seq ?_
    refine wR ?_
    refine st_move h rfl rfl ?_; clear h a; intro a h
    refine st_lt h rfl rfl rfl ?_; clear h a; intro a h
    replace h : Ag a 58 [(1, _), (3, _), (27, _)] := h.sub (.cons rfl (.cons rfl (.cons rfl .nil)))
    refine wnt ?_
    first | refine cond_dec h rfl (fun c2 => ?_) (fun c2 => ?_) | refine cond_ndec h rfl (fun c2 => ?_) (fun c2 => ?_) | refine cond_split h rfl (fun c2 => ?_) (fun c2 => ?_)
    ·refine id ?_
     refine wsn ?_
     refine wp_seq ?_
     refine wp_block ?_
     refine wp_seq ?_
     refine wR ?_
     refine st_assign h rfl rfl ?_; clear h a; intro a h
     replace h : Ag a 58 [(1, _), (3, _), (4, _)] := h.sub (.cons rfl (.cons rfl (.cons rfl .nil)))
     refine wnt ?_
     refine wp_block ?_
     refine loop (ι := Nat) (fun j => [(1, .pointer (some ⟨g_1, 0, none⟩)), (3, .int .i64 (i : Int)), (4, .int .i64 (j : Int))]) (fun j w' => 1 ≤ j ∧ i + j ≤ 5 ∧ ¬ (s.a = i ∧ 1 ≤ s.b ∧ s.b < j) ∧ Blk w' g_1 100 [.int .u8 s.k, .int .u8 s.y, .int .i64 s.a, .int .i64 s.b, .bool s.f] ∧ Fr [] w0 w') (fun j => 5 - j) 1 (h.sub (.cons rfl (.cons rfl (.cons rfl .nil)))) ⟨by omega, by omega, by omega, hb1, hf⟩ ?_
     clear h a hb1 hf
     rintro j w3 a h ⟨hj1, hj4, hnj, hb1, hf⟩
     refine wp_seq ?_
     refine wp_seq ?_
     refine wR ?_
     refine st_move h rfl rfl ?_; clear h a; intro a h
     refine st_move h rfl rfl ?_; clear h a; intro a h
     refine st_add h rfl rfl (by first | exact IntWalk.i64_in _ (by omega) | rfl) rfl ?_; clear h a; intro a h
     refine st_le h rfl rfl rfl ?_; clear h a; intro a h
     replace h : Ag a 58 [(1, _), (3, _), (4, _), (33, _)] := h.sub (.cons rfl (.cons rfl (.cons rfl (.cons rfl .nil))))
     refine wnt ?_
     first | refine cond_dec h rfl (fun c3 => ?_) (fun c3 => ?_) | refine cond_ndec h rfl (fun c3 => ?_) (fun c3 => ?_) | refine cond_split h rfl (fun c3 => ?_) (fun c3 => ?_)
     ·refine id ?_
      refine wsn ?_
      refine wp_seq ?_
      refine wp_block ?_
      refine wp_seq ?_
      refine region_bool (r := 45) (L' := [(1, _), (3, _), (4, _)]) (s.a = i ∧ s.b = j) h (.cons rfl (.cons rfl (.cons rfl .nil))) ?_ ?_
      ·refine id ?_
       refine st_fieldAddr h rfl fa100_2 rfl ?_; clear h a; intro a h
       refine st_loadB h rfl hb1 rfl na3 rfl ?_; clear h a; intro a h
       refine st_move h rfl rfl ?_; clear h a; intro a h
       refine st_eq h rfl rfl rfl ?_; clear h a; intro a h
       refine st_move h rfl rfl ?_; clear h a; intro a h
       first | refine guard_dec (D := 40) h rfl ?_ ?_ | refine guard_ndec (D := 40) h rfl ?_ ?_ | refine guard_any (D := 40) h rfl ?_ ?_
       ·clear h; intro g3 h
        refine gd_yes h rfl rfl rfl rfl rfl rfl ?_
        refine st_fieldAddr h rfl fa100_3 rfl ?_; clear h a; intro a h
        refine gd_yes h rfl rfl rfl rfl rfl rfl ?_
        refine st_loadB h rfl hb1 rfl na3 rfl ?_; clear h a; intro a h
        refine gd_yes h rfl rfl rfl rfl rfl rfl ?_
        refine st_move h rfl rfl ?_; clear h a; intro a h
        refine gd_yes h rfl rfl rfl rfl rfl rfl ?_
        refine st_eq h rfl rfl rfl ?_; clear h a; intro a h
        refine st_pick_t h rfl rfl rfl rfl ?_; clear h a; intro a h
        exact wpList_nil (bool_end h rfl (by first | exact bt (by omega) | exact bf (by omega) | exact bi (by omega) | exact bn (by omega)) (.cons rfl (.cons rfl (.cons rfl .nil))))
       ·clear h; intro g3 h
        refine gd_no h rfl rfl rfl rfl rfl rfl rfl rfl ?_; clear h a; intro a h
        refine gd_no h rfl rfl rfl rfl rfl rfl rfl rfl ?_; clear h a; intro a h
        refine gd_no h rfl rfl rfl rfl rfl rfl rfl rfl ?_; clear h a; intro a h
        refine gd_no h rfl rfl rfl rfl rfl rfl rfl rfl ?_; clear h a; intro a h
        refine st_pick_f h rfl rfl rfl rfl ?_; clear h a; intro a h
        exact wpList_nil (bool_end h rfl (by first | exact bt (by omega) | exact bf (by omega) | exact bi (by omega) | exact bn (by omega)) (.cons rfl (.cons rfl (.cons rfl .nil))))
      ·clear h a; intro a h
       refine (norm_then ?_)
       first | refine cond_dec h rfl (fun c4 => ?_) (fun c4 => ?_) | refine cond_ndec h rfl (fun c4 => ?_) (fun c4 => ?_) | refine cond_split h rfl (fun c4 => ?_) (fun c4 => ?_)
       ·refine id ?_
        refine wp_seq ?_
        refine wR ?_
        refine st_assign h rfl rfl ?_; clear h a; intro a h
        replace h : Ag a 58 [(2, _)] := h.sub (.cons rfl .nil)
        refine wnt ?_
        refine wp_ret (ret_blk (ret_then (ret_then (ret_blk (ret_blk (ret_then (ret_then (ret_blk (ret_then (ret_then ?_))))))))))
        refine ret1 h Tryd.results42 rfl ?_
        exact ⟨_, rfl, by rw [if_pos (check_zero hk hy (by omega) (.inl (by omega)))], hf⟩
       ·refine id ?_
        refine wp_skip (norm_blk (norm_then ?_))
        refine wR ?_
        refine st_move h rfl rfl ?_; clear h a; intro a h
        refine st_add h rfl rfl (by first | exact IntWalk.i64_in _ (by omega) | rfl) rfl ?_; clear h a; intro a h
        refine st_assign h rfl rfl ?_; clear h a; intro a h
        replace h : Ag a 58 [(1, _), (3, _), (4, _)] := h.sub (.cons rfl (.cons rfl (.cons rfl .nil)))
        refine wnt ?_
        exact ⟨j + 1, h.sub (.cons rfl (.cons rfl (.cons rfl .nil))), ⟨by omega, by omega, by omega, hb1, hf⟩, by omega⟩
     ·refine id ?_
      refine wp_exit (exit_then (exit_then (exit_here (norm_blk (norm_then ?_)))))
      refine wR ?_
      refine st_move h rfl rfl ?_; clear h a; intro a h
      refine st_add h rfl rfl (by first | exact IntWalk.i64_in _ (by omega) | rfl) rfl ?_; clear h a; intro a h
      refine st_assign h rfl rfl ?_; clear h a; intro a h
      replace h : Ag a 58 [(1, _), (3, _)] := h.sub (.cons rfl (.cons rfl .nil))
      refine wnt ?_
      exact ⟨i + 1, h.sub (.cons rfl (.cons rfl .nil)), ⟨by omega, by omega, by omega, hb1, hf⟩, by omega⟩
    ·refine id ?_
     refine wp_exit (exit_then (exit_then (exit_here (norm_then ?_))))
     refine wp_seq ?_
     refine wR ?_
     refine st_assign h rfl rfl ?_; clear h a; intro a h
     replace h : Ag a 58 [(2, _)] := h.sub (.cons rfl .nil)
     refine wnt ?_
     refine wp_ret (ret_then ?_)
     refine ret1 h Tryd.results42 rfl ?_
     exact ⟨_, rfl, by rw [if_neg (fun e => by have := check_rng e; omega)], hf⟩
   ·refine id ?_
    refine wsn ?_
    refine wp_seq ?_
    refine wp_seq ?_
    refine region_bool (r := 57) (L' := []) (s.a ≠ 0 ∨ s.b ≠ 0 ∨ s.f = true) h .nil ?_ ?_
    ·refine id ?_
     refine st_fieldAddr h rfl fa100_2 rfl ?_; clear h a; intro a h
     refine st_loadB h rfl hb1 rfl na3 rfl ?_; clear h a; intro a h
     refine st_ne h rfl rfl rfl ?_; clear h a; intro a h
     refine st_move h rfl rfl ?_; clear h a; intro a h
     first | refine guard_dec (D := 49) h rfl ?_ ?_ | refine guard_ndec (D := 49) h rfl ?_ ?_ | refine guard_any (D := 49) h rfl ?_ ?_
     ·clear h; intro g4 h
      refine gd_no h rfl rfl rfl rfl rfl rfl rfl rfl ?_; clear h a; intro a h
      refine gd_no h rfl rfl rfl rfl rfl rfl rfl rfl ?_; clear h a; intro a h
      refine gd_no h rfl rfl rfl rfl rfl rfl rfl rfl ?_; clear h a; intro a h
      refine st_pick_t h rfl rfl rfl rfl ?_; clear h a; intro a h
      refine st_move h rfl rfl ?_; clear h a; intro a h
      refine gd_no h rfl rfl rfl rfl rfl rfl rfl rfl ?_; clear h a; intro a h
      refine gd_no h rfl rfl rfl rfl rfl rfl rfl rfl ?_; clear h a; intro a h
      refine st_pick_t h rfl rfl rfl rfl ?_; clear h a; intro a h
      exact wpList_nil (bool_end h rfl (by simp_all) .nil)
     ·clear h; intro g4 h
      refine gd_yes h rfl rfl rfl rfl rfl rfl ?_
      refine st_fieldAddr h rfl fa100_3 rfl ?_; clear h a; intro a h
      refine gd_yes h rfl rfl rfl rfl rfl rfl ?_
      refine st_loadB h rfl hb1 rfl na3 rfl ?_; clear h a; intro a h
      refine gd_yes h rfl rfl rfl rfl rfl rfl ?_
      refine st_ne h rfl rfl rfl ?_; clear h a; intro a h
      refine st_pick_f h rfl rfl rfl rfl ?_; clear h a; intro a h
      refine st_move h rfl rfl ?_; clear h a; intro a h
      first | refine guard_dec (D := 54) h rfl ?_ ?_ | refine guard_ndec (D := 54) h rfl ?_ ?_ | refine guard_any (D := 54) h rfl ?_ ?_
      ·clear h; intro g5 h
       refine gd_no h rfl rfl rfl rfl rfl rfl rfl rfl ?_; clear h a; intro a h
       refine gd_no h rfl rfl rfl rfl rfl rfl rfl rfl ?_; clear h a; intro a h
       refine st_pick_t h rfl rfl rfl rfl ?_; clear h a; intro a h
       exact wpList_nil (bool_end h rfl (by simp_all) .nil)
      ·clear h; intro g5 h
       refine gd_yes h rfl rfl rfl rfl rfl rfl ?_
       refine st_fieldAddr h rfl fa100_4 rfl ?_; clear h a; intro a h
       refine gd_yes h rfl rfl rfl rfl rfl rfl ?_
       refine st_loadB h rfl hb1 rfl na4 rfl ?_; clear h a; intro a h
       refine st_pick_f h rfl rfl rfl rfl ?_; clear h a; intro a h
       exact wpList_nil (bool_end h rfl (by simp_all) .nil)
    ·clear h a; intro a h
     refine (norm_then ?_)
     first | refine cond_dec h rfl (fun c5 => ?_) (fun c5 => ?_) | refine cond_ndec h rfl (fun c5 => ?_) (fun c5 => ?_) | refine cond_split h rfl (fun c5 => ?_) (fun c5 => ?_)
     ·refine id ?_
      refine wp_seq ?_
      refine wR ?_
      refine st_assign h rfl rfl ?_; clear h a; intro a h
      replace h : Ag a 58 [(2, _)] := h.sub (.cons rfl .nil)
      refine wnt ?_
      refine wp_ret (ret_then ?_)
      refine ret1 h Tryd.results42 rfl ?_
      exact ⟨_, rfl, by rw [if_neg (fun e => by obtain ⟨p, q, r⟩ := (check_rng e).2.2.2.2.1 c1; rcases c5 with x | x | x; exact x p; exact x q; rw [r] at x; cases x)], hf⟩
     ·refine id ?_
      refine wsn ?_
      refine wp_seq ?_
      refine wR ?_
      refine st_assign h rfl rfl ?_; clear h a; intro a h
      replace h : Ag a 58 [(2, _)] := h.sub (.cons rfl .nil)
      refine wnt ?_
      refine wp_ret ?_
      refine ret1 h Tryd.results42 rfl ?_
      exact ⟨_, rfl, by rw [if_pos (check_zero hk hy (by omega) (.inr ⟨c1, by omega, by omega, by cases hsf : s.f with | false => rfl | true => exact absurd (.inr (.inr hsf)) c5⟩))], hf⟩
theorem reftext_ok (s : Stitch) (w0 : World) (hk : 0 ≤ s.k) (hy : 0 ≤ s.y) : Rets Tryd.prog 78 #[stV s] w0 fun v w' => v = S (textS s) ∧ Fr [] w0 w' := by
 refine enter [(0, stV s)] Tryd.func78 rfl Tryd.ntmps78 rfl (.cons rfl .nil) ?_
 have hf := Fr.refl [] w0
 intro a h
 refine wp_seq ?_
 refine wR ?_
 refine st_box h rfl rfl rfl ?_; clear h a; intro w1 hb1 hq hz a h
 obtain ⟨g_1, hg⟩ : ∃ g, g = w0.heap.size := ⟨_, rfl⟩; rw [← hg] at hb1 h hz
 have hl1 : w0.heap.size ≤ g_1 := by have := hf.size; omega
 replace hf := hf.next hq
 clear hq hz hg
 refine st_assign h rfl rfl ?_; clear h a; intro a h
 replace h : Ag a 55 [(1, _)] := h.sub (.cons rfl .nil)
 refine wnt ?_
 refine wp_seq ?_
 refine wp_seq ?_
 refine wR ?_
 refine st_loadBA h rfl hb1 ag100 rfl ?_; clear h a; intro a h
 refine st_call h (evs_cons rfl evs_nil) co42 (valid_ok s _ hk hy) rfl ?_; clear h a; rintro _ w2 ⟨rfl, hq⟩ a h
 replace hf := hf.next hq
 replace hb1 := hb1.ext hq
 clear hq
 refine st_eq h rfl rfl rfl ?_; clear h a; intro a h
 replace h : Ag a 55 [(1, _), (8, _)] := h.sub (.cons rfl (.cons rfl .nil))
 refine wnt ?_
 first | refine cond_dec h rfl (fun c0 => ?_) (fun c0 => ?_) | refine cond_ndec h rfl (fun c0 => ?_) (fun c0 => ?_) | refine cond_split h rfl (fun c0 => ?_) (fun c0 => ?_)
 ·have hc : checkS s ≠ 0 := fun e => by rw [if_pos e] at c0; omega
  refine wp_seq ?_
  refine wR ?_
  refine st_assign h rfl rfl ?_; clear h a; intro a h
  replace h : Ag a 55 [(2, _)] := h.sub (.cons rfl .nil)
  refine wnt ?_
  refine wp_ret (ret_then ?_)
  refine ret1 h Tryd.results78 rfl ?_
  exact ⟨_, rfl, by rw [textS, if_pos hc]; rfl, hf⟩
 ·have hc : checkS s = 0 := Decidable.not_not.1 fun e => c0 (if_neg e)
  obtain ⟨k1, k8, y1, y6, kn, ky⟩ := check_rng hc
  refine wsn ?_
  refine wp_seq ?_
  refine wR ?_
  refine st_assign h rfl rfl ?_; clear h a; intro a h
  replace h : Ag a 55 [(1, _), (3, _)] := h.sub (.cons rfl (.cons rfl .nil))
  refine wnt ?_
  refine wp_seq ?_
  refine wR ?_
  refine st_move h rfl rfl ?_; clear h a; intro a h
  refine st_fieldAddr h rfl fa100_0 rfl ?_; clear h a; intro a h
  refine st_loadB h rfl hb1 rfl na87 rfl ?_; clear h a; intro a h
  refine st_fieldAddr h rfl fa100_0 rfl ?_; clear h a; intro a h
  refine st_loadB h rfl hb1 rfl na87 rfl ?_; clear h a; intro a h
  refine st_add h rfl rfl (by first | exact IntWalk.u8_in _ (by omega) | rfl) rfl ?_; clear h a; intro a h
  refine st_ss_lh (p := (s.k).toNat) (p' := (s.k + 1).toNat) h rfl rfl rfl Tryd.underlying9 (by omega) (by omega) (by simp only [List.length_cons, List.length_nil]; omega) rfl rfl rfl ?_; clear h a; intro a h
  rw [refsym s.k k1 k8] at h
  refine st_assign h rfl rfl ?_; clear h a; intro a h
  replace h : Ag a 55 [(1, _), (4, _)] := h.sub (.cons rfl (.cons rfl .nil))
  refine wnt ?_
  refine wp_seq ?_
  refine wR ?_
  refine st_assign h rfl rfl ?_; clear h a; intro a h
  refine wnt ?_
  refine wp_seq ?_
  refine wp_seq ?_
  refine wR ?_
  refine st_fieldAddr h rfl fa100_0 rfl ?_; clear h a; intro a h
  refine st_loadB h rfl hb1 rfl na87 rfl ?_; clear h a; intro a h
  refine st_eq h rfl rfl rfl ?_; clear h a; intro a h
  replace h : Ag a 55 [(1, _), (4, _), (5, _), (18, _)] := h.sub (.cons rfl (.cons rfl (.cons rfl (.cons rfl .nil))))
  refine wnt ?_
  first | refine cond_dec h rfl (fun c1 => ?_) (fun c1 => ?_) | refine cond_ndec h rfl (fun c1 => ?_) (fun c1 => ?_) | refine cond_split h rfl (fun c1 => ?_) (fun c1 => ?_)
  ·obtain ⟨a1, a3, b1, b3, ab⟩ := ky c1
   refine wp_seq ?_
   refine region_quiet hmix (by kernel_rfl) ?_
   refine qt_move h rfl rfl ?_; clear h a; intro a h
   refine qt_move h rfl rfl ?_; clear h a; intro a h
   refine qt_fieldAddr h rfl fa100_2 rfl ?_; clear h a; intro a h
   refine qt_loadB h rfl (fun _ hw => hb1.ext hw) rfl na3 rfl ?_; clear h a; intro a h
   refine qt_fieldAddr h rfl fa100_2 rfl ?_; clear h a; intro a h
   refine qt_loadB h rfl (fun _ hw => hb1.ext hw) rfl na3 rfl ?_; clear h a; intro a h
   refine qt_add h rfl rfl (by first | exact IntWalk.i64_in _ (by omega) | rfl) rfl ?_; clear h a; intro a h
   refine qt_ss_lh (p := (s.a).toNat) (p' := (s.a + 1).toNat) h rfl rfl rfl Tryd.underlying9 (by omega) (by omega) (by simp only [List.length_cons, List.length_nil]; omega) rfl rfl rfl ?_; clear h a; intro a h
   rw [refdig s.a (by omega) (by omega)] at h
   refine qt_move h rfl rfl ?_; clear h a; intro a h
   refine qt_fieldAddr h rfl fa100_3 rfl ?_; clear h a; intro a h
   refine qt_loadB h rfl (fun _ hw => hb1.ext hw) rfl na3 rfl ?_; clear h a; intro a h
   refine qt_fieldAddr h rfl fa100_3 rfl ?_; clear h a; intro a h
   refine qt_loadB h rfl (fun _ hw => hb1.ext hw) rfl na3 rfl ?_; clear h a; intro a h
   refine qt_add h rfl rfl (by first | exact IntWalk.i64_in _ (by omega) | rfl) rfl ?_; clear h a; intro a h
   refine qt_ss_lh (p := (s.b).toNat) (p' := (s.b + 1).toNat) h rfl rfl rfl Tryd.underlying9 (by omega) (by omega) (by simp only [List.length_cons, List.length_nil]; omega) rfl rfl rfl ?_; clear h a; intro a h
   rw [refdig s.b (by omega) (by omega)] at h
   refine qt_adds h rfl rfl (by first | (simp; done) | (simp; omega)) rfl ?_; clear h a; intro a h
   refine qt_adds h rfl rfl (by first | (simp; done) | (simp; omega)) rfl ?_; clear h a; intro a h
   refine qt_assign h rfl rfl ?_; clear h a; intro a h
   refine wpQuiet_nil ?_
   intro w3 hq
   replace hf := hf.next hq
   replace hb1 := hb1.ext hq
   clear hq
   replace h : Ag a 55 [(1, _), (4, _), (5, _)] := h.sub (.cons rfl (.cons rfl (.cons rfl .nil)))
   refine (norm_then ?_)
   refine wp_seq ?_
   refine wR ?_
   refine st_fieldAddr h rfl fa100_4 rfl ?_; clear h a; intro a h
   refine st_loadB h rfl hb1 rfl na4 rfl ?_; clear h a; intro a h
   replace h : Ag a 55 [(1, _), (4, _), (5, _), (37, _)] := h.sub (.cons rfl (.cons rfl (.cons rfl (.cons rfl .nil))))
   refine wnt ?_
   first | refine cond_dec h rfl (fun c2 => ?_) (fun c2 => ?_) | refine cond_ndec h rfl (fun c2 => ?_) (fun c2 => ?_) | refine cond_split h rfl (fun c2 => ?_) (fun c2 => ?_)
   ·refine id ?_
    refine wR ?_
    refine st_move h rfl rfl ?_; clear h a; intro a h
    refine st_adds h rfl rfl (by first | (simp; done) | (simp; omega)) rfl ?_; clear h a; intro a h
    refine st_assign h rfl rfl ?_; clear h a; intro a h
    replace h : Ag a 55 [(1, _), (4, _), (5, _)] := h.sub (.cons rfl (.cons rfl (.cons rfl .nil)))
    refine wnt ?_
    refine wp_seq ?_
    refine wp_seq ?_
    refine wR ?_
    refine st_fieldAddr h rfl fa100_1 rfl ?_; clear h a; intro a h
    refine st_loadB h rfl hb1 rfl na5 rfl ?_; clear h a; intro a h
    refine st_ne h rfl rfl rfl ?_; clear h a; intro a h
    replace h : Ag a 55 [(1, _), (4, _), (5, _), (44, _)] := h.sub (.cons rfl (.cons rfl (.cons rfl (.cons rfl .nil))))
    refine wnt ?_
    first | refine cond_dec h rfl (fun c3 => ?_) (fun c3 => ?_) | refine cond_ndec h rfl (fun c3 => ?_) (fun c3 => ?_) | refine cond_split h rfl (fun c3 => ?_) (fun c3 => ?_)
    ·refine id ?_
     refine wR ?_
     refine st_move h rfl rfl ?_; clear h a; intro a h
     refine st_move h rfl rfl ?_; clear h a; intro a h
     refine st_fieldAddr h rfl fa100_1 rfl ?_; clear h a; intro a h
     refine st_loadB h rfl hb1 rfl na5 rfl ?_; clear h a; intro a h
     refine st_fieldAddr h rfl fa100_1 rfl ?_; clear h a; intro a h
     refine st_loadB h rfl hb1 rfl na5 rfl ?_; clear h a; intro a h
     refine st_add h rfl rfl (by first | exact IntWalk.u8_in _ (by omega) | rfl) rfl ?_; clear h a; intro a h
     refine st_ss_lh (p := (s.y).toNat) (p' := (s.y + 1).toNat) h rfl rfl rfl Tryd.underlying9 (by omega) (by omega) (by simp only [List.length_cons, List.length_nil]; omega) rfl rfl rfl ?_; clear h a; intro a h
     rw [refdig s.y (by omega) (by omega)] at h
     refine st_adds h rfl rfl (by first | (simp; done) | (simp; omega)) rfl ?_; clear h a; intro a h
     refine st_assign h rfl rfl ?_; clear h a; intro a h
     replace h : Ag a 55 [(4, _)] := h.sub (.cons rfl .nil)
     refine wnt ?_
     refine wp_seq ?_
     refine wR ?_
     refine st_move h rfl rfl ?_; clear h a; intro a h
     refine st_assign h rfl rfl ?_; clear h a; intro a h
     replace h : Ag a 55 [(2, _)] := h.sub (.cons rfl .nil)
     refine wnt ?_
     refine wp_ret ?_
     refine ret1 h Tryd.results78 rfl ?_
     exact ⟨_, rfl, by simp_all [textS], hf⟩
    ·refine id ?_
     refine wsn ?_
     refine wp_seq ?_
     refine wR ?_
     refine st_move h rfl rfl ?_; clear h a; intro a h
     refine st_assign h rfl rfl ?_; clear h a; intro a h
     replace h : Ag a 55 [(2, _)] := h.sub (.cons rfl .nil)
     refine wnt ?_
     refine wp_ret ?_
     refine ret1 h Tryd.results78 rfl ?_
     exact ⟨_, rfl, by simp_all [textS], hf⟩
   ·refine id ?_
    refine wR ?_
    refine st_move h rfl rfl ?_; clear h a; intro a h
    refine st_adds h rfl rfl (by first | (simp; done) | (simp; omega)) rfl ?_; clear h a; intro a h
    refine st_assign h rfl rfl ?_; clear h a; intro a h
    replace h : Ag a 55 [(1, _), (4, _), (5, _)] := h.sub (.cons rfl (.cons rfl (.cons rfl .nil)))
    refine wnt ?_
    refine wp_seq ?_
    refine wp_seq ?_
    refine wR ?_
    refine st_fieldAddr h rfl fa100_1 rfl ?_; clear h a; intro a h
    refine st_loadB h rfl hb1 rfl na5 rfl ?_; clear h a; intro a h
    refine st_ne h rfl rfl rfl ?_; clear h a; intro a h
    replace h : Ag a 55 [(1, _), (4, _), (5, _), (44, _)] := h.sub (.cons rfl (.cons rfl (.cons rfl (.cons rfl .nil))))
    refine wnt ?_
    first | refine cond_dec h rfl (fun c3 => ?_) (fun c3 => ?_) | refine cond_ndec h rfl (fun c3 => ?_) (fun c3 => ?_) | refine cond_split h rfl (fun c3 => ?_) (fun c3 => ?_)
    ·refine id ?_
     refine wR ?_
     refine st_move h rfl rfl ?_; clear h a; intro a h
     refine st_move h rfl rfl ?_; clear h a; intro a h
     refine st_fieldAddr h rfl fa100_1 rfl ?_; clear h a; intro a h
     refine st_loadB h rfl hb1 rfl na5 rfl ?_; clear h a; intro a h
     refine st_fieldAddr h rfl fa100_1 rfl ?_; clear h a; intro a h
     refine st_loadB h rfl hb1 rfl na5 rfl ?_; clear h a; intro a h
     refine st_add h rfl rfl (by first | exact IntWalk.u8_in _ (by omega) | rfl) rfl ?_; clear h a; intro a h
     refine st_ss_lh (p := (s.y).toNat) (p' := (s.y + 1).toNat) h rfl rfl rfl Tryd.underlying9 (by omega) (by omega) (by simp only [List.length_cons, List.length_nil]; omega) rfl rfl rfl ?_; clear h a; intro a h
     rw [refdig s.y (by omega) (by omega)] at h
     refine st_adds h rfl rfl (by first | (simp; done) | (simp; omega)) rfl ?_; clear h a; intro a h
     refine st_assign h rfl rfl ?_; clear h a; intro a h
     replace h : Ag a 55 [(4, _)] := h.sub (.cons rfl .nil)
     refine wnt ?_
     refine wp_seq ?_
     refine wR ?_
     refine st_move h rfl rfl ?_; clear h a; intro a h
     refine st_assign h rfl rfl ?_; clear h a; intro a h
     replace h : Ag a 55 [(2, _)] := h.sub (.cons rfl .nil)
     refine wnt ?_
     refine wp_ret ?_
     refine ret1 h Tryd.results78 rfl ?_
     exact ⟨_, rfl, by simp_all [textS], hf⟩
    ·refine id ?_
     refine wsn ?_
     refine wp_seq ?_
     refine wR ?_
     refine st_move h rfl rfl ?_; clear h a; intro a h
     refine st_assign h rfl rfl ?_; clear h a; intro a h
     replace h : Ag a 55 [(2, _)] := h.sub (.cons rfl .nil)
     refine wnt ?_
     refine wp_ret ?_
     refine ret1 h Tryd.results78 rfl ?_
     exact ⟨_, rfl, by simp_all [textS], hf⟩
  ·refine id ?_
   refine wsn ?_
   refine wp_seq ?_
   refine wp_seq ?_
   refine wR ?_
   refine st_fieldAddr h rfl fa100_1 rfl ?_; clear h a; intro a h
   refine st_loadB h rfl hb1 rfl na5 rfl ?_; clear h a; intro a h
   refine st_ne h rfl rfl rfl ?_; clear h a; intro a h
   replace h : Ag a 55 [(1, _), (4, _), (5, _), (44, _)] := h.sub (.cons rfl (.cons rfl (.cons rfl (.cons rfl .nil))))
   refine wnt ?_
   first | refine cond_dec h rfl (fun c3 => ?_) (fun c3 => ?_) | refine cond_ndec h rfl (fun c3 => ?_) (fun c3 => ?_) | refine cond_split h rfl (fun c3 => ?_) (fun c3 => ?_)
   ·refine id ?_
    refine wR ?_
    refine st_move h rfl rfl ?_; clear h a; intro a h
    refine st_move h rfl rfl ?_; clear h a; intro a h
    refine st_fieldAddr h rfl fa100_1 rfl ?_; clear h a; intro a h
    refine st_loadB h rfl hb1 rfl na5 rfl ?_; clear h a; intro a h
    refine st_fieldAddr h rfl fa100_1 rfl ?_; clear h a; intro a h
    refine st_loadB h rfl hb1 rfl na5 rfl ?_; clear h a; intro a h
    refine st_add h rfl rfl (by first | exact IntWalk.u8_in _ (by omega) | rfl) rfl ?_; clear h a; intro a h
    refine st_ss_lh (p := (s.y).toNat) (p' := (s.y + 1).toNat) h rfl rfl rfl Tryd.underlying9 (by omega) (by omega) (by simp only [List.length_cons, List.length_nil]; omega) rfl rfl rfl ?_; clear h a; intro a h
    rw [refdig s.y (by omega) (by omega)] at h
    refine st_adds h rfl rfl (by first | (simp; done) | (simp; omega)) rfl ?_; clear h a; intro a h
    refine st_assign h rfl rfl ?_; clear h a; intro a h
    replace h : Ag a 55 [(4, _)] := h.sub (.cons rfl .nil)
    refine wnt ?_
    refine wp_seq ?_
    refine wR ?_
    refine st_move h rfl rfl ?_; clear h a; intro a h
    refine st_assign h rfl rfl ?_; clear h a; intro a h
    replace h : Ag a 55 [(2, _)] := h.sub (.cons rfl .nil)
    refine wnt ?_
    refine wp_ret ?_
    refine ret1 h Tryd.results78 rfl ?_
    exact ⟨_, rfl, by simp_all [textS], hf⟩
   ·refine id ?_
    refine wsn ?_
    refine wp_seq ?_
    refine wR ?_
    refine st_move h rfl rfl ?_; clear h a; intro a h
    refine st_assign h rfl rfl ?_; clear h a; intro a h
    replace h : Ag a 55 [(2, _)] := h.sub (.cons rfl .nil)
    refine wnt ?_
    refine wp_ret ?_
    refine ret1 h Tryd.results78 rfl ?_
    exact ⟨_, rfl, by simp_all [textS], hf⟩
end Go.Proofs.YthehggmdcmpjeaaDoor
