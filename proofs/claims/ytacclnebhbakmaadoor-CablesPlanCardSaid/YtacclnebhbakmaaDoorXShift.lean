/- Plans of moves, as plain data, and how a planner lies in memory. Conditions: none. -/
import Derived.Test.YtacclnebhbakmaaDoorXOp
set_option linter.unusedVariables false
set_option linter.unusedSimpArgs false
namespace Go.Lw
open Go.RowKit

def rackO (r : Int) : MOp := ⟨3, 0, 0, 0, 0, r⟩
def xferO (b p : Int) : MOp := ⟨7, 0, b, p, 0, 0⟩

abbrev PS := List MOp × Int
def turnS (s : PS) (r : Int) : PS := if s.2 ≠ r then (s.1 ++ [rackO r], r) else s
def transS (s : PS) (b : Int) (l : List Int) (r : Int) : PS := (s.1 ++ l.map (fun k => xferO b (k - r)), s.2)
def byS (d : Int) : Int := max (-8) (min 8 d)
def rS (s : PS) (l : List Int) (d : Int) : Int := max (max (max (-4) (-4 - byS d)) (l.getD (l.length - 1) 0 - 40)) (min (min (min 4 (4 - byS d)) (l.getD 0 0 - 1)) s.2)
def stepM (s : PS) (l : List Int) (d : Int) : PS := transS (turnS (transS (turnS s (rS s l d)) 0 l 0) (rS s l d + byS d)) 1 l (rS s l d)
def moveF : Nat → PS → List Int → Int → PS
  | 0, s, _, _ => s
  | f + 1, s, l, d => if d = 0 then s else moveF f (stepM s l d) (l.map (· + byS d)) (d - byS d)
def moveS (s : PS) (l : List Int) (d : Int) : PS := moveF d.natAbs s l d

theorem turn_len (s : PS) (r : Int) : (turnS s r).1.length ≤ s.1.length + 1 := by unfold turnS; split <;> simp
theorem trans_len (s : PS) (b : Int) (l : List Int) (r : Int) : (transS s b l r).1.length = s.1.length + l.length := by simp [transS]
theorem step_len (s : PS) (l : List Int) (d : Int) : (stepM s l d).1.length ≤ s.1.length + (2 + 2 * l.length) := by
  unfold stepM
  rw [trans_len]
  have h1 := turn_len (transS (turnS s (rS s l d)) 0 l 0) (rS s l d + byS d)
  rw [trans_len] at h1
  have h2 := turn_len s (rS s l d)
  omega
theorem moveF_len : ∀ (f : Nat) (s : PS) (l : List Int) (d : Int), (moveF f s l d).1.length ≤ s.1.length + f * (2 + 2 * l.length)
  | 0, s, l, d => by simp [moveF]
  | f + 1, s, l, d => by
    unfold moveF
    split
    · omega
    · have h1 := moveF_len f (stepM s l d) (l.map (· + byS d)) (d - byS d)
      have h2 := step_len s l d
      rw [List.length_map] at h1
      rw [Nat.succ_mul]; omega
theorem by_lt {d : Int} (h : d ≠ 0) : (d - byS d).natAbs < d.natAbs := by unfold byS; omega

theorem take_succ_getD (l : List Int) (i : Nat) (h : i < l.length) : l.take (i + 1) = l.take i ++ [l.getD i 0] := by
  rw [List.take_add_one, List.getElem?_eq_getElem h, Option.toList, getD_at l i h 0]
theorem turn_rack (s : PS) (r : Int) : (turnS s r).2 = r := by
  unfold turnS; split
  · rfl
  · rename_i h; simpa using h
theorem step_rack (s : PS) (l : List Int) (d : Int) : (stepM s l d).2 = rS s l d + byS d := by
  unfold stepM transS; exact turn_rack _ _
/-- A planner: its block, the operations so far, the rack; none of its blocks is in K. -/
def Pl (TP TO base : Nat) (w : World) (g : Nat) (K : Nat → Prop) (s : PS) : Prop :=
  ∃ v, Blk w g TP [v, .int .i64 s.2] ∧ Own encOp TO base w v s.1 ∧ g ∉ blks v ∧ ¬ K g ∧ ∀ k ∈ blks v, ¬ K k
section
variable {TP TO base g : Nat} {w w' : World} {K K' : Nat → Prop} {s : PS} {S : List Nat}
theorem Pl.lt (h : Pl TP TO base w g K s) : g < w.heap.size := let ⟨_, hb, _⟩ := h; hb.lt
theorem Pl.fr (h : Pl TP TO base w g K s) (hf : Fr S w w') (hS : ∀ k ∈ S, K k) : Pl TP TO base w' g K s := by
  obtain ⟨v, h1, h2, h3, h4, h5⟩ := h
  exact ⟨v, h1.fr hf (fun e => h4 (hS _ e)), h2.fr hf (fun k hk hb => h5 k hb (hS k hk)), h3, h4, h5⟩
theorem Pl.ext (h : Pl TP TO base w g K s) (hf : Fr [] w w') : Pl TP TO base w' g K s := h.fr hf (by simp)
theorem Pl.turn {n0 : Nat} (h : Pl TP TO base w g K s) (ht : Turn n0 w w') : Pl TP TO base w' g K s := by
  obtain ⟨v, h1, h2, h3, h4, h5⟩ := h
  exact ⟨v, h1.turn ht, h2.turn ht, h3, h4, h5⟩
theorem Pl.setK (h : Pl TP TO base w g K s) (hK : ∀ k, k < w.heap.size → K' k → K k) : Pl TP TO base w g K' s := by
  obtain ⟨v, h1, h2, h3, h4, h5⟩ := h
  exact ⟨v, h1, h2, h3, fun e => h4 (hK _ h1.lt e), fun k hk e => h5 k hk (hK k (h2.blk k hk).2 e)⟩
theorem Pl.addNon (h : Pl TP TO base w g K s) : Pl TP TO base w g (fun k => K k ∨ NonCells w k) s := by
  obtain ⟨v, h1, h2, h3, h4, h5⟩ := h
  refine ⟨v, h1, h2, h3, ?_, ?_⟩
  · rintro (e | ⟨o, e1, e2⟩)
    · exact h4 e
    · rw [show w.heap[g]? = _ from h1] at e1; cases e1; cases e2
  · rintro k hk (e | ⟨o, e1, e2⟩)
    · exact h5 k hk e
    · rcases h2 with ⟨rfl, _⟩ | ⟨g', cap, cur, rfl, _, hg, _⟩
      · cases hk
      · simp [blks] at hk; subst hk; rw [hg] at e1; cases e1; cases e2
end

/-- The numbers ascend, and are from 1 to 40. -/
def Asc (l : List Int) : Prop := ∀ i, i < l.length → 1 ≤ l.getD i 0 ∧ l.getD i 0 ≤ 40 ∧ (0 < i → l.getD (i - 1) 0 < l.getD i 0)
instance (l : List Int) : Decidable (Asc l) := by unfold Asc; infer_instance
theorem Asc.mono {l : List Int} (h : Asc l) : ∀ j i, i < j → j < l.length → l.getD i 0 + (j - i) ≤ l.getD j 0 := by
  intro j
  induction j with
  | zero => intro i hi; omega
  | succ j ih =>
    intro i hi hj
    have h1 := (h (j + 1) hj).2.2 (by omega)
    simp only [Nat.add_sub_cancel] at h1
    rcases Nat.lt_or_ge i j with e | e
    · have := ih i e (by omega); omega
    · obtain rfl : i = j := by omega
      omega
theorem Asc.len {l : List Int} (h : Asc l) : l.length ≤ 40 := by
  rcases Nat.eq_zero_or_pos l.length with e | e
  · omega
  · rcases Nat.lt_or_ge 1 l.length with e1 | e1
    · have := h.mono (l.length - 1) 0 (by omega) (by omega)
      have h0 := h 0 e
      have h1 := h (l.length - 1) (by omega)
      omega
    · omega

theorem FrK.fr {K : Nat → Prop} {S : List Nat} {x y z : World} (h : FrK K x y) (h' : Fr S y z) (hS : ∀ k ∈ S, k < x.heap.size → ¬ K k) : FrK K x z := h.step h' hS
theorem FrK.ext {K : Nat → Prop} {x y z : World} (h : FrK K x y) (h' : Fr [] y z) : FrK K x z := h.next h'
theorem FrK.exS {K : Nat → Prop} {x y : World} (h : FrK K x y) : ∃ S : List Nat, (∀ k ∈ S, ¬ K k) ∧ Fr S x y := by
  classical
  exact ⟨(List.range x.heap.size).filter (fun k => decide (¬ K k)), fun k hk => by simpa using (List.mem_filter.1 hk).2, h.toFr (fun k hk hn => Classical.byContradiction fun e => hn (List.mem_filter.2 ⟨List.mem_range.2 hk, by simpa using e⟩))⟩

/-! A shift. -/
def dif (from_ to_ : List Int) : List Int := to_.zipWith (· - ·) from_
def togS (by_ : List Int) (i : Nat) : Nat := i + 1 + ((by_.drop (i + 1)).takeWhile (fun z => decide (z = by_.getD i 0))).length
def startsF (by_ : List Int) : Nat → Nat → List Nat
  | 0, _ => []
  | f + 1, i => if i < by_.length then i :: startsF by_ f (togS by_ i) else []
def starts (by_ : List Int) : List Nat := startsF by_ by_.length 0
def upS (l by_ : List Int) (s : PS) (i : Nat) : PS := if 0 < by_.getD i 0 then moveS s ((l.take (togS by_ i)).drop i) (by_.getD i 0) else s
def downS (l by_ : List Int) (s : PS) (i : Nat) : PS := if by_.getD i 0 < 0 then moveS s ((l.take (togS by_ i)).drop i) (by_.getD i 0) else s
def shiftS (from_ to_ : List Int) : List MOp :=
  (turnS ((starts (dif from_ to_)).foldl (downS from_ (dif from_ to_)) ((starts (dif from_ to_)).reverse.foldl (upS from_ (dif from_ to_)) ([], 0))) 0).1
end Go.Lw
