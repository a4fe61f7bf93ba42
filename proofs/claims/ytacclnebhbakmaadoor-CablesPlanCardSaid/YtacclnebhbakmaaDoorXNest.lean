/- Slices of slices that the call owns: what lies in them, and what a step keeps of it. Conditions: none; each law is over any program. -/
import Derived.Test.YtacclnebhbakmaaDoorXOps2
set_option linter.unusedVariables false
set_option linter.unusedSimpArgs false
namespace Go.Lw
open Go.RowKit

abbrev SV := Option Addr × Nat × Nat
def slv (p : SV) : Value := .slice p.1 p.2.1 p.2.2

/-- Rows of the call's own, no two in one block, none in a block of X. -/
structure Ins {α : Type} (E : Enc α) (T : TypeId) (base : Nat) (w : World) (X : List Nat) (ps : List (SV × List α)) : Prop where
  own : ∀ p ∈ ps, Own E T base w (slv p.1) p.2
  off : ∀ p ∈ ps, ∀ k ∈ blks (slv p.1), k ∉ X
  dis : ps.Pairwise fun p q => ∀ k ∈ blks (slv p.1), k ∉ blks (slv q.1)

section
variable {α : Type} {E : Enc α} {T : TypeId} {base : Nat} {w w' : World} {X Y S : List Nat} {ps qs : List (SV × List α)} {u u' : SV} {r r' : List α}

theorem Ins.fr (h : Ins E T base w X ps) (hf : Fr S w w') (hn : ∀ k ∈ S, ∀ p ∈ ps, k ∉ blks (slv p.1)) : Ins E T base w' X ps :=
  ⟨fun p hp => (h.own p hp).fr hf fun k hk => hn k hk p hp, h.off, h.dis⟩
theorem Ins.ext (h : Ins E T base w X ps) (hf : Fr [] w w') : Ins E T base w' X ps := h.fr hf (by simp)
theorem Ins.left (h : Ins E T base w X (ps ++ qs)) : Ins E T base w X ps :=
  ⟨fun p hp => h.own p (List.mem_append_left _ hp), fun p hp => h.off p (List.mem_append_left _ hp), (List.pairwise_append.1 h.dis).1⟩
theorem Ins.right (h : Ins E T base w X (ps ++ qs)) : Ins E T base w X qs :=
  ⟨fun p hp => h.own p (List.mem_append_right _ hp), fun p hp => h.off p (List.mem_append_right _ hp), (List.pairwise_append.1 h.dis).2.1⟩
theorem Ins.blk (h : Ins E T base w X ps) : ∀ p ∈ ps, ∀ k ∈ blks (slv p.1), base ≤ k ∧ k < w.heap.size := fun p hp => (h.own p hp).blk
/-- Another set of blocks to keep off: old ones, or new ones. -/
theorem Ins.newX (h : Ins E T base w X ps) (hY : ∀ k ∈ Y, k ∈ X ∨ w.heap.size ≤ k) : Ins E T base w Y ps :=
  ⟨h.own, fun p hp k hk hy => (hY k hy).elim (h.off p hp k hk) fun e => by have := (h.blk p hp k hk).2; omega, h.dis⟩
theorem Ins.nil : Ins E T base w X ([] : List (SV × List α)) := ⟨fun _ h => by simp at h, fun _ h => by simp at h, List.Pairwise.nil⟩
theorem Ins.snoc (h : Ins E T base w X ps) (ho : Own E T base w (slv u) r) (hX : ∀ k ∈ blks (slv u), k ∉ X) (hd : ∀ p ∈ ps, ∀ k ∈ blks (slv p.1), k ∉ blks (slv u)) : Ins E T base w X (ps ++ [(u, r)]) := by
  refine ⟨fun p hp => ?_, fun p hp => ?_, List.pairwise_append.2 ⟨h.dis, by simp, fun p hp q hq => ?_⟩⟩
  · rcases List.mem_append.1 hp with hp | hp
    · exact h.own p hp
    · simp at hp; subst hp; exact ho
  · rcases List.mem_append.1 hp with hp | hp
    · exact h.off p hp
    · simp at hp; subst hp; exact hX
  · simp at hq; subst hq; exact hd p hp
/-- A row that lies in no old block. -/
theorem Ins.push (h : Ins E T base w X ps) (ho : Own E T base w (slv u) r) (hX : ∀ k ∈ blks (slv u), k ∉ X) (hd : ∀ k ∈ blks (slv u), ∀ p ∈ ps, k ∉ blks (slv p.1)) : Ins E T base w X (ps ++ [(u, r)]) :=
  h.snoc ho hX fun p hp k hk hk' => hd k hk' p hp hk
theorem Ins.pushNil (h : Ins E T base w X ps) : Ins E T base w X (ps ++ [((none, 0, 0), [])]) := h.snoc (Own.nil w) (by simp [slv, blks]) (by simp [slv, blks])
theorem Ins.last (h : Ins E T base w X (ps ++ [(u, r)])) : Own E T base w (slv u) r := h.own (u, r) (List.mem_append_right _ (List.mem_singleton.2 rfl))
theorem Ins.lastOff (h : Ins E T base w X (ps ++ [(u, r)])) : ∀ k ∈ blks (slv u), k ∉ X := h.off (u, r) (List.mem_append_right _ (List.mem_singleton.2 rfl))
theorem Ins.lastDis (h : Ins E T base w X (ps ++ [(u, r)])) : ∀ p ∈ ps, ∀ k ∈ blks (slv p.1), k ∉ blks (slv u) := fun p hp => (List.pairwise_append.1 h.dis).2.2 p hp (u, r) (List.mem_singleton.2 rfl)
/-- The last row is written anew: in its own block, or in a new one. -/
theorem Ins.upd (h : Ins E T base w X (ps ++ [(u, r)])) (hf : Fr (blks (slv u)) w w') (ho : Own E T base w' (slv u') r') (hb : ∀ k ∈ blks (slv u'), k ∈ blks (slv u) ∨ w.heap.size ≤ k) (hX : ∀ k ∈ X, k < w.heap.size) : Ins E T base w' X (ps ++ [(u', r')]) := by
  refine (h.left.fr hf fun k hk p hp hk' => h.lastDis p hp k hk' hk).snoc ho (fun k hk hx => ?_) fun p hp k hk hk' => ?_
  · rcases hb k hk with e | e
    · exact h.lastOff k e hx
    · have := hX k hx; omega
  · rcases hb k hk' with e | e
    · exact h.lastDis p hp k hk e
    · have := (h.left.blk p hp k hk).2; omega
/-- The last two, exchanged. -/
theorem Ins.swap {v : SV} {s : List α} (h : Ins E T base w X (ps ++ [(u, r)] ++ [(v, s)])) : Ins E T base w X (ps ++ [(v, s)] ++ [(u, r)]) := by
  have hd : ∀ k ∈ blks (slv u), k ∉ blks (slv v) := h.lastDis (u, r) (by simp)
  refine (h.left.left.snoc h.last h.lastOff fun p hp => h.lastDis p (by simp [hp])).snoc h.left.last h.left.lastOff fun p hp k hk hk' => ?_
  rcases List.mem_append.1 hp with hp | hp
  · exact h.left.lastDis p hp k hk hk'
  · simp at hp; subst hp; exact hd k hk' hk
/-- The beginning of the last row. -/
theorem Ins.cut (h : Ins E T base w X (ps ++ [(u, r)])) {A : Option Addr} {n c c' m : Nat} (hu : u = (A, n, c)) (hm : m ≤ r.length) (hc : c' ≤ c) (hmc : m ≤ c') : Ins E T base w X (ps ++ [((A, m, c'), r.take m)]) := by
  subst hu
  have hb : blks (slv (A, m, c')) = blks (slv (A, n, c)) := by cases A <;> rfl
  refine h.left.snoc (h.last.take rfl hm hc hmc) ?_ ?_
  · rw [hb]; exact h.lastOff
  · rw [hb]; exact h.lastDis

theorem flat_set (ys : List α) (z : α) (R : List Value) : ∀ (i : Nat), i < ys.length → (ys.flatMap E.enc ++ R).take (i * E.sz) ++ E.enc z ++ (ys.flatMap E.enc ++ R).drop (i * E.sz + E.sz) = (ys.set i z).flatMap E.enc ++ R := by
  intro i hi
  obtain ⟨p, y, s, rfl, rfl⟩ : ∃ p y s, ys = p ++ y :: s ∧ p.length = i := ⟨ys.take i, ys[i], ys.drop (i + 1), by simp, by simp; omega⟩
  have h1 : p.length * E.sz = (p.flatMap E.enc).length := (E.flat_len p).symm
  rw [List.set_append_right _ _ (Nat.le_refl _), Nat.sub_self, List.set_cons_zero]
  simp only [List.flatMap_append, List.flatMap_cons, List.append_assoc]
  rw [h1, List.take_left, List.drop_append, List.drop_of_length_le (by omega), List.nil_append, show (p.flatMap E.enc).length + E.sz - (p.flatMap E.enc).length = (E.enc y).length by rw [E.len]; omega, List.drop_left]
end
section
variable {P : Program} {ops : Array Oper} {Q : Exit → Act → World → Prop} {rest : List Oper} {a : Act} {w : World} {n : Nat} {L : List (Nat × Value)} {ds : List Nat} {ty : TypeId} {pos : String} {after : Array Edge} {x y : Operand} {t T : TypeId} {v : Value}
/-- An element of a slice of the call's own is written. -/
theorem st_storeO {α : Type} {E : Enc α} {base g m c i : Nat} {ys : List α} (z : α) (h : AgM ds a n L) (hx : ev L x = some (.pointer (some ((⟨g, 0, none⟩ : Addr).add (i * E.sz))))) (hy : ev L y = some v) (ho : Own E T base w (.slice (some ⟨g, 0, none⟩) m c) ys) (hi : i < ys.length)
    (hc : v.cells = (E.enc z).toArray) (hs : SizeOf P t E.sz)
    (q : ∀ w', Own E T base w' (.slice (some ⟨g, 0, none⟩) m c) (ys.set i z) → Fr [g] w w' → w'.heap.size = w.heap.size → ∀ a, AgM ds a n L → wpList P ops Q rest a w') : wpList P ops Q (⟨none, .store t x y, ty, pos, after, none⟩ :: rest) a w := by
  rcases ho with ⟨e, _⟩ | ⟨g', cap, cur, e, hb, hg, h1, h2, h3, h4⟩
  · cases e
  cases e
  have hil : i * E.sz + E.sz ≤ ys.length * E.sz := by rw [← Nat.succ_mul]; exact Nat.mul_le_mul_right _ hi
  have hcs : ys.length * E.sz ≤ cur.size := Nat.le_trans (Nat.mul_le_mul_right _ h1) h3
  have hst := run_storeCells_at P g (i * E.sz) T (E.enc z) 0 cur w hg (by rw [E.len]; omega) (E.one z)
  rw [Nat.add_zero, E.len] at hst
  have hcur : cur.toList = ys.flatMap E.enc ++ cur.toList.drop (ys.length * E.sz) := by rw [← h4, List.take_append_drop]
  have hnew : cur.toList.take (i * E.sz) ++ E.enc z ++ cur.toList.drop (i * E.sz + E.sz) = (ys.set i z).flatMap E.enc ++ cur.toList.drop (ys.length * E.sz) := by
    conv => lhs; rw [hcur]
    exact flat_set ys z _ i hi
  rw [hnew] at hst
  refine st_skip h rfl rfl (w' := w.setRow g ((ys.set i z).flatMap E.enc ++ cur.toList.drop (ys.length * E.sz)).toArray) ?_ (q _ ?_ (Fr.setRow w g _) (by simp))
  · rw [lit_add, Nat.zero_add] at hx
    simp only [execOp, h.eval hx, h.eval hy, Sem.run_bind, Sem.run_pure, Result.andThen_ok, Instr.storeAt, Instr.sureAddr, storeVar, hs w, hc]
    simp [hst, E.len]
  · refine .inr ⟨g, c, _, by rw [List.length_set], hb, setRow_heap w g cur _ T _ hg, by rw [List.length_set]; exact h1, h2, ?_, ?_⟩
    · simp only [List.size_toArray, List.length_append, E.flat_len, List.length_set, List.length_drop, Array.length_toList]; omega
    · rw [List.length_set, show ys.length * E.sz = ((ys.set i z).flatMap E.enc).length by rw [E.flat_len, List.length_set]]
      exact List.take_left
theorem s_storeO {α : Type} {E : Enc α} {base g m c i : Nat} {ys : List α} (z : α) (hx : ev L x = some (.pointer (some ((⟨g, 0, none⟩ : Addr).add (i * E.sz))))) (hy : ev L y = some v) (ho : Own E T base w (.slice (some ⟨g, 0, none⟩) m c) ys) (hi : i < ys.length) (hc : v.cells = (E.enc z).toArray) (hs : SizeOf P t E.sz) (q : ∀ w', Own E T base w' (.slice (some ⟨g, 0, none⟩) m c) (ys.set i z) → Fr [g] w w' → w'.heap.size = w.heap.size → WL P ops Q rest n ds w' L) : WL P ops Q (⟨none, .store t x y, ty, pos, after, none⟩ :: rest) n ds w L := fun a h => st_storeO z h hx hy ho hi hc hs q -- short
end
section
variable {P : Program} {ops : Array Oper} {o o' : Oper} {K : Act → World → Prop} {C : World → Prop} {fu : Nat} {listed : Array Bool} {pq : Option Nat} {a : Act} {w : World}
theorem hd_come (ix : Nat) (hix : ops[ix]? = some o) (k : wpList P ops (NormEnd fun a' w' => Sat pq C (listed.setIfInBounds ix true) w' ∧ wpAnyP pq P ops (NormEnd K) C fu (listed.setIfInBounds ix true) a' w') [o] a w) :
    wpOp P ops (NormEnd K) ix (fun a w => Sat pq C (listed.setIfInBounds ix true) w ∧ wpAnyP pq P ops (NormEnd K) C fu (listed.setIfInBounds ix true) a w) a w := by
  unfold wpOp
  rw [hix]
  unfold wpList at k
  simp only
  split
  · rename_i hw
    rw [if_pos hw] at k
    rcases k with k | ⟨_, _, _, k⟩
    · refine .inl (Oper.wp_mono (fun a w h => h) ?_)
      unfold Oper.wp at k ⊢
      generalize (execOp a.eval o).run P w = r at k ⊢
      cases r with
      | ok nx w' =>
        cases nx <;> simp only [Oper.upon] at k ⊢ <;> first
          | exact k
          | exact Calls.mono k (fun e w'' he => by cases e <;> first | exact he | exact he.elim | (obtain ⟨_, _, he⟩ := he; exact he.elim))
          | exact Rows.mono k (fun _ _ he => he)
      | halt x w' => cases x <;> simp only [Oper.upon] at k ⊢ <;> exact k.elim
    · exact k.elim
  · rename_i hw
    rw [if_neg hw] at k
    exact k
/-- Two operations may come up. -/
theorem hd_two (i j : Nat) (hr : Region.ready .any ops listed = [i, j]) (hi : ops[i]? = some o) (hj : ops[j]? = some o')
    (k : wpList P ops (NormEnd fun a' w' => Sat pq C (listed.setIfInBounds i true) w' ∧ wpAnyP pq P ops (NormEnd K) C fu (listed.setIfInBounds i true) a' w') [o] a w)
    (k' : wpList P ops (NormEnd fun a' w' => Sat pq C (listed.setIfInBounds j true) w' ∧ wpAnyP pq P ops (NormEnd K) C fu (listed.setIfInBounds j true) a' w') [o'] a w) : wpAnyP pq P ops (NormEnd K) C (fu + 1) listed a w := by
  refine P_all hr (by simp) fun x hx => ?_
  simp at hx
  rcases hx with rfl | rfl
  · exact hd_come _ hi k
  · exact hd_come _ hj k'
theorem hd_three {o'' : Oper} (i j m : Nat) (hr : Region.ready .any ops listed = [i, j, m]) (hi : ops[i]? = some o) (hj : ops[j]? = some o') (hm : ops[m]? = some o'')
    (k : wpList P ops (NormEnd fun a' w' => Sat pq C (listed.setIfInBounds i true) w' ∧ wpAnyP pq P ops (NormEnd K) C fu (listed.setIfInBounds i true) a' w') [o] a w)
    (k' : wpList P ops (NormEnd fun a' w' => Sat pq C (listed.setIfInBounds j true) w' ∧ wpAnyP pq P ops (NormEnd K) C fu (listed.setIfInBounds j true) a' w') [o'] a w)
    (k'' : wpList P ops (NormEnd fun a' w' => Sat pq C (listed.setIfInBounds m true) w' ∧ wpAnyP pq P ops (NormEnd K) C fu (listed.setIfInBounds m true) a' w') [o''] a w) : wpAnyP pq P ops (NormEnd K) C (fu + 1) listed a w := by
  refine P_all hr (by simp) fun x hx => ?_
  simp at hx
  rcases hx with rfl | rfl | rfl
  · exact hd_come _ hi k
  · exact hd_come _ hj k'
  · exact hd_come _ hm k''
end
end Go.Lw
