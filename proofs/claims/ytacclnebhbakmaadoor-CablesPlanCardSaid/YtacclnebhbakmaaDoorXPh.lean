/- A region that draws its order, with a condition on the world that is asked for up to one operation alone. Conditions: none. -/
import Derived.Test.YtacclnebhbakmaaDoorXLw
import Derived.OrdersHeld
set_option linter.unusedVariables false
set_option linter.unusedSimpArgs false
namespace Go.Lw
/-- The condition, where the operation pq has not come up yet. -/
def Sat (pq : Option Nat) (C : World → Prop) (listed : Array Bool) (w : World) : Prop :=
  match pq with
  | none => C w
  | some p => listed.getD p true = false → C w
theorem sat_of {pq : Option Nat} {C : World → Prop} {listed : Array Bool} {w : World} (h : C w) : Sat pq C listed w := by
  unfold Sat; split
  · exact h
  · exact fun _ => h
def wpAnyP (pq : Option Nat) (P : Program) (ops : Array Oper) (Q : Exit → Act → World → Prop) (C : World → Prop) : Nat → Array Bool → Act → World → Prop
  | 0, listed, a, w => Region.ready .any ops listed = [] ∧ Q .normal a w
  | fu + 1, listed, a, w => (Region.ready .any ops listed = [] → Q .normal a w) ∧ ∀ i ∈ Region.ready .any ops listed, wpOp P ops Q i (fun a' w' => Sat pq C (listed.setIfInBounds i true) w' ∧ wpAnyP pq P ops Q C fu (listed.setIfInBounds i true) a' w') a w
/-- Which operations wait for i, directly or through others. -/
def wsetL (i : Nat) : List Oper → List Bool → List Bool
  | [], acc => acc
  | o :: r, acc => wsetL i r (acc ++ [o.after.any (fun e => Region.binds .any e && (Nat.beq e.on i || acc.getD e.on false))])
def wsB (ops : Array Oper) (i m : Nat) : Bool := (wsetL i ops.toList []).getD m false
theorem getD_app_t {acc : List Bool} {b : Bool} {m : Nat} (h : acc.getD m false = true) : (acc ++ [b]).getD m false = true := by
  rcases Nat.lt_or_ge m acc.length with e | e
  · simp only [List.getD] at h ⊢; rwa [List.getElem?_append_left e]
  · simp [List.getD, List.getElem?_eq_none e] at h
theorem wset_mono (i : Nat) : ∀ (r : List Oper) (acc : List Bool) (m : Nat), acc.getD m false = true → (wsetL i r acc).getD m false = true
  | [], _, _, h => h
  | _ :: r, _, m, h => wset_mono i r _ m (getD_app_t h)
theorem wset_why (i : Nat) : ∀ (r : List Oper) (acc : List Bool) (m : Nat), (wsetL i r acc).getD m false = true → acc.getD m false = true ∨ ∃ t o, r[t]? = some o ∧ m = acc.length + t ∧ ∃ e ∈ o.after, Region.binds .any e = true ∧ (e.on = i ∨ (wsetL i r acc).getD e.on false = true)
  | [], _, _, h => .inl h
  | o :: r, acc, m, h => by
    rcases wset_why i r _ m h with h1 | ⟨t, o', h1, h2, e, h3, h4, h5⟩
    · rcases Nat.lt_trichotomy m acc.length with e | e | e
      · refine .inl ?_
        simp only [List.getD] at h1 ⊢
        rwa [List.getElem?_append_left e] at h1
      · subst e
        refine .inr ⟨0, o, rfl, rfl, ?_⟩
        simp only [List.getD, List.getElem?_append_right (Nat.le_refl _), Nat.sub_self, List.getElem?_cons_zero, Option.getD_some] at h1
        obtain ⟨e, he, hb⟩ := Array.any_eq_true'.1 h1
        rw [Bool.and_eq_true, Bool.or_eq_true] at hb
        refine ⟨e, he, hb.1, hb.2.imp Nat.eq_of_beq_eq_true fun h => ?_⟩
        exact wset_mono i r _ _ (getD_app_t h)
      · exfalso
        simp only [List.getD] at h1
        rw [List.getElem?_eq_none (by simp; omega)] at h1
        cases h1
    · exact .inr ⟨t + 1, o', h1, by rw [List.length_append] at h2; simp at h2; omega, e, h3, h4, h5⟩
theorem wsB_why {ops : Array Oper} {i m : Nat} (h : wsB ops i m = true) : ∃ o, ops[m]? = some o ∧ ∃ e ∈ o.after, Region.binds .any e = true ∧ (e.on = i ∨ wsB ops i e.on = true) := by
  rcases wset_why i _ _ _ h with h | ⟨t, o, h1, h2, r⟩
  · cases h
  · simp at h2; subst h2
    exact ⟨o, by rw [← Array.getElem?_toList]; exact h1, r⟩
def Fre (pq : Option Nat) (ops : Array Oper) (listed : Array Bool) (i : Nat) : Bool :=
  Region.free .any ops listed i && match pq with
  | none => true
  | some p => wsB ops i p && (List.range ops.size).all (fun m => !(wsB ops i m && listed.getD m true))
section
variable {P : Program} {ops : Array Oper} {Q : Exit → Act → World → Prop} {C : World → Prop} {pq : Option Nat}
theorem wpAny_of_P : ∀ (fu : Nat) (listed : Array Bool) (a : Act) (w : World), wpAnyP pq P ops Q C fu listed a w → wpAny P .any ops Q fu listed a w
  | 0, _, _, _, h => h
  | fu + 1, _, _, _, h => ⟨h.1, fun i hi => wpOp_mono (fun a' w' k => wpAny_of_P fu _ a' w' k.2) (h.2 i hi)⟩
theorem P_first {i : Nat} {oi : Oper} {v : Value} (hi : ops[i]? = some oi) (hsel : ∀ (j : Nat) (o : Oper) cs b, ops[j]? = some o → o.op ≠ .select cs b) (hQ : ∀ c a w, Q (.panic c) (a.put oi.dst v) w → Q (.panic c) a w) (hwt : ∀ p, pq = some p → wsB ops i p = true) :
    ∀ (fu : Nat) (listed : Array Bool) (a : Act) (w : World), (∀ j oj, ops[j]? = some oj → j ≠ i → listed.getD j true = false → (∀ e ∈ oj.after, Region.binds .any e = true → e.on ≠ i) → oi.apart ops oj = true) →
      i ∈ Region.ready .any ops listed → (∀ p, pq = some p → ∀ m, wsB ops i m = true → listed.getD m true = false) → YieldsIf P ops C oi v a → C w → wpAnyP pq P ops Q C fu (listed.setIfInBounds i true) (a.put oi.dst v) w → wpAnyP pq P ops Q C (fu + 1) listed a w := by
  intro fu
  induction fu with
  | zero =>
    intro listed a w _ hr _ hy hC H
    refine ⟨fun e => (by rw [e] at hr; cases hr), fun j hj => ?_⟩
    rcases Decidable.em (j = i) with rfl | hne
    · exact hy.wpOp hi hC ⟨sat_of hC, H⟩
    · exact absurd (ready_mono hj hne) (by rw [H.1]; simp)
  | succ fu ih =>
    intro listed a w hfr hr hp hy hC H
    refine ⟨fun e => (by rw [e] at hr; cases hr), fun j hj => ?_⟩
    rcases Decidable.em (j = i) with rfl | hne
    · exact hy.wpOp hi hC ⟨sat_of hC, H⟩
    obtain ⟨hju, oj, hoj, hall⟩ := mem_ready.1 hj
    have flip : ∀ m, listed.getD m true = false → ¬ listed.getD m false = true := fun m hun => by
      rcases Nat.lt_or_ge m listed.size with h | h
      · simp [h] at hun ⊢; exact hun
      · simp [Array.getElem?_eq_none h]
    have hun' := flip i (mem_ready.1 hr).1
    have hno : ∀ e ∈ oj.after, Region.binds .any e = true → e.on ≠ i := fun e he hb heq => hun' (heq ▸ hall e he hb)
    have nw : ∀ p, pq = some p → ∀ m om, ops[m]? = some om → (∀ e ∈ om.after, Region.binds .any e = true → listed.getD e.on false = true) → ¬ wsB ops i m = true := fun p e m om hm hal hw => by
      obtain ⟨o, ho, e', he, hb, h⟩ := wsB_why hw
      rw [hm] at ho; cases ho
      rcases h with h | h
      · exact hun' (h ▸ hal e' he hb)
      · exact flip _ (hp p e _ h) (hal e' he hb)
    have hjw : ∀ p, pq = some p → ¬ wsB ops i j = true := fun p e => nw p e j oj hoj hall
    have hiw : ∀ p, pq = some p → ¬ wsB ops i i = true := fun p e => by
      obtain ⟨_, o, ho, hal⟩ := mem_ready.1 hr
      exact nw p e i o ho hal
    have h2 := wpOp_putIf hoj (hfr j oj hoj hne hju hno) (fun cs b => hsel i oi cs b hi) (fun cs b => hsel j oj cs b hoj) hQ hy (H.2 j (ready_mono hj hne))
    refine wpOp_mono (fun a' w' k => ?_) h2
    have hc' : C w' := by
      have hs := k.2.1
      unfold Sat at hs
      split at hs
      · exact hs
      · rename_i p
        have hpw := hwt p rfl
        refine hs ?_
        have n1 : j ≠ p := fun e => hjw p rfl (by rw [e]; exact hpw)
        have n2 : i ≠ p := fun e => hiw p rfl (by rw (occs := .pos [2]) [e]; exact hpw)
        rw [getD_set_ne true n1, getD_set_ne true n2]
        exact hp p rfl p hpw
    refine ⟨sat_of hc', ih (listed.setIfInBounds j true) a' w' (fun m om hm hmi hmu hmn => hfr m om hm hmi ?_ hmn) (ready_mono hr (Ne.symm hne)) (fun p e m hm => by
      have n1 : j ≠ m := fun e' => hjw p e (by rw [e']; exact hm)
      rw [getD_set_ne true n1]; exact hp p e m hm) k.1 hc' ?_⟩
    · rcases Decidable.em (j = m) with rfl | hjm
      · exact hju
      · rwa [getD_set_ne true hjm] at hmu
    · rw [Array.setIfInBounds_comm _ _ hne]; exact k.2.2
theorem P_take {i : Nat} {oi : Oper} {v : Value} {fu : Nat} {listed : Array Bool} {a : Act} {w : World} (hi : ops[i]? = some oi) (hs : Region.noSelect ops = true) (hf : Fre pq ops listed i = true) (hr : (Region.ready .any ops listed).contains i = true)
    (hQ : ∀ c a w, Q (.panic c) (a.put oi.dst v) w → Q (.panic c) a w) (hy : YieldsIf P ops C oi v a) (hC : C w) (h : wpAnyP pq P ops Q C fu (listed.setIfInBounds i true) (a.put oi.dst v) w) : wpAnyP pq P ops Q C (fu + 1) listed a w := by
  unfold Fre at hf
  rw [Bool.and_eq_true] at hf
  refine P_first hi (Region.noSelect_spec hs) hQ (fun p e => ?_) fu listed a w (Region.free_spec hi hf.1) (by simpa using hr) (fun p e m hm => ?_) hy hC h
  · have := hf.2; subst e; simp only [Bool.and_eq_true] at this; exact this.1
  · have := hf.2; subst e; simp only [Bool.and_eq_true, List.all_eq_true, List.mem_range] at this
    obtain ⟨o, ho, _⟩ := wsB_why hm
    have h2 := this.2 m (Array.getElem?_eq_some_iff.1 ho).1
    rw [hm] at h2; simpa using h2
theorem P_all {rs : List Nat} {fu : Nat} {listed : Array Bool} {a : Act} {w : World} (hr : Region.ready .any ops listed = rs) (hne : rs ≠ [])
    (h : ∀ i ∈ rs, wpOp P ops Q i (fun a' w' => Sat pq C (listed.setIfInBounds i true) w' ∧ wpAnyP pq P ops Q C fu (listed.setIfInBounds i true) a' w') a w) : wpAnyP pq P ops Q C (fu + 1) listed a w :=
  ⟨fun e => absurd (hr.symm.trans e) hne, fun i hi => h i (hr ▸ hi)⟩
theorem P_done {listed : Array Bool} {a : Act} {w : World} (hr : Region.ready .any ops listed = []) (h : Q .normal a w) : ∀ fu, wpAnyP pq P ops Q C fu listed a w
  | 0 => ⟨hr, h⟩
  | _ + 1 => ⟨fun _ => h, by rw [hr]; intro i hi; cases hi⟩
end
end Go.Lw
