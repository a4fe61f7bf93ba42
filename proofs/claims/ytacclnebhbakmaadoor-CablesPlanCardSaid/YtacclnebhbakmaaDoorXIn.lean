/- Code in a function that ranges over a function, and in the rounds of such a loop: the rules on code once more, at an open fence. Conditions: none; each rule is over any program. -/
import Derived.Test.YtacclnebhbakmaaDoorXOps2
import Derived.RangeFuncNested
import Derived.RangeFuncBound
import Derived.RangeFuncCalls
import Derived.RangeFuncLeaves
import Derived.OrdersIn
set_option linter.unusedVariables false
set_option linter.unusedSimpArgs false
namespace Go.Lw
open Go.RowKit

/-- The open fence, in a round or not. -/
abbrev Fo (r : Option Nat) : Fence := { Fence.wide with round := r }

section
variable {P : Program} {a : Act} {n N : Nat} {L : List (Nat × Value)} {ds : List Nat} {w w' : World} {Q : Exit → Act → World → Prop} {ops : Array Oper} {rest : List Oper} {o : Oper} {r : Option Nat}

theorem calls_fo {f : FuncId} {args : Array Value} {R : Ending → World → Prop} (h : Calls P f args w R) : CallsIn (Fo r) N P f args w R := (callsIn_wide (n := N)).2 h
theorem calls_of_fo {f : FuncId} {args : Array Value} {R : Ending → World → Prop} (h : CallsIn (Fo r) N P f args w R) : Calls P f args w R := (callsIn_wide (n := N)).1 h
theorem rows_fo {row : String} {args : Array Value} {R : Value → World → Prop} (h : Rows P row args w R) : RowsIn (Fo r) N P row args w R := fun c cs _ => by
  obtain ⟨v, w', hr, hs⟩ := h c cs
  exact ⟨v, w', hr, (stepsIn_wide (P := P)).2 hs⟩
def Oper.noDefer (o : Oper) : Bool := match o.op with | .defer _ => false | _ => true
theorem sem_fo (h : Oper.noDefer o = true) (ρ : Operand → Value) : Oper.semAt (Fo r).round ρ o = execOp ρ o := by
  cases r with
  | none => rfl
  | some l => exact Oper.semAt_some l ρ o (fun c e => by simp [Oper.noDefer, e] at h)
theorem oper_in {K : Act → World → Prop} {E : Act → World → Prop} (hd : Oper.noDefer o = true) (h : o.wp P a w K (NormEnd E)) : o.wpIn (Fo r) N P a w K Q := by
  refine ⟨fun _ _ => trivial, ?_⟩
  rw [sem_fo hd]
  unfold Oper.wp at h
  generalize (execOp a.eval o).run P w = x at h ⊢
  cases x with
  | ok nx w' =>
    cases nx <;> simp only [Oper.upon, Oper.uponIn] at h ⊢ <;> first
      | exact h
      | exact ⟨fun e => by simp [Fo, Fence.wide] at e, calls_fo (Calls.mono h fun e w'' he => by cases e <;> first | exact he | exact he.elim | (obtain ⟨_, _, he⟩ := he; exact he.elim))⟩
      | exact ⟨fun e => by simp [Fo, Fence.wide] at e, rows_fo h⟩
  | halt x w' => cases x <;> simp only [Oper.upon, Oper.uponIn] at h ⊢ <;> exact h.elim
theorem no_out {E : Act → World → Prop} : ¬ LetsOut (NormEnd E) := by rintro ⟨_, _, h⟩; exact h
theorem list_in {E : Act → World → Prop} (l2 : List Oper) (hE : ∀ a w, E a w → wpListIn (Fo r) N P ops Q l2 a w) : ∀ (l : List Oper) (a : Act) (w : World), l.all Oper.noDefer = true → wpList P ops (NormEnd E) l a w → wpListIn (Fo r) N P ops Q (l ++ l2) a w
  | [], a, w, _, h => hE a w h
  | o :: l, a, w, hd, h => by
    simp only [List.all_cons, Bool.and_eq_true] at hd
    unfold wpList at h
    rw [List.cons_append]; unfold wpListIn
    split
    · rename_i hw
      rw [if_pos hw] at h
      rcases h with h | ⟨_, h⟩
      · exact Oper.wpIn_mono (fun a w h => list_in l2 hE l a w hd.2 h) (oper_in hd.1 h)
      · exact absurd h no_out
    · rename_i hw
      rw [if_neg hw] at h
      exact ⟨fun _ _ => trivial, list_in l2 hE l _ w hd.2 h⟩
theorem any_in {E : Act → World → Prop} {md : Region.Mode} (hd : ops.toList.all Oper.noDefer = true) (hE : ∀ a w, E a w → Q .normal a w) : ∀ (fu : Nat) (listed : Array Bool) (a : Act) (w : World), wpAny P md ops (NormEnd E) fu listed a w → wpAnyIn (Fo r) N P md ops Q fu listed a w
  | 0, listed, a, w, h => ⟨h.1, hE _ _ h.2⟩
  | fu + 1, listed, a, w, h => by
    refine ⟨fun e => hE _ _ (h.1 e), fun i hi => ?_⟩
    have h1 := h.2 i hi
    unfold wpOp at h1; unfold wpOpIn
    split
    · rename_i e; rw [e] at h1; exact any_in hd hE fu _ a w h1
    · rename_i o e; rw [e] at h1
      have ho : Oper.noDefer o = true := by
        rw [List.all_eq_true] at hd
        exact hd o (by rw [Array.mem_toList_iff]; exact Array.mem_of_getElem? e)
      simp only at h1
      split
      · rename_i hw
        rw [if_pos hw] at h1
        rcases h1 with h1 | ⟨_, h1⟩
        · exact Oper.wpIn_mono (fun a w h => any_in hd hE fu _ a w h) (oper_in ho h1)
        · exact absurd h1 no_out
      · rename_i hw
        rw [if_neg hw] at h1
        exact ⟨fun _ _ => trivial, any_in hd hE fu _ _ w h1⟩

/-- A region. -/
theorem ireg {id : Nat} {l : List Oper} (hd : l.all Oper.noDefer = true) (h : wpList P l.toArray (NormEnd (Q .normal)) l a w) : (Code.region id l.toArray false).wpIn (Fo r) N P Q a w := by
  refine wpIn_region_lit ?_
  have := list_in (r := r) (N := N) (Q := Q) [] (fun a w h => wpListIn_nil h) l a w hd h
  rwa [List.append_nil] at this
theorem nm_end (h : Q .normal a w) : wpList P ops (NormEnd (Q .normal)) [] a w := h
theorem ireg_quiet {id : Nat} {l : List Oper} (hd : l.all Oper.noDefer = true) (hm : P.follows .mixedOrders = true) (hB : Region.lexB .any l.toArray = true)
    (h : wpQuiet P l.toArray (fun w' => Fr [] w w') (fun a' => ∀ w', Fr [] w w' → Q .normal a' w') l a) : (Code.region id l.toArray true).wpIn (Fo r) N P Q a w := by
  simp only [Region.lexB, Bool.and_eq_true] at hB
  refine wpIn_region_any hm (any_in (E := fun a' w' => Q .normal a' w') (by simpa using hd) (fun _ _ h => h) _ _ _ _ ?_)
  refine wpAny_of_quiet (P := P) (C := fun w' => Fr [] w w') (Q := fun a' => ∀ w', Fr [] w w' → Q .normal a' w') (Q' := NormEnd (Q .normal)) (fun _ w' hw' h => h w' hw') _ _ _ _ (Fr.drew [] w) ?_
  have := wpAnyQ_lex (C := fun w' => Fr [] w w') (md := .any) hB.1 l 0 (Array.replicate l.length false) a (by simp) (by simpa using hB.2) h
  simpa using this
theorem ireg_heldP (pq : Option Nat) {id : Nat} {l : List Oper} (C : World → World → Prop) (hd : l.all Oper.noDefer = true) (hm : P.follows .mixedOrders = true)
    (h : ∀ w', Fr [] w w' → wpAnyP pq P l.toArray (NormEnd (Q .normal)) (C w') l.length (Array.replicate l.length false) a w') : (Code.region id l.toArray true).wpIn (Fo r) N P Q a w := by
  refine wpIn_region_any hm (any_in (E := fun a' w' => Q .normal a' w') (by simpa using hd) (fun _ _ h => h) _ _ _ _ ?_)
  refine wpAny_of_P (pq := pq) (C := C w.drew) _ _ _ _ ?_
  simpa using h _ (Fr.drew [] w)
theorem ireg_held {id : Nat} {l : List Oper} (C : World → World → Prop) (hd : l.all Oper.noDefer = true) (hm : P.follows .mixedOrders = true)
    (h : ∀ w', Fr [] w w' → wpAnyP none P l.toArray (NormEnd (Q .normal)) (C w') l.length (Array.replicate l.length false) a w') : (Code.region id l.toArray true).wpIn (Fo r) N P Q a w := ireg_heldP none C hd hm h
theorem ireg_bool {id : Nat} {ol : List Oper} {rr : Nat} {L' : List (Nat × Value)} (C : Prop) [Decidable C] (hd : ol.all Oper.noDefer = true) (h : AgM ds a n L) (hs : Sub L' L) (h1 : wpList P ol.toArray (BoolEnd ds n rr C L' w) ol a w) (h2 : ∀ a, AgM ds a n ((rr, .bool (decide C)) :: L') → Q .normal a w) :
    (Code.region id ol.toArray false).wpIn (Fo r) N P Q a w := by
  refine ireg hd ?_
  have mono : ∀ (l : List Oper) (a : Act) (w' : World), wpList P ol.toArray (BoolEnd ds n rr C L' w) l a w' → wpList P ol.toArray (NormEnd (Q .normal)) l a w' := by
    intro l
    induction l with
    | nil => rintro a w' ⟨_, rfl, h⟩; exact h2 a h
    | cons o l ih =>
      intro a w' h
      unfold wpList at h ⊢
      split
      · rename_i hw
        rw [if_pos hw] at h
        rcases h with h | ⟨_, _, _, h, _⟩
        · refine .inl ?_
          unfold Oper.wp at h ⊢
          generalize (execOp a.eval o).run P w' = x at h ⊢
          cases x with
          | ok nx w1 =>
            cases nx <;> simp only [Oper.upon] at h ⊢ <;> first
              | exact ih _ _ h
              | exact Calls.mono h (fun e w'' he => by cases e <;> first | exact ih _ _ he | (obtain ⟨_, _, h, _⟩ := he; cases h; done) | (obtain ⟨h, _⟩ := he; cases h; done))
              | exact Rows.mono h (fun _ _ he => ih _ _ he)
              | exact h
          | halt x w1 => cases x <;> simp only [Oper.upon] at h ⊢ <;> first | exact h | (obtain ⟨h, _⟩ := h; cases h)
        · cases h
      · rename_i hw
        rw [if_neg hw] at h
        exact ih _ _ h
  exact mono _ _ _ h1

/-! Code. -/
theorem icond_true {c : Operand} {x y : Code} (h : AgM ds a n L) (hc : ev L c = some (.bool true)) (k : x.wpIn (Fo r) N P Q a w) : (Code.cond c x y).wpIn (Fo r) N P Q a w := wpIn_cond_true (h.eval hc) k
theorem icond_false {c : Operand} {x y : Code} (h : AgM ds a n L) (hc : ev L c = some (.bool false)) (k : y.wpIn (Fo r) N P Q a w) : (Code.cond c x y).wpIn (Fo r) N P Q a w := wpIn_cond_false (h.eval hc) k
theorem icond_split {c : Operand} {x y : Code} {b : Bool} (h : AgM ds a n L) (hc : ev L c = some (.bool b)) (ht : b = true → x.wpIn (Fo r) N P Q a w) (hf : b = false → y.wpIn (Fo r) N P Q a w) : (Code.cond c x y).wpIn (Fo r) N P Q a w :=
  wpIn_cond_split (h.eval hc) ht hf
theorem icond_dec {C : Operand} {x y : Code} {p : Prop} {hp : Decidable p} (h : AgM ds a n L) (hc : ev L C = some (.bool (decide p))) (ht : p → x.wpIn (Fo r) N P Q a w) (hf : ¬ p → y.wpIn (Fo r) N P Q a w) : (Code.cond C x y).wpIn (Fo r) N P Q a w :=
  icond_split h hc (fun e => ht (of_decide_eq_true e)) (fun e => hf (of_decide_eq_false e))
theorem icond_ndec {C : Operand} {x y : Code} {p : Prop} {hp : Decidable p} (h : AgM ds a n L) (hc : ev L C = some (.bool (!decide p))) (ht : ¬ p → x.wpIn (Fo r) N P Q a w) (hf : p → y.wpIn (Fo r) N P Q a w) : (Code.cond C x y).wpIn (Fo r) N P Q a w :=
  icond_split h hc (fun e => ht (by simpa using e)) (fun e => hf (by simpa using e))
theorem iseq_cut {x y : Code} (K : Act → World → Prop) (h1 : x.wpIn (Fo r) N P (Exit.then K Q) a w) (h2 : ∀ a w, K a w → y.wpIn (Fo r) N P Q a w) : (Code.seq x y).wpIn (Fo r) N P Q a w :=
  wpIn_seq (wpIn_mono h1 fun e a w h => by cases e <;> first | exact h2 _ _ h | exact h)
theorem iloop {c : Code} {ι : Type} (L : ι → List (Nat × Value)) (I : ι → World → Prop) (μ : ι → Nat) (i : ι) (h : AgM ds a n (L i)) (hI : I i w)
    (round : ∀ i w a, AgM ds a n (L i) → I i w → c.wpIn (Fo r) N P (Exit.then (fun a' w' => ∃ j, AgM ds a' n (L j) ∧ I j w' ∧ μ j < μ i) Q) a w) : (Code.loop c).wpIn (Fo r) N P Q a w := by
  intro b k cs hro hb hr
  have key : ∀ m i w a, μ i = m → AgM ds a n (L i) → I i w →
      ∃ e a' w', Q e a' w' ∧ ArrivesIn (Machine.fenced P (Fo r)) P (lone (b.atR a (.code c :: .inLoop c :: k)) cs w) b k cs e a' w' := by
    intro m
    induction m using Nat.strongRecOn with
    | _ m ih =>
      intro i w a hm hA hI
      obtain ⟨e, a₁, w₁, hq, harr⟩ := round i w a hA hI b (.inLoop c :: k) cs hro hb hr
      cases e with
      | normal =>
        obtain ⟨j, hA₁, hI₁, hlt⟩ := hq
        obtain ⟨e₂, a₂, w₂, hq₂, harr₂⟩ := ih (μ j) (hm ▸ hlt) j w₁ a₁ rfl hA₁ hI₁
        exact ⟨e₂, a₂, w₂, hq₂, .of_steps (StepsIn.trans harr (.one (fenced_calm hb hr rfl) stepR_inLoop)) harr₂⟩
      | exit id => exact ⟨_, a₁, w₁, hq, .pass (x := .inLoop c) rfl (fun _ _ => .inl (by simp)) harr⟩
      | goto l => exact ⟨_, a₁, w₁, hq, .pass (x := .inLoop c) rfl (fun _ _ => .inl (by simp)) harr⟩
      | ret => exact ⟨_, a₁, w₁, hq, .pass (x := .inLoop c) rfl (fun _ _ => .inl (by simp)) harr⟩
      | panic ch => exact ⟨_, a₁, w₁, hq, .pass (x := .inLoop c) rfl (fun _ _ => .inl (by simp)) harr⟩
      | outgrown => exact ⟨_, a₁, w₁, hq, .pass (x := .inLoop c) rfl (fun _ _ => .inl (by simp)) harr⟩
  obtain ⟨e, a', w', hq, harr⟩ := key _ i w a rfl h hI
  exact ⟨e, a', w', hq, .of_steps (.one (fenced_calm hb hr rfl) stepR_loop) harr⟩
end
end Go.Lw
