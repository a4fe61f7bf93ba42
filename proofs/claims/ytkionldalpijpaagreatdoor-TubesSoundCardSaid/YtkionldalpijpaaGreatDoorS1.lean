/- Texts of the proof, joined. -/
import Derived.WalkKit
import Derived.WalkSpells
import Derived.WalkLawsBesides
import Derived.OrdersHeld
import Derived.Deep.Quiet
import Derived.Laws.BytesString
import Derived.ProofKit
import Derived.OpenShut
import Derived.Carry
import Derived.ChangeOld
import Derived.Deep.DeepHandedRow
import Derived.Lib.LaidTab
import Derived.Scope
import Derived.WalkSmall
import Derived.RangeFuncNested
import Derived.RangeFuncBound
import Derived.RangeFuncCalls
import Derived.RangeFuncLeaves
import Derived.OrdersIn
import Derived.Lib.Builder
import Derived.Lib.AppendStr
import Derived.Laws.Pointers
import Derived.Laws.Externs
import Derived.Lib.ConvBytes
import Derived.Laws.AppendOwn
import Derived.Laws.CopyRow
set_option linter.unusedVariables false
set_option linter.unusedSimpArgs false
namespace Go.Lw

theorem beq_no {a b : Nat} (h : ¬ a = b) : Nat.beq a b = false := by
  rw [Bool.eq_false_iff]; intro e; exact h (Nat.eq_of_beq_eq_true e)

/-- The value of a slot in a list of slots. -/
def look : List (Nat × Value) → Nat → Option Value
  | [], _ => none
  | (s, v) :: r, t => bif Nat.beq s t then some v else look r t

/-- What a range over a function leaves among the deferred calls. -/
def mark (D : Nat) : Deferred := { target := .collected D, args := #[] }
/-- What is known of a frame: n slots, the marks, and the listed values. -/
structure AgM (ds : List Nat) (a : Act) (n : Nat) (L : List (Nat × Value)) : Prop where
  dfr : a.defers = ds.map mark
  size : a.tmps.size = n
  at_ : ∀ t v, look L t = some v → a.tmps.getD t undef = v

/-- A frame with no deferred calls. -/
abbrev Ag := AgM []

/-- The value of an operand. -/
def ev (L : List (Nat × Value)) : Operand → Option Value
  | .tmp t => look L t
  | .const v => some v
  | .global g => some (.pointer (some ⟨g, 0, none⟩))
  | .func f => some (.func (.func f) #[] #[])

/-- The values of operands. -/
def evs (L : List (Nat × Value)) : List Operand → List Value → Prop
  | [], [] => True
  | x :: xs, v :: vs => ev L x = some v ∧ evs L xs vs
  | _, _ => False

/-- Each slot of the first list has its value in the second. -/
def Sub : List (Nat × Value) → List (Nat × Value) → Prop
  | [], _ => True
  | p :: r, L => look L p.1 = some p.2 ∧ Sub r L

section
variable {P : Program} {a : Act} {n : Nat} {L : List (Nat × Value)} {ds : List Nat} {w w' : World} {Q : Exit → Act → World → Prop} {ops : Array Oper} {rest : List Oper} {o : Oper}

theorem AgM.eval (h : AgM ds a n L) {x : Operand} {v : Value} (hx : ev L x = some v) : a.eval x = v := by
  cases x with
  | tmp t => exact h.at_ t v hx
  | const c => exact Option.some.inj hx
  | global g => exact Option.some.inj hx
  | func f => exact Option.some.inj hx

theorem AgM.evals (h : AgM ds a n L) : ∀ {xs : List Operand} {vs : List Value}, evs L xs vs → xs.map a.eval = vs
  | [], [], _ => rfl
  | _ :: _, _ :: _, hx => by rw [List.map_cons, h.eval hx.1, h.evals hx.2]
  | [], _ :: _, hx => hx.elim
  | _ :: _, [], hx => hx.elim

theorem AgM.put (h : AgM ds a n L) {d : Nat} (hd : Nat.blt d n = true) (v : Value) : AgM ds (a.put (some d) v) n ((d, v) :: L) := by
  have hd' : d < n := by simpa [Nat.blt_eq] using hd
  refine ⟨h.dfr, by simp [Act.put, h.size], fun t u hu => ?_⟩
  simp only [look] at hu
  by_cases e : d = t
  · subst e
    simp only [Nat.beq_refl, cond_true, Option.some.injEq] at hu
    subst hu
    have : d < a.tmps.size := by rw [h.size]; exact hd'
    simp [Act.put, Array.getD, this]
  · have : Nat.beq d t = false := beq_no e
    rw [this] at hu
    have h1 := h.at_ t u hu
    simp only [Act.put, Array.getD_eq_getD_getElem?, Array.getElem?_setIfInBounds] at h1 ⊢
    rw [if_neg e]; exact h1

theorem Sub.look {L L' : List (Nat × Value)} : ∀ {t v}, Sub L' L → look L' t = some v → look L t = some v := by
  induction L' with
  | nil => intro t v _ h; cases h
  | cons p r ih =>
    intro t v hs h
    simp only [Lw.look] at h
    by_cases e : p.1 = t
    · subst e
      simp only [Nat.beq_refl, cond_true, Option.some.injEq] at h
      rw [← h]; exact hs.1
    · have : Nat.beq p.1 t = false := beq_no e
      rw [this] at h
      exact ih hs.2 h

theorem AgM.sub (h : AgM ds a n L) {L' : List (Nat × Value)} (hs : Sub L' L) : AgM ds a n L' :=
  ⟨h.dfr, h.size, fun t v hv => h.at_ t v (hs.look hv)⟩

/-- The arguments as a list of slots. -/
def argsOk (args : Array Value) : List (Nat × Value) → Prop
  | [] => True
  | p :: r => args[p.1]? = some p.2 ∧ argsOk args r

theorem argsOk.look {args : Array Value} : ∀ {L : List (Nat × Value)}, argsOk args L → ∀ {t v}, look L t = some v → args[t]? = some v
  | [], _, _, _, h => by cases h
  | p :: r, hs, t, v, h => by
    simp only [Lw.look] at h
    by_cases e : p.1 = t
    · subst e
      simp only [Nat.beq_refl, cond_true, Option.some.injEq] at h
      rw [← h]; exact hs.1
    · have : Nat.beq p.1 t = false := beq_no e
      rw [this] at h
      exact argsOk.look hs.2 h

theorem enter {f : FuncId} {fn : Func} {c : Code} {args : Array Value} {R : Ending → World → Prop} (L : List (Nat × Value))
    (hf : P.funcs[f]? = some fn) (hb : fn.body = some c) (hn : fn.ntmps = n) (hk : Nat.ble args.size n = true) (hL : argsOk args L)
    (h : ∀ a, Ag a n L → c.wp P (bodyPost P fn R) a w) : Calls P f args w R := by
  have hk' : args.size ≤ n := by simpa [Nat.ble_eq] using hk
  refine calls_of_wp hf hb (h _ ⟨rfl, by simp [hn]; omega, fun t v hv => ?_⟩)
  have := argsOk.look hL hv
  simp only [Array.getD_eq_getD_getElem?, Array.getElem?_append]
  have ht : t < args.size := by
    rcases Nat.lt_or_ge t args.size with h | h
    · exact h
    · rw [Array.getElem?_eq_none h] at this; cases this
  rw [if_pos ht, this]; rfl

/-- What a call returns. -/
def Rets (P : Program) (f : FuncId) (args : Array Value) (w : World) (Φ : Value → World → Prop) : Prop :=
  Calls P f args w fun e w' => ∃ v, e = .returned v ∧ Φ v w'

theorem Rets.mono {f : FuncId} {args : Array Value} {Φ Ψ : Value → World → Prop} (h : Rets P f args w Φ) (hq : ∀ v w', Φ v w' → Ψ v w') : Rets P f args w Ψ :=
  Calls.mono h fun _ _ ⟨v, he, hv⟩ => ⟨v, he, hq v _ hv⟩

/-! Statements. -/
theorem seq_cut {x y : Code} (K : Act → World → Prop) (h1 : x.wp P (Exit.then K Q) a w) (h2 : ∀ a w, K a w → y.wp P Q a w) : (Code.seq x y).wp P Q a w :=
  wp_seq (wp_mono h1 fun e a w h => by cases e <;> first | exact h2 _ _ h | exact h)
theorem cond_true {c : Operand} {x y : Code} (h : AgM ds a n L) (hc : ev L c = some (.bool true)) (k : x.wp P Q a w) : (Code.cond c x y).wp P Q a w := wp_cond (h.eval hc) k
theorem cond_false {c : Operand} {x y : Code} (h : AgM ds a n L) (hc : ev L c = some (.bool false)) (k : y.wp P Q a w) : (Code.cond c x y).wp P Q a w := wp_cond (h.eval hc) k
theorem cond_split {c : Operand} {x y : Code} {b : Bool} (h : AgM ds a n L) (hc : ev L c = some (.bool b)) (ht : b = true → x.wp P Q a w) (hf : b = false → y.wp P Q a w) : (Code.cond c x y).wp P Q a w :=
  wp_cond_split (h.eval hc) ht hf
theorem loop {c : Code} {ι : Type} (L : ι → List (Nat × Value)) (I : ι → World → Prop) (μ : ι → Nat) (i : ι) (h : AgM ds a n (L i)) (hI : I i w)
    (round : ∀ i w a, AgM ds a n (L i) → I i w → c.wp P (Exit.then (fun a' w' => ∃ j, AgM ds a' n (L j) ∧ I j w' ∧ μ j < μ i) Q) a w) : (Code.loop c).wp P Q a w := by
  have key : ∀ m i w a, μ i = m → AgM ds a n (L i) → I i w → ∀ (b : Frame) (k : List Item) (cs : List Frame),
      ∃ e a' w', Q e a' w' ∧ Arrives P (lone (b.at a (.code c :: .inLoop c :: k)) cs w) b k cs e a' w' := by
    intro m
    induction m using Nat.strongRecOn with
    | _ m ih =>
      intro i w a hm hA hI b k cs
      obtain ⟨e, a₁, w₁, hq, harr⟩ := round i w a hA hI b (.inLoop c :: k) cs
      cases e with
      | normal =>
        obtain ⟨j, hA₁, hI₁, hlt⟩ := hq
        obtain ⟨e₂, a₂, w₂, hq₂, harr₂⟩ := ih (μ j) (hm ▸ hlt) j w₁ a₁ rfl hA₁ hI₁ b k cs
        exact ⟨e₂, a₂, w₂, hq₂, .of_steps (Steps.trans harr (.one step_inLoop)) harr₂⟩
      | exit id => exact ⟨_, a₁, w₁, hq, .pass (x := .inLoop c) rfl (fun _ _ => .inl (by simp)) harr⟩
      | goto l => exact ⟨_, a₁, w₁, hq, .pass (x := .inLoop c) rfl (fun _ _ => .inl (by simp)) harr⟩
      | ret => exact ⟨_, a₁, w₁, hq, .pass (x := .inLoop c) rfl (fun _ _ => .inl (by simp)) harr⟩
      | panic ch => exact ⟨_, a₁, w₁, hq, .pass (x := .inLoop c) rfl (fun _ _ => .inl (by simp)) harr⟩
      | outgrown => exact ⟨_, a₁, w₁, hq, .pass (x := .inLoop c) rfl (fun _ _ => .inl (by simp)) harr⟩
  intro b k cs
  obtain ⟨e, a', w', hq, harr⟩ := key _ i w a rfl h hI b k cs
  exact ⟨e, a', w', hq, .of_steps (.one step_loop) harr⟩
theorem exit_here {id : Nat} (h : Q .normal a w) : Exit.inBlock id Q (.exit id) a w := by simp only [Exit.inBlock, if_true]; exact h
theorem exit_out {id id' : Nat} (hne : Nat.beq id' id = false) (h : Q (.exit id') a w) : Exit.inBlock id Q (.exit id') a w := by
  simp only [Exit.inBlock]; rw [if_neg (by rintro rfl; simp at hne)]; exact h
theorem ret0 {fn : Func} {R : Ending → World → Prop} (h : Ag a n L) (hr : fn.results = #[]) (k : R (.returned (.tuple #[])) w) : bodyPost P fn R .ret a w :=
  bodyPost_ret (results_none hr _ _ _) h.dfr k
theorem ret0n {fn : Func} {R : Ending → World → Prop} (h : Ag a n L) (hr : fn.results = #[]) (k : R (.returned (.tuple #[])) w) : bodyPost P fn R .normal a w :=
  bodyPost_end (results_none hr _ _ _) h.dfr k
theorem ret1 {fn : Func} {R : Ending → World → Prop} {t : Nat} {v : Value} (h : Ag a n L) (hr : fn.results = #[.tmp t]) (hv : look L t = some v) (k : R (.returned v) w) : bodyPost P fn R .ret a w :=
  bodyPost_ret (results_tmp hr _ _ _) h.dfr (by rw [h.at_ t v hv]; exact k)
theorem ret2 {fn : Func} {R : Ending → World → Prop} {t u : Nat} {v x : Value} (h : Ag a n L) (hr : fn.results = #[.tmp t, .tmp u]) (hv : look L t = some v) (hx : look L u = some x)
    (k : R (.returned (.tuple #[v, x])) w) : bodyPost P fn R .ret a w :=
  bodyPost_ret (results_tmp2 hr _ _ _) h.dfr (by rw [h.at_ t v hv, h.at_ u x hx]; exact k)
theorem ret3 {fn : Func} {R : Ending → World → Prop} {t u s : Nat} {v x y : Value} (h : Ag a n L) (hr : fn.results = #[.tmp t, .tmp u, .tmp s]) (hv : look L t = some v) (hx : look L u = some x)
    (hy : look L s = some y) (k : R (.returned (.tuple #[v, x, y])) w) : bodyPost P fn R .ret a w :=
  bodyPost_ret (v := .tuple #[v, x, y]) (by
    have h1 := h.at_ t v hv; have h2 := h.at_ u x hx; have h3 := h.at_ s y hy
    simp only [Array.getD_eq_getD_getElem?] at h1 h2 h3
    simp [results, hr, h1, h2, h3]) h.dfr k

/-- A walk from a frame of which the slots L are known: the frame's name does not matter. -/
def WL (P : Program) (ops : Array Oper) (Q : Exit → Act → World → Prop) (l : List Oper) (n : Nat) (ds : List Nat) (w : World) (L : List (Nat × Value)) : Prop := ∀ a, AgM ds a n L → wpList P ops Q l a w
def CW (P : Program) (Q : Exit → Act → World → Prop) (c : Code) (n : Nat) (ds : List Nat) (w : World) (L : List (Nat × Value)) : Prop := ∀ a, AgM ds a n L → c.wp P Q a w
def EW (Q : Exit → Act → World → Prop) (e : Exit) (n : Nat) (ds : List Nat) (w : World) (L : List (Nat × Value)) : Prop := ∀ a, AgM ds a n L → Q e a w
/-! Operations. -/
theorem st_ok {d : Nat} {v : Value} (h : AgM ds a n L) (hg : o.guard = none) (hd : o.dst = some d) (hn : Nat.blt d n = true) (hr : (execOp a.eval o).run P w = .ok (.value v) w')
    (k : ∀ a, AgM ds a n ((d, v) :: L) → wpList P ops Q rest a w') : wpList P ops Q (o :: rest) a w :=
  wpList_plain hg fun K hK => by
    unfold Oper.wp
    rw [hr]
    show K (a.put o.dst v) w'
    rw [hd]
    exact hK _ _ (k _ (h.put hn v))
theorem st_skip (h : AgM ds a n L) (hg : o.guard = none) (hd : o.dst = none) (hr : (execOp a.eval o).run P w = .ok .skip w')
    (k : ∀ a, AgM ds a n L → wpList P ops Q rest a w') : wpList P ops Q (o :: rest) a w :=
  wpList_plain hg fun K hK => by
    unfold Oper.wp
    rw [hr]
    show K (a.put o.dst undef) w'
    rw [hd]
    exact hK _ _ (k _ h)
theorem st_enter {d : Nat} {f : FuncId} {args : Array Value} {Φ : Value → World → Prop} (h : AgM ds a n L) (hg : o.guard = none) (hd : o.dst = some d) (hn : Nat.blt d n = true)
    (hr : (execOp a.eval o).run P w = .ok (.enter f args) w') (hc : Rets P f args w' Φ)
    (k : ∀ v w', Φ v w' → ∀ a, AgM ds a n ((d, v) :: L) → wpList P ops Q rest a w') : wpList P ops Q (o :: rest) a w :=
  wpList_plain hg fun K hK => by
    unfold Oper.wp
    rw [hr]
    refine Calls.mono hc ?_
    rintro e w'' ⟨v, rfl, hv⟩
    show K (a.put o.dst v) w''
    rw [hd]
    exact hK _ _ (k v w'' hv _ (h.put hn v))

/-- A guard: its test's slot. -/
theorem yielded_of (h : AgM ds a n L) {j d : Nat} {oj : Oper} {b : Bool} (hj : ops[j]? = some oj) (hd : oj.dst = some d) (hn : Nat.blt d n = true) (hb : look L d = some (.bool b)) : yielded ops a.tmps j = some b := by
  have h1 := h.at_ d _ hb
  have hd' : d < a.tmps.size := by rw [h.size]; simpa [Nat.blt_eq] using hn
  have h2 : a.tmps[d]? = some (.bool b) := by
    rw [Array.getElem?_eq_getElem hd']
    simpa [Array.getD, hd'] using h1
  simp [yielded, hj, hd, h2]
/-- The guard says no: the operation is passed over. -/
theorem gd_no {d j dj : Nat} {oj : Oper} {want b : Bool} (h : AgM ds a n L) (hg : o.guard = some (j, want)) (hj : ops[j]? = some oj) (hdj : oj.dst = some dj) (hnj : Nat.blt dj n = true)
    (hb : look L dj = some (.bool b)) (hne : (b == want) = false) (hd : o.dst = some d) (hn : Nat.blt d n = true)
    (k : ∀ a, AgM ds a n ((d, undef) :: L) → wpList P ops Q rest a w) : wpList P ops Q (o :: rest) a w := by
  have hy := yielded_of (ops := ops) h hj hdj hnj hb
  unfold wpList
  rw [if_neg (by simp only [Region.wanted, hg, hy]; simpa using hne), hd]
  exact k _ (h.put hn undef)
/-- The guard's test was passed over itself. -/
theorem gd_skip {d j dj : Nat} {oj : Oper} {want : Bool} (h : AgM ds a n L) (hg : o.guard = some (j, want)) (hj : ops[j]? = some oj) (hdj : oj.dst = some dj) (hnj : Nat.blt dj n = true)
    (hb : look L dj = some undef) (hd : o.dst = some d) (hn : Nat.blt d n = true)
    (k : ∀ a, AgM ds a n ((d, undef) :: L) → wpList P ops Q rest a w) : wpList P ops Q (o :: rest) a w := by
  have h1 := h.at_ dj _ hb
  have hd' : dj < a.tmps.size := by rw [h.size]; simpa [Nat.blt_eq] using hnj
  have h2 : a.tmps[dj]? = some undef := by
    rw [Array.getElem?_eq_getElem hd']
    simpa [Array.getD, hd'] using h1
  have hy : yielded ops a.tmps j = none := by simp [yielded, hj, hdj, h2, undef]
  unfold wpList
  rw [if_neg (by simp [Region.wanted, hg, hy]), hd]
  exact k _ (h.put hn undef)
/-- The guard says yes: as if there were none. -/
theorem gd_yes {j dj : Nat} {oj : Oper} {want b : Bool} (h : AgM ds a n L) (hg : o.guard = some (j, want)) (hj : ops[j]? = some oj) (hdj : oj.dst = some dj) (hnj : Nat.blt dj n = true)
    (hb : look L dj = some (.bool b)) (he : (b == want) = true)
    (k : wpList P ops Q ({ o with guard := none } :: rest) a w) : wpList P ops Q (o :: rest) a w := by
  have hy := yielded_of (ops := ops) h hj hdj hnj hb
  unfold wpList at k ⊢
  rw [if_pos (by simp [Region.wanted])] at k
  rw [if_pos (by simp only [Region.wanted, hg, hy]; simpa using he)]
  exact k

variable {d : Nat} {ty : TypeId} {pos : String} {after : Array Edge} {v : Value} {x y : Operand} {t t' : TypeId} {k k' : IntKind} {i j : Int} {b c : Bool} {s s' : ByteArray}
theorem st_move (h : AgM ds a n L) (hx : ev L x = some v) (hn : Nat.blt d n = true) (q : ∀ a, AgM ds a n ((d, v) :: L) → wpList P ops Q rest a w) :
    wpList P ops Q (⟨some d, .move x, ty, pos, after, none⟩ :: rest) a w :=
  st_ok h rfl rfl hn (by simp [execOp, h.eval hx]) q
theorem mv (hx : ev L x = some v) (hn : Nat.blt d n = true) (q : WL P ops Q rest n ds w ((d, v) :: L)) : WL P ops Q (⟨some d, .move x, ty, pos, after, none⟩ :: rest) n ds w L := fun a h => st_move h hx hn q -- short
theorem st_assign (h : AgM ds a n L) (hx : ev L x = some v) (hn : Nat.blt d n = true) (q : ∀ a, AgM ds a n ((d, v) :: L) → wpList P ops Q rest a w) :
    wpList P ops Q (⟨some d, .assign x, ty, pos, after, none⟩ :: rest) a w :=
  st_ok h rfl rfl hn (by simp [execOp, h.eval hx]) q
theorem asg (hx : ev L x = some v) (hn : Nat.blt d n = true) (q : WL P ops Q rest n ds w ((d, v) :: L)) : WL P ops Q (⟨some d, .assign x, ty, pos, after, none⟩ :: rest) n ds w L := fun a h => st_assign h hx hn q -- short
theorem st_pick_t {z : Value} {x1 x2 : Operand} (h : AgM ds a n L) (hx : ev L x = some (.bool b)) (hb : b = true) (hv : ev L x1 = some z) (hn : Nat.blt d n = true) (q : ∀ a, AgM ds a n ((d, z) :: L) → wpList P ops Q rest a w) :
    wpList P ops Q (⟨some d, .pick x x1 x2, ty, pos, after, none⟩ :: rest) a w :=
  st_ok h rfl rfl hn (by subst hb; simp [execOp, h.eval hx, asBool, h.eval hv]) q
theorem pkt {z : Value} {x1 x2 : Operand} (hx : ev L x = some (.bool b)) (hb : b = true) (hv : ev L x1 = some z) (hn : Nat.blt d n = true) (q : WL P ops Q rest n ds w ((d, z) :: L)) : WL P ops Q (⟨some d, .pick x x1 x2, ty, pos, after, none⟩ :: rest) n ds w L := fun a h => st_pick_t h hx hb hv hn q -- short
theorem st_pick_f {z : Value} {x1 x2 : Operand} (h : AgM ds a n L) (hx : ev L x = some (.bool b)) (hb : b = false) (hv : ev L x2 = some z) (hn : Nat.blt d n = true) (q : ∀ a, AgM ds a n ((d, z) :: L) → wpList P ops Q rest a w) :
    wpList P ops Q (⟨some d, .pick x x1 x2, ty, pos, after, none⟩ :: rest) a w :=
  st_ok h rfl rfl hn (by subst hb; simp [execOp, h.eval hx, asBool, h.eval hv]) q

theorem pkf {z : Value} {x1 x2 : Operand} (hx : ev L x = some (.bool b)) (hb : b = false) (hv : ev L x2 = some z) (hn : Nat.blt d n = true) (q : WL P ops Q rest n ds w ((d, z) :: L)) : WL P ops Q (⟨some d, .pick x x1 x2, ty, pos, after, none⟩ :: rest) n ds w L := fun a h => st_pick_f h hx hb hv hn q -- short
theorem beq_dec (i j : Int) : (i == j) = decide (i = j) := rfl
theorem exec_builtin (ρ : Operand → Value) (dst : Option Tmp) (b : Builtin) (xs : Array Operand) (ats : Array TypeId) (ty : TypeId) (pos : String) (after : Array Edge) (guard : Option (Nat × Bool)) :
    execOp ρ { dst, op := .call { callee := .builtin b, args := xs, argTypes := ats }, type := ty, pos, after, guard } = builtin b ats ty (xs.map fun | .const _ => true | _ => false) (xs.map ρ) := rfl
/-! Integers. -/
theorem st_add {z : Int} (h : AgM ds a n L) (hx : ev L x = some (.int k i)) (hy : ev L y = some (.int k j)) (hz : k.wrap (i + j) = z) (hn : Nat.blt d n = true) (q : ∀ a, AgM ds a n ((d, .int k z) :: L) → wpList P ops Q rest a w) :
    wpList P ops Q (⟨some d, .binOp .add t x y t', ty, pos, after, none⟩ :: rest) a w :=
  st_ok h rfl rfl hn (by subst hz; simp [execOp, h.eval hx, h.eval hy, eqGuard_add, binOp_add, Op.intArith]) q
theorem s_add {z : Int} (hx : ev L x = some (.int k i)) (hy : ev L y = some (.int k j)) (hz : k.wrap (i + j) = z) (hn : Nat.blt d n = true) (q : WL P ops Q rest n ds w ((d, .int k z) :: L)) : WL P ops Q (⟨some d, .binOp .add t x y t', ty, pos, after, none⟩ :: rest) n ds w L := fun a h => st_add h hx hy hz hn q -- short
theorem st_sub {z : Int} (h : AgM ds a n L) (hx : ev L x = some (.int k i)) (hy : ev L y = some (.int k j)) (hz : k.wrap (i - j) = z) (hn : Nat.blt d n = true) (q : ∀ a, AgM ds a n ((d, .int k z) :: L) → wpList P ops Q rest a w) :
    wpList P ops Q (⟨some d, .binOp .sub t x y t', ty, pos, after, none⟩ :: rest) a w :=
  st_ok h rfl rfl hn (by subst hz; simp [execOp, h.eval hx, h.eval hy, eqGuard_sub, binOp_sub, Op.intArith]) q
theorem s_sub {z : Int} (hx : ev L x = some (.int k i)) (hy : ev L y = some (.int k j)) (hz : k.wrap (i - j) = z) (hn : Nat.blt d n = true) (q : WL P ops Q rest n ds w ((d, .int k z) :: L)) : WL P ops Q (⟨some d, .binOp .sub t x y t', ty, pos, after, none⟩ :: rest) n ds w L := fun a h => st_sub h hx hy hz hn q -- short
theorem st_rem {z : Int} (h : AgM ds a n L) (hx : ev L x = some (.int k i)) (hy : ev L y = some (.int k j)) (h0 : j ≠ 0) (hz : i.tmod j = z) (hn : Nat.blt d n = true) (q : ∀ a, AgM ds a n ((d, .int k z) :: L) → wpList P ops Q rest a w) :
    wpList P ops Q (⟨some d, .binOp .rem t x y t', ty, pos, after, none⟩ :: rest) a w :=
  st_ok h rfl rfl hn (by subst hz; simp [execOp, h.eval hx, h.eval hy, eqGuard_rem, binOp_rem, Op.intDiv, h0]) q
theorem s_rem {z : Int} (hx : ev L x = some (.int k i)) (hy : ev L y = some (.int k j)) (h0 : j ≠ 0) (hz : i.tmod j = z) (hn : Nat.blt d n = true) (q : WL P ops Q rest n ds w ((d, .int k z) :: L)) : WL P ops Q (⟨some d, .binOp .rem t x y t', ty, pos, after, none⟩ :: rest) n ds w L := fun a h => st_rem h hx hy h0 hz hn q -- short
theorem st_eq (h : AgM ds a n L) (hx : ev L x = some (.int k i)) (hy : ev L y = some (.int k j)) (hn : Nat.blt d n = true) (q : ∀ a, AgM ds a n ((d, .bool (decide (i = j))) :: L) → wpList P ops Q rest a w) :
    wpList P ops Q (⟨some d, .binOp .eql t x y t', ty, pos, after, none⟩ :: rest) a w :=
  st_ok h rfl rfl hn (by simp [execOp, h.eval hx, h.eval hy, eqGuard_at_int, binOp_eql, beq_dec]) q
theorem eq' (hx : ev L x = some (.int k i)) (hy : ev L y = some (.int k j)) (hn : Nat.blt d n = true) (q : WL P ops Q rest n ds w ((d, .bool (decide (i = j))) :: L)) : WL P ops Q (⟨some d, .binOp .eql t x y t', ty, pos, after, none⟩ :: rest) n ds w L := fun a h => st_eq h hx hy hn q -- short
theorem st_ne (h : AgM ds a n L) (hx : ev L x = some (.int k i)) (hy : ev L y = some (.int k j)) (hn : Nat.blt d n = true) (q : ∀ a, AgM ds a n ((d, .bool (decide (i ≠ j))) :: L) → wpList P ops Q rest a w) :
    wpList P ops Q (⟨some d, .binOp .neq t x y t', ty, pos, after, none⟩ :: rest) a w :=
  st_ok h rfl rfl hn (by simp [execOp, h.eval hx, h.eval hy, eqGuard_at_int, binOp_neq, bne, beq_dec]) q
theorem ne' (hx : ev L x = some (.int k i)) (hy : ev L y = some (.int k j)) (hn : Nat.blt d n = true) (q : WL P ops Q rest n ds w ((d, .bool (decide (i ≠ j))) :: L)) : WL P ops Q (⟨some d, .binOp .neq t x y t', ty, pos, after, none⟩ :: rest) n ds w L := fun a h => st_ne h hx hy hn q -- short
theorem st_lt (h : AgM ds a n L) (hx : ev L x = some (.int k i)) (hy : ev L y = some (.int k j)) (hn : Nat.blt d n = true) (q : ∀ a, AgM ds a n ((d, .bool (decide (i < j))) :: L) → wpList P ops Q rest a w) :
    wpList P ops Q (⟨some d, .binOp .lss t x y t', ty, pos, after, none⟩ :: rest) a w :=
  st_ok h rfl rfl hn (by simp [execOp, h.eval hx, h.eval hy, eqGuard_lss, binOp_lss]) q
theorem lt' (hx : ev L x = some (.int k i)) (hy : ev L y = some (.int k j)) (hn : Nat.blt d n = true) (q : WL P ops Q rest n ds w ((d, .bool (decide (i < j))) :: L)) : WL P ops Q (⟨some d, .binOp .lss t x y t', ty, pos, after, none⟩ :: rest) n ds w L := fun a h => st_lt h hx hy hn q -- short
theorem st_le (h : AgM ds a n L) (hx : ev L x = some (.int k i)) (hy : ev L y = some (.int k j)) (hn : Nat.blt d n = true) (q : ∀ a, AgM ds a n ((d, .bool (decide (i ≤ j))) :: L) → wpList P ops Q rest a w) :
    wpList P ops Q (⟨some d, .binOp .leq t x y t', ty, pos, after, none⟩ :: rest) a w :=
  st_ok h rfl rfl hn (by simp [execOp, h.eval hx, h.eval hy, eqGuard_leq, binOp_leq]) q
theorem le' (hx : ev L x = some (.int k i)) (hy : ev L y = some (.int k j)) (hn : Nat.blt d n = true) (q : WL P ops Q rest n ds w ((d, .bool (decide (i ≤ j))) :: L)) : WL P ops Q (⟨some d, .binOp .leq t x y t', ty, pos, after, none⟩ :: rest) n ds w L := fun a h => st_le h hx hy hn q -- short
theorem st_gt (h : AgM ds a n L) (hx : ev L x = some (.int k i)) (hy : ev L y = some (.int k j)) (hn : Nat.blt d n = true) (q : ∀ a, AgM ds a n ((d, .bool (decide (j < i))) :: L) → wpList P ops Q rest a w) :
    wpList P ops Q (⟨some d, .binOp .gtr t x y t', ty, pos, after, none⟩ :: rest) a w :=
  st_ok h rfl rfl hn (by simp [execOp, h.eval hx, h.eval hy, eqGuard_gtr, binOp_gtr]) q
theorem gt' (hx : ev L x = some (.int k i)) (hy : ev L y = some (.int k j)) (hn : Nat.blt d n = true) (q : WL P ops Q rest n ds w ((d, .bool (decide (j < i))) :: L)) : WL P ops Q (⟨some d, .binOp .gtr t x y t', ty, pos, after, none⟩ :: rest) n ds w L := fun a h => st_gt h hx hy hn q -- short
theorem st_ge (h : AgM ds a n L) (hx : ev L x = some (.int k i)) (hy : ev L y = some (.int k j)) (hn : Nat.blt d n = true) (q : ∀ a, AgM ds a n ((d, .bool (decide (j ≤ i))) :: L) → wpList P ops Q rest a w) :
    wpList P ops Q (⟨some d, .binOp .geq t x y t', ty, pos, after, none⟩ :: rest) a w :=
  st_ok h rfl rfl hn (by simp [execOp, h.eval hx, h.eval hy, eqGuard_geq, binOp_geq]) q
theorem ge' (hx : ev L x = some (.int k i)) (hy : ev L y = some (.int k j)) (hn : Nat.blt d n = true) (q : WL P ops Q rest n ds w ((d, .bool (decide (j ≤ i))) :: L)) : WL P ops Q (⟨some d, .binOp .geq t x y t', ty, pos, after, none⟩ :: rest) n ds w L := fun a h => st_ge h hx hy hn q -- short
theorem st_not (h : AgM ds a n L) (hx : ev L x = some (.bool b)) (hn : Nat.blt d n = true) (q : ∀ a, AgM ds a n ((d, .bool (!b)) :: L) → wpList P ops Q rest a w) :
    wpList P ops Q (⟨some d, .unOp .not t x, ty, pos, after, none⟩ :: rest) a w :=
  st_ok h rfl rfl hn (by simp [execOp, h.eval hx, unary_not]) q
theorem nt' (hx : ev L x = some (.bool b)) (hn : Nat.blt d n = true) (q : WL P ops Q rest n ds w ((d, .bool (!b)) :: L)) : WL P ops Q (⟨some d, .unOp .not t x, ty, pos, after, none⟩ :: rest) n ds w L := fun a h => st_not h hx hn q -- short
theorem st_conv {z : Int} (h : AgM ds a n L) (hx : ev L x = some (.int k i)) (hs : (P.underlying t).isSome = true) (hd : P.underlying t' = some (.int k')) (hz : k'.wrap i = z) (hn : Nat.blt d n = true) (q : ∀ a, AgM ds a n ((d, .int k' z) :: L) → wpList P ops Q rest a w) :
    wpList P ops Q (⟨some d, .convert t t' x, ty, pos, after, none⟩ :: rest) a w :=
  st_ok h rfl rfl hn (by
    obtain ⟨u, hu⟩ := Option.isSome_iff_exists.mp hs
    subst hz; simp [execOp, h.eval hx, convert, run_underlying hu, run_underlying hd, Conv.intToInt]) q
theorem s_conv {z : Int} (hx : ev L x = some (.int k i)) (hs : (P.underlying t).isSome = true) (hd : P.underlying t' = some (.int k')) (hz : k'.wrap i = z) (hn : Nat.blt d n = true) (q : WL P ops Q rest n ds w ((d, .int k' z) :: L)) : WL P ops Q (⟨some d, .convert t t' x, ty, pos, after, none⟩ :: rest) n ds w L := fun a h => st_conv h hx hs hd hz hn q -- short
theorem st_min {ts : Array TypeId} (h : AgM ds a n L) (hx : ev L x = some (.int k i)) (hy : ev L y = some (.int k' j)) (hn : Nat.blt d n = true) (q : ∀ a, AgM ds a n ((d, .int k (min i j)) :: L) → wpList P ops Q rest a w) :
    wpList P ops Q (⟨some d, .call ⟨.builtin .min, #[x, y], ts⟩, ty, pos, after, none⟩ :: rest) a w :=
  st_ok h rfl rfl hn (by
    rw [exec_builtin]; unfold builtin
    simp only [List.map_toArray, List.map_cons, List.map_nil, h.eval hx, h.eval hy, Sem.run_bind, run_min_int2, Result.andThen_ok, Sem.run_pure]
    congr 3; omega) q
theorem s_min {ts : Array TypeId} (hx : ev L x = some (.int k i)) (hy : ev L y = some (.int k' j)) (hn : Nat.blt d n = true) (q : WL P ops Q rest n ds w ((d, .int k (min i j)) :: L)) : WL P ops Q (⟨some d, .call ⟨.builtin .min, #[x, y], ts⟩, ty, pos, after, none⟩ :: rest) n ds w L := fun a h => st_min h hx hy hn q -- short
theorem st_neb (h : AgM ds a n L) (hx : ev L x = some (.bool b)) (hy : ev L y = some (.bool c)) (hu : P.underlying t = some .bool) (hn : Nat.blt d n = true) (q : ∀ a, AgM ds a n ((d, .bool (decide (b ≠ c))) :: L) → wpList P ops Q rest a w) :
    wpList P ops Q (⟨some d, .binOp .neq t x y t', ty, pos, after, none⟩ :: rest) a w :=
  st_ok h rfl rfl hn (by simp [execOp, h.eval hx, h.eval hy, eqGuard_at_bool, run_neq_bool w t b c hu]; cases b <;> cases c <;> rfl) q

theorem s_neb (hx : ev L x = some (.bool b)) (hy : ev L y = some (.bool c)) (hu : P.underlying t = some .bool) (hn : Nat.blt d n = true) (q : WL P ops Q rest n ds w ((d, .bool (decide (b ≠ c))) :: L)) : WL P ops Q (⟨some d, .binOp .neq t x y t', ty, pos, after, none⟩ :: rest) n ds w L := fun a h => st_neb h hx hy hu hn q -- short
/-! Strings: as lists of bytes. -/
def S (l : List UInt8) : Value := .string ⟨l.toArray⟩
variable {l l' : List UInt8}
end
end Go.Lw
namespace Go.Lw
open Go.RowKit

/-- Behind it all blocks but those of S are as they were. -/
structure Fr (S : List Nat) (w w' : World) : Prop where
  os : w'.os = w.os
  tape : w'.tape = w.tape
  output : w'.output = w.output
  size : w.heap.size ≤ w'.heap.size
  block : ∀ k, k < w.heap.size → k ∉ S → w'.heap[k]? = w.heap[k]?

theorem Fr.refl (S : List Nat) (w : World) : Fr S w w := ⟨rfl, rfl, rfl, Nat.le_refl _, fun _ _ _ => rfl⟩
theorem Fr.trans {S S' : List Nat} {a b c : World} (h : Fr S a b) (h' : Fr S' b c) : Fr (S ++ S') a c :=
  ⟨h'.os.trans h.os, h'.tape.trans h.tape, h'.output.trans h.output, Nat.le_trans h.size h'.size, fun k hk hS =>
    (h'.block k (Nat.lt_of_lt_of_le hk h.size) (fun e => hS (List.mem_append.2 (.inr e)))).trans (h.block k hk (fun e => hS (List.mem_append.2 (.inl e))))⟩
theorem Fr.weak {S S' : List Nat} {a b : World} (h : Fr S a b) (hS : ∀ k ∈ S, k < a.heap.size → k ∈ S') : Fr S' a b :=
  ⟨h.os, h.tape, h.output, h.size, fun k hk hn => h.block k hk (fun e => hn (hS k e hk))⟩
theorem Fr.step {S S' : List Nat} {a b c : World} (h : Fr S a b) (h' : Fr S' b c) (hS : ∀ k ∈ S', k < a.heap.size → k ∈ S) : Fr S a c :=
  (h.trans h').weak fun k hk hlt => (List.mem_append.1 hk).elim id fun e => hS k e hlt
theorem Fr.next {S : List Nat} {a b c : World} (h : Fr S a b) (h' : Fr [] b c) : Fr S a c := h.step h' (by simp)
theorem Fr.below {a b : World} (h : Fr [] a b) : Below a.heap.size a b := ⟨h.os, h.tape, h.output, h.size, fun k hk => h.block k hk (by simp)⟩
theorem Fr.of_below {a b : World} (h : Below a.heap.size a b) : Fr [] a b := ⟨h.os, h.tape, h.output, h.size, fun k hk _ => h.block k hk⟩
theorem Fr.alloc (S : List Nat) (w : World) (o : Obj) : Fr S w (w.alloc o) := ⟨rfl, rfl, rfl, by simp, fun k hk _ => Below.heap_alloc w o k hk⟩
theorem Fr.drew (S : List Nat) (w : World) : Fr S w w.drew := ⟨rfl, rfl, rfl, Nat.le_refl _, fun _ _ _ => rfl⟩
theorem Fr.setCell (w : World) (p : Addr) (u : Value) : Fr [p.block] w (w.setCell p u) :=
  ⟨rfl, rfl, rfl, by simp, fun k _ hn => heap_setCell_other w p k u (by simpa using hn)⟩
theorem Fr.setRow (w : World) (g : Nat) (cs : Array Value) : Fr [g] w (w.setRow g cs) :=
  ⟨rfl, rfl, rfl, by simp, fun k _ hn => setRow_other w g k _ (by simpa using hn)⟩
theorem Fr.cell {S : List Nat} {w w' : World} (h : Fr S w w') {p : Addr} {u : Value} (hc : w.cell? p = some u) (hn : p.block ∉ S) : w'.cell? p = some u :=
  (World.cell?_of_block (w := w) (h.block p.block (block_lt_of_cell hc) hn)).trans hc

/-- The cells from an address on. -/
def Cells (w : World) (ad : Addr) (cs : List Value) : Prop := ∀ j u, cs[j]? = some u → w.cell? (ad.add j) = some u
theorem block_add (a : Addr) (n : Nat) : (a.add n).block = a.block := by unfold Addr.add; split <;> rfl
theorem add_add (a : Addr) (i j : Nat) : (a.add i).add j = a.add (i + j) := by
  unfold Addr.add
  by_cases hi : i = 0 <;> by_cases hj : j = 0 <;> simp [hi, hj, Nat.add_assoc]
theorem Cells.fr {S : List Nat} {w w' : World} {ad : Addr} {cs : List Value} (h : Cells w ad cs) (hf : Fr S w w') (hn : ad.block ∉ S) : Cells w' ad cs :=
  fun j u hu => hf.cell (h j u hu) (by rw [block_add]; exact hn)

/-- How an element lies in cells. -/
structure Enc (α : Type) where
  enc : α → List Value
  sz : Nat
  len : ∀ y, (enc y).length = sz
  one : ∀ y, ∀ u ∈ enc y, u.oneCell' = true
  pos : 0 < sz

def Enc.i64 : Enc Int := ⟨fun n => [.int .i64 n], 1, fun _ => rfl, fun _ u h => by simp at h; subst h; rfl, by decide⟩
def Enc.u8 : Enc Int := ⟨fun n => [.int .u8 n], 1, fun _ => rfl, fun _ u h => by simp at h; subst h; rfl, by decide⟩
def Enc.str : Enc (List UInt8) := ⟨fun l => [S l], 1, fun _ => rfl, fun _ u h => by simp at h; subst h; rfl, by decide⟩
def Enc.sl : Enc (Option Addr × Nat × Nat) := ⟨fun p => [.slice p.1 p.2.1 p.2.2], 1, fun _ => rfl, fun _ u h => by simp at h; subst h; rfl, by decide⟩

theorem Enc.flat_len {α : Type} (E : Enc α) (ys : List α) : (ys.flatMap E.enc).length = ys.length * E.sz := by
  induction ys with
  | nil => simp
  | cons y ys ih => simp [E.len, ih, Nat.add_mul, Nat.add_comm]
theorem Enc.flat_one {α : Type} (E : Enc α) (ys : List α) : ∀ u ∈ ys.flatMap E.enc, u.oneCell' = true := by
  intro u hu
  obtain ⟨y, _, h⟩ := List.mem_flatMap.1 hu
  exact E.one y u h
theorem Enc.flat_get {α : Type} (E : Enc α) : ∀ (ys : List α) (i : Nat) (y : α), ys[i]? = some y → ∀ j, j < E.sz → (ys.flatMap E.enc)[i * E.sz + j]? = (E.enc y)[j]?
  | [], i, y, h, _, _ => by simp at h
  | z :: ys, 0, y, h, j, hj => by
    simp at h; subst h
    rw [List.flatMap_cons, Nat.zero_mul, Nat.zero_add, List.getElem?_append_left (by rw [E.len]; exact hj)]
  | z :: ys, i + 1, y, h, j, hj => by
    simp at h
    rw [List.flatMap_cons, List.getElem?_append_right (by rw [E.len, Nat.add_mul]; omega), E.len]
    rw [show (i + 1) * E.sz + j - E.sz = i * E.sz + j by rw [Nat.add_mul]; omega]
    exact Enc.flat_get E ys i y h j hj
theorem Enc.flat_split {α : Type} (E : Enc α) (ys : List α) (m : Nat) (u : Value) (h : (ys.flatMap E.enc)[m]? = some u) :
    ∃ i j y, m = i * E.sz + j ∧ j < E.sz ∧ ys[i]? = some y ∧ (E.enc y)[j]? = some u := by
  have hm : m < ys.length * E.sz := by rw [← E.flat_len]; exact (List.getElem?_eq_some_iff.1 h).1
  have hi : m / E.sz < ys.length := Nat.div_lt_of_lt_mul (by rw [Nat.mul_comm]; exact hm)
  have hj : m % E.sz < E.sz := Nat.mod_lt _ E.pos
  have e : m = m / E.sz * E.sz + m % E.sz := by rw [Nat.mul_comm]; exact (Nat.div_add_mod m E.sz).symm
  refine ⟨m / E.sz, m % E.sz, ys[m / E.sz], e, hj, List.getElem?_eq_getElem hi, ?_⟩
  have := E.flat_get ys (m / E.sz) ys[m / E.sz] (List.getElem?_eq_getElem hi) (m % E.sz) hj
  rw [← this, ← e]; exact h

/-- A slice reads as a list. -/
def Sl {α : Type} (E : Enc α) (w : World) (v : Value) (ys : List α) : Prop :=
  ∃ A c, v = .slice A ys.length c ∧ ys.length ≤ c ∧ c ≤ maxLen ∧ ∀ i y, ys[i]? = some y → ∃ ad, A = some ad ∧ Cells w (ad.add (i * E.sz)) (E.enc y)

/-- A slice of the call's own, from block base on: nil, or at the head of a block that nothing else is written through. -/
def Own {α : Type} (E : Enc α) (T : TypeId) (base : Nat) (w : World) (v : Value) (ys : List α) : Prop :=
  (v = .slice none 0 0 ∧ ys = []) ∨
  ∃ g cap cur, v = .slice (some ⟨g, 0, none⟩) ys.length cap ∧ base ≤ g ∧ w.heap[g]? = some (.cells cur T (0, 0)) ∧ ys.length ≤ cap ∧ cap ≤ maxLen ∧ cap * E.sz ≤ cur.size ∧
    cur.toList.take (ys.length * E.sz) = ys.flatMap E.enc

/-- The blocks of a slice. -/
def blks : Value → List Nat
  | .slice (some a) _ _ => [a.block]
  | _ => []

section
variable {α : Type} {E : Enc α} {T : TypeId} {base : Nat} {w w' : World} {v : Value} {ys zs : List α} {S : List Nat}

theorem lit_add (g o j : Nat) : (⟨g, o, none⟩ : Addr).add j = ⟨g, o + j, none⟩ := by unfold Addr.add; split <;> simp_all

theorem Sl.fr (h : Sl E w v ys) (hf : Fr S w w') (hn : ∀ k ∈ S, k ∉ blks v) : Sl E w' v ys := by
  obtain ⟨A, c, rfl, h1, h2, h3⟩ := h
  refine ⟨A, c, rfl, h1, h2, fun i y hy => ?_⟩
  obtain ⟨ad, rfl, hc⟩ := h3 i y hy
  exact ⟨ad, rfl, hc.fr hf (by rw [block_add]; exact fun e => hn _ e (by simp [blks]))⟩
theorem Sl.ext (h : Sl E w v ys) (hf : Fr [] w w') : Sl E w' v ys := h.fr hf (by simp)
theorem Sl.nil (w : World) : Sl E w (.slice none 0 0) [] := ⟨none, 0, rfl, Nat.le_refl _, Nat.zero_le _, fun i y h => by simp at h⟩
theorem Own.sl (h : Own E T base w v ys) : Sl E w v ys := by
  rcases h with ⟨rfl, rfl⟩ | ⟨g, cap, cur, rfl, _, hg, hc, hm, hs, ht⟩
  · exact Sl.nil w
  · refine ⟨_, cap, rfl, hc, hm, fun i y hy => ⟨_, rfl, fun j u hu => ?_⟩⟩
    have hj : j < E.sz := by rw [← E.len y]; exact (List.getElem?_eq_some_iff.1 hu).1
    have hi : i < ys.length := (List.getElem?_eq_some_iff.1 hy).1
    have h1 := E.flat_get ys i y hy j hj
    rw [← ht] at h1
    have hlt : i * E.sz + j < ys.length * E.sz := by
      have : (i + 1) * E.sz ≤ ys.length * E.sz := Nat.mul_le_mul_right _ hi
      rw [Nat.add_mul] at this; omega
    rw [List.getElem?_take, if_pos hlt] at h1
    rw [add_add, lit_add, Nat.zero_add, cell_of_row w g _ cur T (0, 0) hg, ← Array.getElem?_toList, h1]
    exact hu
theorem Own.fr (h : Own E T base w v ys) (hf : Fr S w w') (hn : ∀ k ∈ S, k ∉ blks v) : Own E T base w' v ys := by
  rcases h with ⟨rfl, rfl⟩ | ⟨g, cap, cur, rfl, hb, hg, r⟩
  · exact .inl ⟨rfl, rfl⟩
  · refine .inr ⟨g, cap, cur, rfl, hb, ?_, r⟩
    rw [hf.block g (Array.getElem?_eq_some_iff.1 hg).1 (fun e => hn _ e (by simp [blks]))]
    exact hg
theorem Own.ext (h : Own E T base w v ys) (hf : Fr [] w w') : Own E T base w' v ys := h.fr hf (by simp)
theorem Own.nil (w : World) : Own E T base w (.slice none 0 0) [] := .inl ⟨rfl, rfl⟩
theorem Own.low {b' : Nat} (h : Own E T base w v ys) (hb : b' ≤ base) : Own E T b' w v ys := by
  rcases h with h | ⟨g, cap, cur, h1, h2, r⟩
  · exact .inl h
  · exact .inr ⟨g, cap, cur, h1, Nat.le_trans hb h2, r⟩
theorem Own.blk (h : Own E T base w v ys) : ∀ k ∈ blks v, base ≤ k ∧ k < w.heap.size := by
  rcases h with ⟨rfl, rfl⟩ | ⟨g, cap, cur, rfl, hb, hg, r⟩
  · intro k hk; cases hk
  · intro k hk
    simp [blks] at hk; subst hk
    exact ⟨hb, (Array.getElem?_eq_some_iff.1 hg).1⟩
theorem Sl.blk (h : Sl E w v ys) (hp : ys ≠ []) : ∀ k ∈ blks v, k < w.heap.size := by
  obtain ⟨A, c, rfl, h1, h2, h3⟩ := h
  match ys, hp with
  | y :: r, _ =>
    obtain ⟨ad, rfl, hc⟩ := h3 0 y rfl
    intro k hk
    simp [blks] at hk; subst hk
    have hl := E.len y
    have hp := E.pos
    match he : E.enc y with
    | [] => rw [he] at hl; simp at hl; omega
    | u :: _ =>
      have := hc 0 u (by rw [he]; rfl)
      have := block_lt_of_cell this
      rwa [block_add, block_add] at this
theorem Sl.form (h : Sl E w v ys) : ∃ A c, v = .slice A ys.length c ∧ ys.length ≤ c := let ⟨A, c, h1, h2, _⟩ := h; ⟨A, c, h1, h2⟩
theorem Sl.len_le (h : Sl E w v ys) : ys.length ≤ maxLen := let ⟨_, _, _, h2, h3, _⟩ := h; Nat.le_trans h2 h3
/-- The cells of all elements. -/
theorem Sl.flat (h : Sl E w v ys) : ∃ A c, v = .slice A ys.length c ∧ ys.length ≤ c ∧ c ≤ maxLen ∧ (ys ≠ [] → ∃ ad, A = some ad ∧ Cells w ad (ys.flatMap E.enc)) := by
  obtain ⟨A, c, rfl, h1, h2, h3⟩ := h
  refine ⟨A, c, rfl, h1, h2, fun hp => ?_⟩
  match ys, hp with
  | y :: r, _ =>
    obtain ⟨ad, rfl, _⟩ := h3 0 y rfl
    refine ⟨ad, rfl, fun m u hu => ?_⟩
    obtain ⟨i, j, z, rfl, hj, hz, hu'⟩ := E.flat_split _ m u hu
    obtain ⟨ad', e, hc⟩ := h3 i z hz
    cases e
    have := hc j u hu'
    rwa [add_add] at this
/-- The beginning of a slice. -/
theorem Sl.take (h : Sl E w v ys) {A : Option Addr} {n c : Nat} (hv : v = .slice A n c) {m : Nat} (hm : m ≤ ys.length) {B : Option Addr} {c' : Nat} (hc' : m ≤ c') (hM : c' ≤ maxLen) (hB : 0 < m → B = A) : Sl E w (.slice B m c') (ys.take m) := by
  obtain ⟨A', c1, h0, h1, h2, h3⟩ := h
  rw [hv] at h0; cases h0
  have hl : (ys.take m).length = m := by simp; omega
  refine ⟨B, c', by rw [hl], by rw [hl]; exact hc', hM, fun i y hy => ?_⟩
  rw [List.getElem?_take] at hy
  split at hy
  · rename_i hi
    rw [hB (by omega)]
    exact h3 i y hy
  · cases hy
/-- A slice from an index on. -/
theorem Sl.drop (h : Sl E w v ys) {A : Option Addr} {n c : Nat} (hv : v = .slice A n c) {m : Nat} (hm : m ≤ ys.length) {B : Option Addr} {c' : Nat} (hc' : ys.length - m ≤ c') (hM : c' ≤ maxLen) (hB : m < ys.length → B = A.map (·.add (m * E.sz))) :
    Sl E w (.slice B (ys.length - m) c') (ys.drop m) := by
  obtain ⟨A', c1, h0, h1, h2, h3⟩ := h
  rw [hv] at h0; cases h0
  refine ⟨B, c', by rw [List.length_drop], by rw [List.length_drop]; exact hc', hM, fun i y hy => ?_⟩
  rw [List.getElem?_drop] at hy
  have hlt : m + i < ys.length := (List.getElem?_eq_some_iff.1 hy).1
  obtain ⟨ad, rfl, hc⟩ := h3 _ y hy
  refine ⟨ad.add (m * E.sz), by rw [hB (by omega)]; rfl, ?_⟩
  rw [add_add, ← Nat.add_mul]; exact hc

theorem Own.take (h : Own E T base w v ys) {A : Option Addr} {n c : Nat} (hv : v = .slice A n c) {m : Nat} (hm : m ≤ ys.length) {c' : Nat} (hc : c' ≤ c) (hmc : m ≤ c') : Own E T base w (.slice A m c') (ys.take m) := by
  rcases h with ⟨rfl, rfl⟩ | ⟨g, cap, cur, rfl, hb, hg, h1, h2, h3, h4⟩
  · cases hv
    simp at hm; subst hm
    exact .inl ⟨by rw [Nat.le_zero.1 hc], rfl⟩
  · cases hv
    have hl : (ys.take m).length = m := by simp; omega
    refine .inr ⟨g, c', cur, by rw [hl], hb, hg, by rw [hl]; exact hmc, by omega, Nat.le_trans (Nat.mul_le_mul_right _ hc) h3, ?_⟩
    have h5 : (cur.toList.take (ys.length * E.sz)).take (m * E.sz) = (ys.flatMap E.enc).take (m * E.sz) := by rw [h4]
    rw [List.take_take, Nat.min_eq_left (Nat.mul_le_mul_right _ hm)] at h5
    rw [hl, h5]
    clear h5 h4 h3 h2 h1 hg hl hc hmc
    induction ys generalizing m with
    | nil => simp
    | cons y ys ih =>
      match m with
      | 0 => simp
      | m + 1 =>
        rw [List.take_succ_cons, List.flatMap_cons, List.flatMap_cons, Nat.add_mul, Nat.one_mul, Nat.add_comm, ← E.len y, List.take_length_add_append, E.len y, ih (by simp at hm; omega)]
theorem run_append_nil' {P : Program} (t ty e : TypeId) (i : TypeInfo) (ht : P.underlying t = some (.slice e)) (hi : P.info? e = some i) (A : Option Addr) (n cap c : Nat) (hc : n ≤ cap) (hpos : 0 < n → A ≠ none) :
    (Builtin.append_ #[t, t] ty #[.slice A n cap, .slice none 0 c]).run P w = .ok (.slice A n cap) w := by
  cases A with
  | none => simp [Builtin.append_, run_underlying ht, sizeOf, typeInfo, hi, Builtin.lenOf, Builtin.firstCells, hc]
  | some a => simp [Builtin.append_, run_underlying ht, sizeOf, typeInfo, hi, Builtin.lenOf, Builtin.firstCells, hc, storeCells]

/-- append onto a row of the call's own. -/
theorem run_append {P : Program} (t ty : TypeId) (i : TypeInfo) (z : Value) (bytes : Nat) (ht : P.underlying t = some (.slice T)) (hi : P.info? T = some i) (hz : i.zero = some z) (hsize : i.size = E.sz) (hby : i.bytes = bytes)
    (hzs : z.cells.size = E.sz) {x : Value} (ho : Own E T base w v ys) (hx : Sl E w x zs) (hM : (ys.length + zs.length) ≤ maxLen) (hb : (ys.length + zs.length) * bytes ≤ 140737488355328) (hbase : base ≤ w.heap.size) :
    ∃ v' w', (Builtin.append_ #[t, t] ty #[v, x]).run P w = .ok v' w' ∧ Own E T base w' v' (ys ++ zs) ∧ Fr (blks v) w w' ∧ (v' = v ∨ blks v' = blks v ∨ blks v' = [w.heap.size]) := by
  subst hby
  obtain ⟨A, c, rfl, hc1, hc2, hcells⟩ := hx.flat
  have grown : ∀ (old : Nat),
      Own E T base (w.drew.alloc (.cells ((ys.flatMap E.enc).toArray ++ (zs.flatMap E.enc).toArray ++ Builtin.zeroCells z.cells (grownCap w (ys.length + zs.length) old T - (ys.length + zs.length))) T))
        (.slice (some ⟨w.heap.size, 0, none⟩) (ys.length + zs.length) (grownCap w (ys.length + zs.length) old T)) (ys ++ zs) := by
    intro old
    have hge := grownCap_ge w (ys.length + zs.length) old T
    have hcm := grownCap_le_maxLen w (ys.length + zs.length) old T hM
    refine .inr ⟨w.heap.size, _, _, by rw [List.length_append], hbase, heap_alloc_new w.drew _, by rw [List.length_append]; exact hge, hcm, ?_, ?_⟩
    · simp only [Array.size_append, List.size_toArray, size_zeroCells, hzs, E.flat_len, ← Nat.add_mul]
      refine Nat.mul_le_mul_right _ ?_
      omega
    · rw [List.flatMap_append]
      simp only [Array.toList_append]
      rw [show (ys ++ zs).length * E.sz = (ys.flatMap E.enc ++ zs.flatMap E.enc).length by rw [@List.length_append _ (ys.flatMap E.enc) (zs.flatMap E.enc), E.flat_len, E.flat_len, List.length_append, Nat.add_mul]]
      exact List.take_left
  by_cases hzn : zs = []
  · subst hzn
    rw [List.append_nil]
    refine ⟨v, w, ?_, ho, Fr.refl _ _, .inl rfl⟩
    rcases ho with ⟨rfl, rfl⟩ | ⟨g, cap, cur, rfl, hbg, hg, hnc, hcm, hcs, htake⟩
    · cases A with
      | none => exact run_append_nil' t ty T i ht hi _ _ _ _ (Nat.le_refl _) (by simp)
      | some a => simp [Builtin.append_, run_underlying ht, sizeOf, typeInfo, hi, Builtin.lenOf, Builtin.firstCells, loadCells, loadCellsFrom]
    · cases A with
      | none => exact run_append_nil' t ty T i ht hi _ _ _ _ hnc (by simp)
      | some a => simp [Builtin.append_, run_underlying ht, sizeOf, typeInfo, hi, Builtin.lenOf, Builtin.firstCells, loadCells, loadCellsFrom, hnc, storeCells]
  · obtain ⟨ad, rfl, hcc⟩ := hcells hzn
    have hpos : 0 < zs.length := List.length_pos_iff.2 hzn
    have hsm : ys.length + zs.length ≤ 9223372036854775807 := by simp only [maxLen] at hM; omega
    rcases ho with ⟨rfl, rfl⟩ | ⟨g, cap, cur, rfl, hbg, hg, hnc, hcm, hcs, htake⟩
    · have hr := run_append_nil (P := P) w t ty T i z ht hi hz ad zs.length c (zs.flatMap E.enc) (by rw [E.flat_len, hsize]) hcc hpos (by simp at hsm; omega) (by have hb' := hb; simp only [List.length_nil, Nat.zero_add] at hb'; omega)
      have hgr := grown 0
      simp only [List.flatMap_nil, List.length_nil, Nat.zero_add, List.nil_append, Array.empty_append] at hgr ⊢
      exact ⟨_, _, hr, hgr, ⟨rfl, rfl, rfl, by simp, fun k hk _ => Below.heap_alloc w.drew _ k hk⟩, .inr (.inr rfl)⟩
    · have hold : Own E T base w (.slice (some ⟨g, 0, none⟩) ys.length cap) ys := .inr ⟨g, cap, cur, rfl, hbg, hg, hnc, hcm, hcs, htake⟩
      by_cases hroom : ys.length + zs.length ≤ cap
      · have hfit : ys.length * i.size + (zs.flatMap E.enc).length ≤ cur.size := by
          rw [E.flat_len, hsize, ← Nat.add_mul]
          exact Nat.le_trans (Nat.mul_le_mul_right _ hroom) hcs
        have hr := run_append_room (P := P) w t ty T i ht hi g ys.length cap cur hg ad zs.length c (zs.flatMap E.enc) (by rw [E.flat_len, hsize]) hcc (E.flat_one zs) hroom hfit
        refine ⟨_, _, hr, .inr ⟨g, cap, _, by rw [List.length_append], hbg, setRow_heap w g cur _ T _ hg, by rw [List.length_append]; exact hroom, hcm, ?_, ?_⟩, Fr.setRow w g _, .inr (.inl rfl)⟩
        · simp only [List.size_toArray, List.length_append, List.length_take, List.length_drop, Array.length_toList]
          omega
        · rw [hsize, htake, List.flatMap_append, List.length_append, Nat.add_mul]
          rw [show ys.length * E.sz + zs.length * E.sz = (ys.flatMap E.enc ++ zs.flatMap E.enc).length by rw [List.length_append, E.flat_len, E.flat_len]]
          exact List.take_left
      · have hflat := hold.sl.flat
        have holds : ∀ j u, (ys.flatMap E.enc)[j]? = some u → w.cell? ((⟨g, 0, none⟩ : Addr).add j) = some u := by
          intro j u hu
          by_cases hy : ys = []
          · subst hy; simp at hu
          · obtain ⟨A', c', e, _, _, hh⟩ := hflat
            obtain ⟨ad', e', hc'⟩ := hh hy
            cases e; cases e'
            exact hc' j u hu
        have hr := run_append_grow (P := P) w t ty T i z ht hi hz ⟨g, 0, none⟩ ys.length cap (ys.flatMap E.enc) (by rw [E.flat_len, hsize]) holds ad zs.length c (zs.flatMap E.enc) (by rw [E.flat_len, hsize]) hcc (by omega) (by omega) (growslice_fits (by omega) hb)
        exact ⟨_, _, hr, grown cap, ⟨rfl, rfl, rfl, by simp, fun k hk _ => Below.heap_alloc w.drew _ k hk⟩, .inr (.inr rfl)⟩
end
end Go.Lw
namespace Go.Lw
open Go.RowKit

/-- Facts on a program's types. -/
def NotAgg (P : Program) (t : TypeId) : Prop := ∀ w : World, (isAgg t).run P w = .ok false w
def AggOf (P : Program) (t : TypeId) (n : Nat) : Prop := (∀ w : World, (isAgg t).run P w = .ok true w) ∧ ∀ w : World, (sizeOf t).run P w = .ok n w
def SizeOf (P : Program) (t : TypeId) (n : Nat) : Prop := ∀ w : World, (sizeOf t).run P w = .ok n w
def FieldAt (P : Program) (s f off : Nat) : Prop := ∀ (ad : Addr) (w : World), (Instr.fieldAt s (.pointer (some ad)) f).run P w = .ok (.pointer (some (ad.add off))) w
def CallOf (P : Program) (f : FuncId) : Prop := ∀ (args : Array Value) (w : World), (callFunc f args).run P w = .ok (.enter f args) w
structure ElemOf {α : Type} (P : Program) (t T : TypeId) (E : Enc α) (bytes : Nat) : Prop where
  und : P.underlying t = some (.slice T)
  info : ∃ i z, P.info? T = some i ∧ i.zero = some z ∧ i.size = E.sz ∧ i.bytes = bytes ∧ z.cells.size = E.sz
theorem ElemOf.mk' {α : Type} {P : Program} {t T : TypeId} {E : Enc α} {bytes : Nat} {z : Value} (h1 : P.underlying t = some (.slice T)) (h2 : (P.info? T).map (fun i => (i.zero, i.size, i.bytes)) = some (some z, E.sz, bytes)) (h3 : z.cells.size = E.sz) : ElemOf P t T E bytes :=
  ⟨h1, let ⟨i, a, b, c, d⟩ := info_parts h2; ⟨i, z, a, b, c, d, h3⟩⟩
theorem CallOf.mk' {P : Program} {f : FuncId} {fn : Func} (hf : P.funcs[f]? = some fn) (hn : (fn.name == "runtime.NumGoroutine") = false) (hb : fn.body.isNone = false) : CallOf P f :=
  fun args w => by
    have h1 : fn.name ≠ "runtime.NumGoroutine" := by simpa using hn
    have h2 : fn.body ≠ none := by intro e; rw [e] at hb; cases hb
    simp [callFunc, hf, h1, h2]

section
variable {P : Program} {a : Act} {n : Nat} {L : List (Nat × Value)} {ds : List Nat} {w w' : World} {Q : Exit → Act → World → Prop} {ops : Array Oper} {rest : List Oper}
variable {d : Nat} {ty : TypeId} {pos : String} {after : Array Edge} {v u : Value} {x y z : Operand} {t t' T : TypeId} {k k' : IntKind} {i j : Int} {b c : Bool} {l l' : List UInt8}

/-! Strings. -/
theorem st_adds (h : AgM ds a n L) (hx : ev L x = some (S l)) (hy : ev L y = some (S l')) (hb : l.length + l'.length ≤ 9223372036854775807) (hn : Nat.blt d n = true)
    (q : ∀ a, AgM ds a n ((d, S (l ++ l')) :: L) → wpList P ops Q rest a w) : wpList P ops Q (⟨some d, .binOp .add t x y t', ty, pos, after, none⟩ :: rest) a w :=
  st_ok h rfl rfl hn (by
    have hr := run_string_add_sum (P := P) w ⟨l.toArray⟩ ⟨l'.toArray⟩ (by simpa [ByteArray.size] using hb)
    rw [ByteArray.mk_append_mk] at hr
    simp [execOp, h.eval hx, h.eval hy, S, eqGuard_add, binOp_string_add, hr]) q
theorem s_adds (hx : ev L x = some (S l)) (hy : ev L y = some (S l')) (hb : l.length + l'.length ≤ 9223372036854775807) (hn : Nat.blt d n = true) (q : WL P ops Q rest n ds w ((d, S (l ++ l')) :: L)) : WL P ops Q (⟨some d, .binOp .add t x y t', ty, pos, after, none⟩ :: rest) n ds w L := fun a h => st_adds h hx hy hb hn q -- short
theorem st_eqs (h : AgM ds a n L) (hx : ev L x = some (S l)) (hy : ev L y = some (S l')) (hn : Nat.blt d n = true)
    (q : ∀ a, AgM ds a n ((d, .bool (decide (l = l'))) :: L) → wpList P ops Q rest a w) : wpList P ops Q (⟨some d, .binOp .eql t x y t', ty, pos, after, none⟩ :: rest) a w :=
  st_ok h rfl rfl hn (by simp [execOp, h.eval hx, h.eval hy, S, eqGuard_at_string, binOp_string_eql]; by_cases e : l = l' <;> simp [e]) q
theorem s_eqs (hx : ev L x = some (S l)) (hy : ev L y = some (S l')) (hn : Nat.blt d n = true) (q : WL P ops Q rest n ds w ((d, .bool (decide (l = l'))) :: L)) : WL P ops Q (⟨some d, .binOp .eql t x y t', ty, pos, after, none⟩ :: rest) n ds w L := fun a h => st_eqs h hx hy hn q -- short
theorem st_nes (h : AgM ds a n L) (hx : ev L x = some (S l)) (hy : ev L y = some (S l')) (hn : Nat.blt d n = true)
    (q : ∀ a, AgM ds a n ((d, .bool (decide (l ≠ l'))) :: L) → wpList P ops Q rest a w) : wpList P ops Q (⟨some d, .binOp .neq t x y t', ty, pos, after, none⟩ :: rest) a w :=
  st_ok h rfl rfl hn (by simp [execOp, h.eval hx, h.eval hy, S, eqGuard_at_string, binOp_string_neq]; by_cases e : l = l' <;> simp [e]) q
theorem s_nes (hx : ev L x = some (S l)) (hy : ev L y = some (S l')) (hn : Nat.blt d n = true) (q : WL P ops Q rest n ds w ((d, .bool (decide (l ≠ l'))) :: L)) : WL P ops Q (⟨some d, .binOp .neq t x y t', ty, pos, after, none⟩ :: rest) n ds w L := fun a h => st_nes h hx hy hn q -- short
variable {A : Option Addr} {m cp : Nat}
theorem st_lenS (h : AgM ds a n L) (hx : ev L x = some (.slice A m cp)) (hu : P.underlying t = some (.slice T)) (hn : Nat.blt d n = true) (q : ∀ a, AgM ds a n ((d, .int .i64 (m : Int)) :: L) → wpList P ops Q rest a w) :
    wpList P ops Q (⟨some d, .call ⟨.builtin .len, #[x], #[t]⟩, ty, pos, after, none⟩ :: rest) a w :=
  st_ok h rfl rfl hn (by
    rw [exec_builtin]; unfold builtin
    simp [h.eval hx, Builtin.len_, run_underlying hu]
    rfl) q
theorem lnS (hx : ev L x = some (.slice A m cp)) (hu : P.underlying t = some (.slice T)) (hn : Nat.blt d n = true) (q : WL P ops Q rest n ds w ((d, .int .i64 (m : Int)) :: L)) : WL P ops Q (⟨some d, .call ⟨.builtin .len, #[x], #[t]⟩, ty, pos, after, none⟩ :: rest) n ds w L := fun a h => st_lenS h hx hu hn q -- short
theorem st_capS (h : AgM ds a n L) (hx : ev L x = some (.slice A m cp)) (hu : P.underlying t = some (.slice T)) (hn : Nat.blt d n = true) (q : ∀ a, AgM ds a n ((d, .int .i64 (cp : Int)) :: L) → wpList P ops Q rest a w) :
    wpList P ops Q (⟨some d, .call ⟨.builtin .cap, #[x], #[t]⟩, ty, pos, after, none⟩ :: rest) a w :=
  st_ok h rfl rfl hn (by
    rw [exec_builtin]; unfold builtin
    simp [h.eval hx, Builtin.cap_, run_underlying hu]
    rfl) q
theorem s_capS (hx : ev L x = some (.slice A m cp)) (hu : P.underlying t = some (.slice T)) (hn : Nat.blt d n = true) (q : WL P ops Q rest n ds w ((d, .int .i64 (cp : Int)) :: L)) : WL P ops Q (⟨some d, .call ⟨.builtin .cap, #[x], #[t]⟩, ty, pos, after, none⟩ :: rest) n ds w L := fun a h => st_capS h hx hu hn q -- short
/-- x[:hi] -/
theorem st_sl_h {p : Nat} {α : Type} {E : Enc α} {bytes : Nat} (h : AgM ds a n L) (hx : ev L x = some (.slice A m cp)) (hz : ev L z = some (.int k' j)) (he : ElemOf P t T E bytes) (h0 : 0 ≤ j) (h2 : j ≤ cp) (hp : j.toNat = p) (hn : Nat.blt d n = true)
    (q : ∀ a, AgM ds a n ((d, .slice A p cp) :: L) → wpList P ops Q rest a w) : wpList P ops Q (⟨some d, .slice t x none (some z) none, ty, pos, after, none⟩ :: rest) a w := by
  subst hp
  obtain ⟨inf, zv, hin, _, hsz, _⟩ := he.info
  exact st_ok h rfl rfl hn (by
    have hA : Option.map (fun x => Addr.add x 0) A = A := by cases A <;> simp [Addr.add]
    simp [execOp, h.eval hx, h.eval hz, Instr.sliceAt, Instr.slice, run_underlying he.und, Instr.sliceBounds, Instr.sliceBound, asIntOf, h0, h2, sizeOf, typeInfo, hin, hA]) q
theorem s_sl_h {p : Nat} {α : Type} {E : Enc α} {bytes : Nat} (hx : ev L x = some (.slice A m cp)) (hz : ev L z = some (.int k' j)) (he : ElemOf P t T E bytes) (h0 : 0 ≤ j) (h2 : j ≤ cp) (hp : j.toNat = p) (hn : Nat.blt d n = true) (q : WL P ops Q rest n ds w ((d, .slice A p cp) :: L)) : WL P ops Q (⟨some d, .slice t x none (some z) none, ty, pos, after, none⟩ :: rest) n ds w L := fun a h => st_sl_h h hx hz he h0 h2 hp hn q -- short
/-- x[lo:] -/
theorem st_sl_l {p : Nat} {α : Type} {E : Enc α} {bytes : Nat} (h : AgM ds a n L) (hx : ev L x = some (.slice A m cp)) (hy : ev L y = some (.int k i)) (he : ElemOf P t T E bytes) (h0 : 0 ≤ i) (h1 : i ≤ m) (hp : i.toNat = p) (hn : Nat.blt d n = true)
    (q : ∀ a, AgM ds a n ((d, .slice (if cp = p then A else A.map (·.add (p * E.sz))) (m - p) (cp - p)) :: L) → wpList P ops Q rest a w) : wpList P ops Q (⟨some d, .slice t x (some y) none none, ty, pos, after, none⟩ :: rest) a w := by
  subst hp
  obtain ⟨inf, zv, hin, _, hsz, _⟩ := he.info
  exact st_ok h rfl rfl hn (by
    simp [execOp, h.eval hx, h.eval hy, Instr.sliceAt, Instr.slice, run_underlying he.und, Instr.sliceBounds, Instr.sliceBound, asIntOf, h0, h1, sizeOf, typeInfo, hin, hsz]) q
theorem s_sl_l {p : Nat} {α : Type} {E : Enc α} {bytes : Nat} (hx : ev L x = some (.slice A m cp)) (hy : ev L y = some (.int k i)) (he : ElemOf P t T E bytes) (h0 : 0 ≤ i) (h1 : i ≤ m) (hp : i.toNat = p) (hn : Nat.blt d n = true) (q : WL P ops Q rest n ds w ((d, .slice (if cp = p then A else A.map (·.add (p * E.sz))) (m - p) (cp - p)) :: L)) : WL P ops Q (⟨some d, .slice t x (some y) none none, ty, pos, after, none⟩ :: rest) n ds w L := fun a h => st_sl_l h hx hy he h0 h1 hp hn q -- short
/-- x[:hi:max] -/
theorem st_sl_hm {p p' : Nat} {α : Type} {E : Enc α} {bytes : Nat} {o : Operand} {k'' : IntKind} {r : Int} (h : AgM ds a n L) (hx : ev L x = some (.slice A m cp)) (hz : ev L z = some (.int k' j)) (ho : ev L o = some (.int k'' r)) (he : ElemOf P t T E bytes) (h0 : 0 ≤ j) (h1 : j ≤ r) (h2 : r ≤ cp) (hp : j.toNat = p) (hp' : r.toNat = p') (hn : Nat.blt d n = true)
    (q : ∀ a, AgM ds a n ((d, .slice A p p') :: L) → wpList P ops Q rest a w) : wpList P ops Q (⟨some d, .slice t x none (some z) (some o), ty, pos, after, none⟩ :: rest) a w := by
  subst hp hp'
  obtain ⟨inf, zv, hin, _, hsz, _⟩ := he.info
  exact st_ok h rfl rfl hn (by
    have h3 : 0 ≤ r := by omega
    have h4 : j ≤ ((r.toNat : Nat) : Int) := by omega
    have hA : Option.map (fun x => Addr.add x 0) A = A := by cases A <;> simp [Addr.add]
    simp [execOp, h.eval hx, h.eval hz, h.eval ho, Instr.sliceAt, Instr.slice, run_underlying he.und, Instr.sliceBounds, Instr.sliceBound, asIntOf, h0, h2, h3, h4, sizeOf, typeInfo, hin, hA]
    intro hc; omega) q

theorem s_sl_hm {p p' : Nat} {α : Type} {E : Enc α} {bytes : Nat} {o : Operand} {k'' : IntKind} {r : Int} (hx : ev L x = some (.slice A m cp)) (hz : ev L z = some (.int k' j)) (ho : ev L o = some (.int k'' r)) (he : ElemOf P t T E bytes) (h0 : 0 ≤ j) (h1 : j ≤ r) (h2 : r ≤ cp) (hp : j.toNat = p) (hp' : r.toNat = p') (hn : Nat.blt d n = true) (q : WL P ops Q rest n ds w ((d, .slice A p p') :: L)) : WL P ops Q (⟨some d, .slice t x none (some z) (some o), ty, pos, after, none⟩ :: rest) n ds w L := fun a h => st_sl_hm h hx hz ho he h0 h1 h2 hp hp' hn q -- short
/-! Memory. -/
/-- A block that is known whole. -/
def Blk (w : World) (g : Nat) (T : TypeId) (cs : List Value) : Prop := w.heap[g]? = some (.cells cs.toArray T (0, 0))
theorem Blk.lt {g : Nat} {cs : List Value} (h : Blk w g T cs) : g < w.heap.size := (Array.getElem?_eq_some_iff.1 h).1
theorem Blk.cell {g : Nat} {cs : List Value} (h : Blk w g T cs) (o : Nat) : w.cell? ⟨g, o, none⟩ = cs[o]? := by
  rw [cell_of_row w g o cs.toArray T (0, 0) h]; simp
theorem Blk.cells {g : Nat} {cs : List Value} (h : Blk w g T cs) : Cells w ⟨g, 0, none⟩ cs := fun j u hu => by rw [lit_add, Nat.zero_add, h.cell]; exact hu
theorem Blk.fr {g : Nat} {cs : List Value} {S : List Nat} (h : Blk w g T cs) (hf : Fr S w w') (hn : g ∉ S) : Blk w' g T cs := (hf.block g h.lt hn).trans h
theorem Blk.ext {g : Nat} {cs : List Value} (h : Blk w g T cs) (hf : Fr [] w w') : Blk w' g T cs := h.fr hf (by simp)
theorem st_load {ad : Addr} (h : AgM ds a n L) (hx : ev L x = some (.pointer (some ad))) (hc : w.cell? ad = some v) (hg : NotAgg P t) (hn : Nat.blt d n = true) (q : ∀ a, AgM ds a n ((d, v) :: L) → wpList P ops Q rest a w) :
    wpList P ops Q (⟨some d, .load t x, ty, pos, after, none⟩ :: rest) a w :=
  st_ok h rfl rfl hn (by simp [execOp, h.eval hx, Instr.loadAt, Instr.sureAddr, loadVar, hg w, hc]) q
theorem st_loadA {ad : Addr} {cs : List Value} (h : AgM ds a n L) (hx : ev L x = some (.pointer (some ad))) (hc : Cells w ad cs) (hg : AggOf P t cs.length) (hn : Nat.blt d n = true) (q : ∀ a, AgM ds a n ((d, .agg cs.toArray) :: L) → wpList P ops Q rest a w) :
    wpList P ops Q (⟨some d, .load t x, ty, pos, after, none⟩ :: rest) a w :=
  st_ok h rfl rfl hn (by simp [execOp, h.eval hx, Instr.loadAt, Instr.sureAddr, loadVar, hg.1 w, hg.2 w, run_loadCells_list w ad cs hc]) q
theorem s_loadA {ad : Addr} {cs : List Value} (hx : ev L x = some (.pointer (some ad))) (hc : Cells w ad cs) (hg : AggOf P t cs.length) (hn : Nat.blt d n = true) (q : WL P ops Q rest n ds w ((d, .agg cs.toArray) :: L)) : WL P ops Q (⟨some d, .load t x, ty, pos, after, none⟩ :: rest) n ds w L := fun a h => st_loadA h hx hc hg hn q -- short
theorem st_fieldAddr {ad : Addr} {f off : Nat} (h : AgM ds a n L) (hx : ev L x = some (.pointer (some ad))) (hf : FieldAt P t f off) (hn : Nat.blt d n = true) (q : ∀ a, AgM ds a n ((d, .pointer (some (ad.add off))) :: L) → wpList P ops Q rest a w) :
    wpList P ops Q (⟨some d, .fieldAddr t x f, ty, pos, after, none⟩ :: rest) a w :=
  st_ok h rfl rfl hn (by simp [execOp, h.eval hx, hf ad w]) q
theorem fad {ad : Addr} {f off : Nat} (hx : ev L x = some (.pointer (some ad))) (hf : FieldAt P t f off) (hn : Nat.blt d n = true) (q : WL P ops Q rest n ds w ((d, .pointer (some (ad.add off))) :: L)) : WL P ops Q (⟨some d, .fieldAddr t x f, ty, pos, after, none⟩ :: rest) n ds w L := fun a h => st_fieldAddr h hx hf hn q -- short
theorem st_nilCheck {ad : Addr} (h : AgM ds a n L) (hx : ev L x = some (.pointer (some ad))) (hn : Nat.blt d n = true) (q : ∀ a, AgM ds a n ((d, .pointer (some ad)) :: L) → wpList P ops Q rest a w) :
    wpList P ops Q (⟨some d, .nilCheck x, ty, pos, after, none⟩ :: rest) a w :=
  st_ok h rfl rfl hn (by simp [execOp, h.eval hx]) q
theorem nlc {ad : Addr} (hx : ev L x = some (.pointer (some ad))) (hn : Nat.blt d n = true) (q : WL P ops Q rest n ds w ((d, .pointer (some ad)) :: L)) : WL P ops Q (⟨some d, .nilCheck x, ty, pos, after, none⟩ :: rest) n ds w L := fun a h => st_nilCheck h hx hn q -- short
/-- A store of one cell into a block that is known whole. -/
theorem st_store {g o : Nat} {cs : List Value} (h : AgM ds a n L) (hx : ev L x = some (.pointer (some ⟨g, o, none⟩))) (hy : ev L y = some v) (hb : Blk w g T cs) (ho : Nat.blt o cs.length = true) (h1 : v.oneCell' = true) (hc : v.cells = #[v]) (hs : SizeOf P t 1)
    (q : ∀ w', Blk w' g T (cs.set o v) → Fr [g] w w' → w'.heap.size = w.heap.size → ∀ a, AgM ds a n L → wpList P ops Q rest a w') : wpList P ops Q (⟨none, .store t x y, ty, pos, after, none⟩ :: rest) a w := by
  have ho' : o < cs.length := by simpa [Nat.blt_eq] using ho
  have hcell : w.cell? ⟨g, o, none⟩ = some cs[o] := by rw [hb.cell, List.getElem?_eq_getElem ho']
  have hfz : w.frozen? ⟨g, o, none⟩ = false := frozen_of_row w g o cs.toArray T hb
  refine st_skip h rfl rfl (w' := w.setCell ⟨g, o, none⟩ v) ?_ (q _ ?_ (Fr.setCell w ⟨g, o, none⟩ v) (by simp))
  · simp [execOp, h.eval hx, h.eval hy, Instr.storeAt, Instr.sureAddr, storeVar, hs w, hc, storeCells, Addr.add_zero', run_store P w _ v _ h1, hcell, hfz]
  · unfold Blk
    rw [heap_setCell_same w g o cs.toArray T v hb]
    simp
theorem st_box {cs : List Value} (h : AgM ds a n L) (hx : ev L x = some v) (hc : v.cells = cs.toArray) (hn : Nat.blt d n = true)
    (q : ∀ w', Blk w' w.heap.size T cs → Fr [] w w' → w'.heap.size = w.heap.size + 1 → ∀ a, AgM ds a n ((d, .pointer (some ⟨w.heap.size, 0, none⟩)) :: L) → wpList P ops Q rest a w') :
    wpList P ops Q (⟨some d, .box T x, ty, pos, after, none⟩ :: rest) a w :=
  st_ok h rfl rfl hn (w' := w.alloc (.cells cs.toArray T)) (by simp [execOp, h.eval hx, Instr.box, newVar, newRow, hc]) (q _ (heap_alloc_new w _) (Fr.alloc [] w _) (by simp))
theorem s_box {cs : List Value} (hx : ev L x = some v) (hc : v.cells = cs.toArray) (hn : Nat.blt d n = true) (q : ∀ w', Blk w' w.heap.size T cs → Fr [] w w' → w'.heap.size = w.heap.size + 1 → WL P ops Q rest n ds w' ((d, .pointer (some ⟨w.heap.size, 0, none⟩)) :: L)) : WL P ops Q (⟨some d, .box T x, ty, pos, after, none⟩ :: rest) n ds w L := fun a h => st_box h hx hc hn q -- short
theorem st_alloc {cs : List Value} (h : AgM ds a n L) (hz : ∀ w : World, (zeroValue T).run P w = .ok v w) (hc : v.cells = cs.toArray) (hn : Nat.blt d n = true)
    (q : ∀ w', Blk w' w.heap.size T cs → Fr [] w w' → w'.heap.size = w.heap.size + 1 → ∀ a, AgM ds a n ((d, .pointer (some ⟨w.heap.size, 0, none⟩)) :: L) → wpList P ops Q rest a w') :
    wpList P ops Q (⟨some d, .alloc T, ty, pos, after, none⟩ :: rest) a w :=
  st_ok h rfl rfl hn (w' := w.alloc (.cells cs.toArray T)) (by simp [execOp, Instr.alloc, hz w, newVar, newRow, hc]) (q _ (heap_alloc_new w _) (Fr.alloc [] w _) (by simp))
theorem s_alloc {cs : List Value} (hz : ∀ w : World, (zeroValue T).run P w = .ok v w) (hc : v.cells = cs.toArray) (hn : Nat.blt d n = true) (q : ∀ w', Blk w' w.heap.size T cs → Fr [] w w' → w'.heap.size = w.heap.size + 1 → WL P ops Q rest n ds w' ((d, .pointer (some ⟨w.heap.size, 0, none⟩)) :: L)) : WL P ops Q (⟨some d, .alloc T, ty, pos, after, none⟩ :: rest) n ds w L := fun a h => st_alloc h hz hc hn q -- short
theorem st_extract {vs : Array Value} {m : Nat} (h : AgM ds a n L) (hx : ev L x = some (.tuple vs)) (hm : vs[m]? = some v) (hn : Nat.blt d n = true) (q : ∀ a, AgM ds a n ((d, v) :: L) → wpList P ops Q rest a w) :
    wpList P ops Q (⟨some d, .extract x m, ty, pos, after, none⟩ :: rest) a w :=
  st_ok h rfl rfl hn (by simp [execOp, h.eval hx, Instr.extract, hm]) q
theorem xt {vs : Array Value} {m : Nat} (hx : ev L x = some (.tuple vs)) (hm : vs[m]? = some v) (hn : Nat.blt d n = true) (q : WL P ops Q rest n ds w ((d, v) :: L)) : WL P ops Q (⟨some d, .extract x m, ty, pos, after, none⟩ :: rest) n ds w L := fun a h => st_extract h hx hm hn q -- short
/-- A call of a function by its name. -/
theorem st_call {f : FuncId} {xs : List Operand} {vs : List Value} {ts : Array TypeId} {Φ : Value → World → Prop} (h : AgM ds a n L) (hx : evs L xs vs) (hf : CallOf P f) (hc : Rets P f vs.toArray w Φ) (hn : Nat.blt d n = true)
    (q : ∀ v w', Φ v w' → ∀ a, AgM ds a n ((d, v) :: L) → wpList P ops Q rest a w') : wpList P ops Q (⟨some d, .call ⟨.value (.func f), xs.toArray, ts⟩, ty, pos, after, none⟩ :: rest) a w :=
  st_enter (w' := w) h rfl rfl hn (by
    rw [execOp_call_go]
    simp only [List.map_toArray, h.evals hx, List.append_toArray, List.nil_append, List.append_nil]
    exact hf _ _) hc q
theorem cl {f : FuncId} {xs : List Operand} {vs : List Value} {ts : Array TypeId} {Φ : Value → World → Prop} (hx : evs L xs vs) (hf : CallOf P f) (hc : Rets P f vs.toArray w Φ) (hn : Nat.blt d n = true) (q : ∀ v w', Φ v w' → WL P ops Q rest n ds w' ((d, v) :: L)) : WL P ops Q (⟨some d, .call ⟨.value (.func f), xs.toArray, ts⟩, ty, pos, after, none⟩ :: rest) n ds w L := fun a h => st_call h hx hf hc hn q -- short
/-- append onto a row of the call's own. -/
theorem st_append {α : Type} {E : Enc α} {ys zs : List α} {bytes base : Nat} (h : AgM ds a n L) (hx : ev L x = some u) (hy : ev L y = some v) (ho : Own E T base w u ys) (hs : Sl E w v zs) (he : ElemOf P t T E bytes)
    (hM : ys.length + zs.length ≤ maxLen) (hb : (ys.length + zs.length) * bytes ≤ 140737488355328) (hbase : base ≤ w.heap.size) (hn : Nat.blt d n = true)
    (q : ∀ v' w', Own E T base w' v' (ys ++ zs) → Fr (blks u) w w' → (v' = u ∨ blks v' = blks u ∨ blks v' = [w.heap.size]) → ∀ a, AgM ds a n ((d, v') :: L) → wpList P ops Q rest a w') :
    wpList P ops Q (⟨some d, .call ⟨.builtin .append, #[x, y], #[t, t]⟩, ty, pos, after, none⟩ :: rest) a w := by
  obtain ⟨inf, zv, h1, h2, h3, h4, h5⟩ := he.info
  obtain ⟨v', w', hr, r1, r2, r3⟩ := run_append (P := P) t ty inf zv bytes he.und h1 h2 h3 h4 h5 ho hs hM hb hbase
  refine st_ok h rfl rfl hn (w' := w') ?_ (q v' w' r1 r2 r3)
  rw [exec_builtin]; unfold builtin
  simp only [List.map_toArray, List.map_cons, List.map_nil, h.eval hx, h.eval hy, Sem.run_bind, hr, Result.andThen_ok, Sem.run_pure]

theorem s_append {α : Type} {E : Enc α} {ys zs : List α} {bytes base : Nat} (hx : ev L x = some u) (hy : ev L y = some v) (ho : Own E T base w u ys) (hs : Sl E w v zs) (he : ElemOf P t T E bytes) (hM : ys.length + zs.length ≤ maxLen) (hb : (ys.length + zs.length) * bytes ≤ 140737488355328) (hbase : base ≤ w.heap.size) (hn : Nat.blt d n = true) (q : ∀ v' w', Own E T base w' v' (ys ++ zs) → Fr (blks u) w w' → (v' = u ∨ blks v' = blks u ∨ blks v' = [w.heap.size]) → WL P ops Q rest n ds w' ((d, v') :: L)) : WL P ops Q (⟨some d, .call ⟨.builtin .append, #[x, y], #[t, t]⟩, ty, pos, after, none⟩ :: rest) n ds w L := fun a h => st_append h hx hy ho hs he hM hb hbase hn q -- short
/-! The ways through a body. -/
theorem Sub.nil : Sub [] L := trivial
theorem Sub.cons {t : Nat} {v : Value} {r : List (Nat × Value)} (h : Lw.look L t = some v) (hr : Sub r L) : Sub ((t, v) :: r) L := ⟨h, hr⟩
theorem argsOk.nil {args : Array Value} : argsOk args [] := trivial
theorem argsOk.cons {args : Array Value} {t : Nat} {v : Value} {r : List (Nat × Value)} (h : args[t]? = some v) (hr : argsOk args r) : argsOk args ((t, v) :: r) := ⟨h, hr⟩
theorem evs_nil : evs L [] [] := trivial
theorem evs_cons {xs : List Operand} {vs : List Value} (h : ev L x = some v) (hr : evs L xs vs) : evs L (x :: xs) (v :: vs) := ⟨h, hr⟩
theorem AgM.known {D : Nat} {b b' : Bool} (h : AgM ds a n L) (hb : look L D = some (.bool b)) (e : b = b') : AgM ds a n ((D, .bool b') :: L) :=
  ⟨h.dfr, h.size, fun t v hv => by
    simp only [look] at hv
    by_cases et : D = t
    · subst et
      simp only [Nat.beq_refl, Bool.cond_true, Option.some.injEq] at hv
      rw [← hv, ← e]; exact h.at_ D _ hb
    · rw [beq_no et] at hv; exact h.at_ t v hv⟩
theorem guard_dec {D : Nat} {p G : Prop} {hp : Decidable p} (h : AgM ds a n L) (hb : look L D = some (.bool (decide p))) (ht : p → AgM ds a n ((D, .bool true) :: L) → G) (hf : ¬ p → AgM ds a n ((D, .bool false) :: L) → G) : G := by
  by_cases e : p
  · exact ht e (h.known hb (by simp [e]))
  · exact hf e (h.known hb (by simp [e]))
theorem guard_ndec {D : Nat} {p G : Prop} {hp : Decidable p} (h : AgM ds a n L) (hb : look L D = some (.bool (!decide p))) (ht : ¬ p → AgM ds a n ((D, .bool true) :: L) → G) (hf : p → AgM ds a n ((D, .bool false) :: L) → G) : G := by
  by_cases e : p
  · exact hf e (h.known hb (by simp [e]))
  · exact ht e (h.known hb (by simp [e]))
theorem guard_any {D : Nat} {b : Bool} {G : Prop} (h : AgM ds a n L) (hb : look L D = some (.bool b)) (ht : b = true → AgM ds a n ((D, .bool true) :: L) → G) (hf : b = false → AgM ds a n ((D, .bool false) :: L) → G) : G := by
  cases b
  · exact hf rfl (h.known hb rfl)
  · exact ht rfl (h.known hb rfl)
/-- The end of a region whose ways meet in one test. -/
def BoolEnd (ds : List Nat) (n r : Nat) (C : Prop) [Decidable C] (L' : List (Nat × Value)) (w0 : World) : Exit → Act → World → Prop := fun e a w => e = .normal ∧ w = w0 ∧ AgM ds a n ((r, .bool (decide C)) :: L')
theorem region_bool {id : Nat} {ol : List Oper} {r : Nat} {L' : List (Nat × Value)} (C : Prop) [Decidable C] (h : AgM ds a n L) (hs : Sub L' L) (h1 : wpList P ol.toArray (BoolEnd ds n r C L' w) ol a w) (h2 : ∀ a, AgM ds a n ((r, .bool (decide C)) :: L') → Q .normal a w) :
    (Code.region id ol.toArray false).wp P Q a w :=
  wp_mono (wp_region_lit h1) (by rintro e a w ⟨rfl, rfl, h⟩; exact h2 a h)
theorem bool_end {r : Nat} {L' : List (Nat × Value)} {C : Prop} [Decidable C] {b : Bool} (h : AgM ds a n L) (hr : look L r = some (.bool b)) (hb : b = decide C) (hs : Sub L' L) : BoolEnd ds n r C L' w .normal a w :=
  ⟨rfl, rfl, h.sub ⟨by rw [← hb]; exact hr, hs⟩⟩
theorem bt {C : Prop} {hC : Decidable C} (h : C) : true = decide C := (decide_eq_true h).symm
theorem bf {C : Prop} {hC : Decidable C} (h : ¬ C) : false = decide C := (decide_eq_false h).symm
theorem bi {p C : Prop} {hp : Decidable p} {hC : Decidable C} (h : p ↔ C) : decide p = decide C := decide_eq_decide.2 h
theorem bn {p C : Prop} {hp : Decidable p} {hC : Decidable C} (h : ¬ p ↔ C) : (!decide p) = decide C := by
  by_cases e : p <;> simp [e] at h ⊢ <;> exact h
end
end Go.Lw
namespace Go.Lw
/-- The condition, where the operation pq has not come up yet. -/
def Sat (pq : Option Nat) (C : World → Prop) (listed : Array Bool) (w : World) : Prop :=
  match pq with
  | none => C w
  | some p => listed.getD p true = false → C w
theorem sat_of {pq : Option Nat} {C : World → Prop} {listed : Array Bool} {w : World} (h : C w) : Sat pq C listed w := by
  unfold Sat; split
  · exact h
  · exact fun _ => h
def wpAnyP (pq : Option Nat) (P : Program) (ops : Array Oper) (Q : Exit → Act → World → Prop) (C : World → Prop) : Nat → Array Bool → Act → World → Prop
  | 0, listed, a, w => Region.ready .any ops listed = [] ∧ Q .normal a w
  | fu + 1, listed, a, w => (Region.ready .any ops listed = [] → Q .normal a w) ∧ ∀ i ∈ Region.ready .any ops listed, wpOp P ops Q i (fun a' w' => Sat pq C (listed.setIfInBounds i true) w' ∧ wpAnyP pq P ops Q C fu (listed.setIfInBounds i true) a' w') a w
/-- Which operations wait for i, directly or through others. -/
def wsetL (i : Nat) : List Oper → List Bool → List Bool
  | [], acc => acc
  | o :: r, acc => wsetL i r (acc ++ [o.after.any (fun e => Region.binds .any e && (Nat.beq e.on i || acc.getD e.on false))])
def wsB (ops : Array Oper) (i m : Nat) : Bool := (wsetL i ops.toList []).getD m false
theorem getD_app_t {acc : List Bool} {b : Bool} {m : Nat} (h : acc.getD m false = true) : (acc ++ [b]).getD m false = true := by
  rcases Nat.lt_or_ge m acc.length with e | e
  · simp only [List.getD] at h ⊢; rwa [List.getElem?_append_left e]
  · simp [List.getD, List.getElem?_eq_none e] at h
theorem wset_mono (i : Nat) : ∀ (r : List Oper) (acc : List Bool) (m : Nat), acc.getD m false = true → (wsetL i r acc).getD m false = true
  | [], _, _, h => h
  | _ :: r, _, m, h => wset_mono i r _ m (getD_app_t h)
theorem wset_why (i : Nat) : ∀ (r : List Oper) (acc : List Bool) (m : Nat), (wsetL i r acc).getD m false = true → acc.getD m false = true ∨ ∃ t o, r[t]? = some o ∧ m = acc.length + t ∧ ∃ e ∈ o.after, Region.binds .any e = true ∧ (e.on = i ∨ (wsetL i r acc).getD e.on false = true)
  | [], _, _, h => .inl h
  | o :: r, acc, m, h => by
    rcases wset_why i r _ m h with h1 | ⟨t, o', h1, h2, e, h3, h4, h5⟩
    · rcases Nat.lt_trichotomy m acc.length with e | e | e
      · refine .inl ?_
        simp only [List.getD] at h1 ⊢
        rwa [List.getElem?_append_left e] at h1
      · subst e
        refine .inr ⟨0, o, rfl, rfl, ?_⟩
        simp only [List.getD, List.getElem?_append_right (Nat.le_refl _), Nat.sub_self, List.getElem?_cons_zero, Option.getD_some] at h1
        obtain ⟨e, he, hb⟩ := Array.any_eq_true'.1 h1
        rw [Bool.and_eq_true, Bool.or_eq_true] at hb
        refine ⟨e, he, hb.1, hb.2.imp Nat.eq_of_beq_eq_true fun h => ?_⟩
        exact wset_mono i r _ _ (getD_app_t h)
      · exfalso
        simp only [List.getD] at h1
        rw [List.getElem?_eq_none (by simp; omega)] at h1
        cases h1
    · exact .inr ⟨t + 1, o', h1, by rw [List.length_append] at h2; simp at h2; omega, e, h3, h4, h5⟩
theorem wsB_why {ops : Array Oper} {i m : Nat} (h : wsB ops i m = true) : ∃ o, ops[m]? = some o ∧ ∃ e ∈ o.after, Region.binds .any e = true ∧ (e.on = i ∨ wsB ops i e.on = true) := by
  rcases wset_why i _ _ _ h with h | ⟨t, o, h1, h2, r⟩
  · cases h
  · simp at h2; subst h2
    exact ⟨o, by rw [← Array.getElem?_toList]; exact h1, r⟩
def Fre (pq : Option Nat) (ops : Array Oper) (listed : Array Bool) (i : Nat) : Bool :=
  Region.free .any ops listed i && match pq with
  | none => true
  | some p => wsB ops i p && (List.range ops.size).all (fun m => !(wsB ops i m && listed.getD m true))
section
variable {P : Program} {ops : Array Oper} {Q : Exit → Act → World → Prop} {C : World → Prop} {pq : Option Nat}
theorem wpAny_of_P : ∀ (fu : Nat) (listed : Array Bool) (a : Act) (w : World), wpAnyP pq P ops Q C fu listed a w → wpAny P .any ops Q fu listed a w
  | 0, _, _, _, h => h
  | fu + 1, _, _, _, h => ⟨h.1, fun i hi => wpOp_mono (fun a' w' k => wpAny_of_P fu _ a' w' k.2) (h.2 i hi)⟩
theorem P_first {i : Nat} {oi : Oper} {v : Value} (hi : ops[i]? = some oi) (hsel : ∀ (j : Nat) (o : Oper) cs b, ops[j]? = some o → o.op ≠ .select cs b) (hQ : ∀ c a w, Q (.panic c) (a.put oi.dst v) w → Q (.panic c) a w) (hwt : ∀ p, pq = some p → wsB ops i p = true) :
    ∀ (fu : Nat) (listed : Array Bool) (a : Act) (w : World), (∀ j oj, ops[j]? = some oj → j ≠ i → listed.getD j true = false → (∀ e ∈ oj.after, Region.binds .any e = true → e.on ≠ i) → oi.apart ops oj = true) →
      i ∈ Region.ready .any ops listed → (∀ p, pq = some p → ∀ m, wsB ops i m = true → listed.getD m true = false) → YieldsIf P ops C oi v a → C w → wpAnyP pq P ops Q C fu (listed.setIfInBounds i true) (a.put oi.dst v) w → wpAnyP pq P ops Q C (fu + 1) listed a w := by
  intro fu
  induction fu with
  | zero =>
    intro listed a w _ hr _ hy hC H
    refine ⟨fun e => (by rw [e] at hr; cases hr), fun j hj => ?_⟩
    rcases Decidable.em (j = i) with rfl | hne
    · exact hy.wpOp hi hC ⟨sat_of hC, H⟩
    · exact absurd (ready_mono hj hne) (by rw [H.1]; simp)
  | succ fu ih =>
    intro listed a w hfr hr hp hy hC H
    refine ⟨fun e => (by rw [e] at hr; cases hr), fun j hj => ?_⟩
    rcases Decidable.em (j = i) with rfl | hne
    · exact hy.wpOp hi hC ⟨sat_of hC, H⟩
    obtain ⟨hju, oj, hoj, hall⟩ := mem_ready.1 hj
    have flip : ∀ m, listed.getD m true = false → ¬ listed.getD m false = true := fun m hun => by
      rcases Nat.lt_or_ge m listed.size with h | h
      · simp [h] at hun ⊢; exact hun
      · simp [Array.getElem?_eq_none h]
    have hun' := flip i (mem_ready.1 hr).1
    have hno : ∀ e ∈ oj.after, Region.binds .any e = true → e.on ≠ i := fun e he hb heq => hun' (heq ▸ hall e he hb)
    have nw : ∀ p, pq = some p → ∀ m om, ops[m]? = some om → (∀ e ∈ om.after, Region.binds .any e = true → listed.getD e.on false = true) → ¬ wsB ops i m = true := fun p e m om hm hal hw => by
      obtain ⟨o, ho, e', he, hb, h⟩ := wsB_why hw
      rw [hm] at ho; cases ho
      rcases h with h | h
      · exact hun' (h ▸ hal e' he hb)
      · exact flip _ (hp p e _ h) (hal e' he hb)
    have hjw : ∀ p, pq = some p → ¬ wsB ops i j = true := fun p e => nw p e j oj hoj hall
    have hiw : ∀ p, pq = some p → ¬ wsB ops i i = true := fun p e => by
      obtain ⟨_, o, ho, hal⟩ := mem_ready.1 hr
      exact nw p e i o ho hal
    have h2 := wpOp_putIf hoj (hfr j oj hoj hne hju hno) (fun cs b => hsel i oi cs b hi) (fun cs b => hsel j oj cs b hoj) hQ hy (H.2 j (ready_mono hj hne))
    refine wpOp_mono (fun a' w' k => ?_) h2
    have hc' : C w' := by
      have hs := k.2.1
      unfold Sat at hs
      split at hs
      · exact hs
      · rename_i p
        have hpw := hwt p rfl
        refine hs ?_
        have n1 : j ≠ p := fun e => hjw p rfl (by rw [e]; exact hpw)
        have n2 : i ≠ p := fun e => hiw p rfl (by rw (occs := .pos [2]) [e]; exact hpw)
        rw [getD_set_ne true n1, getD_set_ne true n2]
        exact hp p rfl p hpw
    refine ⟨sat_of hc', ih (listed.setIfInBounds j true) a' w' (fun m om hm hmi hmu hmn => hfr m om hm hmi ?_ hmn) (ready_mono hr (Ne.symm hne)) (fun p e m hm => by
      have n1 : j ≠ m := fun e' => hjw p e (by rw [e']; exact hm)
      rw [getD_set_ne true n1]; exact hp p e m hm) k.1 hc' ?_⟩
    · rcases Decidable.em (j = m) with rfl | hjm
      · exact hju
      · rwa [getD_set_ne true hjm] at hmu
    · rw [Array.setIfInBounds_comm _ _ hne]; exact k.2.2
theorem P_take {i : Nat} {oi : Oper} {v : Value} {fu : Nat} {listed : Array Bool} {a : Act} {w : World} (hi : ops[i]? = some oi) (hs : Region.noSelect ops = true) (hf : Fre pq ops listed i = true) (hr : (Region.ready .any ops listed).contains i = true)
    (hQ : ∀ c a w, Q (.panic c) (a.put oi.dst v) w → Q (.panic c) a w) (hy : YieldsIf P ops C oi v a) (hC : C w) (h : wpAnyP pq P ops Q C fu (listed.setIfInBounds i true) (a.put oi.dst v) w) : wpAnyP pq P ops Q C (fu + 1) listed a w := by
  unfold Fre at hf
  rw [Bool.and_eq_true] at hf
  refine P_first hi (Region.noSelect_spec hs) hQ (fun p e => ?_) fu listed a w (Region.free_spec hi hf.1) (by simpa using hr) (fun p e m hm => ?_) hy hC h
  · have := hf.2; subst e; simp only [Bool.and_eq_true] at this; exact this.1
  · have := hf.2; subst e; simp only [Bool.and_eq_true, List.all_eq_true, List.mem_range] at this
    obtain ⟨o, ho, _⟩ := wsB_why hm
    have h2 := this.2 m (Array.getElem?_eq_some_iff.1 ho).1
    rw [hm] at h2; simpa using h2
theorem P_all {rs : List Nat} {fu : Nat} {listed : Array Bool} {a : Act} {w : World} (hr : Region.ready .any ops listed = rs) (hne : rs ≠ [])
    (h : ∀ i ∈ rs, wpOp P ops Q i (fun a' w' => Sat pq C (listed.setIfInBounds i true) w' ∧ wpAnyP pq P ops Q C fu (listed.setIfInBounds i true) a' w') a w) : wpAnyP pq P ops Q C (fu + 1) listed a w :=
  ⟨fun e => absurd (hr.symm.trans e) hne, fun i hi => h i (hr ▸ hi)⟩
theorem P_done {listed : Array Bool} {a : Act} {w : World} (hr : Region.ready .any ops listed = []) (h : Q .normal a w) : ∀ fu, wpAnyP pq P ops Q C fu listed a w
  | 0 => ⟨hr, h⟩
  | _ + 1 => ⟨fun _ => h, by rw [hr]; intro i hi; cases hi⟩
end
end Go.Lw
namespace Go.Lw
open Go.RowKit
section
variable {P : Program} {a : Act} {n : Nat} {L : List (Nat × Value)} {ds : List Nat} {C : World → Prop} {Qa : Act → Prop} {ops : Array Oper} {rest : List Oper} {o : Oper}
theorem qt_ok {d : Nat} {v : Value} (h : AgM ds a n L) (hg : o.guard = none) (hd : o.dst = some d) (hn : Nat.blt d n = true) (hr : ∀ w, C w → (execOp a.eval o).run P w = .ok (.value v) w)
    (k : ∀ a, AgM ds a n ((d, v) :: L) → wpQuiet P ops C Qa rest a) : wpQuiet P ops C Qa (o :: rest) a := by
  unfold wpQuiet
  rw [if_pos (by simp [Region.wanted, hg])]
  refine ⟨v, fun w hw => ?_, ?_⟩
  · unfold Oper.quietAt; rw [hr w hw]; exact ⟨rfl, rfl⟩
  · rw [hd]; exact k _ (h.put hn v)
theorem qd_no {d j dj : Nat} {oj : Oper} {want b : Bool} (h : AgM ds a n L) (hg : o.guard = some (j, want)) (hj : ops[j]? = some oj) (hdj : oj.dst = some dj) (hnj : Nat.blt dj n = true)
    (hb : look L dj = some (.bool b)) (hne : (b == want) = false) (hd : o.dst = some d) (hn : Nat.blt d n = true)
    (k : ∀ a, AgM ds a n ((d, undef) :: L) → wpQuiet P ops C Qa rest a) : wpQuiet P ops C Qa (o :: rest) a := by
  have hy := yielded_of (ops := ops) h hj hdj hnj hb
  unfold wpQuiet
  rw [if_neg (by simp only [Region.wanted, hg, hy]; simpa using hne), hd]
  exact k _ (h.put hn undef)
theorem qd_yes {j dj : Nat} {oj : Oper} {want b : Bool} (h : AgM ds a n L) (hg : o.guard = some (j, want)) (hj : ops[j]? = some oj) (hdj : oj.dst = some dj) (hnj : Nat.blt dj n = true)
    (hb : look L dj = some (.bool b)) (he : (b == want) = true)
    (k : wpQuiet P ops C Qa ({ o with guard := none } :: rest) a) : wpQuiet P ops C Qa (o :: rest) a := by
  have hy := yielded_of (ops := ops) h hj hdj hnj hb
  unfold wpQuiet at k ⊢
  rw [if_pos (by simp [Region.wanted])] at k
  rw [if_pos (by simp only [Region.wanted, hg, hy]; simpa using he)]
  exact k
/-- A region that draws its order, of quiet operations: in the order of the text; behind it any later world. -/
theorem region_quiet {id : Nat} {Q : Exit → Act → World → Prop} {w : World} {l : List Oper} (hm : P.follows .mixedOrders = true) (hB : Region.lexB .any l.toArray = true)
    (h : wpQuiet P l.toArray (fun w' => Fr [] w w') (fun a' => ∀ w', Fr [] w w' → Q .normal a' w') l a) : (Code.region id l.toArray true).wp P Q a w :=
  wp_region_quiet (C := fun w' => Fr [] w w') hm hB (Fr.drew [] w) (by simpa using h)
/-- The end of a region: no way out but the normal one. -/
def NormEnd (K : Act → World → Prop) : Exit → Act → World → Prop
  | .normal, a, w => K a w
  | _, _, _ => False
/-- A region that draws its order, of mixed operations, under a condition on all worlds that come up. -/
theorem region_heldP (pq : Option Nat) {id : Nat} {Q : Exit → Act → World → Prop} {w : World} {l : List Oper} (C : World → World → Prop) (hm : P.follows .mixedOrders = true)
    (h : ∀ w', Fr [] w w' → wpAnyP pq P l.toArray (NormEnd (Q .normal)) (C w') l.length (Array.replicate l.length false) a w') : (Code.region id l.toArray true).wp P Q a w := by
  refine wp_mono (wp_region_any (Q := NormEnd (Q .normal)) hm (wpAny_of_P (C := C w.drew) _ _ _ _ (by simpa using h _ (Fr.drew [] w)))) ?_
  intro e a w hq
  cases e <;> first | exact hq | exact hq.elim
theorem region_held {id : Nat} {Q : Exit → Act → World → Prop} {w : World} {l : List Oper} (C : World → World → Prop) (hm : P.follows .mixedOrders = true)
    (h : ∀ w', Fr [] w w' → wpAnyP none P l.toArray (NormEnd (Q .normal)) (C w') l.length (Array.replicate l.length false) a w') : (Code.region id l.toArray true).wp P Q a w := region_heldP none C hm h
section
variable {K : Act → World → Prop} {fu : Nat} {listed : Array Bool} {pq : Option Nat} {w : World}
/-- An operation with this guard is wanted. -/
def Wd (ops : Array Oper) (n : Nat) (L : List (Nat × Value)) (G : Option (Nat × Bool)) : Prop := ∀ a ds, AgM ds a n L → ∀ o : Oper, o.guard = G → Region.wanted o (yielded ops a.tmps) = true
theorem wn : Wd ops n L none := fun _ _ _ o ho => by simp [Region.wanted, ho]
theorem hd_ok (ix : Nat) (hsel : Region.noSelect ops = true) (hfr : Fre pq ops listed ix = true) (hre : (Region.ready .any ops listed).contains ix = true) (hC : C w) {d : Nat} {v : Value} (h : AgM ds a n L) (hG : Wd ops n L o.guard) (hix : ops[ix]? = some o) (hd : o.dst = some d) (hn : Nat.blt d n = true)
    (hr : ∀ w, C w → (execOp a.eval o).run P w = .ok (.value v) w) (k : ∀ a, AgM ds a n ((d, v) :: L) → wpAnyP pq P ops (NormEnd K) C fu (listed.setIfInBounds ix true) a w) : wpAnyP pq P ops (NormEnd K) C (fu + 1) listed a w :=
  P_take hix hsel hfr hre (fun _ _ _ h => h) (.inl ⟨hG a ds h o rfl, hr⟩) hC (by rw [hd]; exact k _ (h.put hn v))
/-- The one operation that may come up. -/
theorem hd_one (ix : Nat) (hr : Region.ready .any ops listed = [ix]) (hix : ops[ix]? = some o) (k : wpList P ops (NormEnd fun a' w' => Sat pq C (listed.setIfInBounds ix true) w' ∧ wpAnyP pq P ops (NormEnd K) C fu (listed.setIfInBounds ix true) a' w') [o] a w) :
    wpAnyP pq P ops (NormEnd K) C (fu + 1) listed a w := by
  refine P_all hr (by simp) fun i hi => ?_
  simp at hi; subst hi
  unfold wpOp
  rw [hix]
  unfold wpList at k
  simp only
  split
  · rename_i hw
    rw [if_pos hw] at k
    rcases k with k | ⟨_, _, _, k⟩
    · refine .inl (Oper.wp_mono (fun a w h => h) ?_)
      unfold Oper.wp at k ⊢
      generalize (execOp a.eval o).run P w = r at k ⊢
      cases r with
      | ok nx w' =>
        cases nx <;> simp only [Oper.upon] at k ⊢ <;> first
          | exact k
          | exact Calls.mono k (fun e w'' he => by cases e <;> first | exact he | exact he.elim | (obtain ⟨_, _, he⟩ := he; exact he.elim))
          | exact Rows.mono k (fun _ _ he => he)
      | halt x w' => cases x <;> simp only [Oper.upon] at k ⊢ <;> exact k.elim
    · exact k.elim
  · rename_i hw
    rw [if_neg hw] at k
    exact k
theorem hd_end (hr : Region.ready .any ops listed = []) (h : K a w) : wpAnyP pq P ops (NormEnd K) C fu listed a w := P_done hr h fu
theorem hd_next {W : Act → World → Prop} (hC : C w) (h : W a w) : wpList P ops (NormEnd fun a' w' => Sat pq C listed w' ∧ W a' w') [] a w := ⟨sat_of hC, h⟩
theorem hd_past {W : Act → World → Prop} {p : Nat} (hp : listed.getD p true = true) (h : W a w) : wpList P ops (NormEnd fun a' w' => Sat (some p) C listed w' ∧ W a' w') [] a w := ⟨fun e => absurd (hp.symm.trans e) (by simp), h⟩
end
variable {d : Nat} {ty : TypeId} {pos : String} {after : Array Edge} {v u : Value} {x y z : Operand} {t t' T : TypeId} {k k' : IntKind} {i j : Int} {b c : Bool} {l l' : List UInt8} {A : Option Addr} {m cp : Nat} {G : Option (Nat × Bool)}
theorem qt_move (h : AgM ds a n L) (hx : ev L x = some v) (hn : Nat.blt d n = true) (q : ∀ a, AgM ds a n ((d, v) :: L) → wpQuiet P ops C Qa rest a) :
    wpQuiet P ops C Qa (⟨some d, .move x, ty, pos, after, none⟩ :: rest) a :=
  qt_ok h rfl rfl hn (fun w _hw => by simp [execOp, h.eval hx]) q
theorem qt_assign (h : AgM ds a n L) (hx : ev L x = some v) (hn : Nat.blt d n = true) (q : ∀ a, AgM ds a n ((d, v) :: L) → wpQuiet P ops C Qa rest a) :
    wpQuiet P ops C Qa (⟨some d, .assign x, ty, pos, after, none⟩ :: rest) a :=
  qt_ok h rfl rfl hn (fun w _hw => by simp [execOp, h.eval hx]) q
theorem qt_pick_t {z : Value} {x1 x2 : Operand} (h : AgM ds a n L) (hx : ev L x = some (.bool b)) (hb : b = true) (hv : ev L x1 = some z) (hn : Nat.blt d n = true) (q : ∀ a, AgM ds a n ((d, z) :: L) → wpQuiet P ops C Qa rest a) :
    wpQuiet P ops C Qa (⟨some d, .pick x x1 x2, ty, pos, after, none⟩ :: rest) a :=
  qt_ok h rfl rfl hn (fun w _hw => by subst hb; simp [execOp, h.eval hx, asBool, h.eval hv]) q
theorem qt_pick_f {z : Value} {x1 x2 : Operand} (h : AgM ds a n L) (hx : ev L x = some (.bool b)) (hb : b = false) (hv : ev L x2 = some z) (hn : Nat.blt d n = true) (q : ∀ a, AgM ds a n ((d, z) :: L) → wpQuiet P ops C Qa rest a) :
    wpQuiet P ops C Qa (⟨some d, .pick x x1 x2, ty, pos, after, none⟩ :: rest) a :=
  qt_ok h rfl rfl hn (fun w _hw => by subst hb; simp [execOp, h.eval hx, asBool, h.eval hv]) q
theorem qt_sub {z : Int} (h : AgM ds a n L) (hx : ev L x = some (.int k i)) (hy : ev L y = some (.int k j)) (hz : k.wrap (i - j) = z) (hn : Nat.blt d n = true) (q : ∀ a, AgM ds a n ((d, .int k z) :: L) → wpQuiet P ops C Qa rest a) :
    wpQuiet P ops C Qa (⟨some d, .binOp .sub t x y t', ty, pos, after, none⟩ :: rest) a :=
  qt_ok h rfl rfl hn (fun w _hw => by subst hz; simp [execOp, h.eval hx, h.eval hy, eqGuard_sub, binOp_sub, Op.intArith]) q
theorem qt_lt (h : AgM ds a n L) (hx : ev L x = some (.int k i)) (hy : ev L y = some (.int k j)) (hn : Nat.blt d n = true) (q : ∀ a, AgM ds a n ((d, .bool (decide (i < j))) :: L) → wpQuiet P ops C Qa rest a) :
    wpQuiet P ops C Qa (⟨some d, .binOp .lss t x y t', ty, pos, after, none⟩ :: rest) a :=
  qt_ok h rfl rfl hn (fun w _hw => by simp [execOp, h.eval hx, h.eval hy, eqGuard_lss, binOp_lss]) q
theorem qt_le (h : AgM ds a n L) (hx : ev L x = some (.int k i)) (hy : ev L y = some (.int k j)) (hn : Nat.blt d n = true) (q : ∀ a, AgM ds a n ((d, .bool (decide (i ≤ j))) :: L) → wpQuiet P ops C Qa rest a) :
    wpQuiet P ops C Qa (⟨some d, .binOp .leq t x y t', ty, pos, after, none⟩ :: rest) a :=
  qt_ok h rfl rfl hn (fun w _hw => by simp [execOp, h.eval hx, h.eval hy, eqGuard_leq, binOp_leq]) q
theorem qt_gt (h : AgM ds a n L) (hx : ev L x = some (.int k i)) (hy : ev L y = some (.int k j)) (hn : Nat.blt d n = true) (q : ∀ a, AgM ds a n ((d, .bool (decide (j < i))) :: L) → wpQuiet P ops C Qa rest a) :
    wpQuiet P ops C Qa (⟨some d, .binOp .gtr t x y t', ty, pos, after, none⟩ :: rest) a :=
  qt_ok h rfl rfl hn (fun w _hw => by simp [execOp, h.eval hx, h.eval hy, eqGuard_gtr, binOp_gtr]) q
theorem qt_ge (h : AgM ds a n L) (hx : ev L x = some (.int k i)) (hy : ev L y = some (.int k j)) (hn : Nat.blt d n = true) (q : ∀ a, AgM ds a n ((d, .bool (decide (j ≤ i))) :: L) → wpQuiet P ops C Qa rest a) :
    wpQuiet P ops C Qa (⟨some d, .binOp .geq t x y t', ty, pos, after, none⟩ :: rest) a :=
  qt_ok h rfl rfl hn (fun w _hw => by simp [execOp, h.eval hx, h.eval hy, eqGuard_geq, binOp_geq]) q
theorem qt_conv {z : Int} (h : AgM ds a n L) (hx : ev L x = some (.int k i)) (hs : (P.underlying t).isSome = true) (hd : P.underlying t' = some (.int k')) (hz : k'.wrap i = z) (hn : Nat.blt d n = true) (q : ∀ a, AgM ds a n ((d, .int k' z) :: L) → wpQuiet P ops C Qa rest a) :
    wpQuiet P ops C Qa (⟨some d, .convert t t' x, ty, pos, after, none⟩ :: rest) a :=
  qt_ok h rfl rfl hn (fun w _hw => by
    obtain ⟨u, hu⟩ := Option.isSome_iff_exists.mp hs
    subst hz; simp [execOp, h.eval hx, convert, run_underlying hu, run_underlying hd, Conv.intToInt]) q
theorem qt_lenS (h : AgM ds a n L) (hx : ev L x = some (.slice A m cp)) (hu : P.underlying t = some (.slice T)) (hn : Nat.blt d n = true) (q : ∀ a, AgM ds a n ((d, .int .i64 (m : Int)) :: L) → wpQuiet P ops C Qa rest a) :
    wpQuiet P ops C Qa (⟨some d, .call ⟨.builtin .len, #[x], #[t]⟩, ty, pos, after, none⟩ :: rest) a :=
  qt_ok h rfl rfl hn (fun w _hw => by
    rw [exec_builtin]; unfold builtin
    simp [h.eval hx, Builtin.len_, run_underlying hu]
    rfl) q
theorem qt_load {ad : Addr} (h : AgM ds a n L) (hx : ev L x = some (.pointer (some ad))) (hc : ∀ w, C w → w.cell? ad = some v) (hg : NotAgg P t) (hn : Nat.blt d n = true) (q : ∀ a, AgM ds a n ((d, v) :: L) → wpQuiet P ops C Qa rest a) :
    wpQuiet P ops C Qa (⟨some d, .load t x, ty, pos, after, none⟩ :: rest) a :=
  qt_ok h rfl rfl hn (fun w _hw => by simp [execOp, h.eval hx, Instr.loadAt, Instr.sureAddr, loadVar, hg w, hc w _hw]) q
theorem qt_fieldAddr {ad : Addr} {f off : Nat} (h : AgM ds a n L) (hx : ev L x = some (.pointer (some ad))) (hf : FieldAt P t f off) (hn : Nat.blt d n = true) (q : ∀ a, AgM ds a n ((d, .pointer (some (ad.add off))) :: L) → wpQuiet P ops C Qa rest a) :
    wpQuiet P ops C Qa (⟨some d, .fieldAddr t x f, ty, pos, after, none⟩ :: rest) a :=
  qt_ok h rfl rfl hn (fun w _hw => by simp [execOp, h.eval hx, hf ad w]) q
section
variable {K : Act → World → Prop} {fu : Nat} {listed : Array Bool} {pq : Option Nat} {w : World}
theorem hd_move (ix : Nat) (hsel : Region.noSelect ops = true) (hfr : Fre pq ops listed ix = true) (hre : (Region.ready .any ops listed).contains ix = true) (hC : C w) (h : AgM ds a n L) (hG : Wd ops n L G) (hx : ev L x = some v) (hix : ops[ix]? = some ⟨some d, .move x, ty, pos, after, G⟩) (hn : Nat.blt d n = true) (q : ∀ a, AgM ds a n ((d, v) :: L) → wpAnyP pq P ops (NormEnd K) C fu (listed.setIfInBounds ix true) a w) :
    wpAnyP pq P ops (NormEnd K) C (fu + 1) listed a w :=
  hd_ok ix hsel hfr hre hC h hG hix rfl hn (fun w _hw => by simp [execOp, h.eval hx]) q
theorem hd_add {z : Int} (ix : Nat) (hsel : Region.noSelect ops = true) (hfr : Fre pq ops listed ix = true) (hre : (Region.ready .any ops listed).contains ix = true) (hC : C w) (h : AgM ds a n L) (hG : Wd ops n L G) (hx : ev L x = some (.int k i)) (hy : ev L y = some (.int k j)) (hz : k.wrap (i + j) = z) (hix : ops[ix]? = some ⟨some d, .binOp .add t x y t', ty, pos, after, G⟩) (hn : Nat.blt d n = true) (q : ∀ a, AgM ds a n ((d, .int k z) :: L) → wpAnyP pq P ops (NormEnd K) C fu (listed.setIfInBounds ix true) a w) :
    wpAnyP pq P ops (NormEnd K) C (fu + 1) listed a w :=
  hd_ok ix hsel hfr hre hC h hG hix rfl hn (fun w _hw => by subst hz; simp [execOp, h.eval hx, h.eval hy, eqGuard_add, binOp_add, Op.intArith]) q
theorem hd_sub {z : Int} (ix : Nat) (hsel : Region.noSelect ops = true) (hfr : Fre pq ops listed ix = true) (hre : (Region.ready .any ops listed).contains ix = true) (hC : C w) (h : AgM ds a n L) (hG : Wd ops n L G) (hx : ev L x = some (.int k i)) (hy : ev L y = some (.int k j)) (hz : k.wrap (i - j) = z) (hix : ops[ix]? = some ⟨some d, .binOp .sub t x y t', ty, pos, after, G⟩) (hn : Nat.blt d n = true) (q : ∀ a, AgM ds a n ((d, .int k z) :: L) → wpAnyP pq P ops (NormEnd K) C fu (listed.setIfInBounds ix true) a w) :
    wpAnyP pq P ops (NormEnd K) C (fu + 1) listed a w :=
  hd_ok ix hsel hfr hre hC h hG hix rfl hn (fun w _hw => by subst hz; simp [execOp, h.eval hx, h.eval hy, eqGuard_sub, binOp_sub, Op.intArith]) q
theorem hd_mul {z : Int} (ix : Nat) (hsel : Region.noSelect ops = true) (hfr : Fre pq ops listed ix = true) (hre : (Region.ready .any ops listed).contains ix = true) (hC : C w) (h : AgM ds a n L) (hG : Wd ops n L G) (hx : ev L x = some (.int k i)) (hy : ev L y = some (.int k j)) (hz : k.wrap (i * j) = z) (hix : ops[ix]? = some ⟨some d, .binOp .mul t x y t', ty, pos, after, G⟩) (hn : Nat.blt d n = true) (q : ∀ a, AgM ds a n ((d, .int k z) :: L) → wpAnyP pq P ops (NormEnd K) C fu (listed.setIfInBounds ix true) a w) :
    wpAnyP pq P ops (NormEnd K) C (fu + 1) listed a w :=
  hd_ok ix hsel hfr hre hC h hG hix rfl hn (fun w _hw => by subst hz; simp [execOp, h.eval hx, h.eval hy, eqGuard_mul, binOp_mul, Op.intArith]) q
theorem hd_rem {z : Int} (ix : Nat) (hsel : Region.noSelect ops = true) (hfr : Fre pq ops listed ix = true) (hre : (Region.ready .any ops listed).contains ix = true) (hC : C w) (h : AgM ds a n L) (hG : Wd ops n L G) (hx : ev L x = some (.int k i)) (hy : ev L y = some (.int k j)) (h0 : j ≠ 0) (hz : i.tmod j = z) (hix : ops[ix]? = some ⟨some d, .binOp .rem t x y t', ty, pos, after, G⟩) (hn : Nat.blt d n = true) (q : ∀ a, AgM ds a n ((d, .int k z) :: L) → wpAnyP pq P ops (NormEnd K) C fu (listed.setIfInBounds ix true) a w) :
    wpAnyP pq P ops (NormEnd K) C (fu + 1) listed a w :=
  hd_ok ix hsel hfr hre hC h hG hix rfl hn (fun w _hw => by subst hz; simp [execOp, h.eval hx, h.eval hy, eqGuard_rem, binOp_rem, Op.intDiv, h0]) q
theorem hd_eq (ix : Nat) (hsel : Region.noSelect ops = true) (hfr : Fre pq ops listed ix = true) (hre : (Region.ready .any ops listed).contains ix = true) (hC : C w) (h : AgM ds a n L) (hG : Wd ops n L G) (hx : ev L x = some (.int k i)) (hy : ev L y = some (.int k j)) (hix : ops[ix]? = some ⟨some d, .binOp .eql t x y t', ty, pos, after, G⟩) (hn : Nat.blt d n = true) (q : ∀ a, AgM ds a n ((d, .bool (decide (i = j))) :: L) → wpAnyP pq P ops (NormEnd K) C fu (listed.setIfInBounds ix true) a w) :
    wpAnyP pq P ops (NormEnd K) C (fu + 1) listed a w :=
  hd_ok ix hsel hfr hre hC h hG hix rfl hn (fun w _hw => by simp [execOp, h.eval hx, h.eval hy, eqGuard_at_int, binOp_eql, beq_dec]) q
theorem hd_ne (ix : Nat) (hsel : Region.noSelect ops = true) (hfr : Fre pq ops listed ix = true) (hre : (Region.ready .any ops listed).contains ix = true) (hC : C w) (h : AgM ds a n L) (hG : Wd ops n L G) (hx : ev L x = some (.int k i)) (hy : ev L y = some (.int k j)) (hix : ops[ix]? = some ⟨some d, .binOp .neq t x y t', ty, pos, after, G⟩) (hn : Nat.blt d n = true) (q : ∀ a, AgM ds a n ((d, .bool (decide (i ≠ j))) :: L) → wpAnyP pq P ops (NormEnd K) C fu (listed.setIfInBounds ix true) a w) :
    wpAnyP pq P ops (NormEnd K) C (fu + 1) listed a w :=
  hd_ok ix hsel hfr hre hC h hG hix rfl hn (fun w _hw => by simp [execOp, h.eval hx, h.eval hy, eqGuard_at_int, binOp_neq, bne, beq_dec]) q
theorem hd_lt (ix : Nat) (hsel : Region.noSelect ops = true) (hfr : Fre pq ops listed ix = true) (hre : (Region.ready .any ops listed).contains ix = true) (hC : C w) (h : AgM ds a n L) (hG : Wd ops n L G) (hx : ev L x = some (.int k i)) (hy : ev L y = some (.int k j)) (hix : ops[ix]? = some ⟨some d, .binOp .lss t x y t', ty, pos, after, G⟩) (hn : Nat.blt d n = true) (q : ∀ a, AgM ds a n ((d, .bool (decide (i < j))) :: L) → wpAnyP pq P ops (NormEnd K) C fu (listed.setIfInBounds ix true) a w) :
    wpAnyP pq P ops (NormEnd K) C (fu + 1) listed a w :=
  hd_ok ix hsel hfr hre hC h hG hix rfl hn (fun w _hw => by simp [execOp, h.eval hx, h.eval hy, eqGuard_lss, binOp_lss]) q
theorem hd_gt (ix : Nat) (hsel : Region.noSelect ops = true) (hfr : Fre pq ops listed ix = true) (hre : (Region.ready .any ops listed).contains ix = true) (hC : C w) (h : AgM ds a n L) (hG : Wd ops n L G) (hx : ev L x = some (.int k i)) (hy : ev L y = some (.int k j)) (hix : ops[ix]? = some ⟨some d, .binOp .gtr t x y t', ty, pos, after, G⟩) (hn : Nat.blt d n = true) (q : ∀ a, AgM ds a n ((d, .bool (decide (j < i))) :: L) → wpAnyP pq P ops (NormEnd K) C fu (listed.setIfInBounds ix true) a w) :
    wpAnyP pq P ops (NormEnd K) C (fu + 1) listed a w :=
  hd_ok ix hsel hfr hre hC h hG hix rfl hn (fun w _hw => by simp [execOp, h.eval hx, h.eval hy, eqGuard_gtr, binOp_gtr]) q
theorem hd_ge (ix : Nat) (hsel : Region.noSelect ops = true) (hfr : Fre pq ops listed ix = true) (hre : (Region.ready .any ops listed).contains ix = true) (hC : C w) (h : AgM ds a n L) (hG : Wd ops n L G) (hx : ev L x = some (.int k i)) (hy : ev L y = some (.int k j)) (hix : ops[ix]? = some ⟨some d, .binOp .geq t x y t', ty, pos, after, G⟩) (hn : Nat.blt d n = true) (q : ∀ a, AgM ds a n ((d, .bool (decide (j ≤ i))) :: L) → wpAnyP pq P ops (NormEnd K) C fu (listed.setIfInBounds ix true) a w) :
    wpAnyP pq P ops (NormEnd K) C (fu + 1) listed a w :=
  hd_ok ix hsel hfr hre hC h hG hix rfl hn (fun w _hw => by simp [execOp, h.eval hx, h.eval hy, eqGuard_geq, binOp_geq]) q
theorem hd_not (ix : Nat) (hsel : Region.noSelect ops = true) (hfr : Fre pq ops listed ix = true) (hre : (Region.ready .any ops listed).contains ix = true) (hC : C w) (h : AgM ds a n L) (hG : Wd ops n L G) (hx : ev L x = some (.bool b)) (hix : ops[ix]? = some ⟨some d, .unOp .not t x, ty, pos, after, G⟩) (hn : Nat.blt d n = true) (q : ∀ a, AgM ds a n ((d, .bool (!b)) :: L) → wpAnyP pq P ops (NormEnd K) C fu (listed.setIfInBounds ix true) a w) :
    wpAnyP pq P ops (NormEnd K) C (fu + 1) listed a w :=
  hd_ok ix hsel hfr hre hC h hG hix rfl hn (fun w _hw => by simp [execOp, h.eval hx, unary_not]) q
theorem hd_conv {z : Int} (ix : Nat) (hsel : Region.noSelect ops = true) (hfr : Fre pq ops listed ix = true) (hre : (Region.ready .any ops listed).contains ix = true) (hC : C w) (h : AgM ds a n L) (hG : Wd ops n L G) (hx : ev L x = some (.int k i)) (hs : (P.underlying t).isSome = true) (hd : P.underlying t' = some (.int k')) (hz : k'.wrap i = z) (hix : ops[ix]? = some ⟨some d, .convert t t' x, ty, pos, after, G⟩) (hn : Nat.blt d n = true) (q : ∀ a, AgM ds a n ((d, .int k' z) :: L) → wpAnyP pq P ops (NormEnd K) C fu (listed.setIfInBounds ix true) a w) :
    wpAnyP pq P ops (NormEnd K) C (fu + 1) listed a w :=
  hd_ok ix hsel hfr hre hC h hG hix rfl hn (fun w _hw => by
    obtain ⟨u, hu⟩ := Option.isSome_iff_exists.mp hs
    subst hz; simp [execOp, h.eval hx, convert, run_underlying hu, run_underlying hd, Conv.intToInt]) q
theorem hd_lenS (ix : Nat) (hsel : Region.noSelect ops = true) (hfr : Fre pq ops listed ix = true) (hre : (Region.ready .any ops listed).contains ix = true) (hC : C w) (h : AgM ds a n L) (hG : Wd ops n L G) (hx : ev L x = some (.slice A m cp)) (hu : P.underlying t = some (.slice T)) (hix : ops[ix]? = some ⟨some d, .call ⟨.builtin .len, #[x], #[t]⟩, ty, pos, after, G⟩) (hn : Nat.blt d n = true) (q : ∀ a, AgM ds a n ((d, .int .i64 (m : Int)) :: L) → wpAnyP pq P ops (NormEnd K) C fu (listed.setIfInBounds ix true) a w) :
    wpAnyP pq P ops (NormEnd K) C (fu + 1) listed a w :=
  hd_ok ix hsel hfr hre hC h hG hix rfl hn (fun w _hw => by
    rw [exec_builtin]; unfold builtin
    simp [h.eval hx, Builtin.len_, run_underlying hu]
    rfl) q
theorem hd_load {ad : Addr} (ix : Nat) (hsel : Region.noSelect ops = true) (hfr : Fre pq ops listed ix = true) (hre : (Region.ready .any ops listed).contains ix = true) (hC : C w) (h : AgM ds a n L) (hG : Wd ops n L G) (hx : ev L x = some (.pointer (some ad))) (hc : ∀ w, C w → w.cell? ad = some v) (hg : NotAgg P t) (hix : ops[ix]? = some ⟨some d, .load t x, ty, pos, after, G⟩) (hn : Nat.blt d n = true) (q : ∀ a, AgM ds a n ((d, v) :: L) → wpAnyP pq P ops (NormEnd K) C fu (listed.setIfInBounds ix true) a w) :
    wpAnyP pq P ops (NormEnd K) C (fu + 1) listed a w :=
  hd_ok ix hsel hfr hre hC h hG hix rfl hn (fun w _hw => by simp [execOp, h.eval hx, Instr.loadAt, Instr.sureAddr, loadVar, hg w, hc w _hw]) q
theorem hd_loadA {ad : Addr} {cs : List Value} (ix : Nat) (hsel : Region.noSelect ops = true) (hfr : Fre pq ops listed ix = true) (hre : (Region.ready .any ops listed).contains ix = true) (hC : C w) (h : AgM ds a n L) (hG : Wd ops n L G) (hx : ev L x = some (.pointer (some ad))) (hc : ∀ w, C w → Cells w ad cs) (hg : AggOf P t cs.length) (hix : ops[ix]? = some ⟨some d, .load t x, ty, pos, after, G⟩) (hn : Nat.blt d n = true) (q : ∀ a, AgM ds a n ((d, .agg cs.toArray) :: L) → wpAnyP pq P ops (NormEnd K) C fu (listed.setIfInBounds ix true) a w) :
    wpAnyP pq P ops (NormEnd K) C (fu + 1) listed a w :=
  hd_ok ix hsel hfr hre hC h hG hix rfl hn (fun w _hw => by simp [execOp, h.eval hx, Instr.loadAt, Instr.sureAddr, loadVar, hg.1 w, hg.2 w, run_loadCells_list w ad cs (hc w _hw)]) q
theorem hd_fieldAddr {ad : Addr} {f off : Nat} (ix : Nat) (hsel : Region.noSelect ops = true) (hfr : Fre pq ops listed ix = true) (hre : (Region.ready .any ops listed).contains ix = true) (hC : C w) (h : AgM ds a n L) (hG : Wd ops n L G) (hx : ev L x = some (.pointer (some ad))) (hf : FieldAt P t f off) (hix : ops[ix]? = some ⟨some d, .fieldAddr t x f, ty, pos, after, G⟩) (hn : Nat.blt d n = true) (q : ∀ a, AgM ds a n ((d, .pointer (some (ad.add off))) :: L) → wpAnyP pq P ops (NormEnd K) C fu (listed.setIfInBounds ix true) a w) :
    wpAnyP pq P ops (NormEnd K) C (fu + 1) listed a w :=
  hd_ok ix hsel hfr hre hC h hG hix rfl hn (fun w _hw => by simp [execOp, h.eval hx, hf ad w]) q
theorem hd_nilCheck {ad : Addr} (ix : Nat) (hsel : Region.noSelect ops = true) (hfr : Fre pq ops listed ix = true) (hre : (Region.ready .any ops listed).contains ix = true) (hC : C w) (h : AgM ds a n L) (hG : Wd ops n L G) (hx : ev L x = some (.pointer (some ad))) (hix : ops[ix]? = some ⟨some d, .nilCheck x, ty, pos, after, G⟩) (hn : Nat.blt d n = true) (q : ∀ a, AgM ds a n ((d, .pointer (some ad)) :: L) → wpAnyP pq P ops (NormEnd K) C fu (listed.setIfInBounds ix true) a w) :
    wpAnyP pq P ops (NormEnd K) C (fu + 1) listed a w :=
  hd_ok ix hsel hfr hre hC h hG hix rfl hn (fun w _hw => by simp [execOp, h.eval hx]) q
theorem hd_extract {vs : Array Value} {m : Nat} (ix : Nat) (hsel : Region.noSelect ops = true) (hfr : Fre pq ops listed ix = true) (hre : (Region.ready .any ops listed).contains ix = true) (hC : C w) (h : AgM ds a n L) (hG : Wd ops n L G) (hx : ev L x = some (.tuple vs)) (hm : vs[m]? = some v) (hix : ops[ix]? = some ⟨some d, .extract x m, ty, pos, after, G⟩) (hn : Nat.blt d n = true) (q : ∀ a, AgM ds a n ((d, v) :: L) → wpAnyP pq P ops (NormEnd K) C fu (listed.setIfInBounds ix true) a w) :
    wpAnyP pq P ops (NormEnd K) C (fu + 1) listed a w :=
  hd_ok ix hsel hfr hre hC h hG hix rfl hn (fun w _hw => by simp [execOp, h.eval hx, Instr.extract, hm]) q
end
end
end Go.Lw
namespace Go.Lw
open Go.RowKit

def Enc.b : Enc UInt8 := ⟨fun c => [.int .u8 (c.toNat : Int)], 1, fun _ => rfl, fun _ u h => by simp at h; subst h; rfl, by decide⟩

section
variable {P : Program} {a : Act} {n : Nat} {L : List (Nat × Value)} {ds : List Nat} {w w' : World} {Q : Exit → Act → World → Prop} {C : World → Prop} {Qa : Act → Prop} {ops : Array Oper} {rest : List Oper}
variable {d : Nat} {ty : TypeId} {pos : String} {after : Array Edge} {v u : Value} {x y z : Operand} {t t' T : TypeId} {k k' : IntKind} {i j : Int} {b c : Bool} {l l' : List UInt8} {A : Option Addr} {m cp : Nat} {g off : Nat} {cs : List Value}

theorem Blk.cellAdd (h : Blk w g T cs) (hv : cs[off]? = some v) : w.cell? ((⟨g, 0, none⟩ : Addr).add off) = some v := by rw [lit_add, Nat.zero_add, h.cell]; exact hv
/-- A field of a local variable that lies in a block. -/
theorem st_loadB (h : AgM ds a n L) (hx : ev L x = some (.pointer (some ((⟨g, 0, none⟩ : Addr).add off)))) (hb : Blk w g T cs) (hv : cs[off]? = some v) (hg : NotAgg P t) (hn : Nat.blt d n = true) (q : ∀ a, AgM ds a n ((d, v) :: L) → wpList P ops Q rest a w) :
    wpList P ops Q (⟨some d, .load t x, ty, pos, after, none⟩ :: rest) a w := st_load h hx (hb.cellAdd hv) hg hn q
theorem s_loadB (hx : ev L x = some (.pointer (some ((⟨g, 0, none⟩ : Addr).add off)))) (hb : Blk w g T cs) (hv : cs[off]? = some v) (hg : NotAgg P t) (hn : Nat.blt d n = true) (q : WL P ops Q rest n ds w ((d, v) :: L)) : WL P ops Q (⟨some d, .load t x, ty, pos, after, none⟩ :: rest) n ds w L := fun a h => st_loadB h hx hb hv hg hn q -- short
theorem qt_loadB (h : AgM ds a n L) (hx : ev L x = some (.pointer (some ((⟨g, 0, none⟩ : Addr).add off)))) (hb : ∀ w, C w → Blk w g T cs) (hv : cs[off]? = some v) (hg : NotAgg P t) (hn : Nat.blt d n = true) (q : ∀ a, AgM ds a n ((d, v) :: L) → wpQuiet P ops C Qa rest a) :
    wpQuiet P ops C Qa (⟨some d, .load t x, ty, pos, after, none⟩ :: rest) a := qt_load h hx (fun w hw => (hb w hw).cellAdd hv) hg hn q
/-- The whole of a local variable of one cell. -/
theorem st_loadB0 (h : AgM ds a n L) (hx : ev L x = some (.pointer (some ⟨g, 0, none⟩))) (hb : Blk w g T [v]) (hg : NotAgg P t) (hn : Nat.blt d n = true) (q : ∀ a, AgM ds a n ((d, v) :: L) → wpList P ops Q rest a w) :
    wpList P ops Q (⟨some d, .load t x, ty, pos, after, none⟩ :: rest) a w := st_load h hx (by rw [hb.cell]; rfl) hg hn q
theorem s_loadB0 (hx : ev L x = some (.pointer (some ⟨g, 0, none⟩))) (hb : Blk w g T [v]) (hg : NotAgg P t) (hn : Nat.blt d n = true) (q : WL P ops Q rest n ds w ((d, v) :: L)) : WL P ops Q (⟨some d, .load t x, ty, pos, after, none⟩ :: rest) n ds w L := fun a h => st_loadB0 h hx hb hg hn q -- short
/-- The whole of a local variable of several cells. -/
theorem st_loadBA (h : AgM ds a n L) (hx : ev L x = some (.pointer (some ⟨g, 0, none⟩))) (hb : Blk w g T cs) (hg : AggOf P t cs.length) (hn : Nat.blt d n = true) (q : ∀ a, AgM ds a n ((d, .agg cs.toArray) :: L) → wpList P ops Q rest a w) :
    wpList P ops Q (⟨some d, .load t x, ty, pos, after, none⟩ :: rest) a w := st_loadA h hx hb.cells hg hn q
theorem s_loadBA (hx : ev L x = some (.pointer (some ⟨g, 0, none⟩))) (hb : Blk w g T cs) (hg : AggOf P t cs.length) (hn : Nat.blt d n = true) (q : WL P ops Q rest n ds w ((d, .agg cs.toArray) :: L)) : WL P ops Q (⟨some d, .load t x, ty, pos, after, none⟩ :: rest) n ds w L := fun a h => st_loadBA h hx hb hg hn q -- short
section
variable {K : Act → World → Prop} {fu : Nat} {listed : Array Bool} {pq : Option Nat}
theorem hd_loadB {G : Option (Nat × Bool)} (ix : Nat) (hsel : Region.noSelect ops = true) (hfr : Fre pq ops listed ix = true) (hre : (Region.ready .any ops listed).contains ix = true) (hC : C w) (h : AgM ds a n L) (hG : Wd ops n L G) (hx : ev L x = some (.pointer (some ((⟨g, 0, none⟩ : Addr).add off)))) (hb : ∀ w, C w → Blk w g T cs) (hv : cs[off]? = some v) (hg : NotAgg P t)
    (hix : ops[ix]? = some ⟨some d, .load t x, ty, pos, after, G⟩) (hn : Nat.blt d n = true) (q : ∀ a, AgM ds a n ((d, v) :: L) → wpAnyP pq P ops (NormEnd K) C fu (listed.setIfInBounds ix true) a w) : wpAnyP pq P ops (NormEnd K) C (fu + 1) listed a w :=
  hd_load ix hsel hfr hre hC h hG hx (fun w hw => (hb w hw).cellAdd hv) hg hix hn q
theorem hd_loadB0 {G : Option (Nat × Bool)} (ix : Nat) (hsel : Region.noSelect ops = true) (hfr : Fre pq ops listed ix = true) (hre : (Region.ready .any ops listed).contains ix = true) (hC : C w) (h : AgM ds a n L) (hG : Wd ops n L G) (hx : ev L x = some (.pointer (some ⟨g, 0, none⟩))) (hb : ∀ w, C w → Blk w g T [v]) (hg : NotAgg P t)
    (hix : ops[ix]? = some ⟨some d, .load t x, ty, pos, after, G⟩) (hn : Nat.blt d n = true) (q : ∀ a, AgM ds a n ((d, v) :: L) → wpAnyP pq P ops (NormEnd K) C fu (listed.setIfInBounds ix true) a w) : wpAnyP pq P ops (NormEnd K) C (fu + 1) listed a w :=
  hd_load ix hsel hfr hre hC h hG hx (fun w hw => by rw [(hb w hw).cell]; rfl) hg hix hn q
theorem hd_loadBA {G : Option (Nat × Bool)} (ix : Nat) (hsel : Region.noSelect ops = true) (hfr : Fre pq ops listed ix = true) (hre : (Region.ready .any ops listed).contains ix = true) (hC : C w) (h : AgM ds a n L) (hG : Wd ops n L G) (hx : ev L x = some (.pointer (some ⟨g, 0, none⟩))) (hb : ∀ w, C w → Blk w g T cs) (hg : AggOf P t cs.length)
    (hix : ops[ix]? = some ⟨some d, .load t x, ty, pos, after, G⟩) (hn : Nat.blt d n = true) (q : ∀ a, AgM ds a n ((d, .agg cs.toArray) :: L) → wpAnyP pq P ops (NormEnd K) C fu (listed.setIfInBounds ix true) a w) : wpAnyP pq P ops (NormEnd K) C (fu + 1) listed a w :=
  hd_loadA ix hsel hfr hre hC h hG hx (fun w hw => (hb w hw).cells) hg hix hn q
end
theorem qt_loadC0 {ad : Addr} (h : AgM ds a n L) (hx : ev L x = some (.pointer (some ad))) (hc : ∀ w, C w → Cells w ad [v]) (hg : NotAgg P t) (hn : Nat.blt d n = true) (q : ∀ a, AgM ds a n ((d, v) :: L) → wpQuiet P ops C Qa rest a) :
    wpQuiet P ops C Qa (⟨some d, .load t x, ty, pos, after, none⟩ :: rest) a := qt_load h hx (fun w hw => by have := hc w hw 0 v rfl; rwa [Addr.add_zero'] at this) hg hn q
theorem ex_idxS {G : Option (Nat × Bool)} {α : Type} {E : Enc α} {bytes p : Nat} {ad : Addr} (h : AgM ds a n L) (hx : ev L x = some (.slice (some ad) m cp)) (hy : ev L y = some (.int k i)) (he : ElemOf P t T E bytes) (h0 : 0 ≤ i) (hi : i < m) (hp : i.toNat = p) :
    (execOp a.eval ⟨some d, .indexAddr t x y, ty, pos, after, G⟩).run P w = .ok (.value (.pointer (some (ad.add (p * E.sz))))) w := by
  subst hp
  obtain ⟨inf, zv, hin, _, hsz, _⟩ := he.info
  simp [execOp, h.eval hx, h.eval hy, Instr.indexAt, asIntOf, run_underlying he.und, h0, hi, sizeOf, typeInfo, hin, hsz]
theorem st_idxS {α : Type} {E : Enc α} {bytes p : Nat} {ad : Addr} (h : AgM ds a n L) (hx : ev L x = some (.slice (some ad) m cp)) (hy : ev L y = some (.int k i)) (he : ElemOf P t T E bytes) (h0 : 0 ≤ i) (hi : i < m) (hp : i.toNat = p) (hn : Nat.blt d n = true)
    (q : ∀ a, AgM ds a n ((d, .pointer (some (ad.add (p * E.sz)))) :: L) → wpList P ops Q rest a w) : wpList P ops Q (⟨some d, .indexAddr t x y, ty, pos, after, none⟩ :: rest) a w :=
  st_ok h rfl rfl hn (ex_idxS h hx hy he h0 hi hp) q
theorem s_idxS {α : Type} {E : Enc α} {bytes p : Nat} {ad : Addr} (hx : ev L x = some (.slice (some ad) m cp)) (hy : ev L y = some (.int k i)) (he : ElemOf P t T E bytes) (h0 : 0 ≤ i) (hi : i < m) (hp : i.toNat = p) (hn : Nat.blt d n = true) (q : WL P ops Q rest n ds w ((d, .pointer (some (ad.add (p * E.sz)))) :: L)) : WL P ops Q (⟨some d, .indexAddr t x y, ty, pos, after, none⟩ :: rest) n ds w L := fun a h => st_idxS h hx hy he h0 hi hp hn q -- short
theorem qt_idxS {α : Type} {E : Enc α} {bytes p : Nat} {ad : Addr} (h : AgM ds a n L) (hx : ev L x = some (.slice (some ad) m cp)) (hy : ev L y = some (.int k i)) (he : ElemOf P t T E bytes) (h0 : 0 ≤ i) (hi : i < m) (hp : i.toNat = p) (hn : Nat.blt d n = true)
    (q : ∀ a, AgM ds a n ((d, .pointer (some (ad.add (p * E.sz)))) :: L) → wpQuiet P ops C Qa rest a) : wpQuiet P ops C Qa (⟨some d, .indexAddr t x y, ty, pos, after, none⟩ :: rest) a :=
  qt_ok h rfl rfl hn (fun _ _ => ex_idxS h hx hy he h0 hi hp) q
theorem hd_idxS {G : Option (Nat × Bool)} {K : Act → World → Prop} {fu : Nat} {listed : Array Bool} {pq : Option Nat} {α : Type} {E : Enc α} {bytes p : Nat} {ad : Addr} (ix : Nat) (hsel : Region.noSelect ops = true) (hfr : Fre pq ops listed ix = true) (hre : (Region.ready .any ops listed).contains ix = true) (hC : C w) (h : AgM ds a n L) (hG : Wd ops n L G)
    (hx : ev L x = some (.slice (some ad) m cp)) (hy : ev L y = some (.int k i)) (he : ElemOf P t T E bytes) (h0 : 0 ≤ i) (hi : i < m) (hp : i.toNat = p) (hix : ops[ix]? = some ⟨some d, .indexAddr t x y, ty, pos, after, G⟩) (hn : Nat.blt d n = true)
    (q : ∀ a, AgM ds a n ((d, .pointer (some (ad.add (p * E.sz)))) :: L) → wpAnyP pq P ops (NormEnd K) C fu (listed.setIfInBounds ix true) a w) : wpAnyP pq P ops (NormEnd K) C (fu + 1) listed a w :=
  hd_ok ix hsel hfr hre hC h hG hix rfl hn (fun _ _ => ex_idxS h hx hy he h0 hi hp) q
theorem st_loadC0 {ad : Addr} (h : AgM ds a n L) (hx : ev L x = some (.pointer (some ad))) (hc : Cells w ad [v]) (hg : NotAgg P t) (hn : Nat.blt d n = true) (q : ∀ a, AgM ds a n ((d, v) :: L) → wpList P ops Q rest a w) :
    wpList P ops Q (⟨some d, .load t x, ty, pos, after, none⟩ :: rest) a w := st_load h hx (by have := hc 0 v rfl; rwa [Addr.add_zero'] at this) hg hn q
theorem s_loadC0 {ad : Addr} (hx : ev L x = some (.pointer (some ad))) (hc : Cells w ad [v]) (hg : NotAgg P t) (hn : Nat.blt d n = true) (q : WL P ops Q rest n ds w ((d, v) :: L)) : WL P ops Q (⟨some d, .load t x, ty, pos, after, none⟩ :: rest) n ds w L := fun a h => st_loadC0 h hx hc hg hn q -- short
/-- A store of one cell into a field of a local variable. -/
theorem st_storeB (h : AgM ds a n L) (hx : ev L x = some (.pointer (some ((⟨g, 0, none⟩ : Addr).add off)))) (hy : ev L y = some v) (hb : Blk w g T cs) (ho : Nat.blt off cs.length = true) (h1 : v.oneCell' = true) (hc : v.cells = #[v]) (hs : SizeOf P t 1)
    (q : ∀ w', Blk w' g T (cs.set off v) → Fr [g] w w' → w'.heap.size = w.heap.size → ∀ a, AgM ds a n L → wpList P ops Q rest a w') : wpList P ops Q (⟨none, .store t x y, ty, pos, after, none⟩ :: rest) a w :=
  st_store (o := off) h (by rw [hx, lit_add, Nat.zero_add]) hy hb ho h1 hc hs q
theorem s_storeB (hx : ev L x = some (.pointer (some ((⟨g, 0, none⟩ : Addr).add off)))) (hy : ev L y = some v) (hb : Blk w g T cs) (ho : Nat.blt off cs.length = true) (h1 : v.oneCell' = true) (hc : v.cells = #[v]) (hs : SizeOf P t 1) (q : ∀ w', Blk w' g T (cs.set off v) → Fr [g] w w' → w'.heap.size = w.heap.size → WL P ops Q rest n ds w' L) : WL P ops Q (⟨none, .store t x y, ty, pos, after, none⟩ :: rest) n ds w L := fun a h => st_storeB h hx hy hb ho h1 hc hs q -- short
theorem st_storeB0 (h : AgM ds a n L) (hx : ev L x = some (.pointer (some ⟨g, 0, none⟩))) (hy : ev L y = some v) (hb : Blk w g T [u]) (h1 : v.oneCell' = true) (hc : v.cells = #[v]) (hs : SizeOf P t 1)
    (q : ∀ w', Blk w' g T [v] → Fr [g] w w' → w'.heap.size = w.heap.size → ∀ a, AgM ds a n L → wpList P ops Q rest a w') : wpList P ops Q (⟨none, .store t x y, ty, pos, after, none⟩ :: rest) a w :=
  st_store (o := 0) h hx hy hb rfl h1 hc hs q
theorem s_storeB0 (hx : ev L x = some (.pointer (some ⟨g, 0, none⟩))) (hy : ev L y = some v) (hb : Blk w g T [u]) (h1 : v.oneCell' = true) (hc : v.cells = #[v]) (hs : SizeOf P t 1) (q : ∀ w', Blk w' g T [v] → Fr [g] w w' → w'.heap.size = w.heap.size → WL P ops Q rest n ds w' L) : WL P ops Q (⟨none, .store t x y, ty, pos, after, none⟩ :: rest) n ds w L := fun a h => st_storeB0 h hx hy hb h1 hc hs q -- short
/-- A store of a whole struct or array into its block. -/
theorem st_storeBA {vs : List Value} (h : AgM ds a n L) (hx : ev L x = some (.pointer (some ⟨g, 0, none⟩))) (hy : ev L y = some (.agg vs.toArray)) (hb : Blk w g T cs) (hl : vs.length = cs.length) (h1 : ∀ u ∈ vs, u.oneCell' = true) (hs : SizeOf P t vs.length)
    (q : ∀ w', Blk w' g T vs → Fr [g] w w' → w'.heap.size = w.heap.size → ∀ a, AgM ds a n L → wpList P ops Q rest a w') : wpList P ops Q (⟨none, .store t x y, ty, pos, after, none⟩ :: rest) a w := by
  have hst := run_storeCells_at P g 0 T vs 0 cs.toArray w hb (by simp; omega) h1
  refine st_skip h rfl rfl (w' := w.setRow g vs.toArray) ?_ (q _ ?_ (Fr.setRow w g _) (by simp))
  · simp [execOp, h.eval hx, h.eval hy, Instr.storeAt, Instr.sureAddr, storeVar, hs w, Value.cells, hst, hl]
  · unfold Blk; exact setRow_heap w g cs.toArray _ T (0, 0) hb
theorem s_storeBA {vs : List Value} (hx : ev L x = some (.pointer (some ⟨g, 0, none⟩))) (hy : ev L y = some (.agg vs.toArray)) (hb : Blk w g T cs) (hl : vs.length = cs.length) (h1 : ∀ u ∈ vs, u.oneCell' = true) (hs : SizeOf P t vs.length) (q : ∀ w', Blk w' g T vs → Fr [g] w w' → w'.heap.size = w.heap.size → WL P ops Q rest n ds w' L) : WL P ops Q (⟨none, .store t x y, ty, pos, after, none⟩ :: rest) n ds w L := fun a h => st_storeBA h hx hy hb hl h1 hs q -- short
/-- The address of an element of an array. -/
theorem ex_idxA {G : Option (Nat × Bool)} {ad : Addr} {N sz : Nat} (h : AgM ds a n L) (hx : ev L x = some (.pointer (some ad))) (hy : ev L y = some (.int k i)) (hu : P.underlying t = some (.array N T)) (hs : SizeOf P T sz) (h0 : 0 ≤ i) (h1 : i < N) :
    (execOp a.eval ⟨some d, .indexAddr t x y, ty, pos, after, G⟩).run P w = .ok (.value (.pointer (some (ad.add (i.toNat * sz))))) w := by
  simp [execOp, h.eval hx, h.eval hy, Instr.indexAt, asIntOf, run_underlying hu, Instr.sureAddr, h0, h1, hs w]
/-- An array by value, at an index. -/
theorem st_idxV {vs : List Value} {N : Nat} (h : AgM ds a n L) (hx : ev L x = some (.agg vs.toArray)) (hy : ev L y = some (.int k i)) (hu : P.underlying t = some (.array N T)) (hs : SizeOf P T 1) (ha : NotAgg P T) (h0 : 0 ≤ i) (h1 : i < N) (hv : vs[i.toNat]? = some v) (hn : Nat.blt d n = true)
    (q : ∀ a, AgM ds a n ((d, v) :: L) → wpList P ops Q rest a w) : wpList P ops Q (⟨some d, .index t x y, ty, pos, after, none⟩ :: rest) a w :=
  st_ok h rfl rfl hn (by simp [execOp, h.eval hx, h.eval hy, Instr.index, asIntOf, run_underlying hu, h0, h1, hs w, part, ha w, hv]) q

theorem s_idxV {vs : List Value} {N : Nat} (hx : ev L x = some (.agg vs.toArray)) (hy : ev L y = some (.int k i)) (hu : P.underlying t = some (.array N T)) (hs : SizeOf P T 1) (ha : NotAgg P T) (h0 : 0 ≤ i) (h1 : i < N) (hv : vs[i.toNat]? = some v) (hn : Nat.blt d n = true) (q : WL P ops Q rest n ds w ((d, v) :: L)) : WL P ops Q (⟨some d, .index t x y, ty, pos, after, none⟩ :: rest) n ds w L := fun a h => st_idxV h hx hy hu hs ha h0 h1 hv hn q -- short
/-! A slice written out. -/
theorem foldl_set (vs : List Value) : ∀ (off : Nat) (cs : Array Value), off + vs.length ≤ cs.size →
    ((vs.zipIdx 0).foldl (fun cs (p : Value × Nat) => cs.setIfInBounds (off + p.2) p.1) cs) = (cs.toList.take off ++ vs ++ cs.toList.drop (off + vs.length)).toArray := by
  have key : ∀ (vs : List Value) (s off : Nat) (cs : Array Value), off + s + vs.length ≤ cs.size →
      ((vs.zipIdx s).foldl (fun cs (p : Value × Nat) => cs.setIfInBounds (off + p.2) p.1) cs) = (cs.toList.take (off + s) ++ vs ++ cs.toList.drop (off + s + vs.length)).toArray := by
    intro vs
    induction vs with
    | nil => intro s off cs _; simp
    | cons v vs ih =>
      intro s off cs hl
      simp only [List.zipIdx_cons, List.foldl_cons]
      rw [show s + 1 = s + 1 from rfl, ih (s + 1) off _ (by simp at hl ⊢; omega)]
      have e := list_seg_step cs.toList (off + s) v vs (by simp at hl ⊢; omega)
      simpa [Array.toList_setIfInBounds, Nat.add_assoc] using e
  intro off cs h
  simpa using key vs 0 off cs (by simpa using h)

theorem fill_all {α : Type} (E : Enc α) : ∀ (ys : List α) (vs : List Value) (s : Nat) (cs : Array Value) (N : Nat), vs.map Value.cells = ys.map (fun y => (E.enc y).toArray) → cs.size = N * E.sz → s + ys.length = N →
    Instr.fill (fun i => some (i * E.sz, E.sz)) cs ((List.range' s ys.length).zip vs) = some (cs.toList.take (s * E.sz) ++ ys.flatMap E.enc).toArray
  | [], _, s, cs, N, _, hc, hN => by
    simp only [List.length_nil, List.range'_zero, List.zip_nil_left, Instr.fill, List.flatMap_nil, List.append_nil]
    rw [List.take_of_length_le (by simp [hc]; rw [← hN]; simp)]
  | y :: ys, [], s, cs, N, h, _, _ => by simp at h
  | y :: ys, v :: vs, s, cs, N, h, hc, hN => by
    simp only [List.map_cons, List.cons.injEq] at h
    obtain ⟨hv, hr⟩ := h
    simp only [List.length_cons] at hN ⊢
    rw [List.range'_succ, List.zip_cons_cons]
    simp only [Instr.fill]
    have hsz : v.cells.size = E.sz := by rw [hv]; simp [E.len]
    have hle : s * E.sz + E.sz ≤ cs.size := by
      rw [hc]
      have : (s + 1) * E.sz ≤ N * E.sz := Nat.mul_le_mul_right _ (by omega)
      rw [Nat.add_mul, Nat.one_mul] at this; exact this
    rw [if_neg (by simp [hsz]; omega)]
    have hfold : (v.cells.zipIdx.foldl (fun cs (p : Value × Nat) => cs.setIfInBounds (s * E.sz + p.2) p.1) cs) = (cs.toList.take (s * E.sz) ++ E.enc y ++ cs.toList.drop (s * E.sz + (E.enc y).length)).toArray := by
      rw [← foldl_set (E.enc y) (s * E.sz) cs (by rw [E.len]; exact hle), hv]
      simp [← Array.foldl_toList]
    have := fill_all E ys vs (s + 1) (cs.toList.take (s * E.sz) ++ E.enc y ++ cs.toList.drop (s * E.sz + (E.enc y).length)).toArray N hr (by simp [E.len]; omega) (by omega)
    rw [hfold, this]
    congr 2
    rw [List.flatMap_cons, ← List.append_assoc]
    congr 1
    rw [Nat.add_mul, Nat.one_mul]
    have h2 : s * E.sz + E.sz = (cs.toList.take (s * E.sz) ++ E.enc y).length := by simp [E.len]; omega
    rw [h2]
    exact List.take_left

theorem zip_parts {a : Act} : ∀ (ps : List (Nat × Operand)), ps.map (fun p => (p.1, a.eval p.2)) = (ps.map (fun p => p.1)).zip (ps.map (a.eval ∘ fun p => p.2))
  | [] => rfl
  | p :: ps => by simp only [List.map_cons, List.zip_cons_cons, zip_parts ps]; rfl
theorem st_bslice {α : Type} {E : Enc α} {bytes len : Nat} {parts : List (Nat × Operand)} {vs : List Value} (ys : List α) (h : AgM ds a n L) (hp : evs L (parts.map (·.2)) vs) (hi : parts.map (·.1) = List.range' 0 ys.length) (hy : vs.map Value.cells = ys.map (fun y => (E.enc y).toArray)) (hl : ys.length = len)
    (he : ElemOf P t T E bytes) (hsm : len * E.sz ≤ 16777216) (hn : Nat.blt d n = true)
    (q : ∀ g w', g = w.heap.size → Own E T g w' (.slice (some ⟨g, 0, none⟩) len len) ys → Fr [] w w' → w'.heap.size = g + 1 → ∀ a, AgM ds a n ((d, .slice (some ⟨g, 0, none⟩) len len) :: L) → wpList P ops Q rest a w') :
    wpList P ops Q (⟨some d, .buildSlice t len parts.toArray, ty, pos, after, none⟩ :: rest) a w := by
  obtain ⟨inf, zv, hin, hz, hsz, hby, hzs⟩ := he.info
  have hm : parts.map (fun p => (p.1, a.eval p.2)) = (List.range' 0 ys.length).zip vs := by
    have h1 := h.evals hp
    rw [List.map_map] at h1
    rw [← hi, ← h1]
    exact zip_parts parts
  have hfill := fill_all E ys vs 0 ((Array.range (len * E.sz)).map (zv.cells[· % zv.cells.size]!)) len hy (by simp) (by omega)
  rw [Nat.zero_mul, List.take_zero, List.nil_append] at hfill
  have hno : ¬ 16777216 < len * E.sz := by omega
  refine st_ok h rfl rfl hn (w' := w.alloc (.cells (ys.flatMap E.enc).toArray T)) ?_ (q _ _ rfl ?_ (Fr.alloc [] w _) (by simp))
  · simp only [execOp, List.map_toArray, hm, Instr.buildSlice, Sem.run_bind, run_underlying he.und, Result.andThen_ok, sizeOf, typeInfo, Sem.run_pure]
    by_cases h0 : len * E.sz = 0
    · have hlen : len = 0 := by
        rcases Nat.mul_eq_zero.1 h0 with h | h
        · exact h
        · have := E.pos; omega
      subst hlen
      have hys : ys = [] := List.eq_nil_of_length_eq_zero hl
      subst hys
      simp [hin, hsz, Instr.fill, newRow]
      rw [show Array.range 0 = #[] from rfl]; simp
    · simp [hin, hsz, h0, hno, zeroValue, typeInfo, hz, newRow, hfill]
  · exact .inr ⟨_, len, _, by rw [hl], Nat.le_refl _, heap_alloc_new w _, by omega, by simp only [maxLen]; have := E.pos; have : len ≤ len * E.sz := Nat.le_mul_of_pos_right _ E.pos; omega, by simp [E.flat_len, hl], by
      rw [List.take_of_length_le (by simp [E.flat_len])]⟩
theorem s_bslice {α : Type} {E : Enc α} {bytes len : Nat} {parts : List (Nat × Operand)} {vs : List Value} (ys : List α) (hp : evs L (parts.map (·.2)) vs) (hi : parts.map (·.1) = List.range' 0 ys.length) (hy : vs.map Value.cells = ys.map (fun y => (E.enc y).toArray)) (hl : ys.length = len) (he : ElemOf P t T E bytes) (hsm : len * E.sz ≤ 16777216) (hn : Nat.blt d n = true) (q : ∀ g w', g = w.heap.size → Own E T g w' (.slice (some ⟨g, 0, none⟩) len len) ys → Fr [] w w' → w'.heap.size = g + 1 → WL P ops Q rest n ds w' ((d, .slice (some ⟨g, 0, none⟩) len len) :: L)) : WL P ops Q (⟨some d, .buildSlice t len parts.toArray, ty, pos, after, none⟩ :: rest) n ds w L := fun a h => st_bslice ys h hp hi hy hl he hsm hn q -- short
/-- A function value. -/
theorem st_makeFunc {fn : Fn} {fs cs : List Operand} {us vs : List Value} (h : AgM ds a n L) (h1 : evs L fs us) (h2 : evs L cs vs) (hn : Nat.blt d n = true) (q : ∀ a, AgM ds a n ((d, .func fn us.toArray vs.toArray) :: L) → wpList P ops Q rest a w) :
    wpList P ops Q (⟨some d, .makeFunc fn fs.toArray cs.toArray, ty, pos, after, none⟩ :: rest) a w :=
  st_ok h rfl rfl hn (by simp [execOp, Instr.makeFunc, h.evals h1, h.evals h2]) q
theorem s_makeFunc {fn : Fn} {fs cs : List Operand} {us vs : List Value} (h1 : evs L fs us) (h2 : evs L cs vs) (hn : Nat.blt d n = true) (q : WL P ops Q rest n ds w ((d, .func fn us.toArray vs.toArray) :: L)) : WL P ops Q (⟨some d, .makeFunc fn fs.toArray cs.toArray, ty, pos, after, none⟩ :: rest) n ds w L := fun a h => st_makeFunc h h1 h2 hn q -- short
/-- A call of a function value. -/
theorem st_callv {f : FuncId} {xs : List Operand} {vs us ws : List Value} {ts : Array TypeId} {Φ : Value → World → Prop} (h : AgM ds a n L) (hy : ev L y = some (.func (.func f) us.toArray ws.toArray)) (hx : evs L xs vs) (hf : CallOf P f) (hc : Rets P f (us ++ vs ++ ws).toArray w Φ) (hn : Nat.blt d n = true)
    (hnf : ∀ g, y ≠ .func g)
    (q : ∀ v w', Φ v w' → ∀ a, AgM ds a n ((d, v) :: L) → wpList P ops Q rest a w') : wpList P ops Q (⟨some d, .call ⟨.value y, xs.toArray, ts⟩, ty, pos, after, none⟩ :: rest) a w :=
  st_enter (w' := w) h rfl rfl hn (by
    simp only [execOp, resolve, h.eval hy, Deferred.ofValue, Sem.run_bind, Sem.run_pure, Result.andThen_ok, invoke, List.map_toArray, h.evals hx, List.append_toArray]
    exact hf _ _) hc q

theorem clv {f : FuncId} {xs : List Operand} {vs us ws : List Value} {ts : Array TypeId} {Φ : Value → World → Prop} (hy : ev L y = some (.func (.func f) us.toArray ws.toArray)) (hx : evs L xs vs) (hf : CallOf P f) (hc : Rets P f (us ++ vs ++ ws).toArray w Φ) (hn : Nat.blt d n = true) (hnf : ∀ g, y ≠ .func g) (q : ∀ v w', Φ v w' → WL P ops Q rest n ds w' ((d, v) :: L)) : WL P ops Q (⟨some d, .call ⟨.value y, xs.toArray, ts⟩, ty, pos, after, none⟩ :: rest) n ds w L := fun a h => st_callv h hy hx hf hc hn hnf q -- short
/-! A struct or an array written out. -/
def splice (cs : List Value) (off : Nat) (vs : List Value) : List Value := cs.take off ++ vs ++ cs.drop (off + vs.length)
/-- The parts fit their places. -/
def PartsOk (pl : List (Nat × Nat)) (m : Nat) : List (Nat × Value) → Prop
  | [] => True
  | p :: r => (∃ q, pl[p.1]? = some q ∧ p.2.cells.size = q.2 ∧ Nat.ble (q.1 + q.2) m = true) ∧ PartsOk pl m r
theorem pok_nil {pl : List (Nat × Nat)} {m : Nat} : PartsOk pl m [] := trivial
theorem pok_cons {pl : List (Nat × Nat)} {m i : Nat} {q : Nat × Nat} {v : Value} {r : List (Nat × Value)} (h1 : pl[i]? = some q) (h2 : v.cells.size = q.2) (h3 : Nat.ble (q.1 + q.2) m = true) (hr : PartsOk pl m r) : PartsOk pl m ((i, v) :: r) := ⟨⟨q, h1, h2, h3⟩, hr⟩
def placed (pl : List (Nat × Nat)) (zs : List Value) (ps : List (Nat × Value)) : List Value := ps.foldl (fun cs p => splice cs (pl.getD p.1 (0, 0)).1 p.2.cells.toList) zs
def BuildAt (P : Program) (t : TypeId) (pl : List (Nat × Nat)) (zs : List Value) : Prop := ∀ (ps : List (Nat × Value)) (w : World), PartsOk pl zs.length ps → (Instr.build t ps.toArray).run P w = .ok (.agg (placed pl zs ps).toArray) w
theorem len_splice (cs vs : List Value) (off : Nat) (h : off + vs.length ≤ cs.length) : (splice cs off vs).length = cs.length := by simp [splice]; omega
theorem fill_placed (pl : List (Nat × Nat)) (f : Nat → Option (Nat × Nat)) (hf : ∀ i q, pl[i]? = some q → f i = some q) : ∀ (ps : List (Nat × Value)) (cs : List Value), PartsOk pl cs.length ps → Instr.fill f cs.toArray ps = some (placed pl cs ps).toArray
  | [], cs, _ => rfl
  | (i, v) :: ps, cs, ⟨⟨q, h1, h2, h3⟩, hr⟩ => by
    have h3' : q.1 + q.2 ≤ cs.length := by simpa [Nat.ble_eq] using h3
    have hl : v.cells.toList.length = q.2 := by simpa using h2
    have hs : (splice cs q.1 v.cells.toList).length = cs.length := len_splice _ _ _ (by rw [hl]; exact h3')
    have hfold : (v.cells.zipIdx.foldl (fun cs (p : Value × Nat) => cs.setIfInBounds (q.1 + p.2) p.1) cs.toArray) = (splice cs q.1 v.cells.toList).toArray := by
      have e := foldl_set v.cells.toList q.1 cs.toArray (by simpa [h2] using h3')
      rw [splice]
      simp only at e
      rw [← e, ← Array.foldl_toList, Array.toList_zipIdx]
    simp only [Instr.fill, hf i q h1]
    rw [if_neg (by simp [h2]; omega)]
    rw [hfold, fill_placed pl f hf ps _ (by rw [hs]; exact hr)]
    simp [placed, List.getD, h1]
theorem BuildAt.struct {t : TypeId} {fs : Array Field} {pl : List (Nat × Nat)} {zs : List Value} (hu : P.underlying t = some (.struct fs)) (hz : ∀ w : World, (zeroValue t).run P w = .ok (.agg zs.toArray) w)
    (hp : ∀ w : World, (fs.mapM fun f => do pure (f.offset, ← sizeOf f.type) : Sem (Array (Nat × Nat))).run P w = .ok pl.toArray w) : BuildAt P t pl zs := by
  intro ps w hok
  have hfill := fill_placed pl (fun i => pl.toArray[i]?) (fun i q h => by simpa using h) ps zs hok
  simp only [Instr.build, Sem.run_bind, hz w, Result.andThen_ok, run_underlying hu, hp w, Value.cells, hfill]
  rfl
theorem BuildAt.array {t T : TypeId} {N sz : Nat} {pl : List (Nat × Nat)} {zs : List Value} (hu : P.underlying t = some (.array N T)) (hz : ∀ w : World, (zeroValue t).run P w = .ok (.agg zs.toArray) w) (hs : SizeOf P T sz)
    (hp : ∀ i q, pl[i]? = some q → q = (i * sz, sz)) : BuildAt P t pl zs := by
  intro ps w hok
  have hfill := fill_placed pl (fun i => some (i * sz, sz)) (fun i q h => by rw [hp i q h]) ps zs hok
  simp only [Instr.build, Sem.run_bind, hz w, Result.andThen_ok, run_underlying hu, hs w, Value.cells, hfill]
  rfl
theorem ex_lit {G : Option (Nat × Bool)} {pl : List (Nat × Nat)} {zs cs : List Value} {parts : List (Nat × Operand)} {vs : List Value} (h : AgM ds a n L) (hp : evs L (parts.map (·.2)) vs) (hb : BuildAt P t pl zs) (hok : PartsOk pl zs.length ((parts.map (·.1)).zip vs)) (hc : placed pl zs ((parts.map (·.1)).zip vs) = cs) :
    (execOp a.eval ⟨some d, .build t parts.toArray, ty, pos, after, G⟩).run P w = .ok (.value (.agg cs.toArray)) w := by
  have hm : parts.map (fun p => (p.1, a.eval p.2)) = (parts.map (·.1)).zip vs := by
    rw [zip_parts, ← h.evals hp, List.map_map]
  simp only [execOp, List.map_toArray, hm, Sem.run_bind, hb _ w hok, Result.andThen_ok, Sem.run_pure, hc]
theorem st_lit {pl : List (Nat × Nat)} {zs cs : List Value} {parts : List (Nat × Operand)} {vs : List Value} (h : AgM ds a n L) (hp : evs L (parts.map (·.2)) vs) (hb : BuildAt P t pl zs) (hok : PartsOk pl zs.length ((parts.map (·.1)).zip vs)) (hc : placed pl zs ((parts.map (·.1)).zip vs) = cs) (hn : Nat.blt d n = true)
    (q : ∀ a, AgM ds a n ((d, .agg cs.toArray) :: L) → wpList P ops Q rest a w) : wpList P ops Q (⟨some d, .build t parts.toArray, ty, pos, after, none⟩ :: rest) a w :=
  st_ok h rfl rfl hn (ex_lit h hp hb hok hc) q
theorem s_lit {pl : List (Nat × Nat)} {zs cs : List Value} {parts : List (Nat × Operand)} {vs : List Value} (hp : evs L (parts.map (·.2)) vs) (hb : BuildAt P t pl zs) (hok : PartsOk pl zs.length ((parts.map (·.1)).zip vs)) (hc : placed pl zs ((parts.map (·.1)).zip vs) = cs) (hn : Nat.blt d n = true) (q : WL P ops Q rest n ds w ((d, .agg cs.toArray) :: L)) : WL P ops Q (⟨some d, .build t parts.toArray, ty, pos, after, none⟩ :: rest) n ds w L := fun a h => st_lit h hp hb hok hc hn q -- short
theorem hd_lit {G : Option (Nat × Bool)} {K : Act → World → Prop} {fu : Nat} {listed : Array Bool} {pq : Option Nat} (ix : Nat) (hsel : Region.noSelect ops = true) (hfr : Fre pq ops listed ix = true) (hre : (Region.ready .any ops listed).contains ix = true) (hC : C w) {pl : List (Nat × Nat)} {zs cs : List Value} {parts : List (Nat × Operand)} {vs : List Value} (h : AgM ds a n L) (hG : Wd ops n L G)
    (hp : evs L (parts.map (·.2)) vs) (hb : BuildAt P t pl zs) (hok : PartsOk pl zs.length ((parts.map (·.1)).zip vs)) (hc : placed pl zs ((parts.map (·.1)).zip vs) = cs) (hix : ops[ix]? = some ⟨some d, .build t parts.toArray, ty, pos, after, G⟩) (hn : Nat.blt d n = true)
    (q : ∀ a, AgM ds a n ((d, .agg cs.toArray) :: L) → wpAnyP pq P ops (NormEnd K) C fu (listed.setIfInBounds ix true) a w) : wpAnyP pq P ops (NormEnd K) C (fu + 1) listed a w :=
  hd_ok ix hsel hfr hre hC h hG hix rfl hn (fun _ _ => ex_lit h hp hb hok hc) q
/-! Structs that are compared. -/
def EqOf {α : Type} [DecidableEq α] (P : Program) (t : TypeId) (V : α → Value) : Prop :=
  ∀ (e f : α) (ox oy : Operand) (w : World), (eqGuard .eql t ox oy (V e) (V f)).run P w = .ok () w ∧ (eqGuard .neq t ox oy (V e) (V f)).run P w = .ok () w ∧
    (binOp .eql t (V e) (V f)).run P w = .ok (.bool (decide (e = f))) w ∧ (binOp .neq t (V e) (V f)).run P w = .ok (.bool (!decide (e = f))) w
section
variable {α : Type} [DecidableEq α] {V : α → Value} {e f : α}
theorem ex_eqV {G : Option (Nat × Bool)} (h : AgM ds a n L) (hx : ev L x = some (V e)) (hy : ev L y = some (V f)) (he : EqOf P t V) : (execOp a.eval ⟨some d, .binOp .eql t x y t', ty, pos, after, G⟩).run P w = .ok (.value (.bool (decide (e = f)))) w := by
  obtain ⟨h1, _, h3, _⟩ := he e f x y w
  simp [execOp, h.eval hx, h.eval hy, h1, h3]
theorem st_eqV (h : AgM ds a n L) (hx : ev L x = some (V e)) (hy : ev L y = some (V f)) (he : EqOf P t V) (hn : Nat.blt d n = true) (q : ∀ a, AgM ds a n ((d, .bool (decide (e = f))) :: L) → wpList P ops Q rest a w) : wpList P ops Q (⟨some d, .binOp .eql t x y t', ty, pos, after, none⟩ :: rest) a w :=
  st_ok h rfl rfl hn (ex_eqV h hx hy he) q
theorem s_eqV (hx : ev L x = some (V e)) (hy : ev L y = some (V f)) (he : EqOf P t V) (hn : Nat.blt d n = true) (q : WL P ops Q rest n ds w ((d, .bool (decide (e = f))) :: L)) : WL P ops Q (⟨some d, .binOp .eql t x y t', ty, pos, after, none⟩ :: rest) n ds w L := fun a h => st_eqV h hx hy he hn q -- short
end
/-! Results that lie in memory. -/
theorem retC {fn : Func} {R : Ending → World → Prop} {p pt : Nat} (h : Ag a n L) (hr : fn.results = #[.cell p pt]) (hp : look L p = some (.pointer (some ⟨g, 0, none⟩))) (hb : Blk w g T cs) (hg : AggOf P pt cs.length) (k : R (.returned (.agg cs.toArray)) w) : bodyPost P fn R .ret a w :=
  bodyPost_ret (v := .agg cs.toArray) (by
    have h1 := h.at_ p _ hp
    simp only [Array.getD_eq_getD_getElem?] at h1
    simp [results, hr, h1, asAddr, loadVar, hg.1 w, hg.2 w, run_loadCells_list w _ cs hb.cells]) h.dfr k
theorem retCT {fn : Func} {R : Ending → World → Prop} {p pt q : Nat} (h : Ag a n L) (hr : fn.results = #[.cell p pt, .tmp q]) (hp : look L p = some (.pointer (some ⟨g, 0, none⟩))) (hb : Blk w g T cs) (hg : AggOf P pt cs.length) (hv : look L q = some v) (k : R (.returned (.tuple #[.agg cs.toArray, v])) w) : bodyPost P fn R .ret a w :=
  bodyPost_ret (v := .tuple #[.agg cs.toArray, v]) (by
    have h1 := h.at_ p _ hp
    have h2 := h.at_ q _ hv
    simp only [Array.getD_eq_getD_getElem?] at h1 h2
    simp [results, hr, h1, h2, asAddr, loadVar, hg.1 w, hg.2 w, run_loadCells_list w _ cs hb.cells]) h.dfr k
end
end Go.Lw
namespace Go.Lw
open Go.RowKit

abbrev SV := Option Addr × Nat × Nat
def slv (p : SV) : Value := .slice p.1 p.2.1 p.2.2

section
variable {α : Type} {E : Enc α} {T : TypeId} {base : Nat} {w w' : World} {X Y S : List Nat} {ps qs : List (SV × List α)} {u u' : SV} {r r' : List α}

theorem flat_set (ys : List α) (z : α) (R : List Value) : ∀ (i : Nat), i < ys.length → (ys.flatMap E.enc ++ R).take (i * E.sz) ++ E.enc z ++ (ys.flatMap E.enc ++ R).drop (i * E.sz + E.sz) = (ys.set i z).flatMap E.enc ++ R := by
  intro i hi
  obtain ⟨p, y, s, rfl, rfl⟩ : ∃ p y s, ys = p ++ y :: s ∧ p.length = i := ⟨ys.take i, ys[i], ys.drop (i + 1), by simp, by simp; omega⟩
  have h1 : p.length * E.sz = (p.flatMap E.enc).length := (E.flat_len p).symm
  rw [List.set_append_right _ _ (Nat.le_refl _), Nat.sub_self, List.set_cons_zero]
  simp only [List.flatMap_append, List.flatMap_cons, List.append_assoc]
  rw [h1, List.take_left, List.drop_append, List.drop_of_length_le (by omega), List.nil_append, show (p.flatMap E.enc).length + E.sz - (p.flatMap E.enc).length = (E.enc y).length by rw [E.len]; omega, List.drop_left]
end
section
variable {P : Program} {ops : Array Oper} {Q : Exit → Act → World → Prop} {rest : List Oper} {a : Act} {w : World} {n : Nat} {L : List (Nat × Value)} {ds : List Nat} {ty : TypeId} {pos : String} {after : Array Edge} {x y : Operand} {t T : TypeId} {v : Value}
/-- An element of a slice of the call's own is written. -/
theorem st_storeO {α : Type} {E : Enc α} {base g m c i : Nat} {ys : List α} (z : α) (h : AgM ds a n L) (hx : ev L x = some (.pointer (some ((⟨g, 0, none⟩ : Addr).add (i * E.sz))))) (hy : ev L y = some v) (ho : Own E T base w (.slice (some ⟨g, 0, none⟩) m c) ys) (hi : i < ys.length)
    (hc : v.cells = (E.enc z).toArray) (hs : SizeOf P t E.sz)
    (q : ∀ w', Own E T base w' (.slice (some ⟨g, 0, none⟩) m c) (ys.set i z) → Fr [g] w w' → w'.heap.size = w.heap.size → ∀ a, AgM ds a n L → wpList P ops Q rest a w') : wpList P ops Q (⟨none, .store t x y, ty, pos, after, none⟩ :: rest) a w := by
  rcases ho with ⟨e, _⟩ | ⟨g', cap, cur, e, hb, hg, h1, h2, h3, h4⟩
  · cases e
  cases e
  have hil : i * E.sz + E.sz ≤ ys.length * E.sz := by rw [← Nat.succ_mul]; exact Nat.mul_le_mul_right _ hi
  have hcs : ys.length * E.sz ≤ cur.size := Nat.le_trans (Nat.mul_le_mul_right _ h1) h3
  have hst := run_storeCells_at P g (i * E.sz) T (E.enc z) 0 cur w hg (by rw [E.len]; omega) (E.one z)
  rw [Nat.add_zero, E.len] at hst
  have hcur : cur.toList = ys.flatMap E.enc ++ cur.toList.drop (ys.length * E.sz) := by rw [← h4, List.take_append_drop]
  have hnew : cur.toList.take (i * E.sz) ++ E.enc z ++ cur.toList.drop (i * E.sz + E.sz) = (ys.set i z).flatMap E.enc ++ cur.toList.drop (ys.length * E.sz) := by
    conv => lhs; rw [hcur]
    exact flat_set ys z _ i hi
  rw [hnew] at hst
  refine st_skip h rfl rfl (w' := w.setRow g ((ys.set i z).flatMap E.enc ++ cur.toList.drop (ys.length * E.sz)).toArray) ?_ (q _ ?_ (Fr.setRow w g _) (by simp))
  · rw [lit_add, Nat.zero_add] at hx
    simp only [execOp, h.eval hx, h.eval hy, Sem.run_bind, Sem.run_pure, Result.andThen_ok, Instr.storeAt, Instr.sureAddr, storeVar, hs w, hc]
    simp [hst, E.len]
  · refine .inr ⟨g, c, _, by rw [List.length_set], hb, setRow_heap w g cur _ T _ hg, by rw [List.length_set]; exact h1, h2, ?_, ?_⟩
    · simp only [List.size_toArray, List.length_append, E.flat_len, List.length_set, List.length_drop, Array.length_toList]; omega
    · rw [List.length_set, show ys.length * E.sz = ((ys.set i z).flatMap E.enc).length by rw [E.flat_len, List.length_set]]
      exact List.take_left
theorem s_storeO {α : Type} {E : Enc α} {base g m c i : Nat} {ys : List α} (z : α) (hx : ev L x = some (.pointer (some ((⟨g, 0, none⟩ : Addr).add (i * E.sz))))) (hy : ev L y = some v) (ho : Own E T base w (.slice (some ⟨g, 0, none⟩) m c) ys) (hi : i < ys.length) (hc : v.cells = (E.enc z).toArray) (hs : SizeOf P t E.sz) (q : ∀ w', Own E T base w' (.slice (some ⟨g, 0, none⟩) m c) (ys.set i z) → Fr [g] w w' → w'.heap.size = w.heap.size → WL P ops Q rest n ds w' L) : WL P ops Q (⟨none, .store t x y, ty, pos, after, none⟩ :: rest) n ds w L := fun a h => st_storeO z h hx hy ho hi hc hs q -- short
end
section
variable {P : Program} {ops : Array Oper} {o o' : Oper} {K : Act → World → Prop} {C : World → Prop} {fu : Nat} {listed : Array Bool} {pq : Option Nat} {a : Act} {w : World}
theorem hd_come (ix : Nat) (hix : ops[ix]? = some o) (k : wpList P ops (NormEnd fun a' w' => Sat pq C (listed.setIfInBounds ix true) w' ∧ wpAnyP pq P ops (NormEnd K) C fu (listed.setIfInBounds ix true) a' w') [o] a w) :
    wpOp P ops (NormEnd K) ix (fun a w => Sat pq C (listed.setIfInBounds ix true) w ∧ wpAnyP pq P ops (NormEnd K) C fu (listed.setIfInBounds ix true) a w) a w := by
  unfold wpOp
  rw [hix]
  unfold wpList at k
  simp only
  split
  · rename_i hw
    rw [if_pos hw] at k
    rcases k with k | ⟨_, _, _, k⟩
    · refine .inl (Oper.wp_mono (fun a w h => h) ?_)
      unfold Oper.wp at k ⊢
      generalize (execOp a.eval o).run P w = r at k ⊢
      cases r with
      | ok nx w' =>
        cases nx <;> simp only [Oper.upon] at k ⊢ <;> first
          | exact k
          | exact Calls.mono k (fun e w'' he => by cases e <;> first | exact he | exact he.elim | (obtain ⟨_, _, he⟩ := he; exact he.elim))
          | exact Rows.mono k (fun _ _ he => he)
      | halt x w' => cases x <;> simp only [Oper.upon] at k ⊢ <;> exact k.elim
    · exact k.elim
  · rename_i hw
    rw [if_neg hw] at k
    exact k
/-- Two operations may come up. -/
theorem hd_two (i j : Nat) (hr : Region.ready .any ops listed = [i, j]) (hi : ops[i]? = some o) (hj : ops[j]? = some o')
    (k : wpList P ops (NormEnd fun a' w' => Sat pq C (listed.setIfInBounds i true) w' ∧ wpAnyP pq P ops (NormEnd K) C fu (listed.setIfInBounds i true) a' w') [o] a w)
    (k' : wpList P ops (NormEnd fun a' w' => Sat pq C (listed.setIfInBounds j true) w' ∧ wpAnyP pq P ops (NormEnd K) C fu (listed.setIfInBounds j true) a' w') [o'] a w) : wpAnyP pq P ops (NormEnd K) C (fu + 1) listed a w := by
  refine P_all hr (by simp) fun x hx => ?_
  simp at hx
  rcases hx with rfl | rfl
  · exact hd_come _ hi k
  · exact hd_come _ hj k'
theorem hd_three {o'' : Oper} (i j m : Nat) (hr : Region.ready .any ops listed = [i, j, m]) (hi : ops[i]? = some o) (hj : ops[j]? = some o') (hm : ops[m]? = some o'')
    (k : wpList P ops (NormEnd fun a' w' => Sat pq C (listed.setIfInBounds i true) w' ∧ wpAnyP pq P ops (NormEnd K) C fu (listed.setIfInBounds i true) a' w') [o] a w)
    (k' : wpList P ops (NormEnd fun a' w' => Sat pq C (listed.setIfInBounds j true) w' ∧ wpAnyP pq P ops (NormEnd K) C fu (listed.setIfInBounds j true) a' w') [o'] a w)
    (k'' : wpList P ops (NormEnd fun a' w' => Sat pq C (listed.setIfInBounds m true) w' ∧ wpAnyP pq P ops (NormEnd K) C fu (listed.setIfInBounds m true) a' w') [o''] a w) : wpAnyP pq P ops (NormEnd K) C (fu + 1) listed a w := by
  refine P_all hr (by simp) fun x hx => ?_
  simp at hx
  rcases hx with rfl | rfl | rfl
  · exact hd_come _ hi k
  · exact hd_come _ hj k'
  · exact hd_come _ hm k''
end
end Go.Lw
namespace Go.Lw
open Go.RowKit

theorem zero_rows {α : Type} (E : Enc α) (z : α) : ∀ (c : Nat), ((Array.range (c * E.sz)).map ((E.enc z).toArray[· % E.sz]!)).toList = (List.replicate c z).flatMap E.enc := by
  intro c
  apply List.ext_getElem?
  intro m
  have hl : ((List.replicate c z).flatMap E.enc).length = c * E.sz := by rw [E.flat_len, List.length_replicate]
  rcases Nat.lt_or_ge m (c * E.sz) with h | h
  · have hi : m / E.sz < c := Nat.div_lt_of_lt_mul (by rw [Nat.mul_comm]; exact h)
    have hj : m % E.sz < E.sz := Nat.mod_lt _ E.pos
    have e : m / E.sz * E.sz + m % E.sz = m := by rw [Nat.mul_comm]; exact Nat.div_add_mod m E.sz
    have hg := E.flat_get (List.replicate c z) (m / E.sz) z (by rw [List.getElem?_replicate, if_pos hi]) (m % E.sz) hj
    rw [e] at hg
    rw [hg]
    have hj' : m % E.sz < (E.enc z).length := by rw [E.len]; exact hj
    simp [h]
    rw [List.getElem?_eq_getElem hj']
    rfl
  · rw [List.getElem?_eq_none (by simp; exact h), List.getElem?_eq_none (by rw [hl]; exact h)]

section
variable {P : Program} {a : Act} {n : Nat} {L : List (Nat × Value)} {ds : List Nat} {w w' : World} {Q : Exit → Act → World → Prop} {ops : Array Oper} {rest : List Oper}
variable {d : Nat} {ty : TypeId} {pos : String} {after : Array Edge} {v u : Value} {x y z : Operand} {t t' T : TypeId} {k k' : IntKind} {i j : Int}

theorem ex_makeSlice {G : Option (Nat × Bool)} {α : Type} {E : Enc α} {bytes m c : Nat} (e0 : α) (h : AgM ds a n L) (hx : ev L x = some (.int k (m : Int))) (hy : ev L y = some (.int k' (c : Int))) (he : ElemOf P t T E bytes)
    (hz : ∀ w : World, (zeroValue T).run P w = .ok v w) (hv : v.cells = (E.enc e0).toArray) (hmc : m ≤ c) (hb : c * bytes ≤ 140737488355328) (hM : c ≤ maxLen) :
    (execOp a.eval ⟨some d, .makeSlice t x y, ty, pos, after, G⟩).run P w = .ok (.value (.slice (some ⟨w.heap.size, 0, none⟩) m c)) (w.alloc (.cells ((List.replicate c e0).flatMap E.enc).toArray T)) := by
  obtain ⟨inf, zv, hin, hzz, hsz, hby, hzs⟩ := he.info
  have hzv : zv = v := by
    have := hz w
    simpa [zeroValue, typeInfo, hin, hzz] using this
  subst hzv
  have hM' : c ≤ 9223372036854775807 := by simp only [maxLen] at hM; omega
  have w1 : IntKind.i64.wrap (m : Int) = m := IntWalk.i64_in _ (by omega)
  have w2 : IntKind.i64.wrap (c : Int) = c := IntWalk.i64_in _ (by omega)
  have hbi : ((inf.bytes : Nat) : Int) * (c : Int) ≤ 140737488355328 := by
    have : ((inf.bytes * c : Nat) : Int) ≤ 140737488355328 := by rw [hby, Nat.mul_comm]; omega
    simpa using this
  have ht : (decide ((c : Int) < 0) || decide ((inf.bytes : Int) * (c : Int) > 2 ^ 48)) = false := by
    simp only [Bool.or_eq_false_iff, decide_eq_false_iff_not]
    constructor <;> omega
  have hlt : ¬ ((m : Int) < 0) := by omega
  have hgt : ¬ ((m : Int) > (c : Int)) := by omega
  have hroom : ¬ (c * inf.bytes > roomBytes) := by
    rw [hby]; unfold roomBytes; omega
  have hrows := zero_rows E e0 c
  simp only [execOp, h.eval hx, h.eval hy, Instr.makeSlice, Sem.run_bind, run_underlying he.und, Result.andThen_ok, asInt, asIntOf, Sem.run_pure, typeInfo, sizeOf, w1, w2]
  simp [hin, hsz, ht, hlt, hgt, askRoom, hroom, w1, w2]
  by_cases h0 : c = 0
  · subst h0
    simp [newRow]
    rw [show Array.range 0 = #[] from rfl]; simp
  · have hcz : ¬ (c * E.sz = 0) := by
      have := E.pos
      intro e
      rcases Nat.mul_eq_zero.1 e with e | e <;> omega
    have h00 : ¬ ((c : Int) < 0) := by omega
    have hbb : ¬ ((281474976710656 : Int) < (inf.bytes : Int) * (c : Int)) := by omega
    simp [hcz, zeroValue, typeInfo, hin, hzz, newRow, hv, E.len, h00, hbb]
    congr 2
    apply Array.toList_inj.1
    simpa using hrows
theorem st_makeSlice {α : Type} {E : Enc α} {bytes m c : Nat} (e0 : α) (h : AgM ds a n L) (hx : ev L x = some (.int k (m : Int))) (hy : ev L y = some (.int k' (c : Int))) (he : ElemOf P t T E bytes)
    (hz : ∀ w : World, (zeroValue T).run P w = .ok v w) (hv : v.cells = (E.enc e0).toArray) (hmc : m ≤ c) (hb : c * bytes ≤ 140737488355328) (hM : c ≤ maxLen) (hn : Nat.blt d n = true)
    (q : ∀ g w', g = w.heap.size → Own E T g w' (.slice (some ⟨g, 0, none⟩) m c) (List.replicate m e0) → Fr [] w w' → w'.heap.size = g + 1 → ∀ a, AgM ds a n ((d, .slice (some ⟨g, 0, none⟩) m c) :: L) → wpList P ops Q rest a w') :
    wpList P ops Q (⟨some d, .makeSlice t x y, ty, pos, after, none⟩ :: rest) a w := by
  refine st_ok h rfl rfl hn (ex_makeSlice e0 h hx hy he hz hv hmc hb hM) (q _ _ rfl ?_ (Fr.alloc [] w _) (by simp))
  refine .inr ⟨_, c, _, by simp, Nat.le_refl _, heap_alloc_new w _, by simpa using hmc, hM, by simp [E.flat_len], ?_⟩
  simp only [List.length_replicate]
  obtain ⟨r, rfl⟩ : ∃ r, c = m + r := ⟨c - m, by omega⟩
  rw [← List.replicate_append_replicate, List.flatMap_append]
  rw [show m * E.sz = ((List.replicate m e0).flatMap E.enc).length by rw [E.flat_len, List.length_replicate]]
  exact List.take_left
theorem s_makeSlice {α : Type} {E : Enc α} {bytes m c : Nat} (e0 : α) (hx : ev L x = some (.int k (m : Int))) (hy : ev L y = some (.int k' (c : Int))) (he : ElemOf P t T E bytes) (hz : ∀ w : World, (zeroValue T).run P w = .ok v w) (hv : v.cells = (E.enc e0).toArray) (hmc : m ≤ c) (hb : c * bytes ≤ 140737488355328) (hM : c ≤ maxLen) (hn : Nat.blt d n = true) (q : ∀ g w', g = w.heap.size → Own E T g w' (.slice (some ⟨g, 0, none⟩) m c) (List.replicate m e0) → Fr [] w w' → w'.heap.size = g + 1 → WL P ops Q rest n ds w' ((d, .slice (some ⟨g, 0, none⟩) m c) :: L)) : WL P ops Q (⟨some d, .makeSlice t x y, ty, pos, after, none⟩ :: rest) n ds w L := fun a h => st_makeSlice e0 h hx hy he hz hv hmc hb hM hn q -- short
end
end Go.Lw
namespace Go.Lw
section
variable {P : Program} {a : Act} {n : Nat} {L : List (Nat × Value)} {ds : List Nat} {w w' : World} {ops : Array Oper} {C : World → Prop}
variable {d : Nat} {ty : TypeId} {pos : String} {after : Array Edge} {x y : Operand} {t T : TypeId} {k : IntKind} {i : Int}
theorem hd_idxA {G : Option (Nat × Bool)} {K : Act → World → Prop} {fu : Nat} {listed : Array Bool} {pq : Option Nat} {ad : Addr} {N sz : Nat} (ix : Nat) (hsel : Region.noSelect ops = true) (hfr : Fre pq ops listed ix = true) (hre : (Region.ready .any ops listed).contains ix = true) (hC : C w) (h : AgM ds a n L) (hG : Wd ops n L G)
    (hx : ev L x = some (.pointer (some ad))) (hy : ev L y = some (.int k i)) (hu : P.underlying t = some (.array N T)) (hs : SizeOf P T sz) (h0 : 0 ≤ i) (h1 : i < N) (hix : ops[ix]? = some ⟨some d, .indexAddr t x y, ty, pos, after, G⟩) (hn : Nat.blt d n = true)
    (q : ∀ a, AgM ds a n ((d, .pointer (some (ad.add (i.toNat * sz)))) :: L) → wpAnyP pq P ops (NormEnd K) C fu (listed.setIfInBounds ix true) a w) : wpAnyP pq P ops (NormEnd K) C (fu + 1) listed a w :=
  hd_ok ix hsel hfr hre hC h hG hix rfl hn (fun _ _ => ex_idxA h hx hy hu hs h0 h1) q
end
end Go.Lw
namespace Go.Lw
open Go.RowKit

section
variable {α : Type} {E : Enc α} {R T : TypeId} {base : Nat} {w w' : World} {OV OV' : Value} {ps : List (SV × List α)}
end
end Go.Lw
namespace Go.Lw
section
variable {α : Type} {E : Enc α} {R T : TypeId} {base : Nat} {w w' : World} {OV : Value} {ps : List (SV × List α)}
end
end Go.Lw
namespace Go.Lw
open Go.ChangeShapes Go.WideShapes Go.ChangeAt Go.RowKit

section
variable {H : Type} {enc : TypeId × Value → H} {P : Program}
theorem trodAll_stays (hl : laidOutB P = true) {W W' : World} (hb : Below W.heap.size W W') {sp : Nat → Bool} : ∀ {ts : List TypeId} {vs : List Value} {ds : List (DataW H)} {ps : List MemPlace},
    (∀ t ∈ ts, P.readableRec t = true ∧ t < P.types.size) → (∀ p ∈ ps, sp p.block = true) → (∀ p ∈ ps, p.block < W.heap.size) → DataW.TrodAll enc P W 0 (fun _ => true) true ts vs ds ps → DataW.TrodAll enc P W' 0 sp true ts vs ds ps
  | [], vs, ds, ps, _, _, _, h => by
    obtain ⟨rfl, rfl, rfl⟩ := trodAll_nil h
    exact trodAll_mk0
  | t :: ts, vs, ds, ps, ht, hs, hlt, h => by
    obtain ⟨v, vs', d, ds', p, q, rfl, rfl, rfl, h1, h2⟩ := trodAll_cons h
    refine trodAll_cons_mk (WideElems.Trod_stays hl (ht t (by simp)).1 (ht t (by simp)).2 h1 (fun x hx => hb.same (hlt x (by simp [hx]))) (fun x hx => hs x (by simp [hx]))) ?_
    exact trodAll_stays hl hb (fun t' h' => ht t' (by simp [h'])) (fun x hx => hs x (by simp [hx])) (fun x hx => hlt x (by simp [hx])) h2

/-- A law that returned true and turned nothing old. -/
theorem post_true {f : Func} {s : ChangeSpec} {apart fresh handsOn again : Bool} {W W' : World} {args : Array Value} {ds : List (DataW H)} {before : List MemPlace} {tb : TypeId}
    (hW : DataW.Whole enc P f.params.toList s.vars apart W args.toList ds [] before) (hv : s.vars = []) (hfn : s.fn H ds = { results := [.lit (.bool true)], args := ds }) (hf : Fr [] W W')
    (hl : laidOutB P = true) (hr : ∀ t ∈ f.params.toList, P.readableRec t = true ∧ t < P.types.size) (hrt : f.resultTypes = #[tb]) (hbt : P.underlying tb = some .bool) : s.post enc P f apart fresh handsOn again W args (.bool true) W' := by
  have hb := hf.below
  have hlt := hW.lt
  have hW' := hW
  obtain ⟨pa, pv, hA, hV, rfl, hz, hn⟩ := hW
  rw [hv] at hV
  obtain ⟨-, rfl⟩ := trodVars_none hV
  rw [List.append_nil] at hW' hlt hz hn
  have hargs : ∀ sp : Nat → Bool, (∀ p ∈ pa, sp p.block = true) → DataW.TrodAll enc P W' 0 sp true f.params.toList args.toList (s.fn H (ds ++ [])).args pa := by
    intro sp hsp
    rw [List.append_nil, hfn]
    exact trodAll_stays hl hb hr hsp hlt hA
  have hres : ∀ (b : Nat) (sp : Nat → Bool) (hd : Bool), DataW.TrodAll enc P W' b sp hd f.resultTypes.toList ((Value.bool true).resultList f.resultTypes.size) (s.fn H (ds ++ [])).results [] := by
    intro b sp hd
    rw [List.append_nil, hfn, hrt]
    exact trodAll_cons_mk (shut_bool hbt true) trodAll_mk0
  have hvars : ∀ sp : Nat → Bool, DataW.TrodVars enc P W' sp s.vars (s.fn H (ds ++ [])).vars [] := by
    intro sp
    rw [hv, List.append_nil, hfn]
    rfl
  have hold : ∀ p ∈ pa, (fun b => decide (b < W.heap.size)) p.block = true := fun p hp => by simpa using hlt p hp
  refine ⟨ds, [], pa, [], pa, [], hW', hres _ _ _, hargs _ hold, hvars _, World.keptBut_mono (fun p hp => ⟨hp, by simp [hp]⟩) (hb.frame _), fun _ => ⟨ok_one hrt rfl (okWide_bool_mk hbt true), _, _, ([] ++ pa) ++ [], ⟨[] ++ pa, [], trodAll_append (hargs _ (fun _ _ => rfl)) (hres _ _ _), hvars _, rfl, ?_, ?_⟩, ?_⟩⟩
  · intro b off hp
    have hp' : MemPlace.cell b off ∈ pa := by simpa using hp
    rw [hb.frozen (hlt _ hp')]
    exact hz b off hp'
  · intro ha
    simpa using hn ha
  · intro p hp _
    simpa using hp
/-- The walk's contract, as the row asks it. -/
theorem calls_true {f : FuncId} {fn : Func} {s : ChangeSpec} {apart fresh handsOn again : Bool} {W : World} {args : Array Value} {ds : List (DataW H)} {before : List MemPlace} {tb : TypeId}
    (hw : Rets P f args W fun v w' => v = .bool true ∧ Fr [] W w')
    (hW : DataW.Whole enc P fn.params.toList s.vars apart W args.toList ds [] before) (hv : s.vars = []) (hfn : s.fn H ds = { results := [.lit (.bool true)], args := ds })
    (hl : laidOutB P = true) (hr : ∀ t ∈ fn.params.toList, P.readableRec t = true ∧ t < P.types.size) (hrt : fn.resultTypes = #[tb]) (hbt : P.underlying tb = some .bool) :
    Calls P f args W fun e W' => ∃ v, e = .returned v ∧ s.post enc P fn apart fresh handsOn again W args v W' :=
  Calls.mono hw fun e w' ⟨v, he, hv', hf⟩ => ⟨v, he, by subst hv'; exact post_true hW hv hfn hf hl hr hrt hbt⟩
end

def litV {H : Type} : DataW H → Value
  | .lit (.int k z) => .int k z
  | .lit (.string s) => .string ⟨s.toArray⟩
  | _ => .bool false
def itemV {H : Type} : DataW H → List Value
  | .agg es => es.map litV
  | d => [litV d]
def tabV {H : Type} : DataW H → Array Value
  | .agg ds => (ds.flatMap itemV).toArray
  | _ => #[]
def layW (w : World) (g : Nat) (cs : Array Value) : World :=
  { w with heap := w.heap.modify g fun
      | .cells _ t fr => .cells cs t fr
      | o => o }
noncomputable def laidW (P : Program) (os : Os) (laid : List (String × DataW Unit)) : World :=
  laid.foldl (fun w p => match P.globalNamed p.1 with
    | some g => layW w g (tabV p.2)
    | none => w) (World.holding P os ⟨#[], #[], []⟩)
end Go.Lw
namespace Go.Lw
open Go.ChangeShapes Go.WideShapes Go.ChangeAt Go.RowKit

/-- What is read at a type lies in cells as E says, and R is known of it. -/
def Opens (P : Program) (t : TypeId) {α : Type} (E : Enc α) (R : World → α → Prop) : Prop :=
  ∀ (H : Type) (enc : TypeId × Value → H) (w : World) (base : Nat) (sp : Nat → Bool) (held : Bool) (fuel : Nat) (cs : List Value) (x : DataW H × List MemPlace),
    DataW.trod enc P w base sp held fuel t cs = some x → ∃ y, cs = E.enc y ∧ R w y
def Enc.int (k : IntKind) : Enc Int := ⟨fun n => [.int k n], 1, fun _ => rfl, fun _ u h => by simp at h; subst h; rfl, by decide⟩
def Enc.bool : Enc Bool := ⟨fun n => [.bool n], 1, fun _ => rfl, fun _ u h => by simp at h; subst h; rfl, by decide⟩
def SlR {α : Type} (E : Enc α) (R : World → α → Prop) (w : World) (v : SV) : Prop := ∃ ys, Sl E w (slv v) ys ∧ ∀ y ∈ ys, R w y
section
variable {P : Program} {t e : TypeId}
theorem opens_int {k : IntKind} (hu : P.underlying t = some (.int k)) : Opens P t (Enc.int k) (fun _ n => k.min ≤ n ∧ n ≤ k.max) := by
  intro H enc w base sp held fuel cs x h
  obtain ⟨n, rfl, _, hw⟩ := DataW.trod_int hu h
  refine ⟨n, rfl, ?_⟩
  simpa [Lit.wf] using hw
theorem opens_u8 (hu : P.underlying t = some (.int .u8)) : Opens P t Enc.u8 (fun _ n => 0 ≤ n ∧ n ≤ 255) := by
  intro H enc w base sp held fuel cs x h
  obtain ⟨n, rfl, r⟩ := opens_int hu H enc w base sp held fuel cs x h
  exact ⟨n, rfl, r⟩
theorem opens_b (hu : P.underlying t = some (.int .u8)) : Opens P t Enc.b (fun _ _ => True) := by
  intro H enc w base sp held fuel cs x h
  obtain ⟨n, rfl, r⟩ := opens_u8 hu H enc w base sp held fuel cs x h
  refine ⟨UInt8.ofNat n.toNat, ?_, trivial⟩
  show [Value.int .u8 n] = [Value.int .u8 (((UInt8.ofNat n.toNat).toNat : Nat) : Int)]
  rw [UInt8.toNat_ofNat', Nat.mod_eq_of_lt (by omega)]
  congr 2
  omega
theorem opens_slice {α : Type} {E : Enc α} {R : World → α → Prop} (hu : P.underlying t = some (.slice e)) (hc : P.cellsOf e = E.sz) (ho : Opens P e E R) : Opens P t Enc.sl (SlR E R) := by
  intro H enc w base sp held fuel cs x h
  rcases DataW.trod_slice hu h with ⟨rfl, _⟩ | ⟨ad, len, cap, elems, rest, n, _, rfl, _, hb, hl, hm, hlen, hel, _⟩
  · exact ⟨(none, 0, 0), rfl, [], Sl.nil w, by simp⟩
  have each : ∀ i, i < len → ∃ y, Cells w (ad.add (i * E.sz)) (E.enc y) ∧ R w y := by
    intro i hi
    have h1 := hel i hi
    rw [List.getElem?_eq_getElem (by omega), Option.bind_eq_some_iff, hc] at h1
    obtain ⟨cs', h2, h3⟩ := h1
    obtain ⟨y, rfl, hR⟩ := ho H enc w base sp held n cs' _ h3
    obtain ⟨_, h5, h6⟩ := World.cells?_some h2
    refine ⟨y, fun j u hj => ?_, hR⟩
    have hjl : j < E.sz := by rw [← E.len y]; exact (List.getElem?_eq_some_iff.1 hj).1
    rw [h6 j hjl, hj]
  have all : ∀ m, m ≤ len → ∃ ys : List α, ys.length = m ∧ ∀ i y, ys[i]? = some y → Cells w (ad.add (i * E.sz)) (E.enc y) ∧ R w y := by
    intro m
    induction m with
    | zero => exact fun _ => ⟨[], rfl, fun i y h => by simp at h⟩
    | succ m ih =>
      intro hm
      obtain ⟨ys, h1, h2⟩ := ih (by omega)
      obtain ⟨y, h3⟩ := each m (by omega)
      refine ⟨ys ++ [y], by simp [h1], fun i z hz => ?_⟩
      rcases Nat.lt_or_ge i m with hi | hi
      · rw [List.getElem?_append_left (by omega)] at hz
        exact h2 i z hz
      · have hi' : i = m := by
          have := (List.getElem?_eq_some_iff.1 hz).1
          simp [h1] at this; omega
        subst hi'
        rw [List.getElem?_append_right (by omega), h1, Nat.sub_self] at hz
        simp at hz; subst hz
        exact h3
  obtain ⟨ys, h1, h2⟩ := all len (Nat.le_refl _)
  refine ⟨(some ad, len, cap), rfl, ys, ⟨some ad, cap, by simp [slv, h1], by omega, hm, fun i y hy => ⟨ad, rfl, (h2 i y hy).1⟩⟩, fun y hy => ?_⟩
  obtain ⟨i, hi⟩ := List.getElem?_of_mem hy
  exact (h2 i y hi).2
/-- A field of a struct. -/
theorem opens_field {H : Type} {enc : TypeId × Value → H} {w : World} {base : Nat} {sp : Nat → Bool} {held : Bool} {n : Nat} {cs : List Value} {xs : List (DataW H × List MemPlace)} {f : TypeId} {α : Type} {E : Enc α} {R : World → α → Prop} {i m : Nat}
    (h : DataW.trod enc P w base sp held n f cs = xs[i]?) (hl : xs.length = m) (hi : i < m) (ho : Opens P f E R) : ∃ y, cs = E.enc y ∧ R w y := by
  rw [List.getElem?_eq_getElem (by omega)] at h
  exact ho H enc w base sp held n cs _ h
theorem arg_struct {H : Type} {enc : TypeId × Value → H} {w : World} {base b0 : Nat} {r : Reach} {sp : Nat → Bool} {held : Bool} {v : Value} {d : DataW H} {ps : List MemPlace} {α : Type} {E : Enc α} {R : World → α → Prop} {fs : Array Field}
    (hu : P.underlying t = some (.struct fs)) (ho : Opens P t E R) (hv : Value.okWide P w r b0 t v) (hd : DataW.Trod enc P w base sp held t v d ps) : ∃ y, v = .agg (E.enc y).toArray ∧ R w y := by
  simp only [Value.okWide, hu] at hv
  obtain ⟨cs, rfl, _⟩ := hv
  obtain ⟨fuel, hf⟩ := hd
  obtain ⟨y, h1, h2⟩ := ho H enc w base sp held fuel _ _ hf
  refine ⟨y, ?_, h2⟩
  have h1' : cs.toList = E.enc y := h1
  rw [← h1']
end
end Go.Lw
namespace Go.G21
open Go.Lw
structure LId where
  y : Int
  n : Int
deriving DecidableEq
structure Pa where
  id : LId
  f : Bool
  d : Int
deriving DecidableEq
/-- A loop. -/
structure Lp where
  b : Int
  nw : Bool
  th : List LId
  pa : List Pa
deriving DecidableEq
def id0 : LId := ⟨0, 0⟩
def pa0 : Pa := ⟨id0, false, 0⟩
abbrev idL (i : LId) : List Value := [.int .u8 i.y, .int .i64 i.n]
abbrev paL (p : Pa) : List Value := [.int .u8 p.id.y, .int .i64 p.id.n, .bool p.f, .int .u8 p.d]
def encId : Enc LId := ⟨idL, 2, fun _ => rfl, fun _ u h => by simp at h; rcases h with rfl | rfl <;> rfl, by decide⟩
def encPa : Enc Pa := ⟨paL, 4, fun _ => rfl, fun _ u h => by simp at h; rcases h with rfl | rfl | rfl | rfl <;> rfl, by decide⟩
def sv0 : SV := (none, 0, 0)
/-- A loop in memory: what its headers read as. -/
structure LpQ where
  b : Int
  nw : Bool
  th : SV
  pa : SV
  ths : List LId
  pas : List Pa
def lq0 : LpQ := ⟨0, false, sv0, sv0, [], []⟩
abbrev LpQ.p (q : LpQ) : Lp := ⟨q.b, q.nw, q.ths, q.pas⟩
abbrev lpL (q : LpQ) : List Value := [.int .u8 q.b, .bool q.nw, .slice q.th.1 q.th.2.1 q.th.2.2, .slice q.pa.1 q.pa.2.1 q.pa.2.2]
def encLp : Enc LpQ := ⟨lpL, 4, fun _ => rfl, fun _ u h => by simp at h; rcases h with rfl | rfl | rfl | rfl <;> rfl, by decide⟩
/-- A yarn's loops in memory. -/
abbrev TQ := SV × List LpQ
def tq0 : TQ := (sv0, [])
def encTq : Enc TQ := ⟨fun p => [.slice p.1.1 p.1.2.1 p.1.2.2], 1, fun _ => rfl, fun _ u h => by simp at h; subst h; rfl, by decide⟩
/-- A yarn in memory. -/
structure YQ where
  inn : Bool
  pl : Int
  ct : Int
  nw : Bool
  pe : SV
  pes : List Pa
def yq0 : YQ := ⟨false, 0, 0, false, sv0, []⟩
abbrev yqL (q : YQ) : List Value := [.bool q.inn, .int .i64 q.pl, .int .i64 q.ct, .bool q.nw, .slice q.pe.1 q.pe.2.1 q.pe.2.2]
def encYq : Enc YQ := ⟨yqL, 5, fun _ => rfl, fun _ u h => by simp at h; rcases h with rfl | rfl | rfl | rfl | rfl <;> rfl, by decide⟩
/-- A stack of loops in memory. -/
abbrev IQ := SV × List LId
def iq0 : IQ := (sv0, [])
def encIq : Enc IQ := ⟨fun p => [.slice p.1.1 p.1.2.1 p.1.2.2], 1, fun _ => rfl, fun _ u h => by simp at h; subst h; rfl, by decide⟩
/-- A slot in memory. -/
structure SlQ where
  b : Int
  h : SV
  ids : List LId
def sq0 : SlQ := ⟨0, sv0, []⟩
def encSq : Enc SlQ := ⟨fun q => [.int .u8 q.b, .slice q.h.1 q.h.2.1 q.h.2.2], 2, fun _ => rfl, fun _ u h => by simp at h; rcases h with rfl | rfl <;> rfl, by decide⟩
def SqAt (w : World) (l : List SlQ) : Prop := ∀ q ∈ l, Sl encId w (slv q.h) q.ids
def LpAt (w : World) (q : LpQ) : Prop := Sl encId w (slv q.th) q.ths ∧ Sl encPa w (slv q.pa) q.pas
def LpsAt (w : World) (l : List LpQ) : Prop := ∀ q ∈ l, LpAt w q
def TabAt (w : World) (t : List TQ) : Prop := ∀ p ∈ t, Sl encLp w (slv p.1) p.2 ∧ LpsAt w p.2
def IqAt (w : World) (l : List IQ) : Prop := ∀ q ∈ l, Sl encId w (slv q.1) q.2
section
variable {w w' : World} (hf : Fr [] w w')
include hf
theorem LpAt.ext {q : LpQ} (h : LpAt w q) : LpAt w' q := ⟨h.1.ext hf, h.2.ext hf⟩
theorem LpsAt.ext {l : List LpQ} (h : LpsAt w l) : LpsAt w' l := fun q hq => (h q hq).ext hf
theorem TabAt.ext {t : List TQ} (h : TabAt w t) : TabAt w' t := fun p hp => ⟨(h p hp).1.ext hf, (h p hp).2.ext hf⟩
theorem IqAt.ext {l : List IQ} (h : IqAt w l) : IqAt w' l := fun q hq => (h q hq).ext hf
theorem SqAt.ext {l : List SlQ} (h : SqAt w l) : SqAt w' l := fun q hq => (h q hq).ext hf
end
theorem flat_succ {α β : Type} (f : α → List β) (l : List α) (i : Nat) (d : α) (h : i < l.length) : (l.take (i + 1)).flatMap f = (l.take i).flatMap f ++ f (l.getD i d) := by
  rw [List.take_add_one, List.getElem?_eq_getElem h, List.flatMap_append, List.getD, List.getElem?_eq_getElem h]; simp
theorem flat_le {α β : Type} (f : α → List β) (l : List α) (i : Nat) : ((l.take i).flatMap f).length ≤ (l.flatMap f).length := by
  conv => rhs; rw [← List.take_append_drop i l, List.flatMap_append, List.length_append]
  omega
theorem set_at {α : Type} (l : List α) (m : Nat) (z e : α) : (l ++ List.replicate (m + 1) z).set l.length e = (l ++ [e]) ++ List.replicate m z := by
  rw [List.set_append_right _ _ (Nat.le_refl _), Nat.sub_self, List.replicate_succ, List.set_cons_zero, List.append_assoc]; rfl
theorem map_getD' {α β : Type} (f : α → β) (l : List α) (i : Nat) (d : α) (e : β) (h : i < l.length) : (l.map f).getD i e = f (l.getD i d) := by
  rw [List.getD, List.getD, List.getElem?_map, List.getElem?_eq_getElem h]; rfl
theorem mem_getD {α : Type} {l : List α} {i : Nat} {d : α} (h : i < l.length) : l.getD i d ∈ l := by
  rw [List.getD, List.getElem?_eq_getElem h]; exact List.getElem_mem h
theorem sl_len {α : Type} {E : Enc α} {w : World} {p : SV} {l : List α} (h : Sl E w (slv p) l) : p.2.1 = l.length := by
  obtain ⟨A, c, e, _⟩ := h; simp only [slv, Value.slice.injEq] at e; exact e.2.1
/-- The plain table. -/
abbrev tabP (t : List TQ) : List (List Lp) := t.map fun p => p.2.map LpQ.p
/-- A crossing. -/
structure Cx where
  a : LId
  b : LId
  n : Int
deriving DecidableEq
def cx0 : Cx := ⟨id0, id0, 0⟩
abbrev cxL (c : Cx) : List Value := [.int .u8 c.a.y, .int .i64 c.a.n, .int .u8 c.b.y, .int .i64 c.b.n, .int .i64 c.n]
def encCx : Enc Cx := ⟨cxL, 5, fun _ => rfl, fun _ u h => by simp at h; rcases h with rfl | rfl | rfl | rfl | rfl <;> rfl, by decide⟩
/-- A fabric in memory. -/
structure FbQ where
  t : SV
  c : SV
  h : SV
  f : SV
  ts : List TQ
  cs : List Cx
  hs : List LId
  fs : List LId
/-- A plain fabric. -/
structure Fb where
  t : List (List Lp)
  c : List Cx
  h : List LId
  f : List LId
deriving DecidableEq
abbrev FbQ.p (q : FbQ) : Fb := ⟨tabP q.ts, q.cs, q.hs, q.fs⟩
abbrev fbL (q : FbQ) : List Value := [.slice q.t.1 q.t.2.1 q.t.2.2, .slice q.c.1 q.c.2.1 q.c.2.2, .slice q.h.1 q.h.2.1 q.h.2.2, .slice q.f.1 q.f.2.1 q.f.2.2]
structure FbAt (w : World) (q : FbQ) : Prop where
  t : Sl encTq w (slv q.t) q.ts
  tt : TabAt w q.ts
  c : Sl encCx w (slv q.c) q.cs
  h : Sl encId w (slv q.h) q.hs
  f : Sl encId w (slv q.f) q.fs
theorem FbAt.ext {w w' : World} {q : FbQ} (h : FbAt w q) (hf : Fr [] w w') : FbAt w' q := ⟨h.t.ext hf, h.tt.ext hf, h.c.ext hf, h.h.ext hf, h.f.ext hf⟩
theorem FbAt.len {w : World} {q : FbQ} (h : FbAt w q) : q.t.2.1 = q.ts.length ∧ q.c.2.1 = q.cs.length ∧ q.h.2.1 = q.hs.length ∧ q.f.2.1 = q.fs.length := ⟨sl_len h.t, sl_len h.c, sl_len h.h, sl_len h.f⟩
end Go.G21
namespace Go.G21
open Go.Lw
def Named (i : LId) : Prop := 1 ≤ i.y ∧ i.y ≤ 6 ∧ 0 ≤ i.n ∧ i.n < 2048
instance (i : LId) : Decidable (Named i) := by unfold Named; infer_instance
def Sided (d : Int) : Prop := d = 0 ∨ d = 1
instance (d : Int) : Decidable (Sided d) := by unfold Sided; infer_instance
def ValidP (p : Pa) : Prop := Named p.id ∧ Sided p.d
instance (p : Pa) : Decidable (ValidP p) := by unfold ValidP; infer_instance
def Canc (p q : Pa) : Prop := (Sided p.d ∧ Sided q.d ∧ p.d ≠ q.d) ∧ p.id = q.id ∧ p.f = q.f
instance (p q : Pa) : Decidable (Canc p q) := by unfold Canc; infer_instance
theorem canc_eq {p q : Pa} (h : ¬ ((¬ Sided p.d ∨ ¬ Sided q.d) ∨ p.d = q.d)) : p = ⟨q.id, q.f, p.d⟩ ↔ Canc p q := by
  have h1 : Sided p.d := Classical.not_not.1 fun e => h (.inl (.inl e))
  have h2 : Sided q.d := Classical.not_not.1 fun e => h (.inl (.inr e))
  have h3 : p.d ≠ q.d := fun e => h (.inr e)
  obtain ⟨i, f, d⟩ := p
  constructor
  · intro e
    have e1 := congrArg Pa.id e
    have e2 := congrArg Pa.f e
    exact ⟨⟨h1, h2, h3⟩, e1, e2⟩
  · rintro ⟨-, e1, e2⟩
    simp only at e1 e2
    rw [← e1, ← e2]
theorem canc_no {p q : Pa} (h : (¬ Sided p.d ∨ ¬ Sided q.d) ∨ p.d = q.d) : ¬ Canc p q := fun k => h.elim (fun e => e.elim (fun e => e k.1.1) (fun e => e k.1.2.1)) (fun e => k.1.2.2 e)
def IsPl (x : Int) : Prop := Int.tmod x 2 ≠ 0 ∧ -13 ≤ x ∧ x ≤ 179
instance (x : Int) : Decidable (IsPl x) := by unfold IsPl; infer_instance
/-- One more pass on a stack of passes. -/
def push1 (st : List Pa) (p : Pa) : List Pa := if 0 < st.length ∧ Canc (st.getD (st.length - 1) pa0) p then st.take (st.length - 1) else st ++ [p]
def pushS (st l : List Pa) : List Pa := l.foldl push1 st
theorem push1_len (st : List Pa) (p : Pa) : (push1 st p).length ≤ st.length + 1 := by
  unfold push1; split
  · rw [List.length_take]; omega
  · simp
theorem pushS_len : ∀ (l st : List Pa), (pushS st l).length ≤ st.length + l.length
  | [], st => by simp [pushS]
  | p :: l, st => by
    have h1 := pushS_len l (push1 st p)
    have h2 := push1_len st p
    simp only [pushS, List.foldl_cons, List.length_cons] at h1 ⊢
    omega
theorem pushS_succ (st l : List Pa) (i : Nat) (h : i < l.length) : pushS st (l.take (i + 1)) = push1 (pushS st (l.take i)) (l.getD i pa0) := by
  rw [List.take_add_one, List.getElem?_eq_getElem h, pushS, List.foldl_append, List.getD, List.getElem?_eq_getElem h]; rfl
/-- The passes of a yarn are as they must be. -/
def PesOk (l : List Pa) : Prop := ∀ i, i < l.length → ValidP (l.getD i pa0) ∧ (0 < i → ¬ Canc (l.getD (i - 1) pa0) (l.getD i pa0))
instance (l : List Pa) : Decidable (PesOk l) := by unfold PesOk; infer_instance
/-- A yarn. -/
structure Yn where
  inn : Bool
  pl : Int
  ct : Int
  nw : Bool
  pe : List Pa
abbrev YQ.p (q : YQ) : Yn := ⟨q.inn, q.pl, q.ct, q.nw, q.pes⟩
def YnOk (y : Yn) : Prop := (0 ≤ y.ct ∧ y.ct ≤ 2048) ∧ (if y.inn = true then IsPl y.pl ∧ y.pe.length ≤ 4096 ∧ PesOk y.pe else y.pl = 0 ∧ y.nw = false ∧ y.pe.length = 0)
instance (y : Yn) : Decidable (YnOk y) := by unfold YnOk; infer_instance
def ynE (y : Yn) : Int := if YnOk y then 0 else 1
def AllV (l : List Pa) : Prop := ∀ p ∈ l, ValidP p
instance (l : List Pa) : Decidable (AllV l) := by unfold AllV; infer_instance
def goE (y : Yn) (pl : Int) (l : List Pa) : Int := if ynE y ≠ 0 then ynE y else if ¬ IsPl pl then 1 else if ¬ AllV l then 1 else if y.inn = false then 12 else if 4096 < (pushS y.pe l).length then 3 else 0
def goS (y : Yn) (pl : Int) (l : List Pa) : Yn := ⟨y.inn, pl, y.ct, y.nw, pushS y.pe l⟩
def mkE (y : Yn) : Int := if ynE y ≠ 0 then ynE y else if y.inn = false then 12 else if y.ct = 2048 then 3 else 0
def enE (y : Yn) (d : Int) : Int := if ynE y ≠ 0 then ynE y else if ¬ Sided d then 1 else if y.inn = true then 12 else 0
theorem yn_0 {y : Yn} (h : YnOk y) : ynE y = 0 := if_pos h
theorem yn_1 {y : Yn} (h : ¬ YnOk y) : ynE y = 1 := if_neg h
theorem yn_a {y : Yn} (h : y.ct < 0 ∨ 2048 < y.ct) : ynE y = 1 := yn_1 fun e => by have := e.1; omega
theorem yn_b {y : Yn} (hi : y.inn = false) (h : (y.pl ≠ 0 ∨ y.nw = true) ∨ 0 < (y.pe.length : Int)) : ynE y = 1 := yn_1 fun e => by
  have h2 := e.2
  rw [if_neg (by rw [hi]; decide)] at h2
  rcases h with (h | h) | h
  · exact h h2.1
  · rw [h2.2.1] at h; cases h
  · omega
theorem yn_c {y : Yn} (h0 : ¬ (y.ct < 0 ∨ 2048 < y.ct)) (hi : y.inn = false) (h : ¬ ((y.pl ≠ 0 ∨ y.nw = true) ∨ 0 < (y.pe.length : Int))) : ynE y = 0 := yn_0 ⟨by omega, by
  rw [if_neg (by rw [hi]; decide)]
  refine ⟨Classical.not_not.1 fun e => h (.inl (.inl e)), ?_, by omega⟩
  cases e : y.nw
  · rfl
  · exact absurd (.inl (.inr e)) h⟩
theorem yn_d {y : Yn} (hi : y.inn = true) (h : ¬ IsPl y.pl ∨ 4096 < (y.pe.length : Int)) : ynE y = 1 := yn_1 fun e => by
  have h2 := e.2
  rw [if_pos hi] at h2
  rcases h with h | h
  · exact h h2.1
  · omega
def GoodAt (l : List Pa) (i : Nat) : Prop := ValidP (l.getD i pa0) ∧ (0 < i → ¬ Canc (l.getD (i - 1) pa0) (l.getD i pa0))
theorem yn_e {y : Yn} {i : Nat} (hi : y.inn = true) (hl : i < y.pe.length) (h : ¬ GoodAt y.pe i) : ynE y = 1 := yn_1 fun e => by
  have h2 := e.2
  rw [if_pos hi] at h2
  exact h (h2.2.2 i hl)
theorem yn_f {y : Yn} (h0 : ¬ (y.ct < 0 ∨ 2048 < y.ct)) (hi : y.inn = true) (h : ¬ (¬ IsPl y.pl ∨ 4096 < (y.pe.length : Int))) (hg : ∀ i, i < y.pe.length → GoodAt y.pe i) : ynE y = 0 := yn_0 ⟨by omega, by
  rw [if_pos hi]
  exact ⟨Classical.not_not.1 fun e => h (.inl e), by omega, hg⟩⟩
theorem yn_in {y : Yn} (h : ynE y = 0) : YnOk y := by unfold ynE at h; split at h; assumption; omega
end Go.G21
namespace Go.Lw
open Go.RowKit

/-- The law of a key type. -/
structure KeyLaw {κ : Type} [DecidableEq κ] (P : Program) (K : TypeId) (V : κ → Value) : Prop where
  check : ∀ b k (w : World), (Instr.checkKey b 10000 K (V k)).run P w = .ok () w
  find : ∀ k (es : List MapEntry) (ks : List κ) (w : World), es.map (·.key) = ks.map V →
    (Instr.findKey K (V k) es).run P w = .ok ((ks.findIdx? (fun x => decide (k = x))).bind fun i => (es[i]?).map fun e => (i, e.val)) w
  bits : ∀ k, Instr.sameBits 10000 (V k) (V k) = true

def assocGet {κ : Type} [DecidableEq κ] : List (κ × Value) → κ → Option Value
  | [], _ => none
  | p :: r, k => if k = p.1 then some p.2 else assocGet r k
/-- Block g is a map that holds f. -/
def MapF {κ : Type} [DecidableEq κ] (V : κ → Value) (w : World) (g : Nat) (f : κ → Option Value) : Prop :=
  ∃ (es : Array MapEntry) (c : Nat) (m : List (κ × Value)), w.heap[g]? = some (.map es c) ∧ es.toList.map (fun e => (e.key, e.val)) = m.map (fun p => (V p.1, p.2)) ∧ ∀ k, assocGet m k = f k

section
variable {κ : Type} [DecidableEq κ] {V : κ → Value} {P : Program} {K : TypeId}
theorem findAsking_eq (heq : ∀ k k' (w : World), (Op.equal K (V k) (V k')).run P w = .ok (decide (k = k')) w) (k : κ) : ∀ (es : List MapEntry) (ks : List κ) (i : Nat) (w : World), es.map (·.key) = ks.map V →
    (Instr.findAsking K (V k) es i).run P w = .ok ((ks.findIdx? (fun x => decide (k = x))).bind fun j => (es[j]?).map fun e => (i + j, e.val)) w
  | [], [], i, w, _ => by simp [Instr.findAsking]
  | [], _ :: _, _, _, h => by simp at h
  | _ :: _, [], _, _, h => by simp at h
  | e :: es, x :: ks, i, w, h => by
    simp only [List.map_cons, List.cons.injEq] at h
    have ih := findAsking_eq heq k es ks (i + 1) w h.2
    simp only [Instr.findAsking, h.1, Sem.run_bind, heq k x w, Result.andThen_ok]
    by_cases hx : k = x
    · simp [hx, List.findIdx?_cons]
    · simp only [hx, decide_false, Bool.false_eq_true, if_false, ih, List.findIdx?_cons, Option.bind_map]
      congr 1
      cases hf : ks.findIdx? (fun x => decide (k = x)) with
      | none => simp
      | some j => simp [Nat.add_assoc, Nat.add_comm 1 j]
theorem KeyLaw.asking {d : TypeDesc} (hu : P.underlying K = some d) (hs : ∀ k k', Instr.sameNow d (V k) (V k') = none) (hc : ∀ b k (w : World), (Instr.checkKey b 10000 K (V k)).run P w = .ok () w)
    (heq : ∀ k k' (w : World), (Op.equal K (V k) (V k')).run P w = .ok (decide (k = k')) w) (hb : ∀ k, Instr.sameBits 10000 (V k) (V k) = true) : KeyLaw P K V := by
  refine ⟨hc, fun k es ks w h => ?_, hb⟩
  cases es with
  | nil =>
    cases ks with
    | nil => simp [Instr.findKey, run_underlying hu, Instr.findNow]
    | cons x ks => simp at h
  | cons e es =>
    cases ks with
    | nil => simp at h
    | cons x ks =>
      have hn : Instr.findNow d (V k) (e :: es) 0 = none := by
        simp only [List.map_cons, List.cons.injEq] at h
        simp [Instr.findNow, h.1, hs]
      have := findAsking_eq heq k (e :: es) (x :: ks) 0 w h
      simp only [Instr.findKey, Sem.run_bind, run_underlying hu, Result.andThen_ok, hn, this, Nat.zero_add]

theorem assoc_find (m : List (κ × Value)) (k : κ) : ∀ (es : List MapEntry), es.map (fun e => (e.key, e.val)) = m.map (fun p => (V p.1, p.2)) →
    (((m.map (·.1)).findIdx? (fun x => decide (k = x))).bind fun i => (es[i]?).map fun e => (i, e.val)).map (·.2) = assocGet m k := by
  induction m with
  | nil => intro es h; simp [assocGet]
  | cons p m ih =>
    intro es h
    match es, h with
    | e :: es, h =>
      simp only [List.map_cons, List.cons.injEq, Prod.mk.injEq] at h
      have := ih es h.2
      unfold assocGet
      by_cases hk : k = p.1
      · simp [hk, List.findIdx?_cons, h.1.2]
      · simp only [List.map_cons, List.findIdx?_cons, hk, decide_false, if_false, Bool.false_eq_true]
        rw [← this]
        cases (m.map (·.1)).findIdx? (fun x => decide (k = x)) with
        | none => simp
        | some j =>
          simp
          rfl
theorem assocGet_app (m : List (κ × Value)) (k k' : κ) (v : Value) : (m.map (·.1)).findIdx? (fun x => decide (k = x)) = none → assocGet (m ++ [(k, v)]) k' = if k' = k then some v else assocGet m k' := by
  induction m with
  | nil => intro _; simp [assocGet]
  | cons p m ih =>
    intro h
    simp only [List.map_cons, List.findIdx?_cons] at h
    split at h
    · cases h
    · rename_i hk
      have hk' : ¬ k = p.1 := by simpa using hk
      have := ih (by simpa using h)
      simp only [List.cons_append, assocGet, this]
      by_cases e : k' = p.1
      · subst e
        simp [Ne.symm hk']
      · simp [e]
theorem assocGet_mod (k k' : κ) (v : Value) : ∀ (m : List (κ × Value)) (i : Nat), (m.map (·.1)).findIdx? (fun x => decide (k = x)) = some i → assocGet (m.modify i fun p => (p.1, v)) k' = if k' = k then some v else assocGet m k'
  | [], i, h => by simp at h
  | p :: m, i, h => by
    simp only [List.map_cons, List.findIdx?_cons] at h
    split at h
    · rename_i hk
      have hk' : k = p.1 := by simpa using hk
      simp at h; subst h
      simp only [List.modify_zero_cons, assocGet, hk']
      by_cases e : k' = p.1 <;> simp [e]
    · rename_i hk
      have hk' : ¬ k = p.1 := by simpa using hk
      cases hf : (m.map (·.1)).findIdx? (fun x => decide (k = x)) with
      | none => rw [hf] at h; simp at h
      | some j =>
        rw [hf] at h; simp at h; subst h
        have := assocGet_mod k k' v m j hf
        simp only [List.modify_succ_cons, assocGet, this]
        by_cases e : k' = p.1
        · subst e; simp [Ne.symm hk']
        · simp [e]
theorem MapF.fr {w w' : World} {g : Nat} {f : κ → Option Value} {S : List Nat} (h : MapF V w g f) (hf : Fr S w w') (hn : g ∉ S) : MapF V w' g f := by
  obtain ⟨es, c, m, h1, h2, h3⟩ := h
  exact ⟨es, c, m, (hf.block g (Array.getElem?_eq_some_iff.1 h1).1 hn).trans h1, h2, h3⟩
theorem MapF.ext {w w' : World} {g : Nat} {f : κ → Option Value} (h : MapF V w g f) (hf : Fr [] w w') : MapF V w' g f := h.fr hf (by simp)
theorem MapF.lt {w : World} {g : Nat} {f : κ → Option Value} (h : MapF V w g f) : g < w.heap.size := let ⟨_, _, _, h1, _⟩ := h; (Array.getElem?_eq_some_iff.1 h1).1
theorem MapF.ne_blk {w : World} {g g' T : Nat} {f : κ → Option Value} {cs : List Value} (h : MapF V w g f) (h' : Blk w g' T cs) : g ≠ g' := by
  rintro rfl; obtain ⟨_, _, _, h1, _⟩ := h; unfold Blk at h'; rw [h'] at h1; cases h1
theorem run_getObj {w : World} {g : Nat} {es : Array MapEntry} {c : Nat} (h : w.heap[g]? = some (.map es c)) : (getObj g).run P w = .ok (.map es c) w := by
  simp [getObj, Sem.run, h]
theorem run_lookup {w : World} {g : Nat} {f : κ → Option Value} {t E : TypeId} {z : Value} (h : MapF V w g f) (hk : KeyLaw P K V) (hu : P.underlying t = some (.map K E)) (hz : (zeroValue E).run P w = .ok z w) (k : κ) :
    (Instr.lookup t (.map (some g)) (V k) false).run P w = .ok ((f k).getD z) w := by
  obtain ⟨es, c, m, h1, h2, h3⟩ := h
  have hkeys : es.toList.map (·.key) = (m.map (·.1)).map V := by
    have := congrArg (List.map Prod.fst) h2
    simpa [List.map_map, Function.comp_def] using this
  have hfi := hk.find k es.toList (m.map (·.1)) w hkeys
  have hval := assoc_find (V := V) m k es.toList h2
  rw [h3] at hval
  generalize ((m.map (·.1)).findIdx? (fun x => decide (k = x))).bind (fun i => (es.toList[i]?).map fun e => (i, e.val)) = r at hfi hval
  cases r with
  | none => simp at hval; simp [Instr.lookup, run_underlying hu, run_getObj h1, hk.check, hfi, hz, ← hval]
  | some p => simp at hval; simp [Instr.lookup, run_underlying hu, run_getObj h1, hk.check, hfi, ← hval]
variable {a : Act} {n : Nat} {L : List (Nat × Value)} {ds : List Nat} {w w' : World} {Q : Exit → Act → World → Prop} {C : World → Prop} {Qa : Act → Prop} {ops : Array Oper} {rest : List Oper}
variable {d : Nat} {ty : TypeId} {pos : String} {after : Array Edge} {x y z : Operand} {t E : TypeId} {g : Nat} {f : κ → Option Value} {k : κ} {v zv : Value}
end
end Go.Lw
namespace Go.Lw
section
variable {a : Act} {w : World} {Q : Exit → Act → World → Prop}
end
end Go.Lw
namespace Go.Lw
theorem Fr.drewN (S : List Nat) (w : World) (n : Nat) : Fr S w (w.drewN n) := ⟨rfl, rfl, rfl, Nat.le_refl _, fun _ _ _ => rfl⟩
/-- The cell of a package-level variable holds an int. -/
def IntAt (g : Nat) (w : World) : Prop := ∃ m : Int, w.cell? ⟨g, 0, none⟩ = some (.int .i64 m)
theorem IntAt.fr {g : Nat} {S : List Nat} {w w' : World} (h : IntAt g w) (hf : Fr S w w') (hn : g ∉ S) : IntAt g w' := let ⟨m, hm⟩ := h; ⟨m, hf.cell hm hn⟩
theorem IntAt.ext {g : Nat} {w w' : World} (h : IntAt g w) (hf : Fr [] w w') : IntAt g w' := h.fr hf (by simp)
theorem IntAt.lt {g : Nat} {w : World} (h : IntAt g w) : g < w.heap.size := let ⟨_, hm⟩ := h; block_lt_of_cell hm
end Go.Lw
namespace Go.Lw
section
variable {P : Program} {a : Act} {n : Nat} {L : List (Nat × Value)} {ds : List Nat} {w w' : World} {Q : Exit → Act → World → Prop} {ops : Array Oper} {rest : List Oper}
variable {d : Nat} {ty : TypeId} {pos : String} {after : Array Edge} {x y : Operand} {t t' T : TypeId} {A : Option Addr} {m c : Nat}
theorem ex_eqnil (h : AgM ds a n L) (hx : ev L x = some (.slice A m c)) (hu : P.underlying t = some (.slice T)) :
    (execOp a.eval ⟨some d, .binOp .eql t x (.const (.slice none 0 0)) t', ty, pos, after, none⟩).run P w = .ok (.value (.bool A.isNone)) w := by
  have h2 := run_eql_nil_slice (P := P) w t T A m c 0 0 hu
  have h3 : (binOp .eql t (.slice A m c) (.slice none 0 0)).run P w = .ok (.bool A.isNone) w := by
    simp only [binOp]
    simp [Op.equal, Op.maxDepth, Lib.run_equalIn_slice_nil w 9999 t T A m c 0 0 hu]
  have h4 : a.eval (.const (.slice none 0 0)) = .slice none 0 0 := rfl
  simp [execOp, h.eval hx, h4, eqGuard, h3]
theorem st_eqnil (h : AgM ds a n L) (hx : ev L x = some (.slice A m c)) (hu : P.underlying t = some (.slice T)) (hn : Nat.blt d n = true) (q : ∀ a, AgM ds a n ((d, .bool A.isNone) :: L) → wpList P ops Q rest a w) :
    wpList P ops Q (⟨some d, .binOp .eql t x (.const (.slice none 0 0)) t', ty, pos, after, none⟩ :: rest) a w :=
  st_ok h rfl rfl hn (ex_eqnil h hx hu) q
theorem s_eqnil (hx : ev L x = some (.slice A m c)) (hu : P.underlying t = some (.slice T)) (hn : Nat.blt d n = true) (q : WL P ops Q rest n ds w ((d, .bool A.isNone) :: L)) : WL P ops Q (⟨some d, .binOp .eql t x (.const (.slice none 0 0)) t', ty, pos, after, none⟩ :: rest) n ds w L := fun a h => st_eqnil h hx hu hn q -- short
end
end Go.Lw
namespace Go.Lw
open Go.RowKit
section
variable {P : Program} {a : Act} {n : Nat} {L : List (Nat × Value)} {ds : List Nat} {w w' : World} {Q : Exit → Act → World → Prop} {C : World → Prop} {Qa : Act → Prop} {ops : Array Oper} {rest : List Oper} {d d2 : Nat} {ty ty2 : TypeId} {pos pos2 : String} {after after2 : Array Edge} {v u : Value} {x y z : Operand} {t T : TypeId} {k k' k'' : IntKind} {i j : Int}
theorem Sl.at {α : Type} {E : Enc α} {ys : List α} (hs : Sl E w v ys) {p : Nat} (hp : p < ys.length) : ∃ ad c, v = .slice (some ad) ys.length c ∧ ∀ W, Sl E W v ys → Cells W (ad.add (p * E.sz)) (E.enc ys[p]) := by
  obtain ⟨A, c, rfl, h1, h2, h3⟩ := hs
  obtain ⟨ad, rfl, _⟩ := h3 p _ (List.getElem?_eq_getElem hp)
  refine ⟨ad, c, rfl, fun W hW => ?_⟩
  obtain ⟨A', c', e, _, _, h3'⟩ := hW
  cases e
  obtain ⟨ad', e, hc⟩ := h3' p _ (List.getElem?_eq_getElem hp)
  cases e; exact hc
theorem getD_at {α : Type} (ys : List α) (p : Nat) (hp : p < ys.length) (z : α) : ys[p] = ys.getD p z := by simp [List.getD, hp]
/-- The address of an element of a slice that reads as a list. -/
theorem Sl.at' {α : Type} {E : Enc α} {ys : List α} (hs : Sl E w v ys) {p : Nat} (hp : p < ys.length) (y0 : α) : ∃ ad c, v = .slice (some ad) ys.length c ∧ ∀ W, Sl E W v ys → Cells W (ad.add (p * E.sz)) (E.enc (ys.getD p y0)) := by
  obtain ⟨ad, c, h1, h2⟩ := hs.at hp
  exact ⟨ad, c, h1, by rw [← getD_at ys p hp y0]; exact h2⟩
theorem st_idxL {α : Type} {E : Enc α} {bytes : Nat} {ys : List α} {p : Nat} (y0 : α) (h : AgM ds a n L) (hx : ev L x = some v) (hs : Sl E w' v ys) (hy : ev L y = some (.int k i)) (he : ElemOf P t T E bytes) (h0 : 0 ≤ i) (h1 : i < ys.length) (hp : i.toNat = p) (hn : Nat.blt d n = true)
    (q : ∀ ad, (∀ W, Sl E W v ys → Cells W ad (E.enc (ys.getD p y0))) → ∀ a, AgM ds a n ((d, .pointer (some ad)) :: L) → wpList P ops Q rest a w) : wpList P ops Q (⟨some d, .indexAddr t x y, ty, pos, after, none⟩ :: rest) a w := by
  subst hp
  obtain ⟨ad, c, rfl, hc⟩ := hs.at' (p := i.toNat) (by omega) y0
  exact st_idxS h hx hy he h0 h1 rfl hn (q _ hc)
theorem s_idxL {α : Type} {E : Enc α} {bytes : Nat} {ys : List α} {p : Nat} (y0 : α) (hx : ev L x = some v) (hs : Sl E w' v ys) (hy : ev L y = some (.int k i)) (he : ElemOf P t T E bytes) (h0 : 0 ≤ i) (h1 : i < ys.length) (hp : i.toNat = p) (hn : Nat.blt d n = true) (q : ∀ ad, (∀ W, Sl E W v ys → Cells W ad (E.enc (ys.getD p y0))) → WL P ops Q rest n ds w ((d, .pointer (some ad)) :: L)) : WL P ops Q (⟨some d, .indexAddr t x y, ty, pos, after, none⟩ :: rest) n ds w L := fun a h => st_idxL y0 h hx hs hy he h0 h1 hp hn q -- short
theorem qt_idxL {α : Type} {E : Enc α} {bytes : Nat} {ys : List α} {p : Nat} (y0 : α) (h : AgM ds a n L) (hx : ev L x = some v) (hs : Sl E w' v ys) (hy : ev L y = some (.int k i)) (he : ElemOf P t T E bytes) (h0 : 0 ≤ i) (h1 : i < ys.length) (hp : i.toNat = p) (hn : Nat.blt d n = true)
    (q : ∀ ad, (∀ W, Sl E W v ys → Cells W ad (E.enc (ys.getD p y0))) → ∀ a, AgM ds a n ((d, .pointer (some ad)) :: L) → wpQuiet P ops C Qa rest a) : wpQuiet P ops C Qa (⟨some d, .indexAddr t x y, ty, pos, after, none⟩ :: rest) a := by
  subst hp
  obtain ⟨ad, c, rfl, hc⟩ := hs.at' (p := i.toNat) (by omega) y0
  exact qt_idxS h hx hy he h0 h1 rfl hn (q _ hc)
theorem hd_idxL {G : Option (Nat × Bool)} {K : Act → World → Prop} {fu : Nat} {listed : Array Bool} {pq : Option Nat} {α : Type} {E : Enc α} {bytes : Nat} {ys : List α} {p : Nat} (y0 : α) (ix : Nat) (hsel : Region.noSelect ops = true) (hfr : Fre pq ops listed ix = true) (hre : (Region.ready .any ops listed).contains ix = true) (hC : C w) (h : AgM ds a n L) (hG : Wd ops n L G)
    (hx : ev L x = some v) (hs : Sl E w' v ys) (hy : ev L y = some (.int k i)) (he : ElemOf P t T E bytes) (h0 : 0 ≤ i) (h1 : i < ys.length) (hp : i.toNat = p) (hix : ops[ix]? = some ⟨some d, .indexAddr t x y, ty, pos, after, G⟩) (hn : Nat.blt d n = true)
    (q : ∀ ad, (∀ W, Sl E W v ys → Cells W ad (E.enc (ys.getD p y0))) → ∀ a, AgM ds a n ((d, .pointer (some ad)) :: L) → wpAnyP pq P ops (NormEnd K) C fu (listed.setIfInBounds ix true) a w) : wpAnyP pq P ops (NormEnd K) C (fu + 1) listed a w := by
  subst hp
  obtain ⟨ad, c, rfl, hc⟩ := hs.at' (p := i.toNat) (by omega) y0
  exact hd_idxS ix hsel hfr hre hC h hG hx hy he h0 h1 rfl hix hn (q _ hc)
theorem hd_loadC0 {G : Option (Nat × Bool)} {K : Act → World → Prop} {fu : Nat} {listed : Array Bool} {pq : Option Nat} {ad : Addr} (ix : Nat) (hsel : Region.noSelect ops = true) (hfr : Fre pq ops listed ix = true) (hre : (Region.ready .any ops listed).contains ix = true) (hC : C w) (h : AgM ds a n L) (hG : Wd ops n L G) (hx : ev L x = some (.pointer (some ad))) (hc : ∀ w, C w → Cells w ad [v]) (hg : NotAgg P t)
    (hix : ops[ix]? = some ⟨some d, .load t x, ty, pos, after, G⟩) (hn : Nat.blt d n = true) (q : ∀ a, AgM ds a n ((d, v) :: L) → wpAnyP pq P ops (NormEnd K) C fu (listed.setIfInBounds ix true) a w) : wpAnyP pq P ops (NormEnd K) C (fu + 1) listed a w :=
  hd_load ix hsel hfr hre hC h hG hx (fun W hW => by have := hc W hW 0 v rfl; rwa [Addr.add_zero'] at this) hg hix hn q
theorem hd_loadC {G : Option (Nat × Bool)} {K : Act → World → Prop} {fu : Nat} {listed : Array Bool} {pq : Option Nat} {ad : Addr} {off : Nat} {cs : List Value} (ix : Nat) (hsel : Region.noSelect ops = true) (hfr : Fre pq ops listed ix = true) (hre : (Region.ready .any ops listed).contains ix = true) (hC : C w) (h : AgM ds a n L) (hG : Wd ops n L G) (hx : ev L x = some (.pointer (some (ad.add off)))) (hc : ∀ w, C w → Cells w ad cs) (hv : cs[off]? = some v) (hg : NotAgg P t)
    (hix : ops[ix]? = some ⟨some d, .load t x, ty, pos, after, G⟩) (hn : Nat.blt d n = true) (q : ∀ a, AgM ds a n ((d, v) :: L) → wpAnyP pq P ops (NormEnd K) C fu (listed.setIfInBounds ix true) a w) : wpAnyP pq P ops (NormEnd K) C (fu + 1) listed a w :=
  hd_load ix hsel hfr hre hC h hG hx (fun W hW => hc W hW off v hv) hg hix hn q
theorem Blk.part {w : World} {g T off : Nat} {cs vs : List Value} (hb : Blk w g T cs) (hv : (cs.drop off).take vs.length = vs) : Cells w ((⟨g, 0, none⟩ : Addr).add off) vs := fun j u hu => by
    rw [← hv] at hu
    have hj : (cs.drop off)[j]? = some u := by
      rw [List.getElem?_take] at hu; split at hu
      · exact hu
      · cases hu
    rw [List.getElem?_drop] at hj
    rw [add_add]; exact hb.cellAdd hj
/-- x[lo:hi] of a slice that reads as a list. -/
theorem Sl.cutv {α : Type} {E : Enc α} {ys : List α} {A : Option Addr} {m cp p p' : Nat} (hs : Sl E w (.slice A m cp) ys) (h1 : p ≤ p') (h2 : p' ≤ ys.length) : Sl E w (.slice (if cp = p then A else A.map (·.add (p * E.sz))) (p' - p) (cp - p)) ((ys.take p').drop p) := by
  have hs0 := hs
  obtain ⟨A', c', e, hl, hM, _⟩ := hs0
  cases e
  have ht := hs.take rfl (m := p') h2 (B := A) (c' := cp) (by omega) hM (fun _ => rfl)
  have hl2 : (ys.take p').length = p' := by simp; omega
  have := ht.drop rfl (m := p) (by rw [hl2]; exact h1) (B := if cp = p then A else A.map (·.add (p * E.sz))) (c' := cp - p) (by rw [hl2]; omega) (by omega) (fun hlt => by rw [hl2] at hlt; rw [if_neg (by omega)])
  rw [hl2] at this
  exact this
end
end Go.Lw
namespace Go.Lw
open Go.RowKit

section
variable {P : Program} {a : Act} {n N : Nat} {L : List (Nat × Value)} {ds : List Nat} {w w' : World} {Q : Exit → Act → World → Prop} {ops : Array Oper} {rest : List Oper} {o : Oper} {r : Option Nat}

theorem nm_end (h : Q .normal a w) : wpList P ops (NormEnd (Q .normal)) [] a w := h
end
end Go.Lw
namespace Go.Lw
open Go.RowKit

/-- Behind it the blocks of K are as they were. -/
structure FrK (K : Nat → Prop) (w w' : World) : Prop where
  os : w'.os = w.os
  tape : w'.tape = w.tape
  output : w'.output = w.output
  size : w.heap.size ≤ w'.heap.size
  block : ∀ k, k < w.heap.size → K k → w'.heap[k]? = w.heap[k]?
theorem FrK.refl (K : Nat → Prop) (w : World) : FrK K w w := ⟨rfl, rfl, rfl, Nat.le_refl _, fun _ _ _ => rfl⟩
theorem FrK.trans {K K' : Nat → Prop} {x y z : World} (h : FrK K x y) (h' : FrK K' y z) (hk : ∀ k, k < x.heap.size → K k → K' k) : FrK K x z :=
  ⟨h'.os.trans h.os, h'.tape.trans h.tape, h'.output.trans h.output, Nat.le_trans h.size h'.size, fun k hl hK =>
    (h'.block k (Nat.lt_of_lt_of_le hl h.size) (hk k hl hK)).trans (h.block k hl hK)⟩
theorem FrK.weak {K K' : Nat → Prop} {x y : World} (h : FrK K x y) (hk : ∀ k, k < x.heap.size → K' k → K k) : FrK K' x y := ⟨h.os, h.tape, h.output, h.size, fun k hl hK => h.block k hl (hk k hl hK)⟩
theorem Fr.toK {S : List Nat} {w w' : World} (h : Fr S w w') : FrK (· ∉ S) w w' := ⟨h.os, h.tape, h.output, h.size, h.block⟩
theorem FrK.step {K : Nat → Prop} {S : List Nat} {x y z : World} (h : FrK K x y) (h' : Fr S y z) (hS : ∀ k ∈ S, k < x.heap.size → ¬ K k) : FrK K x z :=
  h.trans h'.toK fun k hl hK e => hS k e hl hK
theorem FrK.next {K : Nat → Prop} {x y z : World} (h : FrK K x y) (h' : Fr [] y z) : FrK K x z := h.step h' (by simp)

section
variable {α : Type} {E : Enc α} {T : TypeId} {base g : Nat} {w w' : World} {v : Value} {ys : List α} {K : Nat → Prop} {cs : List Value} {ad : Addr}
theorem FrK.cell (h : FrK K w w') {p : Addr} {u : Value} (hc : w.cell? p = some u) (hn : K p.block) : w'.cell? p = some u :=
  (World.cell?_of_block (w := w) (h.block p.block (block_lt_of_cell hc) hn)).trans hc
theorem Cells.frK (h : Cells w ad cs) (hf : FrK K w w') (hn : K ad.block) : Cells w' ad cs := fun j u hu => hf.cell (h j u hu) (by rw [block_add]; exact hn)
theorem Sl.frK (h : Sl E w v ys) (hf : FrK K w w') (hn : ∀ k ∈ blks v, K k) : Sl E w' v ys := by
  obtain ⟨A, c, rfl, h1, h2, h3⟩ := h
  refine ⟨A, c, rfl, h1, h2, fun i y hy => ?_⟩
  obtain ⟨ad, rfl, hc⟩ := h3 i y hy
  exact ⟨ad, rfl, hc.frK hf (by rw [block_add]; exact hn _ (by simp [blks]))⟩
theorem Own.frK (h : Own E T base w v ys) (hf : FrK K w w') (hn : ∀ k ∈ blks v, K k) : Own E T base w' v ys := by
  rcases h with ⟨rfl, rfl⟩ | ⟨g, cap, cur, rfl, hb, hg, r⟩
  · exact .inl ⟨rfl, rfl⟩
  · refine .inr ⟨g, cap, cur, rfl, hb, ?_, r⟩
    rw [hf.block g (Array.getElem?_eq_some_iff.1 hg).1 (hn _ (by simp [blks]))]
    exact hg
theorem Blk.frK (h : Blk w g T cs) (hf : FrK K w w') (hn : K g) : Blk w' g T cs := (hf.block g h.lt hn).trans h
end

/-- A step of the loop's book-keeping: new blocks, and at most one block that holds no cells is another. -/
def Turn (n0 : Nat) (W W' : World) : Prop := ∃ row, W.grownBy W' row ∧ ∀ r, row = some r → n0 ≤ r ∧ ∃ o : Obj, W.heap[r]? = some o ∧ o.isCells = false
section
variable {α : Type} {E : Enc α} {T : TypeId} {base g n0 : Nat} {w W W' : World} {v : Value} {ys : List α} {K : Nat → Prop} {cs : List Value} {ad : Addr} {S : List Nat}
theorem Turn.at (h : Turn n0 W W') {k : Nat} {o : Obj} (hk : W.heap[k]? = some o) (hc : o.isCells = true ∨ k < n0) : W'.heap[k]? = some o := by
  obtain ⟨row, hg, hr⟩ := h
  refine (hg.block k (Array.getElem?_eq_some_iff.1 hk).1 fun e => ?_).trans hk
  obtain ⟨h1, o', h2, h3⟩ := hr k e.symm
  rw [hk] at h2; cases h2
  rcases hc with hc | hc
  · rw [hc] at h3; cases h3
  · omega
theorem cells_of_cell {p : Addr} {u : Value} (h : W.cell? p = some u) : ∃ o, W.heap[p.block]? = some o ∧ o.isCells = true := by
  unfold World.cell? at h
  split at h
  · rename_i e; exact ⟨_, e, rfl⟩
  · cases h
theorem Turn.cell (h : Turn n0 W W') {p : Addr} {u : Value} (hc : W.cell? p = some u) : W'.cell? p = some u := by
  obtain ⟨o, h1, h2⟩ := cells_of_cell hc
  exact (World.cell?_of_block (w := W) ((h.at h1 (.inl h2)).trans h1.symm)).trans hc
theorem Cells.turn (h : Cells W ad cs) (ht : Turn n0 W W') : Cells W' ad cs := fun j u hu => ht.cell (h j u hu)
theorem Sl.turn (h : Sl E W v ys) (ht : Turn n0 W W') : Sl E W' v ys := by
  obtain ⟨A, c, rfl, h1, h2, h3⟩ := h
  exact ⟨A, c, rfl, h1, h2, fun i y hy => by obtain ⟨ad, rfl, hc⟩ := h3 i y hy; exact ⟨ad, rfl, hc.turn ht⟩⟩
theorem Own.turn (h : Own E T base W v ys) (ht : Turn n0 W W') : Own E T base W' v ys := by
  rcases h with ⟨rfl, rfl⟩ | ⟨g, cap, cur, rfl, hb, hg, r⟩
  · exact .inl ⟨rfl, rfl⟩
  · exact .inr ⟨g, cap, cur, rfl, hb, ht.at hg (.inl rfl), r⟩
theorem Blk.turn (h : Blk W g T cs) (ht : Turn n0 W W') : Blk W' g T cs := ht.at h (.inl rfl)
theorem Fr.turn (h : Fr S w W) (ht : Turn n0 W W') (hn : w.heap.size ≤ n0) : Fr S w W' := by
  obtain ⟨row, hg, hr⟩ := ht
  exact ⟨hg.os.trans h.os, hg.tape.trans h.tape, hg.output.trans h.output, Nat.le_trans h.size hg.size, fun k hk hS =>
    (hg.block k (Nat.lt_of_lt_of_le hk h.size) (fun e => by have := (hr k e.symm).1; omega)).trans (h.block k hk hS)⟩
theorem FrK.turn (h : FrK K w W) (ht : Turn n0 W W') (hn : w.heap.size ≤ n0) : FrK K w W' := by
  obtain ⟨row, hg, hr⟩ := ht
  exact ⟨hg.os.trans h.os, hg.tape.trans h.tape, hg.output.trans h.output, Nat.le_trans h.size hg.size, fun k hk hS =>
    (hg.block k (Nat.lt_of_lt_of_le hk h.size) (fun e => by have := (hr k e.symm).1; omega)).trans (h.block k hk hS)⟩
end

section
variable {P : Program} {a : Act} {n N : Nat} {L : List (Nat × Value)} {ds : List Nat} {w w' : World} {Q : Exit → Act → World → Prop} {ops : Array Oper} {rest : List Oper} {o : Oper} {r : Option Nat}

end
end Go.Lw
namespace Go.Lw
open Go.RowKit
theorem Blk.of_below {w w' : World} {g B : Nat} {T : TypeId} {cs : List Value} (h : Blk w g T cs) (hb : Below B w w') (hg : g < B) : Blk w' g T cs := by
  unfold Blk at h ⊢; rw [hb.block g hg]; exact h
section
variable {P : Program} {a : Act} {n : Nat} {L : List (Nat × Value)} {ds : List Nat} {w w' : World} {Q : Exit → Act → World → Prop} {ops : Array Oper} {rest : List Oper}
variable {d : Nat} {ty : TypeId} {pos : String} {after : Array Edge} {x y : Operand} {t t' T T' : TypeId} {v : Value} {ad : Addr} {po : Option Addr}
end
end Go.Lw
namespace Go.Lw
open Go.RowKit
section
variable {P : Program} {n : Nat} {L : List (Nat × Value)} {ds : List Nat} {w w' : World} {Q : Exit → Act → World → Prop} {ops : Array Oper} {rest : List Oper} {a : Act} {x y c : Code} {id : Nat}
/-- What a truth value says. -/
class Says (b : Bool) (p : outParam Prop) : Prop where
  iff : b = true ↔ p
instance (priority := 100) says_b (b : Bool) : Says b (b = true) := ⟨Iff.rfl⟩
instance (priority := 1000) says_d (p : Prop) {hp : Decidable p} : Says (@decide p hp) p := ⟨decide_eq_true_iff⟩
instance (priority := 1100) says_n (p : Prop) {hp : Decidable p} : Says (!(@decide p hp)) (¬ p) := ⟨by simp⟩
theorem Says.no {b : Bool} {p : Prop} [h : Says b p] (e : b = false) : ¬ p := fun hp => by rw [h.iff.2 hp] at e; cases e
/-! plain -/
theorem sq (h : CW P (Exit.then (y.wp P Q) Q) x n ds w L) : CW P Q (.seq x y) n ds w L := fun a ha => wp_seq (h a ha)
theorem rg {l : List Oper} (h : WL P l.toArray Q l n ds w L) : CW P Q (.region id l.toArray false) n ds w L := fun a ha => wp_region_lit (h a ha)
theorem sr {l : List Oper} (h : WL P l.toArray (Exit.then (y.wp P Q) Q) l n ds w L) : CW P Q (.seq (.region id l.toArray false) y) n ds w L := sq (rg h)
theorem bl (h : CW P (Exit.inBlock id Q) x n ds w L) : CW P Q (.block id x) n ds w L := fun a ha => wp_block (h a ha)
theorem sk (h : EW Q .normal n ds w L) : CW P Q .skip n ds w L := fun a ha => wp_skip (h a ha)
theorem lb {l : Nat} (h : EW Q .normal n ds w L) : CW P Q (.label l) n ds w L := fun a ha => wp_label (h a ha)
theorem rt (h : EW Q .ret n ds w L) : CW P Q .ret n ds w L := fun a ha => wp_ret (h a ha)
theorem ex (h : EW Q (.exit id) n ds w L) : CW P Q (.exit id) n ds w L := fun a ha => wp_exit (h a ha)
theorem sc (h : CW P (Exit.noGoto Q) x n ds w L) : CW P Q (.scope x) n ds w L := fun a ha => wp_scope_straight (h a ha)
theorem nl (h : EW Q .normal n ds w L) : WL P ops Q [] n ds w L := fun a ha => wpList_nil (h a ha)
theorem tn (h : CW P Q y n ds w L) {Q' : Exit → Act → World → Prop} : EW (Exit.then (y.wp P Q) Q') .normal n ds w L := h
theorem nn (h : CW P Q y n ds w L) {Q' : Exit → Act → World → Prop} : WL P ops (Exit.then (y.wp P Q) Q') [] n ds w L := nl (tn h)
theorem bn' (h : EW Q .normal n ds w L) : EW (Exit.inBlock id Q) .normal n ds w L := h
theorem rb (h : EW Q .ret n ds w L) : EW (Exit.inBlock id Q) .ret n ds w L := h
theorem tr {K : Act → World → Prop} (h : EW Q .ret n ds w L) : EW (Exit.then K Q) .ret n ds w L := h
theorem te {K : Act → World → Prop} (h : EW Q (.exit id) n ds w L) : EW (Exit.then K Q) (.exit id) n ds w L := h
theorem xh (h : EW Q .normal n ds w L) : EW (Exit.inBlock id Q) (.exit id) n ds w L := fun a ha => exit_here (h a ha)
theorem xo {id' : Nat} (hne : Nat.beq id' id = false) (h : EW Q (.exit id') n ds w L) : EW (Exit.inBlock id Q) (.exit id') n ds w L := fun a ha => exit_out hne (h a ha)
theorem gn' (h : EW Q .normal n ds w L) : EW (Exit.noGoto Q) .normal n ds w L := h
theorem gr' (h : EW Q .ret n ds w L) : EW (Exit.noGoto Q) .ret n ds w L := h
theorem gx' (h : EW Q (.exit id) n ds w L) : EW (Exit.noGoto Q) (.exit id) n ds w L := h
theorem ct {C : Operand} (hc : ev L C = some (.bool true)) (k : CW P Q x n ds w L) : CW P Q (.cond C x y) n ds w L := fun a h => cond_true h hc (k a h)
theorem cf {C : Operand} (hc : ev L C = some (.bool false)) (k : CW P Q y n ds w L) : CW P Q (.cond C x y) n ds w L := fun a h => cond_false h hc (k a h)
theorem cd {C : Operand} {b : Bool} {p : Prop} (hc : ev L C = some (.bool b)) [s : Says b p] (ht : p → CW P Q x n ds w L) (hf : ¬ p → CW P Q y n ds w L) : CW P Q (.cond C x y) n ds w L :=
  fun a h => cond_split h hc (fun e => ht (s.iff.1 e) a h) (fun e => hf (s.no e) a h)
/-- A truth value in a slot, known from here on. -/
theorem gs {l : List Oper} (D : Nat) {b : Bool} {p : Prop} (hb : look L D = some (.bool b)) [s : Says b p] (ht : p → WL P ops Q l n ds w ((D, .bool true) :: L)) (hf : ¬ p → WL P ops Q l n ds w ((D, .bool false) :: L)) : WL P ops Q l n ds w L :=
  fun a h => guard_any h hb (fun e h' => ht (s.iff.1 e) a h') (fun e h' => hf (s.no e) a h')
theorem kpL {l : List Oper} (L' : List (Nat × Value)) (hs : Sub L' L) (k : WL P ops Q l n ds w L') : WL P ops Q l n ds w L := fun a h => k a (h.sub hs)
theorem kpC (L' : List (Nat × Value)) (hs : Sub L' L) (k : CW P Q c n ds w L') : CW P Q c n ds w L := fun a h => k a (h.sub hs)
/-- What a guard asks for. -/
def gAskG (ops : Array Oper) (G : Option (Nat × Bool)) (n : Nat) (L : List (Nat × Value)) : Option (Value × Bool) :=
  match G with
  | none => none
  | some (j, want) =>
    match ops[j]? with
    | none => none
    | some oj =>
      match oj.dst with
      | none => none
      | some dj => bif Nat.blt dj n then (look L dj).map (fun v => (v, want)) else none
def gAsk (ops : Array Oper) (o : Oper) (n : Nat) (L : List (Nat × Value)) : Option (Value × Bool) := gAskG ops o.guard n L
theorem gAsk_spec {o : Oper} {v : Value} {want : Bool} (h : gAsk ops o n L = some (v, want)) : ∃ j dj oj, o.guard = some (j, want) ∧ ops[j]? = some oj ∧ oj.dst = some dj ∧ Nat.blt dj n = true ∧ look L dj = some v := by
  unfold gAsk gAskG at h
  split at h
  · cases h
  · rename_i j want' hg
    split at h
    · cases h
    · rename_i oj hj
      split at h
      · cases h
      · rename_i dj hd
        cases hb : Nat.blt dj n with
        | false => rw [hb] at h; cases h
        | true =>
          rw [hb] at h
          cases hl : look L dj with
          | none => rw [hl] at h; cases h
          | some u => rw [hl] at h; cases h; exact ⟨j, dj, oj, hg, hj, hd, hb, hl⟩
theorem gY {o : Oper} {b : Bool} (hg : gAsk ops o n L = some (.bool b, b)) (k : WL P ops Q ({ o with guard := none } :: rest) n ds w L) : WL P ops Q (o :: rest) n ds w L := by
  obtain ⟨j, dj, oj, h1, h2, h3, h4, h5⟩ := gAsk_spec hg
  exact fun a h => gd_yes h h1 h2 h3 h4 h5 (by cases b <;> rfl) (k a h)
theorem gN {o : Oper} {b : Bool} {d : Nat} (hg : gAsk ops o n L = some (.bool b, !b)) (hd : o.dst = some d) (hn : Nat.blt d n = true) (k : WL P ops Q rest n ds w ((d, undef) :: L)) : WL P ops Q (o :: rest) n ds w L := by
  obtain ⟨j, dj, oj, h1, h2, h3, h4, h5⟩ := gAsk_spec hg
  exact fun a h => gd_no h h1 h2 h3 h4 h5 (by cases b <;> rfl) hd hn k
theorem gS {o : Oper} {d : Nat} {want : Bool} (hg : gAsk ops o n L = some (undef, want)) (hd : o.dst = some d) (hn : Nat.blt d n = true) (k : WL P ops Q rest n ds w ((d, undef) :: L)) : WL P ops Q (o :: rest) n ds w L := by
  obtain ⟨j, dj, oj, h1, h2, h3, h4, h5⟩ := gAsk_spec hg
  exact fun a h => gd_skip h h1 h2 h3 h4 h5 hd hn k
/-- A loop: the slots K stay, the slots M turn. -/
theorem lpK {ι : Type} (K : List (Nat × Value)) (M : ι → List (Nat × Value)) (I : ι → World → Prop) (μ : ι → Nat) (i : ι) (hs : Sub (K ++ M i) L) (hI : I i w)
    (round : ∀ i w, I i w → CW P (Exit.then (fun a' w' => ∃ j, AgM ds a' n (K ++ M j) ∧ I j w' ∧ μ j < μ i) Q) c n ds w (K ++ M i)) : CW P Q (.loop c) n ds w L :=
  fun a h => loop (fun i => K ++ M i) I μ i (h.sub hs) hI (fun i w a h hI => round i w hI a h)
theorem lpE {ι : Type} {K : List (Nat × Value)} {M : ι → List (Nat × Value)} {I : ι → World → Prop} {μ : ι → Nat} {m : Nat} (j : ι) (hs : Sub (K ++ M j) L) (hI : I j w) (hm : μ j < m) : EW (Exit.then (fun a' w' => ∃ j, AgM ds a' n (K ++ M j) ∧ I j w' ∧ μ j < m) Q) .normal n ds w L :=
  fun a h => ⟨j, h.sub hs, hI, hm⟩
/-- What joins two ways: the slots K stay. -/
def JW {ι : Type} (n : Nat) (ds : List Nat) (K : List (Nat × Value)) (M : ι → List (Nat × Value)) (I : ι → World → Prop) (a : Act) (w : World) : Prop := ∃ j, AgM ds a n (K ++ M j) ∧ I j w
theorem jn {ι : Type} (K : List (Nat × Value)) (M : ι → List (Nat × Value)) (I : ι → World → Prop) (_hs : Sub K L) (h1 : CW P (Exit.then (JW n ds K M I) Q) x n ds w L) (h2 : ∀ j w, I j w → CW P Q y n ds w (K ++ M j)) : CW P Q (.seq x y) n ds w L :=
  fun a h => seq_cut (JW n ds K M I) (h1 a h) (fun a w ⟨j, h, hI⟩ => h2 j w hI a h)
theorem jE {ι : Type} {K : List (Nat × Value)} {M : ι → List (Nat × Value)} {I : ι → World → Prop} (j : ι) (hs : Sub (K ++ M j) L) (hI : I j w) : EW (Exit.then (JW n ds K M I) Q) .normal n ds w L := fun a h => ⟨j, h.sub hs, hI⟩
/-- A region that yields a truth value, by whatever way. -/
theorem rbo {ol : List Oper} {r : Nat} {L' : List (Nat × Value)} (C : Prop) [Decidable C] (hs : Sub L' L) (h1 : WL P ol.toArray (BoolEnd ds n r C L' w) ol n ds w L) (h2 : EW Q .normal n ds w ((r, .bool (decide C)) :: L')) : CW P Q (.region id ol.toArray false) n ds w L :=
  fun a h => region_bool C h hs (h1 a h) h2
theorem rbe {r : Nat} {L' : List (Nat × Value)} {C : Prop} [Decidable C] {b : Bool} (hr : look L r = some (.bool b)) (hb : b = decide C) (hs : Sub L' L) : WL P ops (BoolEnd ds n r C L' w) [] n ds w L :=
  fun a h => wpList_nil (bool_end h hr hb hs)
/-- The same, with a world that may have grown. -/
def BoolEndF (ds : List Nat) (n r : Nat) (C : Prop) [Decidable C] (L' : List (Nat × Value)) (w0 : World) : Exit → Act → World → Prop := fun e a w => e = .normal ∧ Fr [] w0 w ∧ AgM ds a n ((r, .bool (decide C)) :: L')
theorem rboF {ol : List Oper} {r : Nat} {L' : List (Nat × Value)} (C : Prop) [Decidable C] (_hs : Sub L' L) (h1 : WL P ol.toArray (BoolEndF ds n r C L' w) ol n ds w L) (h2 : ∀ w', Fr [] w w' → EW Q .normal n ds w' ((r, .bool (decide C)) :: L')) : CW P Q (.region id ol.toArray false) n ds w L :=
  fun a h => wp_mono (wp_region_lit (h1 a h)) (fun e a w h => by obtain ⟨rfl, hf, ha⟩ := h; exact h2 w hf a ha)
theorem rbeF {r : Nat} {L' : List (Nat × Value)} {C : Prop} [Decidable C] {b : Bool} {w0 : World} (hr : look L r = some (.bool b)) (hb : b = decide C) (hs : Sub L' L) (hf : Fr [] w0 w) : WL P ops (BoolEndF ds n r C L' w0) [] n ds w L :=
  fun a h => wpList_nil ⟨rfl, hf, (bool_end (w := w) h hr hb hs).2.2⟩
/-- Back from a frame with a name. -/
theorem bk {e : Exit} (h : AgM ds a n L) (k : EW Q e n ds w L) : Q e a w := k a h
theorem we {f : FuncId} {fn : Func} {c : Code} {args : Array Value} {R : Ending → World → Prop} (L : List (Nat × Value)) (hf : P.funcs[f]? = some fn) (hc : fn.body = some c) (hn : fn.ntmps = n) (hl : Nat.ble args.size n = true) (hL : argsOk args L)
    (h : CW P (bodyPost P fn R) c n [] w L) : Calls P f args w R := enter L hf hc hn hl hL h
section
variable {R : Ending → World → Prop} {fn : Func} {t u s : Nat} {v z : Value}
theorem r0 (hr : fn.results = #[]) (k : R (.returned (.tuple #[])) w) : EW (bodyPost P fn R) .ret n [] w L := fun _ h => ret0 h hr k
theorem r0n (hr : fn.results = #[]) (k : R (.returned (.tuple #[])) w) : EW (bodyPost P fn R) .normal n [] w L := fun _ h => ret0n h hr k
theorem r1 (hr : fn.results = #[.tmp t]) (hv : look L t = some v) (k : R (.returned v) w) : EW (bodyPost P fn R) .ret n [] w L := fun _ h => ret1 h hr hv k
theorem r2 (hr : fn.results = #[.tmp t, .tmp u]) (hv : look L t = some v) (hx : look L u = some z) (k : R (.returned (.tuple #[v, z])) w) : EW (bodyPost P fn R) .ret n [] w L := fun _ h => ret2 h hr hv hx k
theorem r3 {z' : Value} (hr : fn.results = #[.tmp t, .tmp u, .tmp s]) (hv : look L t = some v) (hx : look L u = some z) (hy : look L s = some z') (k : R (.returned (.tuple #[v, z, z'])) w) : EW (bodyPost P fn R) .ret n [] w L := fun _ h => ret3 h hr hv hx hy k
variable {p pt q r g T : Nat} {cs : List Value}
theorem rC (hr : fn.results = #[.cell p pt]) (hp : look L p = some (.pointer (some ⟨g, 0, none⟩))) (hb : Blk w g T cs) (hg : AggOf P pt cs.length) (k : R (.returned (.agg cs.toArray)) w) : EW (bodyPost P fn R) .ret n [] w L := fun _ h => retC h hr hp hb hg k
theorem rCT (hr : fn.results = #[.cell p pt, .tmp q]) (hp : look L p = some (.pointer (some ⟨g, 0, none⟩))) (hb : Blk w g T cs) (hg : AggOf P pt cs.length) (hv : look L q = some v) (k : R (.returned (.tuple #[.agg cs.toArray, v])) w) : EW (bodyPost P fn R) .ret n [] w L := fun _ h => retCT h hr hp hb hg hv k
end
theorem wi6 {z : Int} (h : -9223372036854775808 ≤ z ∧ z ≤ 9223372036854775807) : IntKind.i64.wrap z = z := IntWalk.i64_in z (by omega)
theorem wi8 {z : Int} (h : 0 ≤ z ∧ z ≤ 255) : IntKind.u8.wrap z = z := IntWalk.u8_in z (by omega)
theorem ev1 {x : Operand} {v : Value} (h : ev L x = some v) : evs L [x] [v] := ⟨h, trivial⟩
theorem ev2 {x y : Operand} {v u : Value} (h : ev L x = some v) (h2 : ev L y = some u) : evs L [x, y] [v, u] := ⟨h, h2, trivial⟩
theorem ev3 {x y z : Operand} {v u t : Value} (h : ev L x = some v) (h2 : ev L y = some u) (h3 : ev L z = some t) : evs L [x, y, z] [v, u, t] := ⟨h, h2, h3, trivial⟩
theorem ev4 {x y z o : Operand} {v u t s : Value} (h : ev L x = some v) (h2 : ev L y = some u) (h3 : ev L z = some t) (h4 : ev L o = some s) : evs L [x, y, z, o] [v, u, t, s] := ⟨h, h2, h3, h4, trivial⟩
theorem nat_of {k : Nat} : ((k : Nat) : Int).toNat = k := Int.toNat_natCast k
end
theorem us {P : Program} {t : TypeId} {u} (h : P.underlying t = some u) : (P.underlying t).isSome = true := by rw [h]; rfl
section
variable {P : Program} {n : Nat} {L : List (Nat × Value)} {ds : List Nat} {w w' : World} {Q : Exit → Act → World → Prop} {ops : Array Oper} {rest : List Oper} {d : Nat} {ty T : TypeId} {pos : String} {after : Array Edge} {v : Value} {x : Operand}
theorem bx {cs : List Value} (hx : ev L x = some v) (hc : v.cells = cs.toArray) (hn : Nat.blt d n = true) (q : ∀ g w', g = w.heap.size → Blk w' g T cs → Fr [] w w' → w'.heap.size = g + 1 → WL P ops Q rest n ds w' ((d, .pointer (some ⟨g, 0, none⟩)) :: L)) : WL P ops Q (⟨some d, .box T x, ty, pos, after, none⟩ :: rest) n ds w L :=
  s_box hx hc hn (fun w' h1 h2 h3 => q _ w' rfl h1 h2 h3)
theorem al {cs : List Value} (hz : ∀ w : World, (zeroValue T).run P w = .ok v w) (hc : v.cells = cs.toArray) (hn : Nat.blt d n = true) (q : ∀ g w', g = w.heap.size → Blk w' g T cs → Fr [] w w' → w'.heap.size = g + 1 → WL P ops Q rest n ds w' ((d, .pointer (some ⟨g, 0, none⟩)) :: L)) : WL P ops Q (⟨some d, .alloc T, ty, pos, after, none⟩ :: rest) n ds w L :=
  s_alloc hz hc hn (fun w' h1 h2 h3 => q _ w' rfl h1 h2 h3)
theorem s_loadBP {t : TypeId} {g off : Nat} {cs vs : List Value} (hx : ev L x = some (.pointer (some ((⟨g, 0, none⟩ : Addr).add off)))) (hb : Blk w g T cs) (hg : AggOf P t vs.length) (hv : (cs.drop off).take vs.length = vs) (hn : Nat.blt d n = true) (q : WL P ops Q rest n ds w ((d, .agg vs.toArray) :: L)) : WL P ops Q (⟨some d, .load t x, ty, pos, after, none⟩ :: rest) n ds w L :=
  s_loadA hx (fun j u hu => by
    rw [← hv] at hu
    have hj : (cs.drop off)[j]? = some u := by
      rw [List.getElem?_take] at hu; split at hu
      · exact hu
      · cases hu
    rw [List.getElem?_drop] at hj
    rw [add_add]; exact hb.cellAdd hj) hg hn q
theorem s_neNil {t t' : TypeId} {ms} {b : Bool} (hx : ev L x = some v) (hu : P.underlying t = some (.interface ms)) (hb : v = .nilIface ∧ b = false ∨ (∃ s p, v = .iface s p) ∧ b = true) (hn : Nat.blt d n = true) (q : WL P ops Q rest n ds w ((d, .bool b) :: L)) : WL P ops Q (⟨some d, .binOp .neq t x (.const .nilIface) t', ty, pos, after, none⟩ :: rest) n ds w L :=
  fun a h => st_ok h rfl rfl hn (by
    have h4 : a.eval (.const .nilIface) = .nilIface := rfl
    rcases hb with ⟨rfl, rfl⟩ | ⟨⟨s, p, rfl⟩, rfl⟩
    · have e : ∀ k, (Op.equalIn (k + 1) t .nilIface .nilIface).run P w = .ok true w := fun k => by unfold Op.equalIn; simp only [Sem.run_bind, run_underlying hu, Result.andThen_ok, Sem.run_pure]
      have h3 : (binOp .neq t .nilIface .nilIface).run P w = .ok (.bool false) w := by
        simp only [binOp]
        simp [Op.equal, Op.maxDepth, e 9999]
      simp [execOp, h.eval hx, h4, eqGuard, h3]
    · have e : ∀ k, (Op.equalIn (k + 1) t (.iface s p) .nilIface).run P w = .ok false w := fun k => by unfold Op.equalIn; simp only [Sem.run_bind, run_underlying hu, Result.andThen_ok, Sem.run_pure]
      have h3 : (binOp .neq t (.iface s p) .nilIface).run P w = .ok (.bool true) w := by
        simp only [binOp]
        simp [Op.equal, Op.maxDepth, e 9999]
      simp [execOp, h.eval hx, h4, eqGuard, h3]) q
section
variable {C : World → Prop} {K : Act → World → Prop} {fu : Nat} {listed : Array Bool} {pq : Option Nat} {o : Oper} {a : Act} {G : Option (Nat × Bool)} {t t' : TypeId} {y : Operand} {k : IntKind} {i j : Int} {l l' : List UInt8}
theorem wanted_yes {b : Bool} (h : AgM ds a n L) (hg : gAsk ops o n L = some (.bool b, b)) : Region.wanted o (yielded ops a.tmps) = true := by
  obtain ⟨j, dj, oj, h1, h2, h3, h4, h5⟩ := gAsk_spec hg
  have hy := yielded_of (ops := ops) h h2 h3 h4 h5
  simp [Region.wanted, h1, hy]
theorem wy {b : Bool} (hg : gAskG ops G n L = some (.bool b, b)) : Wd ops n L G := fun a ds h o ho => wanted_yes (o := o) h (by unfold gAsk; rw [ho]; exact hg)
theorem wanted_no {b : Bool} (h : AgM ds a n L) (hg : gAsk ops o n L = some (.bool b, !b)) : Region.wanted o (yielded ops a.tmps) = false := by
  obtain ⟨j, dj, oj, h1, h2, h3, h4, h5⟩ := gAsk_spec hg
  have hy := yielded_of (ops := ops) h h2 h3 h4 h5
  simp [Region.wanted, h1, hy]
theorem wanted_skip {want : Bool} (h : AgM ds a n L) (hg : gAsk ops o n L = some (undef, want)) : Region.wanted o (yielded ops a.tmps) = false := by
  obtain ⟨j, dj, oj, h1, h2, h3, h4, h5⟩ := gAsk_spec hg
  have e1 := h.at_ dj _ h5
  have hd' : dj < a.tmps.size := by rw [h.size]; simpa [Nat.blt_eq] using h4
  have e2 : a.tmps[dj]? = some undef := by
    rw [Array.getElem?_eq_getElem hd']
    simpa [Array.getD, hd'] using e1
  have hy : yielded ops a.tmps j = none := by simp [yielded, h2, h3, e2, undef]
  simp [Region.wanted, h1, hy]
theorem hd_gn {b : Bool} (ix : Nat) (hsel : Region.noSelect ops = true) (hfr : Fre pq ops listed ix = true) (hre : (Region.ready .any ops listed).contains ix = true) (hC : C w) (h : AgM ds a n L) (hix : ops[ix]? = some o) (hg : gAsk ops o n L = some (.bool b, !b)) (hd : o.dst = some d) (hn : Nat.blt d n = true)
    (q : ∀ a, AgM ds a n ((d, undef) :: L) → wpAnyP pq P ops (NormEnd K) C fu (listed.setIfInBounds ix true) a w) : wpAnyP pq P ops (NormEnd K) C (fu + 1) listed a w :=
  P_take hix hsel hfr hre (fun _ _ _ h => h) (.inr ⟨wanted_no h hg, rfl⟩) hC (by rw [hd]; exact q _ (h.put hn undef))
theorem hd_gs {want : Bool} (ix : Nat) (hsel : Region.noSelect ops = true) (hfr : Fre pq ops listed ix = true) (hre : (Region.ready .any ops listed).contains ix = true) (hC : C w) (h : AgM ds a n L) (hix : ops[ix]? = some o) (hg : gAsk ops o n L = some (undef, want)) (hd : o.dst = some d) (hn : Nat.blt d n = true)
    (q : ∀ a, AgM ds a n ((d, undef) :: L) → wpAnyP pq P ops (NormEnd K) C fu (listed.setIfInBounds ix true) a w) : wpAnyP pq P ops (NormEnd K) C (fu + 1) listed a w :=
  P_take hix hsel hfr hre (fun _ _ _ h => h) (.inr ⟨wanted_skip h hg, rfl⟩) hC (by rw [hd]; exact q _ (h.put hn undef))
theorem xg_eqV {α : Type} [DecidableEq α] {V : α → Value} {e f : α} (h : AgM ds a n L) (hx : ev L x = some (V e)) (hy : ev L y = some (V f)) (he : EqOf P t V) : ∀ w, C w → (execOp a.eval ⟨some d, .binOp .eql t x y t', ty, pos, after, G⟩).run P w = .ok (.value (.bool (decide (e = f)))) w := fun w _ => by
  obtain ⟨h1, _, h3, _⟩ := he e f x y w
  simp [execOp, h.eval hx, h.eval hy, h1, h3]
theorem xg_neV {α : Type} [DecidableEq α] {V : α → Value} {e f : α} (h : AgM ds a n L) (hx : ev L x = some (V e)) (hy : ev L y = some (V f)) (he : EqOf P t V) : ∀ w, C w → (execOp a.eval ⟨some d, .binOp .neq t x y t', ty, pos, after, G⟩).run P w = .ok (.value (.bool (decide (e ≠ f)))) w := fun w _ => by
  obtain ⟨_, h2, _, h4⟩ := he e f x y w
  simp [execOp, h.eval hx, h.eval hy, h2, h4]
theorem hd_eqV {α : Type} [DecidableEq α] {V : α → Value} {e f : α} (ix : Nat) (hsel : Region.noSelect ops = true) (hfr : Fre pq ops listed ix = true) (hre : (Region.ready .any ops listed).contains ix = true) (hC : C w) (h : AgM ds a n L) (hG : Wd ops n L G) (hx : ev L x = some (V e)) (hy : ev L y = some (V f)) (he : EqOf P t V) (hix : ops[ix]? = some ⟨some d, .binOp .eql t x y t', ty, pos, after, G⟩) (hn : Nat.blt d n = true)
    (q : ∀ a, AgM ds a n ((d, .bool (decide (e = f))) :: L) → wpAnyP pq P ops (NormEnd K) C fu (listed.setIfInBounds ix true) a w) : wpAnyP pq P ops (NormEnd K) C (fu + 1) listed a w :=
  hd_ok ix hsel hfr hre hC h hG hix rfl hn (xg_eqV h hx hy he) q
theorem hd_neV {α : Type} [DecidableEq α] {V : α → Value} {e f : α} (ix : Nat) (hsel : Region.noSelect ops = true) (hfr : Fre pq ops listed ix = true) (hre : (Region.ready .any ops listed).contains ix = true) (hC : C w) (h : AgM ds a n L) (hG : Wd ops n L G) (hx : ev L x = some (V e)) (hy : ev L y = some (V f)) (he : EqOf P t V) (hix : ops[ix]? = some ⟨some d, .binOp .neq t x y t', ty, pos, after, G⟩) (hn : Nat.blt d n = true)
    (q : ∀ a, AgM ds a n ((d, .bool (decide (e ≠ f))) :: L) → wpAnyP pq P ops (NormEnd K) C fu (listed.setIfInBounds ix true) a w) : wpAnyP pq P ops (NormEnd K) C (fu + 1) listed a w :=
  hd_ok ix hsel hfr hre hC h hG hix rfl hn (xg_neV h hx hy he) q
end
end
end Go.Lw
namespace Go.Lw
open Go.RowKit
section
variable {P : Program} {n : Nat} {L : List (Nat × Value)} {ds : List Nat} {w w' : World} {Q : Exit → Act → World → Prop} {ops : Array Oper} {rest : List Oper} {a : Act} {d : Nat} {ty T t : TypeId} {pos : String} {after : Array Edge} {v : Value} {x y : Operand}
theorem st_copy {α : Type} {E : Enc α} {bytes base g cap : Nat} {zs ys : List α} (h : AgM ds a n L) (hx : ev L x = some (.slice (some ⟨g, 0, none⟩) zs.length cap)) (hy : ev L y = some v) (ho : Own E T base w (.slice (some ⟨g, 0, none⟩) zs.length cap) zs) (hs : Sl E w v ys) (hl : ys.length = zs.length) (he : ElemOf P t T E bytes) (hn : Nat.blt d n = true)
    (q : ∀ w', Own E T base w' (.slice (some ⟨g, 0, none⟩) zs.length cap) ys → Fr [g] w w' → w'.heap.size = w.heap.size → ∀ a, AgM ds a n ((d, .int .i64 (zs.length : Int)) :: L) → wpList P ops Q rest a w') : wpList P ops Q (⟨some d, .call ⟨.builtin .copy, #[x, y], #[t, t]⟩, ty, pos, after, none⟩ :: rest) a w := by
  obtain ⟨i, z, h1, h2, h3, h4, h5⟩ := he.info
  obtain ⟨A, c, rfl, hc, hM, hA⟩ := hs.flat
  rcases ho with ⟨e, _⟩ | ⟨g', cap', cur, e, hb, hg, r1, r2, r3, r4⟩
  · cases e
  cases e
  have hle : ys.length * E.sz ≤ cur.size := by rw [hl]; exact Nat.le_trans (Nat.mul_le_mul_right _ r1) r3
  obtain ⟨cs, hcs0⟩ : ∃ cs, ys.flatMap E.enc = cs := ⟨_, rfl⟩
  have hlen : cs.length = zs.length * E.sz := by rw [← hcs0, E.flat_len, hl]
  have hone := E.flat_one ys
  rw [hcs0] at hone hA
  have hst := run_storeCells_at P g 0 T cs 0 cur w hg (by rw [hlen]; rw [hl] at hle; simpa using hle) hone
  simp only [Nat.zero_add, List.take_zero, List.nil_append] at hst
  have key : (Builtin.copy_ #[t, t] ty #[.slice (some ⟨g, 0, none⟩) zs.length cap, .slice A ys.length c]).run P w = .ok (.int .i64 (zs.length : Int)) (w.setRow g (cs ++ cur.toList.drop cs.length).toArray) := by
    have hfc : (Builtin.firstCells E.sz zs.length (.slice A ys.length c)).run P w = .ok cs.toArray w := by
      by_cases hys : ys = []
      · have h0 : zs.length = 0 := by rw [← hl, hys]; rfl
        have hc0 : cs = [] := by rw [← hcs0, hys]; rfl
        rw [h0, hc0]
        cases A with
        | none => simp [Builtin.firstCells]
        | some ad => simp [Builtin.firstCells, loadCells, loadCellsFrom]
      · obtain ⟨ad, rfl, hcs⟩ := hA hys
        have hload := run_loadCells_list (P := P) w ad cs hcs
        rw [hlen] at hload
        simpa [Builtin.firstCells] using hload
    rw [hl] at hfc
    simp only [Builtin.copy_, List.getElem?_toArray, List.getElem?_cons_zero, List.getElem?_cons_succ, Sem.run_bind, run_underlying he.und, Result.andThen_ok, Builtin.lenOf, Sem.run_pure, hl, Nat.min_self, show ∀ m : Nat, Nat.min m m = m from Nat.min_self, sizeOf, typeInfo]
    simp [h1, h3, hfc, hst, goInt]
  refine st_ok h rfl rfl hn (w' := w.setRow g (cs ++ cur.toList.drop cs.length).toArray) ?_ (q _ (.inr ⟨g, cap, _, by rw [hl], hb, setRow_heap w g cur _ T (0, 0) hg, by rw [hl]; exact r1, r2, ?_, ?_⟩) (Fr.setRow w g _) (by simp))
  · rw [exec_builtin]; unfold builtin
    simp only [List.map_toArray, List.map_cons, List.map_nil, h.eval hx, h.eval hy, Sem.run_bind, key, Result.andThen_ok, Sem.run_pure]
  · simp only [List.size_toArray, List.length_append, List.length_drop, Array.length_toList]; omega
  · rw [hl, ← hlen, hcs0]; simp
theorem s_copy {α : Type} {E : Enc α} {bytes base g cap : Nat} {zs ys : List α} (hx : ev L x = some (.slice (some ⟨g, 0, none⟩) zs.length cap)) (hy : ev L y = some v) (ho : Own E T base w (.slice (some ⟨g, 0, none⟩) zs.length cap) zs) (hs : Sl E w v ys) (hl : ys.length = zs.length) (he : ElemOf P t T E bytes) (hn : Nat.blt d n = true)
    (q : ∀ w', Own E T base w' (.slice (some ⟨g, 0, none⟩) zs.length cap) ys → Fr [g] w w' → w'.heap.size = w.heap.size → WL P ops Q rest n ds w' ((d, .int .i64 (zs.length : Int)) :: L)) : WL P ops Q (⟨some d, .call ⟨.builtin .copy, #[x, y], #[t, t]⟩, ty, pos, after, none⟩ :: rest) n ds w L := fun a h => st_copy h hx hy ho hs hl he hn q
end
end Go.Lw
namespace Go.Lw
open Go.RowKit
section
variable {P : Program} {n : Nat} {L : List (Nat × Value)} {ds : List Nat} {w w' : World} {Q : Exit → Act → World → Prop} {ops : Array Oper} {rest : List Oper} {a : Act} {d : Nat} {ty T t : TypeId} {pos : String} {after : Array Edge} {v : Value} {x y : Operand}
/-- copy into a slice of the call's own, from an element on. -/
theorem st_copyP {α : Type} {E : Enc α} {bytes base g m cap p k : Nat} {zs ys : List α} (h : AgM ds a n L) (hx : ev L x = some (.slice (some ((⟨g, 0, none⟩ : Addr).add (p * E.sz))) (m - p) (cap - p))) (hy : ev L y = some v) (ho : Own E T base w (.slice (some ⟨g, 0, none⟩) m cap) zs) (hs : Sl E w v ys) (hp : p ≤ m) (hk : k = min (m - p) ys.length) (he : ElemOf P t T E bytes) (hn : Nat.blt d n = true)
    (q : ∀ w', Own E T base w' (.slice (some ⟨g, 0, none⟩) m cap) (zs.take p ++ ys.take k ++ zs.drop (p + k)) → Fr [g] w w' → w'.heap.size = w.heap.size → ∀ a, AgM ds a n ((d, .int .i64 (k : Int)) :: L) → wpList P ops Q rest a w') : wpList P ops Q (⟨some d, .call ⟨.builtin .copy, #[x, y], #[t, t]⟩, ty, pos, after, none⟩ :: rest) a w := by
  obtain ⟨i, z, h1, h2, h3, h4, h5⟩ := he.info
  rcases ho with ⟨e, _⟩ | ⟨g', cap', cur, e, hb, hg, r1, r2, r3, r4⟩
  · cases e
  cases e
  obtain ⟨A0, c0, e0, _, hM0, _⟩ := id hs
  subst e0
  have hkl : k ≤ ys.length := by omega
  have hs2 := hs.take rfl (m := k) hkl (B := A0) (c' := c0) (by omega) hM0 (fun _ => rfl)
  obtain ⟨A, c, e2, hc, hM, hA⟩ := hs2.flat
  have hlk : (ys.take k).length = k := by rw [List.length_take]; omega
  rw [hlk] at e2
  simp only [Value.slice.injEq] at e2
  obtain ⟨rfl, -, rfl⟩ := e2
  obtain ⟨cs, hcs0⟩ : ∃ cs, (ys.take k).flatMap E.enc = cs := ⟨_, rfl⟩
  have hlen : cs.length = k * E.sz := by rw [← hcs0, E.flat_len, hlk]
  have hone := E.flat_one (ys.take k)
  rw [hcs0] at hone hA
  have hpk : p + k ≤ zs.length := by omega
  have hsz : p * E.sz + k * E.sz ≤ zs.length * E.sz := by rw [← Nat.add_mul]; exact Nat.mul_le_mul_right _ hpk
  have hcz : zs.length * E.sz ≤ cur.size := Nat.le_trans (Nat.mul_le_mul_right _ r1) r3
  have hst := run_storeCells_at P g (p * E.sz) T cs 0 cur w hg (by rw [hlen]; omega) hone
  rw [Nat.add_zero, hlen] at hst
  have hfc : (Builtin.firstCells E.sz k (.slice A0 ys.length c0)).run P w = .ok cs.toArray w := by
    by_cases hys : ys.take k = []
    · have h0 : k = 0 := by have := congrArg List.length hys; rw [hlk] at this; simpa using this
      have hc0 : cs = [] := by rw [← hcs0, hys]; rfl
      rw [h0, hc0]
      cases A0 with
      | none => simp [Builtin.firstCells]
      | some ad => simp [Builtin.firstCells, loadCells, loadCellsFrom]
    · obtain ⟨ad, rfl, hcs⟩ := hA hys
      have hload := run_loadCells_list (P := P) w ad cs hcs
      rw [hlen] at hload
      simpa [Builtin.firstCells] using hload
  have key : (Builtin.copy_ #[t, t] ty #[.slice (some ((⟨g, 0, none⟩ : Addr).add (p * E.sz))) (zs.length - p) (cap - p), .slice A0 ys.length c0]).run P w = .ok (.int .i64 (k : Int)) (w.setRow g (cur.toList.take (p * E.sz) ++ cs ++ cur.toList.drop (p * E.sz + k * E.sz)).toArray) := by
    rw [lit_add, Nat.zero_add]
    have hmin : Nat.min (zs.length - p) ys.length = k := hk.symm
    have hmin2 : Nat.min ys.length (zs.length - p) = k := (Nat.min_comm _ _).trans hk.symm
    simp only [Builtin.copy_, List.getElem?_toArray, List.getElem?_cons_zero, List.getElem?_cons_succ, Sem.run_bind, run_underlying he.und, Result.andThen_ok, Builtin.lenOf, Sem.run_pure, hmin, sizeOf, typeInfo]
    simp [h1, h3, hfc, hst, goInt, hmin2]
  obtain ⟨za, zb, zc, rfl, hza, hzb⟩ : ∃ za zb zc, zs = za ++ (zb ++ zc) ∧ za.length = p ∧ zb.length = k := ⟨zs.take p, (zs.drop p).take k, (zs.drop p).drop k, by rw [List.take_append_drop, List.take_append_drop], by rw [List.length_take]; omega, by rw [List.length_take, List.length_drop]; omega⟩
  have hnew : (za ++ (zb ++ zc)).take p ++ ys.take k ++ (za ++ (zb ++ zc)).drop (p + k) = za ++ (ys.take k ++ zc) := by
    rw [← hza, List.take_left, ← hzb, ← List.drop_drop, List.drop_left, List.drop_left, List.append_assoc]
  rw [hnew] at q
  have hl2 : (za ++ (ys.take k ++ zc)).length = (za ++ (zb ++ zc)).length := by simp only [List.length_append, hlk, hzb]
  have hcur : cur.toList = (za ++ (zb ++ zc)).flatMap E.enc ++ cur.toList.drop ((za ++ (zb ++ zc)).length * E.sz) := by
    rw [← r4, List.take_append_drop]
  have hfa : (za.flatMap E.enc).length = p * E.sz := by rw [E.flat_len, hza]
  have hfb : (zb.flatMap E.enc).length = k * E.sz := by rw [E.flat_len, hzb]
  have hrow : cur.toList.take (p * E.sz) ++ cs ++ cur.toList.drop (p * E.sz + k * E.sz) = (za ++ (ys.take k ++ zc)).flatMap E.enc ++ cur.toList.drop ((za ++ (zb ++ zc)).length * E.sz) := by
    generalize cur.toList.drop ((za ++ (zb ++ zc)).length * E.sz) = R at hcur ⊢
    rw [hcur]
    simp only [List.flatMap_append, List.append_assoc]
    rw [← hfa, List.take_left, ← hfb, ← List.drop_drop, List.drop_left, List.drop_left, hcs0]
  rw [hrow] at key
  refine st_ok h rfl rfl hn (w' := w.setRow g ((za ++ (ys.take k ++ zc)).flatMap E.enc ++ cur.toList.drop ((za ++ (zb ++ zc)).length * E.sz)).toArray) ?_ (q _ (.inr ⟨g, cap, _, by rw [hl2], hb, setRow_heap w g cur _ T (0, 0) hg, by rw [hl2]; exact r1, r2, ?_, ?_⟩) (Fr.setRow w g _) (by simp))
  · rw [exec_builtin]; unfold builtin
    simp only [List.map_toArray, List.map_cons, List.map_nil, h.eval hx, h.eval hy, Sem.run_bind, key, Result.andThen_ok, Sem.run_pure]
  · have e1 : ((za ++ (ys.take k ++ zc)).flatMap E.enc).length = (za ++ (zb ++ zc)).length * E.sz := by rw [E.flat_len, hl2]
    generalize (za ++ (ys.take k ++ zc)).flatMap E.enc = X at e1
    generalize (za ++ (zb ++ zc)).length * E.sz = M at e1 hcz
    simp only [List.size_toArray, List.length_append, List.length_drop, Array.length_toList]
    omega
  · show List.take _ _ = _
    rw [show (za ++ (ys.take k ++ zc)).length * E.sz = ((za ++ (ys.take k ++ zc)).flatMap E.enc).length by rw [E.flat_len]]
    exact List.take_left
end
end Go.Lw
namespace Go.Lw
open Go.RowKit
section
variable {P : Program} {a : Act} {n : Nat} {L : List (Nat × Value)} {ds : List Nat} {w : World} {Q : Exit → Act → World → Prop} {ops : Array Oper} {rest : List Oper} {d : Nat} {ty t T : TypeId} {pos : String} {after : Array Edge} {x y : Operand} {v : Value}
end
end Go.Lw
namespace Go.Lw
open Go.RowKit
section
variable {P : Program} {a : Act} {n : Nat} {L : List (Nat × Value)} {w : World} {v : Value} {g g2 : Nat} {T T2 : TypeId} {cs cs2 : List Value}
theorem retCCT {fn : Func} {R : Ending → World → Prop} {p pt p2 pt2 q : Nat} (h : Ag a n L) (hr : fn.results = #[.cell p pt, .cell p2 pt2, .tmp q]) (hp : look L p = some (.pointer (some ⟨g, 0, none⟩))) (hb : Blk w g T cs) (hg : AggOf P pt cs.length)
    (hp2 : look L p2 = some (.pointer (some ⟨g2, 0, none⟩))) (hb2 : Blk w g2 T2 cs2) (hg2 : AggOf P pt2 cs2.length) (hv : look L q = some v) (k : R (.returned (.tuple #[.agg cs.toArray, .agg cs2.toArray, v])) w) : bodyPost P fn R .ret a w :=
  bodyPost_ret (v := .tuple #[.agg cs.toArray, .agg cs2.toArray, v]) (by
    have h1 := h.at_ p _ hp
    have h2 := h.at_ q _ hv
    have h3 := h.at_ p2 _ hp2
    simp only [Array.getD_eq_getD_getElem?] at h1 h2 h3
    simp [results, hr, h1, h2, h3, asAddr, loadVar, hg.1 w, hg.2 w, hg2.1 w, hg2.2 w, run_loadCells_list w _ cs hb.cells, run_loadCells_list w _ cs2 hb2.cells]) h.dfr k
theorem rCCT {fn : Func} {R : Ending → World → Prop} {p pt p2 pt2 q : Nat} (hr : fn.results = #[.cell p pt, .cell p2 pt2, .tmp q]) (hp : look L p = some (.pointer (some ⟨g, 0, none⟩))) (hb : Blk w g T cs) (hg : AggOf P pt cs.length)
    (hp2 : look L p2 = some (.pointer (some ⟨g2, 0, none⟩))) (hb2 : Blk w g2 T2 cs2) (hg2 : AggOf P pt2 cs2.length) (hv : look L q = some v) (k : R (.returned (.tuple #[.agg cs.toArray, .agg cs2.toArray, v])) w) : EW (bodyPost P fn R) .ret n [] w L := fun _ h => retCCT h hr hp hb hg hp2 hb2 hg2 hv k
end
end Go.Lw
namespace Go.Lw
open Go.RowKit
section
variable {P : Program} {n : Nat} {L : List (Nat × Value)} {ds : List Nat} {w w' : World} {Q : Exit → Act → World → Prop} {ops : Array Oper} {rest : List Oper} {a : Act} {d : Nat} {ty T t : TypeId} {pos : String} {after : Array Edge} {v : Value} {x y : Operand}
/-- Nothing is copied into an empty slice. -/
theorem st_copy0 {α : Type} {E : Enc α} {bytes m cp c' : Nat} {ad : Addr} {A : Option Addr} (h : AgM ds a n L) (hx : ev L x = some (.slice (some ad) 0 c')) (hy : ev L y = some (.slice A m cp)) (he : ElemOf P t T E bytes) (hn : Nat.blt d n = true)
    (q : ∀ a, AgM ds a n ((d, .int .i64 0) :: L) → wpList P ops Q rest a w) : wpList P ops Q (⟨some d, .call ⟨.builtin .copy, #[x, y], #[t, t]⟩, ty, pos, after, none⟩ :: rest) a w := by
  obtain ⟨i, z, h1, h2, h3, h4, h5⟩ := he.info
  have hfc : (Builtin.firstCells E.sz 0 (.slice A m cp)).run P w = .ok #[] w := by
    cases A with
    | none => simp [Builtin.firstCells]
    | some ad => simp [Builtin.firstCells, loadCells, loadCellsFrom]
  have hmin : Nat.min 0 m = 0 := Nat.zero_min m
  have hmin2 : Nat.min m 0 = 0 := Nat.min_zero m
  have key : (Builtin.copy_ #[t, t] ty #[.slice (some ad) 0 c', .slice A m cp]).run P w = .ok (.int .i64 0) w := by
    simp only [Builtin.copy_, List.getElem?_toArray, List.getElem?_cons_zero, List.getElem?_cons_succ, Sem.run_bind, run_underlying he.und, Result.andThen_ok, Builtin.lenOf, Sem.run_pure, hmin, sizeOf, typeInfo]
    simp [h1, h3, hfc, goInt, hmin2, storeCells]
  refine st_ok h rfl rfl hn (w' := w) ?_ q
  rw [exec_builtin]; unfold builtin
  simp only [List.map_toArray, List.map_cons, List.map_nil, h.eval hx, h.eval hy, Sem.run_bind, key, Result.andThen_ok, Sem.run_pure]
theorem s_copyQ {α : Type} {E : Enc α} {bytes base g m p k : Nat} {zs ys : List α} (hx : ev L x = some (.slice (if m = p then some ⟨g, 0, none⟩ else (some (⟨g, 0, none⟩ : Addr)).map (·.add (p * E.sz))) (m - p) (m - p))) (hy : ev L y = some v) (ho : Own E T base w (.slice (some ⟨g, 0, none⟩) m m) zs) (hs : Sl E w v ys) (hp : p ≤ m) (hk : k = min (m - p) ys.length) (he : ElemOf P t T E bytes) (hn : Nat.blt d n = true)
    (q : ∀ w', Own E T base w' (.slice (some ⟨g, 0, none⟩) m m) (zs.take p ++ ys.take k ++ zs.drop (p + k)) → Fr [g] w w' → w'.heap.size = w.heap.size → WL P ops Q rest n ds w' ((d, .int .i64 (k : Int)) :: L)) : WL P ops Q (⟨some d, .call ⟨.builtin .copy, #[x, y], #[t, t]⟩, ty, pos, after, none⟩ :: rest) n ds w L := by
  intro a h
  by_cases c : m = p
  · rw [if_pos c] at hx
    subst c
    have hk0 : k = 0 := by omega
    subst hk0
    obtain ⟨A, cc, e, _⟩ := id hs
    rw [e] at hy
    rw [Nat.sub_self] at hx
    refine st_copy0 h hx hy he hn (q w ?_ (Fr.refl _ _) rfl)
    have : zs.take m ++ ys.take 0 ++ zs.drop (m + 0) = zs := by simp
    rw [this]; exact ho
  · rw [if_neg c] at hx
    exact st_copyP h hx hy ho hs hp hk he hn q
end
end Go.Lw
namespace Go.Lw
open Go.RowKit
section
variable {P : Program} {n N : Nat} {r : Option Nat} {L : List (Nat × Value)} {ds : List Nat} {w w' : World} {Q : Exit → Act → World → Prop} {ops : Array Oper} {rest : List Oper} {a : Act} {x y c : Code} {id : Nat}
theorem inl (h : EW Q .normal n ds w L) : WL P ops (NormEnd (Q .normal)) [] n ds w L := fun a ha => nm_end (h a ha)
end
end Go.Lw
namespace Go.Lw
open Go.RowKit
section
variable {P : Program} {n N : Nat} {ro : Option Nat} {L : List (Nat × Value)} {ds : List Nat} {w w' : World} {Q : Exit → Act → World → Prop} {ops : Array Oper} {rest : List Oper} {a : Act} {x y c : Code} {id : Nat}
section
variable {R : Ending → World → Prop} {fn : Func} {t u : Nat} {v z : Value}
end
end
end Go.Lw
namespace Go.Lw
open Go.RowKit
section
variable {P : Program} {n N : Nat} {L : List (Nat × Value)} {ds : List Nat} {w w' : World} {Q : Exit → Act → World → Prop}
/-- A block of another type is none of a slice's. -/
theorem Own.neB {α : Type} {E : Enc α} {T T' base g : Nat} {v : Value} {ys : List α} {cs : List Value} (h : Own E T base w v ys) (hb : Blk w g T' cs) (hT : T ≠ T') : g ∉ blks v := by
  rcases h with ⟨rfl, rfl⟩ | ⟨g', cap, cur, rfl, _, hg, _⟩
  · intro e; cases e
  · intro e
    simp [blks] at e; subst e
    rw [show w.heap[g]? = _ from hb] at hg
    cases hg; exact hT rfl
end
end Go.Lw
namespace Go.G21
open Go.Lw
def badY (rs : List UInt8) : Bool := rs.any fun y => decide (y.toNat < 1 ∨ 6 < y.toNat)
def tubE (wd : Int) (rs : List UInt8) : Int :=
  if 16 < wd ∨ 31 < rs.length then 3 else if wd < 1 ∨ rs.length < 1 then 1 else if badY rs = true then 1 else 0
theorem tub_of {wd : Int} {rs : List UInt8} (h : tubE wd rs = 0) : 1 ≤ wd ∧ wd ≤ 16 ∧ 1 ≤ rs.length ∧ rs.length ≤ 31 ∧ ∀ y ∈ rs, 1 ≤ y.toNat ∧ y.toNat ≤ 6 := by
  unfold tubE at h
  split at h
  · omega
  split at h
  · omega
  split at h
  · omega
  · rename_i h1 h2 h3
    refine ⟨by omega, by omega, by omega, by omega, fun y hy => ?_⟩
    have : ¬ (y.toNat < 1 ∨ 6 < y.toNat) := fun e => h3 (by
      unfold badY; exact List.any_eq_true.2 ⟨y, hy, decide_eq_true e⟩)
    omega
/-- What stands at a place: of the yarn y, from the loop f on; nothing before the first round. -/
abbrev Lst := Option (Int × Nat)
def frS (s : Lst) (i : Nat) : List LId := match s with
  | none => []
  | some (y, f) => [⟨y, ((f + i : Nat) : Int)⟩]
def bkS (wd : Nat) (s : Lst) (i : Nat) : List LId := match s with
  | none => []
  | some (y, f) => [⟨y, ((f + 2 * wd - 1 - i : Nat) : Int)⟩]
def psB (l : List LId) : List Pa := l.map fun i => ⟨i, true, 1⟩
def psF (l : List LId) : List Pa := l.map fun i => ⟨i, false, 0⟩
/-- The loop at a place of the front half, of the back half of a round; f: how many loops the yarn has. -/
def lpF (wd : Nat) (s : Lst) (f i : Nat) : Lp := ⟨0, decide (f + i = 0), frS s i, psB (bkS wd s i)⟩
def lpB (wd : Nat) (s : Lst) (y : Int) (f i : Nat) : Lp := ⟨1, false, bkS wd s (wd - 1 - i), psF [⟨y, ((f + (wd - 1 - i) : Nat) : Int)⟩]⟩
def rndF (wd : Nat) (s : Lst) (f k : Nat) : List Lp := (List.range k).map (lpF wd s f)
def rndB (wd : Nat) (s : Lst) (y : Int) (f k : Nat) : List Lp := (List.range k).map (lpB wd s y f)
def rndL (wd : Nat) (s : Lst) (y : Int) (f : Nat) : List Lp := rndF wd s f wd ++ rndB wd s y f wd
/-- The loop at a place of the binding off. -/
def bndP (wd : Nat) (s : Lst) (y : Int) (f i : Nat) : Lp :=
  ⟨0, false, (if i = 0 then [] else [⟨y, ((f + i - 1 : Nat) : Int)⟩]) ++ bkS wd s i ++ frS s i, if i = 0 then [] else [⟨⟨y, ((f + i - 1 : Nat) : Int)⟩, true, 0⟩]⟩
def bndL (wd : Nat) (s : Lst) (y : Int) (f k : Nat) : List Lp := (List.range k).map (bndP wd s y f)
/-- A table, and what stands at the places. -/
abbrev TSt := List (List Lp) × Lst
def rndT (wd : Nat) (z : TSt) (y : UInt8) : TSt :=
  (z.1.set (y.toNat - 1) (z.1.getD (y.toNat - 1) [] ++ rndL wd z.2 y.toNat (z.1.getD (y.toNat - 1) []).length), some ((y.toNat : Int), (z.1.getD (y.toNat - 1) []).length))
def rndsT (wd : Nat) (rs : List UInt8) : TSt := rs.foldl (rndT wd) (List.replicate 6 [], none)
def lastY (rs : List UInt8) : UInt8 := rs.getD (rs.length - 1) 0
def tubT (wd : Nat) (rs : List UInt8) : List (List Lp) :=
  (rndsT wd rs).1.set ((lastY rs).toNat - 1) ((rndsT wd rs).1.getD ((lastY rs).toNat - 1) [] ++ bndL wd (rndsT wd rs).2 (lastY rs).toNat ((rndsT wd rs).1.getD ((lastY rs).toNat - 1) []).length wd)
def tubF (wd : Nat) (rs : List UInt8) : Fb := ⟨tubT wd rs, [], [], [⟨(lastY rs).toNat, (((tubT wd rs).getD ((lastY rs).toNat - 1) []).length : Int) - 1⟩]⟩
theorem rndL_len (wd : Nat) (s : Lst) (y : Int) (f : Nat) : (rndL wd s y f).length = 2 * wd := by simp [rndL, rndF, rndB]; omega
theorem rnds_snoc (wd : Nat) (rs : List UInt8) (y : UInt8) : rndsT wd (rs ++ [y]) = rndT wd (rndsT wd rs) y := by simp [rndsT]
theorem rnds_len (wd : Nat) (rs : List UInt8) : (rndsT wd rs).1.length = 6 := by
  have : ∀ (rs : List UInt8) (z : TSt), z.1.length = 6 → (rs.foldl (rndT wd) z).1.length = 6 := by
    intro rs
    induction rs with
    | nil => exact fun z h => h
    | cons y rs ih => intro z h; exact ih _ (by simp [rndT, h])
  exact this rs _ rfl
/-- No yarn has more loops than the rounds make. -/
theorem rnds_le (wd : Nat) (rs : List UInt8) : ∀ i, ((rndsT wd rs).1.getD i []).length ≤ 2 * wd * rs.length := by
  have : ∀ (rs : List UInt8) (z : TSt) (m : Nat), (∀ i, (z.1.getD i []).length ≤ m) → ∀ i, ((rs.foldl (rndT wd) z).1.getD i []).length ≤ m + 2 * wd * rs.length := by
    intro rs
    induction rs with
    | nil => exact fun z m h i => by simpa using h i
    | cons y rs ih =>
      intro z m h i
      have := ih (rndT wd z y) (m + 2 * wd) (fun j => ?_) i
      · rw [List.foldl_cons, List.length_cons, Nat.mul_add]; omega
      · simp only [rndT, List.getD, List.getElem?_set]
        split
        · split
          · simp only [Option.getD_some, List.length_append, rndL_len]
            have := h (y.toNat - 1)
            simp only [List.getD] at this
            omega
          · simp
        · have := h j
          simp only [List.getD] at this
          omega
  intro i
  have := this rs (List.replicate 6 [], none) 0 (fun j => by rw [List.getD, List.getElem?_replicate]; split <;> simp) i
  simpa [rndsT] using this
end Go.G21
