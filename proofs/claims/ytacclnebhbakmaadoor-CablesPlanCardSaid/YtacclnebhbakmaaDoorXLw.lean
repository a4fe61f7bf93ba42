/- A walk by live slots: the frame is a name, and what is known of it is a list of slots with their values. Conditions: none; each rule is over any program. -/
import Derived.WalkKit
import Derived.WalkSpells
import Derived.WalkLawsBesides
set_option linter.unusedVariables false
set_option linter.unusedSimpArgs false
namespace Go.Lw

theorem beq_no {a b : Nat} (h : ¬ a = b) : Nat.beq a b = false := by
  rw [Bool.eq_false_iff]; intro e; exact h (Nat.eq_of_beq_eq_true e)

/-- The value of a slot in a list of slots. -/
def look : List (Nat × Value) → Nat → Option Value
  | [], _ => none
  | (s, v) :: r, t => bif Nat.beq s t then some v else look r t

/-- What a range over a function leaves among the deferred calls. -/
def mark (D : Nat) : Deferred := { target := .collected D, args := #[] }
/-- What is known of a frame: n slots, the marks, and the listed values. -/
structure AgM (ds : List Nat) (a : Act) (n : Nat) (L : List (Nat × Value)) : Prop where
  dfr : a.defers = ds.map mark
  size : a.tmps.size = n
  at_ : ∀ t v, look L t = some v → a.tmps.getD t undef = v

/-- A frame with no deferred calls. -/
abbrev Ag := AgM []

/-- The value of an operand. -/
def ev (L : List (Nat × Value)) : Operand → Option Value
  | .tmp t => look L t
  | .const v => some v
  | .global g => some (.pointer (some ⟨g, 0, none⟩))
  | .func f => some (.func (.func f) #[] #[])

/-- The values of operands. -/
def evs (L : List (Nat × Value)) : List Operand → List Value → Prop
  | [], [] => True
  | x :: xs, v :: vs => ev L x = some v ∧ evs L xs vs
  | _, _ => False

/-- Each slot of the first list has its value in the second. -/
def Sub : List (Nat × Value) → List (Nat × Value) → Prop
  | [], _ => True
  | p :: r, L => look L p.1 = some p.2 ∧ Sub r L

section
variable {P : Program} {a : Act} {n : Nat} {L : List (Nat × Value)} {ds : List Nat} {w w' : World} {Q : Exit → Act → World → Prop} {ops : Array Oper} {rest : List Oper} {o : Oper}

theorem AgM.eval (h : AgM ds a n L) {x : Operand} {v : Value} (hx : ev L x = some v) : a.eval x = v := by
  cases x with
  | tmp t => exact h.at_ t v hx
  | const c => exact Option.some.inj hx
  | global g => exact Option.some.inj hx
  | func f => exact Option.some.inj hx

theorem AgM.evals (h : AgM ds a n L) : ∀ {xs : List Operand} {vs : List Value}, evs L xs vs → xs.map a.eval = vs
  | [], [], _ => rfl
  | _ :: _, _ :: _, hx => by rw [List.map_cons, h.eval hx.1, h.evals hx.2]
  | [], _ :: _, hx => hx.elim
  | _ :: _, [], hx => hx.elim

theorem AgM.put (h : AgM ds a n L) {d : Nat} (hd : Nat.blt d n = true) (v : Value) : AgM ds (a.put (some d) v) n ((d, v) :: L) := by
  have hd' : d < n := by simpa [Nat.blt_eq] using hd
  refine ⟨h.dfr, by simp [Act.put, h.size], fun t u hu => ?_⟩
  simp only [look] at hu
  by_cases e : d = t
  · subst e
    simp only [Nat.beq_refl, cond_true, Option.some.injEq] at hu
    subst hu
    have : d < a.tmps.size := by rw [h.size]; exact hd'
    simp [Act.put, Array.getD, this]
  · have : Nat.beq d t = false := beq_no e
    rw [this] at hu
    have h1 := h.at_ t u hu
    simp only [Act.put, Array.getD_eq_getD_getElem?, Array.getElem?_setIfInBounds] at h1 ⊢
    rw [if_neg e]; exact h1

theorem AgM.put_none (h : AgM ds a n L) (v : Value) : AgM ds (a.put none v) n L := h

theorem Sub.look {L L' : List (Nat × Value)} : ∀ {t v}, Sub L' L → look L' t = some v → look L t = some v := by
  induction L' with
  | nil => intro t v _ h; cases h
  | cons p r ih =>
    intro t v hs h
    simp only [Lw.look] at h
    by_cases e : p.1 = t
    · subst e
      simp only [Nat.beq_refl, cond_true, Option.some.injEq] at h
      rw [← h]; exact hs.1
    · have : Nat.beq p.1 t = false := beq_no e
      rw [this] at h
      exact ih hs.2 h

theorem AgM.sub (h : AgM ds a n L) {L' : List (Nat × Value)} (hs : Sub L' L) : AgM ds a n L' :=
  ⟨h.dfr, h.size, fun t v hv => h.at_ t v (hs.look hv)⟩

/-- The arguments as a list of slots. -/
def argsOk (args : Array Value) : List (Nat × Value) → Prop
  | [] => True
  | p :: r => args[p.1]? = some p.2 ∧ argsOk args r

theorem argsOk.look {args : Array Value} : ∀ {L : List (Nat × Value)}, argsOk args L → ∀ {t v}, look L t = some v → args[t]? = some v
  | [], _, _, _, h => by cases h
  | p :: r, hs, t, v, h => by
    simp only [Lw.look] at h
    by_cases e : p.1 = t
    · subst e
      simp only [Nat.beq_refl, cond_true, Option.some.injEq] at h
      rw [← h]; exact hs.1
    · have : Nat.beq p.1 t = false := beq_no e
      rw [this] at h
      exact argsOk.look hs.2 h

theorem enter {f : FuncId} {fn : Func} {c : Code} {args : Array Value} {R : Ending → World → Prop} (L : List (Nat × Value))
    (hf : P.funcs[f]? = some fn) (hb : fn.body = some c) (hn : fn.ntmps = n) (hk : Nat.ble args.size n = true) (hL : argsOk args L)
    (h : ∀ a, Ag a n L → c.wp P (bodyPost P fn R) a w) : Calls P f args w R := by
  have hk' : args.size ≤ n := by simpa [Nat.ble_eq] using hk
  refine calls_of_wp hf hb (h _ ⟨rfl, by simp [hn]; omega, fun t v hv => ?_⟩)
  have := argsOk.look hL hv
  simp only [Array.getD_eq_getD_getElem?, Array.getElem?_append]
  have ht : t < args.size := by
    rcases Nat.lt_or_ge t args.size with h | h
    · exact h
    · rw [Array.getElem?_eq_none h] at this; cases this
  rw [if_pos ht, this]; rfl

/-- What a call returns. -/
def Rets (P : Program) (f : FuncId) (args : Array Value) (w : World) (Φ : Value → World → Prop) : Prop :=
  Calls P f args w fun e w' => ∃ v, e = .returned v ∧ Φ v w'

theorem Rets.mono {f : FuncId} {args : Array Value} {Φ Ψ : Value → World → Prop} (h : Rets P f args w Φ) (hq : ∀ v w', Φ v w' → Ψ v w') : Rets P f args w Ψ :=
  Calls.mono h fun _ _ ⟨v, he, hv⟩ => ⟨v, he, hq v _ hv⟩

/-! Statements. -/
theorem seq_region {id : Nat} {l : List Oper} {y : Code} (h : wpList P l.toArray (Exit.then (y.wp P Q) Q) l a w) : (Code.seq (.region id l.toArray false) y).wp P Q a w :=
  wp_seq (wp_region_lit h)
theorem seq_cut {x y : Code} (K : Act → World → Prop) (h1 : x.wp P (Exit.then K Q) a w) (h2 : ∀ a w, K a w → y.wp P Q a w) : (Code.seq x y).wp P Q a w :=
  wp_seq (wp_mono h1 fun e a w h => by cases e <;> first | exact h2 _ _ h | exact h)
theorem cond_true {c : Operand} {x y : Code} (h : AgM ds a n L) (hc : ev L c = some (.bool true)) (k : x.wp P Q a w) : (Code.cond c x y).wp P Q a w := wp_cond (h.eval hc) k
theorem cond_false {c : Operand} {x y : Code} (h : AgM ds a n L) (hc : ev L c = some (.bool false)) (k : y.wp P Q a w) : (Code.cond c x y).wp P Q a w := wp_cond (h.eval hc) k
theorem cond_split {c : Operand} {x y : Code} {b : Bool} (h : AgM ds a n L) (hc : ev L c = some (.bool b)) (ht : b = true → x.wp P Q a w) (hf : b = false → y.wp P Q a w) : (Code.cond c x y).wp P Q a w :=
  wp_cond_split (h.eval hc) ht hf
theorem loop {c : Code} {ι : Type} (L : ι → List (Nat × Value)) (I : ι → World → Prop) (μ : ι → Nat) (i : ι) (h : AgM ds a n (L i)) (hI : I i w)
    (round : ∀ i w a, AgM ds a n (L i) → I i w → c.wp P (Exit.then (fun a' w' => ∃ j, AgM ds a' n (L j) ∧ I j w' ∧ μ j < μ i) Q) a w) : (Code.loop c).wp P Q a w := by
  have key : ∀ m i w a, μ i = m → AgM ds a n (L i) → I i w → ∀ (b : Frame) (k : List Item) (cs : List Frame),
      ∃ e a' w', Q e a' w' ∧ Arrives P (lone (b.at a (.code c :: .inLoop c :: k)) cs w) b k cs e a' w' := by
    intro m
    induction m using Nat.strongRecOn with
    | _ m ih =>
      intro i w a hm hA hI b k cs
      obtain ⟨e, a₁, w₁, hq, harr⟩ := round i w a hA hI b (.inLoop c :: k) cs
      cases e with
      | normal =>
        obtain ⟨j, hA₁, hI₁, hlt⟩ := hq
        obtain ⟨e₂, a₂, w₂, hq₂, harr₂⟩ := ih (μ j) (hm ▸ hlt) j w₁ a₁ rfl hA₁ hI₁ b k cs
        exact ⟨e₂, a₂, w₂, hq₂, .of_steps (Steps.trans harr (.one step_inLoop)) harr₂⟩
      | exit id => exact ⟨_, a₁, w₁, hq, .pass (x := .inLoop c) rfl (fun _ _ => .inl (by simp)) harr⟩
      | goto l => exact ⟨_, a₁, w₁, hq, .pass (x := .inLoop c) rfl (fun _ _ => .inl (by simp)) harr⟩
      | ret => exact ⟨_, a₁, w₁, hq, .pass (x := .inLoop c) rfl (fun _ _ => .inl (by simp)) harr⟩
      | panic ch => exact ⟨_, a₁, w₁, hq, .pass (x := .inLoop c) rfl (fun _ _ => .inl (by simp)) harr⟩
      | outgrown => exact ⟨_, a₁, w₁, hq, .pass (x := .inLoop c) rfl (fun _ _ => .inl (by simp)) harr⟩
  intro b k cs
  obtain ⟨e, a', w', hq, harr⟩ := key _ i w a rfl h hI b k cs
  exact ⟨e, a', w', hq, .of_steps (.one step_loop) harr⟩
theorem exit_here {id : Nat} (h : Q .normal a w) : Exit.inBlock id Q (.exit id) a w := by simp only [Exit.inBlock, if_true]; exact h
theorem exit_out {id id' : Nat} (hne : Nat.beq id' id = false) (h : Q (.exit id') a w) : Exit.inBlock id Q (.exit id') a w := by
  simp only [Exit.inBlock]; rw [if_neg (by rintro rfl; simp at hne)]; exact h
theorem ret0 {fn : Func} {R : Ending → World → Prop} (h : Ag a n L) (hr : fn.results = #[]) (k : R (.returned (.tuple #[])) w) : bodyPost P fn R .ret a w :=
  bodyPost_ret (results_none hr _ _ _) h.dfr k
theorem ret0n {fn : Func} {R : Ending → World → Prop} (h : Ag a n L) (hr : fn.results = #[]) (k : R (.returned (.tuple #[])) w) : bodyPost P fn R .normal a w :=
  bodyPost_end (results_none hr _ _ _) h.dfr k
theorem ret1 {fn : Func} {R : Ending → World → Prop} {t : Nat} {v : Value} (h : Ag a n L) (hr : fn.results = #[.tmp t]) (hv : look L t = some v) (k : R (.returned v) w) : bodyPost P fn R .ret a w :=
  bodyPost_ret (results_tmp hr _ _ _) h.dfr (by rw [h.at_ t v hv]; exact k)
theorem ret2 {fn : Func} {R : Ending → World → Prop} {t u : Nat} {v x : Value} (h : Ag a n L) (hr : fn.results = #[.tmp t, .tmp u]) (hv : look L t = some v) (hx : look L u = some x)
    (k : R (.returned (.tuple #[v, x])) w) : bodyPost P fn R .ret a w :=
  bodyPost_ret (results_tmp2 hr _ _ _) h.dfr (by rw [h.at_ t v hv, h.at_ u x hx]; exact k)
theorem ret3 {fn : Func} {R : Ending → World → Prop} {t u s : Nat} {v x y : Value} (h : Ag a n L) (hr : fn.results = #[.tmp t, .tmp u, .tmp s]) (hv : look L t = some v) (hx : look L u = some x)
    (hy : look L s = some y) (k : R (.returned (.tuple #[v, x, y])) w) : bodyPost P fn R .ret a w :=
  bodyPost_ret (v := .tuple #[v, x, y]) (by
    have h1 := h.at_ t v hv; have h2 := h.at_ u x hx; have h3 := h.at_ s y hy
    simp only [Array.getD_eq_getD_getElem?] at h1 h2 h3
    simp [results, hr, h1, h2, h3]) h.dfr k

/-- A walk from a frame of which the slots L are known: the frame's name does not matter. -/
def WL (P : Program) (ops : Array Oper) (Q : Exit → Act → World → Prop) (l : List Oper) (n : Nat) (ds : List Nat) (w : World) (L : List (Nat × Value)) : Prop := ∀ a, AgM ds a n L → wpList P ops Q l a w
def CW (P : Program) (Q : Exit → Act → World → Prop) (c : Code) (n : Nat) (ds : List Nat) (w : World) (L : List (Nat × Value)) : Prop := ∀ a, AgM ds a n L → c.wp P Q a w
def EW (Q : Exit → Act → World → Prop) (e : Exit) (n : Nat) (ds : List Nat) (w : World) (L : List (Nat × Value)) : Prop := ∀ a, AgM ds a n L → Q e a w
/-! Operations. -/
theorem st_ok {d : Nat} {v : Value} (h : AgM ds a n L) (hg : o.guard = none) (hd : o.dst = some d) (hn : Nat.blt d n = true) (hr : (execOp a.eval o).run P w = .ok (.value v) w')
    (k : ∀ a, AgM ds a n ((d, v) :: L) → wpList P ops Q rest a w') : wpList P ops Q (o :: rest) a w :=
  wpList_plain hg fun K hK => by
    unfold Oper.wp
    rw [hr]
    show K (a.put o.dst v) w'
    rw [hd]
    exact hK _ _ (k _ (h.put hn v))
theorem st_skip (h : AgM ds a n L) (hg : o.guard = none) (hd : o.dst = none) (hr : (execOp a.eval o).run P w = .ok .skip w')
    (k : ∀ a, AgM ds a n L → wpList P ops Q rest a w') : wpList P ops Q (o :: rest) a w :=
  wpList_plain hg fun K hK => by
    unfold Oper.wp
    rw [hr]
    show K (a.put o.dst undef) w'
    rw [hd]
    exact hK _ _ (k _ h)
theorem st_enter {d : Nat} {f : FuncId} {args : Array Value} {Φ : Value → World → Prop} (h : AgM ds a n L) (hg : o.guard = none) (hd : o.dst = some d) (hn : Nat.blt d n = true)
    (hr : (execOp a.eval o).run P w = .ok (.enter f args) w') (hc : Rets P f args w' Φ)
    (k : ∀ v w', Φ v w' → ∀ a, AgM ds a n ((d, v) :: L) → wpList P ops Q rest a w') : wpList P ops Q (o :: rest) a w :=
  wpList_plain hg fun K hK => by
    unfold Oper.wp
    rw [hr]
    refine Calls.mono hc ?_
    rintro e w'' ⟨v, rfl, hv⟩
    show K (a.put o.dst v) w''
    rw [hd]
    exact hK _ _ (k v w'' hv _ (h.put hn v))

/-- A guard: its test's slot. -/
theorem yielded_of (h : AgM ds a n L) {j d : Nat} {oj : Oper} {b : Bool} (hj : ops[j]? = some oj) (hd : oj.dst = some d) (hn : Nat.blt d n = true) (hb : look L d = some (.bool b)) : yielded ops a.tmps j = some b := by
  have h1 := h.at_ d _ hb
  have hd' : d < a.tmps.size := by rw [h.size]; simpa [Nat.blt_eq] using hn
  have h2 : a.tmps[d]? = some (.bool b) := by
    rw [Array.getElem?_eq_getElem hd']
    simpa [Array.getD, hd'] using h1
  simp [yielded, hj, hd, h2]
/-- The guard says no: the operation is passed over. -/
theorem gd_no {d j dj : Nat} {oj : Oper} {want b : Bool} (h : AgM ds a n L) (hg : o.guard = some (j, want)) (hj : ops[j]? = some oj) (hdj : oj.dst = some dj) (hnj : Nat.blt dj n = true)
    (hb : look L dj = some (.bool b)) (hne : (b == want) = false) (hd : o.dst = some d) (hn : Nat.blt d n = true)
    (k : ∀ a, AgM ds a n ((d, undef) :: L) → wpList P ops Q rest a w) : wpList P ops Q (o :: rest) a w := by
  have hy := yielded_of (ops := ops) h hj hdj hnj hb
  unfold wpList
  rw [if_neg (by simp only [Region.wanted, hg, hy]; simpa using hne), hd]
  exact k _ (h.put hn undef)
/-- The guard's test was passed over itself. -/
theorem gd_skip {d j dj : Nat} {oj : Oper} {want : Bool} (h : AgM ds a n L) (hg : o.guard = some (j, want)) (hj : ops[j]? = some oj) (hdj : oj.dst = some dj) (hnj : Nat.blt dj n = true)
    (hb : look L dj = some undef) (hd : o.dst = some d) (hn : Nat.blt d n = true)
    (k : ∀ a, AgM ds a n ((d, undef) :: L) → wpList P ops Q rest a w) : wpList P ops Q (o :: rest) a w := by
  have h1 := h.at_ dj _ hb
  have hd' : dj < a.tmps.size := by rw [h.size]; simpa [Nat.blt_eq] using hnj
  have h2 : a.tmps[dj]? = some undef := by
    rw [Array.getElem?_eq_getElem hd']
    simpa [Array.getD, hd'] using h1
  have hy : yielded ops a.tmps j = none := by simp [yielded, hj, hdj, h2, undef]
  unfold wpList
  rw [if_neg (by simp [Region.wanted, hg, hy]), hd]
  exact k _ (h.put hn undef)
/-- The guard says yes: as if there were none. -/
theorem gd_yes {j dj : Nat} {oj : Oper} {want b : Bool} (h : AgM ds a n L) (hg : o.guard = some (j, want)) (hj : ops[j]? = some oj) (hdj : oj.dst = some dj) (hnj : Nat.blt dj n = true)
    (hb : look L dj = some (.bool b)) (he : (b == want) = true)
    (k : wpList P ops Q ({ o with guard := none } :: rest) a w) : wpList P ops Q (o :: rest) a w := by
  have hy := yielded_of (ops := ops) h hj hdj hnj hb
  unfold wpList at k ⊢
  rw [if_pos (by simp [Region.wanted])] at k
  rw [if_pos (by simp only [Region.wanted, hg, hy]; simpa using he)]
  exact k

variable {d : Nat} {ty : TypeId} {pos : String} {after : Array Edge} {v : Value} {x y : Operand} {t t' : TypeId} {k k' : IntKind} {i j : Int} {b c : Bool} {s s' : ByteArray}
theorem st_move (h : AgM ds a n L) (hx : ev L x = some v) (hn : Nat.blt d n = true) (q : ∀ a, AgM ds a n ((d, v) :: L) → wpList P ops Q rest a w) :
    wpList P ops Q (⟨some d, .move x, ty, pos, after, none⟩ :: rest) a w :=
  st_ok h rfl rfl hn (by simp [execOp, h.eval hx]) q
theorem mv (hx : ev L x = some v) (hn : Nat.blt d n = true) (q : WL P ops Q rest n ds w ((d, v) :: L)) : WL P ops Q (⟨some d, .move x, ty, pos, after, none⟩ :: rest) n ds w L := fun a h => st_move h hx hn q -- short
theorem st_assign (h : AgM ds a n L) (hx : ev L x = some v) (hn : Nat.blt d n = true) (q : ∀ a, AgM ds a n ((d, v) :: L) → wpList P ops Q rest a w) :
    wpList P ops Q (⟨some d, .assign x, ty, pos, after, none⟩ :: rest) a w :=
  st_ok h rfl rfl hn (by simp [execOp, h.eval hx]) q
theorem asg (hx : ev L x = some v) (hn : Nat.blt d n = true) (q : WL P ops Q rest n ds w ((d, v) :: L)) : WL P ops Q (⟨some d, .assign x, ty, pos, after, none⟩ :: rest) n ds w L := fun a h => st_assign h hx hn q -- short
theorem st_pick_t {z : Value} {x1 x2 : Operand} (h : AgM ds a n L) (hx : ev L x = some (.bool b)) (hb : b = true) (hv : ev L x1 = some z) (hn : Nat.blt d n = true) (q : ∀ a, AgM ds a n ((d, z) :: L) → wpList P ops Q rest a w) :
    wpList P ops Q (⟨some d, .pick x x1 x2, ty, pos, after, none⟩ :: rest) a w :=
  st_ok h rfl rfl hn (by subst hb; simp [execOp, h.eval hx, asBool, h.eval hv]) q
theorem pkt {z : Value} {x1 x2 : Operand} (hx : ev L x = some (.bool b)) (hb : b = true) (hv : ev L x1 = some z) (hn : Nat.blt d n = true) (q : WL P ops Q rest n ds w ((d, z) :: L)) : WL P ops Q (⟨some d, .pick x x1 x2, ty, pos, after, none⟩ :: rest) n ds w L := fun a h => st_pick_t h hx hb hv hn q -- short
theorem st_pick_f {z : Value} {x1 x2 : Operand} (h : AgM ds a n L) (hx : ev L x = some (.bool b)) (hb : b = false) (hv : ev L x2 = some z) (hn : Nat.blt d n = true) (q : ∀ a, AgM ds a n ((d, z) :: L) → wpList P ops Q rest a w) :
    wpList P ops Q (⟨some d, .pick x x1 x2, ty, pos, after, none⟩ :: rest) a w :=
  st_ok h rfl rfl hn (by subst hb; simp [execOp, h.eval hx, asBool, h.eval hv]) q

theorem pkf {z : Value} {x1 x2 : Operand} (hx : ev L x = some (.bool b)) (hb : b = false) (hv : ev L x2 = some z) (hn : Nat.blt d n = true) (q : WL P ops Q rest n ds w ((d, z) :: L)) : WL P ops Q (⟨some d, .pick x x1 x2, ty, pos, after, none⟩ :: rest) n ds w L := fun a h => st_pick_f h hx hb hv hn q -- short
theorem beq_dec (i j : Int) : (i == j) = decide (i = j) := rfl
theorem exec_builtin (ρ : Operand → Value) (dst : Option Tmp) (b : Builtin) (xs : Array Operand) (ats : Array TypeId) (ty : TypeId) (pos : String) (after : Array Edge) (guard : Option (Nat × Bool)) :
    execOp ρ { dst, op := .call { callee := .builtin b, args := xs, argTypes := ats }, type := ty, pos, after, guard } = builtin b ats ty (xs.map fun | .const _ => true | _ => false) (xs.map ρ) := rfl
/-! Integers. -/
theorem st_add {z : Int} (h : AgM ds a n L) (hx : ev L x = some (.int k i)) (hy : ev L y = some (.int k j)) (hz : k.wrap (i + j) = z) (hn : Nat.blt d n = true) (q : ∀ a, AgM ds a n ((d, .int k z) :: L) → wpList P ops Q rest a w) :
    wpList P ops Q (⟨some d, .binOp .add t x y t', ty, pos, after, none⟩ :: rest) a w :=
  st_ok h rfl rfl hn (by subst hz; simp [execOp, h.eval hx, h.eval hy, eqGuard_add, binOp_add, Op.intArith]) q
theorem s_add {z : Int} (hx : ev L x = some (.int k i)) (hy : ev L y = some (.int k j)) (hz : k.wrap (i + j) = z) (hn : Nat.blt d n = true) (q : WL P ops Q rest n ds w ((d, .int k z) :: L)) : WL P ops Q (⟨some d, .binOp .add t x y t', ty, pos, after, none⟩ :: rest) n ds w L := fun a h => st_add h hx hy hz hn q -- short
theorem st_sub {z : Int} (h : AgM ds a n L) (hx : ev L x = some (.int k i)) (hy : ev L y = some (.int k j)) (hz : k.wrap (i - j) = z) (hn : Nat.blt d n = true) (q : ∀ a, AgM ds a n ((d, .int k z) :: L) → wpList P ops Q rest a w) :
    wpList P ops Q (⟨some d, .binOp .sub t x y t', ty, pos, after, none⟩ :: rest) a w :=
  st_ok h rfl rfl hn (by subst hz; simp [execOp, h.eval hx, h.eval hy, eqGuard_sub, binOp_sub, Op.intArith]) q
theorem s_sub {z : Int} (hx : ev L x = some (.int k i)) (hy : ev L y = some (.int k j)) (hz : k.wrap (i - j) = z) (hn : Nat.blt d n = true) (q : WL P ops Q rest n ds w ((d, .int k z) :: L)) : WL P ops Q (⟨some d, .binOp .sub t x y t', ty, pos, after, none⟩ :: rest) n ds w L := fun a h => st_sub h hx hy hz hn q -- short
theorem st_mul {z : Int} (h : AgM ds a n L) (hx : ev L x = some (.int k i)) (hy : ev L y = some (.int k j)) (hz : k.wrap (i * j) = z) (hn : Nat.blt d n = true) (q : ∀ a, AgM ds a n ((d, .int k z) :: L) → wpList P ops Q rest a w) :
    wpList P ops Q (⟨some d, .binOp .mul t x y t', ty, pos, after, none⟩ :: rest) a w :=
  st_ok h rfl rfl hn (by subst hz; simp [execOp, h.eval hx, h.eval hy, eqGuard_mul, binOp_mul, Op.intArith]) q
theorem s_mul {z : Int} (hx : ev L x = some (.int k i)) (hy : ev L y = some (.int k j)) (hz : k.wrap (i * j) = z) (hn : Nat.blt d n = true) (q : WL P ops Q rest n ds w ((d, .int k z) :: L)) : WL P ops Q (⟨some d, .binOp .mul t x y t', ty, pos, after, none⟩ :: rest) n ds w L := fun a h => st_mul h hx hy hz hn q -- short
theorem st_quo {z : Int} (h : AgM ds a n L) (hx : ev L x = some (.int k i)) (hy : ev L y = some (.int k j)) (h0 : j ≠ 0) (hz : k.wrap (i.tdiv j) = z) (hn : Nat.blt d n = true) (q : ∀ a, AgM ds a n ((d, .int k z) :: L) → wpList P ops Q rest a w) :
    wpList P ops Q (⟨some d, .binOp .quo t x y t', ty, pos, after, none⟩ :: rest) a w :=
  st_ok h rfl rfl hn (by subst hz; simp [execOp, h.eval hx, h.eval hy, eqGuard_quo, binOp_quo, Op.intDiv, h0]) q
theorem s_quo {z : Int} (hx : ev L x = some (.int k i)) (hy : ev L y = some (.int k j)) (h0 : j ≠ 0) (hz : k.wrap (i.tdiv j) = z) (hn : Nat.blt d n = true) (q : WL P ops Q rest n ds w ((d, .int k z) :: L)) : WL P ops Q (⟨some d, .binOp .quo t x y t', ty, pos, after, none⟩ :: rest) n ds w L := fun a h => st_quo h hx hy h0 hz hn q -- short
theorem st_rem {z : Int} (h : AgM ds a n L) (hx : ev L x = some (.int k i)) (hy : ev L y = some (.int k j)) (h0 : j ≠ 0) (hz : i.tmod j = z) (hn : Nat.blt d n = true) (q : ∀ a, AgM ds a n ((d, .int k z) :: L) → wpList P ops Q rest a w) :
    wpList P ops Q (⟨some d, .binOp .rem t x y t', ty, pos, after, none⟩ :: rest) a w :=
  st_ok h rfl rfl hn (by subst hz; simp [execOp, h.eval hx, h.eval hy, eqGuard_rem, binOp_rem, Op.intDiv, h0]) q
theorem s_rem {z : Int} (hx : ev L x = some (.int k i)) (hy : ev L y = some (.int k j)) (h0 : j ≠ 0) (hz : i.tmod j = z) (hn : Nat.blt d n = true) (q : WL P ops Q rest n ds w ((d, .int k z) :: L)) : WL P ops Q (⟨some d, .binOp .rem t x y t', ty, pos, after, none⟩ :: rest) n ds w L := fun a h => st_rem h hx hy h0 hz hn q -- short
theorem st_eq (h : AgM ds a n L) (hx : ev L x = some (.int k i)) (hy : ev L y = some (.int k j)) (hn : Nat.blt d n = true) (q : ∀ a, AgM ds a n ((d, .bool (decide (i = j))) :: L) → wpList P ops Q rest a w) :
    wpList P ops Q (⟨some d, .binOp .eql t x y t', ty, pos, after, none⟩ :: rest) a w :=
  st_ok h rfl rfl hn (by simp [execOp, h.eval hx, h.eval hy, eqGuard_at_int, binOp_eql, beq_dec]) q
theorem eq' (hx : ev L x = some (.int k i)) (hy : ev L y = some (.int k j)) (hn : Nat.blt d n = true) (q : WL P ops Q rest n ds w ((d, .bool (decide (i = j))) :: L)) : WL P ops Q (⟨some d, .binOp .eql t x y t', ty, pos, after, none⟩ :: rest) n ds w L := fun a h => st_eq h hx hy hn q -- short
theorem st_ne (h : AgM ds a n L) (hx : ev L x = some (.int k i)) (hy : ev L y = some (.int k j)) (hn : Nat.blt d n = true) (q : ∀ a, AgM ds a n ((d, .bool (decide (i ≠ j))) :: L) → wpList P ops Q rest a w) :
    wpList P ops Q (⟨some d, .binOp .neq t x y t', ty, pos, after, none⟩ :: rest) a w :=
  st_ok h rfl rfl hn (by simp [execOp, h.eval hx, h.eval hy, eqGuard_at_int, binOp_neq, bne, beq_dec]) q
theorem ne' (hx : ev L x = some (.int k i)) (hy : ev L y = some (.int k j)) (hn : Nat.blt d n = true) (q : WL P ops Q rest n ds w ((d, .bool (decide (i ≠ j))) :: L)) : WL P ops Q (⟨some d, .binOp .neq t x y t', ty, pos, after, none⟩ :: rest) n ds w L := fun a h => st_ne h hx hy hn q -- short
theorem st_lt (h : AgM ds a n L) (hx : ev L x = some (.int k i)) (hy : ev L y = some (.int k j)) (hn : Nat.blt d n = true) (q : ∀ a, AgM ds a n ((d, .bool (decide (i < j))) :: L) → wpList P ops Q rest a w) :
    wpList P ops Q (⟨some d, .binOp .lss t x y t', ty, pos, after, none⟩ :: rest) a w :=
  st_ok h rfl rfl hn (by simp [execOp, h.eval hx, h.eval hy, eqGuard_lss, binOp_lss]) q
theorem lt' (hx : ev L x = some (.int k i)) (hy : ev L y = some (.int k j)) (hn : Nat.blt d n = true) (q : WL P ops Q rest n ds w ((d, .bool (decide (i < j))) :: L)) : WL P ops Q (⟨some d, .binOp .lss t x y t', ty, pos, after, none⟩ :: rest) n ds w L := fun a h => st_lt h hx hy hn q -- short
theorem st_le (h : AgM ds a n L) (hx : ev L x = some (.int k i)) (hy : ev L y = some (.int k j)) (hn : Nat.blt d n = true) (q : ∀ a, AgM ds a n ((d, .bool (decide (i ≤ j))) :: L) → wpList P ops Q rest a w) :
    wpList P ops Q (⟨some d, .binOp .leq t x y t', ty, pos, after, none⟩ :: rest) a w :=
  st_ok h rfl rfl hn (by simp [execOp, h.eval hx, h.eval hy, eqGuard_leq, binOp_leq]) q
theorem le' (hx : ev L x = some (.int k i)) (hy : ev L y = some (.int k j)) (hn : Nat.blt d n = true) (q : WL P ops Q rest n ds w ((d, .bool (decide (i ≤ j))) :: L)) : WL P ops Q (⟨some d, .binOp .leq t x y t', ty, pos, after, none⟩ :: rest) n ds w L := fun a h => st_le h hx hy hn q -- short
theorem st_gt (h : AgM ds a n L) (hx : ev L x = some (.int k i)) (hy : ev L y = some (.int k j)) (hn : Nat.blt d n = true) (q : ∀ a, AgM ds a n ((d, .bool (decide (j < i))) :: L) → wpList P ops Q rest a w) :
    wpList P ops Q (⟨some d, .binOp .gtr t x y t', ty, pos, after, none⟩ :: rest) a w :=
  st_ok h rfl rfl hn (by simp [execOp, h.eval hx, h.eval hy, eqGuard_gtr, binOp_gtr]) q
theorem gt' (hx : ev L x = some (.int k i)) (hy : ev L y = some (.int k j)) (hn : Nat.blt d n = true) (q : WL P ops Q rest n ds w ((d, .bool (decide (j < i))) :: L)) : WL P ops Q (⟨some d, .binOp .gtr t x y t', ty, pos, after, none⟩ :: rest) n ds w L := fun a h => st_gt h hx hy hn q -- short
theorem st_ge (h : AgM ds a n L) (hx : ev L x = some (.int k i)) (hy : ev L y = some (.int k j)) (hn : Nat.blt d n = true) (q : ∀ a, AgM ds a n ((d, .bool (decide (j ≤ i))) :: L) → wpList P ops Q rest a w) :
    wpList P ops Q (⟨some d, .binOp .geq t x y t', ty, pos, after, none⟩ :: rest) a w :=
  st_ok h rfl rfl hn (by simp [execOp, h.eval hx, h.eval hy, eqGuard_geq, binOp_geq]) q
theorem ge' (hx : ev L x = some (.int k i)) (hy : ev L y = some (.int k j)) (hn : Nat.blt d n = true) (q : WL P ops Q rest n ds w ((d, .bool (decide (j ≤ i))) :: L)) : WL P ops Q (⟨some d, .binOp .geq t x y t', ty, pos, after, none⟩ :: rest) n ds w L := fun a h => st_ge h hx hy hn q -- short
theorem st_neg {z : Int} (h : AgM ds a n L) (hx : ev L x = some (.int k i)) (hz : k.wrap (0 - i) = z) (hn : Nat.blt d n = true) (q : ∀ a, AgM ds a n ((d, .int k z) :: L) → wpList P ops Q rest a w) :
    wpList P ops Q (⟨some d, .unOp .neg t x, ty, pos, after, none⟩ :: rest) a w :=
  st_ok h rfl rfl hn (by subst hz; simp [execOp, h.eval hx, unary_neg, Op.intArith]) q
theorem s_neg {z : Int} (hx : ev L x = some (.int k i)) (hz : k.wrap (0 - i) = z) (hn : Nat.blt d n = true) (q : WL P ops Q rest n ds w ((d, .int k z) :: L)) : WL P ops Q (⟨some d, .unOp .neg t x, ty, pos, after, none⟩ :: rest) n ds w L := fun a h => st_neg h hx hz hn q -- short
theorem st_not (h : AgM ds a n L) (hx : ev L x = some (.bool b)) (hn : Nat.blt d n = true) (q : ∀ a, AgM ds a n ((d, .bool (!b)) :: L) → wpList P ops Q rest a w) :
    wpList P ops Q (⟨some d, .unOp .not t x, ty, pos, after, none⟩ :: rest) a w :=
  st_ok h rfl rfl hn (by simp [execOp, h.eval hx, unary_not]) q
theorem nt' (hx : ev L x = some (.bool b)) (hn : Nat.blt d n = true) (q : WL P ops Q rest n ds w ((d, .bool (!b)) :: L)) : WL P ops Q (⟨some d, .unOp .not t x, ty, pos, after, none⟩ :: rest) n ds w L := fun a h => st_not h hx hn q -- short
theorem st_conv {z : Int} (h : AgM ds a n L) (hx : ev L x = some (.int k i)) (hs : (P.underlying t).isSome = true) (hd : P.underlying t' = some (.int k')) (hz : k'.wrap i = z) (hn : Nat.blt d n = true) (q : ∀ a, AgM ds a n ((d, .int k' z) :: L) → wpList P ops Q rest a w) :
    wpList P ops Q (⟨some d, .convert t t' x, ty, pos, after, none⟩ :: rest) a w :=
  st_ok h rfl rfl hn (by
    obtain ⟨u, hu⟩ := Option.isSome_iff_exists.mp hs
    subst hz; simp [execOp, h.eval hx, convert, run_underlying hu, run_underlying hd, Conv.intToInt]) q
theorem s_conv {z : Int} (hx : ev L x = some (.int k i)) (hs : (P.underlying t).isSome = true) (hd : P.underlying t' = some (.int k')) (hz : k'.wrap i = z) (hn : Nat.blt d n = true) (q : WL P ops Q rest n ds w ((d, .int k' z) :: L)) : WL P ops Q (⟨some d, .convert t t' x, ty, pos, after, none⟩ :: rest) n ds w L := fun a h => st_conv h hx hs hd hz hn q -- short
theorem st_min {ts : Array TypeId} (h : AgM ds a n L) (hx : ev L x = some (.int k i)) (hy : ev L y = some (.int k' j)) (hn : Nat.blt d n = true) (q : ∀ a, AgM ds a n ((d, .int k (min i j)) :: L) → wpList P ops Q rest a w) :
    wpList P ops Q (⟨some d, .call ⟨.builtin .min, #[x, y], ts⟩, ty, pos, after, none⟩ :: rest) a w :=
  st_ok h rfl rfl hn (by
    rw [exec_builtin]; unfold builtin
    simp only [List.map_toArray, List.map_cons, List.map_nil, h.eval hx, h.eval hy, Sem.run_bind, run_min_int2, Result.andThen_ok, Sem.run_pure]
    congr 3; omega) q
theorem s_min {ts : Array TypeId} (hx : ev L x = some (.int k i)) (hy : ev L y = some (.int k' j)) (hn : Nat.blt d n = true) (q : WL P ops Q rest n ds w ((d, .int k (min i j)) :: L)) : WL P ops Q (⟨some d, .call ⟨.builtin .min, #[x, y], ts⟩, ty, pos, after, none⟩ :: rest) n ds w L := fun a h => st_min h hx hy hn q -- short
theorem st_max {ts : Array TypeId} (h : AgM ds a n L) (hx : ev L x = some (.int k i)) (hy : ev L y = some (.int k' j)) (hn : Nat.blt d n = true) (q : ∀ a, AgM ds a n ((d, .int k (max i j)) :: L) → wpList P ops Q rest a w) :
    wpList P ops Q (⟨some d, .call ⟨.builtin .max, #[x, y], ts⟩, ty, pos, after, none⟩ :: rest) a w :=
  st_ok h rfl rfl hn (by
    rw [exec_builtin]; unfold builtin
    simp only [List.map_toArray, List.map_cons, List.map_nil, h.eval hx, h.eval hy, Sem.run_bind, run_max_int2, Result.andThen_ok, Sem.run_pure]
    congr 3; omega) q
theorem s_max {ts : Array TypeId} (hx : ev L x = some (.int k i)) (hy : ev L y = some (.int k' j)) (hn : Nat.blt d n = true) (q : WL P ops Q rest n ds w ((d, .int k (max i j)) :: L)) : WL P ops Q (⟨some d, .call ⟨.builtin .max, #[x, y], ts⟩, ty, pos, after, none⟩ :: rest) n ds w L := fun a h => st_max h hx hy hn q -- short
theorem st_eqb (h : AgM ds a n L) (hx : ev L x = some (.bool b)) (hy : ev L y = some (.bool c)) (hu : P.underlying t = some .bool) (hn : Nat.blt d n = true) (q : ∀ a, AgM ds a n ((d, .bool (decide (b = c))) :: L) → wpList P ops Q rest a w) :
    wpList P ops Q (⟨some d, .binOp .eql t x y t', ty, pos, after, none⟩ :: rest) a w :=
  st_ok h rfl rfl hn (by simp [execOp, h.eval hx, h.eval hy, eqGuard_at_bool, run_eql_bool w t b c hu]; cases b <;> cases c <;> rfl) q
theorem s_eqb (hx : ev L x = some (.bool b)) (hy : ev L y = some (.bool c)) (hu : P.underlying t = some .bool) (hn : Nat.blt d n = true) (q : WL P ops Q rest n ds w ((d, .bool (decide (b = c))) :: L)) : WL P ops Q (⟨some d, .binOp .eql t x y t', ty, pos, after, none⟩ :: rest) n ds w L := fun a h => st_eqb h hx hy hu hn q -- short
theorem st_neb (h : AgM ds a n L) (hx : ev L x = some (.bool b)) (hy : ev L y = some (.bool c)) (hu : P.underlying t = some .bool) (hn : Nat.blt d n = true) (q : ∀ a, AgM ds a n ((d, .bool (decide (b ≠ c))) :: L) → wpList P ops Q rest a w) :
    wpList P ops Q (⟨some d, .binOp .neq t x y t', ty, pos, after, none⟩ :: rest) a w :=
  st_ok h rfl rfl hn (by simp [execOp, h.eval hx, h.eval hy, eqGuard_at_bool, run_neq_bool w t b c hu]; cases b <;> cases c <;> rfl) q

theorem s_neb (hx : ev L x = some (.bool b)) (hy : ev L y = some (.bool c)) (hu : P.underlying t = some .bool) (hn : Nat.blt d n = true) (q : WL P ops Q rest n ds w ((d, .bool (decide (b ≠ c))) :: L)) : WL P ops Q (⟨some d, .binOp .neq t x y t', ty, pos, after, none⟩ :: rest) n ds w L := fun a h => st_neb h hx hy hu hn q -- short
/-! Strings: as lists of bytes. -/
def S (l : List UInt8) : Value := .string ⟨l.toArray⟩
theorem S_of (s : ByteArray) : Value.string s = S s.data.toList := rfl
theorem toList_mk (l : List UInt8) : (ByteArray.mk l.toArray).toList = l := by
  simp
variable {l l' : List UInt8}
theorem st_len (h : AgM ds a n L) (hx : ev L x = some (S l)) (hu : P.underlying t = some .string) (hn : Nat.blt d n = true) (q : ∀ a, AgM ds a n ((d, .int .i64 (l.length : Int)) :: L) → wpList P ops Q rest a w) :
    wpList P ops Q (⟨some d, .call ⟨.builtin .len, #[x], #[t]⟩, ty, pos, after, none⟩ :: rest) a w :=
  st_ok h rfl rfl hn (by
    rw [exec_builtin]; unfold builtin
    simp only [List.map_toArray, List.map_cons, List.map_nil, h.eval hx, S, Sem.run_bind, run_len_string w t _ _ hu, Result.andThen_ok, Sem.run_pure]
    rfl) q
theorem ln (hx : ev L x = some (S l)) (hu : P.underlying t = some .string) (hn : Nat.blt d n = true) (q : WL P ops Q rest n ds w ((d, .int .i64 (l.length : Int)) :: L)) : WL P ops Q (⟨some d, .call ⟨.builtin .len, #[x], #[t]⟩, ty, pos, after, none⟩ :: rest) n ds w L := fun a h => st_len h hx hu hn q -- short
end
end Go.Lw
