/- Texts of the proof, joined: XLw XMem XOps XPh XQt XOps2 XStitch XNum XRead XShort XMore XNest XRef XMach XGram XBest XOrd XMin XLaws XRefS XRefT XLoads XRowOf XTwice XMake XSll XChart XScope XMap XShelf -/
import Derived.WalkKit
import Derived.WalkSpells
import Derived.WalkLawsBesides
import Derived.OrdersHeld
import Derived.Deep.Quiet
import Derived.Laws.BytesString
import Derived.Scope
import Derived.WalkSmall
set_option linter.unusedVariables false
set_option linter.unusedSimpArgs false
namespace Go.Lw

theorem beq_no {a b : Nat} (h : ¬ a = b) : Nat.beq a b = false := by
  rw [Bool.eq_false_iff]; intro e; exact h (Nat.eq_of_beq_eq_true e)

/-- The value of a slot in a list of slots. -/
def look : List (Nat × Value) → Nat → Option Value
  | [], _ => none
  | (s, v) :: r, t => bif Nat.beq s t then some v else look r t

/-- What a range over a function leaves among the deferred calls. -/
def mark (D : Nat) : Deferred := { target := .collected D, args := #[] }
/-- What is known of a frame: n slots, the marks, and the listed values. -/
structure AgM (ds : List Nat) (a : Act) (n : Nat) (L : List (Nat × Value)) : Prop where
  dfr : a.defers = ds.map mark
  size : a.tmps.size = n
  at_ : ∀ t v, look L t = some v → a.tmps.getD t undef = v

/-- A frame with no deferred calls. -/
abbrev Ag := AgM []

/-- The value of an operand. -/
def ev (L : List (Nat × Value)) : Operand → Option Value
  | .tmp t => look L t
  | .const v => some v
  | .global g => some (.pointer (some ⟨g, 0, none⟩))
  | .func f => some (.func (.func f) #[] #[])

/-- The values of operands. -/
def evs (L : List (Nat × Value)) : List Operand → List Value → Prop
  | [], [] => True
  | x :: xs, v :: vs => ev L x = some v ∧ evs L xs vs
  | _, _ => False

/-- Each slot of the first list has its value in the second. -/
def Sub : List (Nat × Value) → List (Nat × Value) → Prop
  | [], _ => True
  | p :: r, L => look L p.1 = some p.2 ∧ Sub r L

section
variable {P : Program} {a : Act} {n : Nat} {L : List (Nat × Value)} {ds : List Nat} {w w' : World} {Q : Exit → Act → World → Prop} {ops : Array Oper} {rest : List Oper} {o : Oper}

theorem AgM.eval (h : AgM ds a n L) {x : Operand} {v : Value} (hx : ev L x = some v) : a.eval x = v := by
  cases x with
  | tmp t => exact h.at_ t v hx
  | const c => exact Option.some.inj hx
  | global g => exact Option.some.inj hx
  | func f => exact Option.some.inj hx

theorem AgM.evals (h : AgM ds a n L) : ∀ {xs : List Operand} {vs : List Value}, evs L xs vs → xs.map a.eval = vs
  | [], [], _ => rfl
  | _ :: _, _ :: _, hx => by rw [List.map_cons, h.eval hx.1, h.evals hx.2]
  | [], _ :: _, hx => hx.elim
  | _ :: _, [], hx => hx.elim

theorem AgM.put (h : AgM ds a n L) {d : Nat} (hd : Nat.blt d n = true) (v : Value) : AgM ds (a.put (some d) v) n ((d, v) :: L) := by
  have hd' : d < n := by simpa [Nat.blt_eq] using hd
  refine ⟨h.dfr, by simp [Act.put, h.size], fun t u hu => ?_⟩
  simp only [look] at hu
  by_cases e : d = t
  · subst e
    simp only [Nat.beq_refl, cond_true, Option.some.injEq] at hu
    subst hu
    have : d < a.tmps.size := by rw [h.size]; exact hd'
    simp [Act.put, Array.getD, this]
  · have : Nat.beq d t = false := beq_no e
    rw [this] at hu
    have h1 := h.at_ t u hu
    simp only [Act.put, Array.getD_eq_getD_getElem?, Array.getElem?_setIfInBounds] at h1 ⊢
    rw [if_neg e]; exact h1

theorem Sub.look {L L' : List (Nat × Value)} : ∀ {t v}, Sub L' L → look L' t = some v → look L t = some v := by
  induction L' with
  | nil => intro t v _ h; cases h
  | cons p r ih =>
    intro t v hs h
    simp only [Lw.look] at h
    by_cases e : p.1 = t
    · subst e
      simp only [Nat.beq_refl, cond_true, Option.some.injEq] at h
      rw [← h]; exact hs.1
    · have : Nat.beq p.1 t = false := beq_no e
      rw [this] at h
      exact ih hs.2 h

theorem AgM.sub (h : AgM ds a n L) {L' : List (Nat × Value)} (hs : Sub L' L) : AgM ds a n L' :=
  ⟨h.dfr, h.size, fun t v hv => h.at_ t v (hs.look hv)⟩

/-- The arguments as a list of slots. -/
def argsOk (args : Array Value) : List (Nat × Value) → Prop
  | [] => True
  | p :: r => args[p.1]? = some p.2 ∧ argsOk args r

theorem argsOk.look {args : Array Value} : ∀ {L : List (Nat × Value)}, argsOk args L → ∀ {t v}, look L t = some v → args[t]? = some v
  | [], _, _, _, h => by cases h
  | p :: r, hs, t, v, h => by
    simp only [Lw.look] at h
    by_cases e : p.1 = t
    · subst e
      simp only [Nat.beq_refl, cond_true, Option.some.injEq] at h
      rw [← h]; exact hs.1
    · have : Nat.beq p.1 t = false := beq_no e
      rw [this] at h
      exact argsOk.look hs.2 h

theorem enter {f : FuncId} {fn : Func} {c : Code} {args : Array Value} {R : Ending → World → Prop} (L : List (Nat × Value))
    (hf : P.funcs[f]? = some fn) (hb : fn.body = some c) (hn : fn.ntmps = n) (hk : Nat.ble args.size n = true) (hL : argsOk args L)
    (h : ∀ a, Ag a n L → c.wp P (bodyPost P fn R) a w) : Calls P f args w R := by
  have hk' : args.size ≤ n := by simpa [Nat.ble_eq] using hk
  refine calls_of_wp hf hb (h _ ⟨rfl, by simp [hn]; omega, fun t v hv => ?_⟩)
  have := argsOk.look hL hv
  simp only [Array.getD_eq_getD_getElem?, Array.getElem?_append]
  have ht : t < args.size := by
    rcases Nat.lt_or_ge t args.size with h | h
    · exact h
    · rw [Array.getElem?_eq_none h] at this; cases this
  rw [if_pos ht, this]; rfl

/-- What a call returns. -/
def Rets (P : Program) (f : FuncId) (args : Array Value) (w : World) (Φ : Value → World → Prop) : Prop :=
  Calls P f args w fun e w' => ∃ v, e = .returned v ∧ Φ v w'

theorem Rets.mono {f : FuncId} {args : Array Value} {Φ Ψ : Value → World → Prop} (h : Rets P f args w Φ) (hq : ∀ v w', Φ v w' → Ψ v w') : Rets P f args w Ψ :=
  Calls.mono h fun _ _ ⟨v, he, hv⟩ => ⟨v, he, hq v _ hv⟩

/-! Statements. -/
theorem seq_cut {x y : Code} (K : Act → World → Prop) (h1 : x.wp P (Exit.then K Q) a w) (h2 : ∀ a w, K a w → y.wp P Q a w) : (Code.seq x y).wp P Q a w :=
  wp_seq (wp_mono h1 fun e a w h => by cases e <;> first | exact h2 _ _ h | exact h)
theorem cond_true {c : Operand} {x y : Code} (h : AgM ds a n L) (hc : ev L c = some (.bool true)) (k : x.wp P Q a w) : (Code.cond c x y).wp P Q a w := wp_cond (h.eval hc) k
theorem cond_false {c : Operand} {x y : Code} (h : AgM ds a n L) (hc : ev L c = some (.bool false)) (k : y.wp P Q a w) : (Code.cond c x y).wp P Q a w := wp_cond (h.eval hc) k
theorem cond_split {c : Operand} {x y : Code} {b : Bool} (h : AgM ds a n L) (hc : ev L c = some (.bool b)) (ht : b = true → x.wp P Q a w) (hf : b = false → y.wp P Q a w) : (Code.cond c x y).wp P Q a w :=
  wp_cond_split (h.eval hc) ht hf
theorem loop {c : Code} {ι : Type} (L : ι → List (Nat × Value)) (I : ι → World → Prop) (μ : ι → Nat) (i : ι) (h : AgM ds a n (L i)) (hI : I i w)
    (round : ∀ i w a, AgM ds a n (L i) → I i w → c.wp P (Exit.then (fun a' w' => ∃ j, AgM ds a' n (L j) ∧ I j w' ∧ μ j < μ i) Q) a w) : (Code.loop c).wp P Q a w := by
  have key : ∀ m i w a, μ i = m → AgM ds a n (L i) → I i w → ∀ (b : Frame) (k : List Item) (cs : List Frame),
      ∃ e a' w', Q e a' w' ∧ Arrives P (lone (b.at a (.code c :: .inLoop c :: k)) cs w) b k cs e a' w' := by
    intro m
    induction m using Nat.strongRecOn with
    | _ m ih =>
      intro i w a hm hA hI b k cs
      obtain ⟨e, a₁, w₁, hq, harr⟩ := round i w a hA hI b (.inLoop c :: k) cs
      cases e with
      | normal =>
        obtain ⟨j, hA₁, hI₁, hlt⟩ := hq
        obtain ⟨e₂, a₂, w₂, hq₂, harr₂⟩ := ih (μ j) (hm ▸ hlt) j w₁ a₁ rfl hA₁ hI₁ b k cs
        exact ⟨e₂, a₂, w₂, hq₂, .of_steps (Steps.trans harr (.one step_inLoop)) harr₂⟩
      | exit id => exact ⟨_, a₁, w₁, hq, .pass (x := .inLoop c) rfl (fun _ _ => .inl (by simp)) harr⟩
      | goto l => exact ⟨_, a₁, w₁, hq, .pass (x := .inLoop c) rfl (fun _ _ => .inl (by simp)) harr⟩
      | ret => exact ⟨_, a₁, w₁, hq, .pass (x := .inLoop c) rfl (fun _ _ => .inl (by simp)) harr⟩
      | panic ch => exact ⟨_, a₁, w₁, hq, .pass (x := .inLoop c) rfl (fun _ _ => .inl (by simp)) harr⟩
      | outgrown => exact ⟨_, a₁, w₁, hq, .pass (x := .inLoop c) rfl (fun _ _ => .inl (by simp)) harr⟩
  intro b k cs
  obtain ⟨e, a', w', hq, harr⟩ := key _ i w a rfl h hI b k cs
  exact ⟨e, a', w', hq, .of_steps (.one step_loop) harr⟩
theorem exit_here {id : Nat} (h : Q .normal a w) : Exit.inBlock id Q (.exit id) a w := by simp only [Exit.inBlock, if_true]; exact h
theorem exit_out {id id' : Nat} (hne : Nat.beq id' id = false) (h : Q (.exit id') a w) : Exit.inBlock id Q (.exit id') a w := by
  simp only [Exit.inBlock]; rw [if_neg (by rintro rfl; simp at hne)]; exact h
theorem ret0 {fn : Func} {R : Ending → World → Prop} (h : Ag a n L) (hr : fn.results = #[]) (k : R (.returned (.tuple #[])) w) : bodyPost P fn R .ret a w :=
  bodyPost_ret (results_none hr _ _ _) h.dfr k
theorem ret0n {fn : Func} {R : Ending → World → Prop} (h : Ag a n L) (hr : fn.results = #[]) (k : R (.returned (.tuple #[])) w) : bodyPost P fn R .normal a w :=
  bodyPost_end (results_none hr _ _ _) h.dfr k
theorem ret1 {fn : Func} {R : Ending → World → Prop} {t : Nat} {v : Value} (h : Ag a n L) (hr : fn.results = #[.tmp t]) (hv : look L t = some v) (k : R (.returned v) w) : bodyPost P fn R .ret a w :=
  bodyPost_ret (results_tmp hr _ _ _) h.dfr (by rw [h.at_ t v hv]; exact k)
theorem ret2 {fn : Func} {R : Ending → World → Prop} {t u : Nat} {v x : Value} (h : Ag a n L) (hr : fn.results = #[.tmp t, .tmp u]) (hv : look L t = some v) (hx : look L u = some x)
    (k : R (.returned (.tuple #[v, x])) w) : bodyPost P fn R .ret a w :=
  bodyPost_ret (results_tmp2 hr _ _ _) h.dfr (by rw [h.at_ t v hv, h.at_ u x hx]; exact k)
theorem ret3 {fn : Func} {R : Ending → World → Prop} {t u s : Nat} {v x y : Value} (h : Ag a n L) (hr : fn.results = #[.tmp t, .tmp u, .tmp s]) (hv : look L t = some v) (hx : look L u = some x)
    (hy : look L s = some y) (k : R (.returned (.tuple #[v, x, y])) w) : bodyPost P fn R .ret a w :=
  bodyPost_ret (v := .tuple #[v, x, y]) (by
    have h1 := h.at_ t v hv; have h2 := h.at_ u x hx; have h3 := h.at_ s y hy
    simp only [Array.getD_eq_getD_getElem?] at h1 h2 h3
    simp [results, hr, h1, h2, h3]) h.dfr k

/-- A walk from a frame of which the slots L are known: the frame's name does not matter. -/
def WL (P : Program) (ops : Array Oper) (Q : Exit → Act → World → Prop) (l : List Oper) (n : Nat) (ds : List Nat) (w : World) (L : List (Nat × Value)) : Prop := ∀ a, AgM ds a n L → wpList P ops Q l a w
def CW (P : Program) (Q : Exit → Act → World → Prop) (c : Code) (n : Nat) (ds : List Nat) (w : World) (L : List (Nat × Value)) : Prop := ∀ a, AgM ds a n L → c.wp P Q a w
def EW (Q : Exit → Act → World → Prop) (e : Exit) (n : Nat) (ds : List Nat) (w : World) (L : List (Nat × Value)) : Prop := ∀ a, AgM ds a n L → Q e a w
/-! Operations. -/
theorem st_ok {d : Nat} {v : Value} (h : AgM ds a n L) (hg : o.guard = none) (hd : o.dst = some d) (hn : Nat.blt d n = true) (hr : (execOp a.eval o).run P w = .ok (.value v) w')
    (k : ∀ a, AgM ds a n ((d, v) :: L) → wpList P ops Q rest a w') : wpList P ops Q (o :: rest) a w :=
  wpList_plain hg fun K hK => by
    unfold Oper.wp
    rw [hr]
    show K (a.put o.dst v) w'
    rw [hd]
    exact hK _ _ (k _ (h.put hn v))
theorem st_skip (h : AgM ds a n L) (hg : o.guard = none) (hd : o.dst = none) (hr : (execOp a.eval o).run P w = .ok .skip w')
    (k : ∀ a, AgM ds a n L → wpList P ops Q rest a w') : wpList P ops Q (o :: rest) a w :=
  wpList_plain hg fun K hK => by
    unfold Oper.wp
    rw [hr]
    show K (a.put o.dst undef) w'
    rw [hd]
    exact hK _ _ (k _ h)
theorem st_enter {d : Nat} {f : FuncId} {args : Array Value} {Φ : Value → World → Prop} (h : AgM ds a n L) (hg : o.guard = none) (hd : o.dst = some d) (hn : Nat.blt d n = true)
    (hr : (execOp a.eval o).run P w = .ok (.enter f args) w') (hc : Rets P f args w' Φ)
    (k : ∀ v w', Φ v w' → ∀ a, AgM ds a n ((d, v) :: L) → wpList P ops Q rest a w') : wpList P ops Q (o :: rest) a w :=
  wpList_plain hg fun K hK => by
    unfold Oper.wp
    rw [hr]
    refine Calls.mono hc ?_
    rintro e w'' ⟨v, rfl, hv⟩
    show K (a.put o.dst v) w''
    rw [hd]
    exact hK _ _ (k v w'' hv _ (h.put hn v))

/-- A guard: its test's slot. -/
theorem yielded_of (h : AgM ds a n L) {j d : Nat} {oj : Oper} {b : Bool} (hj : ops[j]? = some oj) (hd : oj.dst = some d) (hn : Nat.blt d n = true) (hb : look L d = some (.bool b)) : yielded ops a.tmps j = some b := by
  have h1 := h.at_ d _ hb
  have hd' : d < a.tmps.size := by rw [h.size]; simpa [Nat.blt_eq] using hn
  have h2 : a.tmps[d]? = some (.bool b) := by
    rw [Array.getElem?_eq_getElem hd']
    simpa [Array.getD, hd'] using h1
  simp [yielded, hj, hd, h2]
/-- The guard says no: the operation is passed over. -/
theorem gd_no {d j dj : Nat} {oj : Oper} {want b : Bool} (h : AgM ds a n L) (hg : o.guard = some (j, want)) (hj : ops[j]? = some oj) (hdj : oj.dst = some dj) (hnj : Nat.blt dj n = true)
    (hb : look L dj = some (.bool b)) (hne : (b == want) = false) (hd : o.dst = some d) (hn : Nat.blt d n = true)
    (k : ∀ a, AgM ds a n ((d, undef) :: L) → wpList P ops Q rest a w) : wpList P ops Q (o :: rest) a w := by
  have hy := yielded_of (ops := ops) h hj hdj hnj hb
  unfold wpList
  rw [if_neg (by simp only [Region.wanted, hg, hy]; simpa using hne), hd]
  exact k _ (h.put hn undef)
/-- The guard's test was passed over itself. -/
theorem gd_skip {d j dj : Nat} {oj : Oper} {want : Bool} (h : AgM ds a n L) (hg : o.guard = some (j, want)) (hj : ops[j]? = some oj) (hdj : oj.dst = some dj) (hnj : Nat.blt dj n = true)
    (hb : look L dj = some undef) (hd : o.dst = some d) (hn : Nat.blt d n = true)
    (k : ∀ a, AgM ds a n ((d, undef) :: L) → wpList P ops Q rest a w) : wpList P ops Q (o :: rest) a w := by
  have h1 := h.at_ dj _ hb
  have hd' : dj < a.tmps.size := by rw [h.size]; simpa [Nat.blt_eq] using hnj
  have h2 : a.tmps[dj]? = some undef := by
    rw [Array.getElem?_eq_getElem hd']
    simpa [Array.getD, hd'] using h1
  have hy : yielded ops a.tmps j = none := by simp [yielded, hj, hdj, h2, undef]
  unfold wpList
  rw [if_neg (by simp [Region.wanted, hg, hy]), hd]
  exact k _ (h.put hn undef)
/-- The guard says yes: as if there were none. -/
theorem gd_yes {j dj : Nat} {oj : Oper} {want b : Bool} (h : AgM ds a n L) (hg : o.guard = some (j, want)) (hj : ops[j]? = some oj) (hdj : oj.dst = some dj) (hnj : Nat.blt dj n = true)
    (hb : look L dj = some (.bool b)) (he : (b == want) = true)
    (k : wpList P ops Q ({ o with guard := none } :: rest) a w) : wpList P ops Q (o :: rest) a w := by
  have hy := yielded_of (ops := ops) h hj hdj hnj hb
  unfold wpList at k ⊢
  rw [if_pos (by simp [Region.wanted])] at k
  rw [if_pos (by simp only [Region.wanted, hg, hy]; simpa using he)]
  exact k

variable {d : Nat} {ty : TypeId} {pos : String} {after : Array Edge} {v : Value} {x y : Operand} {t t' : TypeId} {k k' : IntKind} {i j : Int} {b c : Bool} {s s' : ByteArray}
theorem st_move (h : AgM ds a n L) (hx : ev L x = some v) (hn : Nat.blt d n = true) (q : ∀ a, AgM ds a n ((d, v) :: L) → wpList P ops Q rest a w) :
    wpList P ops Q (⟨some d, .move x, ty, pos, after, none⟩ :: rest) a w :=
  st_ok h rfl rfl hn (by simp [execOp, h.eval hx]) q
theorem mv (hx : ev L x = some v) (hn : Nat.blt d n = true) (q : WL P ops Q rest n ds w ((d, v) :: L)) : WL P ops Q (⟨some d, .move x, ty, pos, after, none⟩ :: rest) n ds w L := fun a h => st_move h hx hn q -- short
theorem st_assign (h : AgM ds a n L) (hx : ev L x = some v) (hn : Nat.blt d n = true) (q : ∀ a, AgM ds a n ((d, v) :: L) → wpList P ops Q rest a w) :
    wpList P ops Q (⟨some d, .assign x, ty, pos, after, none⟩ :: rest) a w :=
  st_ok h rfl rfl hn (by simp [execOp, h.eval hx]) q
theorem asg (hx : ev L x = some v) (hn : Nat.blt d n = true) (q : WL P ops Q rest n ds w ((d, v) :: L)) : WL P ops Q (⟨some d, .assign x, ty, pos, after, none⟩ :: rest) n ds w L := fun a h => st_assign h hx hn q -- short
theorem st_pick_t {z : Value} {x1 x2 : Operand} (h : AgM ds a n L) (hx : ev L x = some (.bool b)) (hb : b = true) (hv : ev L x1 = some z) (hn : Nat.blt d n = true) (q : ∀ a, AgM ds a n ((d, z) :: L) → wpList P ops Q rest a w) :
    wpList P ops Q (⟨some d, .pick x x1 x2, ty, pos, after, none⟩ :: rest) a w :=
  st_ok h rfl rfl hn (by subst hb; simp [execOp, h.eval hx, asBool, h.eval hv]) q
theorem pkt {z : Value} {x1 x2 : Operand} (hx : ev L x = some (.bool b)) (hb : b = true) (hv : ev L x1 = some z) (hn : Nat.blt d n = true) (q : WL P ops Q rest n ds w ((d, z) :: L)) : WL P ops Q (⟨some d, .pick x x1 x2, ty, pos, after, none⟩ :: rest) n ds w L := fun a h => st_pick_t h hx hb hv hn q -- short
theorem st_pick_f {z : Value} {x1 x2 : Operand} (h : AgM ds a n L) (hx : ev L x = some (.bool b)) (hb : b = false) (hv : ev L x2 = some z) (hn : Nat.blt d n = true) (q : ∀ a, AgM ds a n ((d, z) :: L) → wpList P ops Q rest a w) :
    wpList P ops Q (⟨some d, .pick x x1 x2, ty, pos, after, none⟩ :: rest) a w :=
  st_ok h rfl rfl hn (by subst hb; simp [execOp, h.eval hx, asBool, h.eval hv]) q

theorem pkf {z : Value} {x1 x2 : Operand} (hx : ev L x = some (.bool b)) (hb : b = false) (hv : ev L x2 = some z) (hn : Nat.blt d n = true) (q : WL P ops Q rest n ds w ((d, z) :: L)) : WL P ops Q (⟨some d, .pick x x1 x2, ty, pos, after, none⟩ :: rest) n ds w L := fun a h => st_pick_f h hx hb hv hn q -- short
theorem beq_dec (i j : Int) : (i == j) = decide (i = j) := rfl
theorem exec_builtin (ρ : Operand → Value) (dst : Option Tmp) (b : Builtin) (xs : Array Operand) (ats : Array TypeId) (ty : TypeId) (pos : String) (after : Array Edge) (guard : Option (Nat × Bool)) :
    execOp ρ { dst, op := .call { callee := .builtin b, args := xs, argTypes := ats }, type := ty, pos, after, guard } = builtin b ats ty (xs.map fun | .const _ => true | _ => false) (xs.map ρ) := rfl
/-! Integers. -/
theorem st_add {z : Int} (h : AgM ds a n L) (hx : ev L x = some (.int k i)) (hy : ev L y = some (.int k j)) (hz : k.wrap (i + j) = z) (hn : Nat.blt d n = true) (q : ∀ a, AgM ds a n ((d, .int k z) :: L) → wpList P ops Q rest a w) :
    wpList P ops Q (⟨some d, .binOp .add t x y t', ty, pos, after, none⟩ :: rest) a w :=
  st_ok h rfl rfl hn (by subst hz; simp [execOp, h.eval hx, h.eval hy, eqGuard_add, binOp_add, Op.intArith]) q
theorem s_add {z : Int} (hx : ev L x = some (.int k i)) (hy : ev L y = some (.int k j)) (hz : k.wrap (i + j) = z) (hn : Nat.blt d n = true) (q : WL P ops Q rest n ds w ((d, .int k z) :: L)) : WL P ops Q (⟨some d, .binOp .add t x y t', ty, pos, after, none⟩ :: rest) n ds w L := fun a h => st_add h hx hy hz hn q -- short
theorem st_sub {z : Int} (h : AgM ds a n L) (hx : ev L x = some (.int k i)) (hy : ev L y = some (.int k j)) (hz : k.wrap (i - j) = z) (hn : Nat.blt d n = true) (q : ∀ a, AgM ds a n ((d, .int k z) :: L) → wpList P ops Q rest a w) :
    wpList P ops Q (⟨some d, .binOp .sub t x y t', ty, pos, after, none⟩ :: rest) a w :=
  st_ok h rfl rfl hn (by subst hz; simp [execOp, h.eval hx, h.eval hy, eqGuard_sub, binOp_sub, Op.intArith]) q
theorem s_sub {z : Int} (hx : ev L x = some (.int k i)) (hy : ev L y = some (.int k j)) (hz : k.wrap (i - j) = z) (hn : Nat.blt d n = true) (q : WL P ops Q rest n ds w ((d, .int k z) :: L)) : WL P ops Q (⟨some d, .binOp .sub t x y t', ty, pos, after, none⟩ :: rest) n ds w L := fun a h => st_sub h hx hy hz hn q -- short
theorem st_mul {z : Int} (h : AgM ds a n L) (hx : ev L x = some (.int k i)) (hy : ev L y = some (.int k j)) (hz : k.wrap (i * j) = z) (hn : Nat.blt d n = true) (q : ∀ a, AgM ds a n ((d, .int k z) :: L) → wpList P ops Q rest a w) :
    wpList P ops Q (⟨some d, .binOp .mul t x y t', ty, pos, after, none⟩ :: rest) a w :=
  st_ok h rfl rfl hn (by subst hz; simp [execOp, h.eval hx, h.eval hy, eqGuard_mul, binOp_mul, Op.intArith]) q
theorem s_mul {z : Int} (hx : ev L x = some (.int k i)) (hy : ev L y = some (.int k j)) (hz : k.wrap (i * j) = z) (hn : Nat.blt d n = true) (q : WL P ops Q rest n ds w ((d, .int k z) :: L)) : WL P ops Q (⟨some d, .binOp .mul t x y t', ty, pos, after, none⟩ :: rest) n ds w L := fun a h => st_mul h hx hy hz hn q -- short
theorem st_quo {z : Int} (h : AgM ds a n L) (hx : ev L x = some (.int k i)) (hy : ev L y = some (.int k j)) (h0 : j ≠ 0) (hz : k.wrap (i.tdiv j) = z) (hn : Nat.blt d n = true) (q : ∀ a, AgM ds a n ((d, .int k z) :: L) → wpList P ops Q rest a w) :
    wpList P ops Q (⟨some d, .binOp .quo t x y t', ty, pos, after, none⟩ :: rest) a w :=
  st_ok h rfl rfl hn (by subst hz; simp [execOp, h.eval hx, h.eval hy, eqGuard_quo, binOp_quo, Op.intDiv, h0]) q
theorem s_quo {z : Int} (hx : ev L x = some (.int k i)) (hy : ev L y = some (.int k j)) (h0 : j ≠ 0) (hz : k.wrap (i.tdiv j) = z) (hn : Nat.blt d n = true) (q : WL P ops Q rest n ds w ((d, .int k z) :: L)) : WL P ops Q (⟨some d, .binOp .quo t x y t', ty, pos, after, none⟩ :: rest) n ds w L := fun a h => st_quo h hx hy h0 hz hn q -- short
theorem st_rem {z : Int} (h : AgM ds a n L) (hx : ev L x = some (.int k i)) (hy : ev L y = some (.int k j)) (h0 : j ≠ 0) (hz : i.tmod j = z) (hn : Nat.blt d n = true) (q : ∀ a, AgM ds a n ((d, .int k z) :: L) → wpList P ops Q rest a w) :
    wpList P ops Q (⟨some d, .binOp .rem t x y t', ty, pos, after, none⟩ :: rest) a w :=
  st_ok h rfl rfl hn (by subst hz; simp [execOp, h.eval hx, h.eval hy, eqGuard_rem, binOp_rem, Op.intDiv, h0]) q
theorem s_rem {z : Int} (hx : ev L x = some (.int k i)) (hy : ev L y = some (.int k j)) (h0 : j ≠ 0) (hz : i.tmod j = z) (hn : Nat.blt d n = true) (q : WL P ops Q rest n ds w ((d, .int k z) :: L)) : WL P ops Q (⟨some d, .binOp .rem t x y t', ty, pos, after, none⟩ :: rest) n ds w L := fun a h => st_rem h hx hy h0 hz hn q -- short
theorem st_eq (h : AgM ds a n L) (hx : ev L x = some (.int k i)) (hy : ev L y = some (.int k j)) (hn : Nat.blt d n = true) (q : ∀ a, AgM ds a n ((d, .bool (decide (i = j))) :: L) → wpList P ops Q rest a w) :
    wpList P ops Q (⟨some d, .binOp .eql t x y t', ty, pos, after, none⟩ :: rest) a w :=
  st_ok h rfl rfl hn (by simp [execOp, h.eval hx, h.eval hy, eqGuard_at_int, binOp_eql, beq_dec]) q
theorem eq' (hx : ev L x = some (.int k i)) (hy : ev L y = some (.int k j)) (hn : Nat.blt d n = true) (q : WL P ops Q rest n ds w ((d, .bool (decide (i = j))) :: L)) : WL P ops Q (⟨some d, .binOp .eql t x y t', ty, pos, after, none⟩ :: rest) n ds w L := fun a h => st_eq h hx hy hn q -- short
theorem st_ne (h : AgM ds a n L) (hx : ev L x = some (.int k i)) (hy : ev L y = some (.int k j)) (hn : Nat.blt d n = true) (q : ∀ a, AgM ds a n ((d, .bool (decide (i ≠ j))) :: L) → wpList P ops Q rest a w) :
    wpList P ops Q (⟨some d, .binOp .neq t x y t', ty, pos, after, none⟩ :: rest) a w :=
  st_ok h rfl rfl hn (by simp [execOp, h.eval hx, h.eval hy, eqGuard_at_int, binOp_neq, bne, beq_dec]) q
theorem ne' (hx : ev L x = some (.int k i)) (hy : ev L y = some (.int k j)) (hn : Nat.blt d n = true) (q : WL P ops Q rest n ds w ((d, .bool (decide (i ≠ j))) :: L)) : WL P ops Q (⟨some d, .binOp .neq t x y t', ty, pos, after, none⟩ :: rest) n ds w L := fun a h => st_ne h hx hy hn q -- short
theorem st_lt (h : AgM ds a n L) (hx : ev L x = some (.int k i)) (hy : ev L y = some (.int k j)) (hn : Nat.blt d n = true) (q : ∀ a, AgM ds a n ((d, .bool (decide (i < j))) :: L) → wpList P ops Q rest a w) :
    wpList P ops Q (⟨some d, .binOp .lss t x y t', ty, pos, after, none⟩ :: rest) a w :=
  st_ok h rfl rfl hn (by simp [execOp, h.eval hx, h.eval hy, eqGuard_lss, binOp_lss]) q
theorem lt' (hx : ev L x = some (.int k i)) (hy : ev L y = some (.int k j)) (hn : Nat.blt d n = true) (q : WL P ops Q rest n ds w ((d, .bool (decide (i < j))) :: L)) : WL P ops Q (⟨some d, .binOp .lss t x y t', ty, pos, after, none⟩ :: rest) n ds w L := fun a h => st_lt h hx hy hn q -- short
theorem st_le (h : AgM ds a n L) (hx : ev L x = some (.int k i)) (hy : ev L y = some (.int k j)) (hn : Nat.blt d n = true) (q : ∀ a, AgM ds a n ((d, .bool (decide (i ≤ j))) :: L) → wpList P ops Q rest a w) :
    wpList P ops Q (⟨some d, .binOp .leq t x y t', ty, pos, after, none⟩ :: rest) a w :=
  st_ok h rfl rfl hn (by simp [execOp, h.eval hx, h.eval hy, eqGuard_leq, binOp_leq]) q
theorem le' (hx : ev L x = some (.int k i)) (hy : ev L y = some (.int k j)) (hn : Nat.blt d n = true) (q : WL P ops Q rest n ds w ((d, .bool (decide (i ≤ j))) :: L)) : WL P ops Q (⟨some d, .binOp .leq t x y t', ty, pos, after, none⟩ :: rest) n ds w L := fun a h => st_le h hx hy hn q -- short
theorem st_gt (h : AgM ds a n L) (hx : ev L x = some (.int k i)) (hy : ev L y = some (.int k j)) (hn : Nat.blt d n = true) (q : ∀ a, AgM ds a n ((d, .bool (decide (j < i))) :: L) → wpList P ops Q rest a w) :
    wpList P ops Q (⟨some d, .binOp .gtr t x y t', ty, pos, after, none⟩ :: rest) a w :=
  st_ok h rfl rfl hn (by simp [execOp, h.eval hx, h.eval hy, eqGuard_gtr, binOp_gtr]) q
theorem gt' (hx : ev L x = some (.int k i)) (hy : ev L y = some (.int k j)) (hn : Nat.blt d n = true) (q : WL P ops Q rest n ds w ((d, .bool (decide (j < i))) :: L)) : WL P ops Q (⟨some d, .binOp .gtr t x y t', ty, pos, after, none⟩ :: rest) n ds w L := fun a h => st_gt h hx hy hn q -- short
theorem st_ge (h : AgM ds a n L) (hx : ev L x = some (.int k i)) (hy : ev L y = some (.int k j)) (hn : Nat.blt d n = true) (q : ∀ a, AgM ds a n ((d, .bool (decide (j ≤ i))) :: L) → wpList P ops Q rest a w) :
    wpList P ops Q (⟨some d, .binOp .geq t x y t', ty, pos, after, none⟩ :: rest) a w :=
  st_ok h rfl rfl hn (by simp [execOp, h.eval hx, h.eval hy, eqGuard_geq, binOp_geq]) q
theorem st_not (h : AgM ds a n L) (hx : ev L x = some (.bool b)) (hn : Nat.blt d n = true) (q : ∀ a, AgM ds a n ((d, .bool (!b)) :: L) → wpList P ops Q rest a w) :
    wpList P ops Q (⟨some d, .unOp .not t x, ty, pos, after, none⟩ :: rest) a w :=
  st_ok h rfl rfl hn (by simp [execOp, h.eval hx, unary_not]) q
theorem nt' (hx : ev L x = some (.bool b)) (hn : Nat.blt d n = true) (q : WL P ops Q rest n ds w ((d, .bool (!b)) :: L)) : WL P ops Q (⟨some d, .unOp .not t x, ty, pos, after, none⟩ :: rest) n ds w L := fun a h => st_not h hx hn q -- short
theorem st_conv {z : Int} (h : AgM ds a n L) (hx : ev L x = some (.int k i)) (hs : (P.underlying t).isSome = true) (hd : P.underlying t' = some (.int k')) (hz : k'.wrap i = z) (hn : Nat.blt d n = true) (q : ∀ a, AgM ds a n ((d, .int k' z) :: L) → wpList P ops Q rest a w) :
    wpList P ops Q (⟨some d, .convert t t' x, ty, pos, after, none⟩ :: rest) a w :=
  st_ok h rfl rfl hn (by
    obtain ⟨u, hu⟩ := Option.isSome_iff_exists.mp hs
    subst hz; simp [execOp, h.eval hx, convert, run_underlying hu, run_underlying hd, Conv.intToInt]) q
theorem s_conv {z : Int} (hx : ev L x = some (.int k i)) (hs : (P.underlying t).isSome = true) (hd : P.underlying t' = some (.int k')) (hz : k'.wrap i = z) (hn : Nat.blt d n = true) (q : WL P ops Q rest n ds w ((d, .int k' z) :: L)) : WL P ops Q (⟨some d, .convert t t' x, ty, pos, after, none⟩ :: rest) n ds w L := fun a h => st_conv h hx hs hd hz hn q -- short
theorem st_min {ts : Array TypeId} (h : AgM ds a n L) (hx : ev L x = some (.int k i)) (hy : ev L y = some (.int k' j)) (hn : Nat.blt d n = true) (q : ∀ a, AgM ds a n ((d, .int k (min i j)) :: L) → wpList P ops Q rest a w) :
    wpList P ops Q (⟨some d, .call ⟨.builtin .min, #[x, y], ts⟩, ty, pos, after, none⟩ :: rest) a w :=
  st_ok h rfl rfl hn (by
    rw [exec_builtin]; unfold builtin
    simp only [List.map_toArray, List.map_cons, List.map_nil, h.eval hx, h.eval hy, Sem.run_bind, run_min_int2, Result.andThen_ok, Sem.run_pure]
    congr 3; omega) q
theorem s_min {ts : Array TypeId} (hx : ev L x = some (.int k i)) (hy : ev L y = some (.int k' j)) (hn : Nat.blt d n = true) (q : WL P ops Q rest n ds w ((d, .int k (min i j)) :: L)) : WL P ops Q (⟨some d, .call ⟨.builtin .min, #[x, y], ts⟩, ty, pos, after, none⟩ :: rest) n ds w L := fun a h => st_min h hx hy hn q -- short
def S (l : List UInt8) : Value := .string ⟨l.toArray⟩
variable {l l' : List UInt8}
theorem st_len (h : AgM ds a n L) (hx : ev L x = some (S l)) (hu : P.underlying t = some .string) (hn : Nat.blt d n = true) (q : ∀ a, AgM ds a n ((d, .int .i64 (l.length : Int)) :: L) → wpList P ops Q rest a w) :
    wpList P ops Q (⟨some d, .call ⟨.builtin .len, #[x], #[t]⟩, ty, pos, after, none⟩ :: rest) a w :=
  st_ok h rfl rfl hn (by
    rw [exec_builtin]; unfold builtin
    simp only [List.map_toArray, List.map_cons, List.map_nil, h.eval hx, S, Sem.run_bind, run_len_string w t _ _ hu, Result.andThen_ok, Sem.run_pure]
    rfl) q
theorem ln (hx : ev L x = some (S l)) (hu : P.underlying t = some .string) (hn : Nat.blt d n = true) (q : WL P ops Q rest n ds w ((d, .int .i64 (l.length : Int)) :: L)) : WL P ops Q (⟨some d, .call ⟨.builtin .len, #[x], #[t]⟩, ty, pos, after, none⟩ :: rest) n ds w L := fun a h => st_len h hx hu hn q -- short
end
end Go.Lw
namespace Go.Lw
open Go.RowKit

/-- Behind it all blocks but those of S are as they were. -/
structure Fr (S : List Nat) (w w' : World) : Prop where
  os : w'.os = w.os
  tape : w'.tape = w.tape
  output : w'.output = w.output
  size : w.heap.size ≤ w'.heap.size
  block : ∀ k, k < w.heap.size → k ∉ S → w'.heap[k]? = w.heap[k]?

theorem Fr.refl (S : List Nat) (w : World) : Fr S w w := ⟨rfl, rfl, rfl, Nat.le_refl _, fun _ _ _ => rfl⟩
theorem Fr.trans {S S' : List Nat} {a b c : World} (h : Fr S a b) (h' : Fr S' b c) : Fr (S ++ S') a c :=
  ⟨h'.os.trans h.os, h'.tape.trans h.tape, h'.output.trans h.output, Nat.le_trans h.size h'.size, fun k hk hS =>
    (h'.block k (Nat.lt_of_lt_of_le hk h.size) (fun e => hS (List.mem_append.2 (.inr e)))).trans (h.block k hk (fun e => hS (List.mem_append.2 (.inl e))))⟩
theorem Fr.weak {S S' : List Nat} {a b : World} (h : Fr S a b) (hS : ∀ k ∈ S, k < a.heap.size → k ∈ S') : Fr S' a b :=
  ⟨h.os, h.tape, h.output, h.size, fun k hk hn => h.block k hk (fun e => hn (hS k e hk))⟩
theorem Fr.step {S S' : List Nat} {a b c : World} (h : Fr S a b) (h' : Fr S' b c) (hS : ∀ k ∈ S', k < a.heap.size → k ∈ S) : Fr S a c :=
  (h.trans h').weak fun k hk hlt => (List.mem_append.1 hk).elim id fun e => hS k e hlt
theorem Fr.next {S : List Nat} {a b c : World} (h : Fr S a b) (h' : Fr [] b c) : Fr S a c := h.step h' (by simp)
theorem Fr.below {a b : World} (h : Fr [] a b) : Below a.heap.size a b := ⟨h.os, h.tape, h.output, h.size, fun k hk => h.block k hk (by simp)⟩
theorem Fr.of_below {a b : World} (h : Below a.heap.size a b) : Fr [] a b := ⟨h.os, h.tape, h.output, h.size, fun k hk _ => h.block k hk⟩
theorem Fr.alloc (S : List Nat) (w : World) (o : Obj) : Fr S w (w.alloc o) := ⟨rfl, rfl, rfl, by simp, fun k hk _ => Below.heap_alloc w o k hk⟩
theorem Fr.drew (S : List Nat) (w : World) : Fr S w w.drew := ⟨rfl, rfl, rfl, Nat.le_refl _, fun _ _ _ => rfl⟩
theorem Fr.setCell (w : World) (p : Addr) (u : Value) : Fr [p.block] w (w.setCell p u) :=
  ⟨rfl, rfl, rfl, by simp, fun k _ hn => heap_setCell_other w p k u (by simpa using hn)⟩
theorem Fr.setRow (w : World) (g : Nat) (cs : Array Value) : Fr [g] w (w.setRow g cs) :=
  ⟨rfl, rfl, rfl, by simp, fun k _ hn => setRow_other w g k _ (by simpa using hn)⟩
theorem Fr.cell {S : List Nat} {w w' : World} (h : Fr S w w') {p : Addr} {u : Value} (hc : w.cell? p = some u) (hn : p.block ∉ S) : w'.cell? p = some u :=
  (World.cell?_of_block (w := w) (h.block p.block (block_lt_of_cell hc) hn)).trans hc

/-- The cells from an address on. -/
def Cells (w : World) (ad : Addr) (cs : List Value) : Prop := ∀ j u, cs[j]? = some u → w.cell? (ad.add j) = some u
theorem block_add (a : Addr) (n : Nat) : (a.add n).block = a.block := by unfold Addr.add; split <;> rfl
theorem add_add (a : Addr) (i j : Nat) : (a.add i).add j = a.add (i + j) := by
  unfold Addr.add
  by_cases hi : i = 0 <;> by_cases hj : j = 0 <;> simp [hi, hj, Nat.add_assoc]
theorem Cells.fr {S : List Nat} {w w' : World} {ad : Addr} {cs : List Value} (h : Cells w ad cs) (hf : Fr S w w') (hn : ad.block ∉ S) : Cells w' ad cs :=
  fun j u hu => hf.cell (h j u hu) (by rw [block_add]; exact hn)

/-- How an element lies in cells. -/
structure Enc (α : Type) where
  enc : α → List Value
  sz : Nat
  len : ∀ y, (enc y).length = sz
  one : ∀ y, ∀ u ∈ enc y, u.oneCell' = true
  pos : 0 < sz

def Enc.i64 : Enc Int := ⟨fun n => [.int .i64 n], 1, fun _ => rfl, fun _ u h => by simp at h; subst h; rfl, by decide⟩
def Enc.u8 : Enc Int := ⟨fun n => [.int .u8 n], 1, fun _ => rfl, fun _ u h => by simp at h; subst h; rfl, by decide⟩
def Enc.str : Enc (List UInt8) := ⟨fun l => [S l], 1, fun _ => rfl, fun _ u h => by simp at h; subst h; rfl, by decide⟩
def Enc.sl : Enc (Option Addr × Nat × Nat) := ⟨fun p => [.slice p.1 p.2.1 p.2.2], 1, fun _ => rfl, fun _ u h => by simp at h; subst h; rfl, by decide⟩

theorem Enc.flat_len {α : Type} (E : Enc α) (ys : List α) : (ys.flatMap E.enc).length = ys.length * E.sz := by
  induction ys with
  | nil => simp
  | cons y ys ih => simp [E.len, ih, Nat.add_mul, Nat.add_comm]
theorem Enc.flat_one {α : Type} (E : Enc α) (ys : List α) : ∀ u ∈ ys.flatMap E.enc, u.oneCell' = true := by
  intro u hu
  obtain ⟨y, _, h⟩ := List.mem_flatMap.1 hu
  exact E.one y u h
theorem Enc.flat_get {α : Type} (E : Enc α) : ∀ (ys : List α) (i : Nat) (y : α), ys[i]? = some y → ∀ j, j < E.sz → (ys.flatMap E.enc)[i * E.sz + j]? = (E.enc y)[j]?
  | [], i, y, h, _, _ => by simp at h
  | z :: ys, 0, y, h, j, hj => by
    simp at h; subst h
    rw [List.flatMap_cons, Nat.zero_mul, Nat.zero_add, List.getElem?_append_left (by rw [E.len]; exact hj)]
  | z :: ys, i + 1, y, h, j, hj => by
    simp at h
    rw [List.flatMap_cons, List.getElem?_append_right (by rw [E.len, Nat.add_mul]; omega), E.len]
    rw [show (i + 1) * E.sz + j - E.sz = i * E.sz + j by rw [Nat.add_mul]; omega]
    exact Enc.flat_get E ys i y h j hj
theorem Enc.flat_split {α : Type} (E : Enc α) (ys : List α) (m : Nat) (u : Value) (h : (ys.flatMap E.enc)[m]? = some u) :
    ∃ i j y, m = i * E.sz + j ∧ j < E.sz ∧ ys[i]? = some y ∧ (E.enc y)[j]? = some u := by
  have hm : m < ys.length * E.sz := by rw [← E.flat_len]; exact (List.getElem?_eq_some_iff.1 h).1
  have hi : m / E.sz < ys.length := Nat.div_lt_of_lt_mul (by rw [Nat.mul_comm]; exact hm)
  have hj : m % E.sz < E.sz := Nat.mod_lt _ E.pos
  have e : m = m / E.sz * E.sz + m % E.sz := by rw [Nat.mul_comm]; exact (Nat.div_add_mod m E.sz).symm
  refine ⟨m / E.sz, m % E.sz, ys[m / E.sz], e, hj, List.getElem?_eq_getElem hi, ?_⟩
  have := E.flat_get ys (m / E.sz) ys[m / E.sz] (List.getElem?_eq_getElem hi) (m % E.sz) hj
  rw [← this, ← e]; exact h

/-- A slice reads as a list. -/
def Sl {α : Type} (E : Enc α) (w : World) (v : Value) (ys : List α) : Prop :=
  ∃ A c, v = .slice A ys.length c ∧ ys.length ≤ c ∧ c ≤ maxLen ∧ ∀ i y, ys[i]? = some y → ∃ ad, A = some ad ∧ Cells w (ad.add (i * E.sz)) (E.enc y)

/-- A slice of the call's own, from block base on: nil, or at the head of a block that nothing else is written through. -/
def Own {α : Type} (E : Enc α) (T : TypeId) (base : Nat) (w : World) (v : Value) (ys : List α) : Prop :=
  (v = .slice none 0 0 ∧ ys = []) ∨
  ∃ g cap cur, v = .slice (some ⟨g, 0, none⟩) ys.length cap ∧ base ≤ g ∧ w.heap[g]? = some (.cells cur T (0, 0)) ∧ ys.length ≤ cap ∧ cap ≤ maxLen ∧ cap * E.sz ≤ cur.size ∧
    cur.toList.take (ys.length * E.sz) = ys.flatMap E.enc

/-- The blocks of a slice. -/
def blks : Value → List Nat
  | .slice (some a) _ _ => [a.block]
  | _ => []

section
variable {α : Type} {E : Enc α} {T : TypeId} {base : Nat} {w w' : World} {v : Value} {ys zs : List α} {S : List Nat}

theorem lit_add (g o j : Nat) : (⟨g, o, none⟩ : Addr).add j = ⟨g, o + j, none⟩ := by unfold Addr.add; split <;> simp_all

theorem Sl.fr (h : Sl E w v ys) (hf : Fr S w w') (hn : ∀ k ∈ S, k ∉ blks v) : Sl E w' v ys := by
  obtain ⟨A, c, rfl, h1, h2, h3⟩ := h
  refine ⟨A, c, rfl, h1, h2, fun i y hy => ?_⟩
  obtain ⟨ad, rfl, hc⟩ := h3 i y hy
  exact ⟨ad, rfl, hc.fr hf (by rw [block_add]; exact fun e => hn _ e (by simp [blks]))⟩
theorem Sl.ext (h : Sl E w v ys) (hf : Fr [] w w') : Sl E w' v ys := h.fr hf (by simp)
theorem Sl.nil (w : World) : Sl E w (.slice none 0 0) [] := ⟨none, 0, rfl, Nat.le_refl _, Nat.zero_le _, fun i y h => by simp at h⟩
theorem Own.sl (h : Own E T base w v ys) : Sl E w v ys := by
  rcases h with ⟨rfl, rfl⟩ | ⟨g, cap, cur, rfl, _, hg, hc, hm, hs, ht⟩
  · exact Sl.nil w
  · refine ⟨_, cap, rfl, hc, hm, fun i y hy => ⟨_, rfl, fun j u hu => ?_⟩⟩
    have hj : j < E.sz := by rw [← E.len y]; exact (List.getElem?_eq_some_iff.1 hu).1
    have hi : i < ys.length := (List.getElem?_eq_some_iff.1 hy).1
    have h1 := E.flat_get ys i y hy j hj
    rw [← ht] at h1
    have hlt : i * E.sz + j < ys.length * E.sz := by
      have : (i + 1) * E.sz ≤ ys.length * E.sz := Nat.mul_le_mul_right _ hi
      rw [Nat.add_mul] at this; omega
    rw [List.getElem?_take, if_pos hlt] at h1
    rw [add_add, lit_add, Nat.zero_add, cell_of_row w g _ cur T (0, 0) hg, ← Array.getElem?_toList, h1]
    exact hu
theorem Own.fr (h : Own E T base w v ys) (hf : Fr S w w') (hn : ∀ k ∈ S, k ∉ blks v) : Own E T base w' v ys := by
  rcases h with ⟨rfl, rfl⟩ | ⟨g, cap, cur, rfl, hb, hg, r⟩
  · exact .inl ⟨rfl, rfl⟩
  · refine .inr ⟨g, cap, cur, rfl, hb, ?_, r⟩
    rw [hf.block g (Array.getElem?_eq_some_iff.1 hg).1 (fun e => hn _ e (by simp [blks]))]
    exact hg
theorem Own.ext (h : Own E T base w v ys) (hf : Fr [] w w') : Own E T base w' v ys := h.fr hf (by simp)
theorem Own.nil (w : World) : Own E T base w (.slice none 0 0) [] := .inl ⟨rfl, rfl⟩
theorem Own.low {b' : Nat} (h : Own E T base w v ys) (hb : b' ≤ base) : Own E T b' w v ys := by
  rcases h with h | ⟨g, cap, cur, h1, h2, r⟩
  · exact .inl h
  · exact .inr ⟨g, cap, cur, h1, Nat.le_trans hb h2, r⟩
theorem Own.blk (h : Own E T base w v ys) : ∀ k ∈ blks v, base ≤ k ∧ k < w.heap.size := by
  rcases h with ⟨rfl, rfl⟩ | ⟨g, cap, cur, rfl, hb, hg, r⟩
  · intro k hk; cases hk
  · intro k hk
    simp [blks] at hk; subst hk
    exact ⟨hb, (Array.getElem?_eq_some_iff.1 hg).1⟩
theorem Sl.blk (h : Sl E w v ys) (hp : ys ≠ []) : ∀ k ∈ blks v, k < w.heap.size := by
  obtain ⟨A, c, rfl, h1, h2, h3⟩ := h
  match ys, hp with
  | y :: r, _ =>
    obtain ⟨ad, rfl, hc⟩ := h3 0 y rfl
    intro k hk
    simp [blks] at hk; subst hk
    have hl := E.len y
    have hp := E.pos
    match he : E.enc y with
    | [] => rw [he] at hl; simp at hl; omega
    | u :: _ =>
      have := hc 0 u (by rw [he]; rfl)
      have := block_lt_of_cell this
      rwa [block_add, block_add] at this
theorem Sl.form (h : Sl E w v ys) : ∃ A c, v = .slice A ys.length c ∧ ys.length ≤ c := let ⟨A, c, h1, h2, _⟩ := h; ⟨A, c, h1, h2⟩
theorem Sl.len_le (h : Sl E w v ys) : ys.length ≤ maxLen := let ⟨_, _, _, h2, h3, _⟩ := h; Nat.le_trans h2 h3
/-- The cells of all elements. -/
theorem Sl.flat (h : Sl E w v ys) : ∃ A c, v = .slice A ys.length c ∧ ys.length ≤ c ∧ c ≤ maxLen ∧ (ys ≠ [] → ∃ ad, A = some ad ∧ Cells w ad (ys.flatMap E.enc)) := by
  obtain ⟨A, c, rfl, h1, h2, h3⟩ := h
  refine ⟨A, c, rfl, h1, h2, fun hp => ?_⟩
  match ys, hp with
  | y :: r, _ =>
    obtain ⟨ad, rfl, _⟩ := h3 0 y rfl
    refine ⟨ad, rfl, fun m u hu => ?_⟩
    obtain ⟨i, j, z, rfl, hj, hz, hu'⟩ := E.flat_split _ m u hu
    obtain ⟨ad', e, hc⟩ := h3 i z hz
    cases e
    have := hc j u hu'
    rwa [add_add] at this
/-- The beginning of a slice. -/
theorem Sl.take (h : Sl E w v ys) {A : Option Addr} {n c : Nat} (hv : v = .slice A n c) {m : Nat} (hm : m ≤ ys.length) {B : Option Addr} {c' : Nat} (hc' : m ≤ c') (hM : c' ≤ maxLen) (hB : 0 < m → B = A) : Sl E w (.slice B m c') (ys.take m) := by
  obtain ⟨A', c1, h0, h1, h2, h3⟩ := h
  rw [hv] at h0; cases h0
  have hl : (ys.take m).length = m := by simp; omega
  refine ⟨B, c', by rw [hl], by rw [hl]; exact hc', hM, fun i y hy => ?_⟩
  rw [List.getElem?_take] at hy
  split at hy
  · rename_i hi
    rw [hB (by omega)]
    exact h3 i y hy
  · cases hy
/-- A slice from an index on. -/
theorem Sl.drop (h : Sl E w v ys) {A : Option Addr} {n c : Nat} (hv : v = .slice A n c) {m : Nat} (hm : m ≤ ys.length) {B : Option Addr} {c' : Nat} (hc' : ys.length - m ≤ c') (hM : c' ≤ maxLen) (hB : m < ys.length → B = A.map (·.add (m * E.sz))) :
    Sl E w (.slice B (ys.length - m) c') (ys.drop m) := by
  obtain ⟨A', c1, h0, h1, h2, h3⟩ := h
  rw [hv] at h0; cases h0
  refine ⟨B, c', by rw [List.length_drop], by rw [List.length_drop]; exact hc', hM, fun i y hy => ?_⟩
  rw [List.getElem?_drop] at hy
  have hlt : m + i < ys.length := (List.getElem?_eq_some_iff.1 hy).1
  obtain ⟨ad, rfl, hc⟩ := h3 _ y hy
  refine ⟨ad.add (m * E.sz), by rw [hB (by omega)]; rfl, ?_⟩
  rw [add_add, ← Nat.add_mul]; exact hc

theorem Own.take (h : Own E T base w v ys) {A : Option Addr} {n c : Nat} (hv : v = .slice A n c) {m : Nat} (hm : m ≤ ys.length) {c' : Nat} (hc : c' ≤ c) (hmc : m ≤ c') : Own E T base w (.slice A m c') (ys.take m) := by
  rcases h with ⟨rfl, rfl⟩ | ⟨g, cap, cur, rfl, hb, hg, h1, h2, h3, h4⟩
  · cases hv
    simp at hm; subst hm
    exact .inl ⟨by rw [Nat.le_zero.1 hc], rfl⟩
  · cases hv
    have hl : (ys.take m).length = m := by simp; omega
    refine .inr ⟨g, c', cur, by rw [hl], hb, hg, by rw [hl]; exact hmc, by omega, Nat.le_trans (Nat.mul_le_mul_right _ hc) h3, ?_⟩
    have h5 : (cur.toList.take (ys.length * E.sz)).take (m * E.sz) = (ys.flatMap E.enc).take (m * E.sz) := by rw [h4]
    rw [List.take_take, Nat.min_eq_left (Nat.mul_le_mul_right _ hm)] at h5
    rw [hl, h5]
    clear h5 h4 h3 h2 h1 hg hl hc hmc
    induction ys generalizing m with
    | nil => simp
    | cons y ys ih =>
      match m with
      | 0 => simp
      | m + 1 =>
        rw [List.take_succ_cons, List.flatMap_cons, List.flatMap_cons, Nat.add_mul, Nat.one_mul, Nat.add_comm, ← E.len y, List.take_length_add_append, E.len y, ih (by simp at hm; omega)]
theorem run_append_nil' {P : Program} (t ty e : TypeId) (i : TypeInfo) (ht : P.underlying t = some (.slice e)) (hi : P.info? e = some i) (A : Option Addr) (n cap c : Nat) (hc : n ≤ cap) (hpos : 0 < n → A ≠ none) :
    (Builtin.append_ #[t, t] ty #[.slice A n cap, .slice none 0 c]).run P w = .ok (.slice A n cap) w := by
  cases A with
  | none => simp [Builtin.append_, run_underlying ht, sizeOf, typeInfo, hi, Builtin.lenOf, Builtin.firstCells, hc]
  | some a => simp [Builtin.append_, run_underlying ht, sizeOf, typeInfo, hi, Builtin.lenOf, Builtin.firstCells, hc, storeCells]

/-- append onto a row of the call's own. -/
theorem run_append {P : Program} (t ty : TypeId) (i : TypeInfo) (z : Value) (bytes : Nat) (ht : P.underlying t = some (.slice T)) (hi : P.info? T = some i) (hz : i.zero = some z) (hsize : i.size = E.sz) (hby : i.bytes = bytes)
    (hzs : z.cells.size = E.sz) {x : Value} (ho : Own E T base w v ys) (hx : Sl E w x zs) (hM : (ys.length + zs.length) ≤ maxLen) (hb : (ys.length + zs.length) * bytes ≤ 140737488355328) (hbase : base ≤ w.heap.size) :
    ∃ v' w', (Builtin.append_ #[t, t] ty #[v, x]).run P w = .ok v' w' ∧ Own E T base w' v' (ys ++ zs) ∧ Fr (blks v) w w' ∧ (v' = v ∨ blks v' = blks v ∨ blks v' = [w.heap.size]) := by
  subst hby
  obtain ⟨A, c, rfl, hc1, hc2, hcells⟩ := hx.flat
  have grown : ∀ (old : Nat),
      Own E T base (w.drew.alloc (.cells ((ys.flatMap E.enc).toArray ++ (zs.flatMap E.enc).toArray ++ Builtin.zeroCells z.cells (grownCap w (ys.length + zs.length) old T - (ys.length + zs.length))) T))
        (.slice (some ⟨w.heap.size, 0, none⟩) (ys.length + zs.length) (grownCap w (ys.length + zs.length) old T)) (ys ++ zs) := by
    intro old
    have hge := grownCap_ge w (ys.length + zs.length) old T
    have hcm := grownCap_le_maxLen w (ys.length + zs.length) old T hM
    refine .inr ⟨w.heap.size, _, _, by rw [List.length_append], hbase, heap_alloc_new w.drew _, by rw [List.length_append]; exact hge, hcm, ?_, ?_⟩
    · simp only [Array.size_append, List.size_toArray, size_zeroCells, hzs, E.flat_len, ← Nat.add_mul]
      refine Nat.mul_le_mul_right _ ?_
      omega
    · rw [List.flatMap_append]
      simp only [Array.toList_append]
      rw [show (ys ++ zs).length * E.sz = (ys.flatMap E.enc ++ zs.flatMap E.enc).length by rw [@List.length_append _ (ys.flatMap E.enc) (zs.flatMap E.enc), E.flat_len, E.flat_len, List.length_append, Nat.add_mul]]
      exact List.take_left
  by_cases hzn : zs = []
  · subst hzn
    rw [List.append_nil]
    refine ⟨v, w, ?_, ho, Fr.refl _ _, .inl rfl⟩
    rcases ho with ⟨rfl, rfl⟩ | ⟨g, cap, cur, rfl, hbg, hg, hnc, hcm, hcs, htake⟩
    · cases A with
      | none => exact run_append_nil' t ty T i ht hi _ _ _ _ (Nat.le_refl _) (by simp)
      | some a => simp [Builtin.append_, run_underlying ht, sizeOf, typeInfo, hi, Builtin.lenOf, Builtin.firstCells, loadCells, loadCellsFrom]
    · cases A with
      | none => exact run_append_nil' t ty T i ht hi _ _ _ _ hnc (by simp)
      | some a => simp [Builtin.append_, run_underlying ht, sizeOf, typeInfo, hi, Builtin.lenOf, Builtin.firstCells, loadCells, loadCellsFrom, hnc, storeCells]
  · obtain ⟨ad, rfl, hcc⟩ := hcells hzn
    have hpos : 0 < zs.length := List.length_pos_iff.2 hzn
    have hsm : ys.length + zs.length ≤ 9223372036854775807 := by simp only [maxLen] at hM; omega
    rcases ho with ⟨rfl, rfl⟩ | ⟨g, cap, cur, rfl, hbg, hg, hnc, hcm, hcs, htake⟩
    · have hr := run_append_nil (P := P) w t ty T i z ht hi hz ad zs.length c (zs.flatMap E.enc) (by rw [E.flat_len, hsize]) hcc hpos (by simp at hsm; omega) (by have hb' := hb; simp only [List.length_nil, Nat.zero_add] at hb'; omega)
      have hgr := grown 0
      simp only [List.flatMap_nil, List.length_nil, Nat.zero_add, List.nil_append, Array.empty_append] at hgr ⊢
      exact ⟨_, _, hr, hgr, ⟨rfl, rfl, rfl, by simp, fun k hk _ => Below.heap_alloc w.drew _ k hk⟩, .inr (.inr rfl)⟩
    · have hold : Own E T base w (.slice (some ⟨g, 0, none⟩) ys.length cap) ys := .inr ⟨g, cap, cur, rfl, hbg, hg, hnc, hcm, hcs, htake⟩
      by_cases hroom : ys.length + zs.length ≤ cap
      · have hfit : ys.length * i.size + (zs.flatMap E.enc).length ≤ cur.size := by
          rw [E.flat_len, hsize, ← Nat.add_mul]
          exact Nat.le_trans (Nat.mul_le_mul_right _ hroom) hcs
        have hr := run_append_room (P := P) w t ty T i ht hi g ys.length cap cur hg ad zs.length c (zs.flatMap E.enc) (by rw [E.flat_len, hsize]) hcc (E.flat_one zs) hroom hfit
        refine ⟨_, _, hr, .inr ⟨g, cap, _, by rw [List.length_append], hbg, setRow_heap w g cur _ T _ hg, by rw [List.length_append]; exact hroom, hcm, ?_, ?_⟩, Fr.setRow w g _, .inr (.inl rfl)⟩
        · simp only [List.size_toArray, List.length_append, List.length_take, List.length_drop, Array.length_toList]
          omega
        · rw [hsize, htake, List.flatMap_append, List.length_append, Nat.add_mul]
          rw [show ys.length * E.sz + zs.length * E.sz = (ys.flatMap E.enc ++ zs.flatMap E.enc).length by rw [List.length_append, E.flat_len, E.flat_len]]
          exact List.take_left
      · have hflat := hold.sl.flat
        have holds : ∀ j u, (ys.flatMap E.enc)[j]? = some u → w.cell? ((⟨g, 0, none⟩ : Addr).add j) = some u := by
          intro j u hu
          by_cases hy : ys = []
          · subst hy; simp at hu
          · obtain ⟨A', c', e, _, _, hh⟩ := hflat
            obtain ⟨ad', e', hc'⟩ := hh hy
            cases e; cases e'
            exact hc' j u hu
        have hr := run_append_grow (P := P) w t ty T i z ht hi hz ⟨g, 0, none⟩ ys.length cap (ys.flatMap E.enc) (by rw [E.flat_len, hsize]) holds ad zs.length c (zs.flatMap E.enc) (by rw [E.flat_len, hsize]) hcc (by omega) (by omega) (growslice_fits (by omega) hb)
        exact ⟨_, _, hr, grown cap, ⟨rfl, rfl, rfl, by simp, fun k hk _ => Below.heap_alloc w.drew _ k hk⟩, .inr (.inr rfl)⟩
end
end Go.Lw
namespace Go.Lw
open Go.RowKit

/-- Facts on a program's types. -/
def NotAgg (P : Program) (t : TypeId) : Prop := ∀ w : World, (isAgg t).run P w = .ok false w
def AggOf (P : Program) (t : TypeId) (n : Nat) : Prop := (∀ w : World, (isAgg t).run P w = .ok true w) ∧ ∀ w : World, (sizeOf t).run P w = .ok n w
def SizeOf (P : Program) (t : TypeId) (n : Nat) : Prop := ∀ w : World, (sizeOf t).run P w = .ok n w
def FieldAt (P : Program) (s f off : Nat) : Prop := ∀ (ad : Addr) (w : World), (Instr.fieldAt s (.pointer (some ad)) f).run P w = .ok (.pointer (some (ad.add off))) w
def CallOf (P : Program) (f : FuncId) : Prop := ∀ (args : Array Value) (w : World), (callFunc f args).run P w = .ok (.enter f args) w
structure ElemOf {α : Type} (P : Program) (t T : TypeId) (E : Enc α) (bytes : Nat) : Prop where
  und : P.underlying t = some (.slice T)
  info : ∃ i z, P.info? T = some i ∧ i.zero = some z ∧ i.size = E.sz ∧ i.bytes = bytes ∧ z.cells.size = E.sz
theorem ElemOf.mk' {α : Type} {P : Program} {t T : TypeId} {E : Enc α} {bytes : Nat} {z : Value} (h1 : P.underlying t = some (.slice T)) (h2 : (P.info? T).map (fun i => (i.zero, i.size, i.bytes)) = some (some z, E.sz, bytes)) (h3 : z.cells.size = E.sz) : ElemOf P t T E bytes :=
  ⟨h1, let ⟨i, a, b, c, d⟩ := info_parts h2; ⟨i, z, a, b, c, d, h3⟩⟩
theorem CallOf.mk' {P : Program} {f : FuncId} {fn : Func} (hf : P.funcs[f]? = some fn) (hn : (fn.name == "runtime.NumGoroutine") = false) (hb : fn.body.isNone = false) : CallOf P f :=
  fun args w => by
    have h1 : fn.name ≠ "runtime.NumGoroutine" := by simpa using hn
    have h2 : fn.body ≠ none := by intro e; rw [e] at hb; cases hb
    simp [callFunc, hf, h1, h2]

section
variable {P : Program} {a : Act} {n : Nat} {L : List (Nat × Value)} {ds : List Nat} {w w' : World} {Q : Exit → Act → World → Prop} {ops : Array Oper} {rest : List Oper}
variable {d : Nat} {ty : TypeId} {pos : String} {after : Array Edge} {v u : Value} {x y z : Operand} {t t' T : TypeId} {k k' : IntKind} {i j : Int} {b c : Bool} {l l' : List UInt8}

/-! Strings. -/
theorem byte_rng (c : UInt8) : 0 ≤ ((c.toNat : Nat) : Int) ∧ ((c.toNat : Nat) : Int) ≤ 255 := by have := c.toNat_lt; omega
theorem ext_list (l : List UInt8) (lo hi : Nat) : (ByteArray.mk l.toArray).extract lo hi = ⟨((l.take hi).drop lo).toArray⟩ := by
  apply ByteArray.ext
  rw [ByteArray.data_extract]
  apply Array.ext'
  simp [List.drop_take]
theorem st_ss_lh {p p' : Nat} (h : AgM ds a n L) (hx : ev L x = some (S l)) (hy : ev L y = some (.int k i)) (hz : ev L z = some (.int k' j)) (hu : P.underlying t = some .string) (h0 : 0 ≤ i) (h1 : i ≤ j) (h2 : j ≤ l.length) (hp : i.toNat = p) (hp' : j.toNat = p') (hn : Nat.blt d n = true)
    (q : ∀ a, AgM ds a n ((d, S ((l.take p').drop p)) :: L) → wpList P ops Q rest a w) : wpList P ops Q (⟨some d, .slice t x (some y) (some z) none, ty, pos, after, none⟩ :: rest) a w :=
  st_ok h rfl rfl hn (by
    have hs : j ≤ ((ByteArray.mk l.toArray).size : Nat) := by simpa [ByteArray.size] using h2
    subst hp hp'
    have hr := run_slice_string (P := P) w t ⟨l.toArray⟩ k k' i j hu h0 h1 hs
    rw [ext_list] at hr
    simp [execOp, h.eval hx, h.eval hy, h.eval hz, S, run_sliceAt_string w t _ _ _ _ hu, hr]) q
theorem st_ss_h {p : Nat} (h : AgM ds a n L) (hx : ev L x = some (S l)) (hz : ev L z = some (.int k' j)) (hu : P.underlying t = some .string) (h0 : 0 ≤ j) (h2 : j ≤ l.length) (hp : j.toNat = p) (hn : Nat.blt d n = true)
    (q : ∀ a, AgM ds a n ((d, S (l.take p)) :: L) → wpList P ops Q rest a w) : wpList P ops Q (⟨some d, .slice t x none (some z) none, ty, pos, after, none⟩ :: rest) a w :=
  st_ok h rfl rfl hn (by
    have hs : j ≤ ((ByteArray.mk l.toArray).size : Nat) := by simpa [ByteArray.size] using h2
    subst hp
    have hr := run_slice_string_h (P := P) w t ⟨l.toArray⟩ hu k' j h0 hs
    rw [ext_list, List.drop_zero] at hr
    simp [execOp, h.eval hx, h.eval hz, S, run_sliceAt_string w t _ _ _ _ hu, hr]) q
theorem s_ss_h {p : Nat} (hx : ev L x = some (S l)) (hz : ev L z = some (.int k' j)) (hu : P.underlying t = some .string) (h0 : 0 ≤ j) (h2 : j ≤ l.length) (hp : j.toNat = p) (hn : Nat.blt d n = true) (q : WL P ops Q rest n ds w ((d, S (l.take p)) :: L)) : WL P ops Q (⟨some d, .slice t x none (some z) none, ty, pos, after, none⟩ :: rest) n ds w L := fun a h => st_ss_h h hx hz hu h0 h2 hp hn q -- short
theorem st_adds (h : AgM ds a n L) (hx : ev L x = some (S l)) (hy : ev L y = some (S l')) (hb : l.length + l'.length ≤ 9223372036854775807) (hn : Nat.blt d n = true)
    (q : ∀ a, AgM ds a n ((d, S (l ++ l')) :: L) → wpList P ops Q rest a w) : wpList P ops Q (⟨some d, .binOp .add t x y t', ty, pos, after, none⟩ :: rest) a w :=
  st_ok h rfl rfl hn (by
    have hr := run_string_add_sum (P := P) w ⟨l.toArray⟩ ⟨l'.toArray⟩ (by simpa [ByteArray.size] using hb)
    rw [ByteArray.mk_append_mk] at hr
    simp [execOp, h.eval hx, h.eval hy, S, eqGuard_add, binOp_string_add, hr]) q
theorem s_adds (hx : ev L x = some (S l)) (hy : ev L y = some (S l')) (hb : l.length + l'.length ≤ 9223372036854775807) (hn : Nat.blt d n = true) (q : WL P ops Q rest n ds w ((d, S (l ++ l')) :: L)) : WL P ops Q (⟨some d, .binOp .add t x y t', ty, pos, after, none⟩ :: rest) n ds w L := fun a h => st_adds h hx hy hb hn q -- short
theorem st_eqs (h : AgM ds a n L) (hx : ev L x = some (S l)) (hy : ev L y = some (S l')) (hn : Nat.blt d n = true)
    (q : ∀ a, AgM ds a n ((d, .bool (decide (l = l'))) :: L) → wpList P ops Q rest a w) : wpList P ops Q (⟨some d, .binOp .eql t x y t', ty, pos, after, none⟩ :: rest) a w :=
  st_ok h rfl rfl hn (by simp [execOp, h.eval hx, h.eval hy, S, eqGuard_at_string, binOp_string_eql]; by_cases e : l = l' <;> simp [e]) q
theorem s_eqs (hx : ev L x = some (S l)) (hy : ev L y = some (S l')) (hn : Nat.blt d n = true) (q : WL P ops Q rest n ds w ((d, .bool (decide (l = l'))) :: L)) : WL P ops Q (⟨some d, .binOp .eql t x y t', ty, pos, after, none⟩ :: rest) n ds w L := fun a h => st_eqs h hx hy hn q -- short
theorem st_nes (h : AgM ds a n L) (hx : ev L x = some (S l)) (hy : ev L y = some (S l')) (hn : Nat.blt d n = true)
    (q : ∀ a, AgM ds a n ((d, .bool (decide (l ≠ l'))) :: L) → wpList P ops Q rest a w) : wpList P ops Q (⟨some d, .binOp .neq t x y t', ty, pos, after, none⟩ :: rest) a w :=
  st_ok h rfl rfl hn (by simp [execOp, h.eval hx, h.eval hy, S, eqGuard_at_string, binOp_string_neq]; by_cases e : l = l' <;> simp [e]) q
theorem s_nes (hx : ev L x = some (S l)) (hy : ev L y = some (S l')) (hn : Nat.blt d n = true) (q : WL P ops Q rest n ds w ((d, .bool (decide (l ≠ l'))) :: L)) : WL P ops Q (⟨some d, .binOp .neq t x y t', ty, pos, after, none⟩ :: rest) n ds w L := fun a h => st_nes h hx hy hn q -- short
theorem st_lts (h : AgM ds a n L) (hx : ev L x = some (S l)) (hy : ev L y = some (S l')) (hn : Nat.blt d n = true)
    (q : ∀ a, AgM ds a n ((d, .bool (Op.bytesLess l l')) :: L) → wpList P ops Q rest a w) : wpList P ops Q (⟨some d, .binOp .lss t x y t', ty, pos, after, none⟩ :: rest) a w :=
  st_ok h rfl rfl hn (by simp [execOp, h.eval hx, h.eval hy, S, eqGuard_lss, binOp_string_lss]) q

variable {A : Option Addr} {m cp : Nat}
theorem st_lenS (h : AgM ds a n L) (hx : ev L x = some (.slice A m cp)) (hu : P.underlying t = some (.slice T)) (hn : Nat.blt d n = true) (q : ∀ a, AgM ds a n ((d, .int .i64 (m : Int)) :: L) → wpList P ops Q rest a w) :
    wpList P ops Q (⟨some d, .call ⟨.builtin .len, #[x], #[t]⟩, ty, pos, after, none⟩ :: rest) a w :=
  st_ok h rfl rfl hn (by
    rw [exec_builtin]; unfold builtin
    simp [h.eval hx, Builtin.len_, run_underlying hu]
    rfl) q
theorem lnS (hx : ev L x = some (.slice A m cp)) (hu : P.underlying t = some (.slice T)) (hn : Nat.blt d n = true) (q : WL P ops Q rest n ds w ((d, .int .i64 (m : Int)) :: L)) : WL P ops Q (⟨some d, .call ⟨.builtin .len, #[x], #[t]⟩, ty, pos, after, none⟩ :: rest) n ds w L := fun a h => st_lenS h hx hu hn q -- short
/-- The address of an element. -/
theorem st_idx {p : Nat} {α : Type} {E : Enc α} {ys : List α} {e : α} {bytes : Nat} (h : AgM ds a n L) (hx : ev L x = some v) (hy : ev L y = some (.int k i)) (hs : Sl E w v ys) (he : ElemOf P t T E bytes) (h0 : 0 ≤ i) (hp : i.toNat = p) (hi : ys[p]? = some e) (hn : Nat.blt d n = true)
    (q : ∀ ad, Cells w ad (E.enc e) → ∀ a, AgM ds a n ((d, .pointer (some ad)) :: L) → wpList P ops Q rest a w) : wpList P ops Q (⟨some d, .indexAddr t x y, ty, pos, after, none⟩ :: rest) a w := by
  obtain ⟨A, c, rfl, h1, h2, h3⟩ := hs
  subst hp
  obtain ⟨ad, rfl, hc⟩ := h3 _ _ hi
  obtain ⟨inf, zv, hin, _, hsz, _⟩ := he.info
  have hlt : i.toNat < ys.length := (List.getElem?_eq_some_iff.1 hi).1
  have hlt' : i < (ys.length : Int) := by omega
  exact st_ok h rfl rfl hn (by simp [execOp, h.eval hx, h.eval hy, Instr.indexAt, asIntOf, run_underlying he.und, h0, hlt', sizeOf, typeInfo, hin, hsz]) (q _ hc)
/-- x[:hi] -/
theorem st_sl_h {p : Nat} {α : Type} {E : Enc α} {bytes : Nat} (h : AgM ds a n L) (hx : ev L x = some (.slice A m cp)) (hz : ev L z = some (.int k' j)) (he : ElemOf P t T E bytes) (h0 : 0 ≤ j) (h2 : j ≤ cp) (hp : j.toNat = p) (hn : Nat.blt d n = true)
    (q : ∀ a, AgM ds a n ((d, .slice A p cp) :: L) → wpList P ops Q rest a w) : wpList P ops Q (⟨some d, .slice t x none (some z) none, ty, pos, after, none⟩ :: rest) a w := by
  subst hp
  obtain ⟨inf, zv, hin, _, hsz, _⟩ := he.info
  exact st_ok h rfl rfl hn (by
    have hA : Option.map (fun x => Addr.add x 0) A = A := by cases A <;> simp [Addr.add]
    simp [execOp, h.eval hx, h.eval hz, Instr.sliceAt, Instr.slice, run_underlying he.und, Instr.sliceBounds, Instr.sliceBound, asIntOf, h0, h2, sizeOf, typeInfo, hin, hA]) q
theorem s_sl_h {p : Nat} {α : Type} {E : Enc α} {bytes : Nat} (hx : ev L x = some (.slice A m cp)) (hz : ev L z = some (.int k' j)) (he : ElemOf P t T E bytes) (h0 : 0 ≤ j) (h2 : j ≤ cp) (hp : j.toNat = p) (hn : Nat.blt d n = true) (q : WL P ops Q rest n ds w ((d, .slice A p cp) :: L)) : WL P ops Q (⟨some d, .slice t x none (some z) none, ty, pos, after, none⟩ :: rest) n ds w L := fun a h => st_sl_h h hx hz he h0 h2 hp hn q -- short
/-- x[lo:] -/
theorem st_sl_l {p : Nat} {α : Type} {E : Enc α} {bytes : Nat} (h : AgM ds a n L) (hx : ev L x = some (.slice A m cp)) (hy : ev L y = some (.int k i)) (he : ElemOf P t T E bytes) (h0 : 0 ≤ i) (h1 : i ≤ m) (hp : i.toNat = p) (hn : Nat.blt d n = true)
    (q : ∀ a, AgM ds a n ((d, .slice (if cp = p then A else A.map (·.add (p * E.sz))) (m - p) (cp - p)) :: L) → wpList P ops Q rest a w) : wpList P ops Q (⟨some d, .slice t x (some y) none none, ty, pos, after, none⟩ :: rest) a w := by
  subst hp
  obtain ⟨inf, zv, hin, _, hsz, _⟩ := he.info
  exact st_ok h rfl rfl hn (by
    simp [execOp, h.eval hx, h.eval hy, Instr.sliceAt, Instr.slice, run_underlying he.und, Instr.sliceBounds, Instr.sliceBound, asIntOf, h0, h1, sizeOf, typeInfo, hin, hsz]) q
/-- x[lo:hi] -/
theorem st_sl_lh {p p' : Nat} {α : Type} {E : Enc α} {bytes : Nat} (h : AgM ds a n L) (hx : ev L x = some (.slice A m cp)) (hy : ev L y = some (.int k i)) (hz : ev L z = some (.int k' j)) (he : ElemOf P t T E bytes) (h0 : 0 ≤ i) (h1 : i ≤ j) (h2 : j ≤ cp) (hp : i.toNat = p) (hp' : j.toNat = p') (hn : Nat.blt d n = true)
    (q : ∀ a, AgM ds a n ((d, .slice (if cp = p then A else A.map (·.add (p * E.sz))) (p' - p) (cp - p)) :: L) → wpList P ops Q rest a w) : wpList P ops Q (⟨some d, .slice t x (some y) (some z) none, ty, pos, after, none⟩ :: rest) a w := by
  subst hp hp'
  obtain ⟨inf, zv, hin, _, hsz, _⟩ := he.info
  exact st_ok h rfl rfl hn (by
    have h3 : 0 ≤ j := by omega
    have h4 : i ≤ ((j.toNat : Nat) : Int) := by omega
    simp [execOp, h.eval hx, h.eval hy, h.eval hz, Instr.sliceAt, Instr.slice, run_underlying he.und, Instr.sliceBounds, Instr.sliceBound, asIntOf, h0, h2, h3, h4, sizeOf, typeInfo, hin, hsz]
    intro hc; omega) q
/-- x[:hi:max] -/
theorem st_sl_hm {p p' : Nat} {α : Type} {E : Enc α} {bytes : Nat} {o : Operand} {k'' : IntKind} {r : Int} (h : AgM ds a n L) (hx : ev L x = some (.slice A m cp)) (hz : ev L z = some (.int k' j)) (ho : ev L o = some (.int k'' r)) (he : ElemOf P t T E bytes) (h0 : 0 ≤ j) (h1 : j ≤ r) (h2 : r ≤ cp) (hp : j.toNat = p) (hp' : r.toNat = p') (hn : Nat.blt d n = true)
    (q : ∀ a, AgM ds a n ((d, .slice A p p') :: L) → wpList P ops Q rest a w) : wpList P ops Q (⟨some d, .slice t x none (some z) (some o), ty, pos, after, none⟩ :: rest) a w := by
  subst hp hp'
  obtain ⟨inf, zv, hin, _, hsz, _⟩ := he.info
  exact st_ok h rfl rfl hn (by
    have h3 : 0 ≤ r := by omega
    have h4 : j ≤ ((r.toNat : Nat) : Int) := by omega
    have hA : Option.map (fun x => Addr.add x 0) A = A := by cases A <;> simp [Addr.add]
    simp [execOp, h.eval hx, h.eval hz, h.eval ho, Instr.sliceAt, Instr.slice, run_underlying he.und, Instr.sliceBounds, Instr.sliceBound, asIntOf, h0, h2, h3, h4, sizeOf, typeInfo, hin, hA]
    intro hc; omega) q

theorem s_sl_hm {p p' : Nat} {α : Type} {E : Enc α} {bytes : Nat} {o : Operand} {k'' : IntKind} {r : Int} (hx : ev L x = some (.slice A m cp)) (hz : ev L z = some (.int k' j)) (ho : ev L o = some (.int k'' r)) (he : ElemOf P t T E bytes) (h0 : 0 ≤ j) (h1 : j ≤ r) (h2 : r ≤ cp) (hp : j.toNat = p) (hp' : r.toNat = p') (hn : Nat.blt d n = true) (q : WL P ops Q rest n ds w ((d, .slice A p p') :: L)) : WL P ops Q (⟨some d, .slice t x none (some z) (some o), ty, pos, after, none⟩ :: rest) n ds w L := fun a h => st_sl_hm h hx hz ho he h0 h1 h2 hp hp' hn q -- short
/-! Memory. -/
/-- A block that is known whole. -/
def Blk (w : World) (g : Nat) (T : TypeId) (cs : List Value) : Prop := w.heap[g]? = some (.cells cs.toArray T (0, 0))
theorem Blk.lt {g : Nat} {cs : List Value} (h : Blk w g T cs) : g < w.heap.size := (Array.getElem?_eq_some_iff.1 h).1
theorem Blk.cell {g : Nat} {cs : List Value} (h : Blk w g T cs) (o : Nat) : w.cell? ⟨g, o, none⟩ = cs[o]? := by
  rw [cell_of_row w g o cs.toArray T (0, 0) h]; simp
theorem Blk.cells {g : Nat} {cs : List Value} (h : Blk w g T cs) : Cells w ⟨g, 0, none⟩ cs := fun j u hu => by rw [lit_add, Nat.zero_add, h.cell]; exact hu
theorem Blk.fr {g : Nat} {cs : List Value} {S : List Nat} (h : Blk w g T cs) (hf : Fr S w w') (hn : g ∉ S) : Blk w' g T cs := (hf.block g h.lt hn).trans h
theorem Blk.ext {g : Nat} {cs : List Value} (h : Blk w g T cs) (hf : Fr [] w w') : Blk w' g T cs := h.fr hf (by simp)
theorem st_load {ad : Addr} (h : AgM ds a n L) (hx : ev L x = some (.pointer (some ad))) (hc : w.cell? ad = some v) (hg : NotAgg P t) (hn : Nat.blt d n = true) (q : ∀ a, AgM ds a n ((d, v) :: L) → wpList P ops Q rest a w) :
    wpList P ops Q (⟨some d, .load t x, ty, pos, after, none⟩ :: rest) a w :=
  st_ok h rfl rfl hn (by simp [execOp, h.eval hx, Instr.loadAt, Instr.sureAddr, loadVar, hg w, hc]) q
theorem st_loadA {ad : Addr} {cs : List Value} (h : AgM ds a n L) (hx : ev L x = some (.pointer (some ad))) (hc : Cells w ad cs) (hg : AggOf P t cs.length) (hn : Nat.blt d n = true) (q : ∀ a, AgM ds a n ((d, .agg cs.toArray) :: L) → wpList P ops Q rest a w) :
    wpList P ops Q (⟨some d, .load t x, ty, pos, after, none⟩ :: rest) a w :=
  st_ok h rfl rfl hn (by simp [execOp, h.eval hx, Instr.loadAt, Instr.sureAddr, loadVar, hg.1 w, hg.2 w, run_loadCells_list w ad cs hc]) q
theorem s_loadA {ad : Addr} {cs : List Value} (hx : ev L x = some (.pointer (some ad))) (hc : Cells w ad cs) (hg : AggOf P t cs.length) (hn : Nat.blt d n = true) (q : WL P ops Q rest n ds w ((d, .agg cs.toArray) :: L)) : WL P ops Q (⟨some d, .load t x, ty, pos, after, none⟩ :: rest) n ds w L := fun a h => st_loadA h hx hc hg hn q -- short
theorem st_fieldAddr {ad : Addr} {f off : Nat} (h : AgM ds a n L) (hx : ev L x = some (.pointer (some ad))) (hf : FieldAt P t f off) (hn : Nat.blt d n = true) (q : ∀ a, AgM ds a n ((d, .pointer (some (ad.add off))) :: L) → wpList P ops Q rest a w) :
    wpList P ops Q (⟨some d, .fieldAddr t x f, ty, pos, after, none⟩ :: rest) a w :=
  st_ok h rfl rfl hn (by simp [execOp, h.eval hx, hf ad w]) q
theorem fad {ad : Addr} {f off : Nat} (hx : ev L x = some (.pointer (some ad))) (hf : FieldAt P t f off) (hn : Nat.blt d n = true) (q : WL P ops Q rest n ds w ((d, .pointer (some (ad.add off))) :: L)) : WL P ops Q (⟨some d, .fieldAddr t x f, ty, pos, after, none⟩ :: rest) n ds w L := fun a h => st_fieldAddr h hx hf hn q -- short
theorem st_nilCheck {ad : Addr} (h : AgM ds a n L) (hx : ev L x = some (.pointer (some ad))) (hn : Nat.blt d n = true) (q : ∀ a, AgM ds a n ((d, .pointer (some ad)) :: L) → wpList P ops Q rest a w) :
    wpList P ops Q (⟨some d, .nilCheck x, ty, pos, after, none⟩ :: rest) a w :=
  st_ok h rfl rfl hn (by simp [execOp, h.eval hx]) q
/-- A store of one cell into a block that is known whole. -/
theorem st_store {g o : Nat} {cs : List Value} (h : AgM ds a n L) (hx : ev L x = some (.pointer (some ⟨g, o, none⟩))) (hy : ev L y = some v) (hb : Blk w g T cs) (ho : Nat.blt o cs.length = true) (h1 : v.oneCell' = true) (hc : v.cells = #[v]) (hs : SizeOf P t 1)
    (q : ∀ w', Blk w' g T (cs.set o v) → Fr [g] w w' → w'.heap.size = w.heap.size → ∀ a, AgM ds a n L → wpList P ops Q rest a w') : wpList P ops Q (⟨none, .store t x y, ty, pos, after, none⟩ :: rest) a w := by
  have ho' : o < cs.length := by simpa [Nat.blt_eq] using ho
  have hcell : w.cell? ⟨g, o, none⟩ = some cs[o] := by rw [hb.cell, List.getElem?_eq_getElem ho']
  have hfz : w.frozen? ⟨g, o, none⟩ = false := frozen_of_row w g o cs.toArray T hb
  refine st_skip h rfl rfl (w' := w.setCell ⟨g, o, none⟩ v) ?_ (q _ ?_ (Fr.setCell w ⟨g, o, none⟩ v) (by simp))
  · simp [execOp, h.eval hx, h.eval hy, Instr.storeAt, Instr.sureAddr, storeVar, hs w, hc, storeCells, Addr.add_zero', run_store P w _ v _ h1, hcell, hfz]
  · unfold Blk
    rw [heap_setCell_same w g o cs.toArray T v hb]
    simp
theorem st_box {cs : List Value} (h : AgM ds a n L) (hx : ev L x = some v) (hc : v.cells = cs.toArray) (hn : Nat.blt d n = true)
    (q : ∀ w', Blk w' w.heap.size T cs → Fr [] w w' → w'.heap.size = w.heap.size + 1 → ∀ a, AgM ds a n ((d, .pointer (some ⟨w.heap.size, 0, none⟩)) :: L) → wpList P ops Q rest a w') :
    wpList P ops Q (⟨some d, .box T x, ty, pos, after, none⟩ :: rest) a w :=
  st_ok h rfl rfl hn (w' := w.alloc (.cells cs.toArray T)) (by simp [execOp, h.eval hx, Instr.box, newVar, newRow, hc]) (q _ (heap_alloc_new w _) (Fr.alloc [] w _) (by simp))
theorem s_box {cs : List Value} (hx : ev L x = some v) (hc : v.cells = cs.toArray) (hn : Nat.blt d n = true) (q : ∀ w', Blk w' w.heap.size T cs → Fr [] w w' → w'.heap.size = w.heap.size + 1 → WL P ops Q rest n ds w' ((d, .pointer (some ⟨w.heap.size, 0, none⟩)) :: L)) : WL P ops Q (⟨some d, .box T x, ty, pos, after, none⟩ :: rest) n ds w L := fun a h => st_box h hx hc hn q -- short
theorem st_alloc {cs : List Value} (h : AgM ds a n L) (hz : ∀ w : World, (zeroValue T).run P w = .ok v w) (hc : v.cells = cs.toArray) (hn : Nat.blt d n = true)
    (q : ∀ w', Blk w' w.heap.size T cs → Fr [] w w' → w'.heap.size = w.heap.size + 1 → ∀ a, AgM ds a n ((d, .pointer (some ⟨w.heap.size, 0, none⟩)) :: L) → wpList P ops Q rest a w') :
    wpList P ops Q (⟨some d, .alloc T, ty, pos, after, none⟩ :: rest) a w :=
  st_ok h rfl rfl hn (w' := w.alloc (.cells cs.toArray T)) (by simp [execOp, Instr.alloc, hz w, newVar, newRow, hc]) (q _ (heap_alloc_new w _) (Fr.alloc [] w _) (by simp))
theorem s_alloc {cs : List Value} (hz : ∀ w : World, (zeroValue T).run P w = .ok v w) (hc : v.cells = cs.toArray) (hn : Nat.blt d n = true) (q : ∀ w', Blk w' w.heap.size T cs → Fr [] w w' → w'.heap.size = w.heap.size + 1 → WL P ops Q rest n ds w' ((d, .pointer (some ⟨w.heap.size, 0, none⟩)) :: L)) : WL P ops Q (⟨some d, .alloc T, ty, pos, after, none⟩ :: rest) n ds w L := fun a h => st_alloc h hz hc hn q -- short
theorem st_extract {vs : Array Value} {m : Nat} (h : AgM ds a n L) (hx : ev L x = some (.tuple vs)) (hm : vs[m]? = some v) (hn : Nat.blt d n = true) (q : ∀ a, AgM ds a n ((d, v) :: L) → wpList P ops Q rest a w) :
    wpList P ops Q (⟨some d, .extract x m, ty, pos, after, none⟩ :: rest) a w :=
  st_ok h rfl rfl hn (by simp [execOp, h.eval hx, Instr.extract, hm]) q
theorem xt {vs : Array Value} {m : Nat} (hx : ev L x = some (.tuple vs)) (hm : vs[m]? = some v) (hn : Nat.blt d n = true) (q : WL P ops Q rest n ds w ((d, v) :: L)) : WL P ops Q (⟨some d, .extract x m, ty, pos, after, none⟩ :: rest) n ds w L := fun a h => st_extract h hx hm hn q -- short
theorem st_field {f : Nat} (h : AgM ds a n L) (hx : ev L x = some v) (hr : ∀ w : World, (Instr.field t v f).run P w = .ok u w) (hn : Nat.blt d n = true) (q : ∀ a, AgM ds a n ((d, u) :: L) → wpList P ops Q rest a w) :
    wpList P ops Q (⟨some d, .field t x f, ty, pos, after, none⟩ :: rest) a w :=
  st_ok h rfl rfl hn (by simp [execOp, h.eval hx, hr w]) q
theorem s_field {f : Nat} (hx : ev L x = some v) (hr : ∀ w : World, (Instr.field t v f).run P w = .ok u w) (hn : Nat.blt d n = true) (q : WL P ops Q rest n ds w ((d, u) :: L)) : WL P ops Q (⟨some d, .field t x f, ty, pos, after, none⟩ :: rest) n ds w L := fun a h => st_field h hx hr hn q -- short
/-- A call of a function by its name. -/
theorem st_call {f : FuncId} {xs : List Operand} {vs : List Value} {ts : Array TypeId} {Φ : Value → World → Prop} (h : AgM ds a n L) (hx : evs L xs vs) (hf : CallOf P f) (hc : Rets P f vs.toArray w Φ) (hn : Nat.blt d n = true)
    (q : ∀ v w', Φ v w' → ∀ a, AgM ds a n ((d, v) :: L) → wpList P ops Q rest a w') : wpList P ops Q (⟨some d, .call ⟨.value (.func f), xs.toArray, ts⟩, ty, pos, after, none⟩ :: rest) a w :=
  st_enter (w' := w) h rfl rfl hn (by
    rw [execOp_call_go]
    simp only [List.map_toArray, h.evals hx, List.append_toArray, List.nil_append, List.append_nil]
    exact hf _ _) hc q
theorem cl {f : FuncId} {xs : List Operand} {vs : List Value} {ts : Array TypeId} {Φ : Value → World → Prop} (hx : evs L xs vs) (hf : CallOf P f) (hc : Rets P f vs.toArray w Φ) (hn : Nat.blt d n = true) (q : ∀ v w', Φ v w' → WL P ops Q rest n ds w' ((d, v) :: L)) : WL P ops Q (⟨some d, .call ⟨.value (.func f), xs.toArray, ts⟩, ty, pos, after, none⟩ :: rest) n ds w L := fun a h => st_call h hx hf hc hn q -- short
/-- append onto a row of the call's own. -/
theorem st_append {α : Type} {E : Enc α} {ys zs : List α} {bytes base : Nat} (h : AgM ds a n L) (hx : ev L x = some u) (hy : ev L y = some v) (ho : Own E T base w u ys) (hs : Sl E w v zs) (he : ElemOf P t T E bytes)
    (hM : ys.length + zs.length ≤ maxLen) (hb : (ys.length + zs.length) * bytes ≤ 140737488355328) (hbase : base ≤ w.heap.size) (hn : Nat.blt d n = true)
    (q : ∀ v' w', Own E T base w' v' (ys ++ zs) → Fr (blks u) w w' → (v' = u ∨ blks v' = blks u ∨ blks v' = [w.heap.size]) → ∀ a, AgM ds a n ((d, v') :: L) → wpList P ops Q rest a w') :
    wpList P ops Q (⟨some d, .call ⟨.builtin .append, #[x, y], #[t, t]⟩, ty, pos, after, none⟩ :: rest) a w := by
  obtain ⟨inf, zv, h1, h2, h3, h4, h5⟩ := he.info
  obtain ⟨v', w', hr, r1, r2, r3⟩ := run_append (P := P) t ty inf zv bytes he.und h1 h2 h3 h4 h5 ho hs hM hb hbase
  refine st_ok h rfl rfl hn (w' := w') ?_ (q v' w' r1 r2 r3)
  rw [exec_builtin]; unfold builtin
  simp only [List.map_toArray, List.map_cons, List.map_nil, h.eval hx, h.eval hy, Sem.run_bind, hr, Result.andThen_ok, Sem.run_pure]

theorem s_append {α : Type} {E : Enc α} {ys zs : List α} {bytes base : Nat} (hx : ev L x = some u) (hy : ev L y = some v) (ho : Own E T base w u ys) (hs : Sl E w v zs) (he : ElemOf P t T E bytes) (hM : ys.length + zs.length ≤ maxLen) (hb : (ys.length + zs.length) * bytes ≤ 140737488355328) (hbase : base ≤ w.heap.size) (hn : Nat.blt d n = true) (q : ∀ v' w', Own E T base w' v' (ys ++ zs) → Fr (blks u) w w' → (v' = u ∨ blks v' = blks u ∨ blks v' = [w.heap.size]) → WL P ops Q rest n ds w' ((d, v') :: L)) : WL P ops Q (⟨some d, .call ⟨.builtin .append, #[x, y], #[t, t]⟩, ty, pos, after, none⟩ :: rest) n ds w L := fun a h => st_append h hx hy ho hs he hM hb hbase hn q -- short
/-! The ways through a body. -/
theorem Sub.nil : Sub [] L := trivial
theorem Sub.cons {t : Nat} {v : Value} {r : List (Nat × Value)} (h : Lw.look L t = some v) (hr : Sub r L) : Sub ((t, v) :: r) L := ⟨h, hr⟩
theorem argsOk.nil {args : Array Value} : argsOk args [] := trivial
theorem argsOk.cons {args : Array Value} {t : Nat} {v : Value} {r : List (Nat × Value)} (h : args[t]? = some v) (hr : argsOk args r) : argsOk args ((t, v) :: r) := ⟨h, hr⟩
theorem evs_nil : evs L [] [] := trivial
theorem evs_cons {xs : List Operand} {vs : List Value} (h : ev L x = some v) (hr : evs L xs vs) : evs L (x :: xs) (v :: vs) := ⟨h, hr⟩
theorem norm_then {K : Act → World → Prop} (h : K a w) : Exit.then K Q .normal a w := h
theorem norm_blk {id : Nat} (h : Q .normal a w) : Exit.inBlock id Q .normal a w := h
theorem ret_then {K : Act → World → Prop} (h : Q .ret a w) : Exit.then K Q .ret a w := h
theorem ret_blk {id : Nat} (h : Q .ret a w) : Exit.inBlock id Q .ret a w := h
theorem exit_then {K : Act → World → Prop} {id : Nat} (h : Q (.exit id) a w) : Exit.then K Q (.exit id) a w := h
theorem cond_dec {C : Operand} {x y : Code} {p : Prop} {hp : Decidable p} (h : AgM ds a n L) (hc : ev L C = some (.bool (decide p))) (ht : p → x.wp P Q a w) (hf : ¬ p → y.wp P Q a w) : (Code.cond C x y).wp P Q a w :=
  cond_split h hc (fun e => ht (of_decide_eq_true e)) (fun e => hf (of_decide_eq_false e))
theorem cond_ndec {C : Operand} {x y : Code} {p : Prop} {hp : Decidable p} (h : AgM ds a n L) (hc : ev L C = some (.bool (!decide p))) (ht : ¬ p → x.wp P Q a w) (hf : p → y.wp P Q a w) : (Code.cond C x y).wp P Q a w :=
  cond_split h hc (fun e => ht (by simpa using e)) (fun e => hf (by simpa using e))
theorem AgM.known {D : Nat} {b b' : Bool} (h : AgM ds a n L) (hb : look L D = some (.bool b)) (e : b = b') : AgM ds a n ((D, .bool b') :: L) :=
  ⟨h.dfr, h.size, fun t v hv => by
    simp only [look] at hv
    by_cases et : D = t
    · subst et
      simp only [Nat.beq_refl, Bool.cond_true, Option.some.injEq] at hv
      rw [← hv, ← e]; exact h.at_ D _ hb
    · rw [beq_no et] at hv; exact h.at_ t v hv⟩
theorem guard_dec {D : Nat} {p G : Prop} {hp : Decidable p} (h : AgM ds a n L) (hb : look L D = some (.bool (decide p))) (ht : p → AgM ds a n ((D, .bool true) :: L) → G) (hf : ¬ p → AgM ds a n ((D, .bool false) :: L) → G) : G := by
  by_cases e : p
  · exact ht e (h.known hb (by simp [e]))
  · exact hf e (h.known hb (by simp [e]))
theorem guard_ndec {D : Nat} {p G : Prop} {hp : Decidable p} (h : AgM ds a n L) (hb : look L D = some (.bool (!decide p))) (ht : ¬ p → AgM ds a n ((D, .bool true) :: L) → G) (hf : p → AgM ds a n ((D, .bool false) :: L) → G) : G := by
  by_cases e : p
  · exact hf e (h.known hb (by simp [e]))
  · exact ht e (h.known hb (by simp [e]))
theorem guard_any {D : Nat} {b : Bool} {G : Prop} (h : AgM ds a n L) (hb : look L D = some (.bool b)) (ht : b = true → AgM ds a n ((D, .bool true) :: L) → G) (hf : b = false → AgM ds a n ((D, .bool false) :: L) → G) : G := by
  cases b
  · exact hf rfl (h.known hb rfl)
  · exact ht rfl (h.known hb rfl)
/-- The end of a region whose ways meet in one test. -/
def BoolEnd (ds : List Nat) (n r : Nat) (C : Prop) [Decidable C] (L' : List (Nat × Value)) (w0 : World) : Exit → Act → World → Prop := fun e a w => e = .normal ∧ w = w0 ∧ AgM ds a n ((r, .bool (decide C)) :: L')
theorem region_bool {id : Nat} {ol : List Oper} {r : Nat} {L' : List (Nat × Value)} (C : Prop) [Decidable C] (h : AgM ds a n L) (hs : Sub L' L) (h1 : wpList P ol.toArray (BoolEnd ds n r C L' w) ol a w) (h2 : ∀ a, AgM ds a n ((r, .bool (decide C)) :: L') → Q .normal a w) :
    (Code.region id ol.toArray false).wp P Q a w :=
  wp_mono (wp_region_lit h1) (by rintro e a w ⟨rfl, rfl, h⟩; exact h2 a h)
theorem bool_end {r : Nat} {L' : List (Nat × Value)} {C : Prop} [Decidable C] {b : Bool} (h : AgM ds a n L) (hr : look L r = some (.bool b)) (hb : b = decide C) (hs : Sub L' L) : BoolEnd ds n r C L' w .normal a w :=
  ⟨rfl, rfl, h.sub ⟨by rw [← hb]; exact hr, hs⟩⟩
theorem bt {C : Prop} {hC : Decidable C} (h : C) : true = decide C := (decide_eq_true h).symm
theorem bf {C : Prop} {hC : Decidable C} (h : ¬ C) : false = decide C := (decide_eq_false h).symm
theorem bi {p C : Prop} {hp : Decidable p} {hC : Decidable C} (h : p ↔ C) : decide p = decide C := decide_eq_decide.2 h
theorem bb {C : Prop} {hC : Decidable C} {b : Bool} (h : b = true ↔ C) : b = decide C := by
  cases b
  · exact bf (fun c => by have := h.2 c; cases this)
  · exact bt (h.1 rfl)
theorem bn {p C : Prop} {hp : Decidable p} {hC : Decidable C} (h : ¬ p ↔ C) : (!decide p) = decide C := by
  by_cases e : p <;> simp [e] at h ⊢ <;> exact h
/-- A frame of which only some slots are kept, with what is known of the world. -/
def Cut {ι : Type} (n : Nat) (L : ι → List (Nat × Value)) (I : ι → World → Prop) (a : Act) (w : World) : Prop := ∃ j, Ag a n (L j) ∧ I j w
end
end Go.Lw
namespace Go.Lw
theorem wnt {P : Program} {ops : Array Oper} {a : Act} {w : World} {Q : Exit → Act → World → Prop} {K : Act → World → Prop} (h : K a w) : wpList P ops (Exit.then K Q) [] a w := wpList_nil (norm_then h)
theorem wsn {P : Program} {a : Act} {w : World} {Q : Exit → Act → World → Prop} {K : Act → World → Prop} (h : K a w) : Code.skip.wp P (Exit.then K Q) a w := wp_skip (norm_then h)
theorem wR {P : Program} {id : Nat} {Q : Exit → Act → World → Prop} {a : Act} {w : World} {l : List Oper} (h : wpList P l.toArray Q l a w) : (Code.region id l.toArray false).wp P Q a w := wp_region_lit h
end Go.Lw
namespace Go.Lw
/-- The condition, where the operation pq has not come up yet. -/
def Sat (pq : Option Nat) (C : World → Prop) (listed : Array Bool) (w : World) : Prop :=
  match pq with
  | none => C w
  | some p => listed.getD p true = false → C w
theorem sat_of {pq : Option Nat} {C : World → Prop} {listed : Array Bool} {w : World} (h : C w) : Sat pq C listed w := by
  unfold Sat; split
  · exact h
  · exact fun _ => h
def wpAnyP (pq : Option Nat) (P : Program) (ops : Array Oper) (Q : Exit → Act → World → Prop) (C : World → Prop) : Nat → Array Bool → Act → World → Prop
  | 0, listed, a, w => Region.ready .any ops listed = [] ∧ Q .normal a w
  | fu + 1, listed, a, w => (Region.ready .any ops listed = [] → Q .normal a w) ∧ ∀ i ∈ Region.ready .any ops listed, wpOp P ops Q i (fun a' w' => Sat pq C (listed.setIfInBounds i true) w' ∧ wpAnyP pq P ops Q C fu (listed.setIfInBounds i true) a' w') a w
/-- Which operations wait for i, directly or through others. -/
def wsetL (i : Nat) : List Oper → List Bool → List Bool
  | [], acc => acc
  | o :: r, acc => wsetL i r (acc ++ [o.after.any (fun e => Region.binds .any e && (Nat.beq e.on i || acc.getD e.on false))])
def wsB (ops : Array Oper) (i m : Nat) : Bool := (wsetL i ops.toList []).getD m false
theorem getD_app_t {acc : List Bool} {b : Bool} {m : Nat} (h : acc.getD m false = true) : (acc ++ [b]).getD m false = true := by
  rcases Nat.lt_or_ge m acc.length with e | e
  · simp only [List.getD] at h ⊢; rwa [List.getElem?_append_left e]
  · simp [List.getD, List.getElem?_eq_none e] at h
theorem wset_mono (i : Nat) : ∀ (r : List Oper) (acc : List Bool) (m : Nat), acc.getD m false = true → (wsetL i r acc).getD m false = true
  | [], _, _, h => h
  | _ :: r, _, m, h => wset_mono i r _ m (getD_app_t h)
theorem wset_why (i : Nat) : ∀ (r : List Oper) (acc : List Bool) (m : Nat), (wsetL i r acc).getD m false = true → acc.getD m false = true ∨ ∃ t o, r[t]? = some o ∧ m = acc.length + t ∧ ∃ e ∈ o.after, Region.binds .any e = true ∧ (e.on = i ∨ (wsetL i r acc).getD e.on false = true)
  | [], _, _, h => .inl h
  | o :: r, acc, m, h => by
    rcases wset_why i r _ m h with h1 | ⟨t, o', h1, h2, e, h3, h4, h5⟩
    · rcases Nat.lt_trichotomy m acc.length with e | e | e
      · refine .inl ?_
        simp only [List.getD] at h1 ⊢
        rwa [List.getElem?_append_left e] at h1
      · subst e
        refine .inr ⟨0, o, rfl, rfl, ?_⟩
        simp only [List.getD, List.getElem?_append_right (Nat.le_refl _), Nat.sub_self, List.getElem?_cons_zero, Option.getD_some] at h1
        obtain ⟨e, he, hb⟩ := Array.any_eq_true'.1 h1
        rw [Bool.and_eq_true, Bool.or_eq_true] at hb
        refine ⟨e, he, hb.1, hb.2.imp Nat.eq_of_beq_eq_true fun h => ?_⟩
        exact wset_mono i r _ _ (getD_app_t h)
      · exfalso
        simp only [List.getD] at h1
        rw [List.getElem?_eq_none (by simp; omega)] at h1
        cases h1
    · exact .inr ⟨t + 1, o', h1, by rw [List.length_append] at h2; simp at h2; omega, e, h3, h4, h5⟩
theorem wsB_why {ops : Array Oper} {i m : Nat} (h : wsB ops i m = true) : ∃ o, ops[m]? = some o ∧ ∃ e ∈ o.after, Region.binds .any e = true ∧ (e.on = i ∨ wsB ops i e.on = true) := by
  rcases wset_why i _ _ _ h with h | ⟨t, o, h1, h2, r⟩
  · cases h
  · simp at h2; subst h2
    exact ⟨o, by rw [← Array.getElem?_toList]; exact h1, r⟩
def Fre (pq : Option Nat) (ops : Array Oper) (listed : Array Bool) (i : Nat) : Bool :=
  Region.free .any ops listed i && match pq with
  | none => true
  | some p => wsB ops i p && (List.range ops.size).all (fun m => !(wsB ops i m && listed.getD m true))
section
variable {P : Program} {ops : Array Oper} {Q : Exit → Act → World → Prop} {C : World → Prop} {pq : Option Nat}
theorem wpAny_of_P : ∀ (fu : Nat) (listed : Array Bool) (a : Act) (w : World), wpAnyP pq P ops Q C fu listed a w → wpAny P .any ops Q fu listed a w
  | 0, _, _, _, h => h
  | fu + 1, _, _, _, h => ⟨h.1, fun i hi => wpOp_mono (fun a' w' k => wpAny_of_P fu _ a' w' k.2) (h.2 i hi)⟩
theorem P_first {i : Nat} {oi : Oper} {v : Value} (hi : ops[i]? = some oi) (hsel : ∀ (j : Nat) (o : Oper) cs b, ops[j]? = some o → o.op ≠ .select cs b) (hQ : ∀ c a w, Q (.panic c) (a.put oi.dst v) w → Q (.panic c) a w) (hwt : ∀ p, pq = some p → wsB ops i p = true) :
    ∀ (fu : Nat) (listed : Array Bool) (a : Act) (w : World), (∀ j oj, ops[j]? = some oj → j ≠ i → listed.getD j true = false → (∀ e ∈ oj.after, Region.binds .any e = true → e.on ≠ i) → oi.apart ops oj = true) →
      i ∈ Region.ready .any ops listed → (∀ p, pq = some p → ∀ m, wsB ops i m = true → listed.getD m true = false) → YieldsIf P ops C oi v a → C w → wpAnyP pq P ops Q C fu (listed.setIfInBounds i true) (a.put oi.dst v) w → wpAnyP pq P ops Q C (fu + 1) listed a w := by
  intro fu
  induction fu with
  | zero =>
    intro listed a w _ hr _ hy hC H
    refine ⟨fun e => (by rw [e] at hr; cases hr), fun j hj => ?_⟩
    rcases Decidable.em (j = i) with rfl | hne
    · exact hy.wpOp hi hC ⟨sat_of hC, H⟩
    · exact absurd (ready_mono hj hne) (by rw [H.1]; simp)
  | succ fu ih =>
    intro listed a w hfr hr hp hy hC H
    refine ⟨fun e => (by rw [e] at hr; cases hr), fun j hj => ?_⟩
    rcases Decidable.em (j = i) with rfl | hne
    · exact hy.wpOp hi hC ⟨sat_of hC, H⟩
    obtain ⟨hju, oj, hoj, hall⟩ := mem_ready.1 hj
    have flip : ∀ m, listed.getD m true = false → ¬ listed.getD m false = true := fun m hun => by
      rcases Nat.lt_or_ge m listed.size with h | h
      · simp [h] at hun ⊢; exact hun
      · simp [Array.getElem?_eq_none h]
    have hun' := flip i (mem_ready.1 hr).1
    have hno : ∀ e ∈ oj.after, Region.binds .any e = true → e.on ≠ i := fun e he hb heq => hun' (heq ▸ hall e he hb)
    have nw : ∀ p, pq = some p → ∀ m om, ops[m]? = some om → (∀ e ∈ om.after, Region.binds .any e = true → listed.getD e.on false = true) → ¬ wsB ops i m = true := fun p e m om hm hal hw => by
      obtain ⟨o, ho, e', he, hb, h⟩ := wsB_why hw
      rw [hm] at ho; cases ho
      rcases h with h | h
      · exact hun' (h ▸ hal e' he hb)
      · exact flip _ (hp p e _ h) (hal e' he hb)
    have hjw : ∀ p, pq = some p → ¬ wsB ops i j = true := fun p e => nw p e j oj hoj hall
    have hiw : ∀ p, pq = some p → ¬ wsB ops i i = true := fun p e => by
      obtain ⟨_, o, ho, hal⟩ := mem_ready.1 hr
      exact nw p e i o ho hal
    have h2 := wpOp_putIf hoj (hfr j oj hoj hne hju hno) (fun cs b => hsel i oi cs b hi) (fun cs b => hsel j oj cs b hoj) hQ hy (H.2 j (ready_mono hj hne))
    refine wpOp_mono (fun a' w' k => ?_) h2
    have hc' : C w' := by
      have hs := k.2.1
      unfold Sat at hs
      split at hs
      · exact hs
      · rename_i p
        have hpw := hwt p rfl
        refine hs ?_
        have n1 : j ≠ p := fun e => hjw p rfl (by rw [e]; exact hpw)
        have n2 : i ≠ p := fun e => hiw p rfl (by rw (occs := .pos [2]) [e]; exact hpw)
        rw [getD_set_ne true n1, getD_set_ne true n2]
        exact hp p rfl p hpw
    refine ⟨sat_of hc', ih (listed.setIfInBounds j true) a' w' (fun m om hm hmi hmu hmn => hfr m om hm hmi ?_ hmn) (ready_mono hr (Ne.symm hne)) (fun p e m hm => by
      have n1 : j ≠ m := fun e' => hjw p e (by rw [e']; exact hm)
      rw [getD_set_ne true n1]; exact hp p e m hm) k.1 hc' ?_⟩
    · rcases Decidable.em (j = m) with rfl | hjm
      · exact hju
      · rwa [getD_set_ne true hjm] at hmu
    · rw [Array.setIfInBounds_comm _ _ hne]; exact k.2.2
theorem P_take {i : Nat} {oi : Oper} {v : Value} {fu : Nat} {listed : Array Bool} {a : Act} {w : World} (hi : ops[i]? = some oi) (hs : Region.noSelect ops = true) (hf : Fre pq ops listed i = true) (hr : (Region.ready .any ops listed).contains i = true)
    (hQ : ∀ c a w, Q (.panic c) (a.put oi.dst v) w → Q (.panic c) a w) (hy : YieldsIf P ops C oi v a) (hC : C w) (h : wpAnyP pq P ops Q C fu (listed.setIfInBounds i true) (a.put oi.dst v) w) : wpAnyP pq P ops Q C (fu + 1) listed a w := by
  unfold Fre at hf
  rw [Bool.and_eq_true] at hf
  refine P_first hi (Region.noSelect_spec hs) hQ (fun p e => ?_) fu listed a w (Region.free_spec hi hf.1) (by simpa using hr) (fun p e m hm => ?_) hy hC h
  · have := hf.2; subst e; simp only [Bool.and_eq_true] at this; exact this.1
  · have := hf.2; subst e; simp only [Bool.and_eq_true, List.all_eq_true, List.mem_range] at this
    obtain ⟨o, ho, _⟩ := wsB_why hm
    have h2 := this.2 m (Array.getElem?_eq_some_iff.1 ho).1
    rw [hm] at h2; simpa using h2
theorem P_all {rs : List Nat} {fu : Nat} {listed : Array Bool} {a : Act} {w : World} (hr : Region.ready .any ops listed = rs) (hne : rs ≠ [])
    (h : ∀ i ∈ rs, wpOp P ops Q i (fun a' w' => Sat pq C (listed.setIfInBounds i true) w' ∧ wpAnyP pq P ops Q C fu (listed.setIfInBounds i true) a' w') a w) : wpAnyP pq P ops Q C (fu + 1) listed a w :=
  ⟨fun e => absurd (hr.symm.trans e) hne, fun i hi => h i (hr ▸ hi)⟩
theorem P_done {listed : Array Bool} {a : Act} {w : World} (hr : Region.ready .any ops listed = []) (h : Q .normal a w) : ∀ fu, wpAnyP pq P ops Q C fu listed a w
  | 0 => ⟨hr, h⟩
  | _ + 1 => ⟨fun _ => h, by rw [hr]; intro i hi; cases hi⟩
end
end Go.Lw
namespace Go.Lw
open Go.RowKit
section
variable {P : Program} {a : Act} {n : Nat} {L : List (Nat × Value)} {ds : List Nat} {C : World → Prop} {Qa : Act → Prop} {ops : Array Oper} {rest : List Oper} {o : Oper}
theorem qt_ok {d : Nat} {v : Value} (h : AgM ds a n L) (hg : o.guard = none) (hd : o.dst = some d) (hn : Nat.blt d n = true) (hr : ∀ w, C w → (execOp a.eval o).run P w = .ok (.value v) w)
    (k : ∀ a, AgM ds a n ((d, v) :: L) → wpQuiet P ops C Qa rest a) : wpQuiet P ops C Qa (o :: rest) a := by
  unfold wpQuiet
  rw [if_pos (by simp [Region.wanted, hg])]
  refine ⟨v, fun w hw => ?_, ?_⟩
  · unfold Oper.quietAt; rw [hr w hw]; exact ⟨rfl, rfl⟩
  · rw [hd]; exact k _ (h.put hn v)
theorem qt_call {d : Nat} {v : Value} {f : FuncId} {xs : List Operand} {vs : List Value} {ts : Array TypeId} {ty : TypeId} {pos : String} {after : Array Edge} (h : AgM ds a n L) (hx : evs L xs vs) (hf : CallOf P f) (hc : ∀ w, C w → Rets P f vs.toArray w fun u w' => u = v ∧ C w') (hn : Nat.blt d n = true)
    (q : ∀ a, AgM ds a n ((d, v) :: L) → wpQuiet P ops C Qa rest a) : wpQuiet P ops C Qa (⟨some d, .call ⟨.value (.func f), xs.toArray, ts⟩, ty, pos, after, none⟩ :: rest) a := by
  unfold wpQuiet
  rw [if_pos (by simp [Region.wanted])]
  refine ⟨v, fun w hw => ?_, q _ (h.put hn v)⟩
  unfold Oper.quietAt
  rw [execOp_call_go]
  simp only [List.map_toArray, h.evals hx, List.append_toArray, List.nil_append, List.append_nil]
  rw [hf]
  exact ⟨rfl, Calls.mono (hc w hw) fun e w' ⟨u, he, hu, hC⟩ => ⟨by rw [he, hu], hC⟩⟩
theorem qd_no {d j dj : Nat} {oj : Oper} {want b : Bool} (h : AgM ds a n L) (hg : o.guard = some (j, want)) (hj : ops[j]? = some oj) (hdj : oj.dst = some dj) (hnj : Nat.blt dj n = true)
    (hb : look L dj = some (.bool b)) (hne : (b == want) = false) (hd : o.dst = some d) (hn : Nat.blt d n = true)
    (k : ∀ a, AgM ds a n ((d, undef) :: L) → wpQuiet P ops C Qa rest a) : wpQuiet P ops C Qa (o :: rest) a := by
  have hy := yielded_of (ops := ops) h hj hdj hnj hb
  unfold wpQuiet
  rw [if_neg (by simp only [Region.wanted, hg, hy]; simpa using hne), hd]
  exact k _ (h.put hn undef)
theorem qd_yes {j dj : Nat} {oj : Oper} {want b : Bool} (h : AgM ds a n L) (hg : o.guard = some (j, want)) (hj : ops[j]? = some oj) (hdj : oj.dst = some dj) (hnj : Nat.blt dj n = true)
    (hb : look L dj = some (.bool b)) (he : (b == want) = true)
    (k : wpQuiet P ops C Qa ({ o with guard := none } :: rest) a) : wpQuiet P ops C Qa (o :: rest) a := by
  have hy := yielded_of (ops := ops) h hj hdj hnj hb
  unfold wpQuiet at k ⊢
  rw [if_pos (by simp [Region.wanted])] at k
  rw [if_pos (by simp only [Region.wanted, hg, hy]; simpa using he)]
  exact k
/-- A region that draws its order, of quiet operations: in the order of the text; behind it any later world. -/
theorem region_quiet {id : Nat} {Q : Exit → Act → World → Prop} {w : World} {l : List Oper} (hm : P.follows .mixedOrders = true) (hB : Region.lexB .any l.toArray = true)
    (h : wpQuiet P l.toArray (fun w' => Fr [] w w') (fun a' => ∀ w', Fr [] w w' → Q .normal a' w') l a) : (Code.region id l.toArray true).wp P Q a w :=
  wp_region_quiet (C := fun w' => Fr [] w w') hm hB (Fr.drew [] w) (by simpa using h)
/-- The end of a region: no way out but the normal one. -/
def NormEnd (K : Act → World → Prop) : Exit → Act → World → Prop
  | .normal, a, w => K a w
  | _, _, _ => False
/-- A region that draws its order, of mixed operations, under a condition on all worlds that come up. -/
theorem region_heldP (pq : Option Nat) {id : Nat} {Q : Exit → Act → World → Prop} {w : World} {l : List Oper} (C : World → World → Prop) (hm : P.follows .mixedOrders = true)
    (h : ∀ w', Fr [] w w' → wpAnyP pq P l.toArray (NormEnd (Q .normal)) (C w') l.length (Array.replicate l.length false) a w') : (Code.region id l.toArray true).wp P Q a w := by
  refine wp_mono (wp_region_any (Q := NormEnd (Q .normal)) hm (wpAny_of_P (C := C w.drew) _ _ _ _ (by simpa using h _ (Fr.drew [] w)))) ?_
  intro e a w hq
  cases e <;> first | exact hq | exact hq.elim
theorem region_held {id : Nat} {Q : Exit → Act → World → Prop} {w : World} {l : List Oper} (C : World → World → Prop) (hm : P.follows .mixedOrders = true)
    (h : ∀ w', Fr [] w w' → wpAnyP none P l.toArray (NormEnd (Q .normal)) (C w') l.length (Array.replicate l.length false) a w') : (Code.region id l.toArray true).wp P Q a w := region_heldP none C hm h
section
variable {K : Act → World → Prop} {fu : Nat} {listed : Array Bool} {pq : Option Nat} {w : World}
/-- An operation with this guard is wanted. -/
def Wd (ops : Array Oper) (n : Nat) (L : List (Nat × Value)) (G : Option (Nat × Bool)) : Prop := ∀ a ds, AgM ds a n L → ∀ o : Oper, o.guard = G → Region.wanted o (yielded ops a.tmps) = true
theorem wn : Wd ops n L none := fun _ _ _ o ho => by simp [Region.wanted, ho]
theorem hd_ok (ix : Nat) (hsel : Region.noSelect ops = true) (hfr : Fre pq ops listed ix = true) (hre : (Region.ready .any ops listed).contains ix = true) (hC : C w) {d : Nat} {v : Value} (h : AgM ds a n L) (hG : Wd ops n L o.guard) (hix : ops[ix]? = some o) (hd : o.dst = some d) (hn : Nat.blt d n = true)
    (hr : ∀ w, C w → (execOp a.eval o).run P w = .ok (.value v) w) (k : ∀ a, AgM ds a n ((d, v) :: L) → wpAnyP pq P ops (NormEnd K) C fu (listed.setIfInBounds ix true) a w) : wpAnyP pq P ops (NormEnd K) C (fu + 1) listed a w :=
  P_take hix hsel hfr hre (fun _ _ _ h => h) (.inl ⟨hG a ds h o rfl, hr⟩) hC (by rw [hd]; exact k _ (h.put hn v))
/-- The one operation that may come up. -/
theorem hd_one (ix : Nat) (hr : Region.ready .any ops listed = [ix]) (hix : ops[ix]? = some o) (k : wpList P ops (NormEnd fun a' w' => Sat pq C (listed.setIfInBounds ix true) w' ∧ wpAnyP pq P ops (NormEnd K) C fu (listed.setIfInBounds ix true) a' w') [o] a w) :
    wpAnyP pq P ops (NormEnd K) C (fu + 1) listed a w := by
  refine P_all hr (by simp) fun i hi => ?_
  simp at hi; subst hi
  unfold wpOp
  rw [hix]
  unfold wpList at k
  simp only
  split
  · rename_i hw
    rw [if_pos hw] at k
    rcases k with k | ⟨_, _, _, k⟩
    · refine .inl (Oper.wp_mono (fun a w h => h) ?_)
      unfold Oper.wp at k ⊢
      generalize (execOp a.eval o).run P w = r at k ⊢
      cases r with
      | ok nx w' =>
        cases nx <;> simp only [Oper.upon] at k ⊢ <;> first
          | exact k
          | exact Calls.mono k (fun e w'' he => by cases e <;> first | exact he | exact he.elim | (obtain ⟨_, _, he⟩ := he; exact he.elim))
          | exact Rows.mono k (fun _ _ he => he)
      | halt x w' => cases x <;> simp only [Oper.upon] at k ⊢ <;> exact k.elim
    · exact k.elim
  · rename_i hw
    rw [if_neg hw] at k
    exact k
theorem hd_end (hr : Region.ready .any ops listed = []) (h : K a w) : wpAnyP pq P ops (NormEnd K) C fu listed a w := P_done hr h fu
theorem hd_next {W : Act → World → Prop} (hC : C w) (h : W a w) : wpList P ops (NormEnd fun a' w' => Sat pq C listed w' ∧ W a' w') [] a w := ⟨sat_of hC, h⟩
theorem hd_past {W : Act → World → Prop} {p : Nat} (hp : listed.getD p true = true) (h : W a w) : wpList P ops (NormEnd fun a' w' => Sat (some p) C listed w' ∧ W a' w') [] a w := ⟨fun e => absurd (hp.symm.trans e) (by simp), h⟩
end
variable {d : Nat} {ty : TypeId} {pos : String} {after : Array Edge} {v u : Value} {x y z : Operand} {t t' T : TypeId} {k k' : IntKind} {i j : Int} {b c : Bool} {l l' : List UInt8} {A : Option Addr} {m cp : Nat} {G : Option (Nat × Bool)}
theorem qt_move (h : AgM ds a n L) (hx : ev L x = some v) (hn : Nat.blt d n = true) (q : ∀ a, AgM ds a n ((d, v) :: L) → wpQuiet P ops C Qa rest a) :
    wpQuiet P ops C Qa (⟨some d, .move x, ty, pos, after, none⟩ :: rest) a :=
  qt_ok h rfl rfl hn (fun w _hw => by simp [execOp, h.eval hx]) q
theorem qt_assign (h : AgM ds a n L) (hx : ev L x = some v) (hn : Nat.blt d n = true) (q : ∀ a, AgM ds a n ((d, v) :: L) → wpQuiet P ops C Qa rest a) :
    wpQuiet P ops C Qa (⟨some d, .assign x, ty, pos, after, none⟩ :: rest) a :=
  qt_ok h rfl rfl hn (fun w _hw => by simp [execOp, h.eval hx]) q
theorem qt_pick_t {z : Value} {x1 x2 : Operand} (h : AgM ds a n L) (hx : ev L x = some (.bool b)) (hb : b = true) (hv : ev L x1 = some z) (hn : Nat.blt d n = true) (q : ∀ a, AgM ds a n ((d, z) :: L) → wpQuiet P ops C Qa rest a) :
    wpQuiet P ops C Qa (⟨some d, .pick x x1 x2, ty, pos, after, none⟩ :: rest) a :=
  qt_ok h rfl rfl hn (fun w _hw => by subst hb; simp [execOp, h.eval hx, asBool, h.eval hv]) q
theorem qt_pick_f {z : Value} {x1 x2 : Operand} (h : AgM ds a n L) (hx : ev L x = some (.bool b)) (hb : b = false) (hv : ev L x2 = some z) (hn : Nat.blt d n = true) (q : ∀ a, AgM ds a n ((d, z) :: L) → wpQuiet P ops C Qa rest a) :
    wpQuiet P ops C Qa (⟨some d, .pick x x1 x2, ty, pos, after, none⟩ :: rest) a :=
  qt_ok h rfl rfl hn (fun w _hw => by subst hb; simp [execOp, h.eval hx, asBool, h.eval hv]) q
theorem qt_add {z : Int} (h : AgM ds a n L) (hx : ev L x = some (.int k i)) (hy : ev L y = some (.int k j)) (hz : k.wrap (i + j) = z) (hn : Nat.blt d n = true) (q : ∀ a, AgM ds a n ((d, .int k z) :: L) → wpQuiet P ops C Qa rest a) :
    wpQuiet P ops C Qa (⟨some d, .binOp .add t x y t', ty, pos, after, none⟩ :: rest) a :=
  qt_ok h rfl rfl hn (fun w _hw => by subst hz; simp [execOp, h.eval hx, h.eval hy, eqGuard_add, binOp_add, Op.intArith]) q
theorem qt_sub {z : Int} (h : AgM ds a n L) (hx : ev L x = some (.int k i)) (hy : ev L y = some (.int k j)) (hz : k.wrap (i - j) = z) (hn : Nat.blt d n = true) (q : ∀ a, AgM ds a n ((d, .int k z) :: L) → wpQuiet P ops C Qa rest a) :
    wpQuiet P ops C Qa (⟨some d, .binOp .sub t x y t', ty, pos, after, none⟩ :: rest) a :=
  qt_ok h rfl rfl hn (fun w _hw => by subst hz; simp [execOp, h.eval hx, h.eval hy, eqGuard_sub, binOp_sub, Op.intArith]) q
theorem qt_ne (h : AgM ds a n L) (hx : ev L x = some (.int k i)) (hy : ev L y = some (.int k j)) (hn : Nat.blt d n = true) (q : ∀ a, AgM ds a n ((d, .bool (decide (i ≠ j))) :: L) → wpQuiet P ops C Qa rest a) :
    wpQuiet P ops C Qa (⟨some d, .binOp .neq t x y t', ty, pos, after, none⟩ :: rest) a :=
  qt_ok h rfl rfl hn (fun w _hw => by simp [execOp, h.eval hx, h.eval hy, eqGuard_at_int, binOp_neq, bne, beq_dec]) q
theorem qt_le (h : AgM ds a n L) (hx : ev L x = some (.int k i)) (hy : ev L y = some (.int k j)) (hn : Nat.blt d n = true) (q : ∀ a, AgM ds a n ((d, .bool (decide (i ≤ j))) :: L) → wpQuiet P ops C Qa rest a) :
    wpQuiet P ops C Qa (⟨some d, .binOp .leq t x y t', ty, pos, after, none⟩ :: rest) a :=
  qt_ok h rfl rfl hn (fun w _hw => by simp [execOp, h.eval hx, h.eval hy, eqGuard_leq, binOp_leq]) q
theorem qt_gt (h : AgM ds a n L) (hx : ev L x = some (.int k i)) (hy : ev L y = some (.int k j)) (hn : Nat.blt d n = true) (q : ∀ a, AgM ds a n ((d, .bool (decide (j < i))) :: L) → wpQuiet P ops C Qa rest a) :
    wpQuiet P ops C Qa (⟨some d, .binOp .gtr t x y t', ty, pos, after, none⟩ :: rest) a :=
  qt_ok h rfl rfl hn (fun w _hw => by simp [execOp, h.eval hx, h.eval hy, eqGuard_gtr, binOp_gtr]) q
theorem qt_adds (h : AgM ds a n L) (hx : ev L x = some (S l)) (hy : ev L y = some (S l')) (hb : l.length + l'.length ≤ 9223372036854775807) (hn : Nat.blt d n = true)
    (q : ∀ a, AgM ds a n ((d, S (l ++ l')) :: L) → wpQuiet P ops C Qa rest a) : wpQuiet P ops C Qa (⟨some d, .binOp .add t x y t', ty, pos, after, none⟩ :: rest) a :=
  qt_ok h rfl rfl hn (fun w _hw => by
    have hr := run_string_add_sum (P := P) w ⟨l.toArray⟩ ⟨l'.toArray⟩ (by simpa [ByteArray.size] using hb)
    rw [ByteArray.mk_append_mk] at hr
    simp [execOp, h.eval hx, h.eval hy, S, eqGuard_add, binOp_string_add, hr]) q
theorem qt_lenS (h : AgM ds a n L) (hx : ev L x = some (.slice A m cp)) (hu : P.underlying t = some (.slice T)) (hn : Nat.blt d n = true) (q : ∀ a, AgM ds a n ((d, .int .i64 (m : Int)) :: L) → wpQuiet P ops C Qa rest a) :
    wpQuiet P ops C Qa (⟨some d, .call ⟨.builtin .len, #[x], #[t]⟩, ty, pos, after, none⟩ :: rest) a :=
  qt_ok h rfl rfl hn (fun w _hw => by
    rw [exec_builtin]; unfold builtin
    simp [h.eval hx, Builtin.len_, run_underlying hu]
    rfl) q
theorem qt_sl_h {p : Nat} {α : Type} {E : Enc α} {bytes : Nat} (h : AgM ds a n L) (hx : ev L x = some (.slice A m cp)) (hz : ev L z = some (.int k' j)) (he : ElemOf P t T E bytes) (h0 : 0 ≤ j) (h2 : j ≤ cp) (hp : j.toNat = p) (hn : Nat.blt d n = true)
    (q : ∀ a, AgM ds a n ((d, .slice A p cp) :: L) → wpQuiet P ops C Qa rest a) : wpQuiet P ops C Qa (⟨some d, .slice t x none (some z) none, ty, pos, after, none⟩ :: rest) a := by
  subst hp
  obtain ⟨inf, zv, hin, _, hsz, _⟩ := he.info
  exact qt_ok h rfl rfl hn (fun w _hw => by
    have hA : Option.map (fun x => Addr.add x 0) A = A := by cases A <;> simp [Addr.add]
    simp [execOp, h.eval hx, h.eval hz, Instr.sliceAt, Instr.slice, run_underlying he.und, Instr.sliceBounds, Instr.sliceBound, asIntOf, h0, h2, sizeOf, typeInfo, hin, hA]) q
theorem qt_sl_l {p : Nat} {α : Type} {E : Enc α} {bytes : Nat} (h : AgM ds a n L) (hx : ev L x = some (.slice A m cp)) (hy : ev L y = some (.int k i)) (he : ElemOf P t T E bytes) (h0 : 0 ≤ i) (h1 : i ≤ m) (hp : i.toNat = p) (hn : Nat.blt d n = true)
    (q : ∀ a, AgM ds a n ((d, .slice (if cp = p then A else A.map (·.add (p * E.sz))) (m - p) (cp - p)) :: L) → wpQuiet P ops C Qa rest a) : wpQuiet P ops C Qa (⟨some d, .slice t x (some y) none none, ty, pos, after, none⟩ :: rest) a := by
  subst hp
  obtain ⟨inf, zv, hin, _, hsz, _⟩ := he.info
  exact qt_ok h rfl rfl hn (fun w _hw => by
    simp [execOp, h.eval hx, h.eval hy, Instr.sliceAt, Instr.slice, run_underlying he.und, Instr.sliceBounds, Instr.sliceBound, asIntOf, h0, h1, sizeOf, typeInfo, hin, hsz]) q
theorem qt_load {ad : Addr} (h : AgM ds a n L) (hx : ev L x = some (.pointer (some ad))) (hc : ∀ w, C w → w.cell? ad = some v) (hg : NotAgg P t) (hn : Nat.blt d n = true) (q : ∀ a, AgM ds a n ((d, v) :: L) → wpQuiet P ops C Qa rest a) :
    wpQuiet P ops C Qa (⟨some d, .load t x, ty, pos, after, none⟩ :: rest) a :=
  qt_ok h rfl rfl hn (fun w _hw => by simp [execOp, h.eval hx, Instr.loadAt, Instr.sureAddr, loadVar, hg w, hc w _hw]) q
theorem qt_loadA {ad : Addr} {cs : List Value} (h : AgM ds a n L) (hx : ev L x = some (.pointer (some ad))) (hc : ∀ w, C w → Cells w ad cs) (hg : AggOf P t cs.length) (hn : Nat.blt d n = true) (q : ∀ a, AgM ds a n ((d, .agg cs.toArray) :: L) → wpQuiet P ops C Qa rest a) :
    wpQuiet P ops C Qa (⟨some d, .load t x, ty, pos, after, none⟩ :: rest) a :=
  qt_ok h rfl rfl hn (fun w _hw => by simp [execOp, h.eval hx, Instr.loadAt, Instr.sureAddr, loadVar, hg.1 w, hg.2 w, run_loadCells_list w ad cs (hc w _hw)]) q
theorem qt_fieldAddr {ad : Addr} {f off : Nat} (h : AgM ds a n L) (hx : ev L x = some (.pointer (some ad))) (hf : FieldAt P t f off) (hn : Nat.blt d n = true) (q : ∀ a, AgM ds a n ((d, .pointer (some (ad.add off))) :: L) → wpQuiet P ops C Qa rest a) :
    wpQuiet P ops C Qa (⟨some d, .fieldAddr t x f, ty, pos, after, none⟩ :: rest) a :=
  qt_ok h rfl rfl hn (fun w _hw => by simp [execOp, h.eval hx, hf ad w]) q
section
variable {K : Act → World → Prop} {fu : Nat} {listed : Array Bool} {pq : Option Nat} {w : World}
theorem hd_move (ix : Nat) (hsel : Region.noSelect ops = true) (hfr : Fre pq ops listed ix = true) (hre : (Region.ready .any ops listed).contains ix = true) (hC : C w) (h : AgM ds a n L) (hG : Wd ops n L G) (hx : ev L x = some v) (hix : ops[ix]? = some ⟨some d, .move x, ty, pos, after, G⟩) (hn : Nat.blt d n = true) (q : ∀ a, AgM ds a n ((d, v) :: L) → wpAnyP pq P ops (NormEnd K) C fu (listed.setIfInBounds ix true) a w) :
    wpAnyP pq P ops (NormEnd K) C (fu + 1) listed a w :=
  hd_ok ix hsel hfr hre hC h hG hix rfl hn (fun w _hw => by simp [execOp, h.eval hx]) q
theorem hd_add {z : Int} (ix : Nat) (hsel : Region.noSelect ops = true) (hfr : Fre pq ops listed ix = true) (hre : (Region.ready .any ops listed).contains ix = true) (hC : C w) (h : AgM ds a n L) (hG : Wd ops n L G) (hx : ev L x = some (.int k i)) (hy : ev L y = some (.int k j)) (hz : k.wrap (i + j) = z) (hix : ops[ix]? = some ⟨some d, .binOp .add t x y t', ty, pos, after, G⟩) (hn : Nat.blt d n = true) (q : ∀ a, AgM ds a n ((d, .int k z) :: L) → wpAnyP pq P ops (NormEnd K) C fu (listed.setIfInBounds ix true) a w) :
    wpAnyP pq P ops (NormEnd K) C (fu + 1) listed a w :=
  hd_ok ix hsel hfr hre hC h hG hix rfl hn (fun w _hw => by subst hz; simp [execOp, h.eval hx, h.eval hy, eqGuard_add, binOp_add, Op.intArith]) q
theorem hd_sub {z : Int} (ix : Nat) (hsel : Region.noSelect ops = true) (hfr : Fre pq ops listed ix = true) (hre : (Region.ready .any ops listed).contains ix = true) (hC : C w) (h : AgM ds a n L) (hG : Wd ops n L G) (hx : ev L x = some (.int k i)) (hy : ev L y = some (.int k j)) (hz : k.wrap (i - j) = z) (hix : ops[ix]? = some ⟨some d, .binOp .sub t x y t', ty, pos, after, G⟩) (hn : Nat.blt d n = true) (q : ∀ a, AgM ds a n ((d, .int k z) :: L) → wpAnyP pq P ops (NormEnd K) C fu (listed.setIfInBounds ix true) a w) :
    wpAnyP pq P ops (NormEnd K) C (fu + 1) listed a w :=
  hd_ok ix hsel hfr hre hC h hG hix rfl hn (fun w _hw => by subst hz; simp [execOp, h.eval hx, h.eval hy, eqGuard_sub, binOp_sub, Op.intArith]) q
theorem hd_mul {z : Int} (ix : Nat) (hsel : Region.noSelect ops = true) (hfr : Fre pq ops listed ix = true) (hre : (Region.ready .any ops listed).contains ix = true) (hC : C w) (h : AgM ds a n L) (hG : Wd ops n L G) (hx : ev L x = some (.int k i)) (hy : ev L y = some (.int k j)) (hz : k.wrap (i * j) = z) (hix : ops[ix]? = some ⟨some d, .binOp .mul t x y t', ty, pos, after, G⟩) (hn : Nat.blt d n = true) (q : ∀ a, AgM ds a n ((d, .int k z) :: L) → wpAnyP pq P ops (NormEnd K) C fu (listed.setIfInBounds ix true) a w) :
    wpAnyP pq P ops (NormEnd K) C (fu + 1) listed a w :=
  hd_ok ix hsel hfr hre hC h hG hix rfl hn (fun w _hw => by subst hz; simp [execOp, h.eval hx, h.eval hy, eqGuard_mul, binOp_mul, Op.intArith]) q
theorem hd_rem {z : Int} (ix : Nat) (hsel : Region.noSelect ops = true) (hfr : Fre pq ops listed ix = true) (hre : (Region.ready .any ops listed).contains ix = true) (hC : C w) (h : AgM ds a n L) (hG : Wd ops n L G) (hx : ev L x = some (.int k i)) (hy : ev L y = some (.int k j)) (h0 : j ≠ 0) (hz : i.tmod j = z) (hix : ops[ix]? = some ⟨some d, .binOp .rem t x y t', ty, pos, after, G⟩) (hn : Nat.blt d n = true) (q : ∀ a, AgM ds a n ((d, .int k z) :: L) → wpAnyP pq P ops (NormEnd K) C fu (listed.setIfInBounds ix true) a w) :
    wpAnyP pq P ops (NormEnd K) C (fu + 1) listed a w :=
  hd_ok ix hsel hfr hre hC h hG hix rfl hn (fun w _hw => by subst hz; simp [execOp, h.eval hx, h.eval hy, eqGuard_rem, binOp_rem, Op.intDiv, h0]) q
theorem hd_ne (ix : Nat) (hsel : Region.noSelect ops = true) (hfr : Fre pq ops listed ix = true) (hre : (Region.ready .any ops listed).contains ix = true) (hC : C w) (h : AgM ds a n L) (hG : Wd ops n L G) (hx : ev L x = some (.int k i)) (hy : ev L y = some (.int k j)) (hix : ops[ix]? = some ⟨some d, .binOp .neq t x y t', ty, pos, after, G⟩) (hn : Nat.blt d n = true) (q : ∀ a, AgM ds a n ((d, .bool (decide (i ≠ j))) :: L) → wpAnyP pq P ops (NormEnd K) C fu (listed.setIfInBounds ix true) a w) :
    wpAnyP pq P ops (NormEnd K) C (fu + 1) listed a w :=
  hd_ok ix hsel hfr hre hC h hG hix rfl hn (fun w _hw => by simp [execOp, h.eval hx, h.eval hy, eqGuard_at_int, binOp_neq, bne, beq_dec]) q
theorem hd_conv {z : Int} (ix : Nat) (hsel : Region.noSelect ops = true) (hfr : Fre pq ops listed ix = true) (hre : (Region.ready .any ops listed).contains ix = true) (hC : C w) (h : AgM ds a n L) (hG : Wd ops n L G) (hx : ev L x = some (.int k i)) (hs : (P.underlying t).isSome = true) (hd : P.underlying t' = some (.int k')) (hz : k'.wrap i = z) (hix : ops[ix]? = some ⟨some d, .convert t t' x, ty, pos, after, G⟩) (hn : Nat.blt d n = true) (q : ∀ a, AgM ds a n ((d, .int k' z) :: L) → wpAnyP pq P ops (NormEnd K) C fu (listed.setIfInBounds ix true) a w) :
    wpAnyP pq P ops (NormEnd K) C (fu + 1) listed a w :=
  hd_ok ix hsel hfr hre hC h hG hix rfl hn (fun w _hw => by
    obtain ⟨u, hu⟩ := Option.isSome_iff_exists.mp hs
    subst hz; simp [execOp, h.eval hx, convert, run_underlying hu, run_underlying hd, Conv.intToInt]) q
theorem hd_nes (ix : Nat) (hsel : Region.noSelect ops = true) (hfr : Fre pq ops listed ix = true) (hre : (Region.ready .any ops listed).contains ix = true) (hC : C w) (h : AgM ds a n L) (hG : Wd ops n L G) (hx : ev L x = some (S l)) (hy : ev L y = some (S l')) (hix : ops[ix]? = some ⟨some d, .binOp .neq t x y t', ty, pos, after, G⟩) (hn : Nat.blt d n = true)
    (q : ∀ a, AgM ds a n ((d, .bool (decide (l ≠ l'))) :: L) → wpAnyP pq P ops (NormEnd K) C fu (listed.setIfInBounds ix true) a w) : wpAnyP pq P ops (NormEnd K) C (fu + 1) listed a w :=
  hd_ok ix hsel hfr hre hC h hG hix rfl hn (fun w _hw => by simp [execOp, h.eval hx, h.eval hy, S, eqGuard_at_string, binOp_string_neq]; by_cases e : l = l' <;> simp [e]) q
theorem hd_lenS (ix : Nat) (hsel : Region.noSelect ops = true) (hfr : Fre pq ops listed ix = true) (hre : (Region.ready .any ops listed).contains ix = true) (hC : C w) (h : AgM ds a n L) (hG : Wd ops n L G) (hx : ev L x = some (.slice A m cp)) (hu : P.underlying t = some (.slice T)) (hix : ops[ix]? = some ⟨some d, .call ⟨.builtin .len, #[x], #[t]⟩, ty, pos, after, G⟩) (hn : Nat.blt d n = true) (q : ∀ a, AgM ds a n ((d, .int .i64 (m : Int)) :: L) → wpAnyP pq P ops (NormEnd K) C fu (listed.setIfInBounds ix true) a w) :
    wpAnyP pq P ops (NormEnd K) C (fu + 1) listed a w :=
  hd_ok ix hsel hfr hre hC h hG hix rfl hn (fun w _hw => by
    rw [exec_builtin]; unfold builtin
    simp [h.eval hx, Builtin.len_, run_underlying hu]
    rfl) q
theorem hd_sl_h {p : Nat} {α : Type} {E : Enc α} {bytes : Nat} (ix : Nat) (hsel : Region.noSelect ops = true) (hfr : Fre pq ops listed ix = true) (hre : (Region.ready .any ops listed).contains ix = true) (hC : C w) (h : AgM ds a n L) (hG : Wd ops n L G) (hx : ev L x = some (.slice A m cp)) (hz : ev L z = some (.int k' j)) (he : ElemOf P t T E bytes) (h0 : 0 ≤ j) (h2 : j ≤ cp) (hp : j.toNat = p) (hix : ops[ix]? = some ⟨some d, .slice t x none (some z) none, ty, pos, after, G⟩) (hn : Nat.blt d n = true)
    (q : ∀ a, AgM ds a n ((d, .slice A p cp) :: L) → wpAnyP pq P ops (NormEnd K) C fu (listed.setIfInBounds ix true) a w) : wpAnyP pq P ops (NormEnd K) C (fu + 1) listed a w := by
  subst hp
  obtain ⟨inf, zv, hin, _, hsz, _⟩ := he.info
  exact hd_ok ix hsel hfr hre hC h hG hix rfl hn (fun w _hw => by
    have hA : Option.map (fun x => Addr.add x 0) A = A := by cases A <;> simp [Addr.add]
    simp [execOp, h.eval hx, h.eval hz, Instr.sliceAt, Instr.slice, run_underlying he.und, Instr.sliceBounds, Instr.sliceBound, asIntOf, h0, h2, sizeOf, typeInfo, hin, hA]) q
theorem hd_sl_l {p : Nat} {α : Type} {E : Enc α} {bytes : Nat} (ix : Nat) (hsel : Region.noSelect ops = true) (hfr : Fre pq ops listed ix = true) (hre : (Region.ready .any ops listed).contains ix = true) (hC : C w) (h : AgM ds a n L) (hG : Wd ops n L G) (hx : ev L x = some (.slice A m cp)) (hy : ev L y = some (.int k i)) (he : ElemOf P t T E bytes) (h0 : 0 ≤ i) (h1 : i ≤ m) (hp : i.toNat = p) (hix : ops[ix]? = some ⟨some d, .slice t x (some y) none none, ty, pos, after, G⟩) (hn : Nat.blt d n = true)
    (q : ∀ a, AgM ds a n ((d, .slice (if cp = p then A else A.map (·.add (p * E.sz))) (m - p) (cp - p)) :: L) → wpAnyP pq P ops (NormEnd K) C fu (listed.setIfInBounds ix true) a w) : wpAnyP pq P ops (NormEnd K) C (fu + 1) listed a w := by
  subst hp
  obtain ⟨inf, zv, hin, _, hsz, _⟩ := he.info
  exact hd_ok ix hsel hfr hre hC h hG hix rfl hn (fun w _hw => by
    simp [execOp, h.eval hx, h.eval hy, Instr.sliceAt, Instr.slice, run_underlying he.und, Instr.sliceBounds, Instr.sliceBound, asIntOf, h0, h1, sizeOf, typeInfo, hin, hsz]) q
theorem hd_sl_lh {p p' : Nat} {α : Type} {E : Enc α} {bytes : Nat} (ix : Nat) (hsel : Region.noSelect ops = true) (hfr : Fre pq ops listed ix = true) (hre : (Region.ready .any ops listed).contains ix = true) (hC : C w) (h : AgM ds a n L) (hG : Wd ops n L G) (hx : ev L x = some (.slice A m cp)) (hy : ev L y = some (.int k i)) (hz : ev L z = some (.int k' j)) (he : ElemOf P t T E bytes) (h0 : 0 ≤ i) (h1 : i ≤ j) (h2 : j ≤ cp) (hp : i.toNat = p) (hp' : j.toNat = p') (hix : ops[ix]? = some ⟨some d, .slice t x (some y) (some z) none, ty, pos, after, G⟩) (hn : Nat.blt d n = true)
    (q : ∀ a, AgM ds a n ((d, .slice (if cp = p then A else A.map (·.add (p * E.sz))) (p' - p) (cp - p)) :: L) → wpAnyP pq P ops (NormEnd K) C fu (listed.setIfInBounds ix true) a w) : wpAnyP pq P ops (NormEnd K) C (fu + 1) listed a w := by
  subst hp hp'
  obtain ⟨inf, zv, hin, _, hsz, _⟩ := he.info
  exact hd_ok ix hsel hfr hre hC h hG hix rfl hn (fun w _hw => by
    have h3 : 0 ≤ j := by omega
    have h4 : i ≤ ((j.toNat : Nat) : Int) := by omega
    simp [execOp, h.eval hx, h.eval hy, h.eval hz, Instr.sliceAt, Instr.slice, run_underlying he.und, Instr.sliceBounds, Instr.sliceBound, asIntOf, h0, h2, h3, h4, sizeOf, typeInfo, hin, hsz]
    intro hc; omega) q
theorem hd_load {ad : Addr} (ix : Nat) (hsel : Region.noSelect ops = true) (hfr : Fre pq ops listed ix = true) (hre : (Region.ready .any ops listed).contains ix = true) (hC : C w) (h : AgM ds a n L) (hG : Wd ops n L G) (hx : ev L x = some (.pointer (some ad))) (hc : ∀ w, C w → w.cell? ad = some v) (hg : NotAgg P t) (hix : ops[ix]? = some ⟨some d, .load t x, ty, pos, after, G⟩) (hn : Nat.blt d n = true) (q : ∀ a, AgM ds a n ((d, v) :: L) → wpAnyP pq P ops (NormEnd K) C fu (listed.setIfInBounds ix true) a w) :
    wpAnyP pq P ops (NormEnd K) C (fu + 1) listed a w :=
  hd_ok ix hsel hfr hre hC h hG hix rfl hn (fun w _hw => by simp [execOp, h.eval hx, Instr.loadAt, Instr.sureAddr, loadVar, hg w, hc w _hw]) q
theorem hd_loadA {ad : Addr} {cs : List Value} (ix : Nat) (hsel : Region.noSelect ops = true) (hfr : Fre pq ops listed ix = true) (hre : (Region.ready .any ops listed).contains ix = true) (hC : C w) (h : AgM ds a n L) (hG : Wd ops n L G) (hx : ev L x = some (.pointer (some ad))) (hc : ∀ w, C w → Cells w ad cs) (hg : AggOf P t cs.length) (hix : ops[ix]? = some ⟨some d, .load t x, ty, pos, after, G⟩) (hn : Nat.blt d n = true) (q : ∀ a, AgM ds a n ((d, .agg cs.toArray) :: L) → wpAnyP pq P ops (NormEnd K) C fu (listed.setIfInBounds ix true) a w) :
    wpAnyP pq P ops (NormEnd K) C (fu + 1) listed a w :=
  hd_ok ix hsel hfr hre hC h hG hix rfl hn (fun w _hw => by simp [execOp, h.eval hx, Instr.loadAt, Instr.sureAddr, loadVar, hg.1 w, hg.2 w, run_loadCells_list w ad cs (hc w _hw)]) q
theorem hd_fieldAddr {ad : Addr} {f off : Nat} (ix : Nat) (hsel : Region.noSelect ops = true) (hfr : Fre pq ops listed ix = true) (hre : (Region.ready .any ops listed).contains ix = true) (hC : C w) (h : AgM ds a n L) (hG : Wd ops n L G) (hx : ev L x = some (.pointer (some ad))) (hf : FieldAt P t f off) (hix : ops[ix]? = some ⟨some d, .fieldAddr t x f, ty, pos, after, G⟩) (hn : Nat.blt d n = true) (q : ∀ a, AgM ds a n ((d, .pointer (some (ad.add off))) :: L) → wpAnyP pq P ops (NormEnd K) C fu (listed.setIfInBounds ix true) a w) :
    wpAnyP pq P ops (NormEnd K) C (fu + 1) listed a w :=
  hd_ok ix hsel hfr hre hC h hG hix rfl hn (fun w _hw => by simp [execOp, h.eval hx, hf ad w]) q
theorem hd_extract {vs : Array Value} {m : Nat} (ix : Nat) (hsel : Region.noSelect ops = true) (hfr : Fre pq ops listed ix = true) (hre : (Region.ready .any ops listed).contains ix = true) (hC : C w) (h : AgM ds a n L) (hG : Wd ops n L G) (hx : ev L x = some (.tuple vs)) (hm : vs[m]? = some v) (hix : ops[ix]? = some ⟨some d, .extract x m, ty, pos, after, G⟩) (hn : Nat.blt d n = true) (q : ∀ a, AgM ds a n ((d, v) :: L) → wpAnyP pq P ops (NormEnd K) C fu (listed.setIfInBounds ix true) a w) :
    wpAnyP pq P ops (NormEnd K) C (fu + 1) listed a w :=
  hd_ok ix hsel hfr hre hC h hG hix rfl hn (fun w _hw => by simp [execOp, h.eval hx, Instr.extract, hm]) q
end
/-- The address of an element; its offset is the same in every world. -/
theorem qt_idx {α : Type} {E : Enc α} {bytes : Nat} (h : AgM ds a n L) (hx : ev L x = some (.slice A m cp)) (hy : ev L y = some (.int k i)) {ad : Addr} (hA : A = some ad) (he : ElemOf P t T E bytes) (h0 : 0 ≤ i) (hi : i < m) (hn : Nat.blt d n = true)
    (q : ∀ a, AgM ds a n ((d, .pointer (some (ad.add (i.toNat * E.sz)))) :: L) → wpQuiet P ops C Qa rest a) : wpQuiet P ops C Qa (⟨some d, .indexAddr t x y, ty, pos, after, none⟩ :: rest) a := by
  subst hA
  obtain ⟨inf, zv, hin, _, hsz, _⟩ := he.info
  exact qt_ok h rfl rfl hn (fun w _ => by simp [execOp, h.eval hx, h.eval hy, Instr.indexAt, asIntOf, run_underlying he.und, h0, hi, sizeOf, typeInfo, hin, hsz]) q
end
end Go.Lw
namespace Go.Lw
open Go.RowKit

def Enc.b : Enc UInt8 := ⟨fun c => [.int .u8 (c.toNat : Int)], 1, fun _ => rfl, fun _ u h => by simp at h; subst h; rfl, by decide⟩

section
variable {P : Program} {a : Act} {n : Nat} {L : List (Nat × Value)} {ds : List Nat} {w w' : World} {Q : Exit → Act → World → Prop} {C : World → Prop} {Qa : Act → Prop} {ops : Array Oper} {rest : List Oper}
variable {d : Nat} {ty : TypeId} {pos : String} {after : Array Edge} {v u : Value} {x y z : Operand} {t t' T : TypeId} {k k' : IntKind} {i j : Int} {b c : Bool} {l l' : List UInt8} {A : Option Addr} {m cp : Nat} {g off : Nat} {cs : List Value}

theorem Blk.cellAdd (h : Blk w g T cs) (hv : cs[off]? = some v) : w.cell? ((⟨g, 0, none⟩ : Addr).add off) = some v := by rw [lit_add, Nat.zero_add, h.cell]; exact hv
/-- A field of a local variable that lies in a block. -/
theorem st_loadB (h : AgM ds a n L) (hx : ev L x = some (.pointer (some ((⟨g, 0, none⟩ : Addr).add off)))) (hb : Blk w g T cs) (hv : cs[off]? = some v) (hg : NotAgg P t) (hn : Nat.blt d n = true) (q : ∀ a, AgM ds a n ((d, v) :: L) → wpList P ops Q rest a w) :
    wpList P ops Q (⟨some d, .load t x, ty, pos, after, none⟩ :: rest) a w := st_load h hx (hb.cellAdd hv) hg hn q
theorem s_loadB (hx : ev L x = some (.pointer (some ((⟨g, 0, none⟩ : Addr).add off)))) (hb : Blk w g T cs) (hv : cs[off]? = some v) (hg : NotAgg P t) (hn : Nat.blt d n = true) (q : WL P ops Q rest n ds w ((d, v) :: L)) : WL P ops Q (⟨some d, .load t x, ty, pos, after, none⟩ :: rest) n ds w L := fun a h => st_loadB h hx hb hv hg hn q -- short
theorem qt_loadB (h : AgM ds a n L) (hx : ev L x = some (.pointer (some ((⟨g, 0, none⟩ : Addr).add off)))) (hb : ∀ w, C w → Blk w g T cs) (hv : cs[off]? = some v) (hg : NotAgg P t) (hn : Nat.blt d n = true) (q : ∀ a, AgM ds a n ((d, v) :: L) → wpQuiet P ops C Qa rest a) :
    wpQuiet P ops C Qa (⟨some d, .load t x, ty, pos, after, none⟩ :: rest) a := qt_load h hx (fun w hw => (hb w hw).cellAdd hv) hg hn q
/-- The whole of a local variable of several cells. -/
theorem st_loadBA (h : AgM ds a n L) (hx : ev L x = some (.pointer (some ⟨g, 0, none⟩))) (hb : Blk w g T cs) (hg : AggOf P t cs.length) (hn : Nat.blt d n = true) (q : ∀ a, AgM ds a n ((d, .agg cs.toArray) :: L) → wpList P ops Q rest a w) :
    wpList P ops Q (⟨some d, .load t x, ty, pos, after, none⟩ :: rest) a w := st_loadA h hx hb.cells hg hn q
theorem s_loadBA (hx : ev L x = some (.pointer (some ⟨g, 0, none⟩))) (hb : Blk w g T cs) (hg : AggOf P t cs.length) (hn : Nat.blt d n = true) (q : WL P ops Q rest n ds w ((d, .agg cs.toArray) :: L)) : WL P ops Q (⟨some d, .load t x, ty, pos, after, none⟩ :: rest) n ds w L := fun a h => st_loadBA h hx hb hg hn q -- short
section
variable {K : Act → World → Prop} {fu : Nat} {listed : Array Bool} {pq : Option Nat}
theorem hd_loadB {G : Option (Nat × Bool)} (ix : Nat) (hsel : Region.noSelect ops = true) (hfr : Fre pq ops listed ix = true) (hre : (Region.ready .any ops listed).contains ix = true) (hC : C w) (h : AgM ds a n L) (hG : Wd ops n L G) (hx : ev L x = some (.pointer (some ((⟨g, 0, none⟩ : Addr).add off)))) (hb : ∀ w, C w → Blk w g T cs) (hv : cs[off]? = some v) (hg : NotAgg P t)
    (hix : ops[ix]? = some ⟨some d, .load t x, ty, pos, after, G⟩) (hn : Nat.blt d n = true) (q : ∀ a, AgM ds a n ((d, v) :: L) → wpAnyP pq P ops (NormEnd K) C fu (listed.setIfInBounds ix true) a w) : wpAnyP pq P ops (NormEnd K) C (fu + 1) listed a w :=
  hd_load ix hsel hfr hre hC h hG hx (fun w hw => (hb w hw).cellAdd hv) hg hix hn q
theorem hd_loadBA {G : Option (Nat × Bool)} (ix : Nat) (hsel : Region.noSelect ops = true) (hfr : Fre pq ops listed ix = true) (hre : (Region.ready .any ops listed).contains ix = true) (hC : C w) (h : AgM ds a n L) (hG : Wd ops n L G) (hx : ev L x = some (.pointer (some ⟨g, 0, none⟩))) (hb : ∀ w, C w → Blk w g T cs) (hg : AggOf P t cs.length)
    (hix : ops[ix]? = some ⟨some d, .load t x, ty, pos, after, G⟩) (hn : Nat.blt d n = true) (q : ∀ a, AgM ds a n ((d, .agg cs.toArray) :: L) → wpAnyP pq P ops (NormEnd K) C fu (listed.setIfInBounds ix true) a w) : wpAnyP pq P ops (NormEnd K) C (fu + 1) listed a w :=
  hd_loadA ix hsel hfr hre hC h hG hx (fun w hw => (hb w hw).cells) hg hix hn q
end
theorem qt_loadC0 {ad : Addr} (h : AgM ds a n L) (hx : ev L x = some (.pointer (some ad))) (hc : ∀ w, C w → Cells w ad [v]) (hg : NotAgg P t) (hn : Nat.blt d n = true) (q : ∀ a, AgM ds a n ((d, v) :: L) → wpQuiet P ops C Qa rest a) :
    wpQuiet P ops C Qa (⟨some d, .load t x, ty, pos, after, none⟩ :: rest) a := qt_load h hx (fun w hw => by have := hc w hw 0 v rfl; rwa [Addr.add_zero'] at this) hg hn q
theorem ex_idxS {G : Option (Nat × Bool)} {α : Type} {E : Enc α} {bytes p : Nat} {ad : Addr} (h : AgM ds a n L) (hx : ev L x = some (.slice (some ad) m cp)) (hy : ev L y = some (.int k i)) (he : ElemOf P t T E bytes) (h0 : 0 ≤ i) (hi : i < m) (hp : i.toNat = p) :
    (execOp a.eval ⟨some d, .indexAddr t x y, ty, pos, after, G⟩).run P w = .ok (.value (.pointer (some (ad.add (p * E.sz))))) w := by
  subst hp
  obtain ⟨inf, zv, hin, _, hsz, _⟩ := he.info
  simp [execOp, h.eval hx, h.eval hy, Instr.indexAt, asIntOf, run_underlying he.und, h0, hi, sizeOf, typeInfo, hin, hsz]
theorem st_idxS {α : Type} {E : Enc α} {bytes p : Nat} {ad : Addr} (h : AgM ds a n L) (hx : ev L x = some (.slice (some ad) m cp)) (hy : ev L y = some (.int k i)) (he : ElemOf P t T E bytes) (h0 : 0 ≤ i) (hi : i < m) (hp : i.toNat = p) (hn : Nat.blt d n = true)
    (q : ∀ a, AgM ds a n ((d, .pointer (some (ad.add (p * E.sz)))) :: L) → wpList P ops Q rest a w) : wpList P ops Q (⟨some d, .indexAddr t x y, ty, pos, after, none⟩ :: rest) a w :=
  st_ok h rfl rfl hn (ex_idxS h hx hy he h0 hi hp) q
theorem qt_idxS {α : Type} {E : Enc α} {bytes p : Nat} {ad : Addr} (h : AgM ds a n L) (hx : ev L x = some (.slice (some ad) m cp)) (hy : ev L y = some (.int k i)) (he : ElemOf P t T E bytes) (h0 : 0 ≤ i) (hi : i < m) (hp : i.toNat = p) (hn : Nat.blt d n = true)
    (q : ∀ a, AgM ds a n ((d, .pointer (some (ad.add (p * E.sz)))) :: L) → wpQuiet P ops C Qa rest a) : wpQuiet P ops C Qa (⟨some d, .indexAddr t x y, ty, pos, after, none⟩ :: rest) a :=
  qt_ok h rfl rfl hn (fun _ _ => ex_idxS h hx hy he h0 hi hp) q
theorem hd_idxS {G : Option (Nat × Bool)} {K : Act → World → Prop} {fu : Nat} {listed : Array Bool} {pq : Option Nat} {α : Type} {E : Enc α} {bytes p : Nat} {ad : Addr} (ix : Nat) (hsel : Region.noSelect ops = true) (hfr : Fre pq ops listed ix = true) (hre : (Region.ready .any ops listed).contains ix = true) (hC : C w) (h : AgM ds a n L) (hG : Wd ops n L G)
    (hx : ev L x = some (.slice (some ad) m cp)) (hy : ev L y = some (.int k i)) (he : ElemOf P t T E bytes) (h0 : 0 ≤ i) (hi : i < m) (hp : i.toNat = p) (hix : ops[ix]? = some ⟨some d, .indexAddr t x y, ty, pos, after, G⟩) (hn : Nat.blt d n = true)
    (q : ∀ a, AgM ds a n ((d, .pointer (some (ad.add (p * E.sz)))) :: L) → wpAnyP pq P ops (NormEnd K) C fu (listed.setIfInBounds ix true) a w) : wpAnyP pq P ops (NormEnd K) C (fu + 1) listed a w :=
  hd_ok ix hsel hfr hre hC h hG hix rfl hn (fun _ _ => ex_idxS h hx hy he h0 hi hp) q
/-- A field of an element that is read. -/
theorem st_loadC {ad : Addr} (h : AgM ds a n L) (hx : ev L x = some (.pointer (some (ad.add off)))) (hc : Cells w ad cs) (hv : cs[off]? = some v) (hg : NotAgg P t) (hn : Nat.blt d n = true) (q : ∀ a, AgM ds a n ((d, v) :: L) → wpList P ops Q rest a w) :
    wpList P ops Q (⟨some d, .load t x, ty, pos, after, none⟩ :: rest) a w := st_load h hx (hc off v hv) hg hn q
theorem s_loadC {ad : Addr} (hx : ev L x = some (.pointer (some (ad.add off)))) (hc : Cells w ad cs) (hv : cs[off]? = some v) (hg : NotAgg P t) (hn : Nat.blt d n = true) (q : WL P ops Q rest n ds w ((d, v) :: L)) : WL P ops Q (⟨some d, .load t x, ty, pos, after, none⟩ :: rest) n ds w L := fun a h => st_loadC h hx hc hv hg hn q -- short
theorem st_loadC0 {ad : Addr} (h : AgM ds a n L) (hx : ev L x = some (.pointer (some ad))) (hc : Cells w ad [v]) (hg : NotAgg P t) (hn : Nat.blt d n = true) (q : ∀ a, AgM ds a n ((d, v) :: L) → wpList P ops Q rest a w) :
    wpList P ops Q (⟨some d, .load t x, ty, pos, after, none⟩ :: rest) a w := st_load h hx (by have := hc 0 v rfl; rwa [Addr.add_zero'] at this) hg hn q
theorem s_loadC0 {ad : Addr} (hx : ev L x = some (.pointer (some ad))) (hc : Cells w ad [v]) (hg : NotAgg P t) (hn : Nat.blt d n = true) (q : WL P ops Q rest n ds w ((d, v) :: L)) : WL P ops Q (⟨some d, .load t x, ty, pos, after, none⟩ :: rest) n ds w L := fun a h => st_loadC0 h hx hc hg hn q -- short
/-- A store of one cell into a field of a local variable. -/
theorem st_storeB (h : AgM ds a n L) (hx : ev L x = some (.pointer (some ((⟨g, 0, none⟩ : Addr).add off)))) (hy : ev L y = some v) (hb : Blk w g T cs) (ho : Nat.blt off cs.length = true) (h1 : v.oneCell' = true) (hc : v.cells = #[v]) (hs : SizeOf P t 1)
    (q : ∀ w', Blk w' g T (cs.set off v) → Fr [g] w w' → w'.heap.size = w.heap.size → ∀ a, AgM ds a n L → wpList P ops Q rest a w') : wpList P ops Q (⟨none, .store t x y, ty, pos, after, none⟩ :: rest) a w :=
  st_store (o := off) h (by rw [hx, lit_add, Nat.zero_add]) hy hb ho h1 hc hs q
theorem s_storeB (hx : ev L x = some (.pointer (some ((⟨g, 0, none⟩ : Addr).add off)))) (hy : ev L y = some v) (hb : Blk w g T cs) (ho : Nat.blt off cs.length = true) (h1 : v.oneCell' = true) (hc : v.cells = #[v]) (hs : SizeOf P t 1) (q : ∀ w', Blk w' g T (cs.set off v) → Fr [g] w w' → w'.heap.size = w.heap.size → WL P ops Q rest n ds w' L) : WL P ops Q (⟨none, .store t x y, ty, pos, after, none⟩ :: rest) n ds w L := fun a h => st_storeB h hx hy hb ho h1 hc hs q -- short
/-- A store of a whole struct or array into its block. -/
theorem st_storeBA {vs : List Value} (h : AgM ds a n L) (hx : ev L x = some (.pointer (some ⟨g, 0, none⟩))) (hy : ev L y = some (.agg vs.toArray)) (hb : Blk w g T cs) (hl : vs.length = cs.length) (h1 : ∀ u ∈ vs, u.oneCell' = true) (hs : SizeOf P t vs.length)
    (q : ∀ w', Blk w' g T vs → Fr [g] w w' → w'.heap.size = w.heap.size → ∀ a, AgM ds a n L → wpList P ops Q rest a w') : wpList P ops Q (⟨none, .store t x y, ty, pos, after, none⟩ :: rest) a w := by
  have hst := run_storeCells_at P g 0 T vs 0 cs.toArray w hb (by simp; omega) h1
  refine st_skip h rfl rfl (w' := w.setRow g vs.toArray) ?_ (q _ ?_ (Fr.setRow w g _) (by simp))
  · simp [execOp, h.eval hx, h.eval hy, Instr.storeAt, Instr.sureAddr, storeVar, hs w, Value.cells, hst, hl]
  · unfold Blk; exact setRow_heap w g cs.toArray _ T (0, 0) hb
theorem s_storeBA {vs : List Value} (hx : ev L x = some (.pointer (some ⟨g, 0, none⟩))) (hy : ev L y = some (.agg vs.toArray)) (hb : Blk w g T cs) (hl : vs.length = cs.length) (h1 : ∀ u ∈ vs, u.oneCell' = true) (hs : SizeOf P t vs.length) (q : ∀ w', Blk w' g T vs → Fr [g] w w' → w'.heap.size = w.heap.size → WL P ops Q rest n ds w' L) : WL P ops Q (⟨none, .store t x y, ty, pos, after, none⟩ :: rest) n ds w L := fun a h => st_storeBA h hx hy hb hl h1 hs q -- short
/-- The address of an element of an array. -/
theorem ex_idxA {G : Option (Nat × Bool)} {ad : Addr} {N sz : Nat} (h : AgM ds a n L) (hx : ev L x = some (.pointer (some ad))) (hy : ev L y = some (.int k i)) (hu : P.underlying t = some (.array N T)) (hs : SizeOf P T sz) (h0 : 0 ≤ i) (h1 : i < N) :
    (execOp a.eval ⟨some d, .indexAddr t x y, ty, pos, after, G⟩).run P w = .ok (.value (.pointer (some (ad.add (i.toNat * sz))))) w := by
  simp [execOp, h.eval hx, h.eval hy, Instr.indexAt, asIntOf, run_underlying hu, Instr.sureAddr, h0, h1, hs w]
theorem st_idxA {ad : Addr} {N sz : Nat} (h : AgM ds a n L) (hx : ev L x = some (.pointer (some ad))) (hy : ev L y = some (.int k i)) (hu : P.underlying t = some (.array N T)) (hs : SizeOf P T sz) (h0 : 0 ≤ i) (h1 : i < N) (hn : Nat.blt d n = true)
    (q : ∀ a, AgM ds a n ((d, .pointer (some (ad.add (i.toNat * sz)))) :: L) → wpList P ops Q rest a w) : wpList P ops Q (⟨some d, .indexAddr t x y, ty, pos, after, none⟩ :: rest) a w :=
  st_ok h rfl rfl hn (ex_idxA h hx hy hu hs h0 h1) q
theorem s_idxA {ad : Addr} {N sz : Nat} (hx : ev L x = some (.pointer (some ad))) (hy : ev L y = some (.int k i)) (hu : P.underlying t = some (.array N T)) (hs : SizeOf P T sz) (h0 : 0 ≤ i) (h1 : i < N) (hn : Nat.blt d n = true) (q : WL P ops Q rest n ds w ((d, .pointer (some (ad.add (i.toNat * sz)))) :: L)) : WL P ops Q (⟨some d, .indexAddr t x y, ty, pos, after, none⟩ :: rest) n ds w L := fun a h => st_idxA h hx hy hu hs h0 h1 hn q -- short
theorem foldl_set (vs : List Value) : ∀ (off : Nat) (cs : Array Value), off + vs.length ≤ cs.size →
    ((vs.zipIdx 0).foldl (fun cs (p : Value × Nat) => cs.setIfInBounds (off + p.2) p.1) cs) = (cs.toList.take off ++ vs ++ cs.toList.drop (off + vs.length)).toArray := by
  have key : ∀ (vs : List Value) (s off : Nat) (cs : Array Value), off + s + vs.length ≤ cs.size →
      ((vs.zipIdx s).foldl (fun cs (p : Value × Nat) => cs.setIfInBounds (off + p.2) p.1) cs) = (cs.toList.take (off + s) ++ vs ++ cs.toList.drop (off + s + vs.length)).toArray := by
    intro vs
    induction vs with
    | nil => intro s off cs _; simp
    | cons v vs ih =>
      intro s off cs hl
      simp only [List.zipIdx_cons, List.foldl_cons]
      rw [show s + 1 = s + 1 from rfl, ih (s + 1) off _ (by simp at hl ⊢; omega)]
      have e := list_seg_step cs.toList (off + s) v vs (by simp at hl ⊢; omega)
      simpa [Array.toList_setIfInBounds, Nat.add_assoc] using e
  intro off cs h
  simpa using key vs 0 off cs (by simpa using h)

theorem fill_all {α : Type} (E : Enc α) : ∀ (ys : List α) (vs : List Value) (s : Nat) (cs : Array Value) (N : Nat), vs.map Value.cells = ys.map (fun y => (E.enc y).toArray) → cs.size = N * E.sz → s + ys.length = N →
    Instr.fill (fun i => some (i * E.sz, E.sz)) cs ((List.range' s ys.length).zip vs) = some (cs.toList.take (s * E.sz) ++ ys.flatMap E.enc).toArray
  | [], _, s, cs, N, _, hc, hN => by
    simp only [List.length_nil, List.range'_zero, List.zip_nil_left, Instr.fill, List.flatMap_nil, List.append_nil]
    rw [List.take_of_length_le (by simp [hc]; rw [← hN]; simp)]
  | y :: ys, [], s, cs, N, h, _, _ => by simp at h
  | y :: ys, v :: vs, s, cs, N, h, hc, hN => by
    simp only [List.map_cons, List.cons.injEq] at h
    obtain ⟨hv, hr⟩ := h
    simp only [List.length_cons] at hN ⊢
    rw [List.range'_succ, List.zip_cons_cons]
    simp only [Instr.fill]
    have hsz : v.cells.size = E.sz := by rw [hv]; simp [E.len]
    have hle : s * E.sz + E.sz ≤ cs.size := by
      rw [hc]
      have : (s + 1) * E.sz ≤ N * E.sz := Nat.mul_le_mul_right _ (by omega)
      rw [Nat.add_mul, Nat.one_mul] at this; exact this
    rw [if_neg (by simp [hsz]; omega)]
    have hfold : (v.cells.zipIdx.foldl (fun cs (p : Value × Nat) => cs.setIfInBounds (s * E.sz + p.2) p.1) cs) = (cs.toList.take (s * E.sz) ++ E.enc y ++ cs.toList.drop (s * E.sz + (E.enc y).length)).toArray := by
      rw [← foldl_set (E.enc y) (s * E.sz) cs (by rw [E.len]; exact hle), hv]
      simp [← Array.foldl_toList]
    have := fill_all E ys vs (s + 1) (cs.toList.take (s * E.sz) ++ E.enc y ++ cs.toList.drop (s * E.sz + (E.enc y).length)).toArray N hr (by simp [E.len]; omega) (by omega)
    rw [hfold, this]
    congr 2
    rw [List.flatMap_cons, ← List.append_assoc]
    congr 1
    rw [Nat.add_mul, Nat.one_mul]
    have h2 : s * E.sz + E.sz = (cs.toList.take (s * E.sz) ++ E.enc y).length := by simp [E.len]; omega
    rw [h2]
    exact List.take_left

theorem zip_parts {a : Act} : ∀ (ps : List (Nat × Operand)), ps.map (fun p => (p.1, a.eval p.2)) = (ps.map (fun p => p.1)).zip (ps.map (a.eval ∘ fun p => p.2))
  | [] => rfl
  | p :: ps => by simp only [List.map_cons, List.zip_cons_cons, zip_parts ps]; rfl
theorem st_bslice {α : Type} {E : Enc α} {bytes len : Nat} {parts : List (Nat × Operand)} {vs : List Value} (ys : List α) (h : AgM ds a n L) (hp : evs L (parts.map (·.2)) vs) (hi : parts.map (·.1) = List.range' 0 ys.length) (hy : vs.map Value.cells = ys.map (fun y => (E.enc y).toArray)) (hl : ys.length = len)
    (he : ElemOf P t T E bytes) (hsm : len * E.sz ≤ 16777216) (hn : Nat.blt d n = true)
    (q : ∀ g w', g = w.heap.size → Own E T g w' (.slice (some ⟨g, 0, none⟩) len len) ys → Fr [] w w' → w'.heap.size = g + 1 → ∀ a, AgM ds a n ((d, .slice (some ⟨g, 0, none⟩) len len) :: L) → wpList P ops Q rest a w') :
    wpList P ops Q (⟨some d, .buildSlice t len parts.toArray, ty, pos, after, none⟩ :: rest) a w := by
  obtain ⟨inf, zv, hin, hz, hsz, hby, hzs⟩ := he.info
  have hm : parts.map (fun p => (p.1, a.eval p.2)) = (List.range' 0 ys.length).zip vs := by
    have h1 := h.evals hp
    rw [List.map_map] at h1
    rw [← hi, ← h1]
    exact zip_parts parts
  have hfill := fill_all E ys vs 0 ((Array.range (len * E.sz)).map (zv.cells[· % zv.cells.size]!)) len hy (by simp) (by omega)
  rw [Nat.zero_mul, List.take_zero, List.nil_append] at hfill
  have hno : ¬ 16777216 < len * E.sz := by omega
  refine st_ok h rfl rfl hn (w' := w.alloc (.cells (ys.flatMap E.enc).toArray T)) ?_ (q _ _ rfl ?_ (Fr.alloc [] w _) (by simp))
  · simp only [execOp, List.map_toArray, hm, Instr.buildSlice, Sem.run_bind, run_underlying he.und, Result.andThen_ok, sizeOf, typeInfo, Sem.run_pure]
    by_cases h0 : len * E.sz = 0
    · have hlen : len = 0 := by
        rcases Nat.mul_eq_zero.1 h0 with h | h
        · exact h
        · have := E.pos; omega
      subst hlen
      have hys : ys = [] := List.eq_nil_of_length_eq_zero hl
      subst hys
      simp [hin, hsz, Instr.fill, newRow]
      rw [show Array.range 0 = #[] from rfl]; simp
    · simp [hin, hsz, h0, hno, zeroValue, typeInfo, hz, newRow, hfill]
  · exact .inr ⟨_, len, _, by rw [hl], Nat.le_refl _, heap_alloc_new w _, by omega, by simp only [maxLen]; have := E.pos; have : len ≤ len * E.sz := Nat.le_mul_of_pos_right _ E.pos; omega, by simp [E.flat_len, hl], by
      rw [List.take_of_length_le (by simp [E.flat_len])]⟩
theorem s_bslice {α : Type} {E : Enc α} {bytes len : Nat} {parts : List (Nat × Operand)} {vs : List Value} (ys : List α) (hp : evs L (parts.map (·.2)) vs) (hi : parts.map (·.1) = List.range' 0 ys.length) (hy : vs.map Value.cells = ys.map (fun y => (E.enc y).toArray)) (hl : ys.length = len) (he : ElemOf P t T E bytes) (hsm : len * E.sz ≤ 16777216) (hn : Nat.blt d n = true) (q : ∀ g w', g = w.heap.size → Own E T g w' (.slice (some ⟨g, 0, none⟩) len len) ys → Fr [] w w' → w'.heap.size = g + 1 → WL P ops Q rest n ds w' ((d, .slice (some ⟨g, 0, none⟩) len len) :: L)) : WL P ops Q (⟨some d, .buildSlice t len parts.toArray, ty, pos, after, none⟩ :: rest) n ds w L := fun a h => st_bslice ys h hp hi hy hl he hsm hn q -- short
/-- A string out of bytes. -/
theorem ex_b2s {G : Option (Nat × Bool)} {bytes : Nat} (h : AgM ds a n L) (hx : ev L x = some v) (hs : Sl Enc.b w v l) (he : ElemOf P t T Enc.b bytes) (hu : P.underlying T = some (.int .u8)) (hd : P.underlying t' = some .string) :
    (execOp a.eval ⟨some d, .convert t t' x, ty, pos, after, G⟩).run P w = .ok (.value (S l)) w := by
  obtain ⟨A, c, rfl, h1, h2, h3⟩ := hs.flat
  simp only [execOp, h.eval hx, Sem.run_bind, run_convert_bytes_string w t t' T A l.length c he.und hu hd]
  by_cases hl : l = []
  · subst hl
    cases A with
    | none => simp [Conv.bytesToString, S]; rfl
    | some ad =>
      rw [List.length_nil, run_bytesToString w ad 0 c [] (by simp [loadCells, loadCellsFrom])]
      simp [S]; rfl
  · obtain ⟨ad, rfl, hc⟩ := h3 hl
    have hfl : l.flatMap Enc.b.enc = (l.map (fun c => (c.toNat : Int))).map (Value.int .u8) := by
      clear h1 h2 h3 hs hx hc hl
      induction l with
      | nil => rfl
      | cons c l ih => rw [List.flatMap_cons, ih]; rfl
    have hlc := run_loadCells_list (P := P) w ad _ hc
    rw [Enc.flat_len, hfl] at hlc
    rw [run_bytesToString w ad l.length c (l.map (fun c => (c.toNat : Int))) (by rw [← hlc]; simp [Enc.b])]
    have hfold : ∀ (l : List UInt8) (s : ByteArray), (l.map (fun c => (c.toNat : Int))).foldl (fun r n => r.push (UInt8.ofNat n.toNat)) s = ⟨s.data ++ l.toArray⟩ := by
      intro l
      induction l with
      | nil => intro s; simp
      | cons c l ih =>
        intro s
        rw [List.map_cons, List.foldl_cons, ih]
        apply ByteArray.ext
        simp [ByteArray.push]
    rw [hfold]
    simp [S]
theorem st_b2s {bytes : Nat} (h : AgM ds a n L) (hx : ev L x = some v) (hs : Sl Enc.b w v l) (he : ElemOf P t T Enc.b bytes) (hu : P.underlying T = some (.int .u8)) (hd : P.underlying t' = some .string) (hn : Nat.blt d n = true)
    (q : ∀ a, AgM ds a n ((d, S l) :: L) → wpList P ops Q rest a w) : wpList P ops Q (⟨some d, .convert t t' x, ty, pos, after, none⟩ :: rest) a w :=
  st_ok h rfl rfl hn (ex_b2s h hx hs he hu hd) q
/-- A call of a function value. -/
theorem st_callv {f : FuncId} {xs : List Operand} {vs us ws : List Value} {ts : Array TypeId} {Φ : Value → World → Prop} (h : AgM ds a n L) (hy : ev L y = some (.func (.func f) us.toArray ws.toArray)) (hx : evs L xs vs) (hf : CallOf P f) (hc : Rets P f (us ++ vs ++ ws).toArray w Φ) (hn : Nat.blt d n = true)
    (hnf : ∀ g, y ≠ .func g)
    (q : ∀ v w', Φ v w' → ∀ a, AgM ds a n ((d, v) :: L) → wpList P ops Q rest a w') : wpList P ops Q (⟨some d, .call ⟨.value y, xs.toArray, ts⟩, ty, pos, after, none⟩ :: rest) a w :=
  st_enter (w' := w) h rfl rfl hn (by
    simp only [execOp, resolve, h.eval hy, Deferred.ofValue, Sem.run_bind, Sem.run_pure, Result.andThen_ok, invoke, List.map_toArray, h.evals hx, List.append_toArray]
    exact hf _ _) hc q

def splice (cs : List Value) (off : Nat) (vs : List Value) : List Value := cs.take off ++ vs ++ cs.drop (off + vs.length)
/-- The parts fit their places. -/
def PartsOk (pl : List (Nat × Nat)) (m : Nat) : List (Nat × Value) → Prop
  | [] => True
  | p :: r => (∃ q, pl[p.1]? = some q ∧ p.2.cells.size = q.2 ∧ Nat.ble (q.1 + q.2) m = true) ∧ PartsOk pl m r
theorem pok_nil {pl : List (Nat × Nat)} {m : Nat} : PartsOk pl m [] := trivial
theorem pok_cons {pl : List (Nat × Nat)} {m i : Nat} {q : Nat × Nat} {v : Value} {r : List (Nat × Value)} (h1 : pl[i]? = some q) (h2 : v.cells.size = q.2) (h3 : Nat.ble (q.1 + q.2) m = true) (hr : PartsOk pl m r) : PartsOk pl m ((i, v) :: r) := ⟨⟨q, h1, h2, h3⟩, hr⟩
def placed (pl : List (Nat × Nat)) (zs : List Value) (ps : List (Nat × Value)) : List Value := ps.foldl (fun cs p => splice cs (pl.getD p.1 (0, 0)).1 p.2.cells.toList) zs
def BuildAt (P : Program) (t : TypeId) (pl : List (Nat × Nat)) (zs : List Value) : Prop := ∀ (ps : List (Nat × Value)) (w : World), PartsOk pl zs.length ps → (Instr.build t ps.toArray).run P w = .ok (.agg (placed pl zs ps).toArray) w
theorem len_splice (cs vs : List Value) (off : Nat) (h : off + vs.length ≤ cs.length) : (splice cs off vs).length = cs.length := by simp [splice]; omega
theorem fill_placed (pl : List (Nat × Nat)) (f : Nat → Option (Nat × Nat)) (hf : ∀ i q, pl[i]? = some q → f i = some q) : ∀ (ps : List (Nat × Value)) (cs : List Value), PartsOk pl cs.length ps → Instr.fill f cs.toArray ps = some (placed pl cs ps).toArray
  | [], cs, _ => rfl
  | (i, v) :: ps, cs, ⟨⟨q, h1, h2, h3⟩, hr⟩ => by
    have h3' : q.1 + q.2 ≤ cs.length := by simpa [Nat.ble_eq] using h3
    have hl : v.cells.toList.length = q.2 := by simpa using h2
    have hs : (splice cs q.1 v.cells.toList).length = cs.length := len_splice _ _ _ (by rw [hl]; exact h3')
    have hfold : (v.cells.zipIdx.foldl (fun cs (p : Value × Nat) => cs.setIfInBounds (q.1 + p.2) p.1) cs.toArray) = (splice cs q.1 v.cells.toList).toArray := by
      have e := foldl_set v.cells.toList q.1 cs.toArray (by simpa [h2] using h3')
      rw [splice]
      simp only at e
      rw [← e, ← Array.foldl_toList, Array.toList_zipIdx]
    simp only [Instr.fill, hf i q h1]
    rw [if_neg (by simp [h2]; omega)]
    rw [hfold, fill_placed pl f hf ps _ (by rw [hs]; exact hr)]
    simp [placed, List.getD, h1]
theorem BuildAt.struct {t : TypeId} {fs : Array Field} {pl : List (Nat × Nat)} {zs : List Value} (hu : P.underlying t = some (.struct fs)) (hz : ∀ w : World, (zeroValue t).run P w = .ok (.agg zs.toArray) w)
    (hp : ∀ w : World, (fs.mapM fun f => do pure (f.offset, ← sizeOf f.type) : Sem (Array (Nat × Nat))).run P w = .ok pl.toArray w) : BuildAt P t pl zs := by
  intro ps w hok
  have hfill := fill_placed pl (fun i => pl.toArray[i]?) (fun i q h => by simpa using h) ps zs hok
  simp only [Instr.build, Sem.run_bind, hz w, Result.andThen_ok, run_underlying hu, hp w, Value.cells, hfill]
  rfl
theorem BuildAt.array {t T : TypeId} {N sz : Nat} {pl : List (Nat × Nat)} {zs : List Value} (hu : P.underlying t = some (.array N T)) (hz : ∀ w : World, (zeroValue t).run P w = .ok (.agg zs.toArray) w) (hs : SizeOf P T sz)
    (hp : ∀ i q, pl[i]? = some q → q = (i * sz, sz)) : BuildAt P t pl zs := by
  intro ps w hok
  have hfill := fill_placed pl (fun i => some (i * sz, sz)) (fun i q h => by rw [hp i q h]) ps zs hok
  simp only [Instr.build, Sem.run_bind, hz w, Result.andThen_ok, run_underlying hu, hs w, Value.cells, hfill]
  rfl
/-- A store of a struct or array into a part of a block. -/
theorem st_storeBP {vs cs' : List Value} (h : AgM ds a n L) (hx : ev L x = some (.pointer (some ((⟨g, 0, none⟩ : Addr).add off)))) (hy : ev L y = some (.agg vs.toArray)) (hb : Blk w g T cs) (hl : Nat.ble (off + vs.length) cs.length = true) (h1 : ∀ u ∈ vs, u.oneCell' = true) (hs : SizeOf P t vs.length) (hcs : splice cs off vs = cs')
    (q : ∀ w', Blk w' g T cs' → Fr [g] w w' → w'.heap.size = w.heap.size → ∀ a, AgM ds a n L → wpList P ops Q rest a w') : wpList P ops Q (⟨none, .store t x y, ty, pos, after, none⟩ :: rest) a w := by
  subst hcs
  rw [lit_add, Nat.zero_add] at hx
  have hst := run_storeCells_at P g off T vs 0 cs.toArray w hb (by have := Nat.le_of_ble_eq_true hl; simp; omega) h1
  refine st_skip h rfl rfl (w' := w.setRow g (splice cs off vs).toArray) ?_ (q _ ?_ (Fr.setRow w g _) (by simp))
  · have hst' : (storeCells ⟨g, off, none⟩ vs 0).run P w = .ok () (w.setRow g (splice cs off vs).toArray) := by simpa [splice] using hst
    simp [execOp, h.eval hx, h.eval hy, Instr.storeAt, Instr.sureAddr, storeVar, hs w, Value.cells, hst']
  · unfold Blk; exact setRow_heap w g cs.toArray _ T (0, 0) hb
theorem s_storeBP {vs cs' : List Value} (hx : ev L x = some (.pointer (some ((⟨g, 0, none⟩ : Addr).add off)))) (hy : ev L y = some (.agg vs.toArray)) (hb : Blk w g T cs) (hl : Nat.ble (off + vs.length) cs.length = true) (h1 : ∀ u ∈ vs, u.oneCell' = true) (hs : SizeOf P t vs.length) (hcs : splice cs off vs = cs') (q : ∀ w', Blk w' g T cs' → Fr [g] w w' → w'.heap.size = w.heap.size → WL P ops Q rest n ds w' L) : WL P ops Q (⟨none, .store t x y, ty, pos, after, none⟩ :: rest) n ds w L := fun a h => st_storeBP h hx hy hb hl h1 hs hcs q -- short
theorem ex_lit {G : Option (Nat × Bool)} {pl : List (Nat × Nat)} {zs cs : List Value} {parts : List (Nat × Operand)} {vs : List Value} (h : AgM ds a n L) (hp : evs L (parts.map (·.2)) vs) (hb : BuildAt P t pl zs) (hok : PartsOk pl zs.length ((parts.map (·.1)).zip vs)) (hc : placed pl zs ((parts.map (·.1)).zip vs) = cs) :
    (execOp a.eval ⟨some d, .build t parts.toArray, ty, pos, after, G⟩).run P w = .ok (.value (.agg cs.toArray)) w := by
  have hm : parts.map (fun p => (p.1, a.eval p.2)) = (parts.map (·.1)).zip vs := by
    rw [zip_parts, ← h.evals hp, List.map_map]
  simp only [execOp, List.map_toArray, hm, Sem.run_bind, hb _ w hok, Result.andThen_ok, Sem.run_pure, hc]
theorem st_lit {pl : List (Nat × Nat)} {zs cs : List Value} {parts : List (Nat × Operand)} {vs : List Value} (h : AgM ds a n L) (hp : evs L (parts.map (·.2)) vs) (hb : BuildAt P t pl zs) (hok : PartsOk pl zs.length ((parts.map (·.1)).zip vs)) (hc : placed pl zs ((parts.map (·.1)).zip vs) = cs) (hn : Nat.blt d n = true)
    (q : ∀ a, AgM ds a n ((d, .agg cs.toArray) :: L) → wpList P ops Q rest a w) : wpList P ops Q (⟨some d, .build t parts.toArray, ty, pos, after, none⟩ :: rest) a w :=
  st_ok h rfl rfl hn (ex_lit h hp hb hok hc) q
theorem s_lit {pl : List (Nat × Nat)} {zs cs : List Value} {parts : List (Nat × Operand)} {vs : List Value} (hp : evs L (parts.map (·.2)) vs) (hb : BuildAt P t pl zs) (hok : PartsOk pl zs.length ((parts.map (·.1)).zip vs)) (hc : placed pl zs ((parts.map (·.1)).zip vs) = cs) (hn : Nat.blt d n = true) (q : WL P ops Q rest n ds w ((d, .agg cs.toArray) :: L)) : WL P ops Q (⟨some d, .build t parts.toArray, ty, pos, after, none⟩ :: rest) n ds w L := fun a h => st_lit h hp hb hok hc hn q -- short
theorem qt_lit {pl : List (Nat × Nat)} {zs cs : List Value} {parts : List (Nat × Operand)} {vs : List Value} (h : AgM ds a n L) (hp : evs L (parts.map (·.2)) vs) (hb : BuildAt P t pl zs) (hok : PartsOk pl zs.length ((parts.map (·.1)).zip vs)) (hc : placed pl zs ((parts.map (·.1)).zip vs) = cs) (hn : Nat.blt d n = true)
    (q : ∀ a, AgM ds a n ((d, .agg cs.toArray) :: L) → wpQuiet P ops C Qa rest a) : wpQuiet P ops C Qa (⟨some d, .build t parts.toArray, ty, pos, after, none⟩ :: rest) a :=
  qt_ok h rfl rfl hn (fun _ _ => ex_lit h hp hb hok hc) q
theorem hd_lit {G : Option (Nat × Bool)} {K : Act → World → Prop} {fu : Nat} {listed : Array Bool} {pq : Option Nat} (ix : Nat) (hsel : Region.noSelect ops = true) (hfr : Fre pq ops listed ix = true) (hre : (Region.ready .any ops listed).contains ix = true) (hC : C w) {pl : List (Nat × Nat)} {zs cs : List Value} {parts : List (Nat × Operand)} {vs : List Value} (h : AgM ds a n L) (hG : Wd ops n L G)
    (hp : evs L (parts.map (·.2)) vs) (hb : BuildAt P t pl zs) (hok : PartsOk pl zs.length ((parts.map (·.1)).zip vs)) (hc : placed pl zs ((parts.map (·.1)).zip vs) = cs) (hix : ops[ix]? = some ⟨some d, .build t parts.toArray, ty, pos, after, G⟩) (hn : Nat.blt d n = true)
    (q : ∀ a, AgM ds a n ((d, .agg cs.toArray) :: L) → wpAnyP pq P ops (NormEnd K) C fu (listed.setIfInBounds ix true) a w) : wpAnyP pq P ops (NormEnd K) C (fu + 1) listed a w :=
  hd_ok ix hsel hfr hre hC h hG hix rfl hn (fun _ _ => ex_lit h hp hb hok hc) q
/-! Structs that are compared. -/
def EqOf {α : Type} [DecidableEq α] (P : Program) (t : TypeId) (V : α → Value) : Prop :=
  ∀ (e f : α) (ox oy : Operand) (w : World), (eqGuard .eql t ox oy (V e) (V f)).run P w = .ok () w ∧ (eqGuard .neq t ox oy (V e) (V f)).run P w = .ok () w ∧
    (binOp .eql t (V e) (V f)).run P w = .ok (.bool (decide (e = f))) w ∧ (binOp .neq t (V e) (V f)).run P w = .ok (.bool (!decide (e = f))) w
section
variable {α : Type} [DecidableEq α] {V : α → Value} {e f : α}
theorem ex_neV {G : Option (Nat × Bool)} (h : AgM ds a n L) (hx : ev L x = some (V e)) (hy : ev L y = some (V f)) (he : EqOf P t V) : (execOp a.eval ⟨some d, .binOp .neq t x y t', ty, pos, after, G⟩).run P w = .ok (.value (.bool (decide (e ≠ f)))) w := by
  obtain ⟨_, h2, _, h4⟩ := he e f x y w
  simp [execOp, h.eval hx, h.eval hy, h2, h4]
theorem qt_neV (h : AgM ds a n L) (hx : ev L x = some (V e)) (hy : ev L y = some (V f)) (he : EqOf P t V) (hn : Nat.blt d n = true) (q : ∀ a, AgM ds a n ((d, .bool (decide (e ≠ f))) :: L) → wpQuiet P ops C Qa rest a) : wpQuiet P ops C Qa (⟨some d, .binOp .neq t x y t', ty, pos, after, none⟩ :: rest) a :=
  qt_ok h rfl rfl hn (fun _ _ => ex_neV h hx hy he) q
end
/-! Results that lie in memory. -/
theorem retC {fn : Func} {R : Ending → World → Prop} {p pt : Nat} (h : Ag a n L) (hr : fn.results = #[.cell p pt]) (hp : look L p = some (.pointer (some ⟨g, 0, none⟩))) (hb : Blk w g T cs) (hg : AggOf P pt cs.length) (k : R (.returned (.agg cs.toArray)) w) : bodyPost P fn R .ret a w :=
  bodyPost_ret (v := .agg cs.toArray) (by
    have h1 := h.at_ p _ hp
    simp only [Array.getD_eq_getD_getElem?] at h1
    simp [results, hr, h1, asAddr, loadVar, hg.1 w, hg.2 w, run_loadCells_list w _ cs hb.cells]) h.dfr k
theorem retCT {fn : Func} {R : Ending → World → Prop} {p pt q : Nat} (h : Ag a n L) (hr : fn.results = #[.cell p pt, .tmp q]) (hp : look L p = some (.pointer (some ⟨g, 0, none⟩))) (hb : Blk w g T cs) (hg : AggOf P pt cs.length) (hv : look L q = some v) (k : R (.returned (.tuple #[.agg cs.toArray, v])) w) : bodyPost P fn R .ret a w :=
  bodyPost_ret (v := .tuple #[.agg cs.toArray, v]) (by
    have h1 := h.at_ p _ hp
    have h2 := h.at_ q _ hv
    simp only [Array.getD_eq_getD_getElem?] at h1 h2
    simp [results, hr, h1, h2, asAddr, loadVar, hg.1 w, hg.2 w, run_loadCells_list w _ cs hb.cells]) h.dfr k
end
end Go.Lw
namespace Go.G14
open Go.Lw

structure Stitch where
  k : Int
  y : Int
  a : Int
  b : Int
  f : Bool
instance : DecidableEq Stitch := fun x y =>
  if h : x.k = y.k ∧ x.y = y.y ∧ x.a = y.a ∧ x.b = y.b ∧ x.f = y.f then isTrue (by cases x; cases y; simp_all) else isFalse (by intro e; subst e; simp at h)

def stV (s : Stitch) : Value := .agg #[.int .u8 s.k, .int .u8 s.y, .int .i64 s.a, .int .i64 s.b, .bool s.f]
def encSt : Enc Stitch := ⟨fun s => [.int .u8 s.k, .int .u8 s.y, .int .i64 s.a, .int .i64 s.b, .bool s.f], 5, fun _ => rfl, fun _ u h => by simp at h; rcases h with rfl | rfl | rfl | rfl | rfl <;> rfl, by decide⟩

/-- The error of a stitch: 0 or 1. -/
def checkS (s : Stitch) : Int :=
  if s.k < 1 ∨ 8 < s.k ∨ s.y < 1 ∨ 6 < s.y then 1
  else if s.k ≠ 8 then (if s.a ≠ 0 ∨ s.b ≠ 0 ∨ s.f = true then 1 else 0)
  else if s.a < 1 ∨ 4 < s.a ∨ s.b < 1 ∨ 4 - s.a < s.b then 1 else 0

theorem check_rng {s : Stitch} (h : checkS s = 0) : 1 ≤ s.k ∧ s.k ≤ 8 ∧ 1 ≤ s.y ∧ s.y ≤ 6 ∧ (s.k ≠ 8 → s.a = 0 ∧ s.b = 0 ∧ s.f = false) ∧ (s.k = 8 → 1 ≤ s.a ∧ s.a ≤ 3 ∧ 1 ≤ s.b ∧ s.b ≤ 3 ∧ s.a + s.b ≤ 4) := by
  unfold checkS at h
  by_cases c1 : s.k < 1 ∨ 8 < s.k ∨ s.y < 1 ∨ 6 < s.y
  · rw [if_pos c1] at h; omega
  · rw [if_neg c1] at h
    by_cases c2 : s.k ≠ 8
    · rw [if_pos c2] at h
      by_cases c3 : s.a ≠ 0 ∨ s.b ≠ 0 ∨ s.f = true
      · rw [if_pos c3] at h; omega
      · simp only [not_or, Decidable.not_not, Bool.not_eq_true] at c3
        exact ⟨by omega, by omega, by omega, by omega, fun _ => c3, fun e => absurd e c2⟩
    · rw [if_neg c2] at h
      by_cases c3 : s.a < 1 ∨ 4 < s.a ∨ s.b < 1 ∨ 4 - s.a < s.b
      · rw [if_pos c3] at h; omega
      · exact ⟨by omega, by omega, by omega, by omega, fun e => absurd e c2, fun _ => by omega⟩

/-- The digit of a number. -/
def dg (n : Int) : UInt8 := UInt8.ofNat (48 + n.toNat)
theorem dg_val (n : Int) (h0 : 0 ≤ n) (h1 : n ≤ 9) : ((dg n).toNat : Int) = 48 + n := by
  unfold dg
  rw [UInt8.toNat_ofNat']
  omega

def symbols : List UInt8 := [107, 112, 111, 47, 118, 116, 115, 99]
/-- The text of a stitch. -/
def textS (s : Stitch) : List UInt8 :=
  if checkS s ≠ 0 then []
  else [symbols.getD (s.k - 1).toNat 0] ++ (if s.k = 8 then [dg s.a, dg s.b, if s.f then 70 else 66] else []) ++ (if s.y ≠ 1 then [dg s.y] else [])

def zeroS : Stitch := ⟨0, 0, 0, 0, false⟩
/-- The table of the symbols in memory. -/
def Sym (w : World) : Prop := Cells w ⟨1, 0, none⟩ (symbols.flatMap Enc.b.enc)
theorem Sym.ext {w w' : World} (h : Sym w) (hf : Fr [] w w') : Sym w' := Cells.fr h hf (by simp)
theorem Sym.fr {w w' : World} {S : List Nat} (h : Sym w) (hf : Fr S w w') (hn : 1 ∉ S) : Sym w' := Cells.fr h hf hn
theorem Sym.pos {w : World} (h : Sym w) : 1 < w.heap.size := by
  have := h 0 (.int .u8 107) rfl
  exact block_lt_of_cell this
theorem Sym.at {w : World} (h : Sym w) (i : Nat) (hi : i < 8) : w.cell? ((⟨1, 0, none⟩ : Addr).add (i * 1)) = some (.int .u8 ((symbols.getD i 0).toNat : Int)) := by
  rw [Nat.mul_one]
  refine h i _ ?_
  match i, hi with
  | 0, _ | 1, _ | 2, _ | 3, _ | 4, _ | 5, _ | 6, _ | 7, _ => rfl
end Go.G14
namespace Go.G14
open Go.Lw

def lessP (a b : List UInt8) : Prop := a.length < b.length ∨ (a.length = b.length ∧ Op.bytesLess a b = true)
instance (a b : List UInt8) : Decidable (lessP a b) := by unfold lessP; infer_instance
def betterS (a b : List UInt8) : List UInt8 := if a = [] ∨ (b ≠ [] ∧ lessP b a) then b else a

/-- Rows of stitches in memory. -/
def Sl2 (w : World) (v : Value) (rows : List (List Stitch)) : Prop :=
  ∃ hs : List (Option Addr × Nat × Nat), Sl Enc.sl w v hs ∧ hs.length = rows.length ∧ ∀ (i : Nat) (p : Option Addr × Nat × Nat) (row : List Stitch), hs[i]? = some p → rows[i]? = some row → Sl encSt w (.slice p.1 p.2.1 p.2.2) row
theorem Sl2.ext {w w' : World} {v : Value} {rows : List (List Stitch)} (h : Sl2 w v rows) (hf : Fr [] w w') : Sl2 w' v rows := by
  obtain ⟨hs, h1, h2, h3⟩ := h
  exact ⟨hs, h1.ext hf, h2, fun i p row hp hr => (h3 i p row hp hr).ext hf⟩
/-- A slice, opened at one place. -/
theorem Sl.open_ {α : Type} {E : Enc α} {w : World} {A : Option Addr} {n c : Nat} {ys : List α} (h : Sl E w (.slice A n c) ys) : n = ys.length ∧ ys.length ≤ c ∧ c ≤ maxLen ∧ ∀ i y, ys[i]? = some y → ∃ ad, A = some ad ∧ Cells w (ad.add (i * E.sz)) (E.enc y) := by
  obtain ⟨A', c', e, h1, h2, h3⟩ := h
  cases e
  exact ⟨rfl, h1, h2, h3⟩
theorem take_ne {α : Type} {xs ys : List α} {k : Nat} {x y : α} (hx : xs[k]? = some x) (hy : ys[k]? = some y) (h : x ≠ y) : xs ≠ ys := by
  rintro rfl; rw [hx] at hy; cases hy; exact h rfl
/-- The text of a number below 100. -/
def itoaS (n : Nat) : List UInt8 := if n < 10 then [dg n] else [dg ((n / 10 : Nat) : Int), dg ((n % 10 : Nat) : Int)]
end Go.G14
namespace Go.G14
open Go.Lw

def timesS (xs : List Stitch) (n : Nat) : List Stitch := (List.replicate n xs).flatten
theorem times_succ (xs : List Stitch) (n : Nat) : timesS xs (n + 1) = timesS xs n ++ xs := by
  simp [timesS, List.replicate_succ']
end Go.G14
namespace Go.G14
open Go.Lw

def partS (row : List Stitch) (i n : Nat) : List Stitch := (row.drop i).take n
def repsB (row : List Stitch) (i n one : Nat) : Bool := decide ((partS row i n).drop one = (partS row i n).take (n - one))
def repT (t : List UInt8) (times : Nat) : List UInt8 := 91 :: (t ++ [93, 120] ++ itoaS times)
def zeroSt : Stitch := ⟨0, 0, 0, 0, false⟩
/-- One step of the search for the shortest item: the repeats with a number of times. -/
def itemStep (t : Nat → Nat → List UInt8 × List UInt8) (row : List Stitch) (i n : Nat) (it : List UInt8) (times : Nat) : List UInt8 :=
  if n / times * times = n ∧ repsB row i n (n / times) = true then betterS it (repT (t i (n / times)).2 times) else it
def itemTo (t : Nat → Nat → List UInt8 × List UInt8) (row : List Stitch) (i n : Nat) : Nat → List UInt8
  | 0 => if n = 1 then textS (row.getD i zeroSt) else []
  | k + 1 => itemStep t row i n (itemTo t row i n k) (k + 2)
/-- One step of the search for the shortest text: an item of m stitches, and a text of the others. -/
def textStep (t : Nat → Nat → List UInt8 × List UInt8) (i n : Nat) (best : List UInt8) (m : Nat) : List UInt8 :=
  if (t i m).1 ≠ [] then betterS best ((t i m).1 ++ [32] ++ (t (i + m) (n - m)).2) else best
def textTo (t : Nat → Nat → List UInt8 × List UInt8) (i n : Nat) (item : List UInt8) : Nat → List UInt8
  | 0 => item
  | k + 1 => textStep t i n (textTo t i n item k) (k + 1)
/-- Item and text of the parts with at most so many stitches. -/
def tabS (row : List Stitch) : Nat → Nat → Nat → List UInt8 × List UInt8
  | 0, _, _ => ([], [])
  | L + 1, i, n =>
    if n = L + 1 then
      let item := itemTo (tabS row L) row i n (n - 1)
      (item, textTo (tabS row L) i n item (n - 1))
    else tabS row L i n
theorem tab_old (row : List Stitch) : ∀ (L L' i n : Nat), n ≤ L → L ≤ L' → tabS row L' i n = tabS row L i n
  | L, 0, i, n, h1, h2 => by rw [show L = 0 by omega]
  | L, L' + 1, i, n, h1, h2 => by
    rcases Nat.lt_or_ge L (L' + 1) with h | h
    · rw [tabS, if_neg (by omega), tab_old row L L' i n h1 (by omega)]
    · rw [show L = L' + 1 by omega]
def shortS (row : List Stitch) : List UInt8 := (tabS row row.length 0 row.length).2
theorem better_len (a b : List UInt8) (m : Nat) (ha : a.length ≤ m) (hb : b.length ≤ m) : (betterS a b).length ≤ m := by
  unfold betterS; split <;> assumption
theorem textS_len (s : Stitch) : (textS s).length ≤ 5 := by
  unfold textS
  split
  · simp
  · (repeat' split) <;> simp
theorem itoa_len (n : Nat) : (itoaS n).length ≤ 2 := by unfold itoaS; split <;> simp
theorem rep_len (t : List UInt8) (times : Nat) : (repT t times).length ≤ t.length + 5 := by
  have := itoa_len times
  simp [repT]; omega
theorem item_len (t : Nat → Nat → List UInt8 × List UInt8) (row : List Stitch) (i n : Nat) (hn : 1 ≤ n) (ht : ∀ m, 1 ≤ m → m < n → (t i m).2.length ≤ 12 * m - 1) : ∀ k, (itemTo t row i n k).length ≤ 12 * n - 1
  | 0 => by
    unfold itemTo
    split
    · have := textS_len (row.getD i zeroSt); omega
    · simp
  | k + 1 => by
    have ih := item_len t row i n hn ht k
    unfold itemTo itemStep
    split
    · rename_i c
      have h1 : n / (k + 2) * (k + 2) = n := c.1
      have h2 : 1 ≤ n / (k + 2) := by
        rcases Nat.eq_zero_or_pos (n / (k + 2)) with e | e
        · rw [e] at h1; omega
        · exact e
      have h3 : n / (k + 2) < n := Nat.div_lt_self (by omega) (by omega)
      have := ht _ h2 h3
      have := rep_len (t i (n / (k + 2))).2 (k + 2)
      exact better_len _ _ _ ih (by omega)
    · exact ih
theorem text_len (t : Nat → Nat → List UInt8 × List UInt8) (i n : Nat) (item : List UInt8) (hi : item.length ≤ 12 * n - 1) (ht : ∀ j m, 1 ≤ m → m < n → (t j m).1.length ≤ 12 * m - 1 ∧ (t j m).2.length ≤ 12 * m - 1) : ∀ k, k < n → (textTo t i n item k).length ≤ 12 * n - 1
  | 0, _ => hi
  | k + 1, hk => by
    have ih := text_len t i n item hi ht k (by omega)
    unfold textTo textStep
    split
    · have h1 := (ht i (k + 1) (by omega) hk).1
      have h2 := (ht (i + (k + 1)) (n - (k + 1)) (by omega) (by omega)).2
      exact better_len _ _ _ ih (by simp; omega)
    · exact ih
theorem tab_len (row : List Stitch) : ∀ (L i n : Nat), 1 ≤ n → (tabS row L i n).1.length ≤ 12 * n - 1 ∧ (tabS row L i n).2.length ≤ 12 * n - 1
  | 0, i, n, hn => by simp [tabS]
  | L + 1, i, n, hn => by
    unfold tabS
    split
    · have h1 := item_len (tabS row L) row i n hn (fun m h1 _ => (tab_len row L i m h1).2) (n - 1)
      exact ⟨h1, text_len (tabS row L) i n _ h1 (fun j m h1 _ => tab_len row L j m h1) (n - 1) (by omega)⟩
    · exact tab_len row L i n hn
theorem item_congr {t t' : Nat → Nat → List UInt8 × List UInt8} {row : List Stitch} {i n : Nat} (h : ∀ m, m < n → t i m = t' i m) : ∀ k, k < n → itemTo t row i n k = itemTo t' row i n k
  | 0, _ => rfl
  | k + 1, hk => by
    rw [itemTo, itemTo, item_congr h k (by omega), itemStep, itemStep, h (n / (k + 2)) (Nat.div_lt_self (by omega) (by omega))]
theorem text_congr {t t' : Nat → Nat → List UInt8 × List UInt8} {i n : Nat} {item : List UInt8} (h : ∀ j m, m < n → t j m = t' j m) : ∀ k, k < n → textTo t i n item k = textTo t' i n item k
  | 0, _ => rfl
  | k + 1, hk => by
    rw [textTo, textTo, text_congr h k (by omega), textStep, textStep, h i (k + 1) hk, h (i + (k + 1)) (n - (k + 1)) (by omega)]
/-- The whole table. -/
def T (row : List Stitch) : Nat → Nat → List UInt8 × List UInt8 := tabS row row.length
theorem T_item (row : List Stitch) (i n : Nat) (h1 : 1 ≤ n) (h2 : n ≤ row.length) : (T row i n).1 = itemTo (T row) row i n (n - 1) := by
  unfold T
  obtain ⟨m, rfl⟩ : ∃ m, n = m + 1 := ⟨n - 1, by omega⟩
  rw [tab_old row (m + 1) row.length i (m + 1) (Nat.le_refl _) h2, tabS, if_pos rfl]
  exact item_congr (fun k hk => (tab_old row m row.length i k (by omega) (by omega)).symm) _ (by omega)
theorem T_text (row : List Stitch) (i n : Nat) (h1 : 1 ≤ n) (h2 : n ≤ row.length) : (T row i n).2 = textTo (T row) i n (T row i n).1 (n - 1) := by
  have h := T_item row i n h1 h2
  unfold T at h ⊢
  obtain ⟨m, rfl⟩ : ∃ m, n = m + 1 := ⟨n - 1, by omega⟩
  rw [tab_old row (m + 1) row.length i (m + 1) (Nat.le_refl _) h2] at h ⊢
  conv => lhs; rw [tabS, if_pos rfl]
  have h3 : (tabS row (m + 1) i (m + 1)).1 = itemTo (tabS row m) row i (m + 1) (m + 1 - 1) := by rw [tabS, if_pos rfl]
  rw [h3]
  exact text_congr (fun j k hk => (tab_old row m row.length j k (by omega) (by omega)).symm) _ (by omega)
/-- What a map holds when the parts with fewer than L stitches are done, and those with L from the first i places. -/
def mfun (n : Nat) (t : Nat → Nat → List UInt8) (L i : Nat) : Int × Int → Option Value := fun k =>
  if 0 ≤ k.1 ∧ k.1 < k.2 ∧ k.2 ≤ n ∧ (k.2 - k.1 < L ∨ (k.2 - k.1 = L ∧ k.1 < i)) then some (S (t k.1.toNat (k.2 - k.1).toNat)) else none
theorem mfun_zero (n : Nat) (t : Nat → Nat → List UInt8) : mfun n t 1 0 = fun _ => none := by
  funext k; unfold mfun; rw [if_neg (by omega)]
theorem mfun_next {n L i : Nat} (t : Nat → Nat → List UInt8) (h : n < i + L) : mfun n t L i = mfun n t (L + 1) 0 := by
  funext k
  unfold mfun
  by_cases c : 0 ≤ k.1 ∧ k.1 < k.2 ∧ k.2 ≤ n ∧ (k.2 - k.1 < L ∨ (k.2 - k.1 = L ∧ k.1 < i))
  · rw [if_pos c, if_pos (by omega)]
  · rw [if_neg c, if_neg (by omega)]
theorem mfun_set {n L i : Nat} (t : Nat → Nat → List UInt8) (h1 : 1 ≤ L) (h : i + L ≤ n) : (fun k' => if k' = ((i : Int), (i : Int) + (L : Int)) then some (S (t i L)) else mfun n t L i k') = mfun n t L (i + 1) := by
  funext k
  obtain ⟨a, b⟩ := k
  by_cases e : a = i ∧ b = (i : Int) + L
  · obtain ⟨rfl, rfl⟩ := e
    rw [if_pos rfl, mfun, if_pos (by simp only; omega)]
    simp only
    rw [show ((i : Int) + (L : Int) - (i : Int)).toNat = L by omega]; rfl
  · rw [if_neg (by simp only [Prod.mk.injEq]; exact e)]
    unfold mfun
    simp only
    by_cases c : 0 ≤ a ∧ a < b ∧ b ≤ n ∧ (b - a < L ∨ (b - a = L ∧ a < i))
    · rw [if_pos c, if_pos (by omega)]
    · rw [if_neg c, if_neg (by omega)]
theorem mfun_hit {n L i : Nat} (t : Nat → Nat → List UInt8) (a m : Nat) (x y : Int) (hx : x = a) (hy : y = (a : Int) + m) (h1 : 1 ≤ m) (h2 : a + m ≤ n) (h3 : m < L) (z : Value) : (mfun n t L i (x, y)).getD z = S (t a m) := by
  subst hx hy
  rw [mfun, if_pos (by simp only; omega)]
  simp only [Option.getD_some]
  rw [show ((a : Int) + (m : Int) - (a : Int)).toNat = m by omega]; rfl
theorem T_len (row : List Stitch) (i n : Nat) (h : 1 ≤ n) : (T row i n).1.length ≤ 12 * n - 1 ∧ (T row i n).2.length ≤ 12 * n - 1 := tab_len row _ i n h
theorem itemT_len (row : List Stitch) (i n k : Nat) (h : 1 ≤ n) : (itemTo (T row) row i n k).length ≤ 12 * n - 1 := item_len _ row i n h (fun m h1 _ => (T_len row i m h1).2) k
theorem textT_len (row : List Stitch) (i n k : Nat) (item : List UInt8) (hi : item.length ≤ 12 * n - 1) (hk : k < n) : (textTo (T row) i n item k).length ≤ 12 * n - 1 := text_len _ i n item hi (fun j m h1 _ => T_len row j m h1) k hk
theorem part_len {row : List Stitch} {i n : Nat} (h : i + n ≤ row.length) : (partS row i n).length = n := by simp [partS]; omega
theorem part_sl {w : World} {A : Option Addr} {n c : Nat} {row : List Stitch} {i m : Nat} (h : Sl encSt w (.slice A n c) row) (hm : i + m ≤ row.length) : Sl encSt w (.slice (if c = i then A else A.map (·.add (i * encSt.sz))) (i + m - i) (c - i)) (partS row i m) := by
  obtain ⟨h1, h2, h3, _⟩ := Sl.open_ h
  have hd := h.drop rfl (m := i) (by omega) (B := if c = i then A else A.map (·.add (i * encSt.sz))) (c' := c - i) (by omega) (by omega) (fun hlt => by rw [if_neg (by omega)])
  have ht := hd.take rfl (m := m) (by simp; omega) (B := if c = i then A else A.map (·.add (i * encSt.sz))) (c' := c - i) (by omega) (by omega) (fun _ => rfl)
  rw [show i + m - i = m by omega]; exact ht
theorem itemTo_no {t : Nat → Nat → List UInt8 × List UInt8} {row : List Stitch} {i n k : Nat} (h : ¬ (n / (k + 2) * (k + 2) = n ∧ repsB row i n (n / (k + 2)) = true)) : itemTo t row i n k = itemTo t row i n (k + 1) := by
  rw [itemTo, itemStep, if_neg h]
theorem itemTo_yes {t : Nat → Nat → List UInt8 × List UInt8} {row : List Stitch} {i n k : Nat} (h1 : n / (k + 2) * (k + 2) = n) (h2 : repsB row i n (n / (k + 2)) = true) : betterS (itemTo t row i n k) (repT (t i (n / (k + 2))).2 (k + 2)) = itemTo t row i n (k + 1) := by
  rw [itemTo, itemStep, if_pos ⟨h1, h2⟩]
theorem textTo_no {t : Nat → Nat → List UInt8 × List UInt8} {i n k : Nat} {it : List UInt8} (h : ¬ (t i (k + 1)).1 ≠ []) : textTo t i n it k = textTo t i n it (k + 1) := by
  rw [textTo, textStep, if_neg h]
theorem textTo_yes {t : Nat → Nat → List UInt8 × List UInt8} {i n k : Nat} {it : List UInt8} (h : (t i (k + 1)).1 ≠ []) : betterS (textTo t i n it k) ((t i (k + 1)).1 ++ [32] ++ (t (i + (k + 1)) (n - (k + 1))).2) = textTo t i n it (k + 1) := by
  rw [textTo, textStep, if_pos h]
theorem repsB_iff {row : List Stitch} {i n one : Nat} (h : i + n ≤ row.length) : repsB row i n one = true ↔ (partS row i n).drop one = (partS row i n).take ((partS row i n).length - one) := by
  rw [repsB, part_len h, decide_eq_true_iff]
def okB (s : Stitch) : Bool := decide (checkS s = 0)
theorem okB_iff (s : Stitch) : okB s = true ↔ checkS s = 0 := by simp [okB]
theorem all_snocS (l : List Stitch) (c : Stitch) (h : l.all okB = true) (hc : okB c = true) : (l ++ (some c).toList).all okB = true := by simp [h, hc]
theorem check_zero {s : Stitch} (hk : 0 ≤ s.k) (hy : 0 ≤ s.y) (h : ¬ (s.y = 0 ∨ 6 < s.y ∨ s.k = 0 ∨ 8 < s.k)) (h2 : (s.k = 8 ∧ 1 ≤ s.a ∧ 1 ≤ s.b ∧ s.a + s.b ≤ 4) ∨ (s.k ≠ 8 ∧ s.a = 0 ∧ s.b = 0 ∧ s.f = false)) : checkS s = 0 := by
  unfold checkS
  rw [if_neg (by omega)]
  rcases h2 with ⟨h3, h4⟩ | ⟨h3, h4, h5, h6⟩
  · rw [if_neg (by omega), if_neg (by omega)]
  · rw [if_pos h3, if_neg (by simp [h4, h5, h6])]
/-- The text that Shorten returns, and the error. -/
def shortenS (xs : List Stitch) : List UInt8 × Int :=
  if 16 < xs.length then ([], 3) else if xs.length = 0 then ([], 1) else if xs.all okB = true then (shortS xs, 0) else ([], 1)
end Go.G14
namespace Go.G14
open Go.Lw

theorem getD_get {α : Type} {l : List α} {i : Nat} (h : i < l.length) (d : α) : l[i]? = some (l.getD i d) := by
  rw [List.getD, List.getElem?_eq_getElem h]; rfl
end Go.G14
namespace Go.Lw
open Go.RowKit

abbrev SV := Option Addr × Nat × Nat
def slv (p : SV) : Value := .slice p.1 p.2.1 p.2.2

/-- Rows of the call's own, no two in one block, none in a block of X. -/
structure Ins {α : Type} (E : Enc α) (T : TypeId) (base : Nat) (w : World) (X : List Nat) (ps : List (SV × List α)) : Prop where
  own : ∀ p ∈ ps, Own E T base w (slv p.1) p.2
  off : ∀ p ∈ ps, ∀ k ∈ blks (slv p.1), k ∉ X
  dis : ps.Pairwise fun p q => ∀ k ∈ blks (slv p.1), k ∉ blks (slv q.1)

section
variable {α : Type} {E : Enc α} {T : TypeId} {base : Nat} {w w' : World} {X Y S : List Nat} {ps qs : List (SV × List α)} {u u' : SV} {r r' : List α}

theorem Ins.fr (h : Ins E T base w X ps) (hf : Fr S w w') (hn : ∀ k ∈ S, ∀ p ∈ ps, k ∉ blks (slv p.1)) : Ins E T base w' X ps :=
  ⟨fun p hp => (h.own p hp).fr hf fun k hk => hn k hk p hp, h.off, h.dis⟩
theorem Ins.ext (h : Ins E T base w X ps) (hf : Fr [] w w') : Ins E T base w' X ps := h.fr hf (by simp)
theorem Ins.left (h : Ins E T base w X (ps ++ qs)) : Ins E T base w X ps :=
  ⟨fun p hp => h.own p (List.mem_append_left _ hp), fun p hp => h.off p (List.mem_append_left _ hp), (List.pairwise_append.1 h.dis).1⟩
theorem Ins.right (h : Ins E T base w X (ps ++ qs)) : Ins E T base w X qs :=
  ⟨fun p hp => h.own p (List.mem_append_right _ hp), fun p hp => h.off p (List.mem_append_right _ hp), (List.pairwise_append.1 h.dis).2.1⟩
theorem Ins.blk (h : Ins E T base w X ps) : ∀ p ∈ ps, ∀ k ∈ blks (slv p.1), base ≤ k ∧ k < w.heap.size := fun p hp => (h.own p hp).blk
theorem Ins.nil : Ins E T base w X ([] : List (SV × List α)) := ⟨fun _ h => by simp at h, fun _ h => by simp at h, List.Pairwise.nil⟩
theorem Ins.snoc (h : Ins E T base w X ps) (ho : Own E T base w (slv u) r) (hX : ∀ k ∈ blks (slv u), k ∉ X) (hd : ∀ p ∈ ps, ∀ k ∈ blks (slv p.1), k ∉ blks (slv u)) : Ins E T base w X (ps ++ [(u, r)]) := by
  refine ⟨fun p hp => ?_, fun p hp => ?_, List.pairwise_append.2 ⟨h.dis, by simp, fun p hp q hq => ?_⟩⟩
  · rcases List.mem_append.1 hp with hp | hp
    · exact h.own p hp
    · simp at hp; subst hp; exact ho
  · rcases List.mem_append.1 hp with hp | hp
    · exact h.off p hp
    · simp at hp; subst hp; exact hX
  · simp at hq; subst hq; exact hd p hp
/-- A row that lies in no old block. -/
theorem Ins.push (h : Ins E T base w X ps) (ho : Own E T base w (slv u) r) (hX : ∀ k ∈ blks (slv u), k ∉ X) (hd : ∀ k ∈ blks (slv u), ∀ p ∈ ps, k ∉ blks (slv p.1)) : Ins E T base w X (ps ++ [(u, r)]) :=
  h.snoc ho hX fun p hp k hk hk' => hd k hk' p hp hk
theorem flat_set (ys : List α) (z : α) (R : List Value) : ∀ (i : Nat), i < ys.length → (ys.flatMap E.enc ++ R).take (i * E.sz) ++ E.enc z ++ (ys.flatMap E.enc ++ R).drop (i * E.sz + E.sz) = (ys.set i z).flatMap E.enc ++ R := by
  intro i hi
  obtain ⟨p, y, s, rfl, rfl⟩ : ∃ p y s, ys = p ++ y :: s ∧ p.length = i := ⟨ys.take i, ys[i], ys.drop (i + 1), by simp, by simp; omega⟩
  have h1 : p.length * E.sz = (p.flatMap E.enc).length := (E.flat_len p).symm
  rw [List.set_append_right _ _ (Nat.le_refl _), Nat.sub_self, List.set_cons_zero]
  simp only [List.flatMap_append, List.flatMap_cons, List.append_assoc]
  rw [h1, List.take_left, List.drop_append, List.drop_of_length_le (by omega), List.nil_append, show (p.flatMap E.enc).length + E.sz - (p.flatMap E.enc).length = (E.enc y).length by rw [E.len]; omega, List.drop_left]
end
section
variable {P : Program} {ops : Array Oper} {Q : Exit → Act → World → Prop} {rest : List Oper} {a : Act} {w : World} {n : Nat} {L : List (Nat × Value)} {ds : List Nat} {ty : TypeId} {pos : String} {after : Array Edge} {x y : Operand} {t T : TypeId} {v : Value}
/-- An element of a slice of the call's own is written. -/
theorem st_storeO {α : Type} {E : Enc α} {base g m c i : Nat} {ys : List α} (z : α) (h : AgM ds a n L) (hx : ev L x = some (.pointer (some ((⟨g, 0, none⟩ : Addr).add (i * E.sz))))) (hy : ev L y = some v) (ho : Own E T base w (.slice (some ⟨g, 0, none⟩) m c) ys) (hi : i < ys.length)
    (hc : v.cells = (E.enc z).toArray) (hs : SizeOf P t E.sz)
    (q : ∀ w', Own E T base w' (.slice (some ⟨g, 0, none⟩) m c) (ys.set i z) → Fr [g] w w' → w'.heap.size = w.heap.size → ∀ a, AgM ds a n L → wpList P ops Q rest a w') : wpList P ops Q (⟨none, .store t x y, ty, pos, after, none⟩ :: rest) a w := by
  rcases ho with ⟨e, _⟩ | ⟨g', cap, cur, e, hb, hg, h1, h2, h3, h4⟩
  · cases e
  cases e
  have hil : i * E.sz + E.sz ≤ ys.length * E.sz := by rw [← Nat.succ_mul]; exact Nat.mul_le_mul_right _ hi
  have hcs : ys.length * E.sz ≤ cur.size := Nat.le_trans (Nat.mul_le_mul_right _ h1) h3
  have hst := run_storeCells_at P g (i * E.sz) T (E.enc z) 0 cur w hg (by rw [E.len]; omega) (E.one z)
  rw [Nat.add_zero, E.len] at hst
  have hcur : cur.toList = ys.flatMap E.enc ++ cur.toList.drop (ys.length * E.sz) := by rw [← h4, List.take_append_drop]
  have hnew : cur.toList.take (i * E.sz) ++ E.enc z ++ cur.toList.drop (i * E.sz + E.sz) = (ys.set i z).flatMap E.enc ++ cur.toList.drop (ys.length * E.sz) := by
    conv => lhs; rw [hcur]
    exact flat_set ys z _ i hi
  rw [hnew] at hst
  refine st_skip h rfl rfl (w' := w.setRow g ((ys.set i z).flatMap E.enc ++ cur.toList.drop (ys.length * E.sz)).toArray) ?_ (q _ ?_ (Fr.setRow w g _) (by simp))
  · rw [lit_add, Nat.zero_add] at hx
    simp only [execOp, h.eval hx, h.eval hy, Sem.run_bind, Sem.run_pure, Result.andThen_ok, Instr.storeAt, Instr.sureAddr, storeVar, hs w, hc]
    simp [hst, E.len]
  · refine .inr ⟨g, c, _, by rw [List.length_set], hb, setRow_heap w g cur _ T _ hg, by rw [List.length_set]; exact h1, h2, ?_, ?_⟩
    · simp only [List.size_toArray, List.length_append, E.flat_len, List.length_set, List.length_drop, Array.length_toList]; omega
    · rw [List.length_set, show ys.length * E.sz = ((ys.set i z).flatMap E.enc).length by rw [E.flat_len, List.length_set]]
      exact List.take_left
end
section
variable {P : Program} {ops : Array Oper} {o o' : Oper} {K : Act → World → Prop} {C : World → Prop} {fu : Nat} {listed : Array Bool} {pq : Option Nat} {a : Act} {w : World}
theorem hd_come (ix : Nat) (hix : ops[ix]? = some o) (k : wpList P ops (NormEnd fun a' w' => Sat pq C (listed.setIfInBounds ix true) w' ∧ wpAnyP pq P ops (NormEnd K) C fu (listed.setIfInBounds ix true) a' w') [o] a w) :
    wpOp P ops (NormEnd K) ix (fun a w => Sat pq C (listed.setIfInBounds ix true) w ∧ wpAnyP pq P ops (NormEnd K) C fu (listed.setIfInBounds ix true) a w) a w := by
  unfold wpOp
  rw [hix]
  unfold wpList at k
  simp only
  split
  · rename_i hw
    rw [if_pos hw] at k
    rcases k with k | ⟨_, _, _, k⟩
    · refine .inl (Oper.wp_mono (fun a w h => h) ?_)
      unfold Oper.wp at k ⊢
      generalize (execOp a.eval o).run P w = r at k ⊢
      cases r with
      | ok nx w' =>
        cases nx <;> simp only [Oper.upon] at k ⊢ <;> first
          | exact k
          | exact Calls.mono k (fun e w'' he => by cases e <;> first | exact he | exact he.elim | (obtain ⟨_, _, he⟩ := he; exact he.elim))
          | exact Rows.mono k (fun _ _ he => he)
      | halt x w' => cases x <;> simp only [Oper.upon] at k ⊢ <;> exact k.elim
    · exact k.elim
  · rename_i hw
    rw [if_neg hw] at k
    exact k
/-- Two operations may come up. -/
theorem hd_two (i j : Nat) (hr : Region.ready .any ops listed = [i, j]) (hi : ops[i]? = some o) (hj : ops[j]? = some o')
    (k : wpList P ops (NormEnd fun a' w' => Sat pq C (listed.setIfInBounds i true) w' ∧ wpAnyP pq P ops (NormEnd K) C fu (listed.setIfInBounds i true) a' w') [o] a w)
    (k' : wpList P ops (NormEnd fun a' w' => Sat pq C (listed.setIfInBounds j true) w' ∧ wpAnyP pq P ops (NormEnd K) C fu (listed.setIfInBounds j true) a' w') [o'] a w) : wpAnyP pq P ops (NormEnd K) C (fu + 1) listed a w := by
  refine P_all hr (by simp) fun x hx => ?_
  simp at hx
  rcases hx with rfl | rfl
  · exact hd_come _ hi k
  · exact hd_come _ hj k'
end
end Go.Lw
namespace Go.G14
open Go.Lw

/-- May a repeat end here? -/
def ends (l : List UInt8) (b : List (List Stitch)) (p : Nat) : Prop := l.getD p 0 = 93 ∧ b ≠ [] ∧ p + 1 < l.length ∧ l.getD (p + 1) 0 = 120
instance (l : List UInt8) (b : List (List Stitch)) (p : Nat) : Decidable (ends l b p) := by unfold ends; infer_instance
section
variable {l : List UInt8} {b : List (List Stitch)} {s t : List Stitch} {p : Nat} {R : List Stitch × Int}
end
theorem Own.lens {α : Type} {E : Enc α} {T : TypeId} {base : Nat} {w : World} {u : SV} {r : List α} (h : Own E T base w (slv u) r) : u.2.1 = r.length ∧ r.length ≤ u.2.2 := by
  obtain ⟨A, c, e, hc⟩ := h.sl.form
  unfold slv at e
  injection e with e1 e2 e3
  exact ⟨e2, by omega⟩
theorem Own.at_ {α : Type} {E : Enc α} {T : TypeId} {base : Nat} {w : World} {v : Value} {r : List α} (h : Own E T base w v r) (hr : r ≠ []) : ∃ g c, v = .slice (some ⟨g, 0, none⟩) r.length c ∧ base ≤ g ∧ r.length ≤ c ∧ g < w.heap.size := by
  rcases h with ⟨_, rfl⟩ | ⟨g, c, cur, e, hb, hg, h1, _⟩
  · exact absurd rfl hr
  · exact ⟨g, c, e, hb, h1, (Array.getElem?_eq_some_iff.1 hg).1⟩
section
variable {β : Type} {T : TypeId} {base : Nat} {w : World} {A : Option Addr} {n m c : Nat} {qs : List (SV × β)} {x : SV × β}
theorem top_get (hm : m = qs.length) : ((qs ++ [x]).map Prod.fst)[m]? = some x.1 := by subst hm; simp
end
end Go.G14
namespace Go.G14
open Go.Lw

def nb (c : UInt8) : Bool := decide (c ≠ 32 ∧ c ≠ 93)
end Go.G14
namespace Go.G14
open Go.Lw

/-- The text of an item (tag false) or of a row (tag true), and what it stands for. -/
inductive Txt : Bool → List UInt8 → List Stitch → Prop
  | leaf {x : Stitch} (h : checkS x = 0) : Txt false (textS x) [x]
  | rep {t : List UInt8} {xs : List Stitch} {n : Nat} (h : Txt true t xs) (h2 : 2 ≤ n) (h16 : n ≤ 16) : Txt false (repT t n) (timesS xs n)
  | one {t : List UInt8} {xs : List Stitch} (h : Txt false t xs) : Txt true t xs
  | cons {t s : List UInt8} {xs ys : List Stitch} (h : Txt false t xs) (hr : Txt true s ys) : Txt true (t ++ [32] ++ s) (xs ++ ys)

theorem Txt.ok {tg : Bool} {t : List UInt8} {xs : List Stitch} (h : Txt tg t xs) : xs ≠ [] ∧ xs.all okB = true := by
  induction h with
  | leaf h => exact ⟨by simp, by simp [(okB_iff _).2 h]⟩
  | @rep t xs n _ h2 _ ih =>
    obtain ⟨m, rfl⟩ : ∃ m, n = m + 1 := ⟨n - 1, by omega⟩
    refine ⟨?_, ?_⟩
    · rw [times_succ]; intro e; exact ih.1 (List.append_eq_nil_iff.1 e).2
    · rw [List.all_eq_true] at ih ⊢
      intro x hx
      unfold timesS at hx
      obtain ⟨l, hl, hx⟩ := List.mem_flatten.1 hx
      rw [(List.mem_replicate.1 hl).2] at hx
      exact ih.2 x hx
  | one _ ih => exact ih
  | cons _ _ ih1 ih2 => exact ⟨by intro e; exact ih1.1 (List.append_eq_nil_iff.1 e).1, by rw [List.all_append, ih1.2, ih2.2]; rfl⟩
end Go.G14
namespace Go.G14
open Go.Lw

end Go.G14
namespace Go.G14
open Go.Lw

end Go.G14
namespace Go.G14
open Go.Lw

end Go.G14
namespace Go.G14
open Go.Lw

theorem shorten_good {xs : List Stitch} (hok : xs.all okB = true) (h1 : 1 ≤ xs.length) (h16 : xs.length ≤ 16) : shortenS xs = (shortS xs, 0) := by
  rw [shortenS, if_neg (by omega), if_neg (by omega), if_pos hok]
end Go.G14
namespace Go.G14
open Go.Lw

end Go.G14
namespace Go.G14
open Go.Lw

theorem short_len {xs : List Stitch} (h1 : 1 ≤ xs.length) (h16 : xs.length ≤ 16) : (shortS xs).length ≤ 12 * xs.length - 1 := (T_len xs 0 xs.length h1).2
end Go.G14
namespace Go.G14
open Go.Lw

def needsS (s : Stitch) : Int := if checkS s ≠ 0 ∨ s.k = 3 then 0 else if s.k = 8 then s.a + s.b else if s.k = 4 ∨ s.k = 5 then 2 else 1
def makesS (s : Stitch) : Int := if checkS s ≠ 0 then 0 else if s.k = 8 then s.a + s.b else 1
def few (n : Int) : Bool := decide (1 ≤ n ∧ n ≤ 3)
def loadsS (s : Stitch) (l : List Int) : List Int × Int :=
  if checkS s ≠ 0 then ([], 1) else if (l.length : Int) ≠ needsS s then ([], 5) else if l.all few = false then ([], 1)
  else if s.k = 4 ∨ s.k = 5 then (if 4 < l.getD 0 0 + l.getD 1 0 then ([], 9) else ([1], 0))
  else if s.k = 6 then (if l.getD 0 0 = 3 then ([], 9) else ([l.getD 0 0 + 1], 0))
  else if s.k = 7 then ([l.getD 0 0], 0) else (List.replicate (makesS s).toNat 1, 0)
theorem few_iff (n : Int) : few n = true ↔ 1 ≤ n ∧ n ≤ 3 := by simp [few]
theorem needs_rng (s : Stitch) : 0 ≤ needsS s ∧ needsS s ≤ 4 := by
  unfold needsS
  split
  · omega
  · rename_i h
    have hc : checkS s = 0 := Decidable.not_not.1 fun e => h (.inl e)
    have hr := check_rng hc
    (repeat' split) <;> first | omega | (rename_i h8; have := hr.2.2.2.2.2 h8; omega)
theorem makes_rng (s : Stitch) : 0 ≤ makesS s ∧ makesS s ≤ 4 := by
  unfold makesS
  split
  · omega
  · rename_i h
    have hr := check_rng (Decidable.not_not.1 h)
    split
    · rename_i h8; have := hr.2.2.2.2.2 h8; omega
    · omega
variable {s : Stitch} {l : List Int}
theorem needs_0 (h : checkS s ≠ 0 ∨ s.k = 3) : needsS s = 0 := if_pos h
theorem needs_8 (h : checkS s = 0) (h8 : s.k = 8) : needsS s = s.a + s.b := by rw [needsS, if_neg (by omega), if_pos h8]
theorem needs_2 (h : checkS s = 0) (h4 : s.k = 4 ∨ s.k = 5) : needsS s = 2 := by rw [needsS, if_neg (by omega), if_neg (by omega), if_pos h4]
theorem needs_1 (h : checkS s = 0) (h3 : s.k ≠ 3) (h8 : s.k ≠ 8) (h4 : ¬ (s.k = 4 ∨ s.k = 5)) : needsS s = 1 := by rw [needsS, if_neg (by omega), if_neg h8, if_neg h4]
theorem makes_0 (h : checkS s ≠ 0) : makesS s = 0 := if_pos h
theorem makes_8 (h : checkS s = 0) (h8 : s.k = 8) : makesS s = s.a + s.b := by rw [makesS, if_neg (by omega), if_pos h8]
theorem makes_1 (h : checkS s = 0) (h8 : s.k ≠ 8) : makesS s = 1 := by rw [makesS, if_neg (by omega), if_neg h8]
theorem loads_1 (h : checkS s ≠ 0) : loadsS s l = ([], 1) := if_pos h
theorem loads_5 (h : checkS s = 0) (hn : (l.length : Int) ≠ needsS s) : loadsS s l = ([], 5) := by rw [loadsS, if_neg (by omega), if_pos hn]
theorem loads_b (h : checkS s = 0) (hn : (l.length : Int) = needsS s) {k : Nat} {x : Int} (hx : l[k]? = some x) (hb : ¬ (1 ≤ x ∧ x ≤ 3)) : loadsS s l = ([], 1) := by
  have hf : l.all few = false := by
    rw [Bool.eq_false_iff]
    intro e
    exact hb ((few_iff x).1 (List.all_eq_true.1 e x (List.mem_of_getElem? hx)))
  rw [loadsS, if_neg (by omega), if_neg (by omega), if_pos hf]
variable (h : checkS s = 0) (hn : (l.length : Int) = needsS s) (hf : l.all few = true)
include h hn hf
theorem loads_g : loadsS s l = if s.k = 4 ∨ s.k = 5 then (if 4 < l.getD 0 0 + l.getD 1 0 then ([], 9) else ([1], 0))
  else if s.k = 6 then (if l.getD 0 0 = 3 then ([], 9) else ([l.getD 0 0 + 1], 0))
  else if s.k = 7 then ([l.getD 0 0], 0) else (List.replicate (makesS s).toNat 1, 0) := by
  rw [loadsS, if_neg (by omega), if_neg (by omega), if_neg (by rw [hf]; simp)]
theorem loads_2f (h4 : s.k = 4 ∨ s.k = 5) {x y : Int} (hx : l[0]? = some x) (hy : l[1]? = some y) (hc : 4 < x + y) : loadsS s l = ([], 9) := by
  rw [loads_g h hn hf, if_pos h4, if_pos (by rw [List.getD, List.getD, hx, hy]; exact hc)]
theorem loads_2 (h4 : s.k = 4 ∨ s.k = 5) {x y : Int} (hx : l[0]? = some x) (hy : l[1]? = some y) (hc : ¬ 4 < x + y) : loadsS s l = ([1], 0) := by
  rw [loads_g h hn hf, if_pos h4, if_neg (by rw [List.getD, List.getD, hx, hy]; exact hc)]
theorem loads_6f (h6 : s.k = 6) {x : Int} (hx : l[0]? = some x) (hc : x = 3) : loadsS s l = ([], 9) := by
  rw [loads_g h hn hf, if_neg (by omega), if_pos h6, if_pos (by rw [List.getD, hx]; exact hc)]
theorem loads_6 (h6 : s.k = 6) {x : Int} (hx : l[0]? = some x) (hc : ¬ x = 3) : loadsS s l = ([x + 1], 0) := by
  rw [loads_g h hn hf, if_neg (by omega), if_pos h6, if_neg (by rw [List.getD, hx]; exact hc), List.getD, hx]; rfl
theorem loads_7 (h7 : s.k = 7) {x : Int} (hx : l[0]? = some x) : loadsS s l = ([x], 0) := by
  rw [loads_g h hn hf, if_neg (by omega), if_neg (by omega), if_pos h7, List.getD, hx]; rfl
theorem loads_o (h4 : ¬ (s.k = 4 ∨ s.k = 5)) (h6 : s.k ≠ 6) (h7 : s.k ≠ 7) : loadsS s l = (List.replicate (makesS s).toNat 1, 0) := by
  rw [loads_g h hn hf, if_neg h4, if_neg h6, if_neg h7]
omit h hn hf
theorem all_few_next {l : List Int} {k : Nat} {x : Int} (ha : (l.take k).all few = true) (hx : l[k]? = some x) (h : 1 ≤ x ∧ x ≤ 3) : (l.take (k + 1)).all few = true := by
  rw [List.take_add_one, hx]; simp [ha, (few_iff x).2 h]
theorem rep_succ (n : Nat) : List.replicate (n + 1) (1 : Int) = List.replicate n 1 ++ [1] := List.replicate_succ'
/-- What Loads makes of few loops is few again. -/
theorem loads_few (h0 : (loadsS s l).2 = 0) : (loadsS s l).1.all few = true ∧ ((loadsS s l).1.length : Int) = makesS s ∧ checkS s = 0 := by
  unfold loadsS at h0 ⊢
  by_cases h : checkS s ≠ 0
  · rw [if_pos h] at h0; simp at h0
  by_cases hn : (l.length : Int) ≠ needsS s
  · rw [if_neg h, if_pos hn] at h0; simp at h0
  by_cases hf : l.all few = false
  · rw [if_neg h, if_neg hn, if_pos hf] at h0; simp at h0
  rw [if_neg h, if_neg hn, if_neg hf] at h0 ⊢
  have hf' : l.all few = true := by simpa using hf
  have hc : checkS s = 0 := Decidable.not_not.1 h
  have hnn : (l.length : Int) = needsS s := Decidable.not_not.1 hn
  have get0 : s.k = 6 ∨ s.k = 7 → 1 ≤ l.getD 0 0 ∧ l.getD 0 0 ≤ 3 := by
    intro hk
    have hl : l.length = 1 := by have := needs_1 hc (by omega) (by omega) (by omega); omega
    obtain ⟨x, rfl⟩ := List.length_eq_one_iff.1 hl
    simpa [few] using hf'
  by_cases h4 : s.k = 4 ∨ s.k = 5
  · rw [if_pos h4] at h0 ⊢
    split at h0
    · simp at h0
    · rename_i c; rw [if_neg c]; exact ⟨rfl, by rw [makes_1 hc (by omega)]; rfl, hc⟩
  rw [if_neg h4] at h0 ⊢
  by_cases h6 : s.k = 6
  · rw [if_pos h6] at h0 ⊢
    have := get0 (.inl h6)
    split at h0
    · simp at h0
    · rename_i c; rw [if_neg c]; exact ⟨by simp only [List.all_cons, List.all_nil, Bool.and_true]; exact (few_iff _).2 (by omega), by rw [makes_1 hc (by omega)]; rfl, hc⟩
  rw [if_neg h6]
  by_cases h7 : s.k = 7
  · rw [if_pos h7]
    have := get0 (.inr h7)
    exact ⟨by simp only [List.all_cons, List.all_nil, Bool.and_true]; exact (few_iff _).2 (by omega), by rw [makes_1 hc (by omega)]; rfl, hc⟩
  rw [if_neg h7]
  have := makes_rng s
  exact ⟨by simp [few], by simp; omega, hc⟩
end Go.G14
namespace Go.G14
open Go.Lw

theorem Sl.part {α : Type} {E : Enc α} {w : World} {A : Option Addr} {n c : Nat} {l : List α} {i m : Nat} (h : Sl E w (.slice A n c) l) (hm : i + m ≤ l.length) : Sl E w (.slice (if c = i then A else A.map (·.add (i * E.sz))) (i + m - i) (c - i)) ((l.drop i).take m) := by
  obtain ⟨hn, hc, hM, _⟩ := Sl.open_ h
  have h1 := h.drop rfl (m := i) (by omega) (B := if c = i then A else A.map (·.add (i * E.sz))) (c' := c - i) (by omega) (by omega) (fun hlt => by rw [if_neg (by omega)])
  have h2 := h1.take rfl (m := m) (by simp; omega) (B := if c = i then A else A.map (·.add (i * E.sz))) (c' := c - i) (by omega) (by omega) (fun _ => rfl)
  rw [show i + m - i = m by omega]
  exact h2
def pairsL : List (Int × Int) := [(1, 1), (1, 2), (2, 1), (2, 2), (1, 3), (3, 1)]
def encPr : Enc (Int × Int) := ⟨fun p => [.int .i64 p.1, .int .i64 p.2], 2, fun _ => rfl, fun _ u h => by simp at h; rcases h with rfl | rfl <;> rfl, by decide⟩
def kOfS (kd y a : Int) (f : Bool) : Stitch :=
  if 1 + kd % 8 = 8 then ⟨1 + kd % 8, 1 + y % 6, (pairsL.getD (a % 6).toNat (0, 0)).1, (pairsL.getD (a % 6).toNat (0, 0)).2, f⟩ else ⟨1 + kd % 8, 1 + y % 6, 0, 0, false⟩
theorem kOf7 (a : Int) (f : Bool) (h : 0 ≤ a) : (kOfS 7 0 a f).k = 8 ∧ (kOfS 7 0 a f).y = 1 ∧ 1 ≤ (kOfS 7 0 a f).a ∧ 1 ≤ (kOfS 7 0 a f).b ∧ (kOfS 7 0 a f).a + (kOfS 7 0 a f).b ≤ 4 := by
  have h6 : (a % 6).toNat < 6 := by omega
  have key : ∀ n, n < 6 → 1 ≤ (pairsL.getD n (0, 0)).1 ∧ 1 ≤ (pairsL.getD n (0, 0)).2 ∧ (pairsL.getD n (0, 0)).1 + (pairsL.getD n (0, 0)).2 ≤ 4 := by decide
  have := key _ h6
  rw [kOfS, if_pos (by decide)]
  exact ⟨by simp, by simp, this.1, this.2.1, this.2.2⟩
/-- A stitch that fits behind i slots, where ny slots have been made. -/
def Fit (ls : List Int) (i ny : Nat) (s : Stitch) : Prop :=
  checkS s = 0 ∧ i + (needsS s).toNat ≤ ls.length ∧ (needsS s = 0 → ny + (ls.length - i) < 8) ∧ (loadsS s ((ls.drop i).take (needsS s).toNat)).2 = 0
theorem part_few {ls : List Int} {i m : Nat} (h : ls.all few = true) : ((ls.drop i).take m).all few = true := by
  rw [List.all_eq_true] at h ⊢
  exact fun x hx => h x (List.mem_of_mem_drop (List.mem_of_mem_take hx))
theorem part_length {ls : List Int} {i : Nat} {s : Stitch} (h : i + (needsS s).toNat ≤ ls.length) : (((ls.drop i).take (needsS s).toNat).length : Int) = needsS s := by
  have := needs_rng s
  simp; omega
theorem part_get {ls : List Int} {i m j : Nat} (h : j < m) : ((ls.drop i).take m)[j]? = ls[i + j]? := by
  rw [List.getElem?_take, if_pos h, List.getElem?_drop]
variable {ls : List Int} {i ny : Nat} {s : Stitch}
theorem fit_over (hc : checkS s = 0) (hk : s.k = 3) (hi : i ≤ ls.length) (hf : ls.all few = true) (h8 : ny + (ls.length - i) < 8) : Fit ls i ny s := by
  have hn := needs_0 (s := s) (.inr hk)
  have hle : i + (needsS s).toNat ≤ ls.length := by omega
  exact ⟨hc, hle, fun _ => h8, by rw [loads_o hc (part_length hle) (part_few hf) (by omega) (by omega) (by omega)]⟩
theorem fit_plain (hc : checkS s = 0) (hk : s.k = 1 ∨ s.k = 2) (hi : i < ls.length) (hf : ls.all few = true) : Fit ls i ny s := by
  have hn := needs_1 hc (by omega) (by omega) (by omega)
  have hle : i + (needsS s).toNat ≤ ls.length := by omega
  exact ⟨hc, hle, fun e => by omega, by rw [loads_o hc (part_length hle) (part_few hf) (by omega) (by omega) (by omega)]⟩
theorem fit_two (hc : checkS s = 0) (hk : s.k = 4 ∨ s.k = 5) (hi : i + 1 < ls.length) (hf : ls.all few = true) {x y : Int} (hx : ls[i]? = some x) (hy : ls[i + 1]? = some y) (h4 : x + y ≤ 4) : Fit ls i ny s := by
  have hn := needs_2 hc hk
  have hle : i + (needsS s).toNat ≤ ls.length := by omega
  exact ⟨hc, hle, fun e => by omega, by rw [loads_2 hc (part_length hle) (part_few hf) hk (by rw [part_get (by omega)]; exact hx) (by rw [part_get (by omega)]; exact hy) (by omega)]⟩
theorem fit_tuck (hc : checkS s = 0) (hk : s.k = 6) (hi : i < ls.length) (hf : ls.all few = true) {x : Int} (hx : ls[i]? = some x) (h3 : x < 3) : Fit ls i ny s := by
  have hn := needs_1 hc (by omega) (by omega) (by omega)
  have hle : i + (needsS s).toNat ≤ ls.length := by omega
  exact ⟨hc, hle, fun e => by omega, by rw [loads_6 hc (part_length hle) (part_few hf) hk (by rw [part_get (by omega)]; exact hx) (by omega)]⟩
theorem fit_slip (hc : checkS s = 0) (hk : s.k = 7) (hi : i < ls.length) (hf : ls.all few = true) : Fit ls i ny s := by
  have hn := needs_1 hc (by omega) (by omega) (by omega)
  have hle : i + (needsS s).toNat ≤ ls.length := by omega
  obtain ⟨x, hx⟩ : ∃ x, ls[i]? = some x := ⟨_, List.getElem?_eq_getElem hi⟩
  exact ⟨hc, hle, fun e => by omega, by rw [loads_7 hc (part_length hle) (part_few hf) hk (by rw [part_get (by omega)]; exact hx)]⟩
theorem fit_cable (hc : checkS s = 0) (hk : s.k = 8) (hf : ls.all few = true) (hle : (i : Int) + (s.a + s.b) ≤ ls.length) : Fit ls i ny s := by
  have hn := needs_8 hc hk
  have hr := (check_rng hc).2.2.2.2.2 hk
  have hle : i + (needsS s).toNat ≤ ls.length := by omega
  exact ⟨hc, hle, fun e => by omega, by rw [loads_o hc (part_length hle) (part_few hf) (by omega) (by omega) (by omega)]⟩
theorem fit_step (h : Fit ls i ny s) (hi : i ≤ ls.length) (h8 : ny + (ls.length - i) ≤ 8) : 1 ≤ makesS s ∧ ny + (makesS s).toNat + (ls.length - (i + (needsS s).toNat)) ≤ 8 ∧ (needsS s = 0 → makesS s = 1) := by
  obtain ⟨hc, h1, h2, h3⟩ := h
  have hr := check_rng hc
  by_cases h8k : s.k = 8
  · have := hr.2.2.2.2.2 h8k
    rw [makes_8 hc h8k, needs_8 hc h8k] at *
    omega
  · rw [makes_1 hc h8k]
    by_cases h3k : s.k = 3
    · rw [needs_0 (.inr h3k)] at *
      have := h2 rfl
      simp; omega
    · have : 1 ≤ needsS s := by
        by_cases h4 : s.k = 4 ∨ s.k = 5
        · rw [needs_2 hc h4]; omega
        · rw [needs_1 hc h3k h8k h4]; omega
      omega
theorem check_plain {k y : Int} (hk : 1 ≤ k ∧ k ≤ 7) (hy : 1 ≤ y ∧ y ≤ 6) : checkS ⟨k, y, 0, 0, false⟩ = 0 :=
  check_zero (by show 0 ≤ k; omega) (by show 0 ≤ y; omega) (by show ¬ (y = 0 ∨ 6 < y ∨ k = 0 ∨ 8 < k); omega) (.inr ⟨by show k ≠ 8; omega, rfl, rfl, rfl⟩)
theorem check_cable {y a b : Int} {f : Bool} (hy : 1 ≤ y ∧ y ≤ 6) (ha : 1 ≤ a) (hb : 1 ≤ b) (hab : a + b ≤ 4) : checkS ⟨8, y, a, b, f⟩ = 0 :=
  check_zero (by show (0 : Int) ≤ 8; omega) (by show 0 ≤ y; omega) (by show ¬ (y = 0 ∨ 6 < y ∨ (8 : Int) = 0 ∨ (8 : Int) < 8); omega) (.inl ⟨rfl, ha, hb, hab⟩)
theorem fitP {k y : Int} (hk : k = 1 ∨ k = 2) (hy : 1 ≤ y ∧ y ≤ 6) (hi : i < ls.length) (hf : ls.all few = true) : Fit ls i ny ⟨k, y, 0, 0, false⟩ := fit_plain (check_plain (by omega) hy) hk hi hf
theorem fitO {k y : Int} (hk : k = 3) (hy : 1 ≤ y ∧ y ≤ 6) (hi : i ≤ ls.length) (hf : ls.all few = true) (h8 : ny + (ls.length - i) < 8) : Fit ls i ny ⟨k, y, 0, 0, false⟩ := fit_over (check_plain (by omega) hy) hk hi hf h8
theorem fitT {k y : Int} (hk : k = 4 ∨ k = 5) (hy : 1 ≤ y ∧ y ≤ 6) (hi : i + 1 < ls.length) (hf : ls.all few = true) {p q : Int} (hx : ls[i]? = some p) (hy' : ls[i + 1]? = some q) (h4 : p + q ≤ 4) : Fit ls i ny ⟨k, y, 0, 0, false⟩ := fit_two (check_plain (by omega) hy) hk hi hf hx hy' h4
theorem fitU {k y : Int} (hk : k = 6) (hy : 1 ≤ y ∧ y ≤ 6) (hi : i < ls.length) (hf : ls.all few = true) {p : Int} (hx : ls[i]? = some p) (h3 : p < 3) : Fit ls i ny ⟨k, y, 0, 0, false⟩ := fit_tuck (check_plain (by omega) hy) hk hi hf hx h3
theorem fitS {k y : Int} (hk : k = 7) (hy : 1 ≤ y ∧ y ≤ 6) (hi : i < ls.length) (hf : ls.all few = true) : Fit ls i ny ⟨k, y, 0, 0, false⟩ := fit_slip (check_plain (by omega) hy) hk hi hf
theorem fitC {k y a b : Int} {f : Bool} (hk : k = 8) (hy : 1 ≤ y ∧ y ≤ 6) (ha : 1 ≤ a) (hb : 1 ≤ b) (hab : a + b ≤ 4) (hf : ls.all few = true) (hle : (i : Int) + (a + b) ≤ ls.length) : Fit ls i ny ⟨k, y, a, b, f⟩ := by
  subst hk; exact fit_cable (check_cable hy ha hb hab) rfl hf hle
theorem all_app {l m : List Int} (h1 : l.all few = true) (h2 : m.all few = true) : (l ++ m).all few = true := by simp [h1, h2]
structure RowSt where
  i : Nat
  xs : List Stitch
  ys : List Int
  X : Value
  Y : Value
/-- Rows in memory: the outer slice is the call's own, and so are the rows, apart from it. -/
structure RowsO (R T : TypeId) (base : Nat) (w : World) (OV : Value) (ps : List (SV × List Stitch)) : Prop where
  out : Own Enc.sl R base w OV (ps.map Prod.fst)
  ins : ∀ p ∈ ps, Own encSt T base w (slv p.1) p.2
  off : ∀ p ∈ ps, ∀ k ∈ blks (slv p.1), k ∉ blks OV
section
variable {R T : TypeId} {base : Nat} {w w' : World} {OV OV' : Value} {ps : List (SV × List Stitch)}
theorem RowsO.fr {S : List Nat} (h : RowsO R T base w OV ps) (hq : Fr S w w') (hS : ∀ k ∈ S, k < base) : RowsO R T base w' OV ps :=
  ⟨h.out.fr hq (fun k hk hb => by have := (h.out.blk k hb).1; have := hS k hk; omega), fun p hp => (h.ins p hp).fr hq (fun k hk hb => by have := ((h.ins p hp).blk k hb).1; have := hS k hk; omega), h.off⟩
theorem RowsO.ext (h : RowsO R T base w OV ps) (hq : Fr [] w w') : RowsO R T base w' OV ps := h.fr hq (by simp)
theorem RowsO.nil (w : World) : RowsO R T base w (.slice none 0 0) [] := ⟨Own.nil w, by simp, by simp⟩
theorem RowsO.push {u : SV} {r : List Stitch} (h : RowsO R T base w OV ps) (hu : Own encSt T base w (slv u) r) (hd : ∀ k ∈ blks (slv u), k ∉ blks OV) (ho : Own Enc.sl R base w' OV' (ps.map Prod.fst ++ [u])) (hq : Fr (blks OV) w w')
    (hx : OV' = OV ∨ blks OV' = blks OV ∨ blks OV' = [w.heap.size]) : RowsO R T base w' OV' (ps ++ [(u, r)]) := by
  have hall : ∀ p ∈ ps ++ [(u, r)], Own encSt T base w (slv p.1) p.2 ∧ ∀ k ∈ blks (slv p.1), k ∉ blks OV := by
    intro p hp
    rcases List.mem_append.1 hp with hp | hp
    · exact ⟨h.ins p hp, h.off p hp⟩
    · simp at hp; subst hp; exact ⟨hu, hd⟩
  refine ⟨by simpa using ho, fun p hp => (hall p hp).1.fr hq (fun k hk hb => (hall p hp).2 k hb hk), fun p hp k hk => ?_⟩
  rcases hx with e | e | e
  · rw [e]; exact (hall p hp).2 k hk
  · rw [e]; exact (hall p hp).2 k hk
  · rw [e]; have := ((hall p hp).1.blk k hk).2; simp; omega
end
structure OfSt where
  i : Nat
  L : Value
  ls : List Int
  OV : Value
  ps : List (SV × List Stitch)
def goodRow (r : List Stitch) : Prop := r ≠ [] ∧ r.all okB = true ∧ r.length ≤ 8
theorem rep_few (n : Nat) : (List.replicate n (1 : Int)).all few = true := by simp [few]
end Go.G14
namespace Go.G14
open Go.Lw

end Go.G14
namespace Go.Lw
open Go.RowKit

theorem zero_rows {α : Type} (E : Enc α) (z : α) : ∀ (c : Nat), ((Array.range (c * E.sz)).map ((E.enc z).toArray[· % E.sz]!)).toList = (List.replicate c z).flatMap E.enc := by
  intro c
  apply List.ext_getElem?
  intro m
  have hl : ((List.replicate c z).flatMap E.enc).length = c * E.sz := by rw [E.flat_len, List.length_replicate]
  rcases Nat.lt_or_ge m (c * E.sz) with h | h
  · have hi : m / E.sz < c := Nat.div_lt_of_lt_mul (by rw [Nat.mul_comm]; exact h)
    have hj : m % E.sz < E.sz := Nat.mod_lt _ E.pos
    have e : m / E.sz * E.sz + m % E.sz = m := by rw [Nat.mul_comm]; exact Nat.div_add_mod m E.sz
    have hg := E.flat_get (List.replicate c z) (m / E.sz) z (by rw [List.getElem?_replicate, if_pos hi]) (m % E.sz) hj
    rw [e] at hg
    rw [hg]
    have hj' : m % E.sz < (E.enc z).length := by rw [E.len]; exact hj
    simp [h]
    rw [List.getElem?_eq_getElem hj']
    rfl
  · rw [List.getElem?_eq_none (by simp; exact h), List.getElem?_eq_none (by rw [hl]; exact h)]

section
variable {P : Program} {a : Act} {n : Nat} {L : List (Nat × Value)} {ds : List Nat} {w w' : World} {Q : Exit → Act → World → Prop} {ops : Array Oper} {rest : List Oper}
variable {d : Nat} {ty : TypeId} {pos : String} {after : Array Edge} {v u : Value} {x y z : Operand} {t t' T : TypeId} {k k' : IntKind} {i j : Int}

theorem ex_makeSlice {G : Option (Nat × Bool)} {α : Type} {E : Enc α} {bytes m c : Nat} (e0 : α) (h : AgM ds a n L) (hx : ev L x = some (.int k (m : Int))) (hy : ev L y = some (.int k' (c : Int))) (he : ElemOf P t T E bytes)
    (hz : ∀ w : World, (zeroValue T).run P w = .ok v w) (hv : v.cells = (E.enc e0).toArray) (hmc : m ≤ c) (hb : c * bytes ≤ 140737488355328) (hM : c ≤ maxLen) :
    (execOp a.eval ⟨some d, .makeSlice t x y, ty, pos, after, G⟩).run P w = .ok (.value (.slice (some ⟨w.heap.size, 0, none⟩) m c)) (w.alloc (.cells ((List.replicate c e0).flatMap E.enc).toArray T)) := by
  obtain ⟨inf, zv, hin, hzz, hsz, hby, hzs⟩ := he.info
  have hzv : zv = v := by
    have := hz w
    simpa [zeroValue, typeInfo, hin, hzz] using this
  subst hzv
  have hM' : c ≤ 9223372036854775807 := by simp only [maxLen] at hM; omega
  have w1 : IntKind.i64.wrap (m : Int) = m := IntWalk.i64_in _ (by omega)
  have w2 : IntKind.i64.wrap (c : Int) = c := IntWalk.i64_in _ (by omega)
  have hbi : ((inf.bytes : Nat) : Int) * (c : Int) ≤ 140737488355328 := by
    have : ((inf.bytes * c : Nat) : Int) ≤ 140737488355328 := by rw [hby, Nat.mul_comm]; omega
    simpa using this
  have ht : (decide ((c : Int) < 0) || decide ((inf.bytes : Int) * (c : Int) > 2 ^ 48)) = false := by
    simp only [Bool.or_eq_false_iff, decide_eq_false_iff_not]
    constructor <;> omega
  have hlt : ¬ ((m : Int) < 0) := by omega
  have hgt : ¬ ((m : Int) > (c : Int)) := by omega
  have hroom : ¬ (c * inf.bytes > roomBytes) := by
    rw [hby]; unfold roomBytes; omega
  have hrows := zero_rows E e0 c
  simp only [execOp, h.eval hx, h.eval hy, Instr.makeSlice, Sem.run_bind, run_underlying he.und, Result.andThen_ok, asInt, asIntOf, Sem.run_pure, typeInfo, sizeOf, w1, w2]
  simp [hin, hsz, ht, hlt, hgt, askRoom, hroom, w1, w2]
  by_cases h0 : c = 0
  · subst h0
    simp [newRow]
    rw [show Array.range 0 = #[] from rfl]; simp
  · have hcz : ¬ (c * E.sz = 0) := by
      have := E.pos
      intro e
      rcases Nat.mul_eq_zero.1 e with e | e <;> omega
    have h00 : ¬ ((c : Int) < 0) := by omega
    have hbb : ¬ ((281474976710656 : Int) < (inf.bytes : Int) * (c : Int)) := by omega
    simp [hcz, zeroValue, typeInfo, hin, hzz, newRow, hv, E.len, h00, hbb]
    congr 2
    apply Array.toList_inj.1
    simpa using hrows
theorem st_makeSlice {α : Type} {E : Enc α} {bytes m c : Nat} (e0 : α) (h : AgM ds a n L) (hx : ev L x = some (.int k (m : Int))) (hy : ev L y = some (.int k' (c : Int))) (he : ElemOf P t T E bytes)
    (hz : ∀ w : World, (zeroValue T).run P w = .ok v w) (hv : v.cells = (E.enc e0).toArray) (hmc : m ≤ c) (hb : c * bytes ≤ 140737488355328) (hM : c ≤ maxLen) (hn : Nat.blt d n = true)
    (q : ∀ g w', g = w.heap.size → Own E T g w' (.slice (some ⟨g, 0, none⟩) m c) (List.replicate m e0) → Fr [] w w' → w'.heap.size = g + 1 → ∀ a, AgM ds a n ((d, .slice (some ⟨g, 0, none⟩) m c) :: L) → wpList P ops Q rest a w') :
    wpList P ops Q (⟨some d, .makeSlice t x y, ty, pos, after, none⟩ :: rest) a w := by
  refine st_ok h rfl rfl hn (ex_makeSlice e0 h hx hy he hz hv hmc hb hM) (q _ _ rfl ?_ (Fr.alloc [] w _) (by simp))
  refine .inr ⟨_, c, _, by simp, Nat.le_refl _, heap_alloc_new w _, by simpa using hmc, hM, by simp [E.flat_len], ?_⟩
  simp only [List.length_replicate]
  obtain ⟨r, rfl⟩ : ∃ r, c = m + r := ⟨c - m, by omega⟩
  rw [← List.replicate_append_replicate, List.flatMap_append]
  rw [show m * E.sz = ((List.replicate m e0).flatMap E.enc).length by rw [E.flat_len, List.length_replicate]]
  exact List.take_left
theorem s_makeSlice {α : Type} {E : Enc α} {bytes m c : Nat} (e0 : α) (hx : ev L x = some (.int k (m : Int))) (hy : ev L y = some (.int k' (c : Int))) (he : ElemOf P t T E bytes) (hz : ∀ w : World, (zeroValue T).run P w = .ok v w) (hv : v.cells = (E.enc e0).toArray) (hmc : m ≤ c) (hb : c * bytes ≤ 140737488355328) (hM : c ≤ maxLen) (hn : Nat.blt d n = true) (q : ∀ g w', g = w.heap.size → Own E T g w' (.slice (some ⟨g, 0, none⟩) m c) (List.replicate m e0) → Fr [] w w' → w'.heap.size = g + 1 → WL P ops Q rest n ds w' ((d, .slice (some ⟨g, 0, none⟩) m c) :: L)) : WL P ops Q (⟨some d, .makeSlice t x y, ty, pos, after, none⟩ :: rest) n ds w L := fun a h => st_makeSlice e0 h hx hy he hz hv hmc hb hM hn q -- short
end
end Go.Lw
namespace Go.Lw
section
variable {P : Program} {a : Act} {n : Nat} {L : List (Nat × Value)} {ds : List Nat} {w w' : World} {ops : Array Oper} {C : World → Prop}
variable {d : Nat} {ty : TypeId} {pos : String} {after : Array Edge} {x y : Operand} {t T : TypeId} {k : IntKind} {i : Int}
theorem hd_idxA {G : Option (Nat × Bool)} {K : Act → World → Prop} {fu : Nat} {listed : Array Bool} {pq : Option Nat} {ad : Addr} {N sz : Nat} (ix : Nat) (hsel : Region.noSelect ops = true) (hfr : Fre pq ops listed ix = true) (hre : (Region.ready .any ops listed).contains ix = true) (hC : C w) (h : AgM ds a n L) (hG : Wd ops n L G)
    (hx : ev L x = some (.pointer (some ad))) (hy : ev L y = some (.int k i)) (hu : P.underlying t = some (.array N T)) (hs : SizeOf P T sz) (h0 : 0 ≤ i) (h1 : i < N) (hix : ops[ix]? = some ⟨some d, .indexAddr t x y, ty, pos, after, G⟩) (hn : Nat.blt d n = true)
    (q : ∀ a, AgM ds a n ((d, .pointer (some (ad.add (i.toNat * sz)))) :: L) → wpAnyP pq P ops (NormEnd K) C fu (listed.setIfInBounds ix true) a w) : wpAnyP pq P ops (NormEnd K) C (fu + 1) listed a w :=
  hd_ok ix hsel hfr hre hC h hG hix rfl hn (fun _ _ => ex_idxA h hx hy hu hs h0 h1) q
end
end Go.Lw
namespace Go.Lw
open Go.RowKit

/-- A slice of slices reads as a list of lists. -/
def Sll {α : Type} (E : Enc α) (w : World) (v : Value) (rows : List (List α)) : Prop :=
  ∃ hs : List SV, Sl Enc.sl w v hs ∧ hs.length = rows.length ∧ ∀ (i : Nat) (p : SV) (r : List α), hs[i]? = some p → rows[i]? = some r → Sl E w (slv p) r
theorem Sll.ext {α : Type} {E : Enc α} {w w' : World} {v : Value} {rows : List (List α)} (h : Sll E w v rows) (hf : Fr [] w w') : Sll E w' v rows := by
  obtain ⟨hs, h1, h2, h3⟩ := h
  exact ⟨hs, h1.ext hf, h2, fun i p r hp hr => (h3 i p r hp hr).ext hf⟩
theorem Sll.form {α : Type} {E : Enc α} {w : World} {v : Value} {rows : List (List α)} (h : Sll E w v rows) : ∃ A c, v = .slice A rows.length c ∧ rows.length ≤ c ∧ c ≤ maxLen := by
  obtain ⟨hs, h1, h2, h3⟩ := h
  obtain ⟨A, c, e, h4, h5, _⟩ := h1
  exact ⟨A, c, by rw [e, h2], by omega, h5⟩
/-- A row of it: its header lies where it is, and reads as the list. -/
theorem Sll.row {α : Type} {E : Enc α} {w : World} {A : Option Addr} {n c : Nat} {rows : List (List α)} {i : Nat} {r : List α} (h : Sll E w (.slice A n c) rows) (hr : rows[i]? = some r) :
    ∃ RA rc ad, A = some ad ∧ Cells w (ad.add (i * 1)) [.slice RA r.length rc] ∧ Sl E w (.slice RA r.length rc) r ∧ r.length ≤ rc ∧ rc ≤ maxLen := by
  obtain ⟨hs, h1, h2, h3⟩ := h
  have hi : i < hs.length := by rw [h2]; exact (List.getElem?_eq_some_iff.1 hr).1
  have hp := List.getElem?_eq_getElem hi
  have hs1 := h3 i _ r hp hr
  obtain ⟨A', c', e, _, _, hA⟩ := h1
  cases e
  obtain ⟨ad, rfl, hc⟩ := hA i _ hp
  obtain ⟨RA, rc, e, h5, h6, _⟩ := hs1
  have hl : hs[i].2.1 = r.length ∧ hs[i].1 = RA ∧ hs[i].2.2 = rc := by
    simp only [slv, Value.slice.injEq] at e; exact ⟨e.2.1, e.1, e.2.2⟩
  have hsl := h3 i _ r hp hr
  refine ⟨RA, rc, ad, rfl, ?_, ?_, h5, h6⟩
  · have hc' : Cells w (ad.add (i * 1)) [.slice hs[i].1 hs[i].2.1 hs[i].2.2] := hc
    rw [hl.1, hl.2.1, hl.2.2] at hc'; exact hc'
  · rw [e] at hsl; exact hsl
/-- Rows in memory: the outer slice is the call's own, and so are the rows, apart from it. -/
structure Rws {α : Type} (E : Enc α) (R T : TypeId) (base : Nat) (w : World) (OV : Value) (ps : List (SV × List α)) : Prop where
  out : Own Enc.sl R base w OV (ps.map Prod.fst)
  ins : ∀ p ∈ ps, Own E T base w (slv p.1) p.2
  off : ∀ p ∈ ps, ∀ k ∈ blks (slv p.1), k ∉ blks OV
section
variable {α : Type} {E : Enc α} {R T : TypeId} {base : Nat} {w w' : World} {OV OV' : Value} {ps : List (SV × List α)}
theorem Rws.fr {S : List Nat} (h : Rws E R T base w OV ps) (hq : Fr S w w') (hS : ∀ k ∈ S, k < base) : Rws E R T base w' OV ps :=
  ⟨h.out.fr hq (fun k hk hb => by have := (h.out.blk k hb).1; have := hS k hk; omega), fun p hp => (h.ins p hp).fr hq (fun k hk hb => by have := ((h.ins p hp).blk k hb).1; have := hS k hk; omega), h.off⟩
theorem Rws.ext (h : Rws E R T base w OV ps) (hq : Fr [] w w') : Rws E R T base w' OV ps := h.fr hq (by simp)
theorem Rws.nil (w : World) : Rws E R T base w (.slice none 0 0) [] := ⟨Own.nil w, by simp, by simp⟩
theorem Rws.low {b' : Nat} (h : Rws E R T base w OV ps) (hb : b' ≤ base) : Rws E R T b' w OV ps := ⟨h.out.low hb, fun p hp => (h.ins p hp).low hb, h.off⟩
theorem Rws.push {u : SV} {r : List α} (h : Rws E R T base w OV ps) (hu : Own E T base w (slv u) r) (hd : ∀ k ∈ blks (slv u), k ∉ blks OV) (ho : Own Enc.sl R base w' OV' (ps.map Prod.fst ++ [u])) (hq : Fr (blks OV) w w')
    (hx : OV' = OV ∨ blks OV' = blks OV ∨ blks OV' = [w.heap.size]) : Rws E R T base w' OV' (ps ++ [(u, r)]) := by
  have hall : ∀ p ∈ ps ++ [(u, r)], Own E T base w (slv p.1) p.2 ∧ ∀ k ∈ blks (slv p.1), k ∉ blks OV := by
    intro p hp
    rcases List.mem_append.1 hp with hp | hp
    · exact ⟨h.ins p hp, h.off p hp⟩
    · simp at hp; subst hp; exact ⟨hu, hd⟩
  refine ⟨by simpa using ho, fun p hp => (hall p hp).1.fr hq (fun k hk hb => (hall p hp).2 k hb hk), fun p hp k hk => ?_⟩
  rcases hx with e | e | e
  · rw [e]; exact (hall p hp).2 k hk
  · rw [e]; exact (hall p hp).2 k hk
  · rw [e]; have := ((hall p hp).1.blk k hk).2; simp; omega
theorem Rws.sll (h : Rws E R T base w OV ps) : Sll E w OV (ps.map Prod.snd) := by
  refine ⟨ps.map Prod.fst, h.out.sl, by simp, fun i p x hp hx => ?_⟩
  rw [List.getElem?_map] at hp hx
  obtain ⟨q, hq, rfl⟩ := Option.map_eq_some_iff.1 hp
  rw [hq] at hx
  simp at hx; subst hx
  exact (h.ins q (List.mem_of_getElem? hq)).sl
/-- All blocks of such rows are below n. -/
def RAll (n : Nat) (OV : Value) (ps : List (SV × List α)) : Prop := (∀ k ∈ blks OV, k < n) ∧ ∀ p ∈ ps, ∀ k ∈ blks (slv p.1), k < n
theorem Rws.bnd (h : Rws E R T base w OV ps) : RAll w.heap.size OV ps := ⟨fun k hk => (h.out.blk k hk).2, fun p hp k hk => ((h.ins p hp).blk k hk).2⟩
theorem Rws.up {S : List Nat} {n : Nat} (h : Rws E R T base w OV ps) (hq : Fr S w w') (hA : RAll n OV ps) (hS : ∀ k ∈ S, n ≤ k) : Rws E R T base w' OV ps :=
  ⟨h.out.fr hq (fun k hk hb => by have := hA.1 k hb; have := hS k hk; omega), fun p hp => (h.ins p hp).fr hq (fun k hk hb => by have := hA.2 p hp k hb; have := hS k hk; omega), h.off⟩
end
theorem blks_add (A : Option Addr) (m n c n' c' : Nat) : blks (.slice (A.map (·.add m)) n c) = blks (.slice A n' c') := by cases A <;> simp [blks, block_add]
theorem blks_any (A : Option Addr) (n c n' c' : Nat) : blks (.slice A n c) = blks (.slice A n' c') := by cases A <;> rfl
end Go.Lw
namespace Go.Lw
section
variable {α : Type} {E : Enc α} {R T : TypeId} {base : Nat} {w w' : World} {OV : Value} {ps : List (SV × List α)}
end
end Go.Lw
namespace Go.G14
open Go.Lw

def needsR (xs : List Stitch) : Int := (xs.map needsS).sum
def makesR (xs : List Stitch) : Int := (xs.map makesS).sum
theorem sum_rng {f : Stitch → Int} (hf : ∀ s, 0 ≤ f s ∧ f s ≤ 4) : ∀ xs : List Stitch, 0 ≤ (xs.map f).sum ∧ (xs.map f).sum ≤ 4 * xs.length
  | [] => by simp
  | x :: xs => by
    have := sum_rng hf xs
    have := hf x
    simp only [List.map_cons, List.sum_cons, List.length_cons]
    omega
theorem sum_next {f : Stitch → Int} {xs : List Stitch} {k : Nat} {x : Stitch} (hx : xs[k]? = some x) : ((xs.take (k + 1)).map f).sum = ((xs.take k).map f).sum + f x := by
  rw [List.take_add_one, hx]; simp
theorem sum_drop {f : Stitch → Int} {xs : List Stitch} {k : Nat} {x : Stitch} (hx : xs[k]? = some x) : ((xs.drop k).map f).sum = f x + ((xs.drop (k + 1)).map f).sum := by
  rw [List.drop_eq_getElem_cons (List.getElem?_eq_some_iff.1 hx).1]
  have : xs[k]'(List.getElem?_eq_some_iff.1 hx).1 = x := (List.getElem?_eq_some_iff.1 hx).2
  simp [this]
def rowE (xs : List Stitch) : Int :=
  if 16 < xs.length then 3 else if xs.length = 0 then 1 else if xs.all okB = false then 1
  else if needsR xs < 1 ∨ 16 < needsR xs ∨ makesR xs < 1 ∨ 16 < makesR xs then 5 else 0
def adjB (rows : List (List Stitch)) : Bool := (List.range (rows.length - 1)).all fun i => decide (needsR (rows.getD (i + 1) []) = makesR (rows.getD i []))
def firstE : List (List Stitch) → Int
  | [] => 0
  | r :: rs => if rowE r ≠ 0 then rowE r else firstE rs
def rowsE (rows : List (List Stitch)) : Int :=
  if 31 < rows.length then 3 else if rows.length % 2 = 0 then 1 else if firstE rows ≠ 0 then firstE rows else if adjB rows = true then 0 else 14
/-- The loops behind a row, and its error. -/
def runRow : List Stitch → List Int → List Int → List Int × Int
  | [], _, acc => (acc, 0)
  | s :: xs, ls, acc => if (loadsS s (ls.take (needsS s).toNat)).2 ≠ 0 then ([], (loadsS s (ls.take (needsS s).toNat)).2) else runRow xs (ls.drop (needsS s).toNat) (acc ++ (loadsS s (ls.take (needsS s).toNat)).1)
def runRows : List (List Stitch) → List Int → Int
  | [], _ => 0
  | r :: rs, ls => if (runRow r ls []).2 ≠ 0 then (runRow r ls []).2 else runRows rs (runRow r ls []).1
def startL (rows : List (List Stitch)) : List Int := List.replicate (needsR (rows.getD 0 [])).toNat 1
def chartE (rows : List (List Stitch)) : Int := if rowsE rows ≠ 0 then rowsE rows else runRows rows (startL rows)
variable {xs : List Stitch} {rows : List (List Stitch)}
theorem row3 (h : 16 < xs.length) : rowE xs = 3 := if_pos h
theorem row1 (h : ¬ 16 < xs.length) (h0 : xs.length = 0) : rowE xs = 1 := by rw [rowE, if_neg h, if_pos h0]
theorem row1b (h : ¬ 16 < xs.length) {k : Nat} {x : Stitch} (hx : xs[k]? = some x) (hb : checkS x ≠ 0) : rowE xs = 1 := by
  have : xs.all okB = false := by
    rw [Bool.eq_false_iff]; intro e
    exact hb ((okB_iff x).1 (List.all_eq_true.1 e x (List.mem_of_getElem? hx)))
  have h0 : ¬ xs.length = 0 := by have := (List.getElem?_eq_some_iff.1 hx).1; omega
  rw [rowE, if_neg h, if_neg h0, if_pos this]
theorem row5 (h : ¬ 16 < xs.length) (h0 : ¬ xs.length = 0) (ha : xs.all okB = true) (hc : needsR xs < 1 ∨ 16 < needsR xs ∨ makesR xs < 1 ∨ 16 < makesR xs) : rowE xs = 5 := by
  rw [rowE, if_neg h, if_neg h0, if_neg (by rw [ha]; simp), if_pos hc]
theorem row0 (h : ¬ 16 < xs.length) (h0 : ¬ xs.length = 0) (ha : xs.all okB = true) (hc : ¬ (needsR xs < 1 ∨ 16 < needsR xs ∨ makesR xs < 1 ∨ 16 < makesR xs)) : rowE xs = 0 := by
  rw [rowE, if_neg h, if_neg h0, if_neg (by rw [ha]; simp), if_neg hc]
theorem row_ok_of (h : rowE xs = 0) : xs.length ≤ 16 ∧ 1 ≤ xs.length ∧ xs.all okB = true ∧ 1 ≤ needsR xs ∧ needsR xs ≤ 16 ∧ 1 ≤ makesR xs ∧ makesR xs ≤ 16 := by
  unfold rowE at h
  split at h
  · omega
  split at h
  · omega
  split at h
  · omega
  split at h
  · omega
  · rename_i h1 h2 h3 h4
    refine ⟨by omega, by omega, by simpa using h3, by omega, by omega, by omega, by omega⟩
theorem first_bad : ∀ {rows : List (List Stitch)} {k : Nat} {r : List Stitch}, (∀ i q, i < k → rows[i]? = some q → rowE q = 0) → rows[k]? = some r → rowE r ≠ 0 → firstE rows = rowE r
  | [], k, r, _, h, _ => by simp at h
  | q :: rs, 0, r, _, h, hb => by simp at h; subst h; rw [firstE, if_pos hb]
  | q :: rs, k + 1, r, hz, h, hb => by
    have hq := hz 0 q (by omega) rfl
    rw [firstE, if_neg (by omega)]
    exact first_bad (k := k) (fun i p hi hp => hz (i + 1) p (by omega) (by simpa using hp)) (by simpa using h) hb
theorem first_good : ∀ {rows : List (List Stitch)}, (∀ (i : Nat) (q : List Stitch), rows[i]? = some q → rowE q = 0) → firstE rows = 0
  | [], _ => rfl
  | q :: rs, hz => by
    have hq := hz 0 q rfl
    rw [firstE, if_neg (by omega)]
    exact first_good fun i p hp => hz (i + 1) p (by simpa using hp)
theorem first_all : ∀ {rows : List (List Stitch)}, firstE rows = 0 → ∀ (i : Nat) (q : List Stitch), rows[i]? = some q → rowE q = 0
  | [], _, i, q, h => by simp at h
  | r :: rs, hz, i, q, h => by
    unfold firstE at hz
    split at hz
    · rename_i hb; exact absurd hz hb
    · rename_i hb
      match i with
      | 0 => simp at h; subst h; omega
      | i + 1 => exact first_all hz i q (by simpa using h)
theorem rows3 (h : 31 < rows.length) : rowsE rows = 3 := if_pos h
theorem rows1 (h : ¬ 31 < rows.length) (h2 : rows.length % 2 = 0) : rowsE rows = 1 := by rw [rowsE, if_neg h, if_pos h2]
theorem rowsB (h : ¬ 31 < rows.length) (h2 : ¬ rows.length % 2 = 0) {k : Nat} {r : List Stitch} (hz : ∀ i q, i < k → rows[i]? = some q → rowE q = 0) (hr : rows[k]? = some r) (hb : rowE r ≠ 0) : rowsE rows = rowE r := by
  have := first_bad hz hr hb
  rw [rowsE, if_neg h, if_neg h2, if_pos (by omega), this]
theorem adj_at {k : Nat} (h : adjB rows = true) (hk : k + 1 < rows.length) : needsR (rows.getD (k + 1) []) = makesR (rows.getD k []) := by
  have := List.all_eq_true.1 h k (List.mem_range.2 (by omega))
  simpa using this
theorem rows14 (h : ¬ 31 < rows.length) (h2 : ¬ rows.length % 2 = 0) (hz : ∀ (i : Nat) (q : List Stitch), rows[i]? = some q → rowE q = 0) {k : Nat} {r q : List Stitch} (hr : rows[k]? = some r) (hq : rows[k + 1]? = some q) (hne : needsR q ≠ makesR r) : rowsE rows = 14 := by
  have h0 := first_good hz
  have ha : ¬ adjB rows = true := fun e => by
    have := adj_at (k := k) e (List.getElem?_eq_some_iff.1 hq).1
    rw [List.getD, List.getD, hq, hr] at this
    exact hne this
  rw [rowsE, if_neg h, if_neg h2, if_neg (by omega), if_neg ha]
theorem rows0 (h : ¬ 31 < rows.length) (h2 : ¬ rows.length % 2 = 0) (hz : ∀ (i : Nat) (q : List Stitch), rows[i]? = some q → rowE q = 0) (ha : ∀ (k : Nat) (r q : List Stitch), rows[k]? = some r → rows[k + 1]? = some q → needsR q = makesR r) : rowsE rows = 0 := by
  have h0 := first_good hz
  have ha : adjB rows = true := by
    refine List.all_eq_true.2 fun k hk => ?_
    have hk := List.mem_range.1 hk
    have h1 : k < rows.length := by omega
    have h3 : k + 1 < rows.length := by omega
    rw [decide_eq_true_iff, List.getD, List.getD, List.getElem?_eq_getElem h1, List.getElem?_eq_getElem h3]
    exact ha k _ _ (List.getElem?_eq_getElem h1) (List.getElem?_eq_getElem h3)
  rw [rowsE, if_neg h, if_neg h2, if_neg (by omega), if_pos ha]
theorem rows_of (h : rowsE rows = 0) : rows.length ≤ 31 ∧ rows.length % 2 = 1 ∧ (∀ (i : Nat) (q : List Stitch), rows[i]? = some q → rowE q = 0) ∧ ∀ (k : Nat) (r q : List Stitch), rows[k]? = some r → rows[k + 1]? = some q → needsR q = makesR r := by
  unfold rowsE at h
  split at h
  · omega
  split at h
  · omega
  split at h
  · omega
  split at h
  · rename_i h1 h2 h3 h4
    refine ⟨by omega, by omega, first_all (by omega), fun k r q hr hq => ?_⟩
    have := adj_at (k := k) h4 (List.getElem?_eq_some_iff.1 hq).1
    rw [List.getD, List.getD, hq, hr] at this
    exact this
  · omega
theorem run_bad {s : Stitch} {xs : List Stitch} {ls acc : List Int} (h : (loadsS s (ls.take (needsS s).toNat)).2 ≠ 0) : runRow (s :: xs) ls acc = ([], (loadsS s (ls.take (needsS s).toNat)).2) := by rw [runRow, if_pos h]
theorem run_next {s : Stitch} {xs : List Stitch} {ls acc : List Int} (h : ¬ (loadsS s (ls.take (needsS s).toNat)).2 ≠ 0) : runRow (s :: xs) ls acc = runRow xs (ls.drop (needsS s).toNat) (acc ++ (loadsS s (ls.take (needsS s).toNat)).1) := by rw [runRow, if_neg h]
theorem drop_cons {α : Type} {l : List α} {k : Nat} {x : α} (h : l[k]? = some x) : l.drop k = x :: l.drop (k + 1) := by
  rw [List.drop_eq_getElem_cons (List.getElem?_eq_some_iff.1 h).1, (List.getElem?_eq_some_iff.1 h).2]
theorem run_len : ∀ (xs : List Stitch) (ls acc : List Int), (runRow xs ls acc).2 = 0 → ((runRow xs ls acc).1.length : Int) = acc.length + makesR xs
  | [], ls, acc, _ => by simp [runRow, makesR]
  | s :: xs, ls, acc, h => by
    by_cases hb : (loadsS s (ls.take (needsS s).toNat)).2 ≠ 0
    · rw [run_bad hb] at h; exact absurd h hb
    · rw [run_next hb] at h ⊢
      have hl := (loads_few (Decidable.not_not.1 hb)).2.1
      rw [run_len xs _ _ h, List.length_append]
      simp only [makesR, List.map_cons, List.sum_cons]
      push_cast; omega
end Go.G14
namespace Go.G14
theorem set_one (j m : Nat) (h : j < m) : (List.replicate j (1 : Int) ++ List.replicate (m - j) 0).set j 1 = List.replicate (j + 1) 1 ++ List.replicate (m - (j + 1)) 0 := by
  obtain ⟨r, rfl⟩ : ∃ r, m = j + 1 + r := ⟨m - (j + 1), by omega⟩
  rw [show j + 1 + r - j = r + 1 by omega, show j + 1 + r - (j + 1) = r by omega, List.replicate_succ]
  rw [List.set_append_right _ _ (by simp)]
  simp [List.replicate_succ']
end Go.G14
namespace Go.G14
theorem z_next {rows : List (List Stitch)} {k : Nat} {r : List Stitch} (hz : ∀ (i : Nat) (q : List Stitch), i < k → rows[i]? = some q → rowE q = 0) (hr : rows[k]? = some r) (h0 : rowE r = 0) : ∀ (i : Nat) (q : List Stitch), i < k + 1 → rows[i]? = some q → rowE q = 0 := by
  intro i q hi hq
  rcases Nat.lt_or_ge i k with h | h
  · exact hz i q h hq
  · obtain rfl : i = k := by omega
    rw [hr] at hq; cases hq; exact h0
theorem adj_next {rows : List (List Stitch)} {k : Nat} {r q : List Stitch} (ha : ∀ (j : Nat) (r q : List Stitch), j < k → rows[j]? = some r → rows[j + 1]? = some q → needsR q = makesR r) (hr : rows[k]? = some r) (hq : rows[k + 1]? = some q) (h0 : needsR q = makesR r) :
    ∀ (j : Nat) (r q : List Stitch), j < k + 1 → rows[j]? = some r → rows[j + 1]? = some q → needsR q = makesR r := by
  intro j r1 q1 hj h1 h2
  rcases Nat.lt_or_ge j k with h | h
  · exact ha j r1 q1 h h1 h2
  · obtain rfl : j = k := by omega
    rw [hr] at h1; rw [hq] at h2; cases h1; cases h2; exact h0
end Go.G14
namespace Go.G14
theorem rr_next {r : List Stitch} {ls acc : List Int} {k at_ : Nat} {s : Stitch} {R : List Int × Int} (h : runRow (r.drop k) (ls.drop at_) acc = R) (hs : r[k]? = some s) (h0 : ¬ (loadsS s ((ls.drop at_).take (needsS s).toNat)).2 ≠ 0) :
    runRow (r.drop (k + 1)) (ls.drop (at_ + (needsS s).toNat)) (acc ++ (loadsS s ((ls.drop at_).take (needsS s).toNat)).1) = R := by
  rw [drop_cons hs, run_next h0, List.drop_drop] at h; exact h
theorem rr_bad {r : List Stitch} {ls acc : List Int} {k at_ : Nat} {s : Stitch} {R : List Int × Int} (h : runRow (r.drop k) (ls.drop at_) acc = R) (hs : r[k]? = some s) (h0 : (loadsS s ((ls.drop at_).take (needsS s).toNat)).2 ≠ 0) :
    R.2 = (loadsS s ((ls.drop at_).take (needsS s).toNat)).2 := by
  rw [drop_cons hs, run_bad h0] at h; rw [← h]
theorem rr_end {r : List Stitch} {ls acc : List Int} {at_ : Nat} {R : List Int × Int} (h : runRow (r.drop r.length) (ls.drop at_) acc = R) : R = (acc, 0) := by
  rw [List.drop_length, runRow] at h; exact h.symm
theorem rs_next {rows : List (List Stitch)} {ls : List Int} {i : Nat} {r : List Stitch} {E : Int} (h : runRows (rows.drop i) ls = E) (hr : rows[i]? = some r) {acc : List Int} (h0 : runRow r ls [] = (acc, 0)) : runRows (rows.drop (i + 1)) acc = E := by
  rw [drop_cons hr, runRows, h0, if_neg (by simp)] at h; exact h
theorem rs_bad {rows : List (List Stitch)} {ls : List Int} {i : Nat} {r : List Stitch} {E : Int} (h : runRows (rows.drop i) ls = E) (hr : rows[i]? = some r) (h0 : (runRow r ls []).2 ≠ 0) : E = (runRow r ls []).2 := by
  rw [drop_cons hr, runRows, if_pos h0] at h; exact h.symm
theorem rs_end {rows : List (List Stitch)} {ls : List Int} {E : Int} (h : runRows (rows.drop rows.length) ls = E) : E = 0 := by
  rw [List.drop_length, runRows] at h; exact h.symm
theorem needs_drop {r : List Stitch} {k : Nat} {s : Stitch} (hs : r[k]? = some s) : needsR (r.drop k) = needsS s + needsR (r.drop (k + 1)) := sum_drop hs
theorem needs_pos (xs : List Stitch) : 0 ≤ needsR xs := (sum_rng needs_rng xs).1
theorem chart_run {rows : List (List Stitch)} (h : rowsE rows = 0) : chartE rows = runRows rows (startL rows) := by rw [chartE, if_neg (by omega)]
theorem chart_bad {rows : List (List Stitch)} {e : Int} (h : rowsE rows = e) (he : e ≠ 0) : chartE rows = e := by rw [chartE, if_pos (by omega), h]
theorem run_next_len {r : List Stitch} {ls acc : List Int} (h0 : runRow r ls [] = (acc, 0)) : (acc.length : Int) = makesR r := by
  have := run_len r ls [] (by rw [h0])
  rw [h0] at this; simpa using this
theorem loads_len (s : Stitch) (l : List Int) : (loadsS s l).1.length ≤ 4 := by
  by_cases h : (loadsS s l).2 = 0
  · have := (loads_few h).2.1
    have := makes_rng s
    omega
  · unfold loadsS at h ⊢
    (repeat' split) <;> simp_all
end Go.G14
namespace Go.G14
open Go.Lw
structure LdSt where
  i : Nat
  OV : Value
  ps : List (SV × List Int)
  u : SV
  ls : List Int
structure LeSt where
  k : Nat
  at_ : Nat
  acc : List Int
  X : Value
  B : Value
theorem rws_one {E : Enc Int} {R T : TypeId} {base : Nat} {w : World} {OV : Value} {u : SV} {ls : List Int} (ho : Own Enc.sl R base w OV [u]) (hi : Own E T base w (slv u) ls) (hd : ∀ k ∈ blks (slv u), k ∉ blks OV) : Rws E R T base w OV ([] ++ [(u, ls)]) :=
  ⟨by simpa using ho, fun p hp => by simp at hp; subst hp; exact hi, fun p hp => by simp at hp; subst hp; exact hd⟩
end Go.G14
namespace Go.Lw
section
variable {a : Act} {w : World} {Q : Exit → Act → World → Prop}
theorem ret_sc (h : Q .ret a w) : Exit.noGoto Q .ret a w := h
end
end Go.Lw
namespace Go.Lw
open Go.RowKit

/-- The law of a key type. -/
structure KeyLaw {κ : Type} [DecidableEq κ] (P : Program) (K : TypeId) (V : κ → Value) : Prop where
  check : ∀ b k (w : World), (Instr.checkKey b 10000 K (V k)).run P w = .ok () w
  find : ∀ k (es : List MapEntry) (ks : List κ) (w : World), es.map (·.key) = ks.map V →
    (Instr.findKey K (V k) es).run P w = .ok ((ks.findIdx? (fun x => decide (k = x))).bind fun i => (es[i]?).map fun e => (i, e.val)) w
  bits : ∀ k, Instr.sameBits 10000 (V k) (V k) = true

def assocGet {κ : Type} [DecidableEq κ] : List (κ × Value) → κ → Option Value
  | [], _ => none
  | p :: r, k => if k = p.1 then some p.2 else assocGet r k
/-- Block g is a map that holds f. -/
def MapF {κ : Type} [DecidableEq κ] (V : κ → Value) (w : World) (g : Nat) (f : κ → Option Value) : Prop :=
  ∃ (es : Array MapEntry) (c : Nat) (m : List (κ × Value)), w.heap[g]? = some (.map es c) ∧ es.toList.map (fun e => (e.key, e.val)) = m.map (fun p => (V p.1, p.2)) ∧ ∀ k, assocGet m k = f k

section
variable {κ : Type} [DecidableEq κ] {V : κ → Value} {P : Program} {K : TypeId}
theorem findAsking_eq (heq : ∀ k k' (w : World), (Op.equal K (V k) (V k')).run P w = .ok (decide (k = k')) w) (k : κ) : ∀ (es : List MapEntry) (ks : List κ) (i : Nat) (w : World), es.map (·.key) = ks.map V →
    (Instr.findAsking K (V k) es i).run P w = .ok ((ks.findIdx? (fun x => decide (k = x))).bind fun j => (es[j]?).map fun e => (i + j, e.val)) w
  | [], [], i, w, _ => by simp [Instr.findAsking]
  | [], _ :: _, _, _, h => by simp at h
  | _ :: _, [], _, _, h => by simp at h
  | e :: es, x :: ks, i, w, h => by
    simp only [List.map_cons, List.cons.injEq] at h
    have ih := findAsking_eq heq k es ks (i + 1) w h.2
    simp only [Instr.findAsking, h.1, Sem.run_bind, heq k x w, Result.andThen_ok]
    by_cases hx : k = x
    · simp [hx, List.findIdx?_cons]
    · simp only [hx, decide_false, Bool.false_eq_true, if_false, ih, List.findIdx?_cons, Option.bind_map]
      congr 1
      cases hf : ks.findIdx? (fun x => decide (k = x)) with
      | none => simp
      | some j => simp [Nat.add_assoc, Nat.add_comm 1 j]
theorem KeyLaw.asking {d : TypeDesc} (hu : P.underlying K = some d) (hs : ∀ k k', Instr.sameNow d (V k) (V k') = none) (hc : ∀ b k (w : World), (Instr.checkKey b 10000 K (V k)).run P w = .ok () w)
    (heq : ∀ k k' (w : World), (Op.equal K (V k) (V k')).run P w = .ok (decide (k = k')) w) (hb : ∀ k, Instr.sameBits 10000 (V k) (V k) = true) : KeyLaw P K V := by
  refine ⟨hc, fun k es ks w h => ?_, hb⟩
  cases es with
  | nil =>
    cases ks with
    | nil => simp [Instr.findKey, run_underlying hu, Instr.findNow]
    | cons x ks => simp at h
  | cons e es =>
    cases ks with
    | nil => simp at h
    | cons x ks =>
      have hn : Instr.findNow d (V k) (e :: es) 0 = none := by
        simp only [List.map_cons, List.cons.injEq] at h
        simp [Instr.findNow, h.1, hs]
      have := findAsking_eq heq k (e :: es) (x :: ks) 0 w h
      simp only [Instr.findKey, Sem.run_bind, run_underlying hu, Result.andThen_ok, hn, this, Nat.zero_add]

theorem assoc_find (m : List (κ × Value)) (k : κ) : ∀ (es : List MapEntry), es.map (fun e => (e.key, e.val)) = m.map (fun p => (V p.1, p.2)) →
    (((m.map (·.1)).findIdx? (fun x => decide (k = x))).bind fun i => (es[i]?).map fun e => (i, e.val)).map (·.2) = assocGet m k := by
  induction m with
  | nil => intro es h; simp [assocGet]
  | cons p m ih =>
    intro es h
    match es, h with
    | e :: es, h =>
      simp only [List.map_cons, List.cons.injEq, Prod.mk.injEq] at h
      have := ih es h.2
      unfold assocGet
      by_cases hk : k = p.1
      · simp [hk, List.findIdx?_cons, h.1.2]
      · simp only [List.map_cons, List.findIdx?_cons, hk, decide_false, if_false, Bool.false_eq_true]
        rw [← this]
        cases (m.map (·.1)).findIdx? (fun x => decide (k = x)) with
        | none => simp
        | some j =>
          simp
          rfl
theorem assocGet_app (m : List (κ × Value)) (k k' : κ) (v : Value) : (m.map (·.1)).findIdx? (fun x => decide (k = x)) = none → assocGet (m ++ [(k, v)]) k' = if k' = k then some v else assocGet m k' := by
  induction m with
  | nil => intro _; simp [assocGet]
  | cons p m ih =>
    intro h
    simp only [List.map_cons, List.findIdx?_cons] at h
    split at h
    · cases h
    · rename_i hk
      have hk' : ¬ k = p.1 := by simpa using hk
      have := ih (by simpa using h)
      simp only [List.cons_append, assocGet, this]
      by_cases e : k' = p.1
      · subst e
        simp [Ne.symm hk']
      · simp [e]
theorem assocGet_mod (k k' : κ) (v : Value) : ∀ (m : List (κ × Value)) (i : Nat), (m.map (·.1)).findIdx? (fun x => decide (k = x)) = some i → assocGet (m.modify i fun p => (p.1, v)) k' = if k' = k then some v else assocGet m k'
  | [], i, h => by simp at h
  | p :: m, i, h => by
    simp only [List.map_cons, List.findIdx?_cons] at h
    split at h
    · rename_i hk
      have hk' : k = p.1 := by simpa using hk
      simp at h; subst h
      simp only [List.modify_zero_cons, assocGet, hk']
      by_cases e : k' = p.1 <;> simp [e]
    · rename_i hk
      have hk' : ¬ k = p.1 := by simpa using hk
      cases hf : (m.map (·.1)).findIdx? (fun x => decide (k = x)) with
      | none => rw [hf] at h; simp at h
      | some j =>
        rw [hf] at h; simp at h; subst h
        have := assocGet_mod k k' v m j hf
        simp only [List.modify_succ_cons, assocGet, this]
        by_cases e : k' = p.1
        · subst e; simp [Ne.symm hk']
        · simp [e]
theorem MapF.fr {w w' : World} {g : Nat} {f : κ → Option Value} {S : List Nat} (h : MapF V w g f) (hf : Fr S w w') (hn : g ∉ S) : MapF V w' g f := by
  obtain ⟨es, c, m, h1, h2, h3⟩ := h
  exact ⟨es, c, m, (hf.block g (Array.getElem?_eq_some_iff.1 h1).1 hn).trans h1, h2, h3⟩
theorem MapF.ext {w w' : World} {g : Nat} {f : κ → Option Value} (h : MapF V w g f) (hf : Fr [] w w') : MapF V w' g f := h.fr hf (by simp)
theorem MapF.lt {w : World} {g : Nat} {f : κ → Option Value} (h : MapF V w g f) : g < w.heap.size := let ⟨_, _, _, h1, _⟩ := h; (Array.getElem?_eq_some_iff.1 h1).1
theorem run_getObj {w : World} {g : Nat} {es : Array MapEntry} {c : Nat} (h : w.heap[g]? = some (.map es c)) : (getObj g).run P w = .ok (.map es c) w := by
  simp [getObj, Sem.run, h]
theorem run_lookup {w : World} {g : Nat} {f : κ → Option Value} {t E : TypeId} {z : Value} (h : MapF V w g f) (hk : KeyLaw P K V) (hu : P.underlying t = some (.map K E)) (hz : (zeroValue E).run P w = .ok z w) (k : κ) :
    (Instr.lookup t (.map (some g)) (V k) false).run P w = .ok ((f k).getD z) w := by
  obtain ⟨es, c, m, h1, h2, h3⟩ := h
  have hkeys : es.toList.map (·.key) = (m.map (·.1)).map V := by
    have := congrArg (List.map Prod.fst) h2
    simpa [List.map_map, Function.comp_def] using this
  have hfi := hk.find k es.toList (m.map (·.1)) w hkeys
  have hval := assoc_find (V := V) m k es.toList h2
  rw [h3] at hval
  generalize ((m.map (·.1)).findIdx? (fun x => decide (k = x))).bind (fun i => (es.toList[i]?).map fun e => (i, e.val)) = r at hfi hval
  cases r with
  | none => simp at hval; simp [Instr.lookup, run_underlying hu, run_getObj h1, hk.check, hfi, hz, ← hval]
  | some p => simp at hval; simp [Instr.lookup, run_underlying hu, run_getObj h1, hk.check, hfi, ← hval]
theorem run_mapUpdate {w : World} {g : Nat} {f : κ → Option Value} {t E : TypeId} (h : MapF V w g f) (hk : KeyLaw P K V) (hu : P.underlying t = some (.map K E)) (k : κ) (v : Value) :
    ∃ w', (Instr.mapUpdate t (.map (some g)) (V k) v).run P w = .ok () w' ∧ MapF V w' g (fun k' => if k' = k then some v else f k') ∧ Fr [g] w w' ∧ w'.heap.size = w.heap.size := by
  obtain ⟨es, c, m, h1, h2, h3⟩ := h
  have hlt := (Array.getElem?_eq_some_iff.1 h1).1
  have hkeys : es.toList.map (·.key) = (m.map (·.1)).map V := by
    have := congrArg (List.map Prod.fst) h2
    simpa [List.map_map, Function.comp_def] using this
  have hfi := hk.find k es.toList (m.map (·.1)) w hkeys
  have hset : ∀ o, (setObj g o).run P w = .ok () { w with heap := w.heap.setIfInBounds g o } := by intro o; simp [setObj, Sem.run, h1]
  have hfr : ∀ o, Fr [g] w { w with heap := w.heap.setIfInBounds g o } := fun o => ⟨rfl, rfl, rfl, by simp, fun i _ hn => by
    simp only
    rw [Array.getElem?_setIfInBounds_ne (by intro e; subst e; simp at hn)]⟩
  have hheap : ∀ o, ({ w with heap := w.heap.setIfInBounds g o } : World).heap[g]? = some o := by intro o; simp [hlt]
  have hlen : es.toList.length = m.length := by have := congrArg List.length h2; simpa using this
  cases hf : (m.map (·.1)).findIdx? (fun x => decide (k = x)) with
  | none =>
    refine ⟨_, ?_, ⟨_, _, m ++ [(k, v)], hheap (.map (es.push { key := V k, val := v, born := c }) (c + 1)), ?_, fun k' => ?_⟩, hfr _, by simp⟩
    · rw [hf] at hfi
      simp only [Instr.mapUpdate, Sem.run_bind, run_underlying hu, Result.andThen_ok, run_getObj h1, hk.check, hfi, Option.bind_none, hset]
    · simp [h2]
    · rw [assocGet_app m k k' v hf, h3]
  | some i =>
    have hi : i < m.length := by
      have := List.findIdx?_eq_some_iff_findIdx_eq.1 hf
      simpa using this.1
    have hi' : i < es.toList.length := by omega
    have hki : V k = (es.toList[i]).key := by
      have hmem := List.findIdx?_eq_some_iff_getElem.1 hf
      obtain ⟨hlt', hp, _⟩ := hmem
      have hp' : k = (m.map (·.1))[i] := by simpa using hp
      have e1 : (es.toList.map (·.key))[i]? = ((m.map (·.1)).map V)[i]? := by rw [hkeys]
      simp only [List.getElem?_map, List.getElem?_eq_getElem hi', List.getElem?_eq_getElem hi, Option.map_some, Option.some.injEq] at e1
      rw [e1, hp']; simp
    refine ⟨_, ?_, ⟨_, _, m.modify i fun p => (p.1, v), hheap (.map (es.modify i fun e => { e with key := V k, val := v }) c), ?_, fun k' => ?_⟩, hfr _, by simp⟩
    · rw [hf] at hfi
      have hes : es[i]? = some es.toList[i] := by rw [← Array.getElem?_toList, List.getElem?_eq_getElem hi']
      simp only [Option.bind_some, List.getElem?_eq_getElem hi', Option.map_some] at hfi
      have hstay : (Instr.keyThatStays (((es[i]?).map (·.key)).getD (V k)) (V k)).run P w = .ok (V k) w := by
        rw [hes]
        simp only [Option.map_some, Option.getD_some, ← hki, Instr.keyThatStays, hk.bits, if_true, Sem.run_pure]
      simp only [Instr.mapUpdate, Sem.run_bind, run_underlying hu, Result.andThen_ok, run_getObj h1, hk.check, hfi, hstay, hset]
    · apply List.ext_getElem?
      intro j
      have e2 := congrArg (·[j]?) h2
      simp only [List.getElem?_map] at e2 ⊢
      rw [Array.getElem?_toList, Array.getElem?_modify, List.getElem?_modify]
      rw [Array.getElem?_toList] at e2
      by_cases hj : i = j
      · subst hj
        have e3 := List.getElem?_eq_getElem hi
        have hes : es[i]? = some es.toList[i] := by rw [← Array.getElem?_toList, List.getElem?_eq_getElem hi']
        rw [hes, e3] at e2 ⊢
        simp only [Option.map_some, Option.some.injEq, Prod.mk.injEq] at e2
        simp only [if_true, Option.map_some]
        rw [hki, e2.1]; rfl
      · simp only [hj, if_false]
        rw [e2]; simp
    · rw [assocGet_mod k k' v m i hf, h3]
variable {a : Act} {n : Nat} {L : List (Nat × Value)} {ds : List Nat} {w w' : World} {Q : Exit → Act → World → Prop} {C : World → Prop} {Qa : Act → Prop} {ops : Array Oper} {rest : List Oper}
variable {d : Nat} {ty : TypeId} {pos : String} {after : Array Edge} {x y z : Operand} {t E : TypeId} {g : Nat} {f : κ → Option Value} {k : κ} {v zv : Value}
theorem st_makeMap (V : κ → Value) (h : AgM ds a n L) (hn : Nat.blt d n = true)
    (q : ∀ g w', g = w.heap.size → MapF V w' g (fun _ => none) → Fr [] w w' → w'.heap.size = g + 1 → ∀ a, AgM ds a n ((d, .map (some g)) :: L) → wpList P ops Q rest a w') : wpList P ops Q (⟨some d, .makeMap t none, ty, pos, after, none⟩ :: rest) a w :=
  st_ok h rfl rfl hn (w' := w.alloc (.map #[] 0)) (by simp [execOp, Instr.makeMap]) (q _ _ rfl ⟨_, _, [], heap_alloc_new w _, by simp, fun _ => rfl⟩ (Fr.alloc [] w _) (by simp))
theorem ex_lookup (h : AgM ds a n L) (hx : ev L x = some (.map (some g))) (hy : ev L y = some (V k)) (hm : MapF V w g f) (hk : KeyLaw P K V) (hu : P.underlying t = some (.map K E)) (hz : ∀ w : World, (zeroValue E).run P w = .ok zv w) :
    (execOp a.eval ⟨some d, .lookup t x y false, ty, pos, after, none⟩).run P w = .ok (.value ((f k).getD zv)) w := by
  simp [execOp, h.eval hx, h.eval hy, run_lookup hm hk hu (hz w) k]
theorem st_lookup (h : AgM ds a n L) (hx : ev L x = some (.map (some g))) (hy : ev L y = some (V k)) (hm : MapF V w g f) (hk : KeyLaw P K V) (hu : P.underlying t = some (.map K E)) (hz : ∀ w : World, (zeroValue E).run P w = .ok zv w) (hv : (f k).getD zv = v) (hn : Nat.blt d n = true)
    (q : ∀ a, AgM ds a n ((d, v) :: L) → wpList P ops Q rest a w) : wpList P ops Q (⟨some d, .lookup t x y false, ty, pos, after, none⟩ :: rest) a w :=
  st_ok h rfl rfl hn (by rw [← hv]; exact ex_lookup h hx hy hm hk hu hz) q
theorem qt_lookup (h : AgM ds a n L) (hx : ev L x = some (.map (some g))) (hy : ev L y = some (V k)) (hm : ∀ w, C w → MapF V w g f) (hk : KeyLaw P K V) (hu : P.underlying t = some (.map K E)) (hz : ∀ w : World, (zeroValue E).run P w = .ok zv w) (hv : (f k).getD zv = v) (hn : Nat.blt d n = true)
    (q : ∀ a, AgM ds a n ((d, v) :: L) → wpQuiet P ops C Qa rest a) : wpQuiet P ops C Qa (⟨some d, .lookup t x y false, ty, pos, after, none⟩ :: rest) a :=
  qt_ok h rfl rfl hn (fun w hw => by rw [← hv]; exact ex_lookup h hx hy (hm w hw) hk hu hz) q
theorem st_mapSet (h : AgM ds a n L) (hx : ev L x = some (.map (some g))) (hy : ev L y = some (V k)) (hz : ev L z = some v) (hm : MapF V w g f) (hk : KeyLaw P K V) (hu : P.underlying t = some (.map K E))
    (q : ∀ w', MapF V w' g (fun k' => if k' = k then some v else f k') → Fr [g] w w' → w'.heap.size = w.heap.size → ∀ a, AgM ds a n L → wpList P ops Q rest a w') : wpList P ops Q (⟨none, .mapUpdate t x y z, ty, pos, after, none⟩ :: rest) a w := by
  obtain ⟨w', hr, h1, h2, h3⟩ := run_mapUpdate hm hk hu k v
  exact st_skip h rfl rfl (w' := w') (by simp [execOp, h.eval hx, h.eval hy, h.eval hz, hr]) (q w' h1 h2 h3)
end
end Go.Lw
namespace Go.Lw
/-- The cell of a package-level variable holds an int. -/
def IntAt (g : Nat) (w : World) : Prop := ∃ m : Int, w.cell? ⟨g, 0, none⟩ = some (.int .i64 m)
theorem IntAt.fr {g : Nat} {S : List Nat} {w w' : World} (h : IntAt g w) (hf : Fr S w w') (hn : g ∉ S) : IntAt g w' := let ⟨m, hm⟩ := h; ⟨m, hf.cell hm hn⟩
theorem IntAt.ext {g : Nat} {w w' : World} (h : IntAt g w) (hf : Fr [] w w') : IntAt g w' := h.fr hf (by simp)
theorem IntAt.lt {g : Nat} {w : World} (h : IntAt g w) : g < w.heap.size := let ⟨_, hm⟩ := h; block_lt_of_cell hm
end Go.Lw
namespace Go.Lw
section
variable {P : Program} {a : Act} {n : Nat} {L : List (Nat × Value)} {ds : List Nat} {w w' : World} {Q : Exit → Act → World → Prop} {ops : Array Oper} {rest : List Oper}
variable {d : Nat} {ty : TypeId} {pos : String} {after : Array Edge} {x y : Operand} {t t' T : TypeId} {A : Option Addr} {m c : Nat}
end
end Go.Lw
