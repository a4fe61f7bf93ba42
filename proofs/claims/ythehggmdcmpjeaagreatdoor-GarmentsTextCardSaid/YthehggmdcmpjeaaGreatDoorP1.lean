/- Texts of the proof, joined. -/
import Derived.WalkKit
import Derived.WalkSpells
import Derived.WalkLawsBesides
import Derived.OrdersHeld
import Derived.Deep.Quiet
import Derived.Laws.BytesString
set_option linter.unusedVariables false
set_option linter.unusedSimpArgs false
namespace Go.Lw
theorem beq_no {a b : Nat} (h : ¬ a = b) : Nat.beq a b = false := by
 rw [Bool.eq_false_iff]; intro e; exact h (Nat.eq_of_beq_eq_true e)
def look : List (Nat × Value) → Nat → Option Value
  | [], _ => none
  | (s, v) :: r, t => bif Nat.beq s t then some v else look r t
def mark (D : Nat) : Deferred := { target := .collected D, args := #[] }
structure AgM (ds : List Nat) (a : Act) (n : Nat) (L : List (Nat × Value)) : Prop where
  dfr : a.defers = ds.map mark
  size : a.tmps.size = n
  at_ : ∀ t v, look L t = some v → a.tmps.getD t undef = v
abbrev Ag := AgM []
def ev (L : List (Nat × Value)) : Operand → Option Value
  | .tmp t => look L t
  | .const v => some v
  | .global g => some (.pointer (some ⟨g, 0, none⟩))
  | .func f => some (.func (.func f) #[] #[])
def evs (L : List (Nat × Value)) : List Operand → List Value → Prop
  | [], [] => True
  | x :: xs, v :: vs => ev L x = some v ∧ evs L xs vs
  | _, _ => False
def Sub : List (Nat × Value) → List (Nat × Value) → Prop
  | [], _ => True
  | p :: r, L => look L p.1 = some p.2 ∧ Sub r L
section
variable {P : Program} {a : Act} {n : Nat} {L : List (Nat × Value)} {ds : List Nat} {w w' : World} {Q : Exit → Act → World → Prop} {ops : Array Oper} {rest : List Oper} {o : Oper}
theorem AgM.eval (h : AgM ds a n L) {x : Operand} {v : Value} (hx : ev L x = some v) : a.eval x = v := by
 cases x with
 | tmp t => exact h.at_ t v hx
 | const c => exact Option.some.inj hx
 | global g => exact Option.some.inj hx
 | func f => exact Option.some.inj hx
theorem AgM.evals (h : AgM ds a n L) : ∀ {xs : List Operand} {vs : List Value}, evs L xs vs → xs.map a.eval = vs
 | [], [], _ => rfl
 | _ :: _, _ :: _, hx => by rw [List.map_cons, h.eval hx.1, h.evals hx.2]
 | [], _ :: _, hx => hx.elim
 | _ :: _, [], hx => hx.elim
theorem AgM.put (h : AgM ds a n L) {d : Nat} (hd : Nat.blt d n = true) (v : Value) : AgM ds (a.put (some d) v) n ((d, v) :: L) := by
 have hd' : d < n := by simpa [Nat.blt_eq] using hd
 refine ⟨h.dfr, by simp [Act.put, h.size], fun t u hu => ?_⟩
 simp only [look] at hu
 by_cases e : d = t
 ·subst e
  simp only [Nat.beq_refl, cond_true, Option.some.injEq] at hu
  subst hu
  have : d < a.tmps.size := by rw [h.size]; exact hd'
  simp [Act.put, Array.getD, this]
 have : Nat.beq d t = false := beq_no e
 rw [this] at hu
 have h1 := h.at_ t u hu
 simp only [Act.put, Array.getD_eq_getD_getElem?, Array.getElem?_setIfInBounds] at h1 ⊢
 rw [if_neg e]; exact h1
theorem Sub.look {L L' : List (Nat × Value)} : ∀ {t v}, Sub L' L → look L' t = some v → look L t = some v := by
 induction L' with
 | nil => intro t v _ h; cases h
 | cons p r ih =>
  intro t v hs h
  simp only [Lw.look] at h
  by_cases e : p.1 = t
  ·subst e
   simp only [Nat.beq_refl, cond_true, Option.some.injEq] at h
   rw [← h]; exact hs.1
  have : Nat.beq p.1 t = false := beq_no e
  rw [this] at h
  exact ih hs.2 h
theorem AgM.sub (h : AgM ds a n L) {L' : List (Nat × Value)} (hs : Sub L' L) : AgM ds a n L' :=
 ⟨h.dfr, h.size, fun t v hv => h.at_ t v (hs.look hv)⟩
def argsOk (args : Array Value) : List (Nat × Value) → Prop
  | [] => True
  | p :: r => args[p.1]? = some p.2 ∧ argsOk args r
theorem argsOk.look {args : Array Value} : ∀ {L : List (Nat × Value)}, argsOk args L → ∀ {t v}, look L t = some v → args[t]? = some v
 | [], _, _, _, h => by cases h
 | p :: r, hs, t, v, h => by
  simp only [Lw.look] at h
  by_cases e : p.1 = t
  ·subst e
   simp only [Nat.beq_refl, cond_true, Option.some.injEq] at h
   rw [← h]; exact hs.1
  have : Nat.beq p.1 t = false := beq_no e
  rw [this] at h
  exact argsOk.look hs.2 h
theorem enter {f : FuncId} {fn : Func} {c : Code} {args : Array Value} {R : Ending → World → Prop} (L : List (Nat × Value))
    (hf : P.funcs[f]? = some fn) (hb : fn.body = some c) (hn : fn.ntmps = n) (hk : Nat.ble args.size n = true) (hL : argsOk args L)
    (h : ∀ a, Ag a n L → c.wp P (bodyPost P fn R) a w) : Calls P f args w R := by
  have hk' : args.size ≤ n := by simpa [Nat.ble_eq] using hk
  refine calls_of_wp hf hb (h _ ⟨rfl, by simp [hn]; omega, fun t v hv => ?_⟩)
  have := argsOk.look hL hv
  simp only [Array.getD_eq_getD_getElem?, Array.getElem?_append]
  have ht : t < args.size := by
    rcases Nat.lt_or_ge t args.size with h | h
    · exact h
    · rw [Array.getElem?_eq_none h] at this; cases this
  rw [if_pos ht, this]; rfl
def Rets (P : Program) (f : FuncId) (args : Array Value) (w : World) (Φ : Value → World → Prop) : Prop :=
  Calls P f args w fun e w' => ∃ v, e = .returned v ∧ Φ v w'
theorem Rets.mono {f : FuncId} {args : Array Value} {Φ Ψ : Value → World → Prop} (h : Rets P f args w Φ) (hq : ∀ v w', Φ v w' → Ψ v w') : Rets P f args w Ψ :=
 Calls.mono h fun _ _ ⟨v, he, hv⟩ => ⟨v, he, hq v _ hv⟩
theorem seq_cut {x y : Code} (K : Act → World → Prop) (h1 : x.wp P (Exit.then K Q) a w) (h2 : ∀ a w, K a w → y.wp P Q a w) : (Code.seq x y).wp P Q a w :=
 wp_seq (wp_mono h1 fun e a w h => by cases e <;> first | exact h2 _ _ h | exact h)
theorem cond_true {c : Operand} {x y : Code} (h : AgM ds a n L) (hc : ev L c = some (.bool true)) (k : x.wp P Q a w) : (Code.cond c x y).wp P Q a w := wp_cond (h.eval hc) k
theorem cond_false {c : Operand} {x y : Code} (h : AgM ds a n L) (hc : ev L c = some (.bool false)) (k : y.wp P Q a w) : (Code.cond c x y).wp P Q a w := wp_cond (h.eval hc) k
theorem cond_split {c : Operand} {x y : Code} {b : Bool} (h : AgM ds a n L) (hc : ev L c = some (.bool b)) (ht : b = true → x.wp P Q a w) (hf : b = false → y.wp P Q a w) : (Code.cond c x y).wp P Q a w :=
 wp_cond_split (h.eval hc) ht hf
theorem loop {c : Code} {ι : Type} (L : ι → List (Nat × Value)) (I : ι → World → Prop) (μ : ι → Nat) (i : ι) (h : AgM ds a n (L i)) (hI : I i w)
    (round : ∀ i w a, AgM ds a n (L i) → I i w → c.wp P (Exit.then (fun a' w' => ∃ j, AgM ds a' n (L j) ∧ I j w' ∧ μ j < μ i) Q) a w) : (Code.loop c).wp P Q a w := by
  have key : ∀ m i w a, μ i = m → AgM ds a n (L i) → I i w → ∀ (b : Frame) (k : List Item) (cs : List Frame),
      ∃ e a' w', Q e a' w' ∧ Arrives P (lone (b.at a (.code c :: .inLoop c :: k)) cs w) b k cs e a' w' := by
    intro m
    induction m using Nat.strongRecOn with
    | _ m ih =>
      intro i w a hm hA hI b k cs
      obtain ⟨e, a₁, w₁, hq, harr⟩ := round i w a hA hI b (.inLoop c :: k) cs
      cases e with
      | normal =>
        obtain ⟨j, hA₁, hI₁, hlt⟩ := hq
        obtain ⟨e₂, a₂, w₂, hq₂, harr₂⟩ := ih (μ j) (hm ▸ hlt) j w₁ a₁ rfl hA₁ hI₁ b k cs
        exact ⟨e₂, a₂, w₂, hq₂, .of_steps (Steps.trans harr (.one step_inLoop)) harr₂⟩
      | exit id => exact ⟨_, a₁, w₁, hq, .pass (x := .inLoop c) rfl (fun _ _ => .inl (by simp)) harr⟩
      | goto l => exact ⟨_, a₁, w₁, hq, .pass (x := .inLoop c) rfl (fun _ _ => .inl (by simp)) harr⟩
      | ret => exact ⟨_, a₁, w₁, hq, .pass (x := .inLoop c) rfl (fun _ _ => .inl (by simp)) harr⟩
      | panic ch => exact ⟨_, a₁, w₁, hq, .pass (x := .inLoop c) rfl (fun _ _ => .inl (by simp)) harr⟩
      | outgrown => exact ⟨_, a₁, w₁, hq, .pass (x := .inLoop c) rfl (fun _ _ => .inl (by simp)) harr⟩
  intro b k cs
  obtain ⟨e, a', w', hq, harr⟩ := key _ i w a rfl h hI b k cs
  exact ⟨e, a', w', hq, .of_steps (.one step_loop) harr⟩
theorem exit_here {id : Nat} (h : Q .normal a w) : Exit.inBlock id Q (.exit id) a w := by simp only [Exit.inBlock, if_true]; exact h
theorem exit_out {id id' : Nat} (hne : Nat.beq id' id = false) (h : Q (.exit id') a w) : Exit.inBlock id Q (.exit id') a w := by
 simp only [Exit.inBlock]; rw [if_neg (by rintro rfl; simp at hne)]; exact h
theorem ret0 {fn : Func} {R : Ending → World → Prop} (h : Ag a n L) (hr : fn.results = #[]) (k : R (.returned (.tuple #[])) w) : bodyPost P fn R .ret a w :=
 bodyPost_ret (results_none hr _ _ _) h.dfr k
theorem ret0n {fn : Func} {R : Ending → World → Prop} (h : Ag a n L) (hr : fn.results = #[]) (k : R (.returned (.tuple #[])) w) : bodyPost P fn R .normal a w :=
 bodyPost_end (results_none hr _ _ _) h.dfr k
theorem ret1 {fn : Func} {R : Ending → World → Prop} {t : Nat} {v : Value} (h : Ag a n L) (hr : fn.results = #[.tmp t]) (hv : look L t = some v) (k : R (.returned v) w) : bodyPost P fn R .ret a w :=
 bodyPost_ret (results_tmp hr _ _ _) h.dfr (by rw [h.at_ t v hv]; exact k)
theorem ret2 {fn : Func} {R : Ending → World → Prop} {t u : Nat} {v x : Value} (h : Ag a n L) (hr : fn.results = #[.tmp t, .tmp u]) (hv : look L t = some v) (hx : look L u = some x)
    (k : R (.returned (.tuple #[v, x])) w) : bodyPost P fn R .ret a w :=
  bodyPost_ret (results_tmp2 hr _ _ _) h.dfr (by rw [h.at_ t v hv, h.at_ u x hx]; exact k)
theorem ret3 {fn : Func} {R : Ending → World → Prop} {t u s : Nat} {v x y : Value} (h : Ag a n L) (hr : fn.results = #[.tmp t, .tmp u, .tmp s]) (hv : look L t = some v) (hx : look L u = some x)
    (hy : look L s = some y) (k : R (.returned (.tuple #[v, x, y])) w) : bodyPost P fn R .ret a w :=
  bodyPost_ret (v := .tuple #[v, x, y]) (by
    have h1 := h.at_ t v hv; have h2 := h.at_ u x hx; have h3 := h.at_ s y hy
    simp only [Array.getD_eq_getD_getElem?] at h1 h2 h3
    simp [results, hr, h1, h2, h3]) h.dfr k
def WL (P : Program) (ops : Array Oper) (Q : Exit → Act → World → Prop) (l : List Oper) (n : Nat) (ds : List Nat) (w : World) (L : List (Nat × Value)) : Prop := ∀ a, AgM ds a n L → wpList P ops Q l a w
def CW (P : Program) (Q : Exit → Act → World → Prop) (c : Code) (n : Nat) (ds : List Nat) (w : World) (L : List (Nat × Value)) : Prop := ∀ a, AgM ds a n L → c.wp P Q a w
def EW (Q : Exit → Act → World → Prop) (e : Exit) (n : Nat) (ds : List Nat) (w : World) (L : List (Nat × Value)) : Prop := ∀ a, AgM ds a n L → Q e a w
theorem st_ok {d : Nat} {v : Value} (h : AgM ds a n L) (hg : o.guard = none) (hd : o.dst = some d) (hn : Nat.blt d n = true) (hr : (execOp a.eval o).run P w = .ok (.value v) w')
    (k : ∀ a, AgM ds a n ((d, v) :: L) → wpList P ops Q rest a w') : wpList P ops Q (o :: rest) a w :=
  wpList_plain hg fun K hK => by
    unfold Oper.wp
    rw [hr]
    show K (a.put o.dst v) w'
    rw [hd]
    exact hK _ _ (k _ (h.put hn v))
theorem st_skip (h : AgM ds a n L) (hg : o.guard = none) (hd : o.dst = none) (hr : (execOp a.eval o).run P w = .ok .skip w')
    (k : ∀ a, AgM ds a n L → wpList P ops Q rest a w') : wpList P ops Q (o :: rest) a w :=
  wpList_plain hg fun K hK => by
    unfold Oper.wp
    rw [hr]
    show K (a.put o.dst undef) w'
    rw [hd]
    exact hK _ _ (k _ h)
theorem st_enter {d : Nat} {f : FuncId} {args : Array Value} {Φ : Value → World → Prop} (h : AgM ds a n L) (hg : o.guard = none) (hd : o.dst = some d) (hn : Nat.blt d n = true)
    (hr : (execOp a.eval o).run P w = .ok (.enter f args) w') (hc : Rets P f args w' Φ)
    (k : ∀ v w', Φ v w' → ∀ a, AgM ds a n ((d, v) :: L) → wpList P ops Q rest a w') : wpList P ops Q (o :: rest) a w :=
  wpList_plain hg fun K hK => by
    unfold Oper.wp
    rw [hr]
    refine Calls.mono hc ?_
    rintro e w'' ⟨v, rfl, hv⟩
    show K (a.put o.dst v) w''
    rw [hd]
    exact hK _ _ (k v w'' hv _ (h.put hn v))
theorem yielded_of (h : AgM ds a n L) {j d : Nat} {oj : Oper} {b : Bool} (hj : ops[j]? = some oj) (hd : oj.dst = some d) (hn : Nat.blt d n = true) (hb : look L d = some (.bool b)) : yielded ops a.tmps j = some b := by
 have h1 := h.at_ d _ hb
 have hd' : d < a.tmps.size := by rw [h.size]; simpa [Nat.blt_eq] using hn
 have h2 : a.tmps[d]? = some (.bool b) := by
  rw [Array.getElem?_eq_getElem hd']
  simpa [Array.getD, hd'] using h1
 simp [yielded, hj, hd, h2]
theorem gd_no {d j dj : Nat} {oj : Oper} {want b : Bool} (h : AgM ds a n L) (hg : o.guard = some (j, want)) (hj : ops[j]? = some oj) (hdj : oj.dst = some dj) (hnj : Nat.blt dj n = true)
    (hb : look L dj = some (.bool b)) (hne : (b == want) = false) (hd : o.dst = some d) (hn : Nat.blt d n = true)
    (k : ∀ a, AgM ds a n ((d, undef) :: L) → wpList P ops Q rest a w) : wpList P ops Q (o :: rest) a w := by
  have hy := yielded_of (ops := ops) h hj hdj hnj hb
  unfold wpList
  rw [if_neg (by simp only [Region.wanted, hg, hy]; simpa using hne), hd]
  exact k _ (h.put hn undef)
theorem gd_skip {d j dj : Nat} {oj : Oper} {want : Bool} (h : AgM ds a n L) (hg : o.guard = some (j, want)) (hj : ops[j]? = some oj) (hdj : oj.dst = some dj) (hnj : Nat.blt dj n = true)
    (hb : look L dj = some undef) (hd : o.dst = some d) (hn : Nat.blt d n = true)
    (k : ∀ a, AgM ds a n ((d, undef) :: L) → wpList P ops Q rest a w) : wpList P ops Q (o :: rest) a w := by
  have h1 := h.at_ dj _ hb
  have hd' : dj < a.tmps.size := by rw [h.size]; simpa [Nat.blt_eq] using hnj
  have h2 : a.tmps[dj]? = some undef := by
    rw [Array.getElem?_eq_getElem hd']
    simpa [Array.getD, hd'] using h1
  have hy : yielded ops a.tmps j = none := by simp [yielded, hj, hdj, h2, undef]
  unfold wpList
  rw [if_neg (by simp [Region.wanted, hg, hy]), hd]
  exact k _ (h.put hn undef)
theorem gd_yes {j dj : Nat} {oj : Oper} {want b : Bool} (h : AgM ds a n L) (hg : o.guard = some (j, want)) (hj : ops[j]? = some oj) (hdj : oj.dst = some dj) (hnj : Nat.blt dj n = true)
    (hb : look L dj = some (.bool b)) (he : (b == want) = true)
    (k : wpList P ops Q ({ o with guard := none } :: rest) a w) : wpList P ops Q (o :: rest) a w := by
  have hy := yielded_of (ops := ops) h hj hdj hnj hb
  unfold wpList at k ⊢
  rw [if_pos (by simp [Region.wanted])] at k
  rw [if_pos (by simp only [Region.wanted, hg, hy]; simpa using he)]
  exact k
variable {d : Nat} {ty : TypeId} {pos : String} {after : Array Edge} {v : Value} {x y : Operand} {t t' : TypeId} {k k' : IntKind} {i j : Int} {b c : Bool} {s s' : ByteArray}
theorem st_move (h : AgM ds a n L) (hx : ev L x = some v) (hn : Nat.blt d n = true) (q : ∀ a, AgM ds a n ((d, v) :: L) → wpList P ops Q rest a w) :
    wpList P ops Q (⟨some d, .move x, ty, pos, after, none⟩ :: rest) a w :=
  st_ok h rfl rfl hn (by simp [execOp, h.eval hx]) q
theorem mv (hx : ev L x = some v) (q : WL P ops Q rest n ds w ((d, v) :: L)) (hn : Nat.blt d n = true := by exact rfl) : WL P ops Q (⟨some d, .move x, ty, pos, after, none⟩ :: rest) n ds w L := fun a h => st_move h hx hn q -- short
theorem st_assign (h : AgM ds a n L) (hx : ev L x = some v) (q : ∀ a, AgM ds a n ((d, v) :: L) → wpList P ops Q rest a w) (hn : Nat.blt d n = true := by exact rfl) :
    wpList P ops Q (⟨some d, .assign x, ty, pos, after, none⟩ :: rest) a w :=
  st_ok h rfl rfl hn (by simp [execOp, h.eval hx]) q
theorem asg (hx : ev L x = some v) (q : WL P ops Q rest n ds w ((d, v) :: L)) (hn : Nat.blt d n = true := by exact rfl) : WL P ops Q (⟨some d, .assign x, ty, pos, after, none⟩ :: rest) n ds w L := fun a h => st_assign h hx q (hn := hn) -- short
theorem st_pick_t {z : Value} {x1 x2 : Operand} (h : AgM ds a n L) (hx : ev L x = some (.bool b)) (hb : b = true) (hv : ev L x1 = some z) (hn : Nat.blt d n = true) (q : ∀ a, AgM ds a n ((d, z) :: L) → wpList P ops Q rest a w) :
    wpList P ops Q (⟨some d, .pick x x1 x2, ty, pos, after, none⟩ :: rest) a w :=
  st_ok h rfl rfl hn (by subst hb; simp [execOp, h.eval hx, asBool, h.eval hv]) q
theorem pkt {z : Value} {x1 x2 : Operand} (hx : ev L x = some (.bool b)) (hv : ev L x1 = some z) (q : WL P ops Q rest n ds w ((d, z) :: L)) (hb : b = true := by exact rfl) (hn : Nat.blt d n = true := by exact rfl) : WL P ops Q (⟨some d, .pick x x1 x2, ty, pos, after, none⟩ :: rest) n ds w L := fun a h => st_pick_t h hx hb hv hn q -- short
theorem st_pick_f {z : Value} {x1 x2 : Operand} (h : AgM ds a n L) (hx : ev L x = some (.bool b)) (hv : ev L x2 = some z) (q : ∀ a, AgM ds a n ((d, z) :: L) → wpList P ops Q rest a w) (hb : b = false := by exact rfl) (hn : Nat.blt d n = true := by exact rfl) :
    wpList P ops Q (⟨some d, .pick x x1 x2, ty, pos, after, none⟩ :: rest) a w :=
  st_ok h rfl rfl hn (by subst hb; simp [execOp, h.eval hx, asBool, h.eval hv]) q
theorem pkf {z : Value} {x1 x2 : Operand} (hx : ev L x = some (.bool b)) (hv : ev L x2 = some z) (q : WL P ops Q rest n ds w ((d, z) :: L)) (hb : b = false := by exact rfl) (hn : Nat.blt d n = true := by exact rfl) : WL P ops Q (⟨some d, .pick x x1 x2, ty, pos, after, none⟩ :: rest) n ds w L := fun a h => st_pick_f h hx hv q (hb := hb) (hn := hn) -- short
theorem beq_dec (i j : Int) : (i == j) = decide (i = j) := rfl
theorem exec_builtin (ρ : Operand → Value) (dst : Option Tmp) (b : Builtin) (xs : Array Operand) (ats : Array TypeId) (ty : TypeId) (pos : String) (after : Array Edge) (guard : Option (Nat × Bool)) :
 execOp ρ { dst, op := .call { callee := .builtin b, args := xs, argTypes := ats }, type := ty, pos, after, guard } = builtin b ats ty (xs.map fun | .const _ => true | _ => false) (xs.map ρ) := rfl
theorem st_add {z : Int} (h : AgM ds a n L) (hx : ev L x = some (.int k i)) (hy : ev L y = some (.int k j)) (hz : k.wrap (i + j) = z) (hn : Nat.blt d n = true) (q : ∀ a, AgM ds a n ((d, .int k z) :: L) → wpList P ops Q rest a w) :
    wpList P ops Q (⟨some d, .binOp .add t x y t', ty, pos, after, none⟩ :: rest) a w :=
  st_ok h rfl rfl hn (by subst hz; simp [execOp, h.eval hx, h.eval hy, eqGuard_add, binOp_add, Op.intArith]) q
theorem s_add {z : Int} (hx : ev L x = some (.int k i)) (hy : ev L y = some (.int k j)) (hz : k.wrap (i + j) = z) (q : WL P ops Q rest n ds w ((d, .int k z) :: L)) (hn : Nat.blt d n = true := by exact rfl) : WL P ops Q (⟨some d, .binOp .add t x y t', ty, pos, after, none⟩ :: rest) n ds w L := fun a h => st_add h hx hy hz hn q -- short
theorem st_sub {z : Int} (h : AgM ds a n L) (hx : ev L x = some (.int k i)) (hy : ev L y = some (.int k j)) (hz : k.wrap (i - j) = z) (hn : Nat.blt d n = true) (q : ∀ a, AgM ds a n ((d, .int k z) :: L) → wpList P ops Q rest a w) :
    wpList P ops Q (⟨some d, .binOp .sub t x y t', ty, pos, after, none⟩ :: rest) a w :=
  st_ok h rfl rfl hn (by subst hz; simp [execOp, h.eval hx, h.eval hy, eqGuard_sub, binOp_sub, Op.intArith]) q
theorem s_sub {z : Int} (hx : ev L x = some (.int k i)) (hy : ev L y = some (.int k j)) (hz : k.wrap (i - j) = z) (q : WL P ops Q rest n ds w ((d, .int k z) :: L)) (hn : Nat.blt d n = true := by exact rfl) : WL P ops Q (⟨some d, .binOp .sub t x y t', ty, pos, after, none⟩ :: rest) n ds w L := fun a h => st_sub h hx hy hz hn q -- short
theorem st_mul {z : Int} (h : AgM ds a n L) (hx : ev L x = some (.int k i)) (hy : ev L y = some (.int k j)) (hz : k.wrap (i * j) = z) (hn : Nat.blt d n = true) (q : ∀ a, AgM ds a n ((d, .int k z) :: L) → wpList P ops Q rest a w) :
    wpList P ops Q (⟨some d, .binOp .mul t x y t', ty, pos, after, none⟩ :: rest) a w :=
  st_ok h rfl rfl hn (by subst hz; simp [execOp, h.eval hx, h.eval hy, eqGuard_mul, binOp_mul, Op.intArith]) q
theorem s_mul {z : Int} (hx : ev L x = some (.int k i)) (hy : ev L y = some (.int k j)) (hz : k.wrap (i * j) = z) (q : WL P ops Q rest n ds w ((d, .int k z) :: L)) (hn : Nat.blt d n = true := by exact rfl) : WL P ops Q (⟨some d, .binOp .mul t x y t', ty, pos, after, none⟩ :: rest) n ds w L := fun a h => st_mul h hx hy hz hn q -- short
theorem st_quo {z : Int} (h : AgM ds a n L) (hx : ev L x = some (.int k i)) (hy : ev L y = some (.int k j)) (h0 : j ≠ 0) (hz : k.wrap (i.tdiv j) = z) (hn : Nat.blt d n = true) (q : ∀ a, AgM ds a n ((d, .int k z) :: L) → wpList P ops Q rest a w) :
    wpList P ops Q (⟨some d, .binOp .quo t x y t', ty, pos, after, none⟩ :: rest) a w :=
  st_ok h rfl rfl hn (by subst hz; simp [execOp, h.eval hx, h.eval hy, eqGuard_quo, binOp_quo, Op.intDiv, h0]) q
theorem s_quo {z : Int} (hx : ev L x = some (.int k i)) (hy : ev L y = some (.int k j)) (hz : k.wrap (i.tdiv j) = z) (q : WL P ops Q rest n ds w ((d, .int k z) :: L)) (h0 : j ≠ 0 := by omega) (hn : Nat.blt d n = true := by exact rfl) : WL P ops Q (⟨some d, .binOp .quo t x y t', ty, pos, after, none⟩ :: rest) n ds w L := fun a h => st_quo h hx hy h0 hz hn q -- short
theorem st_rem {z : Int} (h : AgM ds a n L) (hx : ev L x = some (.int k i)) (hy : ev L y = some (.int k j)) (h0 : j ≠ 0) (hz : i.tmod j = z) (hn : Nat.blt d n = true) (q : ∀ a, AgM ds a n ((d, .int k z) :: L) → wpList P ops Q rest a w) :
    wpList P ops Q (⟨some d, .binOp .rem t x y t', ty, pos, after, none⟩ :: rest) a w :=
  st_ok h rfl rfl hn (by subst hz; simp [execOp, h.eval hx, h.eval hy, eqGuard_rem, binOp_rem, Op.intDiv, h0]) q
theorem s_rem {z : Int} (hx : ev L x = some (.int k i)) (hy : ev L y = some (.int k j)) (hz : i.tmod j = z) (q : WL P ops Q rest n ds w ((d, .int k z) :: L)) (h0 : j ≠ 0 := by omega) (hn : Nat.blt d n = true := by exact rfl) : WL P ops Q (⟨some d, .binOp .rem t x y t', ty, pos, after, none⟩ :: rest) n ds w L := fun a h => st_rem h hx hy h0 hz hn q -- short
theorem st_eq (h : AgM ds a n L) (hx : ev L x = some (.int k i)) (hy : ev L y = some (.int k j)) (hn : Nat.blt d n = true) (q : ∀ a, AgM ds a n ((d, .bool (decide (i = j))) :: L) → wpList P ops Q rest a w) :
    wpList P ops Q (⟨some d, .binOp .eql t x y t', ty, pos, after, none⟩ :: rest) a w :=
  st_ok h rfl rfl hn (by simp [execOp, h.eval hx, h.eval hy, eqGuard_at_int, binOp_eql, beq_dec]) q
theorem eq' (hx : ev L x = some (.int k i)) (hy : ev L y = some (.int k j)) (q : WL P ops Q rest n ds w ((d, .bool (decide (i = j))) :: L)) (hn : Nat.blt d n = true := by exact rfl) : WL P ops Q (⟨some d, .binOp .eql t x y t', ty, pos, after, none⟩ :: rest) n ds w L := fun a h => st_eq h hx hy hn q -- short
theorem st_ne (h : AgM ds a n L) (hx : ev L x = some (.int k i)) (hy : ev L y = some (.int k j)) (hn : Nat.blt d n = true) (q : ∀ a, AgM ds a n ((d, .bool (decide (i ≠ j))) :: L) → wpList P ops Q rest a w) :
    wpList P ops Q (⟨some d, .binOp .neq t x y t', ty, pos, after, none⟩ :: rest) a w :=
  st_ok h rfl rfl hn (by simp [execOp, h.eval hx, h.eval hy, eqGuard_at_int, binOp_neq, bne, beq_dec]) q
theorem ne' (hx : ev L x = some (.int k i)) (hy : ev L y = some (.int k j)) (q : WL P ops Q rest n ds w ((d, .bool (decide (i ≠ j))) :: L)) (hn : Nat.blt d n = true := by exact rfl) : WL P ops Q (⟨some d, .binOp .neq t x y t', ty, pos, after, none⟩ :: rest) n ds w L := fun a h => st_ne h hx hy hn q -- short
theorem st_lt (h : AgM ds a n L) (hx : ev L x = some (.int k i)) (hy : ev L y = some (.int k j)) (hn : Nat.blt d n = true) (q : ∀ a, AgM ds a n ((d, .bool (decide (i < j))) :: L) → wpList P ops Q rest a w) :
    wpList P ops Q (⟨some d, .binOp .lss t x y t', ty, pos, after, none⟩ :: rest) a w :=
  st_ok h rfl rfl hn (by simp [execOp, h.eval hx, h.eval hy, eqGuard_lss, binOp_lss]) q
theorem lt' (hx : ev L x = some (.int k i)) (hy : ev L y = some (.int k j)) (q : WL P ops Q rest n ds w ((d, .bool (decide (i < j))) :: L)) (hn : Nat.blt d n = true := by exact rfl) : WL P ops Q (⟨some d, .binOp .lss t x y t', ty, pos, after, none⟩ :: rest) n ds w L := fun a h => st_lt h hx hy hn q -- short
theorem st_le (h : AgM ds a n L) (hx : ev L x = some (.int k i)) (hy : ev L y = some (.int k j)) (hn : Nat.blt d n = true) (q : ∀ a, AgM ds a n ((d, .bool (decide (i ≤ j))) :: L) → wpList P ops Q rest a w) :
    wpList P ops Q (⟨some d, .binOp .leq t x y t', ty, pos, after, none⟩ :: rest) a w :=
  st_ok h rfl rfl hn (by simp [execOp, h.eval hx, h.eval hy, eqGuard_leq, binOp_leq]) q
theorem le' (hx : ev L x = some (.int k i)) (hy : ev L y = some (.int k j)) (q : WL P ops Q rest n ds w ((d, .bool (decide (i ≤ j))) :: L)) (hn : Nat.blt d n = true := by exact rfl) : WL P ops Q (⟨some d, .binOp .leq t x y t', ty, pos, after, none⟩ :: rest) n ds w L := fun a h => st_le h hx hy hn q -- short
theorem st_gt (h : AgM ds a n L) (hx : ev L x = some (.int k i)) (hy : ev L y = some (.int k j)) (hn : Nat.blt d n = true) (q : ∀ a, AgM ds a n ((d, .bool (decide (j < i))) :: L) → wpList P ops Q rest a w) :
    wpList P ops Q (⟨some d, .binOp .gtr t x y t', ty, pos, after, none⟩ :: rest) a w :=
  st_ok h rfl rfl hn (by simp [execOp, h.eval hx, h.eval hy, eqGuard_gtr, binOp_gtr]) q
theorem gt' (hx : ev L x = some (.int k i)) (hy : ev L y = some (.int k j)) (q : WL P ops Q rest n ds w ((d, .bool (decide (j < i))) :: L)) (hn : Nat.blt d n = true := by exact rfl) : WL P ops Q (⟨some d, .binOp .gtr t x y t', ty, pos, after, none⟩ :: rest) n ds w L := fun a h => st_gt h hx hy hn q -- short
theorem st_ge (h : AgM ds a n L) (hx : ev L x = some (.int k i)) (hy : ev L y = some (.int k j)) (hn : Nat.blt d n = true) (q : ∀ a, AgM ds a n ((d, .bool (decide (j ≤ i))) :: L) → wpList P ops Q rest a w) :
    wpList P ops Q (⟨some d, .binOp .geq t x y t', ty, pos, after, none⟩ :: rest) a w :=
  st_ok h rfl rfl hn (by simp [execOp, h.eval hx, h.eval hy, eqGuard_geq, binOp_geq]) q
theorem ge' (hx : ev L x = some (.int k i)) (hy : ev L y = some (.int k j)) (q : WL P ops Q rest n ds w ((d, .bool (decide (j ≤ i))) :: L)) (hn : Nat.blt d n = true := by exact rfl) : WL P ops Q (⟨some d, .binOp .geq t x y t', ty, pos, after, none⟩ :: rest) n ds w L := fun a h => st_ge h hx hy hn q -- short
theorem st_not (h : AgM ds a n L) (hx : ev L x = some (.bool b)) (hn : Nat.blt d n = true) (q : ∀ a, AgM ds a n ((d, .bool (!b)) :: L) → wpList P ops Q rest a w) :
    wpList P ops Q (⟨some d, .unOp .not t x, ty, pos, after, none⟩ :: rest) a w :=
  st_ok h rfl rfl hn (by simp [execOp, h.eval hx, unary_not]) q
theorem nt' (hx : ev L x = some (.bool b)) (q : WL P ops Q rest n ds w ((d, .bool (!b)) :: L)) (hn : Nat.blt d n = true := by exact rfl) : WL P ops Q (⟨some d, .unOp .not t x, ty, pos, after, none⟩ :: rest) n ds w L := fun a h => st_not h hx hn q -- short
theorem st_conv {z : Int} (h : AgM ds a n L) (hx : ev L x = some (.int k i)) (hs : (P.underlying t).isSome = true) (hd : P.underlying t' = some (.int k')) (hz : k'.wrap i = z) (hn : Nat.blt d n = true) (q : ∀ a, AgM ds a n ((d, .int k' z) :: L) → wpList P ops Q rest a w) :
    wpList P ops Q (⟨some d, .convert t t' x, ty, pos, after, none⟩ :: rest) a w :=
  st_ok h rfl rfl hn (by
    obtain ⟨u, hu⟩ := Option.isSome_iff_exists.mp hs
    subst hz; simp [execOp, h.eval hx, convert, run_underlying hu, run_underlying hd, Conv.intToInt]) q
theorem s_conv {z : Int} (hx : ev L x = some (.int k i)) (hs : (P.underlying t).isSome = true) (hd : P.underlying t' = some (.int k')) (hz : k'.wrap i = z) (q : WL P ops Q rest n ds w ((d, .int k' z) :: L)) (hn : Nat.blt d n = true := by exact rfl) : WL P ops Q (⟨some d, .convert t t' x, ty, pos, after, none⟩ :: rest) n ds w L := fun a h => st_conv h hx hs hd hz hn q -- short
theorem st_min {ts : Array TypeId} (h : AgM ds a n L) (hx : ev L x = some (.int k i)) (hy : ev L y = some (.int k' j)) (hn : Nat.blt d n = true) (q : ∀ a, AgM ds a n ((d, .int k (min i j)) :: L) → wpList P ops Q rest a w) :
    wpList P ops Q (⟨some d, .call ⟨.builtin .min, #[x, y], ts⟩, ty, pos, after, none⟩ :: rest) a w :=
  st_ok h rfl rfl hn (by
    rw [exec_builtin]; unfold builtin
    simp only [List.map_toArray, List.map_cons, List.map_nil, h.eval hx, h.eval hy, Sem.run_bind, run_min_int2, Result.andThen_ok, Sem.run_pure]
    congr 3; omega) q
theorem s_min {ts : Array TypeId} (hx : ev L x = some (.int k i)) (hy : ev L y = some (.int k' j)) (hn : Nat.blt d n = true) (q : WL P ops Q rest n ds w ((d, .int k (min i j)) :: L)) : WL P ops Q (⟨some d, .call ⟨.builtin .min, #[x, y], ts⟩, ty, pos, after, none⟩ :: rest) n ds w L := fun a h => st_min h hx hy hn q -- short
def S (l : List UInt8) : Value := .string ⟨l.toArray⟩
variable {l l' : List UInt8}
theorem st_len (h : AgM ds a n L) (hx : ev L x = some (S l)) (hu : P.underlying t = some .string) (hn : Nat.blt d n = true) (q : ∀ a, AgM ds a n ((d, .int .i64 (l.length : Int)) :: L) → wpList P ops Q rest a w) :
    wpList P ops Q (⟨some d, .call ⟨.builtin .len, #[x], #[t]⟩, ty, pos, after, none⟩ :: rest) a w :=
  st_ok h rfl rfl hn (by
    rw [exec_builtin]; unfold builtin
    simp only [List.map_toArray, List.map_cons, List.map_nil, h.eval hx, S, Sem.run_bind, run_len_string w t _ _ hu, Result.andThen_ok, Sem.run_pure]
    rfl) q
theorem ln (hx : ev L x = some (S l)) (hu : P.underlying t = some .string) (q : WL P ops Q rest n ds w ((d, .int .i64 (l.length : Int)) :: L)) (hn : Nat.blt d n = true := by exact rfl) : WL P ops Q (⟨some d, .call ⟨.builtin .len, #[x], #[t]⟩, ty, pos, after, none⟩ :: rest) n ds w L := fun a h => st_len h hx hu hn q -- short
end
end Go.Lw
namespace Go.Lw
open Go.RowKit
structure Fr (S : List Nat) (w w' : World) : Prop where
  os : w'.os = w.os
  tape : w'.tape = w.tape
  output : w'.output = w.output
  size : w.heap.size ≤ w'.heap.size
  block : ∀ k, k < w.heap.size → k ∉ S → w'.heap[k]? = w.heap[k]?
theorem Fr.refl (S : List Nat) (w : World) : Fr S w w := ⟨rfl, rfl, rfl, Nat.le_refl _, fun _ _ _ => rfl⟩
theorem Fr.trans {S S' : List Nat} {a b c : World} (h : Fr S a b) (h' : Fr S' b c) : Fr (S ++ S') a c :=
 ⟨h'.os.trans h.os, h'.tape.trans h.tape, h'.output.trans h.output, Nat.le_trans h.size h'.size, fun k hk hS =>
  (h'.block k (Nat.lt_of_lt_of_le hk h.size) (fun e => hS (List.mem_append.2 (.inr e)))).trans (h.block k hk (fun e => hS (List.mem_append.2 (.inl e))))⟩
theorem Fr.weak {S S' : List Nat} {a b : World} (h : Fr S a b) (hS : ∀ k ∈ S, k < a.heap.size → k ∈ S') : Fr S' a b :=
 ⟨h.os, h.tape, h.output, h.size, fun k hk hn => h.block k hk (fun e => hn (hS k e hk))⟩
theorem Fr.step {S S' : List Nat} {a b c : World} (h : Fr S a b) (h' : Fr S' b c) (hS : ∀ k ∈ S', k < a.heap.size → k ∈ S) : Fr S a c :=
 (h.trans h').weak fun k hk hlt => (List.mem_append.1 hk).elim id fun e => hS k e hlt
theorem Fr.next {S : List Nat} {a b c : World} (h : Fr S a b) (h' : Fr [] b c) : Fr S a c := h.step h' (by simp)
theorem Fr.below {a b : World} (h : Fr [] a b) : Below a.heap.size a b := ⟨h.os, h.tape, h.output, h.size, fun k hk => h.block k hk (by simp)⟩
theorem Fr.of_below {a b : World} (h : Below a.heap.size a b) : Fr [] a b := ⟨h.os, h.tape, h.output, h.size, fun k hk _ => h.block k hk⟩
theorem Fr.alloc (S : List Nat) (w : World) (o : Obj) : Fr S w (w.alloc o) := ⟨rfl, rfl, rfl, by simp, fun k hk _ => Below.heap_alloc w o k hk⟩
theorem Fr.drew (S : List Nat) (w : World) : Fr S w w.drew := ⟨rfl, rfl, rfl, Nat.le_refl _, fun _ _ _ => rfl⟩
theorem Fr.setCell (w : World) (p : Addr) (u : Value) : Fr [p.block] w (w.setCell p u) :=
 ⟨rfl, rfl, rfl, by simp, fun k _ hn => heap_setCell_other w p k u (by simpa using hn)⟩
theorem Fr.setRow (w : World) (g : Nat) (cs : Array Value) : Fr [g] w (w.setRow g cs) :=
 ⟨rfl, rfl, rfl, by simp, fun k _ hn => setRow_other w g k _ (by simpa using hn)⟩
theorem Fr.cell {S : List Nat} {w w' : World} (h : Fr S w w') {p : Addr} {u : Value} (hc : w.cell? p = some u) (hn : p.block ∉ S) : w'.cell? p = some u :=
 (World.cell?_of_block (w := w) (h.block p.block (block_lt_of_cell hc) hn)).trans hc
def Cells (w : World) (ad : Addr) (cs : List Value) : Prop := ∀ j u, cs[j]? = some u → w.cell? (ad.add j) = some u
theorem block_add (a : Addr) (n : Nat) : (a.add n).block = a.block := by unfold Addr.add; split <;> rfl
theorem add_add (a : Addr) (i j : Nat) : (a.add i).add j = a.add (i + j) := by
 unfold Addr.add
 by_cases hi : i = 0 <;> by_cases hj : j = 0 <;> simp [hi, hj, Nat.add_assoc]
theorem Cells.fr {S : List Nat} {w w' : World} {ad : Addr} {cs : List Value} (h : Cells w ad cs) (hf : Fr S w w') (hn : ad.block ∉ S) : Cells w' ad cs :=
 fun j u hu => hf.cell (h j u hu) (by rw [block_add]; exact hn)
structure Enc (α : Type) where
  enc : α → List Value
  sz : Nat
  len : ∀ y, (enc y).length = sz
  one : ∀ y, ∀ u ∈ enc y, u.oneCell' = true
  pos : 0 < sz
def Enc.i64 : Enc Int := ⟨fun n => [.int .i64 n], 1, fun _ => rfl, fun _ u h => by simp at h; subst h; rfl, by decide⟩
def Enc.u8 : Enc Int := ⟨fun n => [.int .u8 n], 1, fun _ => rfl, fun _ u h => by simp at h; subst h; rfl, by decide⟩
def Enc.str : Enc (List UInt8) := ⟨fun l => [S l], 1, fun _ => rfl, fun _ u h => by simp at h; subst h; rfl, by decide⟩
def Enc.sl : Enc (Option Addr × Nat × Nat) := ⟨fun p => [.slice p.1 p.2.1 p.2.2], 1, fun _ => rfl, fun _ u h => by simp at h; subst h; rfl, by decide⟩
theorem Enc.flat_len {α : Type} (E : Enc α) (ys : List α) : (ys.flatMap E.enc).length = ys.length * E.sz := by
 induction ys with
 | nil => simp
 | cons y ys ih => simp [E.len, ih, Nat.add_mul, Nat.add_comm]
theorem Enc.flat_one {α : Type} (E : Enc α) (ys : List α) : ∀ u ∈ ys.flatMap E.enc, u.oneCell' = true := by
 intro u hu
 obtain ⟨y, _, h⟩ := List.mem_flatMap.1 hu
 exact E.one y u h
theorem Enc.flat_get {α : Type} (E : Enc α) : ∀ (ys : List α) (i : Nat) (y : α), ys[i]? = some y → ∀ j, j < E.sz → (ys.flatMap E.enc)[i * E.sz + j]? = (E.enc y)[j]?
 | [], i, y, h, _, _ => by simp at h
 | z :: ys, 0, y, h, j, hj => by
  simp at h; subst h
  rw [List.flatMap_cons, Nat.zero_mul, Nat.zero_add, List.getElem?_append_left (by rw [E.len]; exact hj)]
 | z :: ys, i + 1, y, h, j, hj => by
  simp at h
  rw [List.flatMap_cons, List.getElem?_append_right (by rw [E.len, Nat.add_mul]; omega), E.len]
  rw [show (i + 1) * E.sz + j - E.sz = i * E.sz + j by rw [Nat.add_mul]; omega]
  exact Enc.flat_get E ys i y h j hj
theorem Enc.flat_split {α : Type} (E : Enc α) (ys : List α) (m : Nat) (u : Value) (h : (ys.flatMap E.enc)[m]? = some u) :
    ∃ i j y, m = i * E.sz + j ∧ j < E.sz ∧ ys[i]? = some y ∧ (E.enc y)[j]? = some u := by
  have hm : m < ys.length * E.sz := by rw [← E.flat_len]; exact (List.getElem?_eq_some_iff.1 h).1
  have hi : m / E.sz < ys.length := Nat.div_lt_of_lt_mul (by rw [Nat.mul_comm]; exact hm)
  have hj : m % E.sz < E.sz := Nat.mod_lt _ E.pos
  have e : m = m / E.sz * E.sz + m % E.sz := by rw [Nat.mul_comm]; exact (Nat.div_add_mod m E.sz).symm
  refine ⟨m / E.sz, m % E.sz, ys[m / E.sz], e, hj, List.getElem?_eq_getElem hi, ?_⟩
  have := E.flat_get ys (m / E.sz) ys[m / E.sz] (List.getElem?_eq_getElem hi) (m % E.sz) hj
  rw [← this, ← e]; exact h
def Sl {α : Type} (E : Enc α) (w : World) (v : Value) (ys : List α) : Prop :=
  ∃ A c, v = .slice A ys.length c ∧ ys.length ≤ c ∧ c ≤ maxLen ∧ ∀ i y, ys[i]? = some y → ∃ ad, A = some ad ∧ Cells w (ad.add (i * E.sz)) (E.enc y)
def Own {α : Type} (E : Enc α) (T : TypeId) (base : Nat) (w : World) (v : Value) (ys : List α) : Prop :=
  (v = .slice none 0 0 ∧ ys = []) ∨
  ∃ g cap cur, v = .slice (some ⟨g, 0, none⟩) ys.length cap ∧ base ≤ g ∧ w.heap[g]? = some (.cells cur T (0, 0)) ∧ ys.length ≤ cap ∧ cap ≤ maxLen ∧ cap * E.sz ≤ cur.size ∧
    cur.toList.take (ys.length * E.sz) = ys.flatMap E.enc
def blks : Value → List Nat
  | .slice (some a) _ _ => [a.block]
  | _ => []
section
variable {α : Type} {E : Enc α} {T : TypeId} {base : Nat} {w w' : World} {v : Value} {ys zs : List α} {S : List Nat}
theorem lit_add (g o j : Nat) : (⟨g, o, none⟩ : Addr).add j = ⟨g, o + j, none⟩ := by unfold Addr.add; split <;> simp_all
theorem Sl.fr (h : Sl E w v ys) (hf : Fr S w w') (hn : ∀ k ∈ S, k ∉ blks v) : Sl E w' v ys := by
 obtain ⟨A, c, rfl, h1, h2, h3⟩ := h
 refine ⟨A, c, rfl, h1, h2, fun i y hy => ?_⟩
 obtain ⟨ad, rfl, hc⟩ := h3 i y hy
 exact ⟨ad, rfl, hc.fr hf (by rw [block_add]; exact fun e => hn _ e (by simp [blks]))⟩
theorem Sl.ext (h : Sl E w v ys) (hf : Fr [] w w') : Sl E w' v ys := h.fr hf (by simp)
theorem Sl.nil (w : World) : Sl E w (.slice none 0 0) [] := ⟨none, 0, rfl, Nat.le_refl _, Nat.zero_le _, fun i y h => by simp at h⟩
theorem Own.sl (h : Own E T base w v ys) : Sl E w v ys := by
 rcases h with ⟨rfl, rfl⟩ | ⟨g, cap, cur, rfl, _, hg, hc, hm, hs, ht⟩
 ·exact Sl.nil w
 refine ⟨_, cap, rfl, hc, hm, fun i y hy => ⟨_, rfl, fun j u hu => ?_⟩⟩
 have hj : j < E.sz := by rw [← E.len y]; exact (List.getElem?_eq_some_iff.1 hu).1
 have hi : i < ys.length := (List.getElem?_eq_some_iff.1 hy).1
 have h1 := E.flat_get ys i y hy j hj
 rw [← ht] at h1
 have hlt : i * E.sz + j < ys.length * E.sz := by
  have : (i + 1) * E.sz ≤ ys.length * E.sz := Nat.mul_le_mul_right _ hi
  rw [Nat.add_mul] at this; omega
 rw [List.getElem?_take, if_pos hlt] at h1
 rw [add_add, lit_add, Nat.zero_add, cell_of_row w g _ cur T (0, 0) hg, ← Array.getElem?_toList, h1]
 exact hu
theorem Own.fr (h : Own E T base w v ys) (hf : Fr S w w') (hn : ∀ k ∈ S, k ∉ blks v) : Own E T base w' v ys := by
 rcases h with ⟨rfl, rfl⟩ | ⟨g, cap, cur, rfl, hb, hg, r⟩
 ·exact .inl ⟨rfl, rfl⟩
 refine .inr ⟨g, cap, cur, rfl, hb, ?_, r⟩
 rw [hf.block g (Array.getElem?_eq_some_iff.1 hg).1 (fun e => hn _ e (by simp [blks]))]
 exact hg
theorem Own.ext (h : Own E T base w v ys) (hf : Fr [] w w') : Own E T base w' v ys := h.fr hf (by simp)
theorem Own.nil (w : World) : Own E T base w (.slice none 0 0) [] := .inl ⟨rfl, rfl⟩
theorem Own.low {b' : Nat} (h : Own E T base w v ys) (hb : b' ≤ base) : Own E T b' w v ys := by
 rcases h with h | ⟨g, cap, cur, h1, h2, r⟩
 ·exact .inl h
 exact .inr ⟨g, cap, cur, h1, Nat.le_trans hb h2, r⟩
theorem Own.blk (h : Own E T base w v ys) : ∀ k ∈ blks v, base ≤ k ∧ k < w.heap.size := by
 rcases h with ⟨rfl, rfl⟩ | ⟨g, cap, cur, rfl, hb, hg, r⟩
 ·intro k hk; cases hk
 intro k hk
 simp [blks] at hk; subst hk
 exact ⟨hb, (Array.getElem?_eq_some_iff.1 hg).1⟩
theorem Sl.blk (h : Sl E w v ys) (hp : ys ≠ []) : ∀ k ∈ blks v, k < w.heap.size := by
 obtain ⟨A, c, rfl, h1, h2, h3⟩ := h
 match ys, hp with
 | y :: r, _ =>
  obtain ⟨ad, rfl, hc⟩ := h3 0 y rfl
  intro k hk
  simp [blks] at hk; subst hk
  have hl := E.len y
  have hp := E.pos
  match he : E.enc y with
  | [] => rw [he] at hl; simp at hl; omega
  | u :: _ =>
   have := hc 0 u (by rw [he]; rfl)
   have := block_lt_of_cell this
   rwa [block_add, block_add] at this
theorem Sl.form (h : Sl E w v ys) : ∃ A c, v = .slice A ys.length c ∧ ys.length ≤ c := let ⟨A, c, h1, h2, _⟩ := h; ⟨A, c, h1, h2⟩
theorem Sl.len_le (h : Sl E w v ys) : ys.length ≤ maxLen := let ⟨_, _, _, h2, h3, _⟩ := h; Nat.le_trans h2 h3
theorem Sl.flat (h : Sl E w v ys) : ∃ A c, v = .slice A ys.length c ∧ ys.length ≤ c ∧ c ≤ maxLen ∧ (ys ≠ [] → ∃ ad, A = some ad ∧ Cells w ad (ys.flatMap E.enc)) := by
 obtain ⟨A, c, rfl, h1, h2, h3⟩ := h
 refine ⟨A, c, rfl, h1, h2, fun hp => ?_⟩
 match ys, hp with
 | y :: r, _ =>
  obtain ⟨ad, rfl, _⟩ := h3 0 y rfl
  refine ⟨ad, rfl, fun m u hu => ?_⟩
  obtain ⟨i, j, z, rfl, hj, hz, hu'⟩ := E.flat_split _ m u hu
  obtain ⟨ad', e, hc⟩ := h3 i z hz
  cases e
  have := hc j u hu'
  rwa [add_add] at this
theorem Sl.take (h : Sl E w v ys) {A : Option Addr} {n c : Nat} (hv : v = .slice A n c) {m : Nat} (hm : m ≤ ys.length) {B : Option Addr} {c' : Nat} (hc' : m ≤ c') (hM : c' ≤ maxLen) (hB : 0 < m → B = A) : Sl E w (.slice B m c') (ys.take m) := by
 obtain ⟨A', c1, h0, h1, h2, h3⟩ := h
 rw [hv] at h0; cases h0
 have hl : (ys.take m).length = m := by simp; omega
 refine ⟨B, c', by rw [hl], by rw [hl]; exact hc', hM, fun i y hy => ?_⟩
 rw [List.getElem?_take] at hy
 split at hy
 ·rename_i hi
  rw [hB (by omega)]
  exact h3 i y hy
 cases hy
theorem Sl.drop (h : Sl E w v ys) {A : Option Addr} {n c : Nat} (hv : v = .slice A n c) {m : Nat} (hm : m ≤ ys.length) {B : Option Addr} {c' : Nat} (hc' : ys.length - m ≤ c') (hM : c' ≤ maxLen) (hB : m < ys.length → B = A.map (·.add (m * E.sz))) :
    Sl E w (.slice B (ys.length - m) c') (ys.drop m) := by
  obtain ⟨A', c1, h0, h1, h2, h3⟩ := h
  rw [hv] at h0; cases h0
  refine ⟨B, c', by rw [List.length_drop], by rw [List.length_drop]; exact hc', hM, fun i y hy => ?_⟩
  rw [List.getElem?_drop] at hy
  have hlt : m + i < ys.length := (List.getElem?_eq_some_iff.1 hy).1
  obtain ⟨ad, rfl, hc⟩ := h3 _ y hy
  refine ⟨ad.add (m * E.sz), by rw [hB (by omega)]; rfl, ?_⟩
  rw [add_add, ← Nat.add_mul]; exact hc
theorem Own.take (h : Own E T base w v ys) {A : Option Addr} {n c : Nat} (hv : v = .slice A n c) {m : Nat} (hm : m ≤ ys.length) {c' : Nat} (hc : c' ≤ c) (hmc : m ≤ c') : Own E T base w (.slice A m c') (ys.take m) := by
 rcases h with ⟨rfl, rfl⟩ | ⟨g, cap, cur, rfl, hb, hg, h1, h2, h3, h4⟩
 ·cases hv
  simp at hm; subst hm
  exact .inl ⟨by rw [Nat.le_zero.1 hc], rfl⟩
 cases hv
 have hl : (ys.take m).length = m := by simp; omega
 refine .inr ⟨g, c', cur, by rw [hl], hb, hg, by rw [hl]; exact hmc, by omega, Nat.le_trans (Nat.mul_le_mul_right _ hc) h3, ?_⟩
 have h5 : (cur.toList.take (ys.length * E.sz)).take (m * E.sz) = (ys.flatMap E.enc).take (m * E.sz) := by rw [h4]
 rw [List.take_take, Nat.min_eq_left (Nat.mul_le_mul_right _ hm)] at h5
 rw [hl, h5]
 clear h5 h4 h3 h2 h1 hg hl hc hmc
 induction ys generalizing m with
 | nil => simp
 | cons y ys ih =>
  match m with
  | 0 => simp
  | m + 1 =>
   rw [List.take_succ_cons, List.flatMap_cons, List.flatMap_cons, Nat.add_mul, Nat.one_mul, Nat.add_comm, ← E.len y, List.take_length_add_append, E.len y, ih (by simp at hm; omega)]
theorem run_append_nil' {P : Program} (t ty e : TypeId) (i : TypeInfo) (ht : P.underlying t = some (.slice e)) (hi : P.info? e = some i) (A : Option Addr) (n cap c : Nat) (hc : n ≤ cap) (hpos : 0 < n → A ≠ none) :
    (Builtin.append_ #[t, t] ty #[.slice A n cap, .slice none 0 c]).run P w = .ok (.slice A n cap) w := by
  cases A with
  | none => simp [Builtin.append_, run_underlying ht, sizeOf, typeInfo, hi, Builtin.lenOf, Builtin.firstCells, hc]
  | some a => simp [Builtin.append_, run_underlying ht, sizeOf, typeInfo, hi, Builtin.lenOf, Builtin.firstCells, hc, storeCells]
theorem run_append {P : Program} (t ty : TypeId) (i : TypeInfo) (z : Value) (bytes : Nat) (ht : P.underlying t = some (.slice T)) (hi : P.info? T = some i) (hz : i.zero = some z) (hsize : i.size = E.sz) (hby : i.bytes = bytes)
    (hzs : z.cells.size = E.sz) {x : Value} (ho : Own E T base w v ys) (hx : Sl E w x zs) (hM : (ys.length + zs.length) ≤ maxLen) (hb : (ys.length + zs.length) * bytes ≤ 140737488355328) (hbase : base ≤ w.heap.size) :
    ∃ v' w', (Builtin.append_ #[t, t] ty #[v, x]).run P w = .ok v' w' ∧ Own E T base w' v' (ys ++ zs) ∧ Fr (blks v) w w' ∧ (v' = v ∨ blks v' = blks v ∨ blks v' = [w.heap.size]) := by
  subst hby
  obtain ⟨A, c, rfl, hc1, hc2, hcells⟩ := hx.flat
  have grown : ∀ (old : Nat),
      Own E T base (w.drew.alloc (.cells ((ys.flatMap E.enc).toArray ++ (zs.flatMap E.enc).toArray ++ Builtin.zeroCells z.cells (grownCap w (ys.length + zs.length) old T - (ys.length + zs.length))) T))
        (.slice (some ⟨w.heap.size, 0, none⟩) (ys.length + zs.length) (grownCap w (ys.length + zs.length) old T)) (ys ++ zs) := by
    intro old
    have hge := grownCap_ge w (ys.length + zs.length) old T
    have hcm := grownCap_le_maxLen w (ys.length + zs.length) old T hM
    refine .inr ⟨w.heap.size, _, _, by rw [List.length_append], hbase, heap_alloc_new w.drew _, by rw [List.length_append]; exact hge, hcm, ?_, ?_⟩
    · simp only [Array.size_append, List.size_toArray, size_zeroCells, hzs, E.flat_len, ← Nat.add_mul]
      refine Nat.mul_le_mul_right _ ?_
      omega
    · rw [List.flatMap_append]
      simp only [Array.toList_append]
      rw [show (ys ++ zs).length * E.sz = (ys.flatMap E.enc ++ zs.flatMap E.enc).length by rw [@List.length_append _ (ys.flatMap E.enc) (zs.flatMap E.enc), E.flat_len, E.flat_len, List.length_append, Nat.add_mul]]
      exact List.take_left
  by_cases hzn : zs = []
  · subst hzn
    rw [List.append_nil]
    refine ⟨v, w, ?_, ho, Fr.refl _ _, .inl rfl⟩
    rcases ho with ⟨rfl, rfl⟩ | ⟨g, cap, cur, rfl, hbg, hg, hnc, hcm, hcs, htake⟩
    · cases A with
      | none => exact run_append_nil' t ty T i ht hi _ _ _ _ (Nat.le_refl _) (by simp)
      | some a => simp [Builtin.append_, run_underlying ht, sizeOf, typeInfo, hi, Builtin.lenOf, Builtin.firstCells, loadCells, loadCellsFrom]
    · cases A with
      | none => exact run_append_nil' t ty T i ht hi _ _ _ _ hnc (by simp)
      | some a => simp [Builtin.append_, run_underlying ht, sizeOf, typeInfo, hi, Builtin.lenOf, Builtin.firstCells, loadCells, loadCellsFrom, hnc, storeCells]
  · obtain ⟨ad, rfl, hcc⟩ := hcells hzn
    have hpos : 0 < zs.length := List.length_pos_iff.2 hzn
    have hsm : ys.length + zs.length ≤ 9223372036854775807 := by simp only [maxLen] at hM; omega
    rcases ho with ⟨rfl, rfl⟩ | ⟨g, cap, cur, rfl, hbg, hg, hnc, hcm, hcs, htake⟩
    · have hr := run_append_nil (P := P) w t ty T i z ht hi hz ad zs.length c (zs.flatMap E.enc) (by rw [E.flat_len, hsize]) hcc hpos (by simp at hsm; omega) (by have hb' := hb; simp only [List.length_nil, Nat.zero_add] at hb'; omega)
      have hgr := grown 0
      simp only [List.flatMap_nil, List.length_nil, Nat.zero_add, List.nil_append, Array.empty_append] at hgr ⊢
      exact ⟨_, _, hr, hgr, ⟨rfl, rfl, rfl, by simp, fun k hk _ => Below.heap_alloc w.drew _ k hk⟩, .inr (.inr rfl)⟩
    · have hold : Own E T base w (.slice (some ⟨g, 0, none⟩) ys.length cap) ys := .inr ⟨g, cap, cur, rfl, hbg, hg, hnc, hcm, hcs, htake⟩
      by_cases hroom : ys.length + zs.length ≤ cap
      · have hfit : ys.length * i.size + (zs.flatMap E.enc).length ≤ cur.size := by
          rw [E.flat_len, hsize, ← Nat.add_mul]
          exact Nat.le_trans (Nat.mul_le_mul_right _ hroom) hcs
        have hr := run_append_room (P := P) w t ty T i ht hi g ys.length cap cur hg ad zs.length c (zs.flatMap E.enc) (by rw [E.flat_len, hsize]) hcc (E.flat_one zs) hroom hfit
        refine ⟨_, _, hr, .inr ⟨g, cap, _, by rw [List.length_append], hbg, setRow_heap w g cur _ T _ hg, by rw [List.length_append]; exact hroom, hcm, ?_, ?_⟩, Fr.setRow w g _, .inr (.inl rfl)⟩
        · simp only [List.size_toArray, List.length_append, List.length_take, List.length_drop, Array.length_toList]
          omega
        · rw [hsize, htake, List.flatMap_append, List.length_append, Nat.add_mul]
          rw [show ys.length * E.sz + zs.length * E.sz = (ys.flatMap E.enc ++ zs.flatMap E.enc).length by rw [List.length_append, E.flat_len, E.flat_len]]
          exact List.take_left
      · have hflat := hold.sl.flat
        have holds : ∀ j u, (ys.flatMap E.enc)[j]? = some u → w.cell? ((⟨g, 0, none⟩ : Addr).add j) = some u := by
          intro j u hu
          by_cases hy : ys = []
          · subst hy; simp at hu
          · obtain ⟨A', c', e, _, _, hh⟩ := hflat
            obtain ⟨ad', e', hc'⟩ := hh hy
            cases e; cases e'
            exact hc' j u hu
        have hr := run_append_grow (P := P) w t ty T i z ht hi hz ⟨g, 0, none⟩ ys.length cap (ys.flatMap E.enc) (by rw [E.flat_len, hsize]) holds ad zs.length c (zs.flatMap E.enc) (by rw [E.flat_len, hsize]) hcc (by omega) (by omega) (growslice_fits (by omega) hb)
        exact ⟨_, _, hr, grown cap, ⟨rfl, rfl, rfl, by simp, fun k hk _ => Below.heap_alloc w.drew _ k hk⟩, .inr (.inr rfl)⟩
end
end Go.Lw
namespace Go.Lw
open Go.RowKit
def NotAgg (P : Program) (t : TypeId) : Prop := ∀ w : World, (isAgg t).run P w = .ok false w
def AggOf (P : Program) (t : TypeId) (n : Nat) : Prop := (∀ w : World, (isAgg t).run P w = .ok true w) ∧ ∀ w : World, (sizeOf t).run P w = .ok n w
def SizeOf (P : Program) (t : TypeId) (n : Nat) : Prop := ∀ w : World, (sizeOf t).run P w = .ok n w
def FieldAt (P : Program) (s f off : Nat) : Prop := ∀ (ad : Addr) (w : World), (Instr.fieldAt s (.pointer (some ad)) f).run P w = .ok (.pointer (some (ad.add off))) w
def CallOf (P : Program) (f : FuncId) : Prop := ∀ (args : Array Value) (w : World), (callFunc f args).run P w = .ok (.enter f args) w
structure ElemOf {α : Type} (P : Program) (t T : TypeId) (E : Enc α) (bytes : Nat) : Prop where
  und : P.underlying t = some (.slice T)
  info : ∃ i z, P.info? T = some i ∧ i.zero = some z ∧ i.size = E.sz ∧ i.bytes = bytes ∧ z.cells.size = E.sz
theorem ElemOf.mk' {α : Type} {P : Program} {t T : TypeId} {E : Enc α} {bytes : Nat} {z : Value} (h1 : P.underlying t = some (.slice T)) (h2 : (P.info? T).map (fun i => (i.zero, i.size, i.bytes)) = some (some z, E.sz, bytes)) (h3 : z.cells.size = E.sz) : ElemOf P t T E bytes :=
 ⟨h1, let ⟨i, a, b, c, d⟩ := info_parts h2; ⟨i, z, a, b, c, d, h3⟩⟩
theorem CallOf.mk' {P : Program} {f : FuncId} {fn : Func} (hf : P.funcs[f]? = some fn) (hn : (fn.name == "runtime.NumGoroutine") = false) (hb : fn.body.isNone = false) : CallOf P f :=
 fun args w => by
  have h1 : fn.name ≠ "runtime.NumGoroutine" := by simpa using hn
  have h2 : fn.body ≠ none := by intro e; rw [e] at hb; cases hb
  simp [callFunc, hf, h1, h2]
section
variable {P : Program} {a : Act} {n : Nat} {L : List (Nat × Value)} {ds : List Nat} {w w' : World} {Q : Exit → Act → World → Prop} {ops : Array Oper} {rest : List Oper}
variable {d : Nat} {ty : TypeId} {pos : String} {after : Array Edge} {v u : Value} {x y z : Operand} {t t' T : TypeId} {k k' : IntKind} {i j : Int} {b c : Bool} {l l' : List UInt8}
theorem byte_rng (c : UInt8) : 0 ≤ ((c.toNat : Nat) : Int) ∧ ((c.toNat : Nat) : Int) ≤ 255 := by have := c.toNat_lt; omega
theorem st_index {p : Nat} (h : AgM ds a n L) (hx : ev L x = some (S l)) (hy : ev L y = some (.int k i)) (hu : P.underlying t = some .string) (q : 0 ≤ ((l.getD p 0).toNat : Int) ∧ ((l.getD p 0).toNat : Int) ≤ 255 → ∀ a, AgM ds a n ((d, .int .u8 ((l.getD p 0).toNat : Int)) :: L) → wpList P ops Q rest a w) (h0 : 0 ≤ i := by omega) (h1 : i < l.length := by omega) (hp : i.toNat = p := by omega) (hn : Nat.blt d n = true := by exact rfl) : wpList P ops Q (⟨some d, .index t x y, ty, pos, after, none⟩ :: rest) a w :=
  st_ok h rfl rfl hn (by
    have hs : (ByteArray.mk l.toArray).size = l.length := by simp [ByteArray.size]
    have h1' : i < ((ByteArray.mk l.toArray).size : Nat) := by rw [hs]; exact h1
    have hl : i.toNat < l.length := by omega
    subst hp
    simp [execOp, h.eval hx, h.eval hy, S, run_index_string w t _ k i hu, h0, h1']
    simp [hl]; rfl) (q (byte_rng _))
theorem s_index {p : Nat} (hx : ev L x = some (S l)) (hy : ev L y = some (.int k i)) (hu : P.underlying t = some .string) (hp : i.toNat = p) (hn : Nat.blt d n = true) (q : 0 ≤ ((l.getD p 0).toNat : Int) ∧ ((l.getD p 0).toNat : Int) ≤ 255 → WL P ops Q rest n ds w ((d, .int .u8 ((l.getD p 0).toNat : Int)) :: L)) (h0 : 0 ≤ i := by omega) (h1 : i < l.length := by omega) : WL P ops Q (⟨some d, .index t x y, ty, pos, after, none⟩ :: rest) n ds w L := fun a h => st_index h hx hy hu q (h0 := h0) (h1 := h1) (hp := hp) (hn := hn) -- short
theorem ext_list (l : List UInt8) (lo hi : Nat) : (ByteArray.mk l.toArray).extract lo hi = ⟨((l.take hi).drop lo).toArray⟩ := by
 apply ByteArray.ext
 rw [ByteArray.data_extract]
 apply Array.ext'
 simp [List.drop_take]
theorem st_ss_lh {p p' : Nat} (h : AgM ds a n L) (hx : ev L x = some (S l)) (hy : ev L y = some (.int k i)) (hz : ev L z = some (.int k' j)) (hu : P.underlying t = some .string) (h0 : 0 ≤ i) (h1 : i ≤ j) (h2 : j ≤ l.length) (hp : i.toNat = p) (hp' : j.toNat = p') (hn : Nat.blt d n = true)
    (q : ∀ a, AgM ds a n ((d, S ((l.take p').drop p)) :: L) → wpList P ops Q rest a w) : wpList P ops Q (⟨some d, .slice t x (some y) (some z) none, ty, pos, after, none⟩ :: rest) a w :=
  st_ok h rfl rfl hn (by
    have hs : j ≤ ((ByteArray.mk l.toArray).size : Nat) := by simpa [ByteArray.size] using h2
    subst hp hp'
    have hr := run_slice_string (P := P) w t ⟨l.toArray⟩ k k' i j hu h0 h1 hs
    rw [ext_list] at hr
    simp [execOp, h.eval hx, h.eval hy, h.eval hz, S, run_sliceAt_string w t _ _ _ _ hu, hr]) q
theorem s_ss_lh {p p' : Nat} (hx : ev L x = some (S l)) (hy : ev L y = some (.int k i)) (hz : ev L z = some (.int k' j)) (hu : P.underlying t = some .string) (hp : i.toNat = p) (hp' : j.toNat = p') (q : WL P ops Q rest n ds w ((d, S ((l.take p').drop p)) :: L)) (h0 : 0 ≤ i := by omega) (h1 : i ≤ j := by omega) (h2 : j ≤ l.length := by simp only [List.length_cons, List.length_nil]; omega) (hn : Nat.blt d n = true := by exact rfl) : WL P ops Q (⟨some d, .slice t x (some y) (some z) none, ty, pos, after, none⟩ :: rest) n ds w L := fun a h => st_ss_lh h hx hy hz hu h0 h1 h2 hp hp' hn q -- short
theorem st_ss_l {p : Nat} (h : AgM ds a n L) (hx : ev L x = some (S l)) (hy : ev L y = some (.int k i)) (hu : P.underlying t = some .string) (h0 : 0 ≤ i) (h1 : i ≤ l.length) (hp : i.toNat = p) (hn : Nat.blt d n = true)
    (q : ∀ a, AgM ds a n ((d, S (l.drop p)) :: L) → wpList P ops Q rest a w) : wpList P ops Q (⟨some d, .slice t x (some y) none none, ty, pos, after, none⟩ :: rest) a w :=
  st_ok h rfl rfl hn (by
    have hs : i ≤ ((ByteArray.mk l.toArray).size : Nat) := by simpa [ByteArray.size] using h1
    subst hp
    have hr := run_slice_string_l (P := P) w t ⟨l.toArray⟩ hu k i h0 hs
    rw [ext_list, List.take_of_length_le (by simp [ByteArray.size])] at hr
    simp [execOp, h.eval hx, h.eval hy, S, run_sliceAt_string w t _ _ _ _ hu, hr]) q
theorem s_ss_l {p : Nat} (hx : ev L x = some (S l)) (hy : ev L y = some (.int k i)) (hu : P.underlying t = some .string) (hp : i.toNat = p) (hn : Nat.blt d n = true) (q : WL P ops Q rest n ds w ((d, S (l.drop p)) :: L)) (h0 : 0 ≤ i := by omega) (h1 : i ≤ l.length := by omega) : WL P ops Q (⟨some d, .slice t x (some y) none none, ty, pos, after, none⟩ :: rest) n ds w L := fun a h => st_ss_l h hx hy hu h0 h1 hp hn q -- short
theorem st_ss_h {p : Nat} (h : AgM ds a n L) (hx : ev L x = some (S l)) (hz : ev L z = some (.int k' j)) (hu : P.underlying t = some .string) (h0 : 0 ≤ j) (h2 : j ≤ l.length) (hp : j.toNat = p) (hn : Nat.blt d n = true)
    (q : ∀ a, AgM ds a n ((d, S (l.take p)) :: L) → wpList P ops Q rest a w) : wpList P ops Q (⟨some d, .slice t x none (some z) none, ty, pos, after, none⟩ :: rest) a w :=
  st_ok h rfl rfl hn (by
    have hs : j ≤ ((ByteArray.mk l.toArray).size : Nat) := by simpa [ByteArray.size] using h2
    subst hp
    have hr := run_slice_string_h (P := P) w t ⟨l.toArray⟩ hu k' j h0 hs
    rw [ext_list, List.drop_zero] at hr
    simp [execOp, h.eval hx, h.eval hz, S, run_sliceAt_string w t _ _ _ _ hu, hr]) q
theorem s_ss_h {p : Nat} (hx : ev L x = some (S l)) (hz : ev L z = some (.int k' j)) (hu : P.underlying t = some .string) (hp : j.toNat = p) (hn : Nat.blt d n = true) (q : WL P ops Q rest n ds w ((d, S (l.take p)) :: L)) (h0 : 0 ≤ j := by omega) (h2 : j ≤ l.length := by omega) : WL P ops Q (⟨some d, .slice t x none (some z) none, ty, pos, after, none⟩ :: rest) n ds w L := fun a h => st_ss_h h hx hz hu h0 h2 hp hn q -- short
theorem st_adds (h : AgM ds a n L) (hx : ev L x = some (S l)) (hy : ev L y = some (S l')) (hb : l.length + l'.length ≤ 9223372036854775807) (hn : Nat.blt d n = true)
    (q : ∀ a, AgM ds a n ((d, S (l ++ l')) :: L) → wpList P ops Q rest a w) : wpList P ops Q (⟨some d, .binOp .add t x y t', ty, pos, after, none⟩ :: rest) a w :=
  st_ok h rfl rfl hn (by
    have hr := run_string_add_sum (P := P) w ⟨l.toArray⟩ ⟨l'.toArray⟩ (by simpa [ByteArray.size] using hb)
    rw [ByteArray.mk_append_mk] at hr
    simp [execOp, h.eval hx, h.eval hy, S, eqGuard_add, binOp_string_add, hr]) q
theorem s_adds (hx : ev L x = some (S l)) (hy : ev L y = some (S l')) (q : WL P ops Q rest n ds w ((d, S (l ++ l')) :: L)) (hb : l.length + l'.length ≤ 9223372036854775807 := by simp only [List.length_append, List.length_cons, List.length_nil]; omega) (hn : Nat.blt d n = true := by exact rfl) : WL P ops Q (⟨some d, .binOp .add t x y t', ty, pos, after, none⟩ :: rest) n ds w L := fun a h => st_adds h hx hy hb hn q -- short
theorem st_eqs (h : AgM ds a n L) (hx : ev L x = some (S l)) (hy : ev L y = some (S l')) (hn : Nat.blt d n = true)
    (q : ∀ a, AgM ds a n ((d, .bool (decide (l = l'))) :: L) → wpList P ops Q rest a w) : wpList P ops Q (⟨some d, .binOp .eql t x y t', ty, pos, after, none⟩ :: rest) a w :=
  st_ok h rfl rfl hn (by simp [execOp, h.eval hx, h.eval hy, S, eqGuard_at_string, binOp_string_eql]; by_cases e : l = l' <;> simp [e]) q
theorem s_eqs (hx : ev L x = some (S l)) (hy : ev L y = some (S l')) (q : WL P ops Q rest n ds w ((d, .bool (decide (l = l'))) :: L)) (hn : Nat.blt d n = true := by exact rfl) : WL P ops Q (⟨some d, .binOp .eql t x y t', ty, pos, after, none⟩ :: rest) n ds w L := fun a h => st_eqs h hx hy hn q -- short
theorem st_nes (h : AgM ds a n L) (hx : ev L x = some (S l)) (hy : ev L y = some (S l')) (hn : Nat.blt d n = true)
    (q : ∀ a, AgM ds a n ((d, .bool (decide (l ≠ l'))) :: L) → wpList P ops Q rest a w) : wpList P ops Q (⟨some d, .binOp .neq t x y t', ty, pos, after, none⟩ :: rest) a w :=
  st_ok h rfl rfl hn (by simp [execOp, h.eval hx, h.eval hy, S, eqGuard_at_string, binOp_string_neq]; by_cases e : l = l' <;> simp [e]) q
theorem s_nes (hx : ev L x = some (S l)) (hy : ev L y = some (S l')) (q : WL P ops Q rest n ds w ((d, .bool (decide (l ≠ l'))) :: L)) (hn : Nat.blt d n = true := by exact rfl) : WL P ops Q (⟨some d, .binOp .neq t x y t', ty, pos, after, none⟩ :: rest) n ds w L := fun a h => st_nes h hx hy hn q -- short
theorem st_lts (h : AgM ds a n L) (hx : ev L x = some (S l)) (hy : ev L y = some (S l')) (hn : Nat.blt d n = true)
    (q : ∀ a, AgM ds a n ((d, .bool (Op.bytesLess l l')) :: L) → wpList P ops Q rest a w) : wpList P ops Q (⟨some d, .binOp .lss t x y t', ty, pos, after, none⟩ :: rest) a w :=
  st_ok h rfl rfl hn (by simp [execOp, h.eval hx, h.eval hy, S, eqGuard_lss, binOp_string_lss]) q
theorem s_lts (hx : ev L x = some (S l)) (hy : ev L y = some (S l')) (hn : Nat.blt d n = true) (q : WL P ops Q rest n ds w ((d, .bool (Op.bytesLess l l')) :: L)) : WL P ops Q (⟨some d, .binOp .lss t x y t', ty, pos, after, none⟩ :: rest) n ds w L := fun a h => st_lts h hx hy hn q -- short
variable {A : Option Addr} {m cp : Nat}
theorem st_lenS (h : AgM ds a n L) (hx : ev L x = some (.slice A m cp)) (hu : P.underlying t = some (.slice T)) (hn : Nat.blt d n = true) (q : ∀ a, AgM ds a n ((d, .int .i64 (m : Int)) :: L) → wpList P ops Q rest a w) :
    wpList P ops Q (⟨some d, .call ⟨.builtin .len, #[x], #[t]⟩, ty, pos, after, none⟩ :: rest) a w :=
  st_ok h rfl rfl hn (by
    rw [exec_builtin]; unfold builtin
    simp [h.eval hx, Builtin.len_, run_underlying hu]
    rfl) q
theorem lnS (hx : ev L x = some (.slice A m cp)) (hu : P.underlying t = some (.slice T)) (q : WL P ops Q rest n ds w ((d, .int .i64 (m : Int)) :: L)) (hn : Nat.blt d n = true := by exact rfl) : WL P ops Q (⟨some d, .call ⟨.builtin .len, #[x], #[t]⟩, ty, pos, after, none⟩ :: rest) n ds w L := fun a h => st_lenS h hx hu hn q -- short
theorem st_idx {p : Nat} {α : Type} {E : Enc α} {ys : List α} {e : α} {bytes : Nat} (h : AgM ds a n L) (hx : ev L x = some v) (hy : ev L y = some (.int k i)) (hs : Sl E w v ys) (he : ElemOf P t T E bytes) (hp : i.toNat = p) (hi : ys[p]? = some e) (hn : Nat.blt d n = true) (q : ∀ ad, Cells w ad (E.enc e) → ∀ a, AgM ds a n ((d, .pointer (some ad)) :: L) → wpList P ops Q rest a w) (h0 : 0 ≤ i := by omega) : wpList P ops Q (⟨some d, .indexAddr t x y, ty, pos, after, none⟩ :: rest) a w := by
  obtain ⟨A, c, rfl, h1, h2, h3⟩ := hs
  subst hp
  obtain ⟨ad, rfl, hc⟩ := h3 _ _ hi
  obtain ⟨inf, zv, hin, _, hsz, _⟩ := he.info
  have hlt : i.toNat < ys.length := (List.getElem?_eq_some_iff.1 hi).1
  have hlt' : i < (ys.length : Int) := by omega
  exact st_ok h rfl rfl hn (by simp [execOp, h.eval hx, h.eval hy, Instr.indexAt, asIntOf, run_underlying he.und, h0, hlt', sizeOf, typeInfo, hin, hsz]) (q _ hc)
theorem st_sl_h {p : Nat} {α : Type} {E : Enc α} {bytes : Nat} (h : AgM ds a n L) (hx : ev L x = some (.slice A m cp)) (hz : ev L z = some (.int k' j)) (he : ElemOf P t T E bytes) (h0 : 0 ≤ j) (h2 : j ≤ cp) (hp : j.toNat = p) (hn : Nat.blt d n = true)
    (q : ∀ a, AgM ds a n ((d, .slice A p cp) :: L) → wpList P ops Q rest a w) : wpList P ops Q (⟨some d, .slice t x none (some z) none, ty, pos, after, none⟩ :: rest) a w := by
  subst hp
  obtain ⟨inf, zv, hin, _, hsz, _⟩ := he.info
  exact st_ok h rfl rfl hn (by
    have hA : Option.map (fun x => Addr.add x 0) A = A := by cases A <;> simp [Addr.add]
    simp [execOp, h.eval hx, h.eval hz, Instr.sliceAt, Instr.slice, run_underlying he.und, Instr.sliceBounds, Instr.sliceBound, asIntOf, h0, h2, sizeOf, typeInfo, hin, hA]) q
theorem s_sl_h {p : Nat} {α : Type} {E : Enc α} {bytes : Nat} (hx : ev L x = some (.slice A m cp)) (hz : ev L z = some (.int k' j)) (he : ElemOf P t T E bytes) (h0 : 0 ≤ j) (h2 : j ≤ cp) (hp : j.toNat = p) (hn : Nat.blt d n = true) (q : WL P ops Q rest n ds w ((d, .slice A p cp) :: L)) : WL P ops Q (⟨some d, .slice t x none (some z) none, ty, pos, after, none⟩ :: rest) n ds w L := fun a h => st_sl_h h hx hz he h0 h2 hp hn q -- short
theorem st_sl_l {p : Nat} {α : Type} {E : Enc α} {bytes : Nat} (h : AgM ds a n L) (hx : ev L x = some (.slice A m cp)) (hy : ev L y = some (.int k i)) (he : ElemOf P t T E bytes) (h0 : 0 ≤ i) (h1 : i ≤ m) (hp : i.toNat = p) (hn : Nat.blt d n = true)
    (q : ∀ a, AgM ds a n ((d, .slice (if cp = p then A else A.map (·.add (p * E.sz))) (m - p) (cp - p)) :: L) → wpList P ops Q rest a w) : wpList P ops Q (⟨some d, .slice t x (some y) none none, ty, pos, after, none⟩ :: rest) a w := by
  subst hp
  obtain ⟨inf, zv, hin, _, hsz, _⟩ := he.info
  exact st_ok h rfl rfl hn (by
    simp [execOp, h.eval hx, h.eval hy, Instr.sliceAt, Instr.slice, run_underlying he.und, Instr.sliceBounds, Instr.sliceBound, asIntOf, h0, h1, sizeOf, typeInfo, hin, hsz]) q
theorem s_sl_l {p : Nat} {α : Type} {E : Enc α} {bytes : Nat} (hx : ev L x = some (.slice A m cp)) (hy : ev L y = some (.int k i)) (he : ElemOf P t T E bytes) (h0 : 0 ≤ i) (h1 : i ≤ m) (hp : i.toNat = p) (hn : Nat.blt d n = true) (q : WL P ops Q rest n ds w ((d, .slice (if cp = p then A else A.map (·.add (p * E.sz))) (m - p) (cp - p)) :: L)) : WL P ops Q (⟨some d, .slice t x (some y) none none, ty, pos, after, none⟩ :: rest) n ds w L := fun a h => st_sl_l h hx hy he h0 h1 hp hn q -- short
theorem st_sl_lh {p p' : Nat} {α : Type} {E : Enc α} {bytes : Nat} (h : AgM ds a n L) (hx : ev L x = some (.slice A m cp)) (hy : ev L y = some (.int k i)) (hz : ev L z = some (.int k' j)) (he : ElemOf P t T E bytes) (h0 : 0 ≤ i) (h1 : i ≤ j) (h2 : j ≤ cp) (hp : i.toNat = p) (hp' : j.toNat = p') (hn : Nat.blt d n = true)
    (q : ∀ a, AgM ds a n ((d, .slice (if cp = p then A else A.map (·.add (p * E.sz))) (p' - p) (cp - p)) :: L) → wpList P ops Q rest a w) : wpList P ops Q (⟨some d, .slice t x (some y) (some z) none, ty, pos, after, none⟩ :: rest) a w := by
  subst hp hp'
  obtain ⟨inf, zv, hin, _, hsz, _⟩ := he.info
  exact st_ok h rfl rfl hn (by
    have h3 : 0 ≤ j := by omega
    have h4 : i ≤ ((j.toNat : Nat) : Int) := by omega
    simp [execOp, h.eval hx, h.eval hy, h.eval hz, Instr.sliceAt, Instr.slice, run_underlying he.und, Instr.sliceBounds, Instr.sliceBound, asIntOf, h0, h2, h3, h4, sizeOf, typeInfo, hin, hsz]
    intro hc; omega) q
theorem s_sl_lh {p p' : Nat} {α : Type} {E : Enc α} {bytes : Nat} (hx : ev L x = some (.slice A m cp)) (hy : ev L y = some (.int k i)) (hz : ev L z = some (.int k' j)) (he : ElemOf P t T E bytes) (h0 : 0 ≤ i) (h1 : i ≤ j) (h2 : j ≤ cp) (hp : i.toNat = p) (hp' : j.toNat = p') (hn : Nat.blt d n = true) (q : WL P ops Q rest n ds w ((d, .slice (if cp = p then A else A.map (·.add (p * E.sz))) (p' - p) (cp - p)) :: L)) : WL P ops Q (⟨some d, .slice t x (some y) (some z) none, ty, pos, after, none⟩ :: rest) n ds w L := fun a h => st_sl_lh h hx hy hz he h0 h1 h2 hp hp' hn q -- short
theorem st_sl_hm {p p' : Nat} {α : Type} {E : Enc α} {bytes : Nat} {o : Operand} {k'' : IntKind} {r : Int} (h : AgM ds a n L) (hx : ev L x = some (.slice A m cp)) (hz : ev L z = some (.int k' j)) (ho : ev L o = some (.int k'' r)) (he : ElemOf P t T E bytes) (h0 : 0 ≤ j) (h1 : j ≤ r) (h2 : r ≤ cp) (hp : j.toNat = p) (hp' : r.toNat = p') (hn : Nat.blt d n = true)
    (q : ∀ a, AgM ds a n ((d, .slice A p p') :: L) → wpList P ops Q rest a w) : wpList P ops Q (⟨some d, .slice t x none (some z) (some o), ty, pos, after, none⟩ :: rest) a w := by
  subst hp hp'
  obtain ⟨inf, zv, hin, _, hsz, _⟩ := he.info
  exact st_ok h rfl rfl hn (by
    have h3 : 0 ≤ r := by omega
    have h4 : j ≤ ((r.toNat : Nat) : Int) := by omega
    have hA : Option.map (fun x => Addr.add x 0) A = A := by cases A <;> simp [Addr.add]
    simp [execOp, h.eval hx, h.eval hz, h.eval ho, Instr.sliceAt, Instr.slice, run_underlying he.und, Instr.sliceBounds, Instr.sliceBound, asIntOf, h0, h2, h3, h4, sizeOf, typeInfo, hin, hA]
    intro hc; omega) q
theorem s_sl_hm {p p' : Nat} {α : Type} {E : Enc α} {bytes : Nat} {o : Operand} {k'' : IntKind} {r : Int} (hx : ev L x = some (.slice A m cp)) (hz : ev L z = some (.int k' j)) (ho : ev L o = some (.int k'' r)) (he : ElemOf P t T E bytes) (hp : j.toNat = p) (hp' : r.toNat = p') (hn : Nat.blt d n = true) (q : WL P ops Q rest n ds w ((d, .slice A p p') :: L)) (h0 : 0 ≤ j := by omega) (h1 : j ≤ r := by omega) (h2 : r ≤ cp := by omega) : WL P ops Q (⟨some d, .slice t x none (some z) (some o), ty, pos, after, none⟩ :: rest) n ds w L := fun a h => st_sl_hm h hx hz ho he h0 h1 h2 hp hp' hn q -- short
def Blk (w : World) (g : Nat) (T : TypeId) (cs : List Value) : Prop := w.heap[g]? = some (.cells cs.toArray T (0, 0))
theorem Blk.lt {g : Nat} {cs : List Value} (h : Blk w g T cs) : g < w.heap.size := (Array.getElem?_eq_some_iff.1 h).1
theorem Blk.cell {g : Nat} {cs : List Value} (h : Blk w g T cs) (o : Nat) : w.cell? ⟨g, o, none⟩ = cs[o]? := by
 rw [cell_of_row w g o cs.toArray T (0, 0) h]; simp
theorem Blk.cells {g : Nat} {cs : List Value} (h : Blk w g T cs) : Cells w ⟨g, 0, none⟩ cs := fun j u hu => by rw [lit_add, Nat.zero_add, h.cell]; exact hu
theorem Blk.fr {g : Nat} {cs : List Value} {S : List Nat} (h : Blk w g T cs) (hf : Fr S w w') (hn : g ∉ S) : Blk w' g T cs := (hf.block g h.lt hn).trans h
theorem Blk.ext {g : Nat} {cs : List Value} (h : Blk w g T cs) (hf : Fr [] w w') : Blk w' g T cs := h.fr hf (by simp)
theorem st_load {ad : Addr} (h : AgM ds a n L) (hx : ev L x = some (.pointer (some ad))) (hc : w.cell? ad = some v) (hg : NotAgg P t) (hn : Nat.blt d n = true) (q : ∀ a, AgM ds a n ((d, v) :: L) → wpList P ops Q rest a w) :
    wpList P ops Q (⟨some d, .load t x, ty, pos, after, none⟩ :: rest) a w :=
  st_ok h rfl rfl hn (by simp [execOp, h.eval hx, Instr.loadAt, Instr.sureAddr, loadVar, hg w, hc]) q
theorem s_load {ad : Addr} (hx : ev L x = some (.pointer (some ad))) (hc : w.cell? ad = some v) (hg : NotAgg P t) (hn : Nat.blt d n = true) (q : WL P ops Q rest n ds w ((d, v) :: L)) : WL P ops Q (⟨some d, .load t x, ty, pos, after, none⟩ :: rest) n ds w L := fun a h => st_load h hx hc hg hn q -- short
theorem st_loadA {ad : Addr} {cs : List Value} (h : AgM ds a n L) (hx : ev L x = some (.pointer (some ad))) (hc : Cells w ad cs) (hg : AggOf P t cs.length) (hn : Nat.blt d n = true) (q : ∀ a, AgM ds a n ((d, .agg cs.toArray) :: L) → wpList P ops Q rest a w) :
    wpList P ops Q (⟨some d, .load t x, ty, pos, after, none⟩ :: rest) a w :=
  st_ok h rfl rfl hn (by simp [execOp, h.eval hx, Instr.loadAt, Instr.sureAddr, loadVar, hg.1 w, hg.2 w, run_loadCells_list w ad cs hc]) q
theorem s_loadA {ad : Addr} {cs : List Value} (hx : ev L x = some (.pointer (some ad))) (hc : Cells w ad cs) (hg : AggOf P t cs.length) (q : WL P ops Q rest n ds w ((d, .agg cs.toArray) :: L)) (hn : Nat.blt d n = true := by exact rfl) : WL P ops Q (⟨some d, .load t x, ty, pos, after, none⟩ :: rest) n ds w L := fun a h => st_loadA h hx hc hg hn q -- short
theorem st_fieldAddr {ad : Addr} {f off : Nat} (h : AgM ds a n L) (hx : ev L x = some (.pointer (some ad))) (hf : FieldAt P t f off) (hn : Nat.blt d n = true) (q : ∀ a, AgM ds a n ((d, .pointer (some (ad.add off))) :: L) → wpList P ops Q rest a w) :
    wpList P ops Q (⟨some d, .fieldAddr t x f, ty, pos, after, none⟩ :: rest) a w :=
  st_ok h rfl rfl hn (by simp [execOp, h.eval hx, hf ad w]) q
theorem fad {ad : Addr} {f off : Nat} (hx : ev L x = some (.pointer (some ad))) (hf : FieldAt P t f off) (q : WL P ops Q rest n ds w ((d, .pointer (some (ad.add off))) :: L)) (hn : Nat.blt d n = true := by exact rfl) : WL P ops Q (⟨some d, .fieldAddr t x f, ty, pos, after, none⟩ :: rest) n ds w L := fun a h => st_fieldAddr h hx hf hn q -- short
theorem st_nilCheck {ad : Addr} (h : AgM ds a n L) (hx : ev L x = some (.pointer (some ad))) (hn : Nat.blt d n = true) (q : ∀ a, AgM ds a n ((d, .pointer (some ad)) :: L) → wpList P ops Q rest a w) :
    wpList P ops Q (⟨some d, .nilCheck x, ty, pos, after, none⟩ :: rest) a w :=
  st_ok h rfl rfl hn (by simp [execOp, h.eval hx]) q
theorem nlc {ad : Addr} (hx : ev L x = some (.pointer (some ad))) (q : WL P ops Q rest n ds w ((d, .pointer (some ad)) :: L)) (hn : Nat.blt d n = true := by exact rfl) : WL P ops Q (⟨some d, .nilCheck x, ty, pos, after, none⟩ :: rest) n ds w L := fun a h => st_nilCheck h hx hn q -- short
theorem st_store {g o : Nat} {cs : List Value} (h : AgM ds a n L) (hx : ev L x = some (.pointer (some ⟨g, o, none⟩))) (hy : ev L y = some v) (hb : Blk w g T cs) (ho : Nat.blt o cs.length = true) (h1 : v.oneCell' = true) (hc : v.cells = #[v]) (hs : SizeOf P t 1)
    (q : ∀ w', Blk w' g T (cs.set o v) → Fr [g] w w' → w'.heap.size = w.heap.size → ∀ a, AgM ds a n L → wpList P ops Q rest a w') : wpList P ops Q (⟨none, .store t x y, ty, pos, after, none⟩ :: rest) a w := by
  have ho' : o < cs.length := by simpa [Nat.blt_eq] using ho
  have hcell : w.cell? ⟨g, o, none⟩ = some cs[o] := by rw [hb.cell, List.getElem?_eq_getElem ho']
  have hfz : w.frozen? ⟨g, o, none⟩ = false := frozen_of_row w g o cs.toArray T hb
  refine st_skip h rfl rfl (w' := w.setCell ⟨g, o, none⟩ v) ?_ (q _ ?_ (Fr.setCell w ⟨g, o, none⟩ v) (by simp))
  · simp [execOp, h.eval hx, h.eval hy, Instr.storeAt, Instr.sureAddr, storeVar, hs w, hc, storeCells, Addr.add_zero', run_store P w _ v _ h1, hcell, hfz]
  · unfold Blk
    rw [heap_setCell_same w g o cs.toArray T v hb]
    simp
theorem st_box {cs : List Value} (h : AgM ds a n L) (hx : ev L x = some v) (hc : v.cells = cs.toArray) (q : ∀ w', Blk w' w.heap.size T cs → Fr [] w w' → w'.heap.size = w.heap.size + 1 → ∀ a, AgM ds a n ((d, .pointer (some ⟨w.heap.size, 0, none⟩)) :: L) → wpList P ops Q rest a w') (hn : Nat.blt d n = true := by exact rfl) :
    wpList P ops Q (⟨some d, .box T x, ty, pos, after, none⟩ :: rest) a w :=
  st_ok h rfl rfl hn (w' := w.alloc (.cells cs.toArray T)) (by simp [execOp, h.eval hx, Instr.box, newVar, newRow, hc]) (q _ (heap_alloc_new w _) (Fr.alloc [] w _) (by simp))
theorem s_box {cs : List Value} (hx : ev L x = some v) (hc : v.cells = cs.toArray) (hn : Nat.blt d n = true) (q : ∀ w', Blk w' w.heap.size T cs → Fr [] w w' → w'.heap.size = w.heap.size + 1 → WL P ops Q rest n ds w' ((d, .pointer (some ⟨w.heap.size, 0, none⟩)) :: L)) : WL P ops Q (⟨some d, .box T x, ty, pos, after, none⟩ :: rest) n ds w L := fun a h => st_box h hx hc q (hn := hn) -- short
theorem st_alloc {cs : List Value} (h : AgM ds a n L) (hz : ∀ w : World, (zeroValue T).run P w = .ok v w) (hc : v.cells = cs.toArray) (q : ∀ w', Blk w' w.heap.size T cs → Fr [] w w' → w'.heap.size = w.heap.size + 1 → ∀ a, AgM ds a n ((d, .pointer (some ⟨w.heap.size, 0, none⟩)) :: L) → wpList P ops Q rest a w') (hn : Nat.blt d n = true := by exact rfl) :
    wpList P ops Q (⟨some d, .alloc T, ty, pos, after, none⟩ :: rest) a w :=
  st_ok h rfl rfl hn (w' := w.alloc (.cells cs.toArray T)) (by simp [execOp, Instr.alloc, hz w, newVar, newRow, hc]) (q _ (heap_alloc_new w _) (Fr.alloc [] w _) (by simp))
theorem s_alloc {cs : List Value} (hz : ∀ w : World, (zeroValue T).run P w = .ok v w) (hc : v.cells = cs.toArray) (hn : Nat.blt d n = true) (q : ∀ w', Blk w' w.heap.size T cs → Fr [] w w' → w'.heap.size = w.heap.size + 1 → WL P ops Q rest n ds w' ((d, .pointer (some ⟨w.heap.size, 0, none⟩)) :: L)) : WL P ops Q (⟨some d, .alloc T, ty, pos, after, none⟩ :: rest) n ds w L := fun a h => st_alloc h hz hc q (hn := hn) -- short
theorem st_extract {vs : Array Value} {m : Nat} (h : AgM ds a n L) (hx : ev L x = some (.tuple vs)) (hm : vs[m]? = some v) (hn : Nat.blt d n = true) (q : ∀ a, AgM ds a n ((d, v) :: L) → wpList P ops Q rest a w) :
    wpList P ops Q (⟨some d, .extract x m, ty, pos, after, none⟩ :: rest) a w :=
  st_ok h rfl rfl hn (by simp [execOp, h.eval hx, Instr.extract, hm]) q
theorem xt {vs : Array Value} {m : Nat} (hx : ev L x = some (.tuple vs)) (hm : vs[m]? = some v) (q : WL P ops Q rest n ds w ((d, v) :: L)) (hn : Nat.blt d n = true := by exact rfl) : WL P ops Q (⟨some d, .extract x m, ty, pos, after, none⟩ :: rest) n ds w L := fun a h => st_extract h hx hm hn q -- short
theorem st_field {f : Nat} (h : AgM ds a n L) (hx : ev L x = some v) (hr : ∀ w : World, (Instr.field t v f).run P w = .ok u w) (hn : Nat.blt d n = true) (q : ∀ a, AgM ds a n ((d, u) :: L) → wpList P ops Q rest a w) :
    wpList P ops Q (⟨some d, .field t x f, ty, pos, after, none⟩ :: rest) a w :=
  st_ok h rfl rfl hn (by simp [execOp, h.eval hx, hr w]) q
theorem s_field {f : Nat} (hx : ev L x = some v) (hr : ∀ w : World, (Instr.field t v f).run P w = .ok u w) (hn : Nat.blt d n = true) (q : WL P ops Q rest n ds w ((d, u) :: L)) : WL P ops Q (⟨some d, .field t x f, ty, pos, after, none⟩ :: rest) n ds w L := fun a h => st_field h hx hr hn q -- short
theorem st_call {f : FuncId} {xs : List Operand} {vs : List Value} {ts : Array TypeId} {Φ : Value → World → Prop} (h : AgM ds a n L) (hx : evs L xs vs) (hf : CallOf P f) (hc : Rets P f vs.toArray w Φ) (q : ∀ v w', Φ v w' → ∀ a, AgM ds a n ((d, v) :: L) → wpList P ops Q rest a w') (hn : Nat.blt d n = true := by exact rfl) : wpList P ops Q (⟨some d, .call ⟨.value (.func f), xs.toArray, ts⟩, ty, pos, after, none⟩ :: rest) a w :=
  st_enter (w' := w) h rfl rfl hn (by
    rw [execOp_call_go]
    simp only [List.map_toArray, h.evals hx, List.append_toArray, List.nil_append, List.append_nil]
    exact hf _ _) hc q
theorem cl {f : FuncId} {xs : List Operand} {vs : List Value} {ts : Array TypeId} {Φ : Value → World → Prop} (hx : evs L xs vs) (hf : CallOf P f) (hc : Rets P f vs.toArray w Φ) (hn : Nat.blt d n = true) (q : ∀ v w', Φ v w' → WL P ops Q rest n ds w' ((d, v) :: L)) : WL P ops Q (⟨some d, .call ⟨.value (.func f), xs.toArray, ts⟩, ty, pos, after, none⟩ :: rest) n ds w L := fun a h => st_call h hx hf hc q (hn := hn) -- short
theorem st_append {α : Type} {E : Enc α} {ys zs : List α} {bytes base : Nat} (h : AgM ds a n L) (hx : ev L x = some u) (hy : ev L y = some v) (ho : Own E T base w u ys) (hs : Sl E w v zs) (he : ElemOf P t T E bytes) (hM : ys.length + zs.length ≤ maxLen) (hb : (ys.length + zs.length) * bytes ≤ 140737488355328) (hbase : base ≤ w.heap.size) (q : ∀ v' w', Own E T base w' v' (ys ++ zs) → Fr (blks u) w w' → (v' = u ∨ blks v' = blks u ∨ blks v' = [w.heap.size]) → ∀ a, AgM ds a n ((d, v') :: L) → wpList P ops Q rest a w') (hn : Nat.blt d n = true := by exact rfl) :
    wpList P ops Q (⟨some d, .call ⟨.builtin .append, #[x, y], #[t, t]⟩, ty, pos, after, none⟩ :: rest) a w := by
  obtain ⟨inf, zv, h1, h2, h3, h4, h5⟩ := he.info
  obtain ⟨v', w', hr, r1, r2, r3⟩ := run_append (P := P) t ty inf zv bytes he.und h1 h2 h3 h4 h5 ho hs hM hb hbase
  refine st_ok h rfl rfl hn (w' := w') ?_ (q v' w' r1 r2 r3)
  rw [exec_builtin]; unfold builtin
  simp only [List.map_toArray, List.map_cons, List.map_nil, h.eval hx, h.eval hy, Sem.run_bind, hr, Result.andThen_ok, Sem.run_pure]
theorem s_append {α : Type} {E : Enc α} {ys zs : List α} {bytes base : Nat} (hx : ev L x = some u) (hy : ev L y = some v) (ho : Own E T base w u ys) (hs : Sl E w v zs) (he : ElemOf P t T E bytes) (q : ∀ v' w', Own E T base w' v' (ys ++ zs) → Fr (blks u) w w' → (v' = u ∨ blks v' = blks u ∨ blks v' = [w.heap.size]) → WL P ops Q rest n ds w' ((d, v') :: L)) (hM : ys.length + zs.length ≤ maxLen := by unfold maxLen; simp only [List.length_cons, List.length_nil]; omega) (hb : (ys.length + zs.length) * bytes ≤ 140737488355328 := by simp only [List.length_cons, List.length_nil]; omega) (hbase : base ≤ w.heap.size := by omega) (hn : Nat.blt d n = true := by exact rfl) : WL P ops Q (⟨some d, .call ⟨.builtin .append, #[x, y], #[t, t]⟩, ty, pos, after, none⟩ :: rest) n ds w L := fun a h => st_append h hx hy ho hs he hM hb hbase q (hn := hn) -- short
theorem Sub.nil : Sub [] L := trivial
theorem Sub.cons {t : Nat} {v : Value} {r : List (Nat × Value)} (h : Lw.look L t = some v) (hr : Sub r L) : Sub ((t, v) :: r) L := ⟨h, hr⟩
theorem argsOk.nil {args : Array Value} : argsOk args [] := trivial
theorem argsOk.cons {args : Array Value} {t : Nat} {v : Value} {r : List (Nat × Value)} (h : args[t]? = some v) (hr : argsOk args r) : argsOk args ((t, v) :: r) := ⟨h, hr⟩
theorem evs_nil : evs L [] [] := trivial
theorem evs_cons {xs : List Operand} {vs : List Value} (h : ev L x = some v) (hr : evs L xs vs) : evs L (x :: xs) (v :: vs) := ⟨h, hr⟩
theorem norm_then {K : Act → World → Prop} (h : K a w) : Exit.then K Q .normal a w := h
theorem norm_blk {id : Nat} (h : Q .normal a w) : Exit.inBlock id Q .normal a w := h
theorem ret_then {K : Act → World → Prop} (h : Q .ret a w) : Exit.then K Q .ret a w := h
theorem ret_blk {id : Nat} (h : Q .ret a w) : Exit.inBlock id Q .ret a w := h
theorem exit_then {K : Act → World → Prop} {id : Nat} (h : Q (.exit id) a w) : Exit.then K Q (.exit id) a w := h
theorem AgM.known {D : Nat} {b b' : Bool} (h : AgM ds a n L) (hb : look L D = some (.bool b)) (e : b = b') : AgM ds a n ((D, .bool b') :: L) :=
 ⟨h.dfr, h.size, fun t v hv => by
  simp only [look] at hv
  by_cases et : D = t
  ·subst et
   simp only [Nat.beq_refl, Bool.cond_true, Option.some.injEq] at hv
   rw [← hv, ← e]; exact h.at_ D _ hb
  rw [beq_no et] at hv; exact h.at_ t v hv⟩
theorem guard_dec {D : Nat} {p G : Prop} {hp : Decidable p} (h : AgM ds a n L) (hb : look L D = some (.bool (decide p))) (ht : p → AgM ds a n ((D, .bool true) :: L) → G) (hf : ¬ p → AgM ds a n ((D, .bool false) :: L) → G) : G := by
 by_cases e : p
 ·exact ht e (h.known hb (by simp [e]))
 exact hf e (h.known hb (by simp [e]))
theorem guard_any {D : Nat} {b : Bool} {G : Prop} (h : AgM ds a n L) (hb : look L D = some (.bool b)) (ht : b = true → AgM ds a n ((D, .bool true) :: L) → G) (hf : b = false → AgM ds a n ((D, .bool false) :: L) → G) : G := by
 cases b
 ·exact hf rfl (h.known hb rfl)
 exact ht rfl (h.known hb rfl)
def BoolEnd (ds : List Nat) (n r : Nat) (C : Prop) [Decidable C] (L' : List (Nat × Value)) (w0 : World) : Exit → Act → World → Prop := fun e a w => e = .normal ∧ w = w0 ∧ AgM ds a n ((r, .bool (decide C)) :: L')
theorem region_bool {id : Nat} {ol : List Oper} {r : Nat} {L' : List (Nat × Value)} (C : Prop) [Decidable C] (h : AgM ds a n L) (hs : Sub L' L) (h1 : wpList P ol.toArray (BoolEnd ds n r C L' w) ol a w) (h2 : ∀ a, AgM ds a n ((r, .bool (decide C)) :: L') → Q .normal a w) :
    (Code.region id ol.toArray false).wp P Q a w :=
  wp_mono (wp_region_lit h1) (by rintro e a w ⟨rfl, rfl, h⟩; exact h2 a h)
theorem bool_end {r : Nat} {L' : List (Nat × Value)} {C : Prop} [Decidable C] {b : Bool} (h : AgM ds a n L) (hr : look L r = some (.bool b)) (hb : b = decide C) (hs : Sub L' L) : BoolEnd ds n r C L' w .normal a w :=
 ⟨rfl, rfl, h.sub ⟨by rw [← hb]; exact hr, hs⟩⟩
theorem bt {C : Prop} {hC : Decidable C} (h : C) : true = decide C := (decide_eq_true h).symm
theorem bf {C : Prop} {hC : Decidable C} (h : ¬ C) : false = decide C := (decide_eq_false h).symm
theorem bi {p C : Prop} {hp : Decidable p} {hC : Decidable C} (h : p ↔ C) : decide p = decide C := decide_eq_decide.2 h
theorem bb {C : Prop} {hC : Decidable C} {b : Bool} (h : b = true ↔ C) : b = decide C := by
 cases b
 ·exact bf (fun c => by have := h.2 c; cases this)
 exact bt (h.1 rfl)
theorem bn {p C : Prop} {hp : Decidable p} {hC : Decidable C} (h : ¬ p ↔ C) : (!decide p) = decide C := by
 by_cases e : p <;> simp [e] at h ⊢ <;> exact h
def Cut {ι : Type} (n : Nat) (L : ι → List (Nat × Value)) (I : ι → World → Prop) (a : Act) (w : World) : Prop := ∃ j, Ag a n (L j) ∧ I j w
end
end Go.Lw
namespace Go.Lw
abbrev Lk (L : List (Nat × Value)) (t : Nat) (v : Value) : Prop := Lw.look L t = some v
section
variable {L r : List (Nat × Value)} {A : Array Value} {t0 : Nat} {v0 : Value} {t1 : Nat} {v1 : Value} {t2 : Nat} {v2 : Value} {t3 : Nat} {v3 : Value} {t4 : Nat} {v4 : Value} {t5 : Nat} {v5 : Value} {t6 : Nat} {v6 : Value} {t7 : Nat} {v7 : Value} {S S1 S2 S3 S4 S5 S6 : List Nat} {a w0 w1 w2 w3 w4 w5 w6 : World}
theorem argsOk.c2 (h0 : A[t0]? = some v0) (h1 : A[t1]? = some v1) : argsOk A [(t0, v0), (t1, v1)] := ⟨h0, h1, trivial⟩
theorem Sub.c2 (h0 : Lk L t0 v0) (h1 : Lk L t1 v1) : Sub [(t0, v0), (t1, v1)] L := ⟨h0, h1, trivial⟩
theorem argsOk.c3 (h0 : A[t0]? = some v0) (h1 : A[t1]? = some v1) (h2 : A[t2]? = some v2) : argsOk A [(t0, v0), (t1, v1), (t2, v2)] := ⟨h0, h1, h2, trivial⟩
theorem Sub.c3 (h0 : Lk L t0 v0) (h1 : Lk L t1 v1) (h2 : Lk L t2 v2) : Sub [(t0, v0), (t1, v1), (t2, v2)] L := ⟨h0, h1, h2, trivial⟩
theorem argsOk.c4 (h0 : A[t0]? = some v0) (h1 : A[t1]? = some v1) (h2 : A[t2]? = some v2) (h3 : A[t3]? = some v3) : argsOk A [(t0, v0), (t1, v1), (t2, v2), (t3, v3)] := ⟨h0, h1, h2, h3, trivial⟩
theorem Sub.c4 (h0 : Lk L t0 v0) (h1 : Lk L t1 v1) (h2 : Lk L t2 v2) (h3 : Lk L t3 v3) : Sub [(t0, v0), (t1, v1), (t2, v2), (t3, v3)] L := ⟨h0, h1, h2, h3, trivial⟩
theorem argsOk.c5 (h0 : A[t0]? = some v0) (h1 : A[t1]? = some v1) (h2 : A[t2]? = some v2) (h3 : A[t3]? = some v3) (h4 : A[t4]? = some v4) : argsOk A [(t0, v0), (t1, v1), (t2, v2), (t3, v3), (t4, v4)] := ⟨h0, h1, h2, h3, h4, trivial⟩
theorem Sub.c5 (h0 : Lk L t0 v0) (h1 : Lk L t1 v1) (h2 : Lk L t2 v2) (h3 : Lk L t3 v3) (h4 : Lk L t4 v4) : Sub [(t0, v0), (t1, v1), (t2, v2), (t3, v3), (t4, v4)] L := ⟨h0, h1, h2, h3, h4, trivial⟩
theorem argsOk.c6 (h0 : A[t0]? = some v0) (h1 : A[t1]? = some v1) (h2 : A[t2]? = some v2) (h3 : A[t3]? = some v3) (h4 : A[t4]? = some v4) (h5 : A[t5]? = some v5) : argsOk A [(t0, v0), (t1, v1), (t2, v2), (t3, v3), (t4, v4), (t5, v5)] := ⟨h0, h1, h2, h3, h4, h5, trivial⟩
theorem Sub.c6 (h0 : Lk L t0 v0) (h1 : Lk L t1 v1) (h2 : Lk L t2 v2) (h3 : Lk L t3 v3) (h4 : Lk L t4 v4) (h5 : Lk L t5 v5) : Sub [(t0, v0), (t1, v1), (t2, v2), (t3, v3), (t4, v4), (t5, v5)] L := ⟨h0, h1, h2, h3, h4, h5, trivial⟩
theorem Sub.c7 (h0 : Lk L t0 v0) (h1 : Lk L t1 v1) (h2 : Lk L t2 v2) (h3 : Lk L t3 v3) (h4 : Lk L t4 v4) (h5 : Lk L t5 v5) (h6 : Lk L t6 v6) : Sub [(t0, v0), (t1, v1), (t2, v2), (t3, v3), (t4, v4), (t5, v5), (t6, v6)] L := ⟨h0, h1, h2, h3, h4, h5, h6, trivial⟩
theorem Sub.c8 (h0 : Lk L t0 v0) (h1 : Lk L t1 v1) (h2 : Lk L t2 v2) (h3 : Lk L t3 v3) (h4 : Lk L t4 v4) (h5 : Lk L t5 v5) (h6 : Lk L t6 v6) (h7 : Lk L t7 v7) : Sub [(t0, v0), (t1, v1), (t2, v2), (t3, v3), (t4, v4), (t5, v5), (t6, v6), (t7, v7)] L := ⟨h0, h1, h2, h3, h4, h5, h6, h7, trivial⟩
theorem Sub.d8 (h0 : Lk L t0 v0) (h1 : Lk L t1 v1) (h2 : Lk L t2 v2) (h3 : Lk L t3 v3) (h4 : Lk L t4 v4) (h5 : Lk L t5 v5) (h6 : Lk L t6 v6) (h7 : Lk L t7 v7) (hr : Sub r L) : Sub ((t0, v0) :: (t1, v1) :: (t2, v2) :: (t3, v3) :: (t4, v4) :: (t5, v5) :: (t6, v6) :: (t7, v7) :: r) L := ⟨h0, h1, h2, h3, h4, h5, h6, h7, hr⟩
theorem Fr.n1 (h : Fr S a w0) (q1 : Fr [] w0 w1) : Fr S a w1 := (h.next q1)
theorem Fr.z1 (h : Fr S a w0) (q1 : Fr S1 w0 w1) (h1 : ∀ k ∈ S1, k < a.heap.size → k ∈ S := by simp<;>omega) : Fr S a w1 := (h.step q1 h1)
theorem Fr.n2 (h : Fr S a w0) (q1 : Fr [] w0 w1) (q2 : Fr [] w1 w2) : Fr S a w2 := ((h.next q1).next q2)
theorem Fr.z2 (h : Fr S a w0) (q1 : Fr S1 w0 w1) (q2 : Fr S2 w1 w2) (h1 : ∀ k ∈ S1, k < a.heap.size → k ∈ S := by simp<;>omega) (h2 : ∀ k ∈ S2, k < a.heap.size → k ∈ S := by simp<;>omega) : Fr S a w2 := ((h.step q1 h1).step q2 h2)
theorem Fr.n3 (h : Fr S a w0) (q1 : Fr [] w0 w1) (q2 : Fr [] w1 w2) (q3 : Fr [] w2 w3) : Fr S a w3 := (((h.next q1).next q2).next q3)
theorem Fr.z3 (h : Fr S a w0) (q1 : Fr S1 w0 w1) (q2 : Fr S2 w1 w2) (q3 : Fr S3 w2 w3) (h1 : ∀ k ∈ S1, k < a.heap.size → k ∈ S := by simp<;>omega) (h2 : ∀ k ∈ S2, k < a.heap.size → k ∈ S := by simp<;>omega) (h3 : ∀ k ∈ S3, k < a.heap.size → k ∈ S := by simp<;>omega) : Fr S a w3 := (((h.step q1 h1).step q2 h2).step q3 h3)
theorem Fr.n4 (h : Fr S a w0) (q1 : Fr [] w0 w1) (q2 : Fr [] w1 w2) (q3 : Fr [] w2 w3) (q4 : Fr [] w3 w4) : Fr S a w4 := ((((h.next q1).next q2).next q3).next q4)
theorem Fr.z4 (h : Fr S a w0) (q1 : Fr S1 w0 w1) (q2 : Fr S2 w1 w2) (q3 : Fr S3 w2 w3) (q4 : Fr S4 w3 w4) (h1 : ∀ k ∈ S1, k < a.heap.size → k ∈ S := by simp<;>omega) (h2 : ∀ k ∈ S2, k < a.heap.size → k ∈ S := by simp<;>omega) (h3 : ∀ k ∈ S3, k < a.heap.size → k ∈ S := by simp<;>omega) (h4 : ∀ k ∈ S4, k < a.heap.size → k ∈ S := by simp<;>omega) : Fr S a w4 := ((((h.step q1 h1).step q2 h2).step q3 h3).step q4 h4)
theorem Fr.n5 (h : Fr S a w0) (q1 : Fr [] w0 w1) (q2 : Fr [] w1 w2) (q3 : Fr [] w2 w3) (q4 : Fr [] w3 w4) (q5 : Fr [] w4 w5) : Fr S a w5 := (((((h.next q1).next q2).next q3).next q4).next q5)
theorem Fr.z5 (h : Fr S a w0) (q1 : Fr S1 w0 w1) (q2 : Fr S2 w1 w2) (q3 : Fr S3 w2 w3) (q4 : Fr S4 w3 w4) (q5 : Fr S5 w4 w5) (h1 : ∀ k ∈ S1, k < a.heap.size → k ∈ S := by simp<;>omega) (h2 : ∀ k ∈ S2, k < a.heap.size → k ∈ S := by simp<;>omega) (h3 : ∀ k ∈ S3, k < a.heap.size → k ∈ S := by simp<;>omega) (h4 : ∀ k ∈ S4, k < a.heap.size → k ∈ S := by simp<;>omega) (h5 : ∀ k ∈ S5, k < a.heap.size → k ∈ S := by simp<;>omega) : Fr S a w5 := (((((h.step q1 h1).step q2 h2).step q3 h3).step q4 h4).step q5 h5)
theorem Fr.n6 (h : Fr S a w0) (q1 : Fr [] w0 w1) (q2 : Fr [] w1 w2) (q3 : Fr [] w2 w3) (q4 : Fr [] w3 w4) (q5 : Fr [] w4 w5) (q6 : Fr [] w5 w6) : Fr S a w6 := ((((((h.next q1).next q2).next q3).next q4).next q5).next q6)
theorem Fr.z6 (h : Fr S a w0) (q1 : Fr S1 w0 w1) (q2 : Fr S2 w1 w2) (q3 : Fr S3 w2 w3) (q4 : Fr S4 w3 w4) (q5 : Fr S5 w4 w5) (q6 : Fr S6 w5 w6) (h1 : ∀ k ∈ S1, k < a.heap.size → k ∈ S := by simp<;>omega) (h2 : ∀ k ∈ S2, k < a.heap.size → k ∈ S := by simp<;>omega) (h3 : ∀ k ∈ S3, k < a.heap.size → k ∈ S := by simp<;>omega) (h4 : ∀ k ∈ S4, k < a.heap.size → k ∈ S := by simp<;>omega) (h5 : ∀ k ∈ S5, k < a.heap.size → k ∈ S := by simp<;>omega) (h6 : ∀ k ∈ S6, k < a.heap.size → k ∈ S := by simp<;>omega) : Fr S a w6 := ((((((h.step q1 h1).step q2 h2).step q3 h3).step q4 h4).step q5 h5).step q6 h6)
end
theorem nfl_ {α : Type} {E : Enc α} {T base g : Nat} {w : World} {v : Value} {ys : List α} (h : Own E T base w v ys) (hg : g < base ∨ w.heap.size ≤ g) : ∀ k ∈ [g], k ∉ blks v := fun k hk hb => by rw [List.mem_singleton] at hk; have := h.blk k hb; omega
theorem dlt {v : Value} {g m : Nat} (h : ∀ k ∈ blks v, k < m) (hg : m ≤ g) : ∀ k ∈ [g], k ∉ blks v := fun k hk hb => by rw [List.mem_singleton] at hk; have := h k hb; omega
theorem mkC {P : Program} {f : FuncId} {fn : Func} (hf : P.funcs[f]? = some fn) (hn : (fn.name == "runtime.NumGoroutine") = false := by kernel_rfl) (hb : fn.body.isNone = false := by kernel_rfl) : CallOf P f := CallOf.mk' hf hn hb
theorem Fr.sp {S S' : List Nat} {a b c : World} (h : Fr S a b) (h' : Fr S' b c) (hS : ∀ k ∈ S', k < a.heap.size → k ∈ S := by simp<;>omega) : Fr S a c := h.step h' hS
theorem i6 {z : Int} (h : -9223372036854775808 ≤ z ∧ z ≤ 9223372036854775807) : IntKind.i64.wrap z = z := IntWalk.i64_in z (by omega)
section
variable {P : Program} {a : Act} {n : Nat} {L : List (Nat × Value)} {ds : List Nat} {w : World} {Q : Exit → Act → World → Prop} {ops : Array Oper} {rest l : List Oper} {o : Oper}
theorem tW (h : AgM ds a n L) (k : WL P ops Q l n ds w L) : wpList P ops Q l a w := k a h
theorem tC {c : Code} (h : AgM ds a n L) (k : CW P Q c n ds w L) : c.wp P Q a w := k a h
theorem kL (L' : List (Nat × Value)) (hs : Sub L' L) (k : WL P ops Q l n ds w L') : WL P ops Q l n ds w L := fun a h => k a (h.sub hs)
theorem kE {y : Code} {Q' : Exit → Act → World → Prop} (k : CW P Q y n ds w L) : WL P ops (Exit.then (y.wp P Q) Q') [] n ds w L := fun a h => wpList_nil (norm_then (k a h))
theorem kQ {x y : Code} (k : CW P (Exit.then (y.wp P Q) Q) x n ds w L) : CW P Q (.seq x y) n ds w L := fun a h => wp_seq (k a h)
theorem kR {id : Nat} (k : WL P l.toArray Q l n ds w L) : CW P Q (.region id l.toArray false) n ds w L := fun a h => wp_region_lit (k a h)
theorem kZ {y : Code} {Q' : Exit → Act → World → Prop} (k : CW P Q y n ds w L) : CW P (Exit.then (y.wp P Q) Q') .skip n ds w L := fun a h => wp_skip (norm_then (k a h))
theorem kB {x : Code} {id : Nat} (k : CW P (Exit.inBlock id Q) x n ds w L) : CW P Q (.block id x) n ds w L := fun a h => wp_block (k a h)
def kAsk (ops : Array Oper) (o : Oper) (n : Nat) (L : List (Nat × Value)) : Option (Value × Bool) :=
 match o.guard with
 | none => none
 | some (j, want) =>
  match ops[j]? with
  | none => none
  | some oj =>
   match oj.dst with
   | none => none
   | some dj => bif Nat.blt dj n then (look L dj).map (fun v => (v, want)) else none
theorem kAsk_spec {v : Value} {want : Bool} (h : kAsk ops o n L = some (v, want)) : ∃ j dj oj, o.guard = some (j, want) ∧ ops[j]? = some oj ∧ oj.dst = some dj ∧ Nat.blt dj n = true ∧ look L dj = some v := by
 unfold kAsk at h
 split at h
 · cases h
 · rename_i j want' hg
   split at h
   · cases h
   · rename_i oj hj
     split at h
     · cases h
     · rename_i dj hd
       cases hb : Nat.blt dj n with
       | false => rw [hb] at h; cases h
       | true =>
         rw [hb] at h
         cases hl : look L dj with
         | none => rw [hl] at h; cases h
         | some u => rw [hl] at h; cases h; exact ⟨j, dj, oj, hg, hj, hd, hb, hl⟩
theorem kY {b : Bool} (hg : kAsk ops o n L = some (.bool b, b)) (k : WL P ops Q ({ o with guard := none } :: rest) n ds w L) : WL P ops Q (o :: rest) n ds w L := by
 obtain ⟨j, dj, oj, h1, h2, h3, h4, h5⟩ := kAsk_spec hg
 exact fun a h => gd_yes h h1 h2 h3 h4 h5 (by cases b <;> rfl) (k a h)
theorem kN {b : Bool} {d : Nat} (hg : kAsk ops o n L = some (.bool b, !b)) (hd : o.dst = some d) (k : WL P ops Q rest n ds w ((d, undef) :: L)) (hn : Nat.blt d n = true := by exact rfl) : WL P ops Q (o :: rest) n ds w L := by
 obtain ⟨j, dj, oj, h1, h2, h3, h4, h5⟩ := kAsk_spec hg
 exact fun a h => gd_no h h1 h2 h3 h4 h5 (by cases b <;> rfl) hd hn k
theorem kS {d : Nat} {want : Bool} (hg : kAsk ops o n L = some (undef, want)) (hd : o.dst = some d) (k : WL P ops Q rest n ds w ((d, undef) :: L)) (hn : Nat.blt d n = true := by exact rfl) : WL P ops Q (o :: rest) n ds w L := by
 obtain ⟨j, dj, oj, h1, h2, h3, h4, h5⟩ := kAsk_spec hg
 exact fun a h => gd_skip h h1 h2 h3 h4 h5 hd hn k
class Sy (b : Bool) (p q : outParam Prop) : Prop where
 t : b = true → p
 f : b = false → q
instance (priority := 100) sy_b (b : Bool) : Sy b (b = true) (b = false) := ⟨id, id⟩
instance (priority := 1000) sy_d (p : Prop) {hp : Decidable p} : Sy (@decide p hp) p (¬ p) := ⟨of_decide_eq_true, of_decide_eq_false⟩
instance (priority := 1100) sy_n (p : Prop) {hp : Decidable p} : Sy (!(@decide p hp)) (¬ p) p := ⟨fun h => by simpa using h, fun h => by simpa using h⟩
theorem cS {c : Operand} {x y : Code} {b : Bool} {p q : Prop} (h : AgM ds a n L) (hc : ev L c = some (.bool b)) [s : Sy b p q] (ht : p → x.wp P Q a w) (hf : q → y.wp P Q a w) : (Code.cond c x y).wp P Q a w := cond_split h hc (fun e => ht (s.t e)) (fun e => hf (s.f e))
theorem gSp {D : Nat} {b : Bool} {p q : Prop} (h : AgM ds a n L) (hb : look L D = some (.bool b)) [s : Sy b p q] {G : Prop} (ht : p → AgM ds a n ((D, .bool true) :: L) → G) (hf : q → AgM ds a n ((D, .bool false) :: L) → G) : G := guard_any h hb (fun e k => ht (s.t e) k) (fun e k => hf (s.f e) k)
end
end Go.Lw

namespace Go.Lw
theorem wnt {P : Program} {ops : Array Oper} {a : Act} {w : World} {Q : Exit → Act → World → Prop} {K : Act → World → Prop} (h : K a w) : wpList P ops (Exit.then K Q) [] a w := wpList_nil (norm_then h)
theorem wsn {P : Program} {a : Act} {w : World} {Q : Exit → Act → World → Prop} {K : Act → World → Prop} (h : K a w) : Code.skip.wp P (Exit.then K Q) a w := wp_skip (norm_then h)
end Go.Lw
namespace Go.Lw
def Sat (pq : Option Nat) (C : World → Prop) (listed : Array Bool) (w : World) : Prop :=
  match pq with
  | none => C w
  | some p => listed.getD p true = false → C w
theorem sat_of {pq : Option Nat} {C : World → Prop} {listed : Array Bool} {w : World} (h : C w) : Sat pq C listed w := by
 unfold Sat; split
 ·exact h
 exact fun _ => h
def wpAnyP (pq : Option Nat) (P : Program) (ops : Array Oper) (Q : Exit → Act → World → Prop) (C : World → Prop) : Nat → Array Bool → Act → World → Prop
  | 0, listed, a, w => Region.ready .any ops listed = [] ∧ Q .normal a w
  | fu + 1, listed, a, w => (Region.ready .any ops listed = [] → Q .normal a w) ∧ ∀ i ∈ Region.ready .any ops listed, wpOp P ops Q i (fun a' w' => Sat pq C (listed.setIfInBounds i true) w' ∧ wpAnyP pq P ops Q C fu (listed.setIfInBounds i true) a' w') a w
def wsetL (i : Nat) : List Oper → List Bool → List Bool
  | [], acc => acc
  | o :: r, acc => wsetL i r (acc ++ [o.after.any (fun e => Region.binds .any e && (Nat.beq e.on i || acc.getD e.on false))])
def wsB (ops : Array Oper) (i m : Nat) : Bool := (wsetL i ops.toList []).getD m false
theorem getD_app_t {acc : List Bool} {b : Bool} {m : Nat} (h : acc.getD m false = true) : (acc ++ [b]).getD m false = true := by
 rcases Nat.lt_or_ge m acc.length with e | e
 ·simp only [List.getD] at h ⊢; rwa [List.getElem?_append_left e]
 simp [List.getD, List.getElem?_eq_none e] at h
theorem wset_mono (i : Nat) : ∀ (r : List Oper) (acc : List Bool) (m : Nat), acc.getD m false = true → (wsetL i r acc).getD m false = true
 | [], _, _, h => h
 | _ :: r, _, m, h => wset_mono i r _ m (getD_app_t h)
theorem wset_why (i : Nat) : ∀ (r : List Oper) (acc : List Bool) (m : Nat), (wsetL i r acc).getD m false = true → acc.getD m false = true ∨ ∃ t o, r[t]? = some o ∧ m = acc.length + t ∧ ∃ e ∈ o.after, Region.binds .any e = true ∧ (e.on = i ∨ (wsetL i r acc).getD e.on false = true)
 | [], _, _, h => .inl h
 | o :: r, acc, m, h => by
  rcases wset_why i r _ m h with h1 | ⟨t, o', h1, h2, e, h3, h4, h5⟩
  ·rcases Nat.lt_trichotomy m acc.length with e | e | e
   ·refine .inl ?_
    simp only [List.getD] at h1 ⊢
    rwa [List.getElem?_append_left e] at h1
   ·subst e
    refine .inr ⟨0, o, rfl, rfl, ?_⟩
    simp only [List.getD, List.getElem?_append_right (Nat.le_refl _), Nat.sub_self, List.getElem?_cons_zero, Option.getD_some] at h1
    obtain ⟨e, he, hb⟩ := Array.any_eq_true'.1 h1
    rw [Bool.and_eq_true, Bool.or_eq_true] at hb
    refine ⟨e, he, hb.1, hb.2.imp Nat.eq_of_beq_eq_true fun h => ?_⟩
    exact wset_mono i r _ _ (getD_app_t h)
   exfalso
   simp only [List.getD] at h1
   rw [List.getElem?_eq_none (by simp; omega)] at h1
   cases h1
  exact .inr ⟨t + 1, o', h1, by rw [List.length_append] at h2; simp at h2; omega, e, h3, h4, h5⟩
theorem wsB_why {ops : Array Oper} {i m : Nat} (h : wsB ops i m = true) : ∃ o, ops[m]? = some o ∧ ∃ e ∈ o.after, Region.binds .any e = true ∧ (e.on = i ∨ wsB ops i e.on = true) := by
 rcases wset_why i _ _ _ h with h | ⟨t, o, h1, h2, r⟩
 ·cases h
 simp at h2; subst h2
 exact ⟨o, by rw [← Array.getElem?_toList]; exact h1, r⟩
def Fre (pq : Option Nat) (ops : Array Oper) (listed : Array Bool) (i : Nat) : Bool :=
  Region.free .any ops listed i && match pq with
  | none => true
  | some p => wsB ops i p && (List.range ops.size).all (fun m => !(wsB ops i m && listed.getD m true))
section
variable {P : Program} {ops : Array Oper} {Q : Exit → Act → World → Prop} {C : World → Prop} {pq : Option Nat}
theorem wpAny_of_P : ∀ (fu : Nat) (listed : Array Bool) (a : Act) (w : World), wpAnyP pq P ops Q C fu listed a w → wpAny P .any ops Q fu listed a w
 | 0, _, _, _, h => h
 | fu + 1, _, _, _, h => ⟨h.1, fun i hi => wpOp_mono (fun a' w' k => wpAny_of_P fu _ a' w' k.2) (h.2 i hi)⟩
theorem P_first {i : Nat} {oi : Oper} {v : Value} (hi : ops[i]? = some oi) (hsel : ∀ (j : Nat) (o : Oper) cs b, ops[j]? = some o → o.op ≠ .select cs b) (hQ : ∀ c a w, Q (.panic c) (a.put oi.dst v) w → Q (.panic c) a w) (hwt : ∀ p, pq = some p → wsB ops i p = true) :
    ∀ (fu : Nat) (listed : Array Bool) (a : Act) (w : World), (∀ j oj, ops[j]? = some oj → j ≠ i → listed.getD j true = false → (∀ e ∈ oj.after, Region.binds .any e = true → e.on ≠ i) → oi.apart ops oj = true) →
      i ∈ Region.ready .any ops listed → (∀ p, pq = some p → ∀ m, wsB ops i m = true → listed.getD m true = false) → YieldsIf P ops C oi v a → C w → wpAnyP pq P ops Q C fu (listed.setIfInBounds i true) (a.put oi.dst v) w → wpAnyP pq P ops Q C (fu + 1) listed a w := by
  intro fu
  induction fu with
  | zero =>
    intro listed a w _ hr _ hy hC H
    refine ⟨fun e => (by rw [e] at hr; cases hr), fun j hj => ?_⟩
    rcases Decidable.em (j = i) with rfl | hne
    · exact hy.wpOp hi hC ⟨sat_of hC, H⟩
    · exact absurd (ready_mono hj hne) (by rw [H.1]; simp)
  | succ fu ih =>
    intro listed a w hfr hr hp hy hC H
    refine ⟨fun e => (by rw [e] at hr; cases hr), fun j hj => ?_⟩
    rcases Decidable.em (j = i) with rfl | hne
    · exact hy.wpOp hi hC ⟨sat_of hC, H⟩
    obtain ⟨hju, oj, hoj, hall⟩ := mem_ready.1 hj
    have flip : ∀ m, listed.getD m true = false → ¬ listed.getD m false = true := fun m hun => by
      rcases Nat.lt_or_ge m listed.size with h | h
      · simp [h] at hun ⊢; exact hun
      · simp [Array.getElem?_eq_none h]
    have hun' := flip i (mem_ready.1 hr).1
    have hno : ∀ e ∈ oj.after, Region.binds .any e = true → e.on ≠ i := fun e he hb heq => hun' (heq ▸ hall e he hb)
    have nw : ∀ p, pq = some p → ∀ m om, ops[m]? = some om → (∀ e ∈ om.after, Region.binds .any e = true → listed.getD e.on false = true) → ¬ wsB ops i m = true := fun p e m om hm hal hw => by
      obtain ⟨o, ho, e', he, hb, h⟩ := wsB_why hw
      rw [hm] at ho; cases ho
      rcases h with h | h
      · exact hun' (h ▸ hal e' he hb)
      · exact flip _ (hp p e _ h) (hal e' he hb)
    have hjw : ∀ p, pq = some p → ¬ wsB ops i j = true := fun p e => nw p e j oj hoj hall
    have hiw : ∀ p, pq = some p → ¬ wsB ops i i = true := fun p e => by
      obtain ⟨_, o, ho, hal⟩ := mem_ready.1 hr
      exact nw p e i o ho hal
    have h2 := wpOp_putIf hoj (hfr j oj hoj hne hju hno) (fun cs b => hsel i oi cs b hi) (fun cs b => hsel j oj cs b hoj) hQ hy (H.2 j (ready_mono hj hne))
    refine wpOp_mono (fun a' w' k => ?_) h2
    have hc' : C w' := by
      have hs := k.2.1
      unfold Sat at hs
      split at hs
      · exact hs
      · rename_i p
        have hpw := hwt p rfl
        refine hs ?_
        have n1 : j ≠ p := fun e => hjw p rfl (by rw [e]; exact hpw)
        have n2 : i ≠ p := fun e => hiw p rfl (by rw (occs := .pos [2]) [e]; exact hpw)
        rw [getD_set_ne true n1, getD_set_ne true n2]
        exact hp p rfl p hpw
    refine ⟨sat_of hc', ih (listed.setIfInBounds j true) a' w' (fun m om hm hmi hmu hmn => hfr m om hm hmi ?_ hmn) (ready_mono hr (Ne.symm hne)) (fun p e m hm => by
      have n1 : j ≠ m := fun e' => hjw p e (by rw [e']; exact hm)
      rw [getD_set_ne true n1]; exact hp p e m hm) k.1 hc' ?_⟩
    · rcases Decidable.em (j = m) with rfl | hjm
      · exact hju
      · rwa [getD_set_ne true hjm] at hmu
    · rw [Array.setIfInBounds_comm _ _ hne]; exact k.2.2
theorem P_take {i : Nat} {oi : Oper} {v : Value} {fu : Nat} {listed : Array Bool} {a : Act} {w : World} (hi : ops[i]? = some oi) (hs : Region.noSelect ops = true) (hf : Fre pq ops listed i = true) (hr : (Region.ready .any ops listed).contains i = true)
    (hQ : ∀ c a w, Q (.panic c) (a.put oi.dst v) w → Q (.panic c) a w) (hy : YieldsIf P ops C oi v a) (hC : C w) (h : wpAnyP pq P ops Q C fu (listed.setIfInBounds i true) (a.put oi.dst v) w) : wpAnyP pq P ops Q C (fu + 1) listed a w := by
  unfold Fre at hf
  rw [Bool.and_eq_true] at hf
  refine P_first hi (Region.noSelect_spec hs) hQ (fun p e => ?_) fu listed a w (Region.free_spec hi hf.1) (by simpa using hr) (fun p e m hm => ?_) hy hC h
  · have := hf.2; subst e; simp only [Bool.and_eq_true] at this; exact this.1
  · have := hf.2; subst e; simp only [Bool.and_eq_true, List.all_eq_true, List.mem_range] at this
    obtain ⟨o, ho, _⟩ := wsB_why hm
    have h2 := this.2 m (Array.getElem?_eq_some_iff.1 ho).1
    rw [hm] at h2; simpa using h2
theorem P_all {rs : List Nat} {fu : Nat} {listed : Array Bool} {a : Act} {w : World} (hr : Region.ready .any ops listed = rs) (hne : rs ≠ [])
    (h : ∀ i ∈ rs, wpOp P ops Q i (fun a' w' => Sat pq C (listed.setIfInBounds i true) w' ∧ wpAnyP pq P ops Q C fu (listed.setIfInBounds i true) a' w') a w) : wpAnyP pq P ops Q C (fu + 1) listed a w :=
  ⟨fun e => absurd (hr.symm.trans e) hne, fun i hi => h i (hr ▸ hi)⟩
theorem P_done {listed : Array Bool} {a : Act} {w : World} (hr : Region.ready .any ops listed = []) (h : Q .normal a w) : ∀ fu, wpAnyP pq P ops Q C fu listed a w
 | 0 => ⟨hr, h⟩
 | _ + 1 => ⟨fun _ => h, by rw [hr]; intro i hi; cases hi⟩
end
end Go.Lw
namespace Go.Lw
open Go.RowKit
section
variable {P : Program} {a : Act} {n : Nat} {L : List (Nat × Value)} {ds : List Nat} {C : World → Prop} {Qa : Act → Prop} {ops : Array Oper} {rest : List Oper} {o : Oper}
theorem qt_ok {d : Nat} {v : Value} (h : AgM ds a n L) (hg : o.guard = none) (hd : o.dst = some d) (hn : Nat.blt d n = true) (hr : ∀ w, C w → (execOp a.eval o).run P w = .ok (.value v) w)
    (k : ∀ a, AgM ds a n ((d, v) :: L) → wpQuiet P ops C Qa rest a) : wpQuiet P ops C Qa (o :: rest) a := by
  unfold wpQuiet
  rw [if_pos (by simp [Region.wanted, hg])]
  refine ⟨v, fun w hw => ?_, ?_⟩
  · unfold Oper.quietAt; rw [hr w hw]; exact ⟨rfl, rfl⟩
  · rw [hd]; exact k _ (h.put hn v)
theorem qt_call {d : Nat} {v : Value} {f : FuncId} {xs : List Operand} {vs : List Value} {ts : Array TypeId} {ty : TypeId} {pos : String} {after : Array Edge} (h : AgM ds a n L) (hx : evs L xs vs) (hf : CallOf P f) (hc : ∀ w, C w → Rets P f vs.toArray w fun u w' => u = v ∧ C w') (hn : Nat.blt d n = true)
    (q : ∀ a, AgM ds a n ((d, v) :: L) → wpQuiet P ops C Qa rest a) : wpQuiet P ops C Qa (⟨some d, .call ⟨.value (.func f), xs.toArray, ts⟩, ty, pos, after, none⟩ :: rest) a := by
  unfold wpQuiet
  rw [if_pos (by simp [Region.wanted])]
  refine ⟨v, fun w hw => ?_, q _ (h.put hn v)⟩
  unfold Oper.quietAt
  rw [execOp_call_go]
  simp only [List.map_toArray, h.evals hx, List.append_toArray, List.nil_append, List.append_nil]
  rw [hf]
  exact ⟨rfl, Calls.mono (hc w hw) fun e w' ⟨u, he, hu, hC⟩ => ⟨by rw [he, hu], hC⟩⟩
theorem qd_no {d j dj : Nat} {oj : Oper} {want b : Bool} (h : AgM ds a n L) (hg : o.guard = some (j, want)) (hj : ops[j]? = some oj) (hdj : oj.dst = some dj) (hnj : Nat.blt dj n = true)
    (hb : look L dj = some (.bool b)) (hne : (b == want) = false) (hd : o.dst = some d) (hn : Nat.blt d n = true)
    (k : ∀ a, AgM ds a n ((d, undef) :: L) → wpQuiet P ops C Qa rest a) : wpQuiet P ops C Qa (o :: rest) a := by
  have hy := yielded_of (ops := ops) h hj hdj hnj hb
  unfold wpQuiet
  rw [if_neg (by simp only [Region.wanted, hg, hy]; simpa using hne), hd]
  exact k _ (h.put hn undef)
theorem qd_yes {j dj : Nat} {oj : Oper} {want b : Bool} (h : AgM ds a n L) (hg : o.guard = some (j, want)) (hj : ops[j]? = some oj) (hdj : oj.dst = some dj) (hnj : Nat.blt dj n = true)
    (hb : look L dj = some (.bool b)) (he : (b == want) = true)
    (k : wpQuiet P ops C Qa ({ o with guard := none } :: rest) a) : wpQuiet P ops C Qa (o :: rest) a := by
  have hy := yielded_of (ops := ops) h hj hdj hnj hb
  unfold wpQuiet at k ⊢
  rw [if_pos (by simp [Region.wanted])] at k
  rw [if_pos (by simp only [Region.wanted, hg, hy]; simpa using he)]
  exact k
theorem region_quiet {id : Nat} {Q : Exit → Act → World → Prop} {w : World} {l : List Oper} (hm : P.follows .mixedOrders = true) (hB : Region.lexB .any l.toArray = true)
    (h : wpQuiet P l.toArray (fun w' => Fr [] w w') (fun a' => ∀ w', Fr [] w w' → Q .normal a' w') l a) : (Code.region id l.toArray true).wp P Q a w :=
  wp_region_quiet (C := fun w' => Fr [] w w') hm hB (Fr.drew [] w) (by simpa using h)
def NormEnd (K : Act → World → Prop) : Exit → Act → World → Prop
  | .normal, a, w => K a w
  | _, _, _ => False
theorem region_heldP (pq : Option Nat) {id : Nat} {Q : Exit → Act → World → Prop} {w : World} {l : List Oper} (C : World → World → Prop) (hm : P.follows .mixedOrders = true)
    (h : ∀ w', Fr [] w w' → wpAnyP pq P l.toArray (NormEnd (Q .normal)) (C w') l.length (Array.replicate l.length false) a w') : (Code.region id l.toArray true).wp P Q a w := by
  refine wp_mono (wp_region_any (Q := NormEnd (Q .normal)) hm (wpAny_of_P (C := C w.drew) _ _ _ _ (by simpa using h _ (Fr.drew [] w)))) ?_
  intro e a w hq
  cases e <;> first | exact hq | exact hq.elim
theorem region_held {id : Nat} {Q : Exit → Act → World → Prop} {w : World} {l : List Oper} (C : World → World → Prop) (hm : P.follows .mixedOrders = true)
 (h : ∀ w', Fr [] w w' → wpAnyP none P l.toArray (NormEnd (Q .normal)) (C w') l.length (Array.replicate l.length false) a w') : (Code.region id l.toArray true).wp P Q a w := region_heldP none C hm h
section
variable {K : Act → World → Prop} {fu : Nat} {listed : Array Bool} {pq : Option Nat} {w : World}
def Wd (ops : Array Oper) (n : Nat) (L : List (Nat × Value)) (G : Option (Nat × Bool)) : Prop := ∀ a ds, AgM ds a n L → ∀ o : Oper, o.guard = G → Region.wanted o (yielded ops a.tmps) = true
theorem wn : Wd ops n L none := fun _ _ _ o ho => by simp [Region.wanted, ho]
theorem hd_ok (ix : Nat) (hsel : Region.noSelect ops = true) (hfr : Fre pq ops listed ix = true) (hre : (Region.ready .any ops listed).contains ix = true) (hC : C w) {d : Nat} {v : Value} (h : AgM ds a n L) (hG : Wd ops n L o.guard) (hix : ops[ix]? = some o) (hd : o.dst = some d) (hn : Nat.blt d n = true)
    (hr : ∀ w, C w → (execOp a.eval o).run P w = .ok (.value v) w) (k : ∀ a, AgM ds a n ((d, v) :: L) → wpAnyP pq P ops (NormEnd K) C fu (listed.setIfInBounds ix true) a w) : wpAnyP pq P ops (NormEnd K) C (fu + 1) listed a w :=
  P_take hix hsel hfr hre (fun _ _ _ h => h) (.inl ⟨hG a ds h o rfl, hr⟩) hC (by rw [hd]; exact k _ (h.put hn v))
theorem hd_one (ix : Nat) (hix : ops[ix]? = some o) (k : wpList P ops (NormEnd fun a' w' => Sat pq C (listed.setIfInBounds ix true) w' ∧ wpAnyP pq P ops (NormEnd K) C fu (listed.setIfInBounds ix true) a' w') [o] a w) (hr : Region.ready .any ops listed = [ix] := by kernel_rfl) :
    wpAnyP pq P ops (NormEnd K) C (fu + 1) listed a w := by
  refine P_all hr (by simp) fun i hi => ?_
  simp at hi; subst hi
  unfold wpOp
  rw [hix]
  unfold wpList at k
  simp only
  split
  · rename_i hw
    rw [if_pos hw] at k
    rcases k with k | ⟨_, _, _, k⟩
    · refine .inl (Oper.wp_mono (fun a w h => h) ?_)
      unfold Oper.wp at k ⊢
      generalize (execOp a.eval o).run P w = r at k ⊢
      cases r with
      | ok nx w' =>
        cases nx <;> simp only [Oper.upon] at k ⊢ <;> first
          | exact k
          | exact Calls.mono k (fun e w'' he => by cases e <;> first | exact he | exact he.elim | (obtain ⟨_, _, he⟩ := he; exact he.elim))
          | exact Rows.mono k (fun _ _ he => he)
      | halt x w' => cases x <;> simp only [Oper.upon] at k ⊢ <;> exact k.elim
    · exact k.elim
  · rename_i hw
    rw [if_neg hw] at k
    exact k
theorem hd_end (h : K a w) (hr : Region.ready .any ops listed = [] := by kernel_rfl) : wpAnyP pq P ops (NormEnd K) C fu listed a w := P_done hr h fu
theorem hd_next {W : Act → World → Prop} (hC : C w) (h : W a w) : wpList P ops (NormEnd fun a' w' => Sat pq C listed w' ∧ W a' w') [] a w := ⟨sat_of hC, h⟩
theorem hd_past {W : Act → World → Prop} {p : Nat} (h : W a w) (hp : listed.getD p true = true := by kernel_rfl) : wpList P ops (NormEnd fun a' w' => Sat (some p) C listed w' ∧ W a' w') [] a w := ⟨fun e => absurd (hp.symm.trans e) (by simp), h⟩
end
variable {d : Nat} {ty : TypeId} {pos : String} {after : Array Edge} {v u : Value} {x y z : Operand} {t t' T : TypeId} {k k' : IntKind} {i j : Int} {b c : Bool} {l l' : List UInt8} {A : Option Addr} {m cp : Nat} {G : Option (Nat × Bool)}
theorem qt_move (h : AgM ds a n L) (hx : ev L x = some v) (hn : Nat.blt d n = true) (q : ∀ a, AgM ds a n ((d, v) :: L) → wpQuiet P ops C Qa rest a) :
    wpQuiet P ops C Qa (⟨some d, .move x, ty, pos, after, none⟩ :: rest) a :=
  qt_ok h rfl rfl hn (fun w _hw => by simp [execOp, h.eval hx]) q
theorem qt_assign (h : AgM ds a n L) (hx : ev L x = some v) (hn : Nat.blt d n = true) (q : ∀ a, AgM ds a n ((d, v) :: L) → wpQuiet P ops C Qa rest a) :
    wpQuiet P ops C Qa (⟨some d, .assign x, ty, pos, after, none⟩ :: rest) a :=
  qt_ok h rfl rfl hn (fun w _hw => by simp [execOp, h.eval hx]) q
theorem qt_pick_t {z : Value} {x1 x2 : Operand} (h : AgM ds a n L) (hx : ev L x = some (.bool b)) (hb : b = true) (hv : ev L x1 = some z) (hn : Nat.blt d n = true) (q : ∀ a, AgM ds a n ((d, z) :: L) → wpQuiet P ops C Qa rest a) :
    wpQuiet P ops C Qa (⟨some d, .pick x x1 x2, ty, pos, after, none⟩ :: rest) a :=
  qt_ok h rfl rfl hn (fun w _hw => by subst hb; simp [execOp, h.eval hx, asBool, h.eval hv]) q
theorem qt_pick_f {z : Value} {x1 x2 : Operand} (h : AgM ds a n L) (hx : ev L x = some (.bool b)) (hb : b = false) (hv : ev L x2 = some z) (hn : Nat.blt d n = true) (q : ∀ a, AgM ds a n ((d, z) :: L) → wpQuiet P ops C Qa rest a) :
    wpQuiet P ops C Qa (⟨some d, .pick x x1 x2, ty, pos, after, none⟩ :: rest) a :=
  qt_ok h rfl rfl hn (fun w _hw => by subst hb; simp [execOp, h.eval hx, asBool, h.eval hv]) q
theorem qt_add {z : Int} (h : AgM ds a n L) (hx : ev L x = some (.int k i)) (hy : ev L y = some (.int k j)) (hz : k.wrap (i + j) = z) (hn : Nat.blt d n = true) (q : ∀ a, AgM ds a n ((d, .int k z) :: L) → wpQuiet P ops C Qa rest a) :
    wpQuiet P ops C Qa (⟨some d, .binOp .add t x y t', ty, pos, after, none⟩ :: rest) a :=
  qt_ok h rfl rfl hn (fun w _hw => by subst hz; simp [execOp, h.eval hx, h.eval hy, eqGuard_add, binOp_add, Op.intArith]) q
theorem qt_sub {z : Int} (h : AgM ds a n L) (hx : ev L x = some (.int k i)) (hy : ev L y = some (.int k j)) (hz : k.wrap (i - j) = z) (hn : Nat.blt d n = true) (q : ∀ a, AgM ds a n ((d, .int k z) :: L) → wpQuiet P ops C Qa rest a) :
    wpQuiet P ops C Qa (⟨some d, .binOp .sub t x y t', ty, pos, after, none⟩ :: rest) a :=
  qt_ok h rfl rfl hn (fun w _hw => by subst hz; simp [execOp, h.eval hx, h.eval hy, eqGuard_sub, binOp_sub, Op.intArith]) q
theorem qt_eq (h : AgM ds a n L) (hx : ev L x = some (.int k i)) (hy : ev L y = some (.int k j)) (hn : Nat.blt d n = true) (q : ∀ a, AgM ds a n ((d, .bool (decide (i = j))) :: L) → wpQuiet P ops C Qa rest a) :
    wpQuiet P ops C Qa (⟨some d, .binOp .eql t x y t', ty, pos, after, none⟩ :: rest) a :=
  qt_ok h rfl rfl hn (fun w _hw => by simp [execOp, h.eval hx, h.eval hy, eqGuard_at_int, binOp_eql, beq_dec]) q
theorem qt_ne (h : AgM ds a n L) (hx : ev L x = some (.int k i)) (hy : ev L y = some (.int k j)) (hn : Nat.blt d n = true) (q : ∀ a, AgM ds a n ((d, .bool (decide (i ≠ j))) :: L) → wpQuiet P ops C Qa rest a) :
    wpQuiet P ops C Qa (⟨some d, .binOp .neq t x y t', ty, pos, after, none⟩ :: rest) a :=
  qt_ok h rfl rfl hn (fun w _hw => by simp [execOp, h.eval hx, h.eval hy, eqGuard_at_int, binOp_neq, bne, beq_dec]) q
theorem qt_le (h : AgM ds a n L) (hx : ev L x = some (.int k i)) (hy : ev L y = some (.int k j)) (hn : Nat.blt d n = true) (q : ∀ a, AgM ds a n ((d, .bool (decide (i ≤ j))) :: L) → wpQuiet P ops C Qa rest a) :
    wpQuiet P ops C Qa (⟨some d, .binOp .leq t x y t', ty, pos, after, none⟩ :: rest) a :=
  qt_ok h rfl rfl hn (fun w _hw => by simp [execOp, h.eval hx, h.eval hy, eqGuard_leq, binOp_leq]) q
theorem qt_gt (h : AgM ds a n L) (hx : ev L x = some (.int k i)) (hy : ev L y = some (.int k j)) (hn : Nat.blt d n = true) (q : ∀ a, AgM ds a n ((d, .bool (decide (j < i))) :: L) → wpQuiet P ops C Qa rest a) :
    wpQuiet P ops C Qa (⟨some d, .binOp .gtr t x y t', ty, pos, after, none⟩ :: rest) a :=
  qt_ok h rfl rfl hn (fun w _hw => by simp [execOp, h.eval hx, h.eval hy, eqGuard_gtr, binOp_gtr]) q
theorem qt_len (h : AgM ds a n L) (hx : ev L x = some (S l)) (hu : P.underlying t = some .string) (hn : Nat.blt d n = true) (q : ∀ a, AgM ds a n ((d, .int .i64 (l.length : Int)) :: L) → wpQuiet P ops C Qa rest a) :
    wpQuiet P ops C Qa (⟨some d, .call ⟨.builtin .len, #[x], #[t]⟩, ty, pos, after, none⟩ :: rest) a :=
  qt_ok h rfl rfl hn (fun w _hw => by
    rw [exec_builtin]; unfold builtin
    simp only [List.map_toArray, List.map_cons, List.map_nil, h.eval hx, S, Sem.run_bind, run_len_string w t _ _ hu, Result.andThen_ok, Sem.run_pure]
    rfl) q
theorem qt_ss_lh {p p' : Nat} (h : AgM ds a n L) (hx : ev L x = some (S l)) (hy : ev L y = some (.int k i)) (hz : ev L z = some (.int k' j)) (hu : P.underlying t = some .string) (h0 : 0 ≤ i) (h1 : i ≤ j) (h2 : j ≤ l.length) (hp : i.toNat = p) (hp' : j.toNat = p') (hn : Nat.blt d n = true)
    (q : ∀ a, AgM ds a n ((d, S ((l.take p').drop p)) :: L) → wpQuiet P ops C Qa rest a) : wpQuiet P ops C Qa (⟨some d, .slice t x (some y) (some z) none, ty, pos, after, none⟩ :: rest) a :=
  qt_ok h rfl rfl hn (fun w _hw => by
    have hs : j ≤ ((ByteArray.mk l.toArray).size : Nat) := by simpa [ByteArray.size] using h2
    subst hp hp'
    have hr := run_slice_string (P := P) w t ⟨l.toArray⟩ k k' i j hu h0 h1 hs
    rw [ext_list] at hr
    simp [execOp, h.eval hx, h.eval hy, h.eval hz, S, run_sliceAt_string w t _ _ _ _ hu, hr]) q
theorem qt_adds (h : AgM ds a n L) (hx : ev L x = some (S l)) (hy : ev L y = some (S l')) (hb : l.length + l'.length ≤ 9223372036854775807) (hn : Nat.blt d n = true)
    (q : ∀ a, AgM ds a n ((d, S (l ++ l')) :: L) → wpQuiet P ops C Qa rest a) : wpQuiet P ops C Qa (⟨some d, .binOp .add t x y t', ty, pos, after, none⟩ :: rest) a :=
  qt_ok h rfl rfl hn (fun w _hw => by
    have hr := run_string_add_sum (P := P) w ⟨l.toArray⟩ ⟨l'.toArray⟩ (by simpa [ByteArray.size] using hb)
    rw [ByteArray.mk_append_mk] at hr
    simp [execOp, h.eval hx, h.eval hy, S, eqGuard_add, binOp_string_add, hr]) q
theorem qt_eqs (h : AgM ds a n L) (hx : ev L x = some (S l)) (hy : ev L y = some (S l')) (hn : Nat.blt d n = true)
    (q : ∀ a, AgM ds a n ((d, .bool (decide (l = l'))) :: L) → wpQuiet P ops C Qa rest a) : wpQuiet P ops C Qa (⟨some d, .binOp .eql t x y t', ty, pos, after, none⟩ :: rest) a :=
  qt_ok h rfl rfl hn (fun w _hw => by simp [execOp, h.eval hx, h.eval hy, S, eqGuard_at_string, binOp_string_eql]; by_cases e : l = l' <;> simp [e]) q
theorem qt_lenS (h : AgM ds a n L) (hx : ev L x = some (.slice A m cp)) (hu : P.underlying t = some (.slice T)) (hn : Nat.blt d n = true) (q : ∀ a, AgM ds a n ((d, .int .i64 (m : Int)) :: L) → wpQuiet P ops C Qa rest a) :
    wpQuiet P ops C Qa (⟨some d, .call ⟨.builtin .len, #[x], #[t]⟩, ty, pos, after, none⟩ :: rest) a :=
  qt_ok h rfl rfl hn (fun w _hw => by
    rw [exec_builtin]; unfold builtin
    simp [h.eval hx, Builtin.len_, run_underlying hu]
    rfl) q
theorem qt_sl_h {p : Nat} {α : Type} {E : Enc α} {bytes : Nat} (h : AgM ds a n L) (hx : ev L x = some (.slice A m cp)) (hz : ev L z = some (.int k' j)) (he : ElemOf P t T E bytes) (h0 : 0 ≤ j) (h2 : j ≤ cp) (hp : j.toNat = p) (hn : Nat.blt d n = true)
    (q : ∀ a, AgM ds a n ((d, .slice A p cp) :: L) → wpQuiet P ops C Qa rest a) : wpQuiet P ops C Qa (⟨some d, .slice t x none (some z) none, ty, pos, after, none⟩ :: rest) a := by
  subst hp
  obtain ⟨inf, zv, hin, _, hsz, _⟩ := he.info
  exact qt_ok h rfl rfl hn (fun w _hw => by
    have hA : Option.map (fun x => Addr.add x 0) A = A := by cases A <;> simp [Addr.add]
    simp [execOp, h.eval hx, h.eval hz, Instr.sliceAt, Instr.slice, run_underlying he.und, Instr.sliceBounds, Instr.sliceBound, asIntOf, h0, h2, sizeOf, typeInfo, hin, hA]) q
theorem qt_sl_l {p : Nat} {α : Type} {E : Enc α} {bytes : Nat} (h : AgM ds a n L) (hx : ev L x = some (.slice A m cp)) (hy : ev L y = some (.int k i)) (he : ElemOf P t T E bytes) (h0 : 0 ≤ i) (h1 : i ≤ m) (hp : i.toNat = p) (hn : Nat.blt d n = true)
    (q : ∀ a, AgM ds a n ((d, .slice (if cp = p then A else A.map (·.add (p * E.sz))) (m - p) (cp - p)) :: L) → wpQuiet P ops C Qa rest a) : wpQuiet P ops C Qa (⟨some d, .slice t x (some y) none none, ty, pos, after, none⟩ :: rest) a := by
  subst hp
  obtain ⟨inf, zv, hin, _, hsz, _⟩ := he.info
  exact qt_ok h rfl rfl hn (fun w _hw => by
    simp [execOp, h.eval hx, h.eval hy, Instr.sliceAt, Instr.slice, run_underlying he.und, Instr.sliceBounds, Instr.sliceBound, asIntOf, h0, h1, sizeOf, typeInfo, hin, hsz]) q
theorem qt_load {ad : Addr} (h : AgM ds a n L) (hx : ev L x = some (.pointer (some ad))) (hc : ∀ w, C w → w.cell? ad = some v) (hg : NotAgg P t) (hn : Nat.blt d n = true) (q : ∀ a, AgM ds a n ((d, v) :: L) → wpQuiet P ops C Qa rest a) :
    wpQuiet P ops C Qa (⟨some d, .load t x, ty, pos, after, none⟩ :: rest) a :=
  qt_ok h rfl rfl hn (fun w _hw => by simp [execOp, h.eval hx, Instr.loadAt, Instr.sureAddr, loadVar, hg w, hc w _hw]) q
theorem qt_loadA {ad : Addr} {cs : List Value} (h : AgM ds a n L) (hx : ev L x = some (.pointer (some ad))) (hc : ∀ w, C w → Cells w ad cs) (hg : AggOf P t cs.length) (hn : Nat.blt d n = true) (q : ∀ a, AgM ds a n ((d, .agg cs.toArray) :: L) → wpQuiet P ops C Qa rest a) :
    wpQuiet P ops C Qa (⟨some d, .load t x, ty, pos, after, none⟩ :: rest) a :=
  qt_ok h rfl rfl hn (fun w _hw => by simp [execOp, h.eval hx, Instr.loadAt, Instr.sureAddr, loadVar, hg.1 w, hg.2 w, run_loadCells_list w ad cs (hc w _hw)]) q
theorem qt_fieldAddr {ad : Addr} {f off : Nat} (h : AgM ds a n L) (hx : ev L x = some (.pointer (some ad))) (hf : FieldAt P t f off) (hn : Nat.blt d n = true) (q : ∀ a, AgM ds a n ((d, .pointer (some (ad.add off))) :: L) → wpQuiet P ops C Qa rest a) :
    wpQuiet P ops C Qa (⟨some d, .fieldAddr t x f, ty, pos, after, none⟩ :: rest) a :=
  qt_ok h rfl rfl hn (fun w _hw => by simp [execOp, h.eval hx, hf ad w]) q
section
variable {K : Act → World → Prop} {fu : Nat} {listed : Array Bool} {pq : Option Nat} {w : World}
theorem hd_move (ix : Nat) (hC : C w) (h : AgM ds a n L) (hG : Wd ops n L G) (hx : ev L x = some v) (hix : ops[ix]? = some ⟨some d, .move x, ty, pos, after, G⟩) (q : ∀ a, AgM ds a n ((d, v) :: L) → wpAnyP pq P ops (NormEnd K) C fu (listed.setIfInBounds ix true) a w) (hsel : Region.noSelect ops = true := by kernel_rfl) (hfr : Fre pq ops listed ix = true := by kernel_rfl) (hre : (Region.ready .any ops listed).contains ix = true := by kernel_rfl) (hn : Nat.blt d n = true := by exact rfl) :
    wpAnyP pq P ops (NormEnd K) C (fu + 1) listed a w :=
  hd_ok ix hsel hfr hre hC h hG hix rfl hn (fun w _hw => by simp [execOp, h.eval hx]) q
theorem hd_add {z : Int} (ix : Nat) (hC : C w) (h : AgM ds a n L) (hG : Wd ops n L G) (hx : ev L x = some (.int k i)) (hy : ev L y = some (.int k j)) (hz : k.wrap (i + j) = z) (hix : ops[ix]? = some ⟨some d, .binOp .add t x y t', ty, pos, after, G⟩) (q : ∀ a, AgM ds a n ((d, .int k z) :: L) → wpAnyP pq P ops (NormEnd K) C fu (listed.setIfInBounds ix true) a w) (hsel : Region.noSelect ops = true := by kernel_rfl) (hfr : Fre pq ops listed ix = true := by kernel_rfl) (hre : (Region.ready .any ops listed).contains ix = true := by kernel_rfl) (hn : Nat.blt d n = true := by exact rfl) :
    wpAnyP pq P ops (NormEnd K) C (fu + 1) listed a w :=
  hd_ok ix hsel hfr hre hC h hG hix rfl hn (fun w _hw => by subst hz; simp [execOp, h.eval hx, h.eval hy, eqGuard_add, binOp_add, Op.intArith]) q
theorem hd_sub {z : Int} (ix : Nat) (hC : C w) (h : AgM ds a n L) (hG : Wd ops n L G) (hx : ev L x = some (.int k i)) (hy : ev L y = some (.int k j)) (hz : k.wrap (i - j) = z) (hix : ops[ix]? = some ⟨some d, .binOp .sub t x y t', ty, pos, after, G⟩) (hn : Nat.blt d n = true) (q : ∀ a, AgM ds a n ((d, .int k z) :: L) → wpAnyP pq P ops (NormEnd K) C fu (listed.setIfInBounds ix true) a w) (hsel : Region.noSelect ops = true := by kernel_rfl) (hfr : Fre pq ops listed ix = true := by kernel_rfl) (hre : (Region.ready .any ops listed).contains ix = true := by kernel_rfl) :
    wpAnyP pq P ops (NormEnd K) C (fu + 1) listed a w :=
  hd_ok ix hsel hfr hre hC h hG hix rfl hn (fun w _hw => by subst hz; simp [execOp, h.eval hx, h.eval hy, eqGuard_sub, binOp_sub, Op.intArith]) q
theorem hd_mul {z : Int} (ix : Nat) (hsel : Region.noSelect ops = true) (hfr : Fre pq ops listed ix = true) (hre : (Region.ready .any ops listed).contains ix = true) (hC : C w) (h : AgM ds a n L) (hG : Wd ops n L G) (hx : ev L x = some (.int k i)) (hy : ev L y = some (.int k j)) (hz : k.wrap (i * j) = z) (hix : ops[ix]? = some ⟨some d, .binOp .mul t x y t', ty, pos, after, G⟩) (hn : Nat.blt d n = true) (q : ∀ a, AgM ds a n ((d, .int k z) :: L) → wpAnyP pq P ops (NormEnd K) C fu (listed.setIfInBounds ix true) a w) :
    wpAnyP pq P ops (NormEnd K) C (fu + 1) listed a w :=
  hd_ok ix hsel hfr hre hC h hG hix rfl hn (fun w _hw => by subst hz; simp [execOp, h.eval hx, h.eval hy, eqGuard_mul, binOp_mul, Op.intArith]) q
theorem hd_quo {z : Int} (ix : Nat) (hsel : Region.noSelect ops = true) (hfr : Fre pq ops listed ix = true) (hre : (Region.ready .any ops listed).contains ix = true) (hC : C w) (h : AgM ds a n L) (hG : Wd ops n L G) (hx : ev L x = some (.int k i)) (hy : ev L y = some (.int k j)) (h0 : j ≠ 0) (hz : k.wrap (i.tdiv j) = z) (hix : ops[ix]? = some ⟨some d, .binOp .quo t x y t', ty, pos, after, G⟩) (hn : Nat.blt d n = true) (q : ∀ a, AgM ds a n ((d, .int k z) :: L) → wpAnyP pq P ops (NormEnd K) C fu (listed.setIfInBounds ix true) a w) :
    wpAnyP pq P ops (NormEnd K) C (fu + 1) listed a w :=
  hd_ok ix hsel hfr hre hC h hG hix rfl hn (fun w _hw => by subst hz; simp [execOp, h.eval hx, h.eval hy, eqGuard_quo, binOp_quo, Op.intDiv, h0]) q
theorem hd_rem {z : Int} (ix : Nat) (hC : C w) (h : AgM ds a n L) (hG : Wd ops n L G) (hx : ev L x = some (.int k i)) (hy : ev L y = some (.int k j)) (hz : i.tmod j = z) (hix : ops[ix]? = some ⟨some d, .binOp .rem t x y t', ty, pos, after, G⟩) (hn : Nat.blt d n = true) (q : ∀ a, AgM ds a n ((d, .int k z) :: L) → wpAnyP pq P ops (NormEnd K) C fu (listed.setIfInBounds ix true) a w) (hsel : Region.noSelect ops = true := by kernel_rfl) (hfr : Fre pq ops listed ix = true := by kernel_rfl) (hre : (Region.ready .any ops listed).contains ix = true := by kernel_rfl) (h0 : j ≠ 0 := by omega) :
    wpAnyP pq P ops (NormEnd K) C (fu + 1) listed a w :=
  hd_ok ix hsel hfr hre hC h hG hix rfl hn (fun w _hw => by subst hz; simp [execOp, h.eval hx, h.eval hy, eqGuard_rem, binOp_rem, Op.intDiv, h0]) q
theorem hd_eq (ix : Nat) (hsel : Region.noSelect ops = true) (hfr : Fre pq ops listed ix = true) (hre : (Region.ready .any ops listed).contains ix = true) (hC : C w) (h : AgM ds a n L) (hG : Wd ops n L G) (hx : ev L x = some (.int k i)) (hy : ev L y = some (.int k j)) (hix : ops[ix]? = some ⟨some d, .binOp .eql t x y t', ty, pos, after, G⟩) (hn : Nat.blt d n = true) (q : ∀ a, AgM ds a n ((d, .bool (decide (i = j))) :: L) → wpAnyP pq P ops (NormEnd K) C fu (listed.setIfInBounds ix true) a w) :
    wpAnyP pq P ops (NormEnd K) C (fu + 1) listed a w :=
  hd_ok ix hsel hfr hre hC h hG hix rfl hn (fun w _hw => by simp [execOp, h.eval hx, h.eval hy, eqGuard_at_int, binOp_eql, beq_dec]) q
theorem hd_ne (ix : Nat) (hC : C w) (h : AgM ds a n L) (hG : Wd ops n L G) (hx : ev L x = some (.int k i)) (hy : ev L y = some (.int k j)) (hix : ops[ix]? = some ⟨some d, .binOp .neq t x y t', ty, pos, after, G⟩) (q : ∀ a, AgM ds a n ((d, .bool (decide (i ≠ j))) :: L) → wpAnyP pq P ops (NormEnd K) C fu (listed.setIfInBounds ix true) a w) (hsel : Region.noSelect ops = true := by kernel_rfl) (hfr : Fre pq ops listed ix = true := by kernel_rfl) (hre : (Region.ready .any ops listed).contains ix = true := by kernel_rfl) (hn : Nat.blt d n = true := by exact rfl) :
    wpAnyP pq P ops (NormEnd K) C (fu + 1) listed a w :=
  hd_ok ix hsel hfr hre hC h hG hix rfl hn (fun w _hw => by simp [execOp, h.eval hx, h.eval hy, eqGuard_at_int, binOp_neq, bne, beq_dec]) q
theorem hd_conv {z : Int} (ix : Nat) (hC : C w) (h : AgM ds a n L) (hG : Wd ops n L G) (hx : ev L x = some (.int k i)) (hs : (P.underlying t).isSome = true) (hd : P.underlying t' = some (.int k')) (hz : k'.wrap i = z) (hix : ops[ix]? = some ⟨some d, .convert t t' x, ty, pos, after, G⟩) (hn : Nat.blt d n = true) (q : ∀ a, AgM ds a n ((d, .int k' z) :: L) → wpAnyP pq P ops (NormEnd K) C fu (listed.setIfInBounds ix true) a w) (hsel : Region.noSelect ops = true := by kernel_rfl) (hfr : Fre pq ops listed ix = true := by kernel_rfl) (hre : (Region.ready .any ops listed).contains ix = true := by kernel_rfl) :
    wpAnyP pq P ops (NormEnd K) C (fu + 1) listed a w :=
  hd_ok ix hsel hfr hre hC h hG hix rfl hn (fun w _hw => by
    obtain ⟨u, hu⟩ := Option.isSome_iff_exists.mp hs
    subst hz; simp [execOp, h.eval hx, convert, run_underlying hu, run_underlying hd, Conv.intToInt]) q
theorem hd_index {p : Nat} (ix : Nat) (hC : C w) (h : AgM ds a n L) (hG : Wd ops n L G) (hx : ev L x = some (S l)) (hy : ev L y = some (.int k i)) (hu : P.underlying t = some .string) (hp : i.toNat = p) (hix : ops[ix]? = some ⟨some d, .index t x y, ty, pos, after, G⟩) (hn : Nat.blt d n = true) (q : 0 ≤ ((l.getD p 0).toNat : Int) ∧ ((l.getD p 0).toNat : Int) ≤ 255 → ∀ a, AgM ds a n ((d, .int .u8 ((l.getD p 0).toNat : Int)) :: L) → wpAnyP pq P ops (NormEnd K) C fu (listed.setIfInBounds ix true) a w) (hsel : Region.noSelect ops = true := by kernel_rfl) (hfr : Fre pq ops listed ix = true := by kernel_rfl) (hre : (Region.ready .any ops listed).contains ix = true := by kernel_rfl) (h0 : 0 ≤ i := by omega) (h1 : i < l.length := by omega) : wpAnyP pq P ops (NormEnd K) C (fu + 1) listed a w :=
  hd_ok ix hsel hfr hre hC h hG hix rfl hn (fun w _hw => by
    have hs : (ByteArray.mk l.toArray).size = l.length := by simp [ByteArray.size]
    have h1' : i < ((ByteArray.mk l.toArray).size : Nat) := by rw [hs]; exact h1
    have hl : i.toNat < l.length := by omega
    subst hp
    simp [execOp, h.eval hx, h.eval hy, S, run_index_string w t _ k i hu, h0, h1']
    simp [hl]; rfl) (q (byte_rng _))
theorem hd_adds (ix : Nat) (hC : C w) (h : AgM ds a n L) (hG : Wd ops n L G) (hx : ev L x = some (S l)) (hy : ev L y = some (S l')) (hix : ops[ix]? = some ⟨some d, .binOp .add t x y t', ty, pos, after, G⟩) (q : ∀ a, AgM ds a n ((d, S (l ++ l')) :: L) → wpAnyP pq P ops (NormEnd K) C fu (listed.setIfInBounds ix true) a w) (hsel : Region.noSelect ops = true := by kernel_rfl) (hfr : Fre pq ops listed ix = true := by kernel_rfl) (hre : (Region.ready .any ops listed).contains ix = true := by kernel_rfl) (hb : l.length + l'.length ≤ 9223372036854775807 := by simp only [List.length_append, List.length_cons, List.length_nil]; omega) (hn : Nat.blt d n = true := by exact rfl) : wpAnyP pq P ops (NormEnd K) C (fu + 1) listed a w :=
  hd_ok ix hsel hfr hre hC h hG hix rfl hn (fun w _hw => by
    have hr := run_string_add_sum (P := P) w ⟨l.toArray⟩ ⟨l'.toArray⟩ (by simpa [ByteArray.size] using hb)
    rw [ByteArray.mk_append_mk] at hr
    simp [execOp, h.eval hx, h.eval hy, S, eqGuard_add, binOp_string_add, hr]) q
theorem hd_nes (ix : Nat) (hC : C w) (h : AgM ds a n L) (hG : Wd ops n L G) (hx : ev L x = some (S l)) (hy : ev L y = some (S l')) (hix : ops[ix]? = some ⟨some d, .binOp .neq t x y t', ty, pos, after, G⟩) (hn : Nat.blt d n = true) (q : ∀ a, AgM ds a n ((d, .bool (decide (l ≠ l'))) :: L) → wpAnyP pq P ops (NormEnd K) C fu (listed.setIfInBounds ix true) a w) (hsel : Region.noSelect ops = true := by kernel_rfl) (hfr : Fre pq ops listed ix = true := by kernel_rfl) (hre : (Region.ready .any ops listed).contains ix = true := by kernel_rfl) : wpAnyP pq P ops (NormEnd K) C (fu + 1) listed a w :=
  hd_ok ix hsel hfr hre hC h hG hix rfl hn (fun w _hw => by simp [execOp, h.eval hx, h.eval hy, S, eqGuard_at_string, binOp_string_neq]; by_cases e : l = l' <;> simp [e]) q
theorem hd_sl_h {p : Nat} {α : Type} {E : Enc α} {bytes : Nat} (ix : Nat) (hC : C w) (h : AgM ds a n L) (hG : Wd ops n L G) (hx : ev L x = some (.slice A m cp)) (hz : ev L z = some (.int k' j)) (he : ElemOf P t T E bytes) (h0 : 0 ≤ j) (h2 : j ≤ cp) (hp : j.toNat = p) (hix : ops[ix]? = some ⟨some d, .slice t x none (some z) none, ty, pos, after, G⟩) (hn : Nat.blt d n = true) (q : ∀ a, AgM ds a n ((d, .slice A p cp) :: L) → wpAnyP pq P ops (NormEnd K) C fu (listed.setIfInBounds ix true) a w) (hsel : Region.noSelect ops = true := by kernel_rfl) (hfr : Fre pq ops listed ix = true := by kernel_rfl) (hre : (Region.ready .any ops listed).contains ix = true := by kernel_rfl) : wpAnyP pq P ops (NormEnd K) C (fu + 1) listed a w := by
  subst hp
  obtain ⟨inf, zv, hin, _, hsz, _⟩ := he.info
  exact hd_ok ix hsel hfr hre hC h hG hix rfl hn (fun w _hw => by
    have hA : Option.map (fun x => Addr.add x 0) A = A := by cases A <;> simp [Addr.add]
    simp [execOp, h.eval hx, h.eval hz, Instr.sliceAt, Instr.slice, run_underlying he.und, Instr.sliceBounds, Instr.sliceBound, asIntOf, h0, h2, sizeOf, typeInfo, hin, hA]) q
theorem hd_sl_l {p : Nat} {α : Type} {E : Enc α} {bytes : Nat} (ix : Nat) (hsel : Region.noSelect ops = true) (hfr : Fre pq ops listed ix = true) (hre : (Region.ready .any ops listed).contains ix = true) (hC : C w) (h : AgM ds a n L) (hG : Wd ops n L G) (hx : ev L x = some (.slice A m cp)) (hy : ev L y = some (.int k i)) (he : ElemOf P t T E bytes) (h0 : 0 ≤ i) (h1 : i ≤ m) (hp : i.toNat = p) (hix : ops[ix]? = some ⟨some d, .slice t x (some y) none none, ty, pos, after, G⟩) (hn : Nat.blt d n = true)
    (q : ∀ a, AgM ds a n ((d, .slice (if cp = p then A else A.map (·.add (p * E.sz))) (m - p) (cp - p)) :: L) → wpAnyP pq P ops (NormEnd K) C fu (listed.setIfInBounds ix true) a w) : wpAnyP pq P ops (NormEnd K) C (fu + 1) listed a w := by
  subst hp
  obtain ⟨inf, zv, hin, _, hsz, _⟩ := he.info
  exact hd_ok ix hsel hfr hre hC h hG hix rfl hn (fun w _hw => by
    simp [execOp, h.eval hx, h.eval hy, Instr.sliceAt, Instr.slice, run_underlying he.und, Instr.sliceBounds, Instr.sliceBound, asIntOf, h0, h1, sizeOf, typeInfo, hin, hsz]) q
theorem hd_sl_lh {p p' : Nat} {α : Type} {E : Enc α} {bytes : Nat} (ix : Nat) (hC : C w) (h : AgM ds a n L) (hG : Wd ops n L G) (hx : ev L x = some (.slice A m cp)) (hy : ev L y = some (.int k i)) (hz : ev L z = some (.int k' j)) (he : ElemOf P t T E bytes) (h0 : 0 ≤ i) (h1 : i ≤ j) (h2 : j ≤ cp) (hp : i.toNat = p) (hp' : j.toNat = p') (hix : ops[ix]? = some ⟨some d, .slice t x (some y) (some z) none, ty, pos, after, G⟩) (hn : Nat.blt d n = true) (q : ∀ a, AgM ds a n ((d, .slice (if cp = p then A else A.map (·.add (p * E.sz))) (p' - p) (cp - p)) :: L) → wpAnyP pq P ops (NormEnd K) C fu (listed.setIfInBounds ix true) a w) (hsel : Region.noSelect ops = true := by kernel_rfl) (hfr : Fre pq ops listed ix = true := by kernel_rfl) (hre : (Region.ready .any ops listed).contains ix = true := by kernel_rfl) : wpAnyP pq P ops (NormEnd K) C (fu + 1) listed a w := by
  subst hp hp'
  obtain ⟨inf, zv, hin, _, hsz, _⟩ := he.info
  exact hd_ok ix hsel hfr hre hC h hG hix rfl hn (fun w _hw => by
    have h3 : 0 ≤ j := by omega
    have h4 : i ≤ ((j.toNat : Nat) : Int) := by omega
    simp [execOp, h.eval hx, h.eval hy, h.eval hz, Instr.sliceAt, Instr.slice, run_underlying he.und, Instr.sliceBounds, Instr.sliceBound, asIntOf, h0, h2, h3, h4, sizeOf, typeInfo, hin, hsz]
    intro hc; omega) q
theorem hd_load {ad : Addr} (ix : Nat) (hsel : Region.noSelect ops = true) (hfr : Fre pq ops listed ix = true) (hre : (Region.ready .any ops listed).contains ix = true) (hC : C w) (h : AgM ds a n L) (hG : Wd ops n L G) (hx : ev L x = some (.pointer (some ad))) (hc : ∀ w, C w → w.cell? ad = some v) (hg : NotAgg P t) (hix : ops[ix]? = some ⟨some d, .load t x, ty, pos, after, G⟩) (hn : Nat.blt d n = true) (q : ∀ a, AgM ds a n ((d, v) :: L) → wpAnyP pq P ops (NormEnd K) C fu (listed.setIfInBounds ix true) a w) :
    wpAnyP pq P ops (NormEnd K) C (fu + 1) listed a w :=
  hd_ok ix hsel hfr hre hC h hG hix rfl hn (fun w _hw => by simp [execOp, h.eval hx, Instr.loadAt, Instr.sureAddr, loadVar, hg w, hc w _hw]) q
theorem hd_loadA {ad : Addr} {cs : List Value} (ix : Nat) (hC : C w) (h : AgM ds a n L) (hG : Wd ops n L G) (hx : ev L x = some (.pointer (some ad))) (hc : ∀ w, C w → Cells w ad cs) (hg : AggOf P t cs.length) (hix : ops[ix]? = some ⟨some d, .load t x, ty, pos, after, G⟩) (hn : Nat.blt d n = true) (q : ∀ a, AgM ds a n ((d, .agg cs.toArray) :: L) → wpAnyP pq P ops (NormEnd K) C fu (listed.setIfInBounds ix true) a w) (hsel : Region.noSelect ops = true := by kernel_rfl) (hfr : Fre pq ops listed ix = true := by kernel_rfl) (hre : (Region.ready .any ops listed).contains ix = true := by kernel_rfl) :
    wpAnyP pq P ops (NormEnd K) C (fu + 1) listed a w :=
  hd_ok ix hsel hfr hre hC h hG hix rfl hn (fun w _hw => by simp [execOp, h.eval hx, Instr.loadAt, Instr.sureAddr, loadVar, hg.1 w, hg.2 w, run_loadCells_list w ad cs (hc w _hw)]) q
theorem hd_fieldAddr {ad : Addr} {f off : Nat} (ix : Nat) (hC : C w) (h : AgM ds a n L) (hG : Wd ops n L G) (hx : ev L x = some (.pointer (some ad))) (hf : FieldAt P t f off) (hix : ops[ix]? = some ⟨some d, .fieldAddr t x f, ty, pos, after, G⟩) (q : ∀ a, AgM ds a n ((d, .pointer (some (ad.add off))) :: L) → wpAnyP pq P ops (NormEnd K) C fu (listed.setIfInBounds ix true) a w) (hsel : Region.noSelect ops = true := by kernel_rfl) (hfr : Fre pq ops listed ix = true := by kernel_rfl) (hre : (Region.ready .any ops listed).contains ix = true := by kernel_rfl) (hn : Nat.blt d n = true := by exact rfl) :
    wpAnyP pq P ops (NormEnd K) C (fu + 1) listed a w :=
  hd_ok ix hsel hfr hre hC h hG hix rfl hn (fun w _hw => by simp [execOp, h.eval hx, hf ad w]) q
theorem hd_nilCheck {ad : Addr} (ix : Nat) (hsel : Region.noSelect ops = true) (hfr : Fre pq ops listed ix = true) (hre : (Region.ready .any ops listed).contains ix = true) (hC : C w) (h : AgM ds a n L) (hG : Wd ops n L G) (hx : ev L x = some (.pointer (some ad))) (hix : ops[ix]? = some ⟨some d, .nilCheck x, ty, pos, after, G⟩) (hn : Nat.blt d n = true) (q : ∀ a, AgM ds a n ((d, .pointer (some ad)) :: L) → wpAnyP pq P ops (NormEnd K) C fu (listed.setIfInBounds ix true) a w) :
    wpAnyP pq P ops (NormEnd K) C (fu + 1) listed a w :=
  hd_ok ix hsel hfr hre hC h hG hix rfl hn (fun w _hw => by simp [execOp, h.eval hx]) q
theorem hd_extract {vs : Array Value} {m : Nat} (ix : Nat) (hC : C w) (h : AgM ds a n L) (hG : Wd ops n L G) (hx : ev L x = some (.tuple vs)) (hm : vs[m]? = some v) (hix : ops[ix]? = some ⟨some d, .extract x m, ty, pos, after, G⟩) (q : ∀ a, AgM ds a n ((d, v) :: L) → wpAnyP pq P ops (NormEnd K) C fu (listed.setIfInBounds ix true) a w) (hsel : Region.noSelect ops = true := by kernel_rfl) (hfr : Fre pq ops listed ix = true := by kernel_rfl) (hre : (Region.ready .any ops listed).contains ix = true := by kernel_rfl) (hn : Nat.blt d n = true := by exact rfl) :
    wpAnyP pq P ops (NormEnd K) C (fu + 1) listed a w :=
  hd_ok ix hsel hfr hre hC h hG hix rfl hn (fun w _hw => by simp [execOp, h.eval hx, Instr.extract, hm]) q
end
theorem qt_idx {α : Type} {E : Enc α} {bytes : Nat} (h : AgM ds a n L) (hx : ev L x = some (.slice A m cp)) (hy : ev L y = some (.int k i)) {ad : Addr} (hA : A = some ad) (he : ElemOf P t T E bytes) (h0 : 0 ≤ i) (hi : i < m) (hn : Nat.blt d n = true)
    (q : ∀ a, AgM ds a n ((d, .pointer (some (ad.add (i.toNat * E.sz)))) :: L) → wpQuiet P ops C Qa rest a) : wpQuiet P ops C Qa (⟨some d, .indexAddr t x y, ty, pos, after, none⟩ :: rest) a := by
  subst hA
  obtain ⟨inf, zv, hin, _, hsz, _⟩ := he.info
  exact qt_ok h rfl rfl hn (fun w _ => by simp [execOp, h.eval hx, h.eval hy, Instr.indexAt, asIntOf, run_underlying he.und, h0, hi, sizeOf, typeInfo, hin, hsz]) q
end
end Go.Lw
namespace Go.Lw
open Go.RowKit
def Enc.b : Enc UInt8 := ⟨fun c => [.int .u8 (c.toNat : Int)], 1, fun _ => rfl, fun _ u h => by simp at h; subst h; rfl, by decide⟩
section
variable {P : Program} {a : Act} {n : Nat} {L : List (Nat × Value)} {ds : List Nat} {w w' : World} {Q : Exit → Act → World → Prop} {C : World → Prop} {Qa : Act → Prop} {ops : Array Oper} {rest : List Oper}
variable {d : Nat} {ty : TypeId} {pos : String} {after : Array Edge} {v u : Value} {x y z : Operand} {t t' T : TypeId} {k k' : IntKind} {i j : Int} {b c : Bool} {l l' : List UInt8} {A : Option Addr} {m cp : Nat} {g off : Nat} {cs : List Value}
theorem Blk.cellAdd (h : Blk w g T cs) (hv : cs[off]? = some v) : w.cell? ((⟨g, 0, none⟩ : Addr).add off) = some v := by rw [lit_add, Nat.zero_add, h.cell]; exact hv
theorem st_loadB (h : AgM ds a n L) (hx : ev L x = some (.pointer (some ((⟨g, 0, none⟩ : Addr).add off)))) (hb : Blk w g T cs) (hv : cs[off]? = some v) (hg : NotAgg P t) (hn : Nat.blt d n = true) (q : ∀ a, AgM ds a n ((d, v) :: L) → wpList P ops Q rest a w) :
 wpList P ops Q (⟨some d, .load t x, ty, pos, after, none⟩ :: rest) a w := st_load h hx (hb.cellAdd hv) hg hn q
theorem s_loadB (hx : ev L x = some (.pointer (some ((⟨g, 0, none⟩ : Addr).add off)))) (hb : Blk w g T cs) (hv : cs[off]? = some v) (hg : NotAgg P t) (q : WL P ops Q rest n ds w ((d, v) :: L)) (hn : Nat.blt d n = true := by exact rfl) : WL P ops Q (⟨some d, .load t x, ty, pos, after, none⟩ :: rest) n ds w L := fun a h => st_loadB h hx hb hv hg hn q -- short
theorem qt_loadB (h : AgM ds a n L) (hx : ev L x = some (.pointer (some ((⟨g, 0, none⟩ : Addr).add off)))) (hb : ∀ w, C w → Blk w g T cs) (hv : cs[off]? = some v) (hg : NotAgg P t) (hn : Nat.blt d n = true) (q : ∀ a, AgM ds a n ((d, v) :: L) → wpQuiet P ops C Qa rest a) :
 wpQuiet P ops C Qa (⟨some d, .load t x, ty, pos, after, none⟩ :: rest) a := qt_load h hx (fun w hw => (hb w hw).cellAdd hv) hg hn q
theorem st_loadB0 (h : AgM ds a n L) (hx : ev L x = some (.pointer (some ⟨g, 0, none⟩))) (hb : Blk w g T [v]) (hg : NotAgg P t) (hn : Nat.blt d n = true) (q : ∀ a, AgM ds a n ((d, v) :: L) → wpList P ops Q rest a w) :
 wpList P ops Q (⟨some d, .load t x, ty, pos, after, none⟩ :: rest) a w := st_load h hx (by rw [hb.cell]; rfl) hg hn q
theorem s_loadB0 (hx : ev L x = some (.pointer (some ⟨g, 0, none⟩))) (hb : Blk w g T [v]) (hg : NotAgg P t) (q : WL P ops Q rest n ds w ((d, v) :: L)) (hn : Nat.blt d n = true := by exact rfl) : WL P ops Q (⟨some d, .load t x, ty, pos, after, none⟩ :: rest) n ds w L := fun a h => st_loadB0 h hx hb hg hn q -- short
theorem qt_loadB0 (h : AgM ds a n L) (hx : ev L x = some (.pointer (some ⟨g, 0, none⟩))) (hb : ∀ w, C w → Blk w g T [v]) (hg : NotAgg P t) (hn : Nat.blt d n = true) (q : ∀ a, AgM ds a n ((d, v) :: L) → wpQuiet P ops C Qa rest a) :
 wpQuiet P ops C Qa (⟨some d, .load t x, ty, pos, after, none⟩ :: rest) a := qt_load h hx (fun w hw => by rw [(hb w hw).cell]; rfl) hg hn q
theorem st_loadBA (h : AgM ds a n L) (hx : ev L x = some (.pointer (some ⟨g, 0, none⟩))) (hb : Blk w g T cs) (hg : AggOf P t cs.length) (hn : Nat.blt d n = true) (q : ∀ a, AgM ds a n ((d, .agg cs.toArray) :: L) → wpList P ops Q rest a w) :
 wpList P ops Q (⟨some d, .load t x, ty, pos, after, none⟩ :: rest) a w := st_loadA h hx hb.cells hg hn q
theorem s_loadBA (hx : ev L x = some (.pointer (some ⟨g, 0, none⟩))) (hb : Blk w g T cs) (hg : AggOf P t cs.length) (q : WL P ops Q rest n ds w ((d, .agg cs.toArray) :: L)) (hn : Nat.blt d n = true := by exact rfl) : WL P ops Q (⟨some d, .load t x, ty, pos, after, none⟩ :: rest) n ds w L := fun a h => st_loadBA h hx hb hg hn q -- short
section
variable {K : Act → World → Prop} {fu : Nat} {listed : Array Bool} {pq : Option Nat}
theorem hd_loadB {G : Option (Nat × Bool)} (ix : Nat) (hC : C w) (h : AgM ds a n L) (hG : Wd ops n L G) (hx : ev L x = some (.pointer (some ((⟨g, 0, none⟩ : Addr).add off)))) (hb : ∀ w, C w → Blk w g T cs) (hv : cs[off]? = some v) (hg : NotAgg P t) (hix : ops[ix]? = some ⟨some d, .load t x, ty, pos, after, G⟩) (q : ∀ a, AgM ds a n ((d, v) :: L) → wpAnyP pq P ops (NormEnd K) C fu (listed.setIfInBounds ix true) a w) (hsel : Region.noSelect ops = true := by kernel_rfl) (hfr : Fre pq ops listed ix = true := by kernel_rfl) (hre : (Region.ready .any ops listed).contains ix = true := by kernel_rfl) (hn : Nat.blt d n = true := by exact rfl) : wpAnyP pq P ops (NormEnd K) C (fu + 1) listed a w :=
  hd_load ix hsel hfr hre hC h hG hx (fun w hw => (hb w hw).cellAdd hv) hg hix hn q
theorem hd_loadBA {G : Option (Nat × Bool)} (ix : Nat) (hC : C w) (h : AgM ds a n L) (hG : Wd ops n L G) (hx : ev L x = some (.pointer (some ⟨g, 0, none⟩))) (hb : ∀ w, C w → Blk w g T cs) (hg : AggOf P t cs.length) (hix : ops[ix]? = some ⟨some d, .load t x, ty, pos, after, G⟩) (q : ∀ a, AgM ds a n ((d, .agg cs.toArray) :: L) → wpAnyP pq P ops (NormEnd K) C fu (listed.setIfInBounds ix true) a w) (hsel : Region.noSelect ops = true := by kernel_rfl) (hfr : Fre pq ops listed ix = true := by kernel_rfl) (hre : (Region.ready .any ops listed).contains ix = true := by kernel_rfl) (hn : Nat.blt d n = true := by exact rfl) : wpAnyP pq P ops (NormEnd K) C (fu + 1) listed a w :=
  hd_loadA ix hC h hG hx (fun w hw => (hb w hw).cells) hg hix hn q (hsel := hsel) (hfr := hfr) (hre := hre)
end
theorem qt_loadC0 {ad : Addr} (h : AgM ds a n L) (hx : ev L x = some (.pointer (some ad))) (hc : ∀ w, C w → Cells w ad [v]) (hg : NotAgg P t) (hn : Nat.blt d n = true) (q : ∀ a, AgM ds a n ((d, v) :: L) → wpQuiet P ops C Qa rest a) :
 wpQuiet P ops C Qa (⟨some d, .load t x, ty, pos, after, none⟩ :: rest) a := qt_load h hx (fun w hw => by have := hc w hw 0 v rfl; rwa [Addr.add_zero'] at this) hg hn q
theorem qt_loadC {ad : Addr} (h : AgM ds a n L) (hx : ev L x = some (.pointer (some (ad.add off)))) (hc : ∀ w, C w → Cells w ad cs) (hv : cs[off]? = some v) (hg : NotAgg P t) (hn : Nat.blt d n = true) (q : ∀ a, AgM ds a n ((d, v) :: L) → wpQuiet P ops C Qa rest a) :
 wpQuiet P ops C Qa (⟨some d, .load t x, ty, pos, after, none⟩ :: rest) a := qt_load h hx (fun w hw => hc w hw off v hv) hg hn q
theorem ex_idxS {G : Option (Nat × Bool)} {α : Type} {E : Enc α} {bytes p : Nat} {ad : Addr} (h : AgM ds a n L) (hx : ev L x = some (.slice (some ad) m cp)) (hy : ev L y = some (.int k i)) (he : ElemOf P t T E bytes) (h0 : 0 ≤ i) (hi : i < m) (hp : i.toNat = p) :
    (execOp a.eval ⟨some d, .indexAddr t x y, ty, pos, after, G⟩).run P w = .ok (.value (.pointer (some (ad.add (p * E.sz))))) w := by
  subst hp
  obtain ⟨inf, zv, hin, _, hsz, _⟩ := he.info
  simp [execOp, h.eval hx, h.eval hy, Instr.indexAt, asIntOf, run_underlying he.und, h0, hi, sizeOf, typeInfo, hin, hsz]
theorem st_idxS {α : Type} {E : Enc α} {bytes p : Nat} {ad : Addr} (h : AgM ds a n L) (hx : ev L x = some (.slice (some ad) m cp)) (hy : ev L y = some (.int k i)) (he : ElemOf P t T E bytes) (h0 : 0 ≤ i) (hi : i < m) (hp : i.toNat = p) (hn : Nat.blt d n = true)
    (q : ∀ a, AgM ds a n ((d, .pointer (some (ad.add (p * E.sz)))) :: L) → wpList P ops Q rest a w) : wpList P ops Q (⟨some d, .indexAddr t x y, ty, pos, after, none⟩ :: rest) a w :=
  st_ok h rfl rfl hn (ex_idxS h hx hy he h0 hi hp) q
theorem s_idxS {α : Type} {E : Enc α} {bytes p : Nat} {ad : Addr} (hx : ev L x = some (.slice (some ad) m cp)) (hy : ev L y = some (.int k i)) (he : ElemOf P t T E bytes) (q : WL P ops Q rest n ds w ((d, .pointer (some (ad.add (p * E.sz)))) :: L)) (h0 : 0 ≤ i := by omega) (hi : i < m := by omega) (hp : i.toNat = p := by omega) (hn : Nat.blt d n = true := by exact rfl) : WL P ops Q (⟨some d, .indexAddr t x y, ty, pos, after, none⟩ :: rest) n ds w L := fun a h => st_idxS h hx hy he h0 hi hp hn q -- short
theorem qt_idxS {α : Type} {E : Enc α} {bytes p : Nat} {ad : Addr} (h : AgM ds a n L) (hx : ev L x = some (.slice (some ad) m cp)) (hy : ev L y = some (.int k i)) (he : ElemOf P t T E bytes) (h0 : 0 ≤ i) (hi : i < m) (hp : i.toNat = p) (hn : Nat.blt d n = true)
    (q : ∀ a, AgM ds a n ((d, .pointer (some (ad.add (p * E.sz)))) :: L) → wpQuiet P ops C Qa rest a) : wpQuiet P ops C Qa (⟨some d, .indexAddr t x y, ty, pos, after, none⟩ :: rest) a :=
  qt_ok h rfl rfl hn (fun _ _ => ex_idxS h hx hy he h0 hi hp) q
theorem hd_idxS {G : Option (Nat × Bool)} {K : Act → World → Prop} {fu : Nat} {listed : Array Bool} {pq : Option Nat} {α : Type} {E : Enc α} {bytes p : Nat} {ad : Addr} (ix : Nat) (hsel : Region.noSelect ops = true) (hfr : Fre pq ops listed ix = true) (hre : (Region.ready .any ops listed).contains ix = true) (hC : C w) (h : AgM ds a n L) (hG : Wd ops n L G)
    (hx : ev L x = some (.slice (some ad) m cp)) (hy : ev L y = some (.int k i)) (he : ElemOf P t T E bytes) (h0 : 0 ≤ i) (hi : i < m) (hp : i.toNat = p) (hix : ops[ix]? = some ⟨some d, .indexAddr t x y, ty, pos, after, G⟩) (hn : Nat.blt d n = true)
    (q : ∀ a, AgM ds a n ((d, .pointer (some (ad.add (p * E.sz)))) :: L) → wpAnyP pq P ops (NormEnd K) C fu (listed.setIfInBounds ix true) a w) : wpAnyP pq P ops (NormEnd K) C (fu + 1) listed a w :=
  hd_ok ix hsel hfr hre hC h hG hix rfl hn (fun _ _ => ex_idxS h hx hy he h0 hi hp) q
theorem st_loadC {ad : Addr} (h : AgM ds a n L) (hx : ev L x = some (.pointer (some (ad.add off)))) (hc : Cells w ad cs) (hv : cs[off]? = some v) (hg : NotAgg P t) (hn : Nat.blt d n = true) (q : ∀ a, AgM ds a n ((d, v) :: L) → wpList P ops Q rest a w) :
 wpList P ops Q (⟨some d, .load t x, ty, pos, after, none⟩ :: rest) a w := st_load h hx (hc off v hv) hg hn q
theorem s_loadC {ad : Addr} (hx : ev L x = some (.pointer (some (ad.add off)))) (hc : Cells w ad cs) (hv : cs[off]? = some v) (hg : NotAgg P t) (hn : Nat.blt d n = true) (q : WL P ops Q rest n ds w ((d, v) :: L)) : WL P ops Q (⟨some d, .load t x, ty, pos, after, none⟩ :: rest) n ds w L := fun a h => st_loadC h hx hc hv hg hn q -- short
theorem st_loadC0 {ad : Addr} (h : AgM ds a n L) (hx : ev L x = some (.pointer (some ad))) (hc : Cells w ad [v]) (hg : NotAgg P t) (hn : Nat.blt d n = true) (q : ∀ a, AgM ds a n ((d, v) :: L) → wpList P ops Q rest a w) :
 wpList P ops Q (⟨some d, .load t x, ty, pos, after, none⟩ :: rest) a w := st_load h hx (by have := hc 0 v rfl; rwa [Addr.add_zero'] at this) hg hn q
theorem s_loadC0 {ad : Addr} (hx : ev L x = some (.pointer (some ad))) (hc : Cells w ad [v]) (hg : NotAgg P t) (q : WL P ops Q rest n ds w ((d, v) :: L)) (hn : Nat.blt d n = true := by exact rfl) : WL P ops Q (⟨some d, .load t x, ty, pos, after, none⟩ :: rest) n ds w L := fun a h => st_loadC0 h hx hc hg hn q -- short
theorem st_storeB (h : AgM ds a n L) (hx : ev L x = some (.pointer (some ((⟨g, 0, none⟩ : Addr).add off)))) (hy : ev L y = some v) (hb : Blk w g T cs) (ho : Nat.blt off cs.length = true) (h1 : v.oneCell' = true) (hc : v.cells = #[v]) (hs : SizeOf P t 1)
    (q : ∀ w', Blk w' g T (cs.set off v) → Fr [g] w w' → w'.heap.size = w.heap.size → ∀ a, AgM ds a n L → wpList P ops Q rest a w') : wpList P ops Q (⟨none, .store t x y, ty, pos, after, none⟩ :: rest) a w :=
  st_store (o := off) h (by rw [hx, lit_add, Nat.zero_add]) hy hb ho h1 hc hs q
theorem s_storeB (hx : ev L x = some (.pointer (some ((⟨g, 0, none⟩ : Addr).add off)))) (hy : ev L y = some v) (hb : Blk w g T cs) (hc : v.cells = #[v]) (hs : SizeOf P t 1) (q : ∀ w', Blk w' g T (cs.set off v) → Fr [g] w w' → w'.heap.size = w.heap.size → WL P ops Q rest n ds w' L) (ho : Nat.blt off cs.length = true := by exact rfl) (h1 : v.oneCell' = true := by exact rfl) : WL P ops Q (⟨none, .store t x y, ty, pos, after, none⟩ :: rest) n ds w L := fun a h => st_storeB h hx hy hb ho h1 hc hs q -- short
theorem st_storeB0 (h : AgM ds a n L) (hx : ev L x = some (.pointer (some ⟨g, 0, none⟩))) (hy : ev L y = some v) (hb : Blk w g T [u]) (h1 : v.oneCell' = true) (hc : v.cells = #[v]) (hs : SizeOf P t 1)
    (q : ∀ w', Blk w' g T [v] → Fr [g] w w' → w'.heap.size = w.heap.size → ∀ a, AgM ds a n L → wpList P ops Q rest a w') : wpList P ops Q (⟨none, .store t x y, ty, pos, after, none⟩ :: rest) a w :=
  st_store (o := 0) h hx hy hb rfl h1 hc hs q
theorem st_storeBA {vs : List Value} (h : AgM ds a n L) (hx : ev L x = some (.pointer (some ⟨g, 0, none⟩))) (hy : ev L y = some (.agg vs.toArray)) (hb : Blk w g T cs) (hl : vs.length = cs.length) (hs : SizeOf P t vs.length) (q : ∀ w', Blk w' g T vs → Fr [g] w w' → w'.heap.size = w.heap.size → ∀ a, AgM ds a n L → wpList P ops Q rest a w') (h1 : ∀ u ∈ vs, u.oneCell' = true := by first | (simp [Value.oneCell', S]; done) | exact Enc.one _ _) : wpList P ops Q (⟨none, .store t x y, ty, pos, after, none⟩ :: rest) a w := by
  have hst := run_storeCells_at P g 0 T vs 0 cs.toArray w hb (by simp; omega) h1
  refine st_skip h rfl rfl (w' := w.setRow g vs.toArray) ?_ (q _ ?_ (Fr.setRow w g _) (by simp))
  · simp [execOp, h.eval hx, h.eval hy, Instr.storeAt, Instr.sureAddr, storeVar, hs w, Value.cells, hst, hl]
  · unfold Blk; exact setRow_heap w g cs.toArray _ T (0, 0) hb
theorem s_storeBA {vs : List Value} (hx : ev L x = some (.pointer (some ⟨g, 0, none⟩))) (hy : ev L y = some (.agg vs.toArray)) (hb : Blk w g T cs) (hl : vs.length = cs.length) (hs : SizeOf P t vs.length) (q : ∀ w', Blk w' g T vs → Fr [g] w w' → w'.heap.size = w.heap.size → WL P ops Q rest n ds w' L) (h1 : ∀ u ∈ vs, u.oneCell' = true := by first | (simp [Value.oneCell', S]; done) | exact Enc.one _ _) : WL P ops Q (⟨none, .store t x y, ty, pos, after, none⟩ :: rest) n ds w L := fun a h => st_storeBA h hx hy hb hl hs q (h1 := h1) -- short
theorem ex_idxA {G : Option (Nat × Bool)} {ad : Addr} {N sz : Nat} (h : AgM ds a n L) (hx : ev L x = some (.pointer (some ad))) (hy : ev L y = some (.int k i)) (hu : P.underlying t = some (.array N T)) (hs : SizeOf P T sz) (h0 : 0 ≤ i) (h1 : i < N) :
    (execOp a.eval ⟨some d, .indexAddr t x y, ty, pos, after, G⟩).run P w = .ok (.value (.pointer (some (ad.add (i.toNat * sz))))) w := by
  simp [execOp, h.eval hx, h.eval hy, Instr.indexAt, asIntOf, run_underlying hu, Instr.sureAddr, h0, h1, hs w]
theorem st_idxA {ad : Addr} {N sz : Nat} (h : AgM ds a n L) (hx : ev L x = some (.pointer (some ad))) (hy : ev L y = some (.int k i)) (hu : P.underlying t = some (.array N T)) (hs : SizeOf P T sz) (h0 : 0 ≤ i) (h1 : i < N) (hn : Nat.blt d n = true)
    (q : ∀ a, AgM ds a n ((d, .pointer (some (ad.add (i.toNat * sz)))) :: L) → wpList P ops Q rest a w) : wpList P ops Q (⟨some d, .indexAddr t x y, ty, pos, after, none⟩ :: rest) a w :=
  st_ok h rfl rfl hn (ex_idxA h hx hy hu hs h0 h1) q
theorem s_idxA {ad : Addr} {N sz : Nat} (hx : ev L x = some (.pointer (some ad))) (hy : ev L y = some (.int k i)) (hu : P.underlying t = some (.array N T)) (hs : SizeOf P T sz) (q : WL P ops Q rest n ds w ((d, .pointer (some (ad.add (i.toNat * sz)))) :: L)) (h0 : 0 ≤ i := by omega) (h1 : i < N := by omega) (hn : Nat.blt d n = true := by exact rfl) : WL P ops Q (⟨some d, .indexAddr t x y, ty, pos, after, none⟩ :: rest) n ds w L := fun a h => st_idxA h hx hy hu hs h0 h1 hn q -- short
theorem st_idxV {vs : List Value} {N : Nat} (h : AgM ds a n L) (hx : ev L x = some (.agg vs.toArray)) (hy : ev L y = some (.int k i)) (hu : P.underlying t = some (.array N T)) (hs : SizeOf P T 1) (ha : NotAgg P T) (h0 : 0 ≤ i) (h1 : i < N) (hv : vs[i.toNat]? = some v) (hn : Nat.blt d n = true)
    (q : ∀ a, AgM ds a n ((d, v) :: L) → wpList P ops Q rest a w) : wpList P ops Q (⟨some d, .index t x y, ty, pos, after, none⟩ :: rest) a w :=
  st_ok h rfl rfl hn (by simp [execOp, h.eval hx, h.eval hy, Instr.index, asIntOf, run_underlying hu, h0, h1, hs w, part, ha w, hv]) q
theorem foldl_set (vs : List Value) : ∀ (off : Nat) (cs : Array Value), off + vs.length ≤ cs.size →
    ((vs.zipIdx 0).foldl (fun cs (p : Value × Nat) => cs.setIfInBounds (off + p.2) p.1) cs) = (cs.toList.take off ++ vs ++ cs.toList.drop (off + vs.length)).toArray := by
  have key : ∀ (vs : List Value) (s off : Nat) (cs : Array Value), off + s + vs.length ≤ cs.size →
      ((vs.zipIdx s).foldl (fun cs (p : Value × Nat) => cs.setIfInBounds (off + p.2) p.1) cs) = (cs.toList.take (off + s) ++ vs ++ cs.toList.drop (off + s + vs.length)).toArray := by
    intro vs
    induction vs with
    | nil => intro s off cs _; simp
    | cons v vs ih =>
      intro s off cs hl
      simp only [List.zipIdx_cons, List.foldl_cons]
      rw [show s + 1 = s + 1 from rfl, ih (s + 1) off _ (by simp at hl ⊢; omega)]
      have e := list_seg_step cs.toList (off + s) v vs (by simp at hl ⊢; omega)
      simpa [Array.toList_setIfInBounds, Nat.add_assoc] using e
  intro off cs h
  simpa using key vs 0 off cs (by simpa using h)
theorem fill_all {α : Type} (E : Enc α) : ∀ (ys : List α) (vs : List Value) (s : Nat) (cs : Array Value) (N : Nat), vs.map Value.cells = ys.map (fun y => (E.enc y).toArray) → cs.size = N * E.sz → s + ys.length = N →
    Instr.fill (fun i => some (i * E.sz, E.sz)) cs ((List.range' s ys.length).zip vs) = some (cs.toList.take (s * E.sz) ++ ys.flatMap E.enc).toArray
  | [], _, s, cs, N, _, hc, hN => by
    simp only [List.length_nil, List.range'_zero, List.zip_nil_left, Instr.fill, List.flatMap_nil, List.append_nil]
    rw [List.take_of_length_le (by simp [hc]; rw [← hN]; simp)]
  | y :: ys, [], s, cs, N, h, _, _ => by simp at h
  | y :: ys, v :: vs, s, cs, N, h, hc, hN => by
    simp only [List.map_cons, List.cons.injEq] at h
    obtain ⟨hv, hr⟩ := h
    simp only [List.length_cons] at hN ⊢
    rw [List.range'_succ, List.zip_cons_cons]
    simp only [Instr.fill]
    have hsz : v.cells.size = E.sz := by rw [hv]; simp [E.len]
    have hle : s * E.sz + E.sz ≤ cs.size := by
      rw [hc]
      have : (s + 1) * E.sz ≤ N * E.sz := Nat.mul_le_mul_right _ (by omega)
      rw [Nat.add_mul, Nat.one_mul] at this; exact this
    rw [if_neg (by simp [hsz]; omega)]
    have hfold : (v.cells.zipIdx.foldl (fun cs (p : Value × Nat) => cs.setIfInBounds (s * E.sz + p.2) p.1) cs) = (cs.toList.take (s * E.sz) ++ E.enc y ++ cs.toList.drop (s * E.sz + (E.enc y).length)).toArray := by
      rw [← foldl_set (E.enc y) (s * E.sz) cs (by rw [E.len]; exact hle), hv]
      simp [← Array.foldl_toList]
    have := fill_all E ys vs (s + 1) (cs.toList.take (s * E.sz) ++ E.enc y ++ cs.toList.drop (s * E.sz + (E.enc y).length)).toArray N hr (by simp [E.len]; omega) (by omega)
    rw [hfold, this]
    congr 2
    rw [List.flatMap_cons, ← List.append_assoc]
    congr 1
    rw [Nat.add_mul, Nat.one_mul]
    have h2 : s * E.sz + E.sz = (cs.toList.take (s * E.sz) ++ E.enc y).length := by simp [E.len]; omega
    rw [h2]
    exact List.take_left
theorem zip_parts {a : Act} : ∀ (ps : List (Nat × Operand)), ps.map (fun p => (p.1, a.eval p.2)) = (ps.map (fun p => p.1)).zip (ps.map (a.eval ∘ fun p => p.2))
 | [] => rfl
 | p :: ps => by simp only [List.map_cons, List.zip_cons_cons, zip_parts ps]; rfl
theorem st_bslice {α : Type} {E : Enc α} {bytes len : Nat} {parts : List (Nat × Operand)} {vs : List Value} (ys : List α) (h : AgM ds a n L) (hp : evs L (parts.map (·.2)) vs) (hi : parts.map (·.1) = List.range' 0 ys.length) (hy : vs.map Value.cells = ys.map (fun y => (E.enc y).toArray)) (hl : ys.length = len) (he : ElemOf P t T E bytes) (hsm : len * E.sz ≤ 16777216) (q : ∀ g w', g = w.heap.size → Own E T g w' (.slice (some ⟨g, 0, none⟩) len len) ys → Fr [] w w' → w'.heap.size = g + 1 → ∀ a, AgM ds a n ((d, .slice (some ⟨g, 0, none⟩) len len) :: L) → wpList P ops Q rest a w') (hn : Nat.blt d n = true := by exact rfl) :
    wpList P ops Q (⟨some d, .buildSlice t len parts.toArray, ty, pos, after, none⟩ :: rest) a w := by
  obtain ⟨inf, zv, hin, hz, hsz, hby, hzs⟩ := he.info
  have hm : parts.map (fun p => (p.1, a.eval p.2)) = (List.range' 0 ys.length).zip vs := by
    have h1 := h.evals hp
    rw [List.map_map] at h1
    rw [← hi, ← h1]
    exact zip_parts parts
  have hfill := fill_all E ys vs 0 ((Array.range (len * E.sz)).map (zv.cells[· % zv.cells.size]!)) len hy (by simp) (by omega)
  rw [Nat.zero_mul, List.take_zero, List.nil_append] at hfill
  have hno : ¬ 16777216 < len * E.sz := by omega
  refine st_ok h rfl rfl hn (w' := w.alloc (.cells (ys.flatMap E.enc).toArray T)) ?_ (q _ _ rfl ?_ (Fr.alloc [] w _) (by simp))
  · simp only [execOp, List.map_toArray, hm, Instr.buildSlice, Sem.run_bind, run_underlying he.und, Result.andThen_ok, sizeOf, typeInfo, Sem.run_pure]
    by_cases h0 : len * E.sz = 0
    · have hlen : len = 0 := by
        rcases Nat.mul_eq_zero.1 h0 with h | h
        · exact h
        · have := E.pos; omega
      subst hlen
      have hys : ys = [] := List.eq_nil_of_length_eq_zero hl
      subst hys
      simp [hin, hsz, Instr.fill, newRow]
      rw [show Array.range 0 = #[] from rfl]; simp
    · simp [hin, hsz, h0, hno, zeroValue, typeInfo, hz, newRow, hfill]
  · exact .inr ⟨_, len, _, by rw [hl], Nat.le_refl _, heap_alloc_new w _, by omega, by simp only [maxLen]; have := E.pos; have : len ≤ len * E.sz := Nat.le_mul_of_pos_right _ E.pos; omega, by simp [E.flat_len, hl], by
      rw [List.take_of_length_le (by simp [E.flat_len])]⟩
theorem s_bslice {α : Type} {E : Enc α} {bytes len : Nat} {parts : List (Nat × Operand)} {vs : List Value} (ys : List α) (hp : evs L (parts.map (·.2)) vs) (hi : parts.map (·.1) = List.range' 0 ys.length) (hy : vs.map Value.cells = ys.map (fun y => (E.enc y).toArray)) (hl : ys.length = len) (he : ElemOf P t T E bytes) (hsm : len * E.sz ≤ 16777216) (q : ∀ g w', g = w.heap.size → Own E T g w' (.slice (some ⟨g, 0, none⟩) len len) ys → Fr [] w w' → w'.heap.size = g + 1 → WL P ops Q rest n ds w' ((d, .slice (some ⟨g, 0, none⟩) len len) :: L)) (hn : Nat.blt d n = true := by exact rfl) : WL P ops Q (⟨some d, .buildSlice t len parts.toArray, ty, pos, after, none⟩ :: rest) n ds w L := fun a h => st_bslice ys h hp hi hy hl he hsm q (hn := hn) -- short
theorem ex_b2s {G : Option (Nat × Bool)} {bytes : Nat} (h : AgM ds a n L) (hx : ev L x = some v) (hs : Sl Enc.b w v l) (he : ElemOf P t T Enc.b bytes) (hu : P.underlying T = some (.int .u8)) (hd : P.underlying t' = some .string) :
    (execOp a.eval ⟨some d, .convert t t' x, ty, pos, after, G⟩).run P w = .ok (.value (S l)) w := by
  obtain ⟨A, c, rfl, h1, h2, h3⟩ := hs.flat
  simp only [execOp, h.eval hx, Sem.run_bind, run_convert_bytes_string w t t' T A l.length c he.und hu hd]
  by_cases hl : l = []
  · subst hl
    cases A with
    | none => simp [Conv.bytesToString, S]; rfl
    | some ad =>
      rw [List.length_nil, run_bytesToString w ad 0 c [] (by simp [loadCells, loadCellsFrom])]
      simp [S]; rfl
  · obtain ⟨ad, rfl, hc⟩ := h3 hl
    have hfl : l.flatMap Enc.b.enc = (l.map (fun c => (c.toNat : Int))).map (Value.int .u8) := by
      clear h1 h2 h3 hs hx hc hl
      induction l with
      | nil => rfl
      | cons c l ih => rw [List.flatMap_cons, ih]; rfl
    have hlc := run_loadCells_list (P := P) w ad _ hc
    rw [Enc.flat_len, hfl] at hlc
    rw [run_bytesToString w ad l.length c (l.map (fun c => (c.toNat : Int))) (by rw [← hlc]; simp [Enc.b])]
    have hfold : ∀ (l : List UInt8) (s : ByteArray), (l.map (fun c => (c.toNat : Int))).foldl (fun r n => r.push (UInt8.ofNat n.toNat)) s = ⟨s.data ++ l.toArray⟩ := by
      intro l
      induction l with
      | nil => intro s; simp
      | cons c l ih =>
        intro s
        rw [List.map_cons, List.foldl_cons, ih]
        apply ByteArray.ext
        simp [ByteArray.push]
    rw [hfold]
    simp [S]
theorem st_b2s {bytes : Nat} (h : AgM ds a n L) (hx : ev L x = some v) (hs : Sl Enc.b w v l) (he : ElemOf P t T Enc.b bytes) (hu : P.underlying T = some (.int .u8)) (hd : P.underlying t' = some .string) (hn : Nat.blt d n = true)
    (q : ∀ a, AgM ds a n ((d, S l) :: L) → wpList P ops Q rest a w) : wpList P ops Q (⟨some d, .convert t t' x, ty, pos, after, none⟩ :: rest) a w :=
  st_ok h rfl rfl hn (ex_b2s h hx hs he hu hd) q
theorem s_b2s {bytes : Nat} (hx : ev L x = some v) (hs : Sl Enc.b w v l) (he : ElemOf P t T Enc.b bytes) (hu : P.underlying T = some (.int .u8)) (hd : P.underlying t' = some .string) (hn : Nat.blt d n = true) (q : WL P ops Q rest n ds w ((d, S l) :: L)) : WL P ops Q (⟨some d, .convert t t' x, ty, pos, after, none⟩ :: rest) n ds w L := fun a h => st_b2s h hx hs he hu hd hn q -- short
theorem st_makeFunc {fn : Fn} {fs cs : List Operand} {us vs : List Value} (h : AgM ds a n L) (h1 : evs L fs us) (h2 : evs L cs vs) (hn : Nat.blt d n = true) (q : ∀ a, AgM ds a n ((d, .func fn us.toArray vs.toArray) :: L) → wpList P ops Q rest a w) :
    wpList P ops Q (⟨some d, .makeFunc fn fs.toArray cs.toArray, ty, pos, after, none⟩ :: rest) a w :=
  st_ok h rfl rfl hn (by simp [execOp, Instr.makeFunc, h.evals h1, h.evals h2]) q
theorem s_makeFunc {fn : Fn} {fs cs : List Operand} {us vs : List Value} (h1 : evs L fs us) (h2 : evs L cs vs) (hn : Nat.blt d n = true) (q : WL P ops Q rest n ds w ((d, .func fn us.toArray vs.toArray) :: L)) : WL P ops Q (⟨some d, .makeFunc fn fs.toArray cs.toArray, ty, pos, after, none⟩ :: rest) n ds w L := fun a h => st_makeFunc h h1 h2 hn q -- short
theorem st_callv {f : FuncId} {xs : List Operand} {vs us ws : List Value} {ts : Array TypeId} {Φ : Value → World → Prop} (h : AgM ds a n L) (hy : ev L y = some (.func (.func f) us.toArray ws.toArray)) (hx : evs L xs vs) (hf : CallOf P f) (hc : Rets P f (us ++ vs ++ ws).toArray w Φ) (hn : Nat.blt d n = true)
    (hnf : ∀ g, y ≠ .func g)
    (q : ∀ v w', Φ v w' → ∀ a, AgM ds a n ((d, v) :: L) → wpList P ops Q rest a w') : wpList P ops Q (⟨some d, .call ⟨.value y, xs.toArray, ts⟩, ty, pos, after, none⟩ :: rest) a w :=
  st_enter (w' := w) h rfl rfl hn (by
    simp only [execOp, resolve, h.eval hy, Deferred.ofValue, Sem.run_bind, Sem.run_pure, Result.andThen_ok, invoke, List.map_toArray, h.evals hx, List.append_toArray]
    exact hf _ _) hc q
def splice (cs : List Value) (off : Nat) (vs : List Value) : List Value := cs.take off ++ vs ++ cs.drop (off + vs.length)
def PartsOk (pl : List (Nat × Nat)) (m : Nat) : List (Nat × Value) → Prop
  | [] => True
  | p :: r => (∃ q, pl[p.1]? = some q ∧ p.2.cells.size = q.2 ∧ Nat.ble (q.1 + q.2) m = true) ∧ PartsOk pl m r
theorem pok_nil {pl : List (Nat × Nat)} {m : Nat} : PartsOk pl m [] := trivial
theorem pok_cons {pl : List (Nat × Nat)} {m i : Nat} {q : Nat × Nat} {v : Value} {r : List (Nat × Value)} (h1 : pl[i]? = some q) (h2 : v.cells.size = q.2) (h3 : Nat.ble (q.1 + q.2) m = true) (hr : PartsOk pl m r) : PartsOk pl m ((i, v) :: r) := ⟨⟨q, h1, h2, h3⟩, hr⟩
def placed (pl : List (Nat × Nat)) (zs : List Value) (ps : List (Nat × Value)) : List Value := ps.foldl (fun cs p => splice cs (pl.getD p.1 (0, 0)).1 p.2.cells.toList) zs
def BuildAt (P : Program) (t : TypeId) (pl : List (Nat × Nat)) (zs : List Value) : Prop := ∀ (ps : List (Nat × Value)) (w : World), PartsOk pl zs.length ps → (Instr.build t ps.toArray).run P w = .ok (.agg (placed pl zs ps).toArray) w
theorem len_splice (cs vs : List Value) (off : Nat) (h : off + vs.length ≤ cs.length) : (splice cs off vs).length = cs.length := by simp [splice]; omega
theorem fill_placed (pl : List (Nat × Nat)) (f : Nat → Option (Nat × Nat)) (hf : ∀ i q, pl[i]? = some q → f i = some q) : ∀ (ps : List (Nat × Value)) (cs : List Value), PartsOk pl cs.length ps → Instr.fill f cs.toArray ps = some (placed pl cs ps).toArray
 | [], cs, _ => rfl
 | (i, v) :: ps, cs, ⟨⟨q, h1, h2, h3⟩, hr⟩ => by
  have h3' : q.1 + q.2 ≤ cs.length := by simpa [Nat.ble_eq] using h3
  have hl : v.cells.toList.length = q.2 := by simpa using h2
  have hs : (splice cs q.1 v.cells.toList).length = cs.length := len_splice _ _ _ (by rw [hl]; exact h3')
  have hfold : (v.cells.zipIdx.foldl (fun cs (p : Value × Nat) => cs.setIfInBounds (q.1 + p.2) p.1) cs.toArray) = (splice cs q.1 v.cells.toList).toArray := by
   have e := foldl_set v.cells.toList q.1 cs.toArray (by simpa [h2] using h3')
   rw [splice]
   simp only at e
   rw [← e, ← Array.foldl_toList, Array.toList_zipIdx]
  simp only [Instr.fill, hf i q h1]
  rw [if_neg (by simp [h2]; omega)]
  rw [hfold, fill_placed pl f hf ps _ (by rw [hs]; exact hr)]
  simp [placed, List.getD, h1]
theorem BuildAt.struct {t : TypeId} {fs : Array Field} {pl : List (Nat × Nat)} {zs : List Value} (hu : P.underlying t = some (.struct fs)) (hz : ∀ w : World, (zeroValue t).run P w = .ok (.agg zs.toArray) w)
    (hp : ∀ w : World, (fs.mapM fun f => do pure (f.offset, ← sizeOf f.type) : Sem (Array (Nat × Nat))).run P w = .ok pl.toArray w) : BuildAt P t pl zs := by
  intro ps w hok
  have hfill := fill_placed pl (fun i => pl.toArray[i]?) (fun i q h => by simpa using h) ps zs hok
  simp only [Instr.build, Sem.run_bind, hz w, Result.andThen_ok, run_underlying hu, hp w, Value.cells, hfill]
  rfl
theorem BuildAt.array {t T : TypeId} {N sz : Nat} {pl : List (Nat × Nat)} {zs : List Value} (hu : P.underlying t = some (.array N T)) (hz : ∀ w : World, (zeroValue t).run P w = .ok (.agg zs.toArray) w) (hs : SizeOf P T sz)
    (hp : ∀ i q, pl[i]? = some q → q = (i * sz, sz)) : BuildAt P t pl zs := by
  intro ps w hok
  have hfill := fill_placed pl (fun i => some (i * sz, sz)) (fun i q h => by rw [hp i q h]) ps zs hok
  simp only [Instr.build, Sem.run_bind, hz w, Result.andThen_ok, run_underlying hu, hs w, Value.cells, hfill]
  rfl
theorem st_storeBP {vs cs' : List Value} (h : AgM ds a n L) (hx : ev L x = some (.pointer (some ((⟨g, 0, none⟩ : Addr).add off)))) (hy : ev L y = some (.agg vs.toArray)) (hb : Blk w g T cs) (hl : Nat.ble (off + vs.length) cs.length = true) (h1 : ∀ u ∈ vs, u.oneCell' = true) (hs : SizeOf P t vs.length) (hcs : splice cs off vs = cs')
    (q : ∀ w', Blk w' g T cs' → Fr [g] w w' → w'.heap.size = w.heap.size → ∀ a, AgM ds a n L → wpList P ops Q rest a w') : wpList P ops Q (⟨none, .store t x y, ty, pos, after, none⟩ :: rest) a w := by
  subst hcs
  rw [lit_add, Nat.zero_add] at hx
  have hst := run_storeCells_at P g off T vs 0 cs.toArray w hb (by have := Nat.le_of_ble_eq_true hl; simp; omega) h1
  refine st_skip h rfl rfl (w' := w.setRow g (splice cs off vs).toArray) ?_ (q _ ?_ (Fr.setRow w g _) (by simp))
  · have hst' : (storeCells ⟨g, off, none⟩ vs 0).run P w = .ok () (w.setRow g (splice cs off vs).toArray) := by simpa [splice] using hst
    simp [execOp, h.eval hx, h.eval hy, Instr.storeAt, Instr.sureAddr, storeVar, hs w, Value.cells, hst']
  · unfold Blk; exact setRow_heap w g cs.toArray _ T (0, 0) hb
theorem s_storeBP {vs cs' : List Value} (hx : ev L x = some (.pointer (some ((⟨g, 0, none⟩ : Addr).add off)))) (hy : ev L y = some (.agg vs.toArray)) (hb : Blk w g T cs) (hs : SizeOf P t vs.length) (hcs : splice cs off vs = cs') (q : ∀ w', Blk w' g T cs' → Fr [g] w w' → w'.heap.size = w.heap.size → WL P ops Q rest n ds w' L) (hl : Nat.ble (off + vs.length) cs.length = true := by exact rfl) (h1 : ∀ u ∈ vs, u.oneCell' = true := by first | (simp [Value.oneCell', S]; done) | exact Enc.one _ _) : WL P ops Q (⟨none, .store t x y, ty, pos, after, none⟩ :: rest) n ds w L := fun a h => st_storeBP h hx hy hb hl h1 hs hcs q -- short
theorem ex_lit {G : Option (Nat × Bool)} {pl : List (Nat × Nat)} {zs cs : List Value} {parts : List (Nat × Operand)} {vs : List Value} (h : AgM ds a n L) (hp : evs L (parts.map (·.2)) vs) (hb : BuildAt P t pl zs) (hok : PartsOk pl zs.length ((parts.map (·.1)).zip vs)) (hc : placed pl zs ((parts.map (·.1)).zip vs) = cs) :
    (execOp a.eval ⟨some d, .build t parts.toArray, ty, pos, after, G⟩).run P w = .ok (.value (.agg cs.toArray)) w := by
  have hm : parts.map (fun p => (p.1, a.eval p.2)) = (parts.map (·.1)).zip vs := by
    rw [zip_parts, ← h.evals hp, List.map_map]
  simp only [execOp, List.map_toArray, hm, Sem.run_bind, hb _ w hok, Result.andThen_ok, Sem.run_pure, hc]
theorem st_lit {pl : List (Nat × Nat)} {zs cs : List Value} {parts : List (Nat × Operand)} {vs : List Value} (h : AgM ds a n L) (hp : evs L (parts.map (·.2)) vs) (hb : BuildAt P t pl zs) (hok : PartsOk pl zs.length ((parts.map (·.1)).zip vs)) (hc : placed pl zs ((parts.map (·.1)).zip vs) = cs) (hn : Nat.blt d n = true)
    (q : ∀ a, AgM ds a n ((d, .agg cs.toArray) :: L) → wpList P ops Q rest a w) : wpList P ops Q (⟨some d, .build t parts.toArray, ty, pos, after, none⟩ :: rest) a w :=
  st_ok h rfl rfl hn (ex_lit h hp hb hok hc) q
theorem s_lit {pl : List (Nat × Nat)} {zs cs : List Value} {parts : List (Nat × Operand)} {vs : List Value} (hp : evs L (parts.map (·.2)) vs) (hb : BuildAt P t pl zs) (hok : PartsOk pl zs.length ((parts.map (·.1)).zip vs)) (hc : placed pl zs ((parts.map (·.1)).zip vs) = cs) (q : WL P ops Q rest n ds w ((d, .agg cs.toArray) :: L)) (hn : Nat.blt d n = true := by exact rfl) : WL P ops Q (⟨some d, .build t parts.toArray, ty, pos, after, none⟩ :: rest) n ds w L := fun a h => st_lit h hp hb hok hc hn q -- short
theorem qt_lit {pl : List (Nat × Nat)} {zs cs : List Value} {parts : List (Nat × Operand)} {vs : List Value} (h : AgM ds a n L) (hp : evs L (parts.map (·.2)) vs) (hb : BuildAt P t pl zs) (hok : PartsOk pl zs.length ((parts.map (·.1)).zip vs)) (hc : placed pl zs ((parts.map (·.1)).zip vs) = cs) (hn : Nat.blt d n = true)
    (q : ∀ a, AgM ds a n ((d, .agg cs.toArray) :: L) → wpQuiet P ops C Qa rest a) : wpQuiet P ops C Qa (⟨some d, .build t parts.toArray, ty, pos, after, none⟩ :: rest) a :=
  qt_ok h rfl rfl hn (fun _ _ => ex_lit h hp hb hok hc) q
theorem hd_lit {G : Option (Nat × Bool)} {K : Act → World → Prop} {fu : Nat} {listed : Array Bool} {pq : Option Nat} (ix : Nat) (hC : C w) {pl : List (Nat × Nat)} {zs cs : List Value} {parts : List (Nat × Operand)} {vs : List Value} (h : AgM ds a n L) (hG : Wd ops n L G) (hp : evs L (parts.map (·.2)) vs) (hb : BuildAt P t pl zs) (hok : PartsOk pl zs.length ((parts.map (·.1)).zip vs)) (hc : placed pl zs ((parts.map (·.1)).zip vs) = cs) (hix : ops[ix]? = some ⟨some d, .build t parts.toArray, ty, pos, after, G⟩) (q : ∀ a, AgM ds a n ((d, .agg cs.toArray) :: L) → wpAnyP pq P ops (NormEnd K) C fu (listed.setIfInBounds ix true) a w) (hsel : Region.noSelect ops = true := by kernel_rfl) (hfr : Fre pq ops listed ix = true := by kernel_rfl) (hre : (Region.ready .any ops listed).contains ix = true := by kernel_rfl) (hn : Nat.blt d n = true := by exact rfl) : wpAnyP pq P ops (NormEnd K) C (fu + 1) listed a w :=
  hd_ok ix hsel hfr hre hC h hG hix rfl hn (fun _ _ => ex_lit h hp hb hok hc) q
def EqOf {α : Type} [DecidableEq α] (P : Program) (t : TypeId) (V : α → Value) : Prop :=
  ∀ (e f : α) (ox oy : Operand) (w : World), (eqGuard .eql t ox oy (V e) (V f)).run P w = .ok () w ∧ (eqGuard .neq t ox oy (V e) (V f)).run P w = .ok () w ∧
    (binOp .eql t (V e) (V f)).run P w = .ok (.bool (decide (e = f))) w ∧ (binOp .neq t (V e) (V f)).run P w = .ok (.bool (!decide (e = f))) w
section
variable {α : Type} [DecidableEq α] {V : α → Value} {e f : α}
theorem ex_neV {G : Option (Nat × Bool)} (h : AgM ds a n L) (hx : ev L x = some (V e)) (hy : ev L y = some (V f)) (he : EqOf P t V) : (execOp a.eval ⟨some d, .binOp .neq t x y t', ty, pos, after, G⟩).run P w = .ok (.value (.bool (decide (e ≠ f)))) w := by
 obtain ⟨_, h2, _, h4⟩ := he e f x y w
 simp [execOp, h.eval hx, h.eval hy, h2, h4]
theorem qt_neV (h : AgM ds a n L) (hx : ev L x = some (V e)) (hy : ev L y = some (V f)) (he : EqOf P t V) (hn : Nat.blt d n = true) (q : ∀ a, AgM ds a n ((d, .bool (decide (e ≠ f))) :: L) → wpQuiet P ops C Qa rest a) : wpQuiet P ops C Qa (⟨some d, .binOp .neq t x y t', ty, pos, after, none⟩ :: rest) a :=
 qt_ok h rfl rfl hn (fun _ _ => ex_neV h hx hy he) q
end
theorem retC {fn : Func} {R : Ending → World → Prop} {p pt : Nat} (h : Ag a n L) (hr : fn.results = #[.cell p pt]) (hp : look L p = some (.pointer (some ⟨g, 0, none⟩))) (hb : Blk w g T cs) (hg : AggOf P pt cs.length) (k : R (.returned (.agg cs.toArray)) w) : bodyPost P fn R .ret a w :=
 bodyPost_ret (v := .agg cs.toArray) (by
  have h1 := h.at_ p _ hp
  simp only [Array.getD_eq_getD_getElem?] at h1
  simp [results, hr, h1, asAddr, loadVar, hg.1 w, hg.2 w, run_loadCells_list w _ cs hb.cells]) h.dfr k
theorem retCT {fn : Func} {R : Ending → World → Prop} {p pt q : Nat} (h : Ag a n L) (hr : fn.results = #[.cell p pt, .tmp q]) (hp : look L p = some (.pointer (some ⟨g, 0, none⟩))) (hb : Blk w g T cs) (hg : AggOf P pt cs.length) (hv : look L q = some v) (k : R (.returned (.tuple #[.agg cs.toArray, v])) w) : bodyPost P fn R .ret a w :=
 bodyPost_ret (v := .tuple #[.agg cs.toArray, v]) (by
  have h1 := h.at_ p _ hp
  have h2 := h.at_ q _ hv
  simp only [Array.getD_eq_getD_getElem?] at h1 h2
  simp [results, hr, h1, h2, asAddr, loadVar, hg.1 w, hg.2 w, run_loadCells_list w _ cs hb.cells]) h.dfr k
theorem retCTT {fn : Func} {R : Ending → World → Prop} {p pt q r : Nat} (h : Ag a n L) (hr : fn.results = #[.cell p pt, .tmp q, .tmp r]) (hp : look L p = some (.pointer (some ⟨g, 0, none⟩))) (hb : Blk w g T cs) (hg : AggOf P pt cs.length) (hv : look L q = some v) (hu : look L r = some u) (k : R (.returned (.tuple #[.agg cs.toArray, v, u])) w) : bodyPost P fn R .ret a w :=
 bodyPost_ret (v := .tuple #[.agg cs.toArray, v, u]) (by
  have h1 := h.at_ p _ hp
  have h2 := h.at_ q _ hv
  have h3 := h.at_ r _ hu
  simp only [Array.getD_eq_getD_getElem?] at h1 h2 h3
  simp [results, hr, h1, h2, h3, asAddr, loadVar, hg.1 w, hg.2 w, run_loadCells_list w _ cs hb.cells]) h.dfr k
end
end Go.Lw
namespace Go.G14
open Go.Lw
structure Stitch where
  k : Int
  y : Int
  a : Int
  b : Int
  f : Bool
instance : DecidableEq Stitch := fun x y =>
  if h : x.k = y.k ∧ x.y = y.y ∧ x.a = y.a ∧ x.b = y.b ∧ x.f = y.f then isTrue (by cases x; cases y; simp_all) else isFalse (by intro e; subst e; simp at h)
def stV (s : Stitch) : Value := .agg #[.int .u8 s.k, .int .u8 s.y, .int .i64 s.a, .int .i64 s.b, .bool s.f]
def encSt : Enc Stitch := ⟨fun s => [.int .u8 s.k, .int .u8 s.y, .int .i64 s.a, .int .i64 s.b, .bool s.f], 5, fun _ => rfl, fun _ u h => by simp at h; rcases h with rfl | rfl | rfl | rfl | rfl <;> rfl, by decide⟩
def checkS (s : Stitch) : Int :=
  if s.k < 1 ∨ 8 < s.k ∨ s.y < 1 ∨ 6 < s.y then 1
  else if s.k ≠ 8 then (if s.a ≠ 0 ∨ s.b ≠ 0 ∨ s.f = true then 1 else 0)
  else if s.a < 1 ∨ 4 < s.a ∨ s.b < 1 ∨ 4 - s.a < s.b then 1 else 0
theorem check_rng {s : Stitch} (h : checkS s = 0) : 1 ≤ s.k ∧ s.k ≤ 8 ∧ 1 ≤ s.y ∧ s.y ≤ 6 ∧ (s.k ≠ 8 → s.a = 0 ∧ s.b = 0 ∧ s.f = false) ∧ (s.k = 8 → 1 ≤ s.a ∧ s.a ≤ 3 ∧ 1 ≤ s.b ∧ s.b ≤ 3 ∧ s.a + s.b ≤ 4) := by
 unfold checkS at h
 by_cases c1 : s.k < 1 ∨ 8 < s.k ∨ s.y < 1 ∨ 6 < s.y
 ·rw [if_pos c1] at h; omega
 rw [if_neg c1] at h
 by_cases c2 : s.k ≠ 8
 ·rw [if_pos c2] at h
  by_cases c3 : s.a ≠ 0 ∨ s.b ≠ 0 ∨ s.f = true
  ·rw [if_pos c3] at h; omega
  simp only [not_or, Decidable.not_not, Bool.not_eq_true] at c3
  exact ⟨by omega, by omega, by omega, by omega, fun _ => c3, fun e => absurd e c2⟩
 rw [if_neg c2] at h
 by_cases c3 : s.a < 1 ∨ 4 < s.a ∨ s.b < 1 ∨ 4 - s.a < s.b
 ·rw [if_pos c3] at h; omega
 exact ⟨by omega, by omega, by omega, by omega, fun e => absurd e c2, fun _ => by omega⟩
def dg (n : Int) : UInt8 := UInt8.ofNat (48 + n.toNat)
theorem dg_val (n : Int) (h0 : 0 ≤ n) (h1 : n ≤ 9) : ((dg n).toNat : Int) = 48 + n := by
 unfold dg
 rw [UInt8.toNat_ofNat']
 omega
def symbols : List UInt8 := [107, 112, 111, 47, 118, 116, 115, 99]
def textS (s : Stitch) : List UInt8 :=
  if checkS s ≠ 0 then []
  else [symbols.getD (s.k - 1).toNat 0] ++ (if s.k = 8 then [dg s.a, dg s.b, if s.f then 70 else 66] else []) ++ (if s.y ≠ 1 then [dg s.y] else [])
def kindTo : Nat → UInt8 → Int
  | 0, _ => 0
  | n + 1, c => if symbols.getD n 0 = c then ((n + 1 : Nat) : Int) else kindTo n c
def zeroS : Stitch := ⟨0, 0, 0, 0, false⟩
abbrev byte (l : List UInt8) (i : Nat) : Int := ((l.getD i 0).toNat : Int)
def guessS (l : List UInt8) : Stitch :=
  let k := kindTo 8 (l.getD 0 0)
  let r := l.drop 1
  if k = 8 ∧ 3 ≤ r.length then
    ⟨k, if (r.drop 3).length = 1 then IntKind.u8.wrap (byte (r.drop 3) 0 - 48) else 1, byte r 0 - 48, byte r 1 - 48, decide (byte r 2 = 70)⟩
  else ⟨k, if r.length = 1 then IntKind.u8.wrap (byte r 0 - 48) else 1, 0, 0, false⟩
def parseS (l : List UInt8) : Stitch × Int := if l = [] ∨ textS (guessS l) ≠ l then (zeroS, 4) else (guessS l, 0)
theorem guess_ca {l : List UInt8} (h1 : kindTo 8 (l.getD 0 0) = 8) (h2 : 3 ≤ (l.drop 1).length) (h3 : ((l.drop 1).drop 3).length = 1) :
    guessS l = ⟨kindTo 8 (l.getD 0 0), IntKind.u8.wrap (byte ((l.drop 1).drop 3) 0 - 48), byte (l.drop 1) 0 - 48, byte (l.drop 1) 1 - 48, decide (byte (l.drop 1) 2 = 70)⟩ := by
  unfold guessS; simp only; rw [if_pos ⟨h1, h2⟩, if_pos h3]
theorem guess_cb {l : List UInt8} (h1 : kindTo 8 (l.getD 0 0) = 8) (h2 : 3 ≤ (l.drop 1).length) (h3 : ¬ ((l.drop 1).drop 3).length = 1) :
    guessS l = ⟨kindTo 8 (l.getD 0 0), 1, byte (l.drop 1) 0 - 48, byte (l.drop 1) 1 - 48, decide (byte (l.drop 1) 2 = 70)⟩ := by
  unfold guessS; simp only; rw [if_pos ⟨h1, h2⟩, if_neg h3]
theorem guess_na {l : List UInt8} (h1 : ¬ (kindTo 8 (l.getD 0 0) = 8 ∧ 3 ≤ (l.drop 1).length)) (h3 : (l.drop 1).length = 1) :
    guessS l = ⟨kindTo 8 (l.getD 0 0), IntKind.u8.wrap (byte (l.drop 1) 0 - 48), 0, 0, false⟩ := by
  unfold guessS; simp only; rw [if_neg h1, if_pos h3]
theorem guess_nb {l : List UInt8} (h1 : ¬ (kindTo 8 (l.getD 0 0) = 8 ∧ 3 ≤ (l.drop 1).length)) (h3 : ¬ (l.drop 1).length = 1) :
    guessS l = ⟨kindTo 8 (l.getD 0 0), 1, 0, 0, false⟩ := by
  unfold guessS; simp only; rw [if_neg h1, if_neg h3]
theorem parse_none {l : List UInt8} (h : l = []) : parseS l = (zeroS, 4) := by rw [parseS, if_pos (.inl h)]
theorem parse_bad {l : List UInt8} {s : Stitch} (hg : guessS l = s) (h : textS s ≠ l) : parseS l = (zeroS, 4) := by rw [parseS, if_pos (.inr (by rw [hg]; exact h))]
theorem parse_good {l : List UInt8} {s : Stitch} (hl : ¬ l = []) (hg : guessS l = s) (h : ¬ textS s ≠ l) : parseS l = (s, 0) := by rw [parseS, if_neg (by rw [hg]; exact fun e => e.elim hl h), hg]
def Sym (w : World) : Prop := Cells w ⟨2, 0, none⟩ (symbols.flatMap Enc.b.enc)
theorem Sym.ext {w w' : World} (h : Sym w) (hf : Fr [] w w') : Sym w' := Cells.fr h hf (by simp)
theorem Sym.fr {w w' : World} {S : List Nat} (h : Sym w) (hf : Fr S w w') (hn : 2 ∉ S) : Sym w' := Cells.fr h hf hn
theorem Sym.pos {w : World} (h : Sym w) : 2 < w.heap.size := by
 have := h 0 (.int .u8 107) rfl
 exact block_lt_of_cell this
theorem Sym.at {w : World} (h : Sym w) (i : Nat) (hi : i < 8) : w.cell? ((⟨2, 0, none⟩ : Addr).add (i * 1)) = some (.int .u8 ((symbols.getD i 0).toNat : Int)) := by
 rw [Nat.mul_one]
 refine h i _ ?_
 match i, hi with
 | 0, _ | 1, _ | 2, _ | 3, _ | 4, _ | 5, _ | 6, _ | 7, _ => rfl
theorem sym_get (i : Nat) (hi : i < 8) : (symbols.flatMap Enc.b.enc)[i]? = some (.int .u8 ((symbols.getD i 0).toNat : Int)) := by
 match i, hi with
 | 0, _ | 1, _ | 2, _ | 3, _ | 4, _ | 5, _ | 6, _ | 7, _ => rfl
theorem byte_eq {a b : UInt8} : ((a.toNat : Nat) : Int) = ((b.toNat : Nat) : Int) ↔ a = b := by
 constructor
 ·intro h; exact UInt8.toNat_inj.1 (by omega)
 rintro rfl; rfl
end Go.G14
namespace Go.G14
open Go.Lw
def isDig (c : UInt8) : Bool := decide (48 ≤ (c.toNat : Int) ∧ (c.toNat : Int) ≤ 57)
def dstep (n : Int) (c : UInt8) : Int := 10 * n + ((c.toNat : Int) - 48)
def valS (l : List UInt8) : Int := l.foldl dstep 0
def numberS (l : List UInt8) (most : Int) : Int :=
  if l.length = 0 ∨ 2 < l.length ∨ ((l.getD 0 0).toNat : Int) = 48 then 0
  else if l.all isDig = false then 0
  else if valS l < 2 ∨ most < valS l then 0 else valS l
def cstep (n : Int) (c : UInt8) : Int := min (10 * n + ((c.toNat : Int) - 48)) 1000
def capS (l : List UInt8) : Int := l.foldl cstep 0
def countS (l : List UInt8) (most : Int) : Int × Int :=
  let ds := l.takeWhile isDig
  if ds.length = 0 ∨ ((l.getD 0 0).toNat : Int) = 48 ∨ capS ds < 2 ∨ most < capS ds then (0, 0) else (capS ds, ds.length)
def lessP (a b : List UInt8) : Prop := a.length < b.length ∨ (a.length = b.length ∧ Op.bytesLess a b = true)
instance (a b : List UInt8) : Decidable (lessP a b) := by unfold lessP; infer_instance
def betterS (a b : List UInt8) : List UInt8 := if a = [] ∨ (b ≠ [] ∧ lessP b a) then b else a
theorem take_snoc (l : List UInt8) (k : Nat) (h : k < l.length) : l.take (k + 1) = l.take k ++ [l.getD k 0] := by
 rw [List.take_succ_eq_append_getElem h]; simp [List.getD, h]
theorem capS_snoc (l : List UInt8) (c : UInt8) : capS (l ++ [c]) = cstep (capS l) c := by simp [capS]
theorem all_snoc (l : List UInt8) (c : UInt8) (h : l.all isDig = true) (hc : isDig c = true) : (l ++ [c]).all isDig = true := by simp [h, hc]
theorem isDig_iff (c : UInt8) : isDig c = true ↔ 48 ≤ (c.toNat : Int) ∧ (c.toNat : Int) ≤ 57 := by simp [isDig]
theorem takeWhile_eq (l : List UInt8) (k : Nat) (hk : k ≤ l.length) (ha : (l.take k).all isDig = true) (hn : ¬ (k < l.length ∧ 48 ≤ ((l.getD k 0).toNat : Int) ∧ ((l.getD k 0).toNat : Int) ≤ 57)) : l.takeWhile isDig = l.take k := by
 induction l generalizing k with
 | nil => simp
 | cons c l ih =>
  match k with
  | 0 =>
   have : isDig c = false := by
    rw [Bool.eq_false_iff]; intro e
    exact hn ⟨by simp, (isDig_iff c).1 e⟩
   simp [List.takeWhile, this]
  | k + 1 =>
   simp only [List.take_succ_cons, List.all_cons, Bool.and_eq_true] at ha
   rw [List.takeWhile_cons_of_pos ha.1, List.take_succ_cons, ih k (by simp at hk; omega) ha.2 (by simpa using hn)]
theorem count_bad {l : List UInt8} {most : Int} {k : Nat} (hw : l.takeWhile isDig = l.take k) (hk : k ≤ l.length) (c : k = 0 ∨ ((l.getD 0 0).toNat : Int) = 48 ∨ capS (l.take k) < 2 ∨ most < capS (l.take k)) : countS l most = (0, 0) := by
 have hl : (l.take k).length = k := by simp; omega
 simp only [countS, hw, hl]; rw [if_pos c]
theorem count_good {l : List UInt8} {most : Int} {k : Nat} (hw : l.takeWhile isDig = l.take k) (hk : k ≤ l.length) (c : ¬ (k = 0 ∨ ((l.getD 0 0).toNat : Int) = 48 ∨ capS (l.take k) < 2 ∨ most < capS (l.take k))) : countS l most = (capS (l.take k), (k : Int)) := by
 have hl : (l.take k).length = k := by simp; omega
 simp only [countS, hw, hl]; rw [if_neg c]
theorem capS_rng : ∀ (l : List UInt8), l.all isDig = true → 0 ≤ capS l ∧ capS l ≤ 1000 := by
 have key : ∀ (l : List UInt8) (n : Int), 0 ≤ n ∧ n ≤ 1000 → l.all isDig = true → 0 ≤ l.foldl cstep n ∧ l.foldl cstep n ≤ 1000 := by
  intro l
  induction l with
  | nil => intro n h _; exact h
  | cons c l ih =>
   intro n h ha
   simp only [List.all_cons, Bool.and_eq_true] at ha
   have := (isDig_iff c).1 ha.1
   exact ih _ (by unfold cstep; omega) ha.2
 exact fun l h => key l 0 (by omega) h
def Sl2 (w : World) (v : Value) (rows : List (List Stitch)) : Prop :=
  ∃ hs : List (Option Addr × Nat × Nat), Sl Enc.sl w v hs ∧ hs.length = rows.length ∧ ∀ (i : Nat) (p : Option Addr × Nat × Nat) (row : List Stitch), hs[i]? = some p → rows[i]? = some row → Sl encSt w (.slice p.1 p.2.1 p.2.2) row
theorem Sl2.ext {w w' : World} {v : Value} {rows : List (List Stitch)} (h : Sl2 w v rows) (hf : Fr [] w w') : Sl2 w' v rows := by
 obtain ⟨hs, h1, h2, h3⟩ := h
 exact ⟨hs, h1.ext hf, h2, fun i p row hp hr => (h3 i p row hp hr).ext hf⟩
theorem Sl.open_ {α : Type} {E : Enc α} {w : World} {A : Option Addr} {n c : Nat} {ys : List α} (h : Sl E w (.slice A n c) ys) : n = ys.length ∧ ys.length ≤ c ∧ c ≤ maxLen ∧ ∀ i y, ys[i]? = some y → ∃ ad, A = some ad ∧ Cells w (ad.add (i * E.sz)) (E.enc y) := by
 obtain ⟨A', c', e, h1, h2, h3⟩ := h
 cases e
 exact ⟨rfl, h1, h2, h3⟩
theorem take_ne {α : Type} {xs ys : List α} {k : Nat} {x y : α} (hx : xs[k]? = some x) (hy : ys[k]? = some y) (h : x ≠ y) : xs ≠ ys := by
 rintro rfl; rw [hx] at hy; cases hy; exact h rfl
def itoaS (n : Nat) : List UInt8 := if n < 10 then [dg n] else [dg ((n / 10 : Nat) : Int), dg ((n % 10 : Nat) : Int)]
end Go.G14
namespace Go.G14
open Go.Lw
def endS (l : List UInt8) : Nat → Nat → Nat
  | 0, p => p
  | m + 1, p => if p < l.length ∧ l.getD p 0 ≠ 32 ∧ l.getD p 0 ≠ 93 then endS l m (p + 1) else p
def wordEnd (l : List UInt8) (p : Nat) : Nat := endS l (l.length - p) p
def leafS (l : List UInt8) (p : Nat) : Option (List Stitch × Nat) :=
  let t := parseS ((l.take (wordEnd l p)).drop p)
  if t.2 = 0 then some ([t.1], wordEnd l p) else none
def timesS (xs : List Stitch) (n : Nat) : List Stitch := (List.replicate n xs).flatten
def closeS (l : List UInt8) (xs : List Stitch) (q : Nat) : Option (List Stitch × Nat) :=
  if [93, 120] <+: l.drop q then
    let c := countS (l.drop (q + 2)) 16
    if 0 < c.2 then some ((timesS xs c.1.toNat).take 17, q + 2 + c.2.toNat) else none
  else none
def readS (l : List UInt8) : Nat → Bool → Nat → List Stitch → Option (List Stitch × Nat)
  | 0, false, p, _ => if p = l.length ∨ l.getD p 0 ≠ 91 then leafS l p else none
  | 0, true, _, _ => none
  | F + 1, false, p, _ =>
    if p = l.length ∨ l.getD p 0 ≠ 91 then leafS l p
    else match readS l F true (p + 1) [] with
      | none => none
      | some (xs, q) => closeS l xs q
  | F + 1, true, p, acc =>
    match readS l F false p [] with
    | none => none
    | some (xs, q) => if q = l.length ∨ l.getD q 0 ≠ 32 then some ((acc ++ xs).take 17, q) else readS l F true (q + 1) ((acc ++ xs).take 17)
def rowS (l : List UInt8) : Option (List Stitch) :=
  match readS l (2 * l.length + 1) true 0 [] with
  | some (xs, q) => if q = l.length then some xs else none
  | none => none
def expandS (l : List UInt8) : List Stitch × Int :=
  if 1024 < l.length then ([], 3)
  else match rowS l with
    | none => ([], 4)
    | some xs => if 16 < xs.length then ([], 3) else (xs, 0)
theorem endS_rng (l : List UInt8) : ∀ m p, p ≤ l.length → p ≤ endS l m p ∧ endS l m p ≤ l.length
 | 0, p, h => ⟨Nat.le_refl _, h⟩
 | m + 1, p, h => by
  unfold endS
  split
  ·rename_i c
   have := endS_rng l m (p + 1) (by omega)
   omega
  exact ⟨Nat.le_refl _, h⟩
theorem wordEnd_rng {l : List UInt8} {p : Nat} (h : p ≤ l.length) : p ≤ wordEnd l p ∧ wordEnd l p ≤ l.length := endS_rng l _ p h
theorem wordEnd_here {l : List UInt8} {p : Nat} (h : ¬ (p < l.length ∧ l.getD p 0 ≠ 32 ∧ l.getD p 0 ≠ 93)) : wordEnd l p = p := by
 unfold wordEnd
 cases l.length - p with
 | zero => rfl
 | succ m => rw [endS, if_neg h]
theorem wordEnd_next {l : List UInt8} {p : Nat} (h : p < l.length ∧ l.getD p 0 ≠ 32 ∧ l.getD p 0 ≠ 93) : wordEnd l p = wordEnd l (p + 1) := by
 unfold wordEnd
 rw [show l.length - p = l.length - (p + 1) + 1 by omega, endS, if_pos h]
theorem parse_nil : (parseS []).2 = 4 := rfl
theorem leaf_pos {l : List UInt8} {p : Nat} {xs : List Stitch} {q : Nat} (h : leafS l p = some (xs, q)) (hp : p ≤ l.length) : p < q ∧ q ≤ l.length ∧ xs.length = 1 := by
 unfold leafS at h
 simp only at h
 split at h
 ·rename_i hz
  simp at h
  obtain ⟨rfl, rfl⟩ := h
  have := wordEnd_rng hp
  refine ⟨?_, this.2, rfl⟩
  rcases Nat.lt_or_ge p (wordEnd l p) with c | c
  ·exact c
  have e : wordEnd l p = p := by omega
  rw [e, show (l.take p).drop p = [] by simp] at hz
  rw [parse_nil] at hz; omega
 cases h
theorem all_tw : ∀ (l : List UInt8), (l.takeWhile isDig).all isDig = true
 | [] => rfl
 | c :: l => by
  by_cases h : isDig c = true
  ·rw [List.takeWhile_cons_of_pos h, List.all_cons, h, all_tw l]; rfl
  rw [List.takeWhile_cons_of_neg h]; rfl
theorem count_rng {l : List UInt8} {m : Int} : 0 ≤ (countS l m).2 ∧ (countS l m).2 ≤ l.length ∧ ((countS l m).2 = 0 → (countS l m).1 = 0) ∧ 0 ≤ (countS l m).1 ∧ (0 ≤ m → (countS l m).1 ≤ m) := by
 unfold countS
 simp only
 have h1 : (l.takeWhile isDig).length ≤ l.length := (List.takeWhile_sublist _).length_le
 have h2 := capS_rng _ (all_tw l)
 split
 ·simp
 rename_i c
 exact ⟨by simp, by simp only; omega, fun h => by simp only at h; omega, h2.1, fun _ => by simp only; omega⟩
theorem close_pos {l : List UInt8} {xs ys : List Stitch} {q r : Nat} (h : closeS l xs q = some (ys, r)) : q < r ∧ r ≤ l.length ∧ ys.length ≤ 17 := by
 unfold closeS at h
 split at h
 ·rename_i hp
  simp only at h
  split at h
  ·simp at h
   obtain ⟨rfl, rfl⟩ := h
   have h1 := @count_rng (l.drop (q + 2)) 16
   have h2 := hp.length_le
   simp at h1 h2
   refine ⟨by omega, by omega, by simp; omega⟩
  cases h
 cases h
theorem read_pos {l : List UInt8} : ∀ (F : Nat) (t : Bool) (p : Nat) (acc xs : List Stitch) (q : Nat), p ≤ l.length → readS l F t p acc = some (xs, q) → p < q ∧ q ≤ l.length ∧ xs.length ≤ 17
 | 0, false, p, acc, xs, q, hp, h => by
  unfold readS at h
  split at h
  ·have := leaf_pos h hp; omega
  cases h
 | 0, true, p, acc, xs, q, hp, h => by unfold readS at h; cases h
 | F + 1, false, p, acc, xs, q, hp, h => by
  unfold readS at h
  split at h
  ·have := leaf_pos h hp; omega
  rename_i c
  have c' : p < l.length := by omega
  cases hr : readS l F true (p + 1) [] with
  | none => rw [hr] at h; cases h
  | some r =>
   obtain ⟨ys, r⟩ := r
   rw [hr] at h
   have := read_pos F true (p + 1) [] ys r (by omega) hr
   have := close_pos h
   omega
 | F + 1, true, p, acc, xs, q, hp, h => by
  unfold readS at h
  cases hr : readS l F false p [] with
  | none => rw [hr] at h; cases h
  | some r =>
   obtain ⟨ys, r⟩ := r
   rw [hr] at h
   simp only at h
   have h1 := read_pos F false p [] ys r hp hr
   split at h
   ·simp at h
    obtain ⟨rfl, rfl⟩ := h
    refine ⟨h1.1, h1.2.1, by simp; omega⟩
   rename_i c
   have := read_pos F true (r + 1) _ xs q (by omega) h
   omega
theorem take_min {α : Type} (l : List α) (n : Nat) : l.take (min l.length n) = l.take n := by
 rcases Nat.le_total l.length n with h | h
 ·rw [Nat.min_eq_left h, List.take_of_length_le (Nat.le_refl _), List.take_of_length_le h]
 rw [Nat.min_eq_right h]
theorem times_succ (xs : List Stitch) (n : Nat) : timesS xs (n + 1) = timesS xs n ++ xs := by
 simp [timesS, List.replicate_succ']
theorem times_len (xs : List Stitch) (n : Nat) : (timesS xs n).length = n * xs.length := by simp [timesS]
theorem read_row_none {l : List UInt8} {m p : Nat} {acc : List Stitch} (h : readS l m false p [] = none) : readS l (m + 1) true p acc = none := by rw [readS, h]
theorem read_row_end {l : List UInt8} {m p q : Nat} {acc xs : List Stitch} (h : readS l m false p [] = some (xs, q)) (c : q = l.length ∨ l.getD q 0 ≠ 32) : readS l (m + 1) true p acc = some ((acc ++ xs).take 17, q) := by
 simp only [readS, h]; rw [if_pos c]
theorem read_row_next {l : List UInt8} {m p q : Nat} {acc xs : List Stitch} (h : readS l m false p [] = some (xs, q)) (c : ¬ (q = l.length ∨ l.getD q 0 ≠ 32)) : readS l (m + 1) true p acc = readS l m true (q + 1) ((acc ++ xs).take 17) := by
 simp only [readS, h]; rw [if_neg c]
theorem read_leaf {l : List UInt8} {F p : Nat} {acc : List Stitch} (c : p = l.length ∨ l.getD p 0 ≠ 91) : readS l F false p acc = leafS l p := by
 cases F <;> rw [readS, if_pos c]
theorem read_rep {l : List UInt8} {m p : Nat} {acc : List Stitch} (c : ¬ (p = l.length ∨ l.getD p 0 ≠ 91)) : readS l (m + 1) false p acc = match readS l m true (p + 1) [] with | none => none | some (xs, q) => closeS l xs q := by
 rw [readS, if_neg c]
theorem leaf_some {l : List UInt8} {p k : Nat} (hk : k = wordEnd l p) (h : (parseS ((l.take k).drop p)).2 = 0) : leafS l p = some ([(parseS ((l.take k).drop p)).1], k) := by
 subst hk; rw [leafS, if_pos h]
theorem leaf_none {l : List UInt8} {p k : Nat} (hk : k = wordEnd l p) (h : ¬ (parseS ((l.take k).drop p)).2 = 0) : leafS l p = none := by
 subst hk; rw [leafS, if_neg h]
theorem or_byte {l : List UInt8} {p : Nat} {c : UInt8} (h : p = l.length ∨ ((l.getD p 0).toNat : Int) ≠ (c.toNat : Int)) : p = l.length ∨ l.getD p 0 ≠ c := h.imp id fun e e' => e (by rw [e'])
theorem nor_byte {l : List UInt8} {p : Nat} {c : UInt8} (h : ¬ (p = l.length ∨ ((l.getD p 0).toNat : Int) ≠ (c.toNat : Int))) : ¬ (p = l.length ∨ l.getD p 0 ≠ c) := fun e => h (e.imp id fun e e' => e (byte_eq.1 e'))
end Go.G14
namespace Go.G14
open Go.Lw
def partS (row : List Stitch) (i n : Nat) : List Stitch := (row.drop i).take n
def repsB (row : List Stitch) (i n one : Nat) : Bool := decide ((partS row i n).drop one = (partS row i n).take (n - one))
def repT (t : List UInt8) (times : Nat) : List UInt8 := 91 :: (t ++ [93, 120] ++ itoaS times)
def zeroSt : Stitch := ⟨0, 0, 0, 0, false⟩
def itemStep (t : Nat → Nat → List UInt8 × List UInt8) (row : List Stitch) (i n : Nat) (it : List UInt8) (times : Nat) : List UInt8 :=
  if n / times * times = n ∧ repsB row i n (n / times) = true then betterS it (repT (t i (n / times)).2 times) else it
def itemTo (t : Nat → Nat → List UInt8 × List UInt8) (row : List Stitch) (i n : Nat) : Nat → List UInt8
  | 0 => if n = 1 then textS (row.getD i zeroSt) else []
  | k + 1 => itemStep t row i n (itemTo t row i n k) (k + 2)
def textStep (t : Nat → Nat → List UInt8 × List UInt8) (i n : Nat) (best : List UInt8) (m : Nat) : List UInt8 :=
  if (t i m).1 ≠ [] then betterS best ((t i m).1 ++ [32] ++ (t (i + m) (n - m)).2) else best
def textTo (t : Nat → Nat → List UInt8 × List UInt8) (i n : Nat) (item : List UInt8) : Nat → List UInt8
  | 0 => item
  | k + 1 => textStep t i n (textTo t i n item k) (k + 1)
def tabS (row : List Stitch) : Nat → Nat → Nat → List UInt8 × List UInt8
  | 0, _, _ => ([], [])
  | L + 1, i, n =>
    if n = L + 1 then
      let item := itemTo (tabS row L) row i n (n - 1)
      (item, textTo (tabS row L) i n item (n - 1))
    else tabS row L i n
theorem tab_old (row : List Stitch) : ∀ (L L' i n : Nat), n ≤ L → L ≤ L' → tabS row L' i n = tabS row L i n
 | L, 0, i, n, h1, h2 => by rw [show L = 0 by omega]
 | L, L' + 1, i, n, h1, h2 => by
  rcases Nat.lt_or_ge L (L' + 1) with h | h
  ·rw [tabS, if_neg (by omega), tab_old row L L' i n h1 (by omega)]
  rw [show L = L' + 1 by omega]
def shortS (row : List Stitch) : List UInt8 := (tabS row row.length 0 row.length).2
theorem better_len (a b : List UInt8) (m : Nat) (ha : a.length ≤ m) (hb : b.length ≤ m) : (betterS a b).length ≤ m := by
 unfold betterS; split <;> assumption
theorem textS_len (s : Stitch) : (textS s).length ≤ 5 := by
 unfold textS
 split
 ·simp
 (repeat' split) <;> simp
theorem itoa_len (n : Nat) : (itoaS n).length ≤ 2 := by unfold itoaS; split <;> simp
theorem rep_len (t : List UInt8) (times : Nat) : (repT t times).length ≤ t.length + 5 := by
 have := itoa_len times
 simp [repT]; omega
theorem item_len (t : Nat → Nat → List UInt8 × List UInt8) (row : List Stitch) (i n : Nat) (hn : 1 ≤ n) (ht : ∀ m, 1 ≤ m → m < n → (t i m).2.length ≤ 12 * m - 1) : ∀ k, (itemTo t row i n k).length ≤ 12 * n - 1
 | 0 => by
  unfold itemTo
  split
  ·have := textS_len (row.getD i zeroSt); omega
  simp
 | k + 1 => by
  have ih := item_len t row i n hn ht k
  unfold itemTo itemStep
  split
  ·rename_i c
   have h1 : n / (k + 2) * (k + 2) = n := c.1
   have h2 : 1 ≤ n / (k + 2) := by
    rcases Nat.eq_zero_or_pos (n / (k + 2)) with e | e
    ·rw [e] at h1; omega
    exact e
   have h3 : n / (k + 2) < n := Nat.div_lt_self (by omega) (by omega)
   have := ht _ h2 h3
   have := rep_len (t i (n / (k + 2))).2 (k + 2)
   exact better_len _ _ _ ih (by omega)
  exact ih
theorem text_len (t : Nat → Nat → List UInt8 × List UInt8) (i n : Nat) (item : List UInt8) (hi : item.length ≤ 12 * n - 1) (ht : ∀ j m, 1 ≤ m → m < n → (t j m).1.length ≤ 12 * m - 1 ∧ (t j m).2.length ≤ 12 * m - 1) : ∀ k, k < n → (textTo t i n item k).length ≤ 12 * n - 1
 | 0, _ => hi
 | k + 1, hk => by
  have ih := text_len t i n item hi ht k (by omega)
  unfold textTo textStep
  split
  ·have h1 := (ht i (k + 1) (by omega) hk).1
   have h2 := (ht (i + (k + 1)) (n - (k + 1)) (by omega) (by omega)).2
   exact better_len _ _ _ ih (by simp; omega)
  exact ih
theorem tab_len (row : List Stitch) : ∀ (L i n : Nat), 1 ≤ n → (tabS row L i n).1.length ≤ 12 * n - 1 ∧ (tabS row L i n).2.length ≤ 12 * n - 1
 | 0, i, n, hn => by simp [tabS]
 | L + 1, i, n, hn => by
  unfold tabS
  split
  ·have h1 := item_len (tabS row L) row i n hn (fun m h1 _ => (tab_len row L i m h1).2) (n - 1)
   exact ⟨h1, text_len (tabS row L) i n _ h1 (fun j m h1 _ => tab_len row L j m h1) (n - 1) (by omega)⟩
  exact tab_len row L i n hn
theorem item_congr {t t' : Nat → Nat → List UInt8 × List UInt8} {row : List Stitch} {i n : Nat} (h : ∀ m, m < n → t i m = t' i m) : ∀ k, k < n → itemTo t row i n k = itemTo t' row i n k
 | 0, _ => rfl
 | k + 1, hk => by
  rw [itemTo, itemTo, item_congr h k (by omega), itemStep, itemStep, h (n / (k + 2)) (Nat.div_lt_self (by omega) (by omega))]
theorem text_congr {t t' : Nat → Nat → List UInt8 × List UInt8} {i n : Nat} {item : List UInt8} (h : ∀ j m, m < n → t j m = t' j m) : ∀ k, k < n → textTo t i n item k = textTo t' i n item k
 | 0, _ => rfl
 | k + 1, hk => by
  rw [textTo, textTo, text_congr h k (by omega), textStep, textStep, h i (k + 1) hk, h (i + (k + 1)) (n - (k + 1)) (by omega)]
def T (row : List Stitch) : Nat → Nat → List UInt8 × List UInt8 := tabS row row.length
theorem T_item (row : List Stitch) (i n : Nat) (h1 : 1 ≤ n) (h2 : n ≤ row.length) : (T row i n).1 = itemTo (T row) row i n (n - 1) := by
 unfold T
 obtain ⟨m, rfl⟩ : ∃ m, n = m + 1 := ⟨n - 1, by omega⟩
 rw [tab_old row (m + 1) row.length i (m + 1) (Nat.le_refl _) h2, tabS, if_pos rfl]
 exact item_congr (fun k hk => (tab_old row m row.length i k (by omega) (by omega)).symm) _ (by omega)
theorem T_text (row : List Stitch) (i n : Nat) (h1 : 1 ≤ n) (h2 : n ≤ row.length) : (T row i n).2 = textTo (T row) i n (T row i n).1 (n - 1) := by
 have h := T_item row i n h1 h2
 unfold T at h ⊢
 obtain ⟨m, rfl⟩ : ∃ m, n = m + 1 := ⟨n - 1, by omega⟩
 rw [tab_old row (m + 1) row.length i (m + 1) (Nat.le_refl _) h2] at h ⊢
 conv => lhs; rw [tabS, if_pos rfl]
 have h3 : (tabS row (m + 1) i (m + 1)).1 = itemTo (tabS row m) row i (m + 1) (m + 1 - 1) := by rw [tabS, if_pos rfl]
 rw [h3]
 exact text_congr (fun j k hk => (tab_old row m row.length j k (by omega) (by omega)).symm) _ (by omega)
def mfun (n : Nat) (t : Nat → Nat → List UInt8) (L i : Nat) : Int × Int → Option Value := fun k =>
  if 0 ≤ k.1 ∧ k.1 < k.2 ∧ k.2 ≤ n ∧ (k.2 - k.1 < L ∨ (k.2 - k.1 = L ∧ k.1 < i)) then some (S (t k.1.toNat (k.2 - k.1).toNat)) else none
theorem mfun_zero (n : Nat) (t : Nat → Nat → List UInt8) : mfun n t 1 0 = fun _ => none := by
 funext k; unfold mfun; rw [if_neg (by omega)]
theorem mfun_next {n L i : Nat} (t : Nat → Nat → List UInt8) (h : n < i + L) : mfun n t L i = mfun n t (L + 1) 0 := by
 funext k
 unfold mfun
 by_cases c : 0 ≤ k.1 ∧ k.1 < k.2 ∧ k.2 ≤ n ∧ (k.2 - k.1 < L ∨ (k.2 - k.1 = L ∧ k.1 < i))
 ·rw [if_pos c, if_pos (by omega)]
 rw [if_neg c, if_neg (by omega)]
theorem mfun_set {n L i : Nat} (t : Nat → Nat → List UInt8) (h1 : 1 ≤ L) (h : i + L ≤ n) : (fun k' => if k' = ((i : Int), (i : Int) + (L : Int)) then some (S (t i L)) else mfun n t L i k') = mfun n t L (i + 1) := by
 funext k
 obtain ⟨a, b⟩ := k
 by_cases e : a = i ∧ b = (i : Int) + L
 ·obtain ⟨rfl, rfl⟩ := e
  rw [if_pos rfl, mfun, if_pos (by simp only; omega)]
  simp only
  rw [show ((i : Int) + (L : Int) - (i : Int)).toNat = L by omega]; rfl
 rw [if_neg (by simp only [Prod.mk.injEq]; exact e)]
 unfold mfun
 simp only
 by_cases c : 0 ≤ a ∧ a < b ∧ b ≤ n ∧ (b - a < L ∨ (b - a = L ∧ a < i))
 ·rw [if_pos c, if_pos (by omega)]
 rw [if_neg c, if_neg (by omega)]
theorem mfun_hit {n L i : Nat} (t : Nat → Nat → List UInt8) (a m : Nat) (x y : Int) (hx : x = a) (hy : y = (a : Int) + m) (h1 : 1 ≤ m) (h2 : a + m ≤ n) (h3 : m < L) (z : Value) : (mfun n t L i (x, y)).getD z = S (t a m) := by
 subst hx hy
 rw [mfun, if_pos (by simp only; omega)]
 simp only [Option.getD_some]
 rw [show ((a : Int) + (m : Int) - (a : Int)).toNat = m by omega]; rfl
theorem T_len (row : List Stitch) (i n : Nat) (h : 1 ≤ n) : (T row i n).1.length ≤ 12 * n - 1 ∧ (T row i n).2.length ≤ 12 * n - 1 := tab_len row _ i n h
theorem itemT_len (row : List Stitch) (i n k : Nat) (h : 1 ≤ n) : (itemTo (T row) row i n k).length ≤ 12 * n - 1 := item_len _ row i n h (fun m h1 _ => (T_len row i m h1).2) k
theorem textT_len (row : List Stitch) (i n k : Nat) (item : List UInt8) (hi : item.length ≤ 12 * n - 1) (hk : k < n) : (textTo (T row) i n item k).length ≤ 12 * n - 1 := text_len _ i n item hi (fun j m h1 _ => T_len row j m h1) k hk
theorem part_len {row : List Stitch} {i n : Nat} (h : i + n ≤ row.length) : (partS row i n).length = n := by simp [partS]; omega
theorem part_sl {w : World} {A : Option Addr} {n c : Nat} {row : List Stitch} {i m : Nat} (h : Sl encSt w (.slice A n c) row) (hm : i + m ≤ row.length) : Sl encSt w (.slice (if c = i then A else A.map (·.add (i * encSt.sz))) (i + m - i) (c - i)) (partS row i m) := by
 obtain ⟨h1, h2, h3, _⟩ := Sl.open_ h
 have hd := h.drop rfl (m := i) (by omega) (B := if c = i then A else A.map (·.add (i * encSt.sz))) (c' := c - i) (by omega) (by omega) (fun hlt => by rw [if_neg (by omega)])
 have ht := hd.take rfl (m := m) (by simp; omega) (B := if c = i then A else A.map (·.add (i * encSt.sz))) (c' := c - i) (by omega) (by omega) (fun _ => rfl)
 rw [show i + m - i = m by omega]; exact ht
theorem itemTo_no {t : Nat → Nat → List UInt8 × List UInt8} {row : List Stitch} {i n k : Nat} (h : ¬ (n / (k + 2) * (k + 2) = n ∧ repsB row i n (n / (k + 2)) = true)) : itemTo t row i n k = itemTo t row i n (k + 1) := by
 rw [itemTo, itemStep, if_neg h]
theorem itemTo_yes {t : Nat → Nat → List UInt8 × List UInt8} {row : List Stitch} {i n k : Nat} (h1 : n / (k + 2) * (k + 2) = n) (h2 : repsB row i n (n / (k + 2)) = true) : betterS (itemTo t row i n k) (repT (t i (n / (k + 2))).2 (k + 2)) = itemTo t row i n (k + 1) := by
 rw [itemTo, itemStep, if_pos ⟨h1, h2⟩]
theorem textTo_no {t : Nat → Nat → List UInt8 × List UInt8} {i n k : Nat} {it : List UInt8} (h : ¬ (t i (k + 1)).1 ≠ []) : textTo t i n it k = textTo t i n it (k + 1) := by
 rw [textTo, textStep, if_neg h]
theorem textTo_yes {t : Nat → Nat → List UInt8 × List UInt8} {i n k : Nat} {it : List UInt8} (h : (t i (k + 1)).1 ≠ []) : betterS (textTo t i n it k) ((t i (k + 1)).1 ++ [32] ++ (t (i + (k + 1)) (n - (k + 1))).2) = textTo t i n it (k + 1) := by
 rw [textTo, textStep, if_pos h]
theorem repsB_iff {row : List Stitch} {i n one : Nat} (h : i + n ≤ row.length) : repsB row i n one = true ↔ (partS row i n).drop one = (partS row i n).take ((partS row i n).length - one) := by
 rw [repsB, part_len h, decide_eq_true_iff]
def okB (s : Stitch) : Bool := decide (checkS s = 0)
theorem okB_iff (s : Stitch) : okB s = true ↔ checkS s = 0 := by simp [okB]
theorem all_snocS (l : List Stitch) (c : Stitch) (h : l.all okB = true) (hc : okB c = true) : (l ++ (some c).toList).all okB = true := by simp [h, hc]
theorem check_zero {s : Stitch} (hk : 0 ≤ s.k) (hy : 0 ≤ s.y) (h : ¬ (s.y = 0 ∨ 6 < s.y ∨ s.k = 0 ∨ 8 < s.k)) (h2 : (s.k = 8 ∧ 1 ≤ s.a ∧ 1 ≤ s.b ∧ s.a + s.b ≤ 4) ∨ (s.k ≠ 8 ∧ s.a = 0 ∧ s.b = 0 ∧ s.f = false)) : checkS s = 0 := by
 unfold checkS
 rw [if_neg (by omega)]
 rcases h2 with ⟨h3, h4⟩ | ⟨h3, h4, h5, h6⟩
 ·rw [if_neg (by omega), if_neg (by omega)]
 rw [if_pos h3, if_neg (by simp [h4, h5, h6])]
def shortenS (xs : List Stitch) : List UInt8 × Int :=
  if 16 < xs.length then ([], 3) else if xs.length = 0 then ([], 1) else if xs.all okB = true then (shortS xs, 0) else ([], 1)
end Go.G14
namespace Go.G14
open Go.Lw
theorem refsym (k : Int) (h1 : 1 ≤ k) (h8 : k ≤ 8) : (([63, 107, 112, 111, 47, 118, 116, 115, 99] : List UInt8).take (k + 1).toNat).drop k.toNat = [symbols.getD (k - 1).toNat 0] := by
 rcases (by omega : k = 1 ∨ k = 2 ∨ k = 3 ∨ k = 4 ∨ k = 5 ∨ k = 6 ∨ k = 7 ∨ k = 8) with rfl | rfl | rfl | rfl | rfl | rfl | rfl | rfl <;> rfl
theorem refdig (k : Int) (h1 : 0 ≤ k) (h8 : k ≤ 6) : (([48, 49, 50, 51, 52, 53, 54] : List UInt8).take (k + 1).toNat).drop k.toNat = [dg k] := by
 rcases (by omega : k = 0 ∨ k = 1 ∨ k = 2 ∨ k = 3 ∨ k = 4 ∨ k = 5 ∨ k = 6) with rfl | rfl | rfl | rfl | rfl | rfl | rfl <;> rfl
def plainL : List (List UInt8) := [[107, 32, 112, 32, 107, 32, 112], [107, 32, 107, 32, 112, 32, 107, 32, 107, 32, 112, 32, 111], [], [], [], [], [], []]
theorem getD_get {α : Type} {l : List α} {i : Nat} (h : i < l.length) (d : α) : l[i]? = some (l.getD i d) := by
 rw [List.getD, List.getElem?_eq_getElem h]; rfl
theorem okB_pos {x : Stitch} (h : okB x = true) : 0 ≤ x.k ∧ 0 ≤ x.y := by
 have := check_rng ((okB_iff x).1 h); omega
end Go.G14
namespace Go.Lw
open Go.RowKit
abbrev SV := Option Addr × Nat × Nat
def slv (p : SV) : Value := .slice p.1 p.2.1 p.2.2
section
variable {α : Type} {E : Enc α} {T : TypeId} {base : Nat} {w w' : World} {X Y S : List Nat} {ps qs : List (SV × List α)} {u u' : SV} {r r' : List α}
theorem flat_set (ys : List α) (z : α) (R : List Value) : ∀ (i : Nat), i < ys.length → (ys.flatMap E.enc ++ R).take (i * E.sz) ++ E.enc z ++ (ys.flatMap E.enc ++ R).drop (i * E.sz + E.sz) = (ys.set i z).flatMap E.enc ++ R := by
 intro i hi
 obtain ⟨p, y, s, rfl, rfl⟩ : ∃ p y s, ys = p ++ y :: s ∧ p.length = i := ⟨ys.take i, ys[i], ys.drop (i + 1), by simp, by simp; omega⟩
 have h1 : p.length * E.sz = (p.flatMap E.enc).length := (E.flat_len p).symm
 rw [List.set_append_right _ _ (Nat.le_refl _), Nat.sub_self, List.set_cons_zero]
 simp only [List.flatMap_append, List.flatMap_cons, List.append_assoc]
 rw [h1, List.take_left, List.drop_append, List.drop_of_length_le (by omega), List.nil_append, show (p.flatMap E.enc).length + E.sz - (p.flatMap E.enc).length = (E.enc y).length by rw [E.len]; omega, List.drop_left]
end
section
variable {P : Program} {ops : Array Oper} {Q : Exit → Act → World → Prop} {rest : List Oper} {a : Act} {w : World} {n : Nat} {L : List (Nat × Value)} {ds : List Nat} {ty : TypeId} {pos : String} {after : Array Edge} {x y : Operand} {t T : TypeId} {v : Value}
theorem st_storeO {α : Type} {E : Enc α} {base g m c i : Nat} {ys : List α} (z : α) (h : AgM ds a n L) (hx : ev L x = some (.pointer (some ((⟨g, 0, none⟩ : Addr).add (i * E.sz))))) (hy : ev L y = some v) (ho : Own E T base w (.slice (some ⟨g, 0, none⟩) m c) ys) (hi : i < ys.length)
    (hc : v.cells = (E.enc z).toArray) (hs : SizeOf P t E.sz)
    (q : ∀ w', Own E T base w' (.slice (some ⟨g, 0, none⟩) m c) (ys.set i z) → Fr [g] w w' → w'.heap.size = w.heap.size → ∀ a, AgM ds a n L → wpList P ops Q rest a w') : wpList P ops Q (⟨none, .store t x y, ty, pos, after, none⟩ :: rest) a w := by
  rcases ho with ⟨e, _⟩ | ⟨g', cap, cur, e, hb, hg, h1, h2, h3, h4⟩
  · cases e
  cases e
  have hil : i * E.sz + E.sz ≤ ys.length * E.sz := by rw [← Nat.succ_mul]; exact Nat.mul_le_mul_right _ hi
  have hcs : ys.length * E.sz ≤ cur.size := Nat.le_trans (Nat.mul_le_mul_right _ h1) h3
  have hst := run_storeCells_at P g (i * E.sz) T (E.enc z) 0 cur w hg (by rw [E.len]; omega) (E.one z)
  rw [Nat.add_zero, E.len] at hst
  have hcur : cur.toList = ys.flatMap E.enc ++ cur.toList.drop (ys.length * E.sz) := by rw [← h4, List.take_append_drop]
  have hnew : cur.toList.take (i * E.sz) ++ E.enc z ++ cur.toList.drop (i * E.sz + E.sz) = (ys.set i z).flatMap E.enc ++ cur.toList.drop (ys.length * E.sz) := by
    conv => lhs; rw [hcur]
    exact flat_set ys z _ i hi
  rw [hnew] at hst
  refine st_skip h rfl rfl (w' := w.setRow g ((ys.set i z).flatMap E.enc ++ cur.toList.drop (ys.length * E.sz)).toArray) ?_ (q _ ?_ (Fr.setRow w g _) (by simp))
  · rw [lit_add, Nat.zero_add] at hx
    simp only [execOp, h.eval hx, h.eval hy, Sem.run_bind, Sem.run_pure, Result.andThen_ok, Instr.storeAt, Instr.sureAddr, storeVar, hs w, hc]
    simp [hst, E.len]
  · refine .inr ⟨g, c, _, by rw [List.length_set], hb, setRow_heap w g cur _ T _ hg, by rw [List.length_set]; exact h1, h2, ?_, ?_⟩
    · simp only [List.size_toArray, List.length_append, E.flat_len, List.length_set, List.length_drop, Array.length_toList]; omega
    · rw [List.length_set, show ys.length * E.sz = ((ys.set i z).flatMap E.enc).length by rw [E.flat_len, List.length_set]]
      exact List.take_left
end
section
variable {P : Program} {ops : Array Oper} {o o' : Oper} {K : Act → World → Prop} {C : World → Prop} {fu : Nat} {listed : Array Bool} {pq : Option Nat} {a : Act} {w : World}
theorem hd_come (ix : Nat) (hix : ops[ix]? = some o) (k : wpList P ops (NormEnd fun a' w' => Sat pq C (listed.setIfInBounds ix true) w' ∧ wpAnyP pq P ops (NormEnd K) C fu (listed.setIfInBounds ix true) a' w') [o] a w) :
    wpOp P ops (NormEnd K) ix (fun a w => Sat pq C (listed.setIfInBounds ix true) w ∧ wpAnyP pq P ops (NormEnd K) C fu (listed.setIfInBounds ix true) a w) a w := by
  unfold wpOp
  rw [hix]
  unfold wpList at k
  simp only
  split
  · rename_i hw
    rw [if_pos hw] at k
    rcases k with k | ⟨_, _, _, k⟩
    · refine .inl (Oper.wp_mono (fun a w h => h) ?_)
      unfold Oper.wp at k ⊢
      generalize (execOp a.eval o).run P w = r at k ⊢
      cases r with
      | ok nx w' =>
        cases nx <;> simp only [Oper.upon] at k ⊢ <;> first
          | exact k
          | exact Calls.mono k (fun e w'' he => by cases e <;> first | exact he | exact he.elim | (obtain ⟨_, _, he⟩ := he; exact he.elim))
          | exact Rows.mono k (fun _ _ he => he)
      | halt x w' => cases x <;> simp only [Oper.upon] at k ⊢ <;> exact k.elim
    · exact k.elim
  · rename_i hw
    rw [if_neg hw] at k
    exact k
theorem hd_two (i j : Nat) (hr : Region.ready .any ops listed = [i, j]) (hi : ops[i]? = some o) (hj : ops[j]? = some o')
    (k : wpList P ops (NormEnd fun a' w' => Sat pq C (listed.setIfInBounds i true) w' ∧ wpAnyP pq P ops (NormEnd K) C fu (listed.setIfInBounds i true) a' w') [o] a w)
    (k' : wpList P ops (NormEnd fun a' w' => Sat pq C (listed.setIfInBounds j true) w' ∧ wpAnyP pq P ops (NormEnd K) C fu (listed.setIfInBounds j true) a' w') [o'] a w) : wpAnyP pq P ops (NormEnd K) C (fu + 1) listed a w := by
  refine P_all hr (by simp) fun x hx => ?_
  simp at hx
  rcases hx with rfl | rfl
  · exact hd_come _ hi k
  · exact hd_come _ hj k'
end
end Go.Lw
namespace Go.G14
open Go.Lw
def wordS (l : List UInt8) (p : Nat) : List UInt8 := (l.take (wordEnd l p)).drop p
def ends (l : List UInt8) (b : List (List Stitch)) (p : Nat) : Prop := l.getD p 0 = 93 ∧ b ≠ [] ∧ p + 1 < l.length ∧ l.getD (p + 1) 0 = 120
instance (l : List UInt8) (b : List (List Stitch)) (p : Nat) : Decidable (ends l b p) := by unfold ends; infer_instance
section
variable {l : List UInt8} {b : List (List Stitch)} {s t : List Stitch} {p : Nat} {R : List Stitch × Int}
end
theorem Own.lens {α : Type} {E : Enc α} {T : TypeId} {base : Nat} {w : World} {u : SV} {r : List α} (h : Own E T base w (slv u) r) : u.2.1 = r.length ∧ r.length ≤ u.2.2 := by
 obtain ⟨A, c, e, hc⟩ := h.sl.form
 unfold slv at e
 injection e with e1 e2 e3
 exact ⟨e2, by omega⟩
theorem Own.at_ {α : Type} {E : Enc α} {T : TypeId} {base : Nat} {w : World} {v : Value} {r : List α} (h : Own E T base w v r) (hr : r ≠ []) : ∃ g c, v = .slice (some ⟨g, 0, none⟩) r.length c ∧ base ≤ g ∧ r.length ≤ c ∧ g < w.heap.size := by
 rcases h with ⟨_, rfl⟩ | ⟨g, c, cur, e, hb, hg, h1, _⟩
 ·exact absurd rfl hr
 exact ⟨g, c, e, hb, h1, (Array.getElem?_eq_some_iff.1 hg).1⟩
section
variable {β : Type} {T : TypeId} {base : Nat} {w : World} {A : Option Addr} {n m c : Nat} {qs : List (SV × β)} {x : SV × β}
theorem top_get (hm : m = qs.length) : ((qs ++ [x]).map Prod.fst)[m]? = some x.1 := by subst hm; simp
end
end Go.G14
namespace Go.G14
open Go.Lw
def nb (c : UInt8) : Bool := decide (c ≠ 32 ∧ c ≠ 93)
theorem nb_iff (c : UInt8) : nb c = true ↔ c ≠ 32 ∧ c ≠ 93 := by simp [nb]
theorem drop_get {l : List UInt8} {p : Nat} (h : p < l.length) : l.drop p = l.getD p 0 :: l.drop (p + 1) := by
 rw [List.drop_eq_getElem_cons h]; simp [List.getD, h]
theorem word_end {l : List UInt8} : ∀ (m p : Nat), l.length - p = m → p ≤ l.length → wordEnd l p = p + ((l.drop p).takeWhile nb).length
 | 0, p, hm, hp => by
  rw [show p = l.length by omega, List.drop_length, wordEnd_here (by omega)]; rfl
 | m + 1, p, hm, hp => by
  have hlt : p < l.length := by omega
  rw [drop_get hlt]
  by_cases c : nb (l.getD p 0) = true
  ·rw [List.takeWhile_cons_of_pos c, wordEnd_next ⟨hlt, (nb_iff _).1 c⟩, word_end m (p + 1) (by omega) (by omega), List.length_cons]; omega
  rw [List.takeWhile_cons_of_neg c, wordEnd_here (fun e => c ((nb_iff _).2 e.2))]; rfl
theorem word_tw {l : List UInt8} {p : Nat} (hp : p ≤ l.length) : wordS l p = (l.drop p).takeWhile nb := by
 rw [wordS, word_end _ p rfl hp, List.drop_take, Nat.add_sub_cancel_left]
 exact (List.prefix_iff_eq_take.1 (List.takeWhile_prefix nb)).symm
theorem tw_app {f : UInt8 → Bool} : ∀ (a b : List UInt8), a.all f = true → (a ++ b).takeWhile f = a ++ b.takeWhile f
 | [], b, _ => rfl
 | x :: a, b, h => by
  simp only [List.all_cons, Bool.and_eq_true] at h
  rw [List.cons_append, List.takeWhile_cons_of_pos h.1, tw_app a b h.2, List.cons_append]
theorem tw_drop {f : UInt8 → Bool} : ∀ (l : List UInt8), l.drop (l.takeWhile f).length = l.dropWhile f
 | [] => rfl
 | c :: l => by
  by_cases h : f c = true
  ·rw [List.takeWhile_cons_of_pos h, List.dropWhile_cons_of_pos h, List.length_cons, List.drop_succ_cons, tw_drop l]
  rw [List.takeWhile_cons_of_neg h, List.dropWhile_cons_of_neg h]; rfl
theorem cap_big : ∀ (l : List UInt8) (n : Int), 100 ≤ n → l.all isDig = true → 100 ≤ l.foldl cstep n
 | [], n, h, _ => h
 | c :: l, n, h, ha => by
  simp only [List.all_cons, Bool.and_eq_true] at ha
  have := (isDig_iff c).1 ha.1
  exact cap_big l _ (by unfold cstep; omega) ha.2
theorem num_count {r W : List UInt8} (hW : r.takeWhile isDig = W) : numberS W 16 = (countS r 16).1 ∧ ((countS r 16).2 ≠ 0 → (countS r 16).2 = W.length ∧ (countS r 16).1 ≠ 0) ∧ ((countS r 16).2 = 0 → (countS r 16).1 = 0) := by
 have ha : W.all isDig = true := by rw [← hW]; exact all_tw r
 have hg : W ≠ [] → r.getD 0 0 = W.getD 0 0 := by
  intro h
  subst hW
  cases r with
  | nil => exact absurd rfl h
  | cons x r =>
   by_cases e : isDig x = true
   ·rw [List.takeWhile_cons_of_pos e]; rfl
   rw [List.takeWhile_cons_of_neg e] at h; exact absurd rfl h
 unfold countS
 simp only [hW]
 unfold numberS
 match W, ha, hg with
 | [], _, _ => simp
 | [a], ha, hg =>
  rw [hg (by simp)]
  simp only [List.all_cons, List.all_nil, Bool.and_true] at ha
  have h1 := (isDig_iff a).1 ha
  have e : capS [a] = valS [a] := by simp [capS, valS, cstep, dstep]; omega
  rw [e]
  by_cases c1 : ((([a] : List UInt8).getD 0 0).toNat : Int) = 48
  ·rw [if_pos (.inr (.inr c1)), if_pos (.inr (.inl c1))]; simp
  rw [if_neg (by simp at c1 ⊢; omega), if_neg (by simp [ha])]
  by_cases c2 : valS [a] < 2 ∨ 16 < valS [a]
  ·rw [if_pos c2, if_pos (.inr (.inr c2))]; simp
  rw [if_neg c2, if_neg (by rintro (h | h | h); cases h; exact c1 h; exact c2 h)]; simp; omega
 | [a, b], ha, hg =>
  rw [hg (by simp)]
  simp only [List.all_cons, List.all_nil, Bool.and_true, Bool.and_eq_true] at ha
  have h1 := (isDig_iff a).1 ha.1
  have h2 := (isDig_iff b).1 ha.2
  have e : capS [a, b] = valS [a, b] := by simp [capS, valS, cstep, dstep]; omega
  rw [e]
  by_cases c1 : ((([a, b] : List UInt8).getD 0 0).toNat : Int) = 48
  ·rw [if_pos (.inr (.inr c1)), if_pos (.inr (.inl c1))]; simp
  rw [if_neg (by simp at c1 ⊢; omega), if_neg (by simp [ha.1, ha.2])]
  by_cases c2 : valS [a, b] < 2 ∨ 16 < valS [a, b]
  ·rw [if_pos c2, if_pos (.inr (.inr c2))]; simp
  rw [if_neg c2, if_neg (by rintro (h | h | h); cases h; exact c1 h; exact c2 h)]; simp; omega
 | a :: b :: d :: s, ha, hg =>
  rw [hg (by simp), if_pos (by right; left; simp)]
  simp only [List.all_cons, Bool.and_eq_true] at ha
  have h1 := (isDig_iff a).1 ha.1
  have h2 := (isDig_iff b).1 ha.2.1
  have h3 := (isDig_iff d).1 ha.2.2.1
  by_cases c1 : (((a :: b :: d :: s : List UInt8).getD 0 0).toNat : Int) = 48
  ·rw [if_pos (.inr (.inl c1))]; simp
  have hc : 100 ≤ capS (a :: b :: d :: s) := cap_big s _ (by simp at c1; simp [cstep]; omega) ha.2.2.2
  rw [if_pos (by right; right; right; omega)]; simp
theorem take_take_app (a b : List Stitch) : (a ++ b.take 17).take 17 = (a ++ b).take 17 := by
 rw [List.take_append, List.take_append, List.take_take, Nat.min_eq_left (by omega)]
theorem pre_two {l : List UInt8} {q : Nat} : [93, 120] <+: l.drop q ↔ l.getD q 0 = 93 ∧ q + 1 < l.length ∧ l.getD (q + 1) 0 = 120 := by
 constructor
 ·intro h
  have hl := h.length_le
  simp at hl
  rw [drop_get (by omega), drop_get (show q + 1 < l.length by omega), List.cons_prefix_cons, List.cons_prefix_cons] at h
  exact ⟨h.1.symm, by omega, h.2.1.symm⟩
 rintro ⟨h1, h2, h3⟩
 rw [drop_get (by omega), drop_get h2, h1, h3]
 exact ⟨l.drop (q + 1 + 1), rfl⟩
end Go.G14
namespace Go.G14
open Go.Lw
inductive Txt : Bool → List UInt8 → List Stitch → Prop
  | leaf {x : Stitch} (h : checkS x = 0) : Txt false (textS x) [x]
  | rep {t : List UInt8} {xs : List Stitch} {n : Nat} (h : Txt true t xs) (h2 : 2 ≤ n) (h16 : n ≤ 16) : Txt false (repT t n) (timesS xs n)
  | one {t : List UInt8} {xs : List Stitch} (h : Txt false t xs) : Txt true t xs
  | cons {t s : List UInt8} {xs ys : List Stitch} (h : Txt false t xs) (hr : Txt true s ys) : Txt true (t ++ [32] ++ s) (xs ++ ys)
theorem Txt.ok {tg : Bool} {t : List UInt8} {xs : List Stitch} (h : Txt tg t xs) : xs ≠ [] ∧ xs.all okB = true := by
 induction h with
 | leaf h => exact ⟨by simp, by simp [(okB_iff _).2 h]⟩
 | @rep t xs n _ h2 _ ih =>
  obtain ⟨m, rfl⟩ : ∃ m, n = m + 1 := ⟨n - 1, by omega⟩
  refine ⟨?_, ?_⟩
  ·rw [times_succ]; intro e; exact ih.1 (List.append_eq_nil_iff.1 e).2
  rw [List.all_eq_true] at ih ⊢
  intro x hx
  unfold timesS at hx
  obtain ⟨l, hl, hx⟩ := List.mem_flatten.1 hx
  rw [(List.mem_replicate.1 hl).2] at hx
  exact ih.2 x hx
 | one _ ih => exact ih
 | cons _ _ ih1 ih2 => exact ⟨by intro e; exact ih1.1 (List.append_eq_nil_iff.1 e).1, by rw [List.all_append, ih1.2, ih2.2]; rfl⟩
theorem Txt.app {t s : List UInt8} {xs ys : List Stitch} (h : Txt true t xs) (hr : Txt true s ys) : Txt true (t ++ [32] ++ s) (xs ++ ys) := by
 generalize hb : true = tg at h
 induction h with
 | leaf _ => cases hb
 | rep _ _ _ => cases hb
 | one h _ => exact .cons h hr
 | @cons t s' xs' ys' h1 _ _ ih2 =>
  have := Txt.cons h1 (ih2 rfl)
  simpa [List.append_assoc] using this
theorem times_take (xs : List Stitch) (n : Nat) : (timesS (xs.take 17) n).take 17 = (timesS xs n).take 17 := by
 rcases Nat.lt_or_ge xs.length 18 with h | h
 ·rw [List.take_of_length_le (show xs.length ≤ 17 by omega)]
 cases n with
 | zero => rfl
 | succ n =>
  have e : ∀ ys : List Stitch, timesS ys (n + 1) = ys ++ timesS ys n := fun ys => by simp [timesS, List.replicate_succ]
  rw [e, e, List.take_append_of_le_length (by simp; omega), List.take_append_of_le_length (by omega), List.take_take, Nat.min_self]
theorem word_split {l : List UInt8} {p : Nat} (hp : p ≤ l.length) : l.drop p = wordS l p ++ l.drop (wordEnd l p) := by
 rw [word_tw hp, word_end _ p rfl hp, ← List.drop_drop, tw_drop, List.takeWhile_append_dropWhile]
theorem parse_text {l : List UInt8} (h : (parseS l).2 = 0) : textS (parseS l).1 = l ∧ checkS (parseS l).1 = 0 := by
 unfold parseS at h ⊢
 split at h
 ·simp at h
 rename_i c
 rw [if_neg c]
 simp only [not_or, Decidable.not_not] at c
 refine ⟨c.2, ?_⟩
 simp only
 refine Decidable.not_not.1 fun e => c.1 ?_
 rw [← c.2, textS, if_pos e]
theorem count_text {r : List UInt8} (h : 0 < (countS r 16).2) : ∃ n : Nat, 2 ≤ n ∧ n ≤ 16 ∧ (countS r 16).1 = n ∧ r = itoaS n ++ r.drop (countS r 16).2.toNat ∧ ((countS r 16).2.toNat = (itoaS n).length) := by
 obtain ⟨n1, n2, n3⟩ := num_count (r := r) rfl
 obtain ⟨e1, e2⟩ := n2 (by omega)
 have hall := all_tw r
 have hpre : r = r.takeWhile isDig ++ r.drop (r.takeWhile isDig).length := by rw [tw_drop, List.takeWhile_append_dropWhile]
 have key : r.takeWhile isDig = itoaS (countS r 16).1.toNat ∧ 2 ≤ (countS r 16).1 ∧ (countS r 16).1 ≤ 16 := by
  rw [← n1] at e2 ⊢
  generalize r.takeWhile isDig = W at hall e2 ⊢
  unfold numberS at e2 ⊢
  split at e2
  ·exact absurd rfl e2
  rename_i c1
  rw [if_neg c1]
  split at e2
  ·exact absurd rfl e2
  rename_i c2
  rw [if_neg c2]
  split at e2
  ·exact absurd rfl e2
  rename_i c3
  rw [if_neg c3]
  refine ⟨?_, by omega, by omega⟩
  match W, hall, c1, c3 with
  | [a], ha, c1, c3 =>
   simp only [List.all_cons, List.all_nil, Bool.and_true] at ha
   have h1 := (isDig_iff a).1 ha
   simp [valS, dstep] at c3 ⊢
   unfold itoaS
   rw [if_pos (by omega)]
   congr 1
   apply UInt8.toNat_inj.1
   have := dg_val (((a.toNat : Int) - 48).toNat : Int) (by omega) (by omega)
   omega
  | [a, b], ha, c1, c3 =>
   simp only [List.all_cons, List.all_nil, Bool.and_true, Bool.and_eq_true] at ha
   have h1 := (isDig_iff a).1 ha.1
   have h2 := (isDig_iff b).1 ha.2
   simp [valS, dstep] at c1 c3 ⊢
   unfold itoaS
   rw [if_neg (by omega)]
   have d1 := dg_val (((10 * ((a.toNat : Int) - 48) + ((b.toNat : Int) - 48)).toNat / 10 : Nat) : Int) (by omega) (by omega)
   have d2 := dg_val (((10 * ((a.toNat : Int) - 48) + ((b.toNat : Int) - 48)).toNat % 10 : Nat) : Int) (by omega) (by omega)
   congr 1
   ·apply UInt8.toNat_inj.1; omega
   congr 1
   apply UInt8.toNat_inj.1; omega
  | [], _, c1, _ => simp at c1
  | a :: b :: d :: s, _, c1, _ => simp at c1
 refine ⟨(countS r 16).1.toNat, by omega, by omega, by omega, ?_, ?_⟩
 ·rw [e1, Int.toNat_natCast]; conv => lhs; rw [hpre, key.1]
  rw [key.1]
 rw [e1, Int.toNat_natCast, key.1]
def cutS (l : List UInt8) (p q : Nat) : List UInt8 := (l.take q).drop p
theorem drop_cut {l : List UInt8} {p q : Nat} (h1 : p ≤ q) (h2 : q ≤ l.length) : l.drop p = cutS l p q ++ l.drop q := by
 unfold cutS
 conv => lhs; rw [← List.take_append_drop q l]
 rw [List.drop_append_of_le_length (by simp; omega)]
theorem cut_of {l a : List UInt8} {p q : Nat} (h : l.drop p = a ++ l.drop q) (h1 : p ≤ q) (h2 : q ≤ l.length) : cutS l p q = a := by
 rw [drop_cut h1 h2] at h
 exact List.append_cancel_right h
theorem read_sound {l : List UInt8} : ∀ (F : Nat) (tg : Bool) (p : Nat) (acc xs : List Stitch) (q : Nat), p ≤ l.length → readS l F tg p acc = some (xs, q) →
    ∃ ys, Txt tg (cutS l p q) ys ∧ xs = ((if tg then acc else []) ++ ys).take 17
  | F, false, p, acc, xs, q, hp, h => by
    by_cases c : p = l.length ∨ l.getD p 0 ≠ 91
    · rw [read_leaf c] at h
      by_cases h0 : (parseS (wordS l p)).2 = 0
      · rw [leaf_some rfl h0] at h
        cases h
        obtain ⟨e1, e2⟩ := parse_text h0
        have hw := wordEnd_rng hp
        refine ⟨[(parseS (wordS l p)).1], ?_, rfl⟩
        rw [cut_of (word_split hp) hw.1 hw.2]
        have := Txt.leaf e2
        rwa [e1] at this
      · rw [leaf_none rfl h0] at h; cases h
    · cases F with
      | zero => rw [readS, if_neg c] at h; cases h
      | succ F =>
        rw [read_rep c] at h
        have hlt : p < l.length := by omega
        have hc : l.getD p 0 = 91 := Decidable.not_not.1 fun e => c (.inr e)
        cases hr : readS l F true (p + 1) [] with
        | none => rw [hr] at h; cases h
        | some z =>
          obtain ⟨zs, r⟩ := z
          rw [hr] at h
          simp only at h
          obtain ⟨ys, hT, hz⟩ := read_sound F true (p + 1) [] zs r (by omega) hr
          have hpos := read_pos F true (p + 1) [] zs r (by omega) hr
          have hcl := close_pos h
          unfold closeS at h
          split at h
          · rename_i hpre
            simp only at h
            split at h
            · rename_i hcnt
              simp only [Option.some.injEq, Prod.mk.injEq] at h
              obtain ⟨hx, hq⟩ := h
              obtain ⟨n, n2, n16, en, er, el⟩ := count_text hcnt
              refine ⟨timesS ys n, ?_, ?_⟩
              · have h2 := pre_two.1 hpre
                have e1 : l.drop p = repT (cutS l (p + 1) r) n ++ l.drop q := by
                  rw [drop_get hlt, hc, drop_cut (p := p + 1) (q := r) (by omega) hpos.2.1, drop_get (show r < l.length by omega), h2.1, drop_get h2.2.1, h2.2.2]
                  rw [show r + 1 + 1 = r + 2 from rfl, er, List.drop_drop, hq]
                  simp [repT]
                rw [cut_of e1 (by omega) hcl.2.1]
                exact Txt.rep hT n2 n16
              · rw [← hx, en, Int.toNat_natCast, hz]
                simp only [Bool.false_eq_true, if_false, if_true, List.nil_append]
                exact times_take ys n
            · cases h
          · cases h
  | 0, true, p, acc, xs, q, hp, h => by rw [readS] at h; cases h
  | F + 1, true, p, acc, xs, q, hp, h => by
    cases hr : readS l F false p [] with
    | none => rw [read_row_none hr] at h; cases h
    | some z =>
      obtain ⟨zs, r⟩ := z
      obtain ⟨ys, hT, hz⟩ := read_sound F false p [] zs r hp hr
      have hpos := read_pos F false p [] zs r hp hr
      simp only [Bool.false_eq_true, if_false, List.nil_append] at hz
      by_cases c : r = l.length ∨ l.getD r 0 ≠ 32
      · rw [read_row_end hr c] at h
        cases h
        refine ⟨ys, .one hT, ?_⟩
        rw [if_pos rfl, hz, take_take_app]
      · rw [read_row_next hr c] at h
        have h32 : l.getD r 0 = 32 := Decidable.not_not.1 fun e => c (.inr e)
        have hlt : r < l.length := by omega
        obtain ⟨ys2, hT2, hz2⟩ := read_sound F true (r + 1) _ xs q (by omega) h
        have hpos2 := read_pos F true (r + 1) _ xs q (by omega) h
        refine ⟨ys ++ ys2, ?_, ?_⟩
        · have e1 : l.drop p = (cutS l p r ++ [32] ++ cutS l (r + 1) q) ++ l.drop q := by
            rw [drop_cut (Nat.le_of_lt hpos.1) hpos.2.1, drop_get hlt, h32, drop_cut (p := r + 1) (q := q) (by omega) hpos2.2.1]
            simp
          rw [cut_of e1 (by omega) hpos2.2.1]
          exact .cons hT hT2
        · rw [hz2, if_pos rfl, if_pos rfl, hz, take_take_app, ← List.append_assoc]
          rw [List.take_append, List.take_append (l₁ := acc ++ ys), List.take_take, Nat.min_self]
          rw [show 17 - (List.take 17 (acc ++ ys)).length = 17 - (acc ++ ys).length by simp; omega]
theorem expand_sound {l : List UInt8} {xs : List Stitch} (h : expandS l = (xs, 0)) : Txt true l xs ∧ xs.length ≤ 16 := by
 unfold expandS at h
 split at h
 ·cases h
 unfold rowS at h
 cases hr : readS l (2 * l.length + 1) true 0 [] with
 | none => rw [hr] at h; cases h
 | some z =>
  obtain ⟨zs, q⟩ := z
  rw [hr] at h
  simp only at h
  by_cases c : q = l.length
  ·rw [if_pos c] at h
   simp only at h
   split at h
   ·cases h
   rename_i h16
   cases h
   obtain ⟨ys, hT, hz⟩ := read_sound _ true 0 [] xs q (by omega) hr
   simp only [if_true, List.nil_append] at hz
   have : ys = xs := by
    rw [hz] at h16 ⊢
    rw [List.length_take] at h16
    rw [List.take_of_length_le (by omega)]
   subst this
   rw [c, show cutS l 0 l.length = l by simp [cutS]] at hT
   exact ⟨hT, by omega⟩
  rw [if_neg c] at h; cases h
end Go.G14
namespace Go.G14
open Go.Lw
def textB (x : Stitch) : Bool := decide (checkS x = 0 → parseS (textS x) = (x, 0) ∧ (textS x).all nb = true ∧ (textS x).getD 0 0 ≠ 91 ∧ textS x ≠ [])
theorem text_facts : ∀ k, k < 9 → ∀ y, y < 7 → ∀ a, a < 4 → ∀ b, b < 4 → textB ⟨((k : Nat) : Int), ((y : Nat) : Int), ((a : Nat) : Int), ((b : Nat) : Int), false⟩ = true ∧ textB ⟨((k : Nat) : Int), ((y : Nat) : Int), ((a : Nat) : Int), ((b : Nat) : Int), true⟩ = true := by
 decide +kernel
theorem text_ok_of {x : Stitch} (h : checkS x = 0) : parseS (textS x) = (x, 0) ∧ (textS x).all nb = true ∧ (textS x).getD 0 0 ≠ 91 ∧ textS x ≠ [] := by
 obtain ⟨k, y, a, b, f⟩ := x
 have hr := check_rng h
 simp only at hr
 have ha : 0 ≤ a ∧ a < 4 ∧ 0 ≤ b ∧ b < 4 := by
  by_cases c : k = 8
  ·have := hr.2.2.2.2.2 c; omega
  have := hr.2.2.2.2.1 c; omega
 obtain ⟨k', rfl⟩ : ∃ n : Nat, k = (n : Int) := ⟨k.toNat, by omega⟩
 obtain ⟨y', rfl⟩ : ∃ n : Nat, y = (n : Int) := ⟨y.toNat, by omega⟩
 obtain ⟨a', rfl⟩ : ∃ n : Nat, a = (n : Int) := ⟨a.toNat, by omega⟩
 obtain ⟨b', rfl⟩ : ∃ n : Nat, b = (n : Int) := ⟨b.toNat, by omega⟩
 have hb := text_facts k' (by omega) y' (by omega) a' (by omega) b' (by omega)
 cases f with
 | false => exact of_decide_eq_true hb.1 h
 | true => exact of_decide_eq_true hb.2 h
theorem itoa_facts : ∀ n, n < 17 → 2 ≤ n → (itoaS n).all isDig = true ∧ itoaS n ≠ [] ∧ (((itoaS n).getD 0 0).toNat : Int) ≠ 48 ∧ capS (itoaS n) = n := by decide +kernel
theorem tw_nil {f : UInt8 → Bool} {r : List UInt8} (h : r = [] ∨ f (r.getD 0 0) = false) : r.takeWhile f = [] := by
 cases r with
 | nil => rfl
 | cons c s => exact List.takeWhile_cons_of_neg (by rcases h with h | h; cases h; simpa using h)
theorem count_itoa {n : Nat} {r : List UInt8} (h2 : 2 ≤ n) (h16 : n ≤ 16) (h : r = [] ∨ isDig (r.getD 0 0) = false) : countS (itoaS n ++ r) 16 = ((n : Int), ((itoaS n).length : Int)) := by
 obtain ⟨f1, f2, f3, f4⟩ := itoa_facts n (by omega) h2
 have hw : (itoaS n ++ r).takeWhile isDig = itoaS n := by rw [tw_app _ _ f1, tw_nil h, List.append_nil]
 have hg : (itoaS n ++ r).getD 0 0 = (itoaS n).getD 0 0 := by
  cases he : itoaS n with
  | nil => exact absurd he f2
  | cons c s => rfl
 unfold countS
 simp only [hw, hg, f4]
 rw [if_neg]
 rintro (e | e | e | e)
 ·exact f2 (List.length_eq_zero_iff.1 e)
 ·exact f3 e
 ·omega
 omega
theorem get_at {l a r : List UInt8} {p : Nat} (h : l.drop p = a ++ r) : l.drop (p + a.length) = r := by
 rw [← List.drop_drop, h, List.drop_left]
theorem get_head {l r : List UInt8} {q : Nat} (h : l.drop q = r) : (r = [] ↔ l.length ≤ q) ∧ l.getD q 0 = r.getD 0 0 := by
 subst h
 refine ⟨List.drop_eq_nil_iff, ?_⟩
 simp [List.getD]
theorem read_complete {tg : Bool} {t : List UInt8} {xs : List Stitch} (hT : Txt tg t xs) : ∀ (l r : List UInt8) (p F : Nat) (acc : List Stitch), l.drop p = t ++ r → p ≤ l.length →
    (tg = false → 2 * (l.length - p) ≤ F ∧ (r = [] ∨ r.getD 0 0 = 32 ∨ r.getD 0 0 = 93)) → (tg = true → 2 * (l.length - p) + 1 ≤ F ∧ (r = [] ∨ r.getD 0 0 = 93)) →
    readS l F tg p acc = some (((if tg then acc else []) ++ xs).take 17, p + t.length) := by
  induction hT with
  | @leaf x h =>
    intro l r p F acc hl hp hi _
    obtain ⟨_, hr⟩ := hi rfl
    obtain ⟨f1, f2, f3, f4⟩ := text_ok_of h
    have hg := (get_head hl).2
    have hg' : l.getD p 0 ≠ 91 := by
      rw [hg]
      cases he : textS x with
      | nil => exact absurd he f4
      | cons c s => rw [he] at f3; exact f3
    have hrn : r = [] ∨ nb (r.getD 0 0) = false := hr.imp id fun e => by rcases e with e | e <;> rw [e] <;> rfl
    have hw : wordS l p = textS x := by rw [word_tw hp, hl, tw_app _ _ f2, tw_nil hrn, List.append_nil]
    have he : wordEnd l p = p + (textS x).length := by rw [word_end _ p rfl hp, ← word_tw hp, hw]
    rw [read_leaf (.inr hg'), leaf_some rfl (by show (parseS (wordS l p)).2 = 0; rw [hw, f1])]
    show some ([(parseS (wordS l p)).1], wordEnd l p) = _
    rw [hw, he, f1]; rfl
  | @rep t xs n hT h2 h16 ih =>
    intro l r p F acc hl hp hi _
    obtain ⟨hF, hr⟩ := hi rfl
    have hlen : 2 ≤ l.length - p := by
      have := congrArg List.length hl
      simp [repT] at this; omega
    obtain ⟨F', rfl⟩ : ∃ m, F = m + 1 := ⟨F - 1, by omega⟩
    have hl1 : l.drop p = 91 :: (t ++ ([93, 120] ++ itoaS n ++ r)) := by rw [hl]; simp [repT]
    have hc : l.getD p 0 = 91 := by rw [(get_head hl1).2]; rfl
    have hd1 : l.drop (p + 1) = t ++ ([93, 120] ++ itoaS n ++ r) := by
      rw [← List.drop_drop, hl1]; rfl
    have hrow := ih l ([93, 120] ++ itoaS n ++ r) (p + 1) F' [] hd1 (by omega) (fun e => by cases e) (fun _ => ⟨by omega, .inr rfl⟩)
    have hd2 := get_at hd1
    have hd3 : l.drop (p + 1 + t.length + 2) = itoaS n ++ r := by rw [← List.drop_drop, hd2]; rfl
    have hdr : r = [] ∨ isDig (r.getD 0 0) = false := hr.imp id fun e => by rcases e with e | e <;> rw [e] <;> rfl
    have hcnt := count_itoa h2 h16 hdr
    have hpos : 0 < (itoaS n).length := List.length_pos_iff.2 (itoa_facts n (by omega) h2).2.1
    rw [read_rep (by rintro (e | e); omega; exact e hc), hrow]
    simp only
    unfold closeS
    rw [if_pos (by rw [hd2]; exact ⟨itoaS n ++ r, by simp⟩), hd3, hcnt]
    simp only
    rw [if_pos (by omega), Int.toNat_natCast, Int.toNat_natCast]
    simp only [if_true, Bool.false_eq_true, if_false, List.nil_append]
    rw [times_take]
    congr 2
    simp [repT]; omega
  | @one t xs hT ih =>
    intro l r p F acc hl hp _ hi
    obtain ⟨hF, hr⟩ := hi rfl
    obtain ⟨F', rfl⟩ : ∃ m, F = m + 1 := ⟨F - 1, by omega⟩
    have h1 := ih l r p F' [] hl hp (fun _ => ⟨by omega, hr.imp id .inr⟩) (fun e => by cases e)
    have hq := get_head (get_at hl)
    have hle : p + t.length ≤ l.length := by have := congrArg List.length hl; simp at this; omega
    have hc : p + t.length = l.length ∨ l.getD (p + t.length) 0 ≠ 32 := by
      rcases hr with e | e
      · left; have := hq.1.1 e; omega
      · right; rw [hq.2, e]; decide
    rw [read_row_end h1 hc]
    simp only [Bool.false_eq_true, if_false, if_true, List.nil_append]
    rw [take_take_app]
  | @cons t s xs ys hT hR ih1 ih2 =>
    intro l r p F acc hl hp _ hi
    obtain ⟨hF, hr⟩ := hi rfl
    obtain ⟨F', rfl⟩ : ∃ m, F = m + 1 := ⟨F - 1, by omega⟩
    have hl1 : l.drop p = t ++ ([32] ++ s ++ r) := by rw [hl]; simp
    have h1 := ih1 l ([32] ++ s ++ r) p F' [] hl1 hp (fun _ => ⟨by omega, .inr (.inl rfl)⟩) (fun e => by cases e)
    have hd := get_at hl1
    have hq := get_head hd
    have hlt : p + t.length < l.length := by
      rcases Nat.lt_or_ge (p + t.length) l.length with h | h
      · exact h
      · have := hq.1.2 h; simp at this
    have hd2 : l.drop (p + t.length + 1) = s ++ r := by rw [← List.drop_drop, hd]; rfl
    have h2 := ih2 l r (p + t.length + 1) F' ((acc ++ (([] : List Stitch) ++ xs).take 17).take 17) hd2 (by omega) (fun e => by cases e) (fun _ => ⟨by omega, hr⟩)
    rw [read_row_next (acc := acc) h1 (by rintro (e | e); omega; exact e (by rw [hq.2]; rfl))]
    simp only [Bool.false_eq_true, if_false, if_true, List.nil_append] at h2 ⊢
    rw [h2, take_take_app]
    congr 2
    · rw [← List.append_assoc, List.take_append, List.take_append (l₁ := acc ++ xs), List.take_take, Nat.min_self]
      rw [show 17 - (List.take 17 (acc ++ xs)).length = 17 - (acc ++ xs).length by simp; omega]
    · simp; omega
theorem expand_complete {l : List UInt8} {xs : List Stitch} (h : Txt true l xs) (hl : l.length ≤ 1024) (h16 : xs.length ≤ 16) : expandS l = (xs, 0) := by
 have hr := read_complete h l [] 0 (2 * l.length + 1) [] (by simp) (by omega) (fun e => by cases e) (fun _ => ⟨by omega, .inl rfl⟩)
 simp only [if_true, List.nil_append, Nat.zero_add] at hr
 rw [List.take_of_length_le (by omega)] at hr
 unfold expandS rowS
 rw [if_neg (by omega), hr]
 simp only [if_true]
 rw [if_neg (by omega)]
end Go.G14
namespace Go.G14
open Go.Lw
theorem bl_nil (a : List UInt8) : Op.bytesLess a [] = false := by cases a <;> rfl
theorem bl_cons (a b : UInt8) (x y : List UInt8) : Op.bytesLess (a :: x) (b :: y) = (decide (a < b) || (a == b && Op.bytesLess x y)) := rfl
theorem bl_irrefl : ∀ a : List UInt8, Op.bytesLess a a = false
 | [] => rfl
 | a :: x => by rw [bl_cons, bl_irrefl x]; simp
theorem bl_antis : ∀ a b : List UInt8, a.length = b.length → Op.bytesLess a b = false → Op.bytesLess b a = false → a = b
 | [], [], _, _, _ => rfl
 | [], _ :: _, h, _, _ => by simp at h
 | _ :: _, [], h, _, _ => by simp at h
 | a :: x, b :: y, h, h1, h2 => by
  rw [bl_cons] at h1 h2
  simp only [Bool.or_eq_false_iff, Bool.and_eq_false_iff, decide_eq_false_iff_not] at h1 h2
  have e : a = b := by
   have h3 : ¬ a.toNat < b.toNat := h1.1
   have h4 : ¬ b.toNat < a.toNat := h2.1
   exact UInt8.toNat_inj.1 (by omega)
  subst e
  have h5 := h1.2.resolve_left (by simp)
  have h6 := h2.2.resolve_left (by simp)
  rw [bl_antis x y (by simpa using h) h5 h6]
theorem bl_trans : ∀ a b c : List UInt8, Op.bytesLess a b = true → Op.bytesLess b c = true → Op.bytesLess a c = true
 | _, _, [], _, h => by rw [bl_nil] at h; cases h
 | _, [], _ :: _, h, _ => by rw [bl_nil] at h; cases h
 | [], _ :: _, _ :: _, _, _ => rfl
 | a :: x, b :: y, c :: z, h1, h2 => by
  rw [bl_cons] at h1 h2 ⊢
  simp only [Bool.or_eq_true, Bool.and_eq_true, decide_eq_true_eq, beq_iff_eq] at h1 h2 ⊢
  rcases h1 with h1 | ⟨rfl, h1⟩
  ·rcases h2 with h2 | ⟨rfl, h2⟩
   ·left; exact UInt8.lt_trans h1 h2
   exact .inl h1
  rcases h2 with h2 | ⟨rfl, h2⟩
  ·exact .inl h2
  exact .inr ⟨rfl, bl_trans x y z h1 h2⟩
theorem bl_app : ∀ (a a' b b' : List UInt8), a.length = a'.length → Op.bytesLess (a ++ b) (a' ++ b') = (Op.bytesLess a a' || (a == a' && Op.bytesLess b b'))
 | [], [], b, b', _ => by simp [bl_nil]
 | [], _ :: _, _, _, h => by simp at h
 | _ :: _, [], _, _, h => by simp at h
 | x :: a, y :: a', b, b', h => by
  rw [List.cons_append, List.cons_append, bl_cons, bl_cons, bl_app a a' b b' (by simpa using h)]
  by_cases c : x = y
  ·subst c
   by_cases d : a = a'
   ·subst d; simp [bl_irrefl]
   simp [d]
  have e : (x == y) = false := by simpa using c
  have e2 : ((x :: a) == (y :: a')) = false := by simp [c]
  rw [e, e2]; simp
def leP (a b : List UInt8) : Prop := ¬ lessP b a
theorem leP_iff {a b : List UInt8} : leP a b ↔ a.length < b.length ∨ (a.length = b.length ∧ Op.bytesLess b a = false) := by
 unfold leP lessP
 constructor
 ·intro h
  rcases Nat.lt_trichotomy a.length b.length with c | c | c
  ·exact .inl c
  ·refine .inr ⟨c, ?_⟩
   cases e : Op.bytesLess b a with
   | false => rfl
   | true => exact absurd (.inr ⟨c.symm, e⟩) h
  exact absurd (.inl c) h
 rintro (h | ⟨h, e⟩) (h' | ⟨h', e'⟩)
 ·omega
 ·omega
 ·omega
 rw [e] at e'; cases e'
theorem leP_refl (a : List UInt8) : leP a a := leP_iff.2 (.inr ⟨rfl, bl_irrefl a⟩)
theorem leP_antis {a b : List UInt8} (h1 : leP a b) (h2 : leP b a) : a = b := by
 rw [leP_iff] at h1 h2
 rcases h1 with h1 | ⟨h1, e1⟩ <;> rcases h2 with h2 | ⟨h2, e2⟩
 ·omega
 ·omega
 ·omega
 exact bl_antis a b h1 e2 e1
theorem leP_of_less {a b : List UInt8} (h : lessP a b) : leP a b := by
 rw [leP_iff]
 rcases h with h | ⟨h, e⟩
 ·exact .inl h
 refine .inr ⟨h, ?_⟩
 cases e' : Op.bytesLess b a with
 | false => rfl
 | true => have := bl_trans _ _ _ e e'; rw [bl_irrefl] at this; cases this
theorem leP_trans {a b c : List UInt8} (h1 : leP a b) (h2 : leP b c) : leP a c := by
 rw [leP_iff] at h1 h2 ⊢
 rcases h1 with h1 | ⟨h1, e1⟩ <;> rcases h2 with h2 | ⟨h2, e2⟩
 ·left; omega
 ·left; omega
 ·left; omega
 right
 refine ⟨h1.trans h2, ?_⟩
 cases e : Op.bytesLess c a with
 | false => rfl
 | true =>
  by_cases d : b = a
  ·subst d; rw [e2] at e; cases e
  cases f : Op.bytesLess a b with
  | true => have := bl_trans _ _ _ e f; rw [e2] at this; cases this
  | false => exact absurd (bl_antis b a h1.symm e1 f) d
theorem leP_cons {a a' b b' : List UInt8} (h1 : leP a a') (h2 : leP b b') : leP (a ++ [32] ++ b) (a' ++ [32] ++ b') := by
 rw [leP_iff] at h1 h2 ⊢
 simp only [List.length_append, List.length_singleton]
 rcases h1 with h1 | ⟨h1, e1⟩
 ·left; rcases h2 with h2 | ⟨h2, _⟩ <;> omega
 rcases h2 with h2 | ⟨h2, e2⟩
 ·left; omega
 right
 refine ⟨by omega, ?_⟩
 rw [bl_app _ _ _ _ (by simp [h1]), bl_app _ _ _ _ h1.symm, e1]
 rw [show Op.bytesLess [32] [32] = false from rfl]
 simp [e2]
theorem leP_rep {t t' : List UInt8} (n : Nat) (h : leP t t') : leP (repT t n) (repT t' n) := by
 rw [leP_iff] at h ⊢
 unfold repT
 simp only [List.length_cons, List.length_append, List.length_nil]
 rcases h with h | ⟨h, e⟩
 ·left; omega
 right
 refine ⟨by omega, ?_⟩
 rw [bl_cons, List.append_assoc, List.append_assoc, bl_app _ _ _ _ h.symm, e, bl_irrefl]
 simp
theorem better_cases (a b : List UInt8) : betterS a b = a ∨ betterS a b = b := by
 unfold betterS; split
 ·exact .inr rfl
 exact .inl rfl
theorem better_le_left {a b : List UInt8} (ha : a ≠ []) (hb : b ≠ []) : leP (betterS a b) a := by
 unfold betterS
 split
 ·rename_i h
  rcases h with h | h
  ·exact absurd h ha
  exact leP_of_less h.2
 exact leP_refl a
theorem better_le_right {a b : List UInt8} (hb : b ≠ []) : leP (betterS a b) b := by
 unfold betterS
 split
 ·exact leP_refl b
 rename_i h
 simp only [not_or, not_and] at h
 exact h.2 hb
theorem better_ne {a b : List UInt8} (hb : b ≠ []) : betterS a b ≠ [] := by
 unfold betterS
 split
 ·exact hb
 rename_i h; simp only [not_or] at h; exact h.1
end Go.G14
