/- Range over a function, in short forms: the statement, the iterator. Conditions: none. -/
import Derived.Test.YtacclnebhbakmaaDoorXSI
set_option linter.unusedVariables false
set_option linter.unusedSimpArgs false
namespace Go.Lw
open Go.RowKit
section
variable {P : Program} {n N : Nat} {ro : Option Nat} {L : List (Nat × Value)} {ds : List Nat} {w w' : World} {Q : Exit → Act → World → Prop} {ops : Array Oper} {rest : List Oper} {a : Act} {x y c : Code} {id : Nat}
theorem weM {f : FuncId} {fn : Func} {c : Code} {args : Array Value} {R : Ending → World → Prop} (L : List (Nat × Value)) (hf : P.funcs[f]? = some fn) (hc : fn.body = some c) (hn : fn.ntmps = n) (hl : Nat.ble args.size n = true) (hL : argsOk args L)
    (h : CWi none 9 P (bodyPostM (Fo none) 9 P fn R) c n [] w L) : Calls P f args w R := enterM L hf hc hn hl hL (fun a ha => h a ha)
theorem weI {f : FuncId} {fn : Func} {c : Code} {args : Array Value} {R : Ending → World → Prop} (L : List (Nat × Value)) (hf : P.funcs[f]? = some fn) (hc : fn.body = some c) (hn : fn.ntmps = n) (hl : Nat.ble args.size n = true) (hL : argsOk args L)
    (h : CWi none N P (bodyPost P fn R) c n [] w L) : CallsIn (Fo none) N P f args w R := enterI L hf hc hn hl hL (fun a ha => h a ha)
section
variable {R : Ending → World → Prop} {fn : Func} {t u : Nat} {v z : Value}
theorem rM0 (hr : fn.results = #[]) (hD : ∀ D ∈ ds, w.heap[D]? = some (.deferred (some []))) (hnd : ds.Nodup) (k : ∀ w', Fr ds w w' → R (.returned (.tuple #[])) w') : EW (bodyPostM (Fo none) N P fn R) .ret n ds w L := fun _ h => retM0 h hr hD hnd k
theorem rM0n (hr : fn.results = #[]) (hD : ∀ D ∈ ds, w.heap[D]? = some (.deferred (some []))) (hnd : ds.Nodup) (k : ∀ w', Fr ds w w' → R (.returned (.tuple #[])) w') : EW (bodyPostM (Fo none) N P fn R) .normal n ds w L := fun _ h => retM0n h hr hD hnd k
theorem rM1 (hr : fn.results = #[.tmp t]) (hv : look L t = some v) (hD : ∀ D ∈ ds, w.heap[D]? = some (.deferred (some []))) (hnd : ds.Nodup) (k : ∀ w', Fr ds w w' → R (.returned v) w') : EW (bodyPostM (Fo none) N P fn R) .ret n ds w L := fun _ h => retM1 h hr hv hD hnd k
theorem rM2 (hr : fn.results = #[.tmp t, .tmp u]) (hv : look L t = some v) (hx : look L u = some z) (hD : ∀ D ∈ ds, w.heap[D]? = some (.deferred (some []))) (hnd : ds.Nodup) (k : ∀ w', Fr ds w w' → R (.returned (.tuple #[v, z])) w') : EW (bodyPostM (Fo none) N P fn R) .ret n ds w L := fun _ h => retM2 h hr hv hx hD hnd k
end
/-- The block D holds no deferred call. -/
def DefAt (D : Nat) (w : World) : Prop := w.heap[D]? = some (.deferred (some []))
theorem DefAt.ext {D : Nat} (h : DefAt D w) (hf : Fr [] w w') : DefAt D w' := (hf.block D (Array.getElem?_eq_some_iff.1 h).1 (by simp)).trans h
theorem DefAt.fr {D : Nat} {S : List Nat} (h : DefAt D w) (hf : Fr S w w') (hS : D ∉ S) : DefAt D w' := (hf.block D (Array.getElem?_eq_some_iff.1 h).1 hS).trans h
theorem DefAt.lt {D : Nat} (h : DefAt D w) : D < w.heap.size := (Array.getElem?_eq_some_iff.1 h).1
theorem marks1 {D : Nat} (h : DefAt D w) : ∀ D' ∈ [D], w.heap[D']? = some (.deferred (some [])) := fun D' h' => by cases List.mem_singleton.1 h'; exact h
theorem wpl_norm {E : Act → World → Prop} {X : Exit → Act → World → Prop} (hX : ∀ e a w, X e a w → e = .normal ∧ E a w) : ∀ (l : List Oper) (a : Act) (w : World), wpList P ops X l a w → wpList P ops (NormEnd E) l a w := by
  intro l
  induction l with
  | nil => intro a w' h; exact (hX _ _ _ h).2
  | cons o l ih =>
    intro a w' h
    unfold wpList at h ⊢
    split
    · rename_i hw
      rw [if_pos hw] at h
      rcases h with h | ⟨_, _, _, h⟩
      · refine .inl ?_
        unfold Oper.wp at h ⊢
        generalize (execOp a.eval o).run P w' = x at h ⊢
        cases x with
        | ok nx w1 =>
          cases nx <;> simp only [Oper.upon] at h ⊢ <;> first
            | exact ih _ _ h
            | exact Calls.mono h (fun e w'' he => by
                cases e <;> first
                  | exact ih _ _ he
                  | (obtain ⟨_, _, h⟩ := he; exact absurd (hX _ _ _ h).1 (by simp))
                  | exact absurd (hX _ _ _ he).1 (by simp))
            | exact Rows.mono h (fun _ _ he => ih _ _ he)
            | exact h
        | halt x w1 => cases x <;> simp only [Oper.upon] at h ⊢ <;> first | exact h | exact absurd (hX _ _ _ h).1 (by simp)
      · exact absurd (hX _ _ _ h).1 (by simp)
    · rename_i hw
      rw [if_neg hw] at h
      exact ih _ _ h
theorem irbo {ol : List Oper} {r : Nat} {L' : List (Nat × Value)} (C : Prop) [Decidable C] (hs : Sub L' L) (h1 : WL P ol.toArray (BoolEnd ds n r C L' w) ol n ds w L) (h2 : EW Q .normal n ds w ((r, .bool (decide C)) :: L')) (hd : ol.all Oper.noDefer = true := by rfl) : CWi ro N P Q (.region id ol.toArray false) n ds w L :=
  fun a h => ireg_bool C hd h hs (h1 a h) h2
theorem irboF {ol : List Oper} {r : Nat} {L' : List (Nat × Value)} (C : Prop) [Decidable C] (_hs : Sub L' L) (h1 : WL P ol.toArray (BoolEndF ds n r C L' w) ol n ds w L) (h2 : ∀ w', Fr [] w w' → EW Q .normal n ds w' ((r, .bool (decide C)) :: L')) (hd : ol.all Oper.noDefer = true := by rfl) : CWi ro N P Q (.region id ol.toArray false) n ds w L :=
  fun a h => ireg hd (wpl_norm (E := Q .normal) (fun e a w he => by obtain ⟨rfl, hf, ha⟩ := he; exact ⟨rfl, h2 w hf a ha⟩) _ _ _ (h1 a h))
/-! The iterator. -/
/-- What the loop's body says of the list of rounds, where the iterator lets it stand. -/
def JAt {β : Type} (J : β → World → Prop) (B : Nat) (s : β) (w : World) : Prop := J s w ∧ AbidesFrom B J
theorem JAt.ext {β : Type} {J : β → World → Prop} {B : Nat} {s : β} (h : JAt J B s w) (hf : Fr [] w w') : JAt J B s w' :=
  ⟨h.2 s w w' none h.1 ⟨hf.os, hf.tape, hf.output, hf.size, fun k hk _ => hf.block k hk (by simp)⟩ (fun r e => by cases e), h.2⟩
theorem Blk.keep {g T : Nat} {cs : List Value} {B : List Nat} (h : Blk w g T cs) (hk : Keep B w w') (hg : g ∈ B) : Blk w' g T cs := (hk g hg).trans h
theorem Sl.keep {α : Type} {E : Enc α} {v : Value} {ys : List α} {B : List Nat} (h : Sl E w v ys) (hk : Keep B w w') (hB : ys ≠ [] → ∀ k ∈ blks v, k ∈ B) : Sl E w' v ys := by
  obtain ⟨A, c, rfl, h1, h2, h3⟩ := h
  refine ⟨A, c, rfl, h1, h2, fun i y hy => ?_⟩
  obtain ⟨ad, rfl, hc⟩ := h3 i y hy
  refine ⟨ad, rfl, fun j u hu => ?_⟩
  exact (World.cell?_of_block (w := w) (hk _ (by rw [block_add, block_add]; exact hB (by rintro rfl; simp at hy) _ (by simp [blks])))).trans (hc j u hu)
/-- The blocks of a slice that has elements. -/
def slB (m : Nat) (v : Value) : List Nat := if m = 0 then [] else blks v
theorem slB_lt {α : Type} {E : Enc α} {v : Value} {ys : List α} (h : Sl E w v ys) : ∀ b ∈ slB ys.length v, b < w.heap.size := by
  intro b hb
  unfold slB at hb
  split at hb
  · cases hb
  · rename_i hne; exact h.blk (fun e => hne (by rw [e]; rfl)) b hb
theorem slB_in {α : Type} {v : Value} {ys : List α} (hne : ys ≠ []) : ∀ k ∈ blks v, k ∈ slB ys.length v := fun k hk => by
  unfold slB; rw [if_neg (fun e => hne (List.eq_nil_of_length_eq_zero e))]; exact hk
theorem Keep.ext {B : List Nat} (hf : Fr [] w w') (hB : ∀ b ∈ B, b < w.heap.size) : Keep B w w' := fun b hb => hf.block b (hB b hb) (by simp)
theorem Keep.fr {B S : List Nat} (hf : Fr S w w') (hB : ∀ b ∈ B, b < w.heap.size) (hS : ∀ b ∈ B, b ∉ S) : Keep B w w' := fun b hb => hf.block b (hB b hb) (hS b hb)
/-- What a round keeps: the blocks of B, and all blocks that hold values of the types Ts. -/
def KeepT (Ts B : List Nat) (W W' : World) : Prop := Keep B W W' ∧ ∀ (b : Nat) (cs : Array Value) (T : TypeId) (f : Nat × Nat), T ∈ Ts → W.heap[b]? = some (.cells cs T f) → W'.heap[b]? = some (.cells cs T f)
theorem Blk.keepT {g T : Nat} {cs : List Value} {Ts B : List Nat} (h : Blk w g T cs) (hk : KeepT Ts B w w') (hT : T ∈ Ts) : Blk w' g T cs := hk.2 g _ T _ hT h
theorem KeepT.trans {Ts B : List Nat} {w'' : World} (h : KeepT Ts B w w') (k : KeepT Ts B w' w'') : KeepT Ts B w w'' := ⟨fun b hb => (k.1 b hb).trans (h.1 b hb), fun b cs T f hT hc => k.2 b cs T f hT (h.2 b cs T f hT hc)⟩
theorem KeepT.ext {Ts B : List Nat} (hf : Fr [] w w') (hB : ∀ b ∈ B, b < w.heap.size) : KeepT Ts B w w' := ⟨Keep.ext hf hB, fun b cs T f _ hc => (hf.block b (Array.getElem?_eq_some_iff.1 hc).1 (by simp)).trans hc⟩
theorem KeepT.fr {Ts B S : List Nat} (hf : Fr S w w') (hB : ∀ b ∈ B, b < w.heap.size) (hd : ∀ b ∈ B, b ∉ S) (hS : ∀ k ∈ S, k < w.heap.size → ∃ cs T f, w.heap[k]? = some (.cells cs T f) ∧ T ∉ Ts) : KeepT Ts B w w' :=
  ⟨Keep.fr hf hB hd, fun b cs T f hT hc => (hf.block b (Array.getElem?_eq_some_iff.1 hc).1 (fun e => by
    obtain ⟨cs', T', f', h1, h2⟩ := hS b e (Array.getElem?_eq_some_iff.1 hc).1
    rw [hc] at h1; cases h1; exact h2 hT)).trans hc⟩
theorem KeepT.put {Ts B : List Nat} {l : Nat} {o o' : Obj} (hl : w.heap[l]? = some o) (ho : o.isCells = false) (hB : ∀ b ∈ B, b ≠ l) : KeepT Ts B w (w.putObj l o') :=
  ⟨fun b hb => World.putObj_heap_other (hB b hb), fun b cs T f _ hc => (World.putObj_heap_other (by rintro rfl; rw [hl] at hc; cases hc; cases ho)).trans hc⟩
def YK (P : Program) (N n : Nat) (ds : List Nat) (ops : Array Oper) (rest : List Oper) (Q : Exit → Act → World → Prop) (d : Nat) (y : Operand) (xs : List Operand) : Act → World → Prop := fun a w =>
  ∃ (L : List (Nat × Value)) (vs : List Value) (y1 : Nat) (Φ : Value → World → Prop), AgM ds a n L ∧ ev L y = some (.func (.yield y1) #[] #[]) ∧ evs L xs vs ∧ YieldAt (Fo none) (N - 1) P y1 vs.toArray w (fun e w' => ∃ v, e = .returned v ∧ Φ v w') ∧ Nat.blt d n = true ∧
    ∀ v w', Φ v w' → WL P ops (NormEnd (Q .normal)) rest n ds w' ((d, v) :: L)
theorem iry {l : List Oper} (k : Nat) {d : Nat} {y : Operand} {xs : List Operand} {ts : Array TypeId} {ty : TypeId} {pos : String} {after : Array Edge}
    (hl : l = l.take k ++ ⟨some d, .call ⟨.value y, xs.toArray, ts⟩, ty, pos, after, none⟩ :: l.drop (k + 1)) (hd1 : (l.take k).all Oper.noDefer = true) (hd2 : (l.drop (k + 1)).all Oper.noDefer = true) (hnf : ∀ g, y ≠ .func g)
    (h1 : WL P l.toArray (NormEnd (YK P N n ds l.toArray (l.drop (k + 1)) Q d y xs)) (l.take k) n ds w L) : CWi none N P Q (.region id l.toArray false) n ds w L := by
  intro a ha
  refine wpIn_region_lit ?_
  have key : wpListIn (Fo none) N P l.toArray Q (l.take k ++ ⟨some d, .call ⟨.value y, xs.toArray, ts⟩, ty, pos, after, none⟩ :: l.drop (k + 1)) a w := by
    refine list_in _ ?_ _ a w hd1 (h1 a ha)
    rintro a w ⟨L, vs, y1, Φ, h, hy, hx, ⟨fn, tm, as_, bd, hrun, hR⟩, hn, hk⟩
    unfold wpListIn
    rw [if_pos (by simp [Region.wanted])]
    refine ⟨fun _ _ => trivial, ?_⟩
    have e : (Oper.semAt (Fo none).round a.eval ⟨some d, .call ⟨.value y, xs.toArray, ts⟩, ty, pos, after, none⟩).run P w = .ok (.round y1 fn tm as_ bd) w := by
      rw [sem_fo (by rfl)]
      simp only [execOp, resolve, h.eval hy, Deferred.ofValue, Sem.run_bind, Sem.run_pure, Result.andThen_ok, invoke, List.map_toArray, h.evals hx, List.append_toArray]
      simpa using hrun
    rw [e]
    refine ⟨fun e => by simp [Fo, Fence.wide] at e, hR.mono ?_⟩
    rintro e w' ⟨v, rfl, hv⟩
    have := list_in (r := none) (N := N) (Q := Q) (ops := l.toArray) [] (fun a w h => wpListIn_nil h) (l.drop (k + 1)) (a.put (some d) v) w' hd2 (hk v w' hv _ (h.put hn v))
    rwa [List.append_nil] at this
  rwa [← hl] at key
theorem yld {d : Nat} {y : Operand} {xs : List Operand} {vs : List Value} {y1 : Nat} {Φ : Value → World → Prop} (hy : ev L y = some (.func (.yield y1) #[] #[])) (hx : evs L xs vs) (hY : YieldAt (Fo none) (N - 1) P y1 vs.toArray w (fun e w' => ∃ v, e = .returned v ∧ Φ v w')) (hn : Nat.blt d n = true)
    (k : ∀ v w', Φ v w' → WL P ops (NormEnd (Q .normal)) rest n ds w' ((d, v) :: L)) {ops' : Array Oper} : WL P ops' (NormEnd (YK P N n ds ops rest Q d y xs)) [] n ds w L :=
  fun _ h => nm_end (Q := fun _ => YK P N n ds ops rest Q d y xs) ⟨L, vs, y1, Φ, h, hy, hx, hY, hn, k⟩
/-- The yield of an iterator's contract, as the walk asks for it. -/
theorem yat {α : Type} {l : Nat} {J Jx : List α → World → Prop} {encs : α → Array Value} {Ts B : List Nat} {M N : Nat} {B0 : Nat} {pre : List α} {x : α} {vs : List Value} (hyp : ∀ pre x W1, J pre W1 → pre.length < M → YieldAt (Fo none) (N - 1) P l (encs x) W1 fun e W' => (e = .returned (.bool true) ∧ J (pre ++ [x]) W' ∧ KeepT Ts B W1 W') ∨ (e = .returned (.bool false) ∧ Jx (pre ++ [x]) W'))
    (hJ : JAt J B0 pre w) (hM : pre.length < M) (he : vs.toArray = encs x) : YieldAt (Fo none) (N - 1) P l vs.toArray w (fun e w' => ∃ v, e = .returned v ∧ (v = .bool true ∧ J (pre ++ [x]) w' ∧ KeepT Ts B w w' ∨ v = .bool false ∧ Jx (pre ++ [x]) w')) := by
  rw [he]
  obtain ⟨fn, tm, as_, bd, h1, h2⟩ := hyp pre x w hJ.1 hM
  refine ⟨fn, tm, as_, bd, h1, h2.mono ?_⟩
  rintro e W' (⟨rfl, h⟩ | ⟨rfl, h⟩)
  · exact ⟨_, rfl, .inl ⟨rfl, h⟩⟩
  · exact ⟨_, rfl, .inr ⟨rfl, h⟩⟩
/-! The statement. -/
theorem keeps_fr {B : Nat} {S : List Nat} (hf : Fr S w w') (hS : ∀ k ∈ S, k < w.heap.size → ∃ o, w.heap[k]? = some o ∧ o.isCells = true) : KeepsFrom B w w' :=
  ⟨hf.size, fun k o _ hk ho => (hf.block k (Array.getElem?_eq_some_iff.1 hk).1 (fun e => by
    obtain ⟨o', h1, h2⟩ := hS k e (Array.getElem?_eq_some_iff.1 hk).1
    rw [hk] at h1; cases h1; rw [ho] at h2; cases h2)).trans hk⟩
theorem Blk.isC {g T : Nat} {cs : List Value} (h : Blk w g T cs) : ∃ o, w.heap[g]? = some o ∧ o.isCells = true := ⟨_, h, rfl⟩
theorem Own.isC {α : Type} {E : Enc α} {T base : Nat} {v : Value} {ys : List α} (h : Own E T base w v ys) : ∀ k ∈ blks v, ∃ o, w.heap[k]? = some o ∧ o.isCells = true := by
  rcases h with ⟨rfl, rfl⟩ | ⟨g, cap, cur, rfl, hb, hg, r⟩
  · intro k hk; simp [blks] at hk
  · intro k hk; simp [blks] at hk; subst hk; exact ⟨_, hg, rfl⟩
theorem Blk.tyC {g T : Nat} {cs : List Value} {Ts : List Nat} (h : Blk w g T cs) (hT : T ∉ Ts) : ∃ cs T f, w.heap[g]? = some (.cells cs T f) ∧ T ∉ Ts := ⟨_, _, _, h, hT⟩
theorem Own.tyC {α : Type} {E : Enc α} {T base : Nat} {v : Value} {ys : List α} {Ts : List Nat} (h : Own E T base w v ys) (hT : T ∉ Ts) : ∀ k ∈ blks v, ∃ cs T f, w.heap[k]? = some (.cells cs T f) ∧ T ∉ Ts := by
  rcases h with ⟨rfl, rfl⟩ | ⟨g, cap, cur, rfl, hb, hg, r⟩
  · intro k hk; simp [blks] at hk
  · intro k hk; simp [blks] at hk; subst hk; exact ⟨_, _, _, hg, hT⟩
theorem rndE {α : Type} {B0 : Nat} {Ts B S : List Nat} {I : List α → World → Prop} {Ix : Code → List α → World → Prop} {xs : List α} {W : World} (hf : Fr S W w) (hS : ∀ k ∈ S, k < W.heap.size → ∃ cs T f, W.heap[k]? = some (.cells cs T f) ∧ T ∉ Ts) (hB : ∀ b ∈ B, b < W.heap.size) (hd : ∀ b ∈ B, b ∉ S) (hI : I xs w) : EW (ownPostG B0 (KeepT Ts B) I Ix xs W) .normal n ds w L :=
  fun _ _ => ⟨keeps_fr hf (fun k hk hlt => let ⟨_, _, _, h1, _⟩ := hS k hk hlt; ⟨_, h1, rfl⟩), KeepT.fr hf hB hd hS, hI⟩
/-- Behind the assignment of a loop's variable: a new block holds it. -/
def AsK (n B0 : Nat) (W : World) (T : TypeId) (cs : List Value) (Lx : Nat → List (Nat × Value)) : Act → World → Prop := fun a' W' => ∃ g, B0 ≤ g ∧ AgM [] a' n (Lx g) ∧ Blk W' g T cs ∧ Fr [] W W'
theorem asE {B0 : Nat} {W : World} {T : TypeId} {cs : List Value} {Lx : Nat → List (Nat × Value)} (g : Nat) (hg : B0 ≤ g) (hs : Sub (Lx g) L) (hb : Blk w g T cs) (hf : Fr [] W w) {Q' : Exit → Act → World → Prop} : EW (Exit.then (AsK n B0 W T cs Lx) Q') .normal n [] w L := fun _ h => ⟨g, hg, h.sub hs, hb, hf⟩
theorem irng {α : Type} {g : Operand} {ps : Array Tmp} {assign body : Code} {gf : Nat} {lb : Array Value} (hg : ev L g = some (.func (.func gf) #[] lb)) (eg : CallOf P gf)
    {encs : α → Array Value} {Ts B : List Nat} {S Sp : List α → Prop} {M : Nat} (hN : 1 ≤ N) (hseq : SeqStopsK (Fo none) (N - 1) P gf lb encs (KeepT Ts B) S Sp M w) (hB : ∀ b ∈ B, b < w.heap.size)
    (hps : ∀ x, (encs x).size = ps.size) (Lq : α → List (Nat × Value)) (hLq : ∀ x, (ps.zip (encs x)).toList.reverse = Lq x) (hpn : ∀ x, (Lq x).all (fun p => Nat.blt p.1 n) = true) (T : TypeId) (E1 : α → List Value)
    (I : List α → World → Prop) (hI : ∀ s W W', Turn w.heap.size W W' → I s W → I s W') (hIf : ∀ s W W', Fr [] W W' → I s W → I s W') (hBI : ∀ s W, I s W → w.heap.size ≤ W.heap.size) (h0 : I [] w)
    (sl : Nat) (K : List (Nat × Value)) (_hK : Sub K L)
    (hassign : ∀ (l : Nat) (pre : List α) (x : α) (W : World), w.heap.size ≤ W.heap.size → I pre W → CWi (some l) (N - 1 - 1) P (Exit.then (AsK n w.heap.size W T (E1 x) (fun g => (sl, .pointer (some ⟨g, 0, none⟩)) :: K)) (fun _ _ _ => False)) assign n [] W (Lq x ++ L))
    (hbody : ∀ (l : Nat) (pre : List α) (x : α) (g : Nat) (W : World), w.heap.size ≤ g → Blk W g T (E1 x) → I pre W → pre.length < M → CWi (some l) (N - 1 - 1) P (ownPostG w.heap.size (KeepT Ts B) I (fun _ _ _ => False) (pre ++ [x]) W) body n [] W ((sl, .pointer (some ⟨g, 0, none⟩)) :: K))
    (hdone : ∀ (D : Nat) (xs : List α) (W : World), w.heap.size ≤ D → S xs → I xs W → DefAt D W → EW Q .normal n (D :: ds) W L) : CWi none N P Q (.rangeFunc g ps assign body) n ds w L := by
  intro a h
  have hmk : ∀ D, AgM (D :: ds) { a with defers := { target := .collected D, args := #[] } :: a.defers } n L := fun D => ⟨by simp [h.dfr, mark], h.size, h.at_⟩
  refine wpIn_rangeFunc_ownH rfl hN (h.eval hg) trivial eg hseq (fun h k => h.trans k) (fun W l o o' hl ho hc _ => KeepT.put ho hc (fun b hb => by have := hB b hb; omega)) (Below.refl _ _) hps
    I (fun _ _ _ => False) (fun s W W' row hs hg hr => hI s W W' ⟨row, hg, hr⟩ hs) (fun c s W W' row hs hg hr => hs.elim) h0
    (fun x a' W => ∃ g, w.heap.size ≤ g ∧ AgM [] a' n ((sl, .pointer (some ⟨g, 0, none⟩)) :: K) ∧ Blk W g T (E1 x)) (fun x a' _ W W' row hs hg hr => ?_) ?_ (fun l pre x a' W hl hr hi hx hlt => ?_)
    (fun D xs W hD hS hi hk => hdone D xs W hD hS hi hk _ (hmk D)) (fun D c pre W hD hS hi hk => hi.elim)
  · obtain ⟨g, h1, h2, h3⟩ := hs
    exact ⟨g, h1, h2, h3.turn (n0 := w.heap.size) ⟨row, hg, hr⟩⟩
  · intro l pre x W K hi hK
    have hp := ag_params h (ps.zip (encs x)).toList (by have := hpn x; rw [← hLq, List.all_reverse] at this; exact this)
    rw [hLq] at hp
    have e : ({ tmps := (ps.zip (encs x)).foldl (fun t (p : Nat × Value) => t.setIfInBounds p.1 p.2) a.tmps, defers := [] } : Act) = { tmps := (ps.zip (encs x)).toList.foldl (fun t p => t.setIfInBounds p.1 p.2) a.tmps, defers := [] } := by
      rw [← Array.foldl_toList]
    refine wpIn_mono (hassign l pre x W (hBI pre W hi) hi _ (by rw [← e] at hp; exact hp)) ?_
    rintro e a' W' he
    cases e with
    | normal =>
      obtain ⟨g, h1, h2, h3, hf⟩ := he
      exact hK a' W' (keeps_fr hf (by simp)) (KeepT.ext hf (fun b hb => Nat.lt_of_lt_of_le (hB b hb) (hBI pre W hi))) (hIf pre W W' hf hi) ⟨g, h1, h2, h3⟩
    | _ => exact he.elim
  · obtain ⟨g, h1, h2, h3⟩ := hx
    exact hbody l pre x g W h1 h3 hi hlt a' h2
end
end Go.Lw
