/- A range over a function: the statement's rule and the iterator's call of yield, for frames by live slots. Conditions: none; each rule is over any program. -/
import Derived.Test.YtacclnebhbakmaaDoorXIn
set_option linter.unusedVariables false
set_option linter.unusedSimpArgs false
namespace Go.Lw
open Go.RowKit

/-- Behind it the blocks of K are as they were. -/
structure FrK (K : Nat → Prop) (w w' : World) : Prop where
  os : w'.os = w.os
  tape : w'.tape = w.tape
  output : w'.output = w.output
  size : w.heap.size ≤ w'.heap.size
  block : ∀ k, k < w.heap.size → K k → w'.heap[k]? = w.heap[k]?
theorem FrK.refl (K : Nat → Prop) (w : World) : FrK K w w := ⟨rfl, rfl, rfl, Nat.le_refl _, fun _ _ _ => rfl⟩
theorem FrK.trans {K K' : Nat → Prop} {x y z : World} (h : FrK K x y) (h' : FrK K' y z) (hk : ∀ k, k < x.heap.size → K k → K' k) : FrK K x z :=
  ⟨h'.os.trans h.os, h'.tape.trans h.tape, h'.output.trans h.output, Nat.le_trans h.size h'.size, fun k hl hK =>
    (h'.block k (Nat.lt_of_lt_of_le hl h.size) (hk k hl hK)).trans (h.block k hl hK)⟩
theorem FrK.weak {K K' : Nat → Prop} {x y : World} (h : FrK K x y) (hk : ∀ k, k < x.heap.size → K' k → K k) : FrK K' x y := ⟨h.os, h.tape, h.output, h.size, fun k hl hK => h.block k hl (hk k hl hK)⟩
theorem Fr.toK {S : List Nat} {w w' : World} (h : Fr S w w') : FrK (· ∉ S) w w' := ⟨h.os, h.tape, h.output, h.size, h.block⟩
theorem FrK.toFr {K : Nat → Prop} {w w' : World} (h : FrK K w w') {S : List Nat} (hS : ∀ k, k < w.heap.size → k ∉ S → K k) : Fr S w w' := ⟨h.os, h.tape, h.output, h.size, fun k hl hn => h.block k hl (hS k hl hn)⟩
theorem FrK.step {K : Nat → Prop} {S : List Nat} {x y z : World} (h : FrK K x y) (h' : Fr S y z) (hS : ∀ k ∈ S, k < x.heap.size → ¬ K k) : FrK K x z :=
  h.trans h'.toK fun k hl hK e => hS k e hl hK
theorem FrK.next {K : Nat → Prop} {x y z : World} (h : FrK K x y) (h' : Fr [] y z) : FrK K x z := h.step h' (by simp)

section
variable {α : Type} {E : Enc α} {T : TypeId} {base g : Nat} {w w' : World} {v : Value} {ys : List α} {K : Nat → Prop} {cs : List Value} {ad : Addr}
theorem FrK.cell (h : FrK K w w') {p : Addr} {u : Value} (hc : w.cell? p = some u) (hn : K p.block) : w'.cell? p = some u :=
  (World.cell?_of_block (w := w) (h.block p.block (block_lt_of_cell hc) hn)).trans hc
theorem Cells.frK (h : Cells w ad cs) (hf : FrK K w w') (hn : K ad.block) : Cells w' ad cs := fun j u hu => hf.cell (h j u hu) (by rw [block_add]; exact hn)
theorem Sl.frK (h : Sl E w v ys) (hf : FrK K w w') (hn : ∀ k ∈ blks v, K k) : Sl E w' v ys := by
  obtain ⟨A, c, rfl, h1, h2, h3⟩ := h
  refine ⟨A, c, rfl, h1, h2, fun i y hy => ?_⟩
  obtain ⟨ad, rfl, hc⟩ := h3 i y hy
  exact ⟨ad, rfl, hc.frK hf (by rw [block_add]; exact hn _ (by simp [blks]))⟩
theorem Own.frK (h : Own E T base w v ys) (hf : FrK K w w') (hn : ∀ k ∈ blks v, K k) : Own E T base w' v ys := by
  rcases h with ⟨rfl, rfl⟩ | ⟨g, cap, cur, rfl, hb, hg, r⟩
  · exact .inl ⟨rfl, rfl⟩
  · refine .inr ⟨g, cap, cur, rfl, hb, ?_, r⟩
    rw [hf.block g (Array.getElem?_eq_some_iff.1 hg).1 (hn _ (by simp [blks]))]
    exact hg
theorem Blk.frK (h : Blk w g T cs) (hf : FrK K w w') (hn : K g) : Blk w' g T cs := (hf.block g h.lt hn).trans h
end

/-- A step of the loop's book-keeping: new blocks, and at most one block that holds no cells is another. -/
def Turn (n0 : Nat) (W W' : World) : Prop := ∃ row, W.grownBy W' row ∧ ∀ r, row = some r → n0 ≤ r ∧ ∃ o : Obj, W.heap[r]? = some o ∧ o.isCells = false
section
variable {α : Type} {E : Enc α} {T : TypeId} {base g n0 : Nat} {w W W' : World} {v : Value} {ys : List α} {K : Nat → Prop} {cs : List Value} {ad : Addr} {S : List Nat}
theorem Turn.at (h : Turn n0 W W') {k : Nat} {o : Obj} (hk : W.heap[k]? = some o) (hc : o.isCells = true ∨ k < n0) : W'.heap[k]? = some o := by
  obtain ⟨row, hg, hr⟩ := h
  refine (hg.block k (Array.getElem?_eq_some_iff.1 hk).1 fun e => ?_).trans hk
  obtain ⟨h1, o', h2, h3⟩ := hr k e.symm
  rw [hk] at h2; cases h2
  rcases hc with hc | hc
  · rw [hc] at h3; cases h3
  · omega
theorem cells_of_cell {p : Addr} {u : Value} (h : W.cell? p = some u) : ∃ o, W.heap[p.block]? = some o ∧ o.isCells = true := by
  unfold World.cell? at h
  split at h
  · rename_i e; exact ⟨_, e, rfl⟩
  · cases h
theorem Turn.cell (h : Turn n0 W W') {p : Addr} {u : Value} (hc : W.cell? p = some u) : W'.cell? p = some u := by
  obtain ⟨o, h1, h2⟩ := cells_of_cell hc
  exact (World.cell?_of_block (w := W) ((h.at h1 (.inl h2)).trans h1.symm)).trans hc
theorem Cells.turn (h : Cells W ad cs) (ht : Turn n0 W W') : Cells W' ad cs := fun j u hu => ht.cell (h j u hu)
theorem Sl.turn (h : Sl E W v ys) (ht : Turn n0 W W') : Sl E W' v ys := by
  obtain ⟨A, c, rfl, h1, h2, h3⟩ := h
  exact ⟨A, c, rfl, h1, h2, fun i y hy => by obtain ⟨ad, rfl, hc⟩ := h3 i y hy; exact ⟨ad, rfl, hc.turn ht⟩⟩
theorem Own.turn (h : Own E T base W v ys) (ht : Turn n0 W W') : Own E T base W' v ys := by
  rcases h with ⟨rfl, rfl⟩ | ⟨g, cap, cur, rfl, hb, hg, r⟩
  · exact .inl ⟨rfl, rfl⟩
  · exact .inr ⟨g, cap, cur, rfl, hb, ht.at hg (.inl rfl), r⟩
theorem Blk.turn (h : Blk W g T cs) (ht : Turn n0 W W') : Blk W' g T cs := ht.at h (.inl rfl)
theorem Fr.turn (h : Fr S w W) (ht : Turn n0 W W') (hn : w.heap.size ≤ n0) : Fr S w W' := by
  obtain ⟨row, hg, hr⟩ := ht
  exact ⟨hg.os.trans h.os, hg.tape.trans h.tape, hg.output.trans h.output, Nat.le_trans h.size hg.size, fun k hk hS =>
    (hg.block k (Nat.lt_of_lt_of_le hk h.size) (fun e => by have := (hr k e.symm).1; omega)).trans (h.block k hk hS)⟩
theorem FrK.turn (h : FrK K w W) (ht : Turn n0 W W') (hn : w.heap.size ≤ n0) : FrK K w W' := by
  obtain ⟨row, hg, hr⟩ := ht
  exact ⟨hg.os.trans h.os, hg.tape.trans h.tape, hg.output.trans h.output, Nat.le_trans h.size hg.size, fun k hk hS =>
    (hg.block k (Nat.lt_of_lt_of_le hk h.size) (fun e => by have := (hr k e.symm).1; omega)).trans (h.block k hk hS)⟩
end

/-- What a round that goes on keeps: the blocks that the iterator reads. -/
def Keep (B : List Nat) (W W' : World) : Prop := ∀ b ∈ B, W'.heap[b]? = W.heap[b]?
/-- A block that holds no cells. -/
def NonCells (W : World) (k : Nat) : Prop := ∃ o : Obj, W.heap[k]? = some o ∧ o.isCells = false

section
variable {P : Program} {a : Act} {n N : Nat} {L : List (Nat × Value)} {ds : List Nat} {w w' : World} {Q : Exit → Act → World → Prop} {ops : Array Oper} {rest : List Oper} {o : Oper} {r : Option Nat}

theorem ag_params (h : AgM ds a n L) : ∀ (ps : List (Nat × Value)), ps.all (fun p => Nat.blt p.1 n) = true → AgM [] { tmps := ps.foldl (fun t p => t.setIfInBounds p.1 p.2) a.tmps, defers := [] } n (ps.reverse ++ L) := by
  intro ps hp
  have h0 : AgM [] { a with defers := [] } n L := ⟨rfl, h.size, h.at_⟩
  have key : ∀ (ps : List (Nat × Value)) (a : Act) (L : List (Nat × Value)), ps.all (fun p => Nat.blt p.1 n) = true → AgM [] a n L → AgM [] { tmps := ps.foldl (fun t p => t.setIfInBounds p.1 p.2) a.tmps, defers := [] } n (ps.reverse ++ L) := by
    intro ps
    induction ps with
    | nil => intro a L _ h; exact ⟨rfl, h.size, h.at_⟩
    | cons p ps ih =>
      intro a L hp h
      simp only [List.all_cons, Bool.and_eq_true] at hp
      have := ih (a.put (some p.1) p.2) _ hp.2 (h.put hp.1 p.2)
      simpa [Act.put] using this
  exact key ps { a with defers := [] } L hp h0

/-- The statement 'for .. := range f'. -/
theorem irange {α : Type} {g : Operand} {ps : Array Tmp} {assign body : Code} {gf : Nat} {lb : Array Value} (h : AgM ds a n L) (hg : ev L g = some (.func (.func gf) #[] lb)) (eg : CallOf P gf)
    {encs : α → Array Value} {B : List Nat} {S Sp : List α → Prop} {M : Nat} (hN : 1 ≤ N) (hseq : SeqStopsK (Fo none) (N - 1) P gf lb encs (Keep B) S Sp M w) (hB : ∀ b ∈ B, b < w.heap.size)
    (hps : ∀ x, (encs x).size = ps.size) (hpn : ∀ x, (ps.zip (encs x)).toList.all (fun p => Nat.blt p.1 n) = true)
    (I : List α → World → Prop) (Ix : Code → List α → World → Prop) (hI : ∀ s W W', Turn w.heap.size W W' → I s W → I s W') (hIx : ∀ c s W W', Turn w.heap.size W W' → Ix c s W → Ix c s W') (h0 : I [] w)
    (Lp Lx : α → List (Nat × Value)) (hLp : ∀ x, Lp x = (ps.zip (encs x)).toList.reverse ++ L)
    (hassign : ∀ (l : Nat) (pre : List α) (x : α) (W : World) (a' : Act), AgM [] a' n (Lp x) → I pre W → assign.wpIn (Fo (some l)) (N - 1 - 1) P (Exit.then (fun a' W' => AgM [] a' n (Lx x) ∧ W' = W) (fun _ _ _ => False)) a' W)
    (hbody : ∀ (l : Nat) (pre : List α) (x : α) (a' : Act) (W : World), AgM [] a' n (Lx x) → w.heap.size ≤ l → (∃ r, W.heap[l]? = some (.loop r)) → I pre W → pre.length < M → body.wpIn (Fo (some l)) (N - 1 - 1) P (ownPostG w.heap.size (Keep B) I Ix (pre ++ [x]) W) a' W)
    (hdone : ∀ (D : Nat) (xs : List α) (W : World) (a' : Act), w.heap.size ≤ D → S xs → I xs W → W.heap[D]? = some (.deferred (some [])) → AgM (D :: ds) a' n L → Q .normal a' W)
    (hstop : ∀ (D : Nat) (c : Code) (pre : List α) (W : World) (a' : Act), w.heap.size ≤ D → Sp pre → Ix c pre W → W.heap[D]? = some (.deferred (some [])) → AgM (D :: ds) a' n L → c.wpIn (Fo none) N P Q a' W) :
    (Code.rangeFunc g ps assign body).wpIn (Fo none) N P Q a w := by
  have hmk : ∀ D, AgM (D :: ds) { a with defers := { target := .collected D, args := #[] } :: a.defers } n L := fun D => ⟨by simp [h.dfr, mark], h.size, h.at_⟩
  refine wpIn_rangeFunc_ownH rfl hN (h.eval hg) trivial eg hseq (fun h k b hb => (k b hb).trans (h b hb)) (fun W l o o' hl ho hc _ b hb => World.putObj_heap_other (by have := hB b hb; omega)) (Below.refl _ _) hps
    I Ix (fun s W W' row hs hg hr => hI s W W' ⟨row, hg, hr⟩ hs) (fun c s W W' row hs hg hr => hIx c s W W' ⟨row, hg, hr⟩ hs) h0
    (fun x a' _ => AgM [] a' n (Lx x)) (fun _ _ _ _ _ _ hs _ _ => hs) ?_ (fun l pre x a' W hl hr hi hx hlt => hbody l pre x a' W hx hl hr hi hlt)
    (fun D xs W hD hS hi hk => hdone D xs W _ hD hS hi hk (hmk D)) (fun D c pre W hD hS hi hk => hstop D c pre W _ hD hS hi hk (hmk D))
  intro l pre x W K hi hK
  have hp := ag_params h (ps.zip (encs x)).toList (hpn x)
  rw [← hLp] at hp
  have e : ({ tmps := (ps.zip (encs x)).foldl (fun t (p : Nat × Value) => t.setIfInBounds p.1 p.2) a.tmps, defers := [] } : Act) = { tmps := (ps.zip (encs x)).toList.foldl (fun t p => t.setIfInBounds p.1 p.2) a.tmps, defers := [] } := by
    rw [← Array.foldl_toList]
  refine wpIn_mono (hassign l pre x W _ (by rw [← e] at hp; exact hp) hi) ?_
  rintro e a' W' he
  cases e with
  | normal => obtain ⟨h1, rfl⟩ := he; exact hK a' W' (KeepsFrom.refl _ _) (fun _ _ => rfl) hi h1
  | _ => exact he.elim

/-- The contract of a function that holds such a statement. -/
theorem enterM {f : FuncId} {fn : Func} {c : Code} {args : Array Value} {R : Ending → World → Prop} (L : List (Nat × Value))
    (hf : P.funcs[f]? = some fn) (hb : fn.body = some c) (hn : fn.ntmps = n) (hk : Nat.ble args.size n = true) (hL : argsOk args L)
    (h : ∀ a, Ag a n L → c.wpIn (Fo none) 9 P (bodyPostM (Fo none) 9 P fn R) a w) : Calls P f args w R := by
  have hk' : args.size ≤ n := by simpa [Nat.ble_eq] using hk
  refine calls_of_fo (r := none) (N := 9) (callsIn_of_wp_marks hf hb trivial (h _ ⟨rfl, by simp [hn]; omega, fun t v hv => ?_⟩))
  have := argsOk.look hL hv
  simp only [Array.getD_eq_getD_getElem?, Array.getElem?_append]
  have ht : t < args.size := by
    rcases Nat.lt_or_ge t args.size with h | h
    · exact h
    · rw [Array.getElem?_eq_none h] at this; cases this
  rw [if_pos ht, this]; rfl
/-- The contract of a function whose body calls yield. -/
theorem enterI {f : FuncId} {fn : Func} {c : Code} {args : Array Value} {R : Ending → World → Prop} (L : List (Nat × Value))
    (hf : P.funcs[f]? = some fn) (hb : fn.body = some c) (hn : fn.ntmps = n) (hk : Nat.ble args.size n = true) (hL : argsOk args L)
    (h : ∀ a, Ag a n L → c.wpIn (Fo none) N P (bodyPost P fn R) a w) : CallsIn (Fo none) N P f args w R := by
  have hk' : args.size ≤ n := by simpa [Nat.ble_eq] using hk
  refine callsIn_of_wp hf hb trivial (h _ ⟨rfl, by simp [hn]; omega, fun t v hv => ?_⟩)
  have := argsOk.look hL hv
  simp only [Array.getD_eq_getD_getElem?, Array.getElem?_append]
  have ht : t < args.size := by
    rcases Nat.lt_or_ge t args.size with h | h
    · exact h
    · rw [Array.getElem?_eq_none h] at this; cases this
  rw [if_pos ht, this]; rfl
theorem leaves_marks {fn : Func} {R : Ending → World → Prop} {tmps : Array Value} {v : Value} : ∀ (ds : List Nat) (w : World), (∀ D ∈ ds, w.heap[D]? = some (.deferred (some []))) → ds.Nodup → (∀ w', (results fn tmps).run P w' = .ok v w') →
    (∀ w', Fr ds w w' → (∀ n0, (∀ D ∈ ds, n0 ≤ D) → FrK (fun k => ¬ k ∈ ds) w w') → R (.returned v) w') → LeavesInM (Fo none) N P fn tmps R (ds.map mark) .returning w
  | [], w, _, _, hv, k => ⟨v, hv w, k w (Fr.refl _ _) (fun _ _ => FrK.refl _ _)⟩
  | D :: ds, w, hD, hnd, hv, k => by
    refine ⟨by simp, .inl ⟨D, _, rfl, run_takeDeferred (hD D (by simp)), ?_⟩⟩
    rw [List.nodup_cons] at hnd
    have hf : Fr [D] w (w.putObj D (.deferred none)) := ⟨rfl, rfl, rfl, by simp, fun k _ hk => World.putObj_heap_other (by simpa using hk)⟩
    refine leaves_marks ds _ (fun D' h' => ?_) hnd.2 hv (fun w' hw _ => ?_)
    · rw [World.putObj_heap_other (by rintro rfl; exact hnd.1 h')]; exact hD D' (by simp [h'])
    · have : Fr (D :: ds) w w' := hf.trans hw
      exact k w' this (fun _ _ => this.toK)
theorem retM0 {fn : Func} {R : Ending → World → Prop} (h : AgM ds a n L) (hr : fn.results = #[]) (hD : ∀ D ∈ ds, w.heap[D]? = some (.deferred (some []))) (hnd : ds.Nodup) (k : ∀ w', Fr ds w w' → R (.returned (.tuple #[])) w') : bodyPostM (Fo none) N P fn R .ret a w := by
  show LeavesInM _ _ _ _ _ _ a.defers _ _
  rw [h.dfr]; exact leaves_marks ds w hD hnd (fun w' => results_none hr _ _ _) (fun w' hw _ => k w' hw)
theorem retM0n {fn : Func} {R : Ending → World → Prop} (h : AgM ds a n L) (hr : fn.results = #[]) (hD : ∀ D ∈ ds, w.heap[D]? = some (.deferred (some []))) (hnd : ds.Nodup) (k : ∀ w', Fr ds w w' → R (.returned (.tuple #[])) w') : bodyPostM (Fo none) N P fn R .normal a w := retM0 h hr hD hnd k
theorem retM1 {fn : Func} {R : Ending → World → Prop} {t : Nat} {v : Value} (h : AgM ds a n L) (hr : fn.results = #[.tmp t]) (hv : look L t = some v) (hD : ∀ D ∈ ds, w.heap[D]? = some (.deferred (some []))) (hnd : ds.Nodup) (k : ∀ w', Fr ds w w' → R (.returned v) w') : bodyPostM (Fo none) N P fn R .ret a w := by
  show LeavesInM _ _ _ _ _ _ a.defers _ _
  rw [h.dfr]; exact leaves_marks ds w hD hnd (fun w' => by rw [← h.at_ t v hv]; exact results_tmp hr _ _ _) (fun w' hw _ => k w' hw)
theorem retM2 {fn : Func} {R : Ending → World → Prop} {t u : Nat} {v x : Value} (h : AgM ds a n L) (hr : fn.results = #[.tmp t, .tmp u]) (hv : look L t = some v) (hx : look L u = some x) (hD : ∀ D ∈ ds, w.heap[D]? = some (.deferred (some []))) (hnd : ds.Nodup)
    (k : ∀ w', Fr ds w w' → R (.returned (.tuple #[v, x])) w') : bodyPostM (Fo none) N P fn R .ret a w := by
  show LeavesInM _ _ _ _ _ _ a.defers _ _
  rw [h.dfr]; exact leaves_marks ds w hD hnd (fun w' => by rw [← h.at_ t v hv, ← h.at_ u x hx]; exact results_tmp2 hr _ _ _) (fun w' hw _ => k w' hw)
/-- Behind the marks a slice of the call's own is as it was. -/
theorem turn_marks {ds : List Nat} (h : Fr ds w w') {k : Nat} {o : Obj} (hk : w.heap[k]? = some o) (hc : o.isCells = true) (hD : ∀ D ∈ ds, w.heap[D]? = some (.deferred (some []))) : w'.heap[k]? = some o :=
  (h.block k (Array.getElem?_eq_some_iff.1 hk).1 (fun e => by have := hD k e; rw [hk] at this; cases this; cases hc)).trans hk

/-- A region that calls yield. -/
theorem ireg_y {id : Nat} {l : List Oper} (k : Nat) {d : Nat} {y : Operand} {xs : List Operand} {ts : Array TypeId} {ty : TypeId} {pos : String} {after : Array Edge} {y1 : Nat} {vs : List Value} (K : Act → World → Prop)
    (hl : l = l.take k ++ ⟨some d, .call ⟨.value y, xs.toArray, ts⟩, ty, pos, after, none⟩ :: l.drop (k + 1)) (hd1 : (l.take k).all Oper.noDefer = true) (hd2 : (l.drop (k + 1)).all Oper.noDefer = true) (hnf : ∀ g, y ≠ .func g)
    (h1 : wpList P l.toArray (NormEnd fun a w => ∃ (L : List (Nat × Value)), AgM ds a n L ∧ ev L y = some (.func (.yield y1) #[] #[]) ∧ evs L xs vs ∧
      ∃ Φ : Value → World → Prop, YieldAt (Fo none) (N - 1) P y1 vs.toArray w (fun e w' => ∃ v, e = .returned v ∧ Φ v w') ∧ Nat.blt d n = true ∧
        ∀ v w' a, Φ v w' → AgM ds a n ((d, v) :: L) → wpList P l.toArray (NormEnd (Q .normal)) (l.drop (k + 1)) a w') (l.take k) a w) :
    (Code.region id l.toArray false).wpIn (Fo none) N P Q a w := by
  refine wpIn_region_lit ?_
  have key : wpListIn (Fo none) N P l.toArray Q (l.take k ++ ⟨some d, .call ⟨.value y, xs.toArray, ts⟩, ty, pos, after, none⟩ :: l.drop (k + 1)) a w := by
    refine list_in _ ?_ _ a w hd1 h1
    rintro a w ⟨L, h, hy, hx, Φ, ⟨fn, tm, as, bd, hrun, hR⟩, hn, hk⟩
    unfold wpListIn
    rw [if_pos (by simp [Region.wanted])]
    refine ⟨fun _ _ => trivial, ?_⟩
    have e : (Oper.semAt (Fo none).round a.eval ⟨some d, .call ⟨.value y, xs.toArray, ts⟩, ty, pos, after, none⟩).run P w = .ok (.round y1 fn tm as bd) w := by
      rw [sem_fo (by rfl)]
      simp only [execOp, resolve, h.eval hy, Deferred.ofValue, Sem.run_bind, Sem.run_pure, Result.andThen_ok, invoke, List.map_toArray, h.evals hx, List.append_toArray]
      simpa using hrun
    rw [e]
    refine ⟨fun e => by simp [Fo, Fence.wide] at e, hR.mono ?_⟩
    rintro e w' ⟨v, rfl, hv⟩
    have := list_in (r := none) (N := N) (Q := Q) (ops := l.toArray) [] (fun a w h => wpListIn_nil h) (l.drop (k + 1)) (a.put (some d) v) w' hd2 (hk v w' _ hv (h.put hn v))
    rwa [List.append_nil] at this
  rwa [← hl] at key
end
end Go.Lw
