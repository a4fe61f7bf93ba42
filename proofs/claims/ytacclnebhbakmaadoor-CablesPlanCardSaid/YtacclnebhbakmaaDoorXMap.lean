/- Maps of the call's own in a walk by live slots. Conditions: none; each law is over any program whose key type obeys the key's law. -/
import Derived.Test.YtacclnebhbakmaaDoorXOps2
set_option linter.unusedVariables false
set_option linter.unusedSimpArgs false
namespace Go.Lw
open Go.RowKit

/-- The law of a key type. -/
structure KeyLaw {κ : Type} [DecidableEq κ] (P : Program) (K : TypeId) (V : κ → Value) : Prop where
  check : ∀ b k (w : World), (Instr.checkKey b 10000 K (V k)).run P w = .ok () w
  find : ∀ k (es : List MapEntry) (ks : List κ) (w : World), es.map (·.key) = ks.map V →
    (Instr.findKey K (V k) es).run P w = .ok ((ks.findIdx? (fun x => decide (k = x))).bind fun i => (es[i]?).map fun e => (i, e.val)) w
  bits : ∀ k, Instr.sameBits 10000 (V k) (V k) = true

def assocGet {κ : Type} [DecidableEq κ] : List (κ × Value) → κ → Option Value
  | [], _ => none
  | p :: r, k => if k = p.1 then some p.2 else assocGet r k
/-- Block g is a map that holds f. -/
def MapF {κ : Type} [DecidableEq κ] (V : κ → Value) (w : World) (g : Nat) (f : κ → Option Value) : Prop :=
  ∃ (es : Array MapEntry) (c : Nat) (m : List (κ × Value)), w.heap[g]? = some (.map es c) ∧ es.toList.map (fun e => (e.key, e.val)) = m.map (fun p => (V p.1, p.2)) ∧ ∀ k, assocGet m k = f k

section
variable {κ : Type} [DecidableEq κ] {V : κ → Value} {P : Program} {K : TypeId}
theorem findAsking_eq (heq : ∀ k k' (w : World), (Op.equal K (V k) (V k')).run P w = .ok (decide (k = k')) w) (k : κ) : ∀ (es : List MapEntry) (ks : List κ) (i : Nat) (w : World), es.map (·.key) = ks.map V →
    (Instr.findAsking K (V k) es i).run P w = .ok ((ks.findIdx? (fun x => decide (k = x))).bind fun j => (es[j]?).map fun e => (i + j, e.val)) w
  | [], [], i, w, _ => by simp [Instr.findAsking]
  | [], _ :: _, _, _, h => by simp at h
  | _ :: _, [], _, _, h => by simp at h
  | e :: es, x :: ks, i, w, h => by
    simp only [List.map_cons, List.cons.injEq] at h
    have ih := findAsking_eq heq k es ks (i + 1) w h.2
    simp only [Instr.findAsking, h.1, Sem.run_bind, heq k x w, Result.andThen_ok]
    by_cases hx : k = x
    · simp [hx, List.findIdx?_cons]
    · simp only [hx, decide_false, Bool.false_eq_true, if_false, ih, List.findIdx?_cons, Option.bind_map]
      congr 1
      cases hf : ks.findIdx? (fun x => decide (k = x)) with
      | none => simp
      | some j => simp [Nat.add_assoc, Nat.add_comm 1 j]
theorem KeyLaw.asking {d : TypeDesc} (hu : P.underlying K = some d) (hs : ∀ k k', Instr.sameNow d (V k) (V k') = none) (hc : ∀ b k (w : World), (Instr.checkKey b 10000 K (V k)).run P w = .ok () w)
    (heq : ∀ k k' (w : World), (Op.equal K (V k) (V k')).run P w = .ok (decide (k = k')) w) (hb : ∀ k, Instr.sameBits 10000 (V k) (V k) = true) : KeyLaw P K V := by
  refine ⟨hc, fun k es ks w h => ?_, hb⟩
  cases es with
  | nil =>
    cases ks with
    | nil => simp [Instr.findKey, run_underlying hu, Instr.findNow]
    | cons x ks => simp at h
  | cons e es =>
    cases ks with
    | nil => simp at h
    | cons x ks =>
      have hn : Instr.findNow d (V k) (e :: es) 0 = none := by
        simp only [List.map_cons, List.cons.injEq] at h
        simp [Instr.findNow, h.1, hs]
      have := findAsking_eq heq k (e :: es) (x :: ks) 0 w h
      simp only [Instr.findKey, Sem.run_bind, run_underlying hu, Result.andThen_ok, hn, this, Nat.zero_add]

theorem findNow_eq {d : TypeDesc} (hs : ∀ k k', Instr.sameNow d (V k) (V k') = some (decide (k = k'))) (k : κ) : ∀ (es : List MapEntry) (ks : List κ) (i : Nat), es.map (·.key) = ks.map V →
    Instr.findNow d (V k) es i = some ((ks.findIdx? (fun x => decide (k = x))).bind fun j => (es[j]?).map fun e => (i + j, e.val))
  | [], [], i, _ => by simp [Instr.findNow]
  | [], _ :: _, _, h => by simp at h
  | _ :: _, [], _, h => by simp at h
  | e :: es, x :: ks, i, h => by
    simp only [List.map_cons, List.cons.injEq] at h
    have ih := findNow_eq hs k es ks (i + 1) h.2
    simp only [Instr.findNow, h.1, hs]
    by_cases hx : k = x
    · simp [hx, List.findIdx?_cons]
    · simp only [hx, decide_false, ih, List.findIdx?_cons, Bool.false_eq_true, if_false, Option.bind_map]
      congr 2
      funext j; simp [Nat.add_assoc, Nat.add_comm 1 j]
theorem KeyLaw.now {d : TypeDesc} (hu : P.underlying K = some d) (hs : ∀ k k', Instr.sameNow d (V k) (V k') = some (decide (k = k'))) (hc : ∀ b k (w : World), (Instr.checkKey b 10000 K (V k)).run P w = .ok () w)
    (hb : ∀ k, Instr.sameBits 10000 (V k) (V k) = true) : KeyLaw P K V := by
  refine ⟨hc, fun k es ks w h => ?_, hb⟩
  have := findNow_eq hs k es ks 0 h
  simp only [Instr.findKey, Sem.run_bind, run_underlying hu, Result.andThen_ok, this, Nat.zero_add, Sem.run_pure]
theorem assoc_find (m : List (κ × Value)) (k : κ) : ∀ (es : List MapEntry), es.map (fun e => (e.key, e.val)) = m.map (fun p => (V p.1, p.2)) →
    (((m.map (·.1)).findIdx? (fun x => decide (k = x))).bind fun i => (es[i]?).map fun e => (i, e.val)).map (·.2) = assocGet m k := by
  induction m with
  | nil => intro es h; simp [assocGet]
  | cons p m ih =>
    intro es h
    match es, h with
    | e :: es, h =>
      simp only [List.map_cons, List.cons.injEq, Prod.mk.injEq] at h
      have := ih es h.2
      unfold assocGet
      by_cases hk : k = p.1
      · simp [hk, List.findIdx?_cons, h.1.2]
      · simp only [List.map_cons, List.findIdx?_cons, hk, decide_false, if_false, Bool.false_eq_true]
        rw [← this]
        cases (m.map (·.1)).findIdx? (fun x => decide (k = x)) with
        | none => simp
        | some j =>
          simp
          rfl
def assocSet (m : List (κ × Value)) (k : κ) (v : Value) : List (κ × Value) :=
  match (m.map (·.1)).findIdx? (fun x => decide (k = x)) with
  | some i => m.modify i fun p => (p.1, v)
  | none => m ++ [(k, v)]
theorem assocGet_app (m : List (κ × Value)) (k k' : κ) (v : Value) : (m.map (·.1)).findIdx? (fun x => decide (k = x)) = none → assocGet (m ++ [(k, v)]) k' = if k' = k then some v else assocGet m k' := by
  induction m with
  | nil => intro _; simp [assocGet]
  | cons p m ih =>
    intro h
    simp only [List.map_cons, List.findIdx?_cons] at h
    split at h
    · cases h
    · rename_i hk
      have hk' : ¬ k = p.1 := by simpa using hk
      have := ih (by simpa using h)
      simp only [List.cons_append, assocGet, this]
      by_cases e : k' = p.1
      · subst e
        simp [Ne.symm hk']
      · simp [e]
theorem assocGet_mod (k k' : κ) (v : Value) : ∀ (m : List (κ × Value)) (i : Nat), (m.map (·.1)).findIdx? (fun x => decide (k = x)) = some i → assocGet (m.modify i fun p => (p.1, v)) k' = if k' = k then some v else assocGet m k'
  | [], i, h => by simp at h
  | p :: m, i, h => by
    simp only [List.map_cons, List.findIdx?_cons] at h
    split at h
    · rename_i hk
      have hk' : k = p.1 := by simpa using hk
      simp at h; subst h
      simp only [List.modify_zero_cons, assocGet, hk']
      by_cases e : k' = p.1 <;> simp [e]
    · rename_i hk
      have hk' : ¬ k = p.1 := by simpa using hk
      cases hf : (m.map (·.1)).findIdx? (fun x => decide (k = x)) with
      | none => rw [hf] at h; simp at h
      | some j =>
        rw [hf] at h; simp at h; subst h
        have := assocGet_mod k k' v m j hf
        simp only [List.modify_succ_cons, assocGet, this]
        by_cases e : k' = p.1
        · subst e; simp [Ne.symm hk']
        · simp [e]
theorem assocGet_set (m : List (κ × Value)) (k k' : κ) (v : Value) : assocGet (assocSet m k v) k' = if k' = k then some v else assocGet m k' := by
  unfold assocSet
  split
  · rename_i i h; exact assocGet_mod k k' v m i h
  · rename_i h; exact assocGet_app m k k' v h

theorem MapF.fr {w w' : World} {g : Nat} {f : κ → Option Value} {S : List Nat} (h : MapF V w g f) (hf : Fr S w w') (hn : g ∉ S) : MapF V w' g f := by
  obtain ⟨es, c, m, h1, h2, h3⟩ := h
  exact ⟨es, c, m, (hf.block g (Array.getElem?_eq_some_iff.1 h1).1 hn).trans h1, h2, h3⟩
theorem MapF.ext {w w' : World} {g : Nat} {f : κ → Option Value} (h : MapF V w g f) (hf : Fr [] w w') : MapF V w' g f := h.fr hf (by simp)
theorem MapF.lt {w : World} {g : Nat} {f : κ → Option Value} (h : MapF V w g f) : g < w.heap.size := let ⟨_, _, _, h1, _⟩ := h; (Array.getElem?_eq_some_iff.1 h1).1
theorem MapF.ne_blk {w : World} {g g' T : Nat} {f : κ → Option Value} {cs : List Value} (h : MapF V w g f) (h' : Blk w g' T cs) : g ≠ g' := by
  rintro rfl; obtain ⟨_, _, _, h1, _⟩ := h; unfold Blk at h'; rw [h'] at h1; cases h1
theorem run_getObj {w : World} {g : Nat} {es : Array MapEntry} {c : Nat} (h : w.heap[g]? = some (.map es c)) : (getObj g).run P w = .ok (.map es c) w := by
  simp [getObj, Sem.run, h]
theorem run_lookup {w : World} {g : Nat} {f : κ → Option Value} {t E : TypeId} {z : Value} (h : MapF V w g f) (hk : KeyLaw P K V) (hu : P.underlying t = some (.map K E)) (hz : (zeroValue E).run P w = .ok z w) (k : κ) :
    (Instr.lookup t (.map (some g)) (V k) false).run P w = .ok ((f k).getD z) w := by
  obtain ⟨es, c, m, h1, h2, h3⟩ := h
  have hkeys : es.toList.map (·.key) = (m.map (·.1)).map V := by
    have := congrArg (List.map Prod.fst) h2
    simpa [List.map_map, Function.comp_def] using this
  have hfi := hk.find k es.toList (m.map (·.1)) w hkeys
  have hval := assoc_find (V := V) m k es.toList h2
  rw [h3] at hval
  generalize ((m.map (·.1)).findIdx? (fun x => decide (k = x))).bind (fun i => (es.toList[i]?).map fun e => (i, e.val)) = r at hfi hval
  cases r with
  | none => simp at hval; simp [Instr.lookup, run_underlying hu, run_getObj h1, hk.check, hfi, hz, ← hval]
  | some p => simp at hval; simp [Instr.lookup, run_underlying hu, run_getObj h1, hk.check, hfi, ← hval]
theorem run_lookup2 {w : World} {g : Nat} {f : κ → Option Value} {t E : TypeId} {z : Value} (h : MapF V w g f) (hk : KeyLaw P K V) (hu : P.underlying t = some (.map K E)) (hz : (zeroValue E).run P w = .ok z w) (k : κ) :
    (Instr.lookup t (.map (some g)) (V k) true).run P w = .ok (.tuple #[(f k).getD z, .bool (f k).isSome]) w := by
  obtain ⟨es, c, m, h1, h2, h3⟩ := h
  have hkeys : es.toList.map (·.key) = (m.map (·.1)).map V := by
    have := congrArg (List.map Prod.fst) h2
    simpa [List.map_map, Function.comp_def] using this
  have hfi := hk.find k es.toList (m.map (·.1)) w hkeys
  have hval := assoc_find (V := V) m k es.toList h2
  rw [h3] at hval
  generalize ((m.map (·.1)).findIdx? (fun x => decide (k = x))).bind (fun i => (es.toList[i]?).map fun e => (i, e.val)) = r at hfi hval
  cases r with
  | none => simp at hval; simp [Instr.lookup, run_underlying hu, run_getObj h1, hk.check, hfi, hz, ← hval]
  | some p => simp at hval; simp [Instr.lookup, run_underlying hu, run_getObj h1, hk.check, hfi, ← hval]
theorem run_mapUpdate {w : World} {g : Nat} {f : κ → Option Value} {t E : TypeId} (h : MapF V w g f) (hk : KeyLaw P K V) (hu : P.underlying t = some (.map K E)) (k : κ) (v : Value) :
    ∃ w', (Instr.mapUpdate t (.map (some g)) (V k) v).run P w = .ok () w' ∧ MapF V w' g (fun k' => if k' = k then some v else f k') ∧ Fr [g] w w' ∧ w'.heap.size = w.heap.size := by
  obtain ⟨es, c, m, h1, h2, h3⟩ := h
  have hlt := (Array.getElem?_eq_some_iff.1 h1).1
  have hkeys : es.toList.map (·.key) = (m.map (·.1)).map V := by
    have := congrArg (List.map Prod.fst) h2
    simpa [List.map_map, Function.comp_def] using this
  have hfi := hk.find k es.toList (m.map (·.1)) w hkeys
  have hset : ∀ o, (setObj g o).run P w = .ok () { w with heap := w.heap.setIfInBounds g o } := by intro o; simp [setObj, Sem.run, h1]
  have hfr : ∀ o, Fr [g] w { w with heap := w.heap.setIfInBounds g o } := fun o => ⟨rfl, rfl, rfl, by simp, fun i _ hn => by
    simp only
    rw [Array.getElem?_setIfInBounds_ne (by intro e; subst e; simp at hn)]⟩
  have hheap : ∀ o, ({ w with heap := w.heap.setIfInBounds g o } : World).heap[g]? = some o := by intro o; simp [hlt]
  have hlen : es.toList.length = m.length := by have := congrArg List.length h2; simpa using this
  cases hf : (m.map (·.1)).findIdx? (fun x => decide (k = x)) with
  | none =>
    refine ⟨_, ?_, ⟨_, _, m ++ [(k, v)], hheap (.map (es.push { key := V k, val := v, born := c }) (c + 1)), ?_, fun k' => ?_⟩, hfr _, by simp⟩
    · rw [hf] at hfi
      simp only [Instr.mapUpdate, Sem.run_bind, run_underlying hu, Result.andThen_ok, run_getObj h1, hk.check, hfi, Option.bind_none, hset]
    · simp [h2]
    · rw [assocGet_app m k k' v hf, h3]
  | some i =>
    have hi : i < m.length := by
      have := List.findIdx?_eq_some_iff_findIdx_eq.1 hf
      simpa using this.1
    have hi' : i < es.toList.length := by omega
    have hki : V k = (es.toList[i]).key := by
      have hmem := List.findIdx?_eq_some_iff_getElem.1 hf
      obtain ⟨hlt', hp, _⟩ := hmem
      have hp' : k = (m.map (·.1))[i] := by simpa using hp
      have e1 : (es.toList.map (·.key))[i]? = ((m.map (·.1)).map V)[i]? := by rw [hkeys]
      simp only [List.getElem?_map, List.getElem?_eq_getElem hi', List.getElem?_eq_getElem hi, Option.map_some, Option.some.injEq] at e1
      rw [e1, hp']; simp
    refine ⟨_, ?_, ⟨_, _, m.modify i fun p => (p.1, v), hheap (.map (es.modify i fun e => { e with key := V k, val := v }) c), ?_, fun k' => ?_⟩, hfr _, by simp⟩
    · rw [hf] at hfi
      have hes : es[i]? = some es.toList[i] := by rw [← Array.getElem?_toList, List.getElem?_eq_getElem hi']
      simp only [Option.bind_some, List.getElem?_eq_getElem hi', Option.map_some] at hfi
      have hstay : (Instr.keyThatStays (((es[i]?).map (·.key)).getD (V k)) (V k)).run P w = .ok (V k) w := by
        rw [hes]
        simp only [Option.map_some, Option.getD_some, ← hki, Instr.keyThatStays, hk.bits, if_true, Sem.run_pure]
      simp only [Instr.mapUpdate, Sem.run_bind, run_underlying hu, Result.andThen_ok, run_getObj h1, hk.check, hfi, hstay, hset]
    · apply List.ext_getElem?
      intro j
      have e2 := congrArg (·[j]?) h2
      simp only [List.getElem?_map] at e2 ⊢
      rw [Array.getElem?_toList, Array.getElem?_modify, List.getElem?_modify]
      rw [Array.getElem?_toList] at e2
      by_cases hj : i = j
      · subst hj
        have e3 := List.getElem?_eq_getElem hi
        have hes : es[i]? = some es.toList[i] := by rw [← Array.getElem?_toList, List.getElem?_eq_getElem hi']
        rw [hes, e3] at e2 ⊢
        simp only [Option.map_some, Option.some.injEq, Prod.mk.injEq] at e2
        simp only [if_true, Option.map_some]
        rw [hki, e2.1]; rfl
      · simp only [hj, if_false]
        rw [e2]; simp
    · rw [assocGet_mod k k' v m i hf, h3]
variable {a : Act} {n : Nat} {L : List (Nat × Value)} {ds : List Nat} {w w' : World} {Q : Exit → Act → World → Prop} {C : World → Prop} {Qa : Act → Prop} {ops : Array Oper} {rest : List Oper}
variable {d : Nat} {ty : TypeId} {pos : String} {after : Array Edge} {x y z : Operand} {t E : TypeId} {g : Nat} {f : κ → Option Value} {k : κ} {v zv : Value}
theorem st_makeMap (V : κ → Value) (h : AgM ds a n L) (hn : Nat.blt d n = true)
    (q : ∀ g w', g = w.heap.size → MapF V w' g (fun _ => none) → Fr [] w w' → w'.heap.size = g + 1 → ∀ a, AgM ds a n ((d, .map (some g)) :: L) → wpList P ops Q rest a w') : wpList P ops Q (⟨some d, .makeMap t none, ty, pos, after, none⟩ :: rest) a w :=
  st_ok h rfl rfl hn (w' := w.alloc (.map #[] 0)) (by simp [execOp, Instr.makeMap]) (q _ _ rfl ⟨_, _, [], heap_alloc_new w _, by simp, fun _ => rfl⟩ (Fr.alloc [] w _) (by simp))
theorem s_makeMap (V : κ → Value) (hn : Nat.blt d n = true) (q : ∀ g w', g = w.heap.size → MapF V w' g (fun _ => none) → Fr [] w w' → w'.heap.size = g + 1 → WL P ops Q rest n ds w' ((d, .map (some g)) :: L)) : WL P ops Q (⟨some d, .makeMap t none, ty, pos, after, none⟩ :: rest) n ds w L := fun a h => st_makeMap V h hn q -- short
theorem ex_lookup (h : AgM ds a n L) (hx : ev L x = some (.map (some g))) (hy : ev L y = some (V k)) (hm : MapF V w g f) (hk : KeyLaw P K V) (hu : P.underlying t = some (.map K E)) (hz : ∀ w : World, (zeroValue E).run P w = .ok zv w) :
    (execOp a.eval ⟨some d, .lookup t x y false, ty, pos, after, none⟩).run P w = .ok (.value ((f k).getD zv)) w := by
  simp [execOp, h.eval hx, h.eval hy, run_lookup hm hk hu (hz w) k]
theorem st_lookup (h : AgM ds a n L) (hx : ev L x = some (.map (some g))) (hy : ev L y = some (V k)) (hm : MapF V w g f) (hk : KeyLaw P K V) (hu : P.underlying t = some (.map K E)) (hz : ∀ w : World, (zeroValue E).run P w = .ok zv w) (hv : (f k).getD zv = v) (hn : Nat.blt d n = true)
    (q : ∀ a, AgM ds a n ((d, v) :: L) → wpList P ops Q rest a w) : wpList P ops Q (⟨some d, .lookup t x y false, ty, pos, after, none⟩ :: rest) a w :=
  st_ok h rfl rfl hn (by rw [← hv]; exact ex_lookup h hx hy hm hk hu hz) q
theorem s_lookup (hx : ev L x = some (.map (some g))) (hy : ev L y = some (V k)) (hm : MapF V w g f) (hk : KeyLaw P K V) (hu : P.underlying t = some (.map K E)) (hz : ∀ w : World, (zeroValue E).run P w = .ok zv w) (hv : (f k).getD zv = v) (hn : Nat.blt d n = true) (q : WL P ops Q rest n ds w ((d, v) :: L)) : WL P ops Q (⟨some d, .lookup t x y false, ty, pos, after, none⟩ :: rest) n ds w L := fun a h => st_lookup h hx hy hm hk hu hz hv hn q -- short
theorem qt_lookup (h : AgM ds a n L) (hx : ev L x = some (.map (some g))) (hy : ev L y = some (V k)) (hm : ∀ w, C w → MapF V w g f) (hk : KeyLaw P K V) (hu : P.underlying t = some (.map K E)) (hz : ∀ w : World, (zeroValue E).run P w = .ok zv w) (hv : (f k).getD zv = v) (hn : Nat.blt d n = true)
    (q : ∀ a, AgM ds a n ((d, v) :: L) → wpQuiet P ops C Qa rest a) : wpQuiet P ops C Qa (⟨some d, .lookup t x y false, ty, pos, after, none⟩ :: rest) a :=
  qt_ok h rfl rfl hn (fun w hw => by rw [← hv]; exact ex_lookup h hx hy (hm w hw) hk hu hz) q
theorem ex_lookup2 (h : AgM ds a n L) (hx : ev L x = some (.map (some g))) (hy : ev L y = some (V k)) (hm : MapF V w g f) (hk : KeyLaw P K V) (hu : P.underlying t = some (.map K E)) (hz : ∀ w : World, (zeroValue E).run P w = .ok zv w) :
    (execOp a.eval ⟨some d, .lookup t x y true, ty, pos, after, none⟩).run P w = .ok (.value (.tuple #[(f k).getD zv, .bool (f k).isSome])) w := by
  simp [execOp, h.eval hx, h.eval hy, run_lookup2 hm hk hu (hz w) k]
theorem st_lookup2 {bo : Bool} (h : AgM ds a n L) (hx : ev L x = some (.map (some g))) (hy : ev L y = some (V k)) (hm : MapF V w g f) (hk : KeyLaw P K V) (hu : P.underlying t = some (.map K E)) (hz : ∀ w : World, (zeroValue E).run P w = .ok zv w) (hv : (f k).getD zv = v) (hb : (f k).isSome = bo) (hn : Nat.blt d n = true)
    (q : ∀ a, AgM ds a n ((d, .tuple #[v, .bool bo]) :: L) → wpList P ops Q rest a w) : wpList P ops Q (⟨some d, .lookup t x y true, ty, pos, after, none⟩ :: rest) a w :=
  st_ok h rfl rfl hn (by rw [← hv, ← hb]; exact ex_lookup2 h hx hy hm hk hu hz) q
theorem s_lookup2 {bo : Bool} (hx : ev L x = some (.map (some g))) (hy : ev L y = some (V k)) (hm : MapF V w g f) (hk : KeyLaw P K V) (hu : P.underlying t = some (.map K E)) (hz : ∀ w : World, (zeroValue E).run P w = .ok zv w) (hv : (f k).getD zv = v) (hb : (f k).isSome = bo) (hn : Nat.blt d n = true) (q : WL P ops Q rest n ds w ((d, .tuple #[v, .bool bo]) :: L)) : WL P ops Q (⟨some d, .lookup t x y true, ty, pos, after, none⟩ :: rest) n ds w L := fun a h => st_lookup2 h hx hy hm hk hu hz hv hb hn q -- short
theorem st_insert (h : AgM ds a n L) (hx : ev L x = some (.map (some g))) (hy : ev L y = some (V k)) (hz : ev L z = some v) (hm : MapF V w g f) (hk : KeyLaw P K V) (hu : P.underlying t = some (.map K E))
    (q : ∀ w', MapF V w' g (fun k' => if k' = k then some v else f k') → Fr [g] w w' → w'.heap.size = w.heap.size → ∀ a, AgM ds a n L → wpList P ops Q rest a w') : wpList P ops Q (⟨none, .insert t x y z, ty, pos, after, none⟩ :: rest) a w := by
  obtain ⟨w', hr, h1, h2, h3⟩ := run_mapUpdate hm hk hu k v
  exact st_skip h rfl rfl (w' := w') (by simp [execOp, h.eval hx, h.eval hy, h.eval hz, hr]) (q w' h1 h2 h3)
theorem s_insert (hx : ev L x = some (.map (some g))) (hy : ev L y = some (V k)) (hz : ev L z = some v) (hm : MapF V w g f) (hk : KeyLaw P K V) (hu : P.underlying t = some (.map K E)) (q : ∀ w', MapF V w' g (fun k' => if k' = k then some v else f k') → Fr [g] w w' → w'.heap.size = w.heap.size → WL P ops Q rest n ds w' L) : WL P ops Q (⟨none, .insert t x y z, ty, pos, after, none⟩ :: rest) n ds w L := fun a h => st_insert h hx hy hz hm hk hu q -- short
theorem st_mapSet (h : AgM ds a n L) (hx : ev L x = some (.map (some g))) (hy : ev L y = some (V k)) (hz : ev L z = some v) (hm : MapF V w g f) (hk : KeyLaw P K V) (hu : P.underlying t = some (.map K E))
    (q : ∀ w', MapF V w' g (fun k' => if k' = k then some v else f k') → Fr [g] w w' → w'.heap.size = w.heap.size → ∀ a, AgM ds a n L → wpList P ops Q rest a w') : wpList P ops Q (⟨none, .mapUpdate t x y z, ty, pos, after, none⟩ :: rest) a w := by
  obtain ⟨w', hr, h1, h2, h3⟩ := run_mapUpdate hm hk hu k v
  exact st_skip h rfl rfl (w' := w') (by simp [execOp, h.eval hx, h.eval hy, h.eval hz, hr]) (q w' h1 h2 h3)
theorem s_mapSet (hx : ev L x = some (.map (some g))) (hy : ev L y = some (V k)) (hz : ev L z = some v) (hm : MapF V w g f) (hk : KeyLaw P K V) (hu : P.underlying t = some (.map K E)) (q : ∀ w', MapF V w' g (fun k' => if k' = k then some v else f k') → Fr [g] w w' → w'.heap.size = w.heap.size → WL P ops Q rest n ds w' L) : WL P ops Q (⟨none, .mapUpdate t x y z, ty, pos, after, none⟩ :: rest) n ds w L := fun a h => st_mapSet h hx hy hz hm hk hu q -- short
end
end Go.Lw
