/- Memory for a walk by live slots: what a frame keeps, slices that read as lists, rows that the call owns, append. Conditions: none; each law is over any program. -/
import Derived.Test.YtacclnebhbakmaaDoorXLw
set_option linter.unusedVariables false
set_option linter.unusedSimpArgs false
namespace Go.Lw
open Go.RowKit

/-- Behind it all blocks but those of S are as they were. -/
structure Fr (S : List Nat) (w w' : World) : Prop where
  os : w'.os = w.os
  tape : w'.tape = w.tape
  output : w'.output = w.output
  size : w.heap.size ≤ w'.heap.size
  block : ∀ k, k < w.heap.size → k ∉ S → w'.heap[k]? = w.heap[k]?

theorem Fr.refl (S : List Nat) (w : World) : Fr S w w := ⟨rfl, rfl, rfl, Nat.le_refl _, fun _ _ _ => rfl⟩
theorem Fr.trans {S S' : List Nat} {a b c : World} (h : Fr S a b) (h' : Fr S' b c) : Fr (S ++ S') a c :=
  ⟨h'.os.trans h.os, h'.tape.trans h.tape, h'.output.trans h.output, Nat.le_trans h.size h'.size, fun k hk hS =>
    (h'.block k (Nat.lt_of_lt_of_le hk h.size) (fun e => hS (List.mem_append.2 (.inr e)))).trans (h.block k hk (fun e => hS (List.mem_append.2 (.inl e))))⟩
theorem Fr.weak {S S' : List Nat} {a b : World} (h : Fr S a b) (hS : ∀ k ∈ S, k < a.heap.size → k ∈ S') : Fr S' a b :=
  ⟨h.os, h.tape, h.output, h.size, fun k hk hn => h.block k hk (fun e => hn (hS k e hk))⟩
theorem Fr.step {S S' : List Nat} {a b c : World} (h : Fr S a b) (h' : Fr S' b c) (hS : ∀ k ∈ S', k < a.heap.size → k ∈ S) : Fr S a c :=
  (h.trans h').weak fun k hk hlt => (List.mem_append.1 hk).elim id fun e => hS k e hlt
theorem Fr.next {S : List Nat} {a b c : World} (h : Fr S a b) (h' : Fr [] b c) : Fr S a c := h.step h' (by simp)
theorem Fr.below {a b : World} (h : Fr [] a b) : Below a.heap.size a b := ⟨h.os, h.tape, h.output, h.size, fun k hk => h.block k hk (by simp)⟩
theorem Fr.of_below {a b : World} (h : Below a.heap.size a b) : Fr [] a b := ⟨h.os, h.tape, h.output, h.size, fun k hk _ => h.block k hk⟩
theorem Fr.alloc (S : List Nat) (w : World) (o : Obj) : Fr S w (w.alloc o) := ⟨rfl, rfl, rfl, by simp, fun k hk _ => Below.heap_alloc w o k hk⟩
theorem Fr.drew (S : List Nat) (w : World) : Fr S w w.drew := ⟨rfl, rfl, rfl, Nat.le_refl _, fun _ _ _ => rfl⟩
theorem Fr.setCell (w : World) (p : Addr) (u : Value) : Fr [p.block] w (w.setCell p u) :=
  ⟨rfl, rfl, rfl, by simp, fun k _ hn => heap_setCell_other w p k u (by simpa using hn)⟩
theorem Fr.setRow (w : World) (g : Nat) (cs : Array Value) : Fr [g] w (w.setRow g cs) :=
  ⟨rfl, rfl, rfl, by simp, fun k _ hn => setRow_other w g k _ (by simpa using hn)⟩
theorem Fr.cell {S : List Nat} {w w' : World} (h : Fr S w w') {p : Addr} {u : Value} (hc : w.cell? p = some u) (hn : p.block ∉ S) : w'.cell? p = some u :=
  (World.cell?_of_block (w := w) (h.block p.block (block_lt_of_cell hc) hn)).trans hc

/-- The cells from an address on. -/
def Cells (w : World) (ad : Addr) (cs : List Value) : Prop := ∀ j u, cs[j]? = some u → w.cell? (ad.add j) = some u
theorem block_add (a : Addr) (n : Nat) : (a.add n).block = a.block := by unfold Addr.add; split <;> rfl
theorem add_add (a : Addr) (i j : Nat) : (a.add i).add j = a.add (i + j) := by
  unfold Addr.add
  by_cases hi : i = 0 <;> by_cases hj : j = 0 <;> simp [hi, hj, Nat.add_assoc]
theorem Cells.fr {S : List Nat} {w w' : World} {ad : Addr} {cs : List Value} (h : Cells w ad cs) (hf : Fr S w w') (hn : ad.block ∉ S) : Cells w' ad cs :=
  fun j u hu => hf.cell (h j u hu) (by rw [block_add]; exact hn)

/-- How an element lies in cells. -/
structure Enc (α : Type) where
  enc : α → List Value
  sz : Nat
  len : ∀ y, (enc y).length = sz
  one : ∀ y, ∀ u ∈ enc y, u.oneCell' = true
  pos : 0 < sz

def Enc.i64 : Enc Int := ⟨fun n => [.int .i64 n], 1, fun _ => rfl, fun _ u h => by simp at h; subst h; rfl, by decide⟩
def Enc.u8 : Enc Int := ⟨fun n => [.int .u8 n], 1, fun _ => rfl, fun _ u h => by simp at h; subst h; rfl, by decide⟩
def Enc.str : Enc (List UInt8) := ⟨fun l => [S l], 1, fun _ => rfl, fun _ u h => by simp at h; subst h; rfl, by decide⟩
def Enc.sl : Enc (Option Addr × Nat × Nat) := ⟨fun p => [.slice p.1 p.2.1 p.2.2], 1, fun _ => rfl, fun _ u h => by simp at h; subst h; rfl, by decide⟩

theorem Enc.flat_len {α : Type} (E : Enc α) (ys : List α) : (ys.flatMap E.enc).length = ys.length * E.sz := by
  induction ys with
  | nil => simp
  | cons y ys ih => simp [E.len, ih, Nat.add_mul, Nat.add_comm]
theorem Enc.flat_one {α : Type} (E : Enc α) (ys : List α) : ∀ u ∈ ys.flatMap E.enc, u.oneCell' = true := by
  intro u hu
  obtain ⟨y, _, h⟩ := List.mem_flatMap.1 hu
  exact E.one y u h
theorem Enc.flat_get {α : Type} (E : Enc α) : ∀ (ys : List α) (i : Nat) (y : α), ys[i]? = some y → ∀ j, j < E.sz → (ys.flatMap E.enc)[i * E.sz + j]? = (E.enc y)[j]?
  | [], i, y, h, _, _ => by simp at h
  | z :: ys, 0, y, h, j, hj => by
    simp at h; subst h
    rw [List.flatMap_cons, Nat.zero_mul, Nat.zero_add, List.getElem?_append_left (by rw [E.len]; exact hj)]
  | z :: ys, i + 1, y, h, j, hj => by
    simp at h
    rw [List.flatMap_cons, List.getElem?_append_right (by rw [E.len, Nat.add_mul]; omega), E.len]
    rw [show (i + 1) * E.sz + j - E.sz = i * E.sz + j by rw [Nat.add_mul]; omega]
    exact Enc.flat_get E ys i y h j hj
theorem Enc.flat_split {α : Type} (E : Enc α) (ys : List α) (m : Nat) (u : Value) (h : (ys.flatMap E.enc)[m]? = some u) :
    ∃ i j y, m = i * E.sz + j ∧ j < E.sz ∧ ys[i]? = some y ∧ (E.enc y)[j]? = some u := by
  have hm : m < ys.length * E.sz := by rw [← E.flat_len]; exact (List.getElem?_eq_some_iff.1 h).1
  have hi : m / E.sz < ys.length := Nat.div_lt_of_lt_mul (by rw [Nat.mul_comm]; exact hm)
  have hj : m % E.sz < E.sz := Nat.mod_lt _ E.pos
  have e : m = m / E.sz * E.sz + m % E.sz := by rw [Nat.mul_comm]; exact (Nat.div_add_mod m E.sz).symm
  refine ⟨m / E.sz, m % E.sz, ys[m / E.sz], e, hj, List.getElem?_eq_getElem hi, ?_⟩
  have := E.flat_get ys (m / E.sz) ys[m / E.sz] (List.getElem?_eq_getElem hi) (m % E.sz) hj
  rw [← this, ← e]; exact h

/-- A slice reads as a list. -/
def Sl {α : Type} (E : Enc α) (w : World) (v : Value) (ys : List α) : Prop :=
  ∃ A c, v = .slice A ys.length c ∧ ys.length ≤ c ∧ c ≤ maxLen ∧ ∀ i y, ys[i]? = some y → ∃ ad, A = some ad ∧ Cells w (ad.add (i * E.sz)) (E.enc y)

/-- A slice of the call's own, from block base on: nil, or at the head of a block that nothing else is written through. -/
def Own {α : Type} (E : Enc α) (T : TypeId) (base : Nat) (w : World) (v : Value) (ys : List α) : Prop :=
  (v = .slice none 0 0 ∧ ys = []) ∨
  ∃ g cap cur, v = .slice (some ⟨g, 0, none⟩) ys.length cap ∧ base ≤ g ∧ w.heap[g]? = some (.cells cur T (0, 0)) ∧ ys.length ≤ cap ∧ cap ≤ maxLen ∧ cap * E.sz ≤ cur.size ∧
    cur.toList.take (ys.length * E.sz) = ys.flatMap E.enc

/-- The blocks of a slice. -/
def blks : Value → List Nat
  | .slice (some a) _ _ => [a.block]
  | _ => []

section
variable {α : Type} {E : Enc α} {T : TypeId} {base : Nat} {w w' : World} {v : Value} {ys zs : List α} {S : List Nat}

theorem lit_add (g o j : Nat) : (⟨g, o, none⟩ : Addr).add j = ⟨g, o + j, none⟩ := by unfold Addr.add; split <;> simp_all

theorem Sl.fr (h : Sl E w v ys) (hf : Fr S w w') (hn : ∀ k ∈ S, k ∉ blks v) : Sl E w' v ys := by
  obtain ⟨A, c, rfl, h1, h2, h3⟩ := h
  refine ⟨A, c, rfl, h1, h2, fun i y hy => ?_⟩
  obtain ⟨ad, rfl, hc⟩ := h3 i y hy
  exact ⟨ad, rfl, hc.fr hf (by rw [block_add]; exact fun e => hn _ e (by simp [blks]))⟩
theorem Sl.ext (h : Sl E w v ys) (hf : Fr [] w w') : Sl E w' v ys := h.fr hf (by simp)
theorem Sl.nil (w : World) : Sl E w (.slice none 0 0) [] := ⟨none, 0, rfl, Nat.le_refl _, Nat.zero_le _, fun i y h => by simp at h⟩
theorem Own.sl (h : Own E T base w v ys) : Sl E w v ys := by
  rcases h with ⟨rfl, rfl⟩ | ⟨g, cap, cur, rfl, _, hg, hc, hm, hs, ht⟩
  · exact Sl.nil w
  · refine ⟨_, cap, rfl, hc, hm, fun i y hy => ⟨_, rfl, fun j u hu => ?_⟩⟩
    have hj : j < E.sz := by rw [← E.len y]; exact (List.getElem?_eq_some_iff.1 hu).1
    have hi : i < ys.length := (List.getElem?_eq_some_iff.1 hy).1
    have h1 := E.flat_get ys i y hy j hj
    rw [← ht] at h1
    have hlt : i * E.sz + j < ys.length * E.sz := by
      have : (i + 1) * E.sz ≤ ys.length * E.sz := Nat.mul_le_mul_right _ hi
      rw [Nat.add_mul] at this; omega
    rw [List.getElem?_take, if_pos hlt] at h1
    rw [add_add, lit_add, Nat.zero_add, cell_of_row w g _ cur T (0, 0) hg, ← Array.getElem?_toList, h1]
    exact hu
theorem Own.fr (h : Own E T base w v ys) (hf : Fr S w w') (hn : ∀ k ∈ S, k ∉ blks v) : Own E T base w' v ys := by
  rcases h with ⟨rfl, rfl⟩ | ⟨g, cap, cur, rfl, hb, hg, r⟩
  · exact .inl ⟨rfl, rfl⟩
  · refine .inr ⟨g, cap, cur, rfl, hb, ?_, r⟩
    rw [hf.block g (Array.getElem?_eq_some_iff.1 hg).1 (fun e => hn _ e (by simp [blks]))]
    exact hg
theorem Own.ext (h : Own E T base w v ys) (hf : Fr [] w w') : Own E T base w' v ys := h.fr hf (by simp)
theorem Own.nil (w : World) : Own E T base w (.slice none 0 0) [] := .inl ⟨rfl, rfl⟩
theorem Own.low {b' : Nat} (h : Own E T base w v ys) (hb : b' ≤ base) : Own E T b' w v ys := by
  rcases h with h | ⟨g, cap, cur, h1, h2, r⟩
  · exact .inl h
  · exact .inr ⟨g, cap, cur, h1, Nat.le_trans hb h2, r⟩
theorem Own.blk (h : Own E T base w v ys) : ∀ k ∈ blks v, base ≤ k ∧ k < w.heap.size := by
  rcases h with ⟨rfl, rfl⟩ | ⟨g, cap, cur, rfl, hb, hg, r⟩
  · intro k hk; cases hk
  · intro k hk
    simp [blks] at hk; subst hk
    exact ⟨hb, (Array.getElem?_eq_some_iff.1 hg).1⟩
theorem Sl.blk (h : Sl E w v ys) (hp : ys ≠ []) : ∀ k ∈ blks v, k < w.heap.size := by
  obtain ⟨A, c, rfl, h1, h2, h3⟩ := h
  match ys, hp with
  | y :: r, _ =>
    obtain ⟨ad, rfl, hc⟩ := h3 0 y rfl
    intro k hk
    simp [blks] at hk; subst hk
    have hl := E.len y
    have hp := E.pos
    match he : E.enc y with
    | [] => rw [he] at hl; simp at hl; omega
    | u :: _ =>
      have := hc 0 u (by rw [he]; rfl)
      have := block_lt_of_cell this
      rwa [block_add, block_add] at this
theorem Sl.form (h : Sl E w v ys) : ∃ A c, v = .slice A ys.length c ∧ ys.length ≤ c := let ⟨A, c, h1, h2, _⟩ := h; ⟨A, c, h1, h2⟩
theorem Sl.len_le (h : Sl E w v ys) : ys.length ≤ maxLen := let ⟨_, _, _, h2, h3, _⟩ := h; Nat.le_trans h2 h3
/-- The cells of all elements. -/
theorem Sl.flat (h : Sl E w v ys) : ∃ A c, v = .slice A ys.length c ∧ ys.length ≤ c ∧ c ≤ maxLen ∧ (ys ≠ [] → ∃ ad, A = some ad ∧ Cells w ad (ys.flatMap E.enc)) := by
  obtain ⟨A, c, rfl, h1, h2, h3⟩ := h
  refine ⟨A, c, rfl, h1, h2, fun hp => ?_⟩
  match ys, hp with
  | y :: r, _ =>
    obtain ⟨ad, rfl, _⟩ := h3 0 y rfl
    refine ⟨ad, rfl, fun m u hu => ?_⟩
    obtain ⟨i, j, z, rfl, hj, hz, hu'⟩ := E.flat_split _ m u hu
    obtain ⟨ad', e, hc⟩ := h3 i z hz
    cases e
    have := hc j u hu'
    rwa [add_add] at this
/-- The beginning of a slice. -/
theorem Sl.take (h : Sl E w v ys) {A : Option Addr} {n c : Nat} (hv : v = .slice A n c) {m : Nat} (hm : m ≤ ys.length) {B : Option Addr} {c' : Nat} (hc' : m ≤ c') (hM : c' ≤ maxLen) (hB : 0 < m → B = A) : Sl E w (.slice B m c') (ys.take m) := by
  obtain ⟨A', c1, h0, h1, h2, h3⟩ := h
  rw [hv] at h0; cases h0
  have hl : (ys.take m).length = m := by simp; omega
  refine ⟨B, c', by rw [hl], by rw [hl]; exact hc', hM, fun i y hy => ?_⟩
  rw [List.getElem?_take] at hy
  split at hy
  · rename_i hi
    rw [hB (by omega)]
    exact h3 i y hy
  · cases hy
/-- A slice from an index on. -/
theorem Sl.drop (h : Sl E w v ys) {A : Option Addr} {n c : Nat} (hv : v = .slice A n c) {m : Nat} (hm : m ≤ ys.length) {B : Option Addr} {c' : Nat} (hc' : ys.length - m ≤ c') (hM : c' ≤ maxLen) (hB : m < ys.length → B = A.map (·.add (m * E.sz))) :
    Sl E w (.slice B (ys.length - m) c') (ys.drop m) := by
  obtain ⟨A', c1, h0, h1, h2, h3⟩ := h
  rw [hv] at h0; cases h0
  refine ⟨B, c', by rw [List.length_drop], by rw [List.length_drop]; exact hc', hM, fun i y hy => ?_⟩
  rw [List.getElem?_drop] at hy
  have hlt : m + i < ys.length := (List.getElem?_eq_some_iff.1 hy).1
  obtain ⟨ad, rfl, hc⟩ := h3 _ y hy
  refine ⟨ad.add (m * E.sz), by rw [hB (by omega)]; rfl, ?_⟩
  rw [add_add, ← Nat.add_mul]; exact hc

theorem Own.take (h : Own E T base w v ys) {A : Option Addr} {n c : Nat} (hv : v = .slice A n c) {m : Nat} (hm : m ≤ ys.length) {c' : Nat} (hc : c' ≤ c) (hmc : m ≤ c') : Own E T base w (.slice A m c') (ys.take m) := by
  rcases h with ⟨rfl, rfl⟩ | ⟨g, cap, cur, rfl, hb, hg, h1, h2, h3, h4⟩
  · cases hv
    simp at hm; subst hm
    exact .inl ⟨by rw [Nat.le_zero.1 hc], rfl⟩
  · cases hv
    have hl : (ys.take m).length = m := by simp; omega
    refine .inr ⟨g, c', cur, by rw [hl], hb, hg, by rw [hl]; exact hmc, by omega, Nat.le_trans (Nat.mul_le_mul_right _ hc) h3, ?_⟩
    have h5 : (cur.toList.take (ys.length * E.sz)).take (m * E.sz) = (ys.flatMap E.enc).take (m * E.sz) := by rw [h4]
    rw [List.take_take, Nat.min_eq_left (Nat.mul_le_mul_right _ hm)] at h5
    rw [hl, h5]
    clear h5 h4 h3 h2 h1 hg hl hc hmc
    induction ys generalizing m with
    | nil => simp
    | cons y ys ih =>
      match m with
      | 0 => simp
      | m + 1 =>
        rw [List.take_succ_cons, List.flatMap_cons, List.flatMap_cons, Nat.add_mul, Nat.one_mul, Nat.add_comm, ← E.len y, List.take_length_add_append, E.len y, ih (by simp at hm; omega)]
theorem run_append_nil' {P : Program} (t ty e : TypeId) (i : TypeInfo) (ht : P.underlying t = some (.slice e)) (hi : P.info? e = some i) (A : Option Addr) (n cap c : Nat) (hc : n ≤ cap) (hpos : 0 < n → A ≠ none) :
    (Builtin.append_ #[t, t] ty #[.slice A n cap, .slice none 0 c]).run P w = .ok (.slice A n cap) w := by
  cases A with
  | none => simp [Builtin.append_, run_underlying ht, sizeOf, typeInfo, hi, Builtin.lenOf, Builtin.firstCells, hc]
  | some a => simp [Builtin.append_, run_underlying ht, sizeOf, typeInfo, hi, Builtin.lenOf, Builtin.firstCells, hc, storeCells]

/-- append onto a row of the call's own. -/
theorem run_append {P : Program} (t ty : TypeId) (i : TypeInfo) (z : Value) (bytes : Nat) (ht : P.underlying t = some (.slice T)) (hi : P.info? T = some i) (hz : i.zero = some z) (hsize : i.size = E.sz) (hby : i.bytes = bytes)
    (hzs : z.cells.size = E.sz) {x : Value} (ho : Own E T base w v ys) (hx : Sl E w x zs) (hM : (ys.length + zs.length) ≤ maxLen) (hb : (ys.length + zs.length) * bytes ≤ 140737488355328) (hbase : base ≤ w.heap.size) :
    ∃ v' w', (Builtin.append_ #[t, t] ty #[v, x]).run P w = .ok v' w' ∧ Own E T base w' v' (ys ++ zs) ∧ Fr (blks v) w w' ∧ (v' = v ∨ blks v' = blks v ∨ blks v' = [w.heap.size]) := by
  subst hby
  obtain ⟨A, c, rfl, hc1, hc2, hcells⟩ := hx.flat
  have grown : ∀ (old : Nat),
      Own E T base (w.drew.alloc (.cells ((ys.flatMap E.enc).toArray ++ (zs.flatMap E.enc).toArray ++ Builtin.zeroCells z.cells (grownCap w (ys.length + zs.length) old T - (ys.length + zs.length))) T))
        (.slice (some ⟨w.heap.size, 0, none⟩) (ys.length + zs.length) (grownCap w (ys.length + zs.length) old T)) (ys ++ zs) := by
    intro old
    have hge := grownCap_ge w (ys.length + zs.length) old T
    have hcm := grownCap_le_maxLen w (ys.length + zs.length) old T hM
    refine .inr ⟨w.heap.size, _, _, by rw [List.length_append], hbase, heap_alloc_new w.drew _, by rw [List.length_append]; exact hge, hcm, ?_, ?_⟩
    · simp only [Array.size_append, List.size_toArray, size_zeroCells, hzs, E.flat_len, ← Nat.add_mul]
      refine Nat.mul_le_mul_right _ ?_
      omega
    · rw [List.flatMap_append]
      simp only [Array.toList_append]
      rw [show (ys ++ zs).length * E.sz = (ys.flatMap E.enc ++ zs.flatMap E.enc).length by rw [@List.length_append _ (ys.flatMap E.enc) (zs.flatMap E.enc), E.flat_len, E.flat_len, List.length_append, Nat.add_mul]]
      exact List.take_left
  by_cases hzn : zs = []
  · subst hzn
    rw [List.append_nil]
    refine ⟨v, w, ?_, ho, Fr.refl _ _, .inl rfl⟩
    rcases ho with ⟨rfl, rfl⟩ | ⟨g, cap, cur, rfl, hbg, hg, hnc, hcm, hcs, htake⟩
    · cases A with
      | none => exact run_append_nil' t ty T i ht hi _ _ _ _ (Nat.le_refl _) (by simp)
      | some a => simp [Builtin.append_, run_underlying ht, sizeOf, typeInfo, hi, Builtin.lenOf, Builtin.firstCells, loadCells, loadCellsFrom]
    · cases A with
      | none => exact run_append_nil' t ty T i ht hi _ _ _ _ hnc (by simp)
      | some a => simp [Builtin.append_, run_underlying ht, sizeOf, typeInfo, hi, Builtin.lenOf, Builtin.firstCells, loadCells, loadCellsFrom, hnc, storeCells]
  · obtain ⟨ad, rfl, hcc⟩ := hcells hzn
    have hpos : 0 < zs.length := List.length_pos_iff.2 hzn
    have hsm : ys.length + zs.length ≤ 9223372036854775807 := by simp only [maxLen] at hM; omega
    rcases ho with ⟨rfl, rfl⟩ | ⟨g, cap, cur, rfl, hbg, hg, hnc, hcm, hcs, htake⟩
    · have hr := run_append_nil (P := P) w t ty T i z ht hi hz ad zs.length c (zs.flatMap E.enc) (by rw [E.flat_len, hsize]) hcc hpos (by simp at hsm; omega) (by have hb' := hb; simp only [List.length_nil, Nat.zero_add] at hb'; omega)
      have hgr := grown 0
      simp only [List.flatMap_nil, List.length_nil, Nat.zero_add, List.nil_append, Array.empty_append] at hgr ⊢
      exact ⟨_, _, hr, hgr, ⟨rfl, rfl, rfl, by simp, fun k hk _ => Below.heap_alloc w.drew _ k hk⟩, .inr (.inr rfl)⟩
    · have hold : Own E T base w (.slice (some ⟨g, 0, none⟩) ys.length cap) ys := .inr ⟨g, cap, cur, rfl, hbg, hg, hnc, hcm, hcs, htake⟩
      by_cases hroom : ys.length + zs.length ≤ cap
      · have hfit : ys.length * i.size + (zs.flatMap E.enc).length ≤ cur.size := by
          rw [E.flat_len, hsize, ← Nat.add_mul]
          exact Nat.le_trans (Nat.mul_le_mul_right _ hroom) hcs
        have hr := run_append_room (P := P) w t ty T i ht hi g ys.length cap cur hg ad zs.length c (zs.flatMap E.enc) (by rw [E.flat_len, hsize]) hcc (E.flat_one zs) hroom hfit
        refine ⟨_, _, hr, .inr ⟨g, cap, _, by rw [List.length_append], hbg, setRow_heap w g cur _ T _ hg, by rw [List.length_append]; exact hroom, hcm, ?_, ?_⟩, Fr.setRow w g _, .inr (.inl rfl)⟩
        · simp only [List.size_toArray, List.length_append, List.length_take, List.length_drop, Array.length_toList]
          omega
        · rw [hsize, htake, List.flatMap_append, List.length_append, Nat.add_mul]
          rw [show ys.length * E.sz + zs.length * E.sz = (ys.flatMap E.enc ++ zs.flatMap E.enc).length by rw [List.length_append, E.flat_len, E.flat_len]]
          exact List.take_left
      · have hflat := hold.sl.flat
        have holds : ∀ j u, (ys.flatMap E.enc)[j]? = some u → w.cell? ((⟨g, 0, none⟩ : Addr).add j) = some u := by
          intro j u hu
          by_cases hy : ys = []
          · subst hy; simp at hu
          · obtain ⟨A', c', e, _, _, hh⟩ := hflat
            obtain ⟨ad', e', hc'⟩ := hh hy
            cases e; cases e'
            exact hc' j u hu
        have hr := run_append_grow (P := P) w t ty T i z ht hi hz ⟨g, 0, none⟩ ys.length cap (ys.flatMap E.enc) (by rw [E.flat_len, hsize]) holds ad zs.length c (zs.flatMap E.enc) (by rw [E.flat_len, hsize]) hcc (by omega) (by omega) (growslice_fits (by omega) hb)
        exact ⟨_, _, hr, grown cap, ⟨rfl, rfl, rfl, by simp, fun k hk _ => Below.heap_alloc w.drew _ k hk⟩, .inr (.inr rfl)⟩
end
end Go.Lw
