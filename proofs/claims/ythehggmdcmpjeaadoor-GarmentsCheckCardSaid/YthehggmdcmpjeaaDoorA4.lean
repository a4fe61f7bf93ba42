/- Texts of the proof, joined: XArr XIn XRange XBuf XS XStr V1 V2 V3 XStk V7 XCopy Shelf V4 XSI XSJ XSK -/
import Derived.RangeFuncNested
import Derived.RangeFuncBound
import Derived.RangeFuncCalls
import Derived.RangeFuncLeaves
import Derived.OrdersIn
import Derived.Lib.Builder
import Derived.Lib.AppendStr
import Derived.Laws.Pointers
import Derived.Laws.Externs
import Derived.Lib.ConvBytes
import Derived.Laws.AppendOwn
import Derived.Laws.RangeString
import Derived.Test.YthehggmdcmpjeaaDoorRows
import Derived.Laws.CopyRow
import Derived.Shelf.Strings.Builder1
import Derived.Shelf.Strings.Builder2
import Derived.Shelf.Strings.OnBuilder
import Derived.Shelf.Strconv.Itoa0
import Derived.Shelf.Strconv.Itoa1
import Derived.Shelf.LaysM
import Derived.Shelf.Strconv.Itoa2
import Derived.Shelf.Strconv.Itoa3
import Derived.Shelf.Bits.Mul64
import Derived.Test.YthehggmdcmpjeaaDoorProg
import Derived.Test.YthehggmdcmpjeaaDoorA3
set_option linter.unusedVariables false
set_option linter.unusedSimpArgs false
namespace Go.Lw
open Go.RowKit
section
variable {P : Program} {a : Act} {n : Nat} {L : List (Nat × Value)} {ds : List Nat} {w w' : World} {Q : Exit → Act → World → Prop} {C : World → Prop} {Qa : Act → Prop} {ops : Array Oper} {rest : List Oper} {d d2 : Nat} {ty ty2 : TypeId} {pos pos2 : String} {after after2 : Array Edge} {v u : Value} {x y z : Operand} {t T : TypeId} {k k' k'' : IntKind} {i j : Int}
theorem Sl.at {α : Type} {E : Enc α} {ys : List α} (hs : Sl E w v ys) {p : Nat} (hp : p < ys.length) : ∃ ad c, v = .slice (some ad) ys.length c ∧ ∀ W, Sl E W v ys → Cells W (ad.add (p * E.sz)) (E.enc ys[p]) := by
  obtain ⟨A, c, rfl, h1, h2, h3⟩ := hs
  obtain ⟨ad, rfl, _⟩ := h3 p _ (List.getElem?_eq_getElem hp)
  refine ⟨ad, c, rfl, fun W hW => ?_⟩
  obtain ⟨A', c', e, _, _, h3'⟩ := hW
  cases e
  obtain ⟨ad', e, hc⟩ := h3' p _ (List.getElem?_eq_getElem hp)
  cases e; exact hc
theorem getD_at {α : Type} (ys : List α) (p : Nat) (hp : p < ys.length) (z : α) : ys[p] = ys.getD p z := by simp [List.getD, hp]
/-- x[y] = z. -/
theorem st_ixs {α : Type} {E : Enc α} {bytes base : Nat} {ys : List α} {p : Nat} (e : α) (h : AgM ds a n L) (hx : ev L x = some v) (ho : Own E T base w v ys) (hy : ev L y = some (.int k i)) (hz : ev L z = some u) (hzd : z ≠ .tmp d) (he : ElemOf P t T E bytes) (hsz : SizeOf P T E.sz) (hc : u.cells = (E.enc e).toArray) (h0 : 0 ≤ i) (h1 : i < ys.length) (hp : i.toNat = p) (hf : look L d = none) (hn : Nat.blt d n = true)
    (q : ∀ w', Own E T base w' v (ys.set p e) → Fr (blks v) w w' → w'.heap.size = w.heap.size → ∀ a, AgM ds a n L → wpList P ops Q rest a w') : wpList P ops Q (⟨some d, .indexAddr t x y, ty, pos, after, none⟩ :: ⟨none, .store T (.tmp d) z, ty2, pos2, after2, none⟩ :: rest) a w := by
  subst hp
  have hlt : i.toNat < ys.length := by omega
  rcases ho with ⟨rfl, rfl⟩ | ⟨g, cap, cur, rfl, r⟩
  · simp at hlt
  have ho : Own E T base w (.slice (some ⟨g, 0, none⟩) ys.length cap) ys := .inr ⟨g, cap, cur, rfl, r⟩
  refine st_idxS h hx hy he h0 h1 rfl hn fun a h => ?_
  have hz' : ev ((d, Value.pointer (some ((⟨g, 0, none⟩ : Addr).add (i.toNat * E.sz)))) :: L) z = some u := by
    cases z with
    | tmp s =>
      have : ¬ d = s := fun e => hzd (by rw [e])
      simp only [ev, look, beq_no this, cond_false]; exact hz
    | _ => exact hz
  refine st_storeO e h (by simp [ev, look]) hz' ho hlt hc hsz fun w' h1 h2 h3 a h => ?_
  exact q w' h1 h2 h3 a ⟨h.dfr, h.size, fun s u hu => h.at_ s u (by
    simp only [look]
    by_cases e : d = s
    · subst e; rw [hf] at hu; cases hu
    · rw [beq_no e]; exact hu)⟩
theorem s_ixs {α : Type} {E : Enc α} {bytes base : Nat} {ys : List α} {p : Nat} (e : α) (hx : ev L x = some v) (ho : Own E T base w v ys) (hy : ev L y = some (.int k i)) (hz : ev L z = some u) (hzd : z ≠ .tmp d) (he : ElemOf P t T E bytes) (hsz : SizeOf P T E.sz) (hc : u.cells = (E.enc e).toArray) (h0 : 0 ≤ i) (h1 : i < ys.length) (hp : i.toNat = p) (hf : look L d = none) (hn : Nat.blt d n = true) (q : ∀ w', Own E T base w' v (ys.set p e) → Fr (blks v) w w' → w'.heap.size = w.heap.size → WL P ops Q rest n ds w' L) : WL P ops Q (⟨some d, .indexAddr t x y, ty, pos, after, none⟩ :: ⟨none, .store T (.tmp d) z, ty2, pos2, after2, none⟩ :: rest) n ds w L := fun a h => st_ixs e h hx ho hy hz hzd he hsz hc h0 h1 hp hf hn q -- short
/-- The address of an element of a slice that reads as a list. -/
theorem Sl.at' {α : Type} {E : Enc α} {ys : List α} (hs : Sl E w v ys) {p : Nat} (hp : p < ys.length) (y0 : α) : ∃ ad c, v = .slice (some ad) ys.length c ∧ ∀ W, Sl E W v ys → Cells W (ad.add (p * E.sz)) (E.enc (ys.getD p y0)) := by
  obtain ⟨ad, c, h1, h2⟩ := hs.at hp
  exact ⟨ad, c, h1, by rw [← getD_at ys p hp y0]; exact h2⟩
theorem st_idxL {α : Type} {E : Enc α} {bytes : Nat} {ys : List α} {p : Nat} (y0 : α) (h : AgM ds a n L) (hx : ev L x = some v) (hs : Sl E w' v ys) (hy : ev L y = some (.int k i)) (he : ElemOf P t T E bytes) (h0 : 0 ≤ i) (h1 : i < ys.length) (hp : i.toNat = p) (hn : Nat.blt d n = true)
    (q : ∀ ad, (∀ W, Sl E W v ys → Cells W ad (E.enc (ys.getD p y0))) → ∀ a, AgM ds a n ((d, .pointer (some ad)) :: L) → wpList P ops Q rest a w) : wpList P ops Q (⟨some d, .indexAddr t x y, ty, pos, after, none⟩ :: rest) a w := by
  subst hp
  obtain ⟨ad, c, rfl, hc⟩ := hs.at' (p := i.toNat) (by omega) y0
  exact st_idxS h hx hy he h0 h1 rfl hn (q _ hc)
theorem s_idxL {α : Type} {E : Enc α} {bytes : Nat} {ys : List α} {p : Nat} (y0 : α) (hx : ev L x = some v) (hs : Sl E w' v ys) (hy : ev L y = some (.int k i)) (he : ElemOf P t T E bytes) (h0 : 0 ≤ i) (h1 : i < ys.length) (hp : i.toNat = p) (hn : Nat.blt d n = true) (q : ∀ ad, (∀ W, Sl E W v ys → Cells W ad (E.enc (ys.getD p y0))) → WL P ops Q rest n ds w ((d, .pointer (some ad)) :: L)) : WL P ops Q (⟨some d, .indexAddr t x y, ty, pos, after, none⟩ :: rest) n ds w L := fun a h => st_idxL y0 h hx hs hy he h0 h1 hp hn q -- short
theorem qt_idxL {α : Type} {E : Enc α} {bytes : Nat} {ys : List α} {p : Nat} (y0 : α) (h : AgM ds a n L) (hx : ev L x = some v) (hs : Sl E w' v ys) (hy : ev L y = some (.int k i)) (he : ElemOf P t T E bytes) (h0 : 0 ≤ i) (h1 : i < ys.length) (hp : i.toNat = p) (hn : Nat.blt d n = true)
    (q : ∀ ad, (∀ W, Sl E W v ys → Cells W ad (E.enc (ys.getD p y0))) → ∀ a, AgM ds a n ((d, .pointer (some ad)) :: L) → wpQuiet P ops C Qa rest a) : wpQuiet P ops C Qa (⟨some d, .indexAddr t x y, ty, pos, after, none⟩ :: rest) a := by
  subst hp
  obtain ⟨ad, c, rfl, hc⟩ := hs.at' (p := i.toNat) (by omega) y0
  exact qt_idxS h hx hy he h0 h1 rfl hn (q _ hc)
theorem hd_idxL {G : Option (Nat × Bool)} {K : Act → World → Prop} {fu : Nat} {listed : Array Bool} {pq : Option Nat} {α : Type} {E : Enc α} {bytes : Nat} {ys : List α} {p : Nat} (y0 : α) (ix : Nat) (hsel : Region.noSelect ops = true) (hfr : Fre pq ops listed ix = true) (hre : (Region.ready .any ops listed).contains ix = true) (hC : C w) (h : AgM ds a n L) (hG : Wd ops n L G)
    (hx : ev L x = some v) (hs : Sl E w' v ys) (hy : ev L y = some (.int k i)) (he : ElemOf P t T E bytes) (h0 : 0 ≤ i) (h1 : i < ys.length) (hp : i.toNat = p) (hix : ops[ix]? = some ⟨some d, .indexAddr t x y, ty, pos, after, G⟩) (hn : Nat.blt d n = true)
    (q : ∀ ad, (∀ W, Sl E W v ys → Cells W ad (E.enc (ys.getD p y0))) → ∀ a, AgM ds a n ((d, .pointer (some ad)) :: L) → wpAnyP pq P ops (NormEnd K) C fu (listed.setIfInBounds ix true) a w) : wpAnyP pq P ops (NormEnd K) C (fu + 1) listed a w := by
  subst hp
  obtain ⟨ad, c, rfl, hc⟩ := hs.at' (p := i.toNat) (by omega) y0
  exact hd_idxS ix hsel hfr hre hC h hG hx hy he h0 h1 rfl hix hn (q _ hc)
theorem hd_loadC0 {G : Option (Nat × Bool)} {K : Act → World → Prop} {fu : Nat} {listed : Array Bool} {pq : Option Nat} {ad : Addr} (ix : Nat) (hsel : Region.noSelect ops = true) (hfr : Fre pq ops listed ix = true) (hre : (Region.ready .any ops listed).contains ix = true) (hC : C w) (h : AgM ds a n L) (hG : Wd ops n L G) (hx : ev L x = some (.pointer (some ad))) (hc : ∀ w, C w → Cells w ad [v]) (hg : NotAgg P t)
    (hix : ops[ix]? = some ⟨some d, .load t x, ty, pos, after, G⟩) (hn : Nat.blt d n = true) (q : ∀ a, AgM ds a n ((d, v) :: L) → wpAnyP pq P ops (NormEnd K) C fu (listed.setIfInBounds ix true) a w) : wpAnyP pq P ops (NormEnd K) C (fu + 1) listed a w :=
  hd_load ix hsel hfr hre hC h hG hx (fun W hW => by have := hc W hW 0 v rfl; rwa [Addr.add_zero'] at this) hg hix hn q
theorem st_fad2 {ad : Addr} {f off o1 : Nat} (h : AgM ds a n L) (hx : ev L x = some (.pointer (some (ad.add o1)))) (hf : FieldAt P t f off) (hn : Nat.blt d n = true) (q : ∀ a, AgM ds a n ((d, .pointer (some (ad.add (o1 + off)))) :: L) → wpList P ops Q rest a w) : wpList P ops Q (⟨some d, .fieldAddr t x f, ty, pos, after, none⟩ :: rest) a w :=
  st_fieldAddr h hx hf hn (by rw [add_add]; exact q)
theorem s_fad2 {ad : Addr} {f off o1 : Nat} (hx : ev L x = some (.pointer (some (ad.add o1)))) (hf : FieldAt P t f off) (hn : Nat.blt d n = true) (q : WL P ops Q rest n ds w ((d, .pointer (some (ad.add (o1 + off)))) :: L)) : WL P ops Q (⟨some d, .fieldAddr t x f, ty, pos, after, none⟩ :: rest) n ds w L := fun a h => st_fad2 h hx hf hn q -- short
theorem Blk.part {w : World} {g T off : Nat} {cs vs : List Value} (hb : Blk w g T cs) (hv : (cs.drop off).take vs.length = vs) : Cells w ((⟨g, 0, none⟩ : Addr).add off) vs := fun j u hu => by
    rw [← hv] at hu
    have hj : (cs.drop off)[j]? = some u := by
      rw [List.getElem?_take] at hu; split at hu
      · exact hu
      · cases hu
    rw [List.getElem?_drop] at hj
    rw [add_add]; exact hb.cellAdd hj
theorem hd_loadBP {G : Option (Nat × Bool)} {K : Act → World → Prop} {fu : Nat} {listed : Array Bool} {pq : Option Nat} {g T off : Nat} {cs vs : List Value} (ix : Nat) (hsel : Region.noSelect ops = true) (hfr : Fre pq ops listed ix = true) (hre : (Region.ready .any ops listed).contains ix = true) (hC : C w) (h : AgM ds a n L) (hG : Wd ops n L G) (hx : ev L x = some (.pointer (some ((⟨g, 0, none⟩ : Addr).add off)))) (hb : ∀ w, C w → Blk w g T cs) (hg : AggOf P t vs.length) (hv : (cs.drop off).take vs.length = vs)
    (hix : ops[ix]? = some ⟨some d, .load t x, ty, pos, after, G⟩) (hn : Nat.blt d n = true) (q : ∀ a, AgM ds a n ((d, .agg vs.toArray) :: L) → wpAnyP pq P ops (NormEnd K) C fu (listed.setIfInBounds ix true) a w) : wpAnyP pq P ops (NormEnd K) C (fu + 1) listed a w :=
  hd_loadA ix hsel hfr hre hC h hG hx (fun w hw => (hb w hw).part hv) hg hix hn q
end
end Go.Lw
namespace Go.Lw
open Go.RowKit

section
variable {P : Program} {a : Act} {n N : Nat} {L : List (Nat × Value)} {ds : List Nat} {w w' : World} {Q : Exit → Act → World → Prop} {ops : Array Oper} {rest : List Oper} {o : Oper} {r : Option Nat}

theorem nm_end (h : Q .normal a w) : wpList P ops (NormEnd (Q .normal)) [] a w := h
end
end Go.Lw
namespace Go.Lw
open Go.RowKit

/-- Behind it the blocks of K are as they were. -/
structure FrK (K : Nat → Prop) (w w' : World) : Prop where
  os : w'.os = w.os
  tape : w'.tape = w.tape
  output : w'.output = w.output
  size : w.heap.size ≤ w'.heap.size
  block : ∀ k, k < w.heap.size → K k → w'.heap[k]? = w.heap[k]?
theorem FrK.refl (K : Nat → Prop) (w : World) : FrK K w w := ⟨rfl, rfl, rfl, Nat.le_refl _, fun _ _ _ => rfl⟩
theorem FrK.trans {K K' : Nat → Prop} {x y z : World} (h : FrK K x y) (h' : FrK K' y z) (hk : ∀ k, k < x.heap.size → K k → K' k) : FrK K x z :=
  ⟨h'.os.trans h.os, h'.tape.trans h.tape, h'.output.trans h.output, Nat.le_trans h.size h'.size, fun k hl hK =>
    (h'.block k (Nat.lt_of_lt_of_le hl h.size) (hk k hl hK)).trans (h.block k hl hK)⟩
theorem FrK.weak {K K' : Nat → Prop} {x y : World} (h : FrK K x y) (hk : ∀ k, k < x.heap.size → K' k → K k) : FrK K' x y := ⟨h.os, h.tape, h.output, h.size, fun k hl hK => h.block k hl (hk k hl hK)⟩
theorem Fr.toK {S : List Nat} {w w' : World} (h : Fr S w w') : FrK (· ∉ S) w w' := ⟨h.os, h.tape, h.output, h.size, h.block⟩
theorem FrK.step {K : Nat → Prop} {S : List Nat} {x y z : World} (h : FrK K x y) (h' : Fr S y z) (hS : ∀ k ∈ S, k < x.heap.size → ¬ K k) : FrK K x z :=
  h.trans h'.toK fun k hl hK e => hS k e hl hK
theorem FrK.next {K : Nat → Prop} {x y z : World} (h : FrK K x y) (h' : Fr [] y z) : FrK K x z := h.step h' (by simp)

section
variable {α : Type} {E : Enc α} {T : TypeId} {base g : Nat} {w w' : World} {v : Value} {ys : List α} {K : Nat → Prop} {cs : List Value} {ad : Addr}
theorem FrK.cell (h : FrK K w w') {p : Addr} {u : Value} (hc : w.cell? p = some u) (hn : K p.block) : w'.cell? p = some u :=
  (World.cell?_of_block (w := w) (h.block p.block (block_lt_of_cell hc) hn)).trans hc
end

/-- A step of the loop's book-keeping: new blocks, and at most one block that holds no cells is another. -/
def Turn (n0 : Nat) (W W' : World) : Prop := ∃ row, W.grownBy W' row ∧ ∀ r, row = some r → n0 ≤ r ∧ ∃ o : Obj, W.heap[r]? = some o ∧ o.isCells = false
section
variable {α : Type} {E : Enc α} {T : TypeId} {base g n0 : Nat} {w W W' : World} {v : Value} {ys : List α} {K : Nat → Prop} {cs : List Value} {ad : Addr} {S : List Nat}
theorem Turn.at (h : Turn n0 W W') {k : Nat} {o : Obj} (hk : W.heap[k]? = some o) (hc : o.isCells = true ∨ k < n0) : W'.heap[k]? = some o := by
  obtain ⟨row, hg, hr⟩ := h
  refine (hg.block k (Array.getElem?_eq_some_iff.1 hk).1 fun e => ?_).trans hk
  obtain ⟨h1, o', h2, h3⟩ := hr k e.symm
  rw [hk] at h2; cases h2
  rcases hc with hc | hc
  · rw [hc] at h3; cases h3
  · omega
theorem cells_of_cell {p : Addr} {u : Value} (h : W.cell? p = some u) : ∃ o, W.heap[p.block]? = some o ∧ o.isCells = true := by
  unfold World.cell? at h
  split at h
  · rename_i e; exact ⟨_, e, rfl⟩
  · cases h
theorem Turn.cell (h : Turn n0 W W') {p : Addr} {u : Value} (hc : W.cell? p = some u) : W'.cell? p = some u := by
  obtain ⟨o, h1, h2⟩ := cells_of_cell hc
  exact (World.cell?_of_block (w := W) ((h.at h1 (.inl h2)).trans h1.symm)).trans hc
theorem Cells.turn (h : Cells W ad cs) (ht : Turn n0 W W') : Cells W' ad cs := fun j u hu => ht.cell (h j u hu)
theorem Sl.turn (h : Sl E W v ys) (ht : Turn n0 W W') : Sl E W' v ys := by
  obtain ⟨A, c, rfl, h1, h2, h3⟩ := h
  exact ⟨A, c, rfl, h1, h2, fun i y hy => by obtain ⟨ad, rfl, hc⟩ := h3 i y hy; exact ⟨ad, rfl, hc.turn ht⟩⟩
theorem Own.turn (h : Own E T base W v ys) (ht : Turn n0 W W') : Own E T base W' v ys := by
  rcases h with ⟨rfl, rfl⟩ | ⟨g, cap, cur, rfl, hb, hg, r⟩
  · exact .inl ⟨rfl, rfl⟩
  · exact .inr ⟨g, cap, cur, rfl, hb, ht.at hg (.inl rfl), r⟩
theorem Blk.turn (h : Blk W g T cs) (ht : Turn n0 W W') : Blk W' g T cs := ht.at h (.inl rfl)
theorem Fr.turn (h : Fr S w W) (ht : Turn n0 W W') (hn : w.heap.size ≤ n0) : Fr S w W' := by
  obtain ⟨row, hg, hr⟩ := ht
  exact ⟨hg.os.trans h.os, hg.tape.trans h.tape, hg.output.trans h.output, Nat.le_trans h.size hg.size, fun k hk hS =>
    (hg.block k (Nat.lt_of_lt_of_le hk h.size) (fun e => by have := (hr k e.symm).1; omega)).trans (h.block k hk hS)⟩
theorem FrK.turn (h : FrK K w W) (ht : Turn n0 W W') (hn : w.heap.size ≤ n0) : FrK K w W' := by
  obtain ⟨row, hg, hr⟩ := ht
  exact ⟨hg.os.trans h.os, hg.tape.trans h.tape, hg.output.trans h.output, Nat.le_trans h.size hg.size, fun k hk hS =>
    (hg.block k (Nat.lt_of_lt_of_le hk h.size) (fun e => by have := (hr k e.symm).1; omega)).trans (h.block k hk hS)⟩
end

/-- What a round that goes on keeps: the blocks that the iterator reads. -/
def Keep (B : List Nat) (W W' : World) : Prop := ∀ b ∈ B, W'.heap[b]? = W.heap[b]?
section
variable {P : Program} {a : Act} {n N : Nat} {L : List (Nat × Value)} {ds : List Nat} {w w' : World} {Q : Exit → Act → World → Prop} {ops : Array Oper} {rest : List Oper} {o : Oper} {r : Option Nat}

end
end Go.Lw
namespace Go.Lw
open Go.RowKit
theorem Blk.of_below {w w' : World} {g B : Nat} {T : TypeId} {cs : List Value} (h : Blk w g T cs) (hb : Below B w w') (hg : g < B) : Blk w' g T cs := by
  unfold Blk at h ⊢; rw [hb.block g hg]; exact h
theorem below_of_fr {w w' : World} {B : Nat} {S : List Nat} (hf : Fr S w w') (hS : ∀ k ∈ S, B ≤ k) (hB : B ≤ w.heap.size) : Below B w w' :=
  ⟨hf.os, hf.tape, hf.output, hf.size, fun k hk => hf.block k (by omega) (fun e => by have := hS k e; omega)⟩
theorem bAt_fr {T e : TypeId} {B b : Nat} {p : Value} {bs : List Value} {w w' : World} (h : Lib.BuilderAt T e B b p bs w) (hf : Fr [] w w') : Lib.BuilderAt T e B b p bs w' := by
  obtain ⟨hB, v, hb, ⟨hl, hown⟩, hne⟩ := h
  have hblk : ∀ k o, w.heap[k]? = some o → w'.heap[k]? = some o := fun k o hk => by
    rw [hf.block k (Array.getElem?_eq_some_iff.1 hk).1 (by simp)]; exact hk
  refine ⟨hB, v, hblk _ _ hb, ⟨hl, ?_⟩, hne⟩
  rcases hown with h1 | ⟨g, cap, cur, h1, h2, h3, r⟩
  · exact .inl h1
  · exact .inr ⟨g, cap, cur, h1, h2, hblk _ _ h3, r⟩
theorem isB_fr {T e : TypeId} {B b : Nat} {bs : List Value} {w w' : World} (h : Lib.IsBuilder T e B b bs w) (hf : Fr [] w w') : Lib.IsBuilder T e B b bs w' := h.imp (bAt_fr · hf) (bAt_fr · hf)
theorem own_fr {w w' : World} {S : List Nat} {B : Nat} {e : TypeId} {v : Value} {n : Nat} {xs : List Value} (h : w.ownsRow B e 1 v n xs) (hf : Fr S w w') (hS : ∀ g ∈ S, v.ownBlock ≠ some g) : w'.ownsRow B e 1 v n xs := by
  obtain ⟨hl, hown⟩ := h
  refine ⟨hl, ?_⟩
  rcases hown with h1 | ⟨g, cap, cur, rfl, h2, h3, r⟩
  · exact .inl h1
  · exact .inr ⟨g, cap, cur, rfl, h2, by rw [hf.block g (Array.getElem?_eq_some_iff.1 h3).1 (fun e => hS g e rfl)]; exact h3, r⟩
theorem fr_grown {w w' : World} {r : Option Nat} (h : w.grownBy w' r) : Fr r.toList w w' :=
  ⟨h.os, h.tape, h.output, h.size, fun k hk hn => h.block k hk (fun e => hn (by simp [← e]))⟩
theorem own_ge {w : World} {B : Nat} {e : TypeId} {v : Value} {n : Nat} {xs : List Value} (h : w.ownsRow B e 1 v n xs) : ∀ k ∈ v.ownBlock.toList, B ≤ k := by
  obtain ⟨-, ⟨rfl, -⟩ | ⟨g, cap, cur, rfl, h2, -⟩⟩ := h
  · simp [Value.ownBlock]
  · simpa [Value.ownBlock] using h2
theorem own_one {w : World} {B : Nat} {e : TypeId} {v : Value} {n : Nat} {xs : List Value} (h : w.ownsRow B e 1 v n xs) : v.oneCell' = true ∧ v.cells = #[v] := by
  obtain ⟨-, ⟨rfl, -⟩ | ⟨g, cap, cur, rfl, -⟩⟩ := h <;> exact ⟨rfl, rfl⟩
/-- The builder's fact after a store into its block. -/
theorem bAt_mk {T e : TypeId} {B b : Nat} {p v : Value} {bs : List Value} {w w' : World} (hB : B ≤ b) (hb : Blk w' b T [p, v]) (ho : w.ownsRow B e 1 v bs.length bs) (hf : Fr [b] w w') (hne : v.ownBlock ≠ some b) : Lib.BuilderAt T e B b p bs w' :=
  ⟨hB, v, hb, own_fr ho hf (fun g hg => by rw [List.mem_singleton.1 hg]; exact hne), hne⟩
theorem row_str {w : World} {B : Nat} {e : TypeId} {v : Value} {l s : List UInt8} (h : w.ownsRow B e 1 v (l.length + s.length) (Lib.byteCells l ++ Lib.strCells ⟨s.toArray⟩)) : w.ownsRow B e 1 v (Lib.byteCells (l ++ s)).length (Lib.byteCells (l ++ s)) := by
  have e : Lib.byteCells l ++ Lib.strCells ⟨s.toArray⟩ = Lib.byteCells (l ++ s) := by simp [Lib.byteCells, Lib.strCells]
  rw [Lib.byteCells_length, List.length_append, ← e]; exact h
section
variable {P : Program} {a : Act} {n : Nat} {L : List (Nat × Value)} {ds : List Nat} {w w' : World} {Q : Exit → Act → World → Prop} {ops : Array Oper} {rest : List Oper}
variable {d : Nat} {ty : TypeId} {pos : String} {after : Array Edge} {x y : Operand} {t t' T T' : TypeId} {v : Value} {ad : Addr} {po : Option Addr}
theorem st_eqnilP (h : AgM ds a n L) (hx : ev L x = some (.pointer po)) (hu : P.underlying t = some (.pointer T)) (hn : Nat.blt d n = true) (q : ∀ a, AgM ds a n ((d, .bool po.isNone) :: L) → wpList P ops Q rest a w) :
    wpList P ops Q (⟨some d, .binOp .eql t x (.const (.pointer none)) t', ty, pos, after, none⟩ :: rest) a w :=
  st_ok h rfl rfl hn (by
    have hp : P.pointee t = T := by simp [Program.pointee, hu]
    have h3 := run_eql_pointer_nil (P := P) (w := w) t po (by rw [hp]; exact hu)
    have h4 : a.eval (.const (.pointer none)) = .pointer none := rfl
    simp [execOp, h.eval hx, h4, eqGuard, h3]) q
theorem st_neSameP {j : TypeInfo} (h : AgM ds a n L) (hx : ev L x = some (.pointer (some ad))) (hy : ev L y = some (.pointer (some ad))) (hu : P.underlying t = some (.pointer T)) (hi : P.info? T = some j) (hn : Nat.blt d n = true)
    (q : ∀ a, AgM ds a n ((d, .bool false) :: L) → wpList P ops Q rest a w) : wpList P ops Q (⟨some d, .binOp .neq t x y t', ty, pos, after, none⟩ :: rest) a w :=
  st_ok h rfl rfl hn (by
    have h3 := Lib.run_neq_ptr_same (P := P) (w := w) ad hu hi
    simp [execOp, h.eval hx, h.eval hy, eqGuard, h3]) q
theorem st_toUnsafe {j : TypeInfo} {E cells : Nat} (h : AgM ds a n L) (hx : ev L x = some (.pointer (some ad))) (hs : P.underlying t = some (.pointer T)) (hd : P.underlying t' = some .unsafePointer) (hi : P.info? T = some j) (hj : j.size ≠ 0) (hsh : w.shape? ad.block = some (E, cells)) (ho : ad.off < cells) (hn : Nat.blt d n = true)
    (q : ∀ a, AgM ds a n ((d, .pointer (some ad)) :: L) → wpList P ops Q rest a w) : wpList P ops Q (⟨some d, .convert t t' x, ty, pos, after, none⟩ :: rest) a w :=
  st_ok h rfl rfl hn (by
    have h3 := Lib.run_to_unsafe (P := P) (w := w) ad hs hd hi hj hsh ho
    simp [execOp, h.eval hx, h3]) q
theorem st_fromUnsafe {j : TypeInfo} {E cells : Nat} (h : AgM ds a n L) (hx : ev L x = some (.pointer (some ad))) (hs : P.underlying t = some .unsafePointer) (hd : P.underlying t' = some (.pointer T)) (hi : P.info? T = some j) (hsh : w.shape? ad.block = some (E, cells)) (hl : liesAt P P.depth E (cells / P.cellsOf E) ad.off T 1 = true) (hn : Nat.blt d n = true)
    (q : ∀ a, AgM ds a n ((d, .pointer (some ad)) :: L) → wpList P ops Q rest a w) : wpList P ops Q (⟨some d, .convert t t' x, ty, pos, after, none⟩ :: rest) a w :=
  st_ok h rfl rfl hn (by
    have h3 := Lib.run_from_unsafe (P := P) (w := w) ad hs hd hi hsh hl
    simp [execOp, h.eval hx, h3]) q
/-- A call of a function without a body that returns its argument. -/
theorem st_same {f : FuncId} {ts : Array TypeId} (h : AgM ds a n L) (hx : ev L x = some v) (hf : ∀ (u : Value) (w : World), (callFunc f #[u]).run P w = .ok (.value u) w) (hn : Nat.blt d n = true)
    (q : ∀ a, AgM ds a n ((d, v) :: L) → wpList P ops Q rest a w) : wpList P ops Q (⟨some d, .call ⟨.value (.func f), #[x], ts⟩, ty, pos, after, none⟩ :: rest) a w :=
  st_ok h rfl rfl hn (by
    rw [execOp_call_go]
    simp only [List.map_toArray, List.map_cons, List.map_nil, h.eval hx]
    exact hf v w) q
/-- append of a string onto bytes of the call's own. -/
theorem st_appendStr {u : Value} {m B : Nat} {xs : List Value} {l : List UInt8} (h : AgM ds a n L) (hx : ev L x = some u) (hy : ev L y = some (S l)) (ht : P.underlying t = some (.slice T)) (hs : P.underlying t' = some .string) (hi : (P.info? T).map (fun i => (i.zero, i.size, i.bytes)) = some (some (.int .u8 0), 1, 1))
    (ho : w.ownsRow B T 1 u m xs) (hM : m + l.length ≤ maxLen) (hb : m + l.length ≤ 140737488355328) (hB : B ≤ w.heap.size) (hn : Nat.blt d n = true)
    (q : ∀ v' w', w'.ownsRow B T 1 v' (m + l.length) (xs ++ Lib.strCells ⟨l.toArray⟩) → w.grownBy w' u.ownBlock → ∀ a, AgM ds a n ((d, v') :: L) → wpList P ops Q rest a w') :
    wpList P ops Q (⟨some d, .call ⟨.builtin .append, #[x, y], #[t, t']⟩, ty, pos, after, none⟩ :: rest) a w := by
  obtain ⟨i, h1, h2, h3, h4⟩ := info_parts hi
  have hsz : (ByteArray.mk l.toArray).size = l.length := by simp [ByteArray.size]
  obtain ⟨v', w', hr, r1, r2, _⟩ := Lib.run_append_own_string (P := P) (w := w) B t t' ty T i ht hs h1 h2 h3 h4 u m xs ho ⟨l.toArray⟩ (by rw [hsz]; exact hM) (by rw [hsz]; exact hb) hB
  rw [hsz] at r1
  refine st_ok h rfl rfl hn (w' := w') ?_ (q v' w' r1 r2)
  rw [exec_builtin]; unfold builtin
  simp only [List.map_toArray, List.map_cons, List.map_nil, h.eval hx, h.eval hy, S, Sem.run_bind, hr, Result.andThen_ok, Sem.run_pure]
end
end Go.Lw
namespace Go.Lw
open Go.RowKit
section
variable {P : Program} {n : Nat} {L : List (Nat × Value)} {ds : List Nat} {w w' : World} {Q : Exit → Act → World → Prop} {ops : Array Oper} {rest : List Oper} {a : Act} {x y c : Code} {id : Nat}
/-- What a truth value says. -/
class Says (b : Bool) (p : outParam Prop) : Prop where
  iff : b = true ↔ p
instance (priority := 100) says_b (b : Bool) : Says b (b = true) := ⟨Iff.rfl⟩
instance (priority := 1000) says_d (p : Prop) {hp : Decidable p} : Says (@decide p hp) p := ⟨decide_eq_true_iff⟩
instance (priority := 1100) says_n (p : Prop) {hp : Decidable p} : Says (!(@decide p hp)) (¬ p) := ⟨by simp⟩
theorem Says.no {b : Bool} {p : Prop} [h : Says b p] (e : b = false) : ¬ p := fun hp => by rw [h.iff.2 hp] at e; cases e
/-! plain -/
theorem sq (h : CW P (Exit.then (y.wp P Q) Q) x n ds w L) : CW P Q (.seq x y) n ds w L := fun a ha => wp_seq (h a ha)
theorem rg {l : List Oper} (h : WL P l.toArray Q l n ds w L) : CW P Q (.region id l.toArray false) n ds w L := fun a ha => wp_region_lit (h a ha)
theorem sr {l : List Oper} (h : WL P l.toArray (Exit.then (y.wp P Q) Q) l n ds w L) : CW P Q (.seq (.region id l.toArray false) y) n ds w L := sq (rg h)
theorem bl (h : CW P (Exit.inBlock id Q) x n ds w L) : CW P Q (.block id x) n ds w L := fun a ha => wp_block (h a ha)
theorem sk (h : EW Q .normal n ds w L) : CW P Q .skip n ds w L := fun a ha => wp_skip (h a ha)
theorem rt (h : EW Q .ret n ds w L) : CW P Q .ret n ds w L := fun a ha => wp_ret (h a ha)
theorem ex (h : EW Q (.exit id) n ds w L) : CW P Q (.exit id) n ds w L := fun a ha => wp_exit (h a ha)
theorem nl (h : EW Q .normal n ds w L) : WL P ops Q [] n ds w L := fun a ha => wpList_nil (h a ha)
theorem tn (h : CW P Q y n ds w L) {Q' : Exit → Act → World → Prop} : EW (Exit.then (y.wp P Q) Q') .normal n ds w L := h
theorem nn (h : CW P Q y n ds w L) {Q' : Exit → Act → World → Prop} : WL P ops (Exit.then (y.wp P Q) Q') [] n ds w L := nl (tn h)
theorem bn' (h : EW Q .normal n ds w L) : EW (Exit.inBlock id Q) .normal n ds w L := h
theorem rb (h : EW Q .ret n ds w L) : EW (Exit.inBlock id Q) .ret n ds w L := h
theorem tr {K : Act → World → Prop} (h : EW Q .ret n ds w L) : EW (Exit.then K Q) .ret n ds w L := h
theorem te {K : Act → World → Prop} (h : EW Q (.exit id) n ds w L) : EW (Exit.then K Q) (.exit id) n ds w L := h
theorem xh (h : EW Q .normal n ds w L) : EW (Exit.inBlock id Q) (.exit id) n ds w L := fun a ha => exit_here (h a ha)
theorem ct {C : Operand} (hc : ev L C = some (.bool true)) (k : CW P Q x n ds w L) : CW P Q (.cond C x y) n ds w L := fun a h => cond_true h hc (k a h)
theorem cf {C : Operand} (hc : ev L C = some (.bool false)) (k : CW P Q y n ds w L) : CW P Q (.cond C x y) n ds w L := fun a h => cond_false h hc (k a h)
theorem cd {C : Operand} {b : Bool} {p : Prop} (hc : ev L C = some (.bool b)) [s : Says b p] (ht : p → CW P Q x n ds w L) (hf : ¬ p → CW P Q y n ds w L) : CW P Q (.cond C x y) n ds w L :=
  fun a h => cond_split h hc (fun e => ht (s.iff.1 e) a h) (fun e => hf (s.no e) a h)
/-- A truth value in a slot, known from here on. -/
theorem gs {l : List Oper} (D : Nat) {b : Bool} {p : Prop} (hb : look L D = some (.bool b)) [s : Says b p] (ht : p → WL P ops Q l n ds w ((D, .bool true) :: L)) (hf : ¬ p → WL P ops Q l n ds w ((D, .bool false) :: L)) : WL P ops Q l n ds w L :=
  fun a h => guard_any h hb (fun e h' => ht (s.iff.1 e) a h') (fun e h' => hf (s.no e) a h')
theorem kpL {l : List Oper} (L' : List (Nat × Value)) (hs : Sub L' L) (k : WL P ops Q l n ds w L') : WL P ops Q l n ds w L := fun a h => k a (h.sub hs)
theorem kpC (L' : List (Nat × Value)) (hs : Sub L' L) (k : CW P Q c n ds w L') : CW P Q c n ds w L := fun a h => k a (h.sub hs)
/-- What a guard asks for. -/
def gAskG (ops : Array Oper) (G : Option (Nat × Bool)) (n : Nat) (L : List (Nat × Value)) : Option (Value × Bool) :=
  match G with
  | none => none
  | some (j, want) =>
    match ops[j]? with
    | none => none
    | some oj =>
      match oj.dst with
      | none => none
      | some dj => bif Nat.blt dj n then (look L dj).map (fun v => (v, want)) else none
def gAsk (ops : Array Oper) (o : Oper) (n : Nat) (L : List (Nat × Value)) : Option (Value × Bool) := gAskG ops o.guard n L
theorem gAsk_spec {o : Oper} {v : Value} {want : Bool} (h : gAsk ops o n L = some (v, want)) : ∃ j dj oj, o.guard = some (j, want) ∧ ops[j]? = some oj ∧ oj.dst = some dj ∧ Nat.blt dj n = true ∧ look L dj = some v := by
  unfold gAsk gAskG at h
  split at h
  · cases h
  · rename_i j want' hg
    split at h
    · cases h
    · rename_i oj hj
      split at h
      · cases h
      · rename_i dj hd
        cases hb : Nat.blt dj n with
        | false => rw [hb] at h; cases h
        | true =>
          rw [hb] at h
          cases hl : look L dj with
          | none => rw [hl] at h; cases h
          | some u => rw [hl] at h; cases h; exact ⟨j, dj, oj, hg, hj, hd, hb, hl⟩
theorem gY {o : Oper} {b : Bool} (hg : gAsk ops o n L = some (.bool b, b)) (k : WL P ops Q ({ o with guard := none } :: rest) n ds w L) : WL P ops Q (o :: rest) n ds w L := by
  obtain ⟨j, dj, oj, h1, h2, h3, h4, h5⟩ := gAsk_spec hg
  exact fun a h => gd_yes h h1 h2 h3 h4 h5 (by cases b <;> rfl) (k a h)
theorem gN {o : Oper} {b : Bool} {d : Nat} (hg : gAsk ops o n L = some (.bool b, !b)) (hd : o.dst = some d) (hn : Nat.blt d n = true) (k : WL P ops Q rest n ds w ((d, undef) :: L)) : WL P ops Q (o :: rest) n ds w L := by
  obtain ⟨j, dj, oj, h1, h2, h3, h4, h5⟩ := gAsk_spec hg
  exact fun a h => gd_no h h1 h2 h3 h4 h5 (by cases b <;> rfl) hd hn k
theorem gS {o : Oper} {d : Nat} {want : Bool} (hg : gAsk ops o n L = some (undef, want)) (hd : o.dst = some d) (hn : Nat.blt d n = true) (k : WL P ops Q rest n ds w ((d, undef) :: L)) : WL P ops Q (o :: rest) n ds w L := by
  obtain ⟨j, dj, oj, h1, h2, h3, h4, h5⟩ := gAsk_spec hg
  exact fun a h => gd_skip h h1 h2 h3 h4 h5 hd hn k
/-- A loop: the slots K stay, the slots M turn. -/
theorem lpK {ι : Type} (K : List (Nat × Value)) (M : ι → List (Nat × Value)) (I : ι → World → Prop) (μ : ι → Nat) (i : ι) (hs : Sub (K ++ M i) L) (hI : I i w)
    (round : ∀ i w, I i w → CW P (Exit.then (fun a' w' => ∃ j, AgM ds a' n (K ++ M j) ∧ I j w' ∧ μ j < μ i) Q) c n ds w (K ++ M i)) : CW P Q (.loop c) n ds w L :=
  fun a h => loop (fun i => K ++ M i) I μ i (h.sub hs) hI (fun i w a h hI => round i w hI a h)
theorem lpE {ι : Type} {K : List (Nat × Value)} {M : ι → List (Nat × Value)} {I : ι → World → Prop} {μ : ι → Nat} {m : Nat} (j : ι) (hs : Sub (K ++ M j) L) (hI : I j w) (hm : μ j < m) : EW (Exit.then (fun a' w' => ∃ j, AgM ds a' n (K ++ M j) ∧ I j w' ∧ μ j < m) Q) .normal n ds w L :=
  fun a h => ⟨j, h.sub hs, hI, hm⟩
/-- What joins two ways: the slots K stay. -/
def JW {ι : Type} (n : Nat) (ds : List Nat) (K : List (Nat × Value)) (M : ι → List (Nat × Value)) (I : ι → World → Prop) (a : Act) (w : World) : Prop := ∃ j, AgM ds a n (K ++ M j) ∧ I j w
theorem jn {ι : Type} (K : List (Nat × Value)) (M : ι → List (Nat × Value)) (I : ι → World → Prop) (_hs : Sub K L) (h1 : CW P (Exit.then (JW n ds K M I) Q) x n ds w L) (h2 : ∀ j w, I j w → CW P Q y n ds w (K ++ M j)) : CW P Q (.seq x y) n ds w L :=
  fun a h => seq_cut (JW n ds K M I) (h1 a h) (fun a w ⟨j, h, hI⟩ => h2 j w hI a h)
theorem jE {ι : Type} {K : List (Nat × Value)} {M : ι → List (Nat × Value)} {I : ι → World → Prop} (j : ι) (hs : Sub (K ++ M j) L) (hI : I j w) : EW (Exit.then (JW n ds K M I) Q) .normal n ds w L := fun a h => ⟨j, h.sub hs, hI⟩
/-- A region that yields a truth value, by whatever way. -/
theorem rbo {ol : List Oper} {r : Nat} {L' : List (Nat × Value)} (C : Prop) [Decidable C] (hs : Sub L' L) (h1 : WL P ol.toArray (BoolEnd ds n r C L' w) ol n ds w L) (h2 : EW Q .normal n ds w ((r, .bool (decide C)) :: L')) : CW P Q (.region id ol.toArray false) n ds w L :=
  fun a h => region_bool C h hs (h1 a h) h2
theorem rbe {r : Nat} {L' : List (Nat × Value)} {C : Prop} [Decidable C] {b : Bool} (hr : look L r = some (.bool b)) (hb : b = decide C) (hs : Sub L' L) : WL P ops (BoolEnd ds n r C L' w) [] n ds w L :=
  fun a h => wpList_nil (bool_end h hr hb hs)
/-- The same, with a world that may have grown. -/
def BoolEndF (ds : List Nat) (n r : Nat) (C : Prop) [Decidable C] (L' : List (Nat × Value)) (w0 : World) : Exit → Act → World → Prop := fun e a w => e = .normal ∧ Fr [] w0 w ∧ AgM ds a n ((r, .bool (decide C)) :: L')
theorem rboF {ol : List Oper} {r : Nat} {L' : List (Nat × Value)} (C : Prop) [Decidable C] (_hs : Sub L' L) (h1 : WL P ol.toArray (BoolEndF ds n r C L' w) ol n ds w L) (h2 : ∀ w', Fr [] w w' → EW Q .normal n ds w' ((r, .bool (decide C)) :: L')) : CW P Q (.region id ol.toArray false) n ds w L :=
  fun a h => wp_mono (wp_region_lit (h1 a h)) (fun e a w h => by obtain ⟨rfl, hf, ha⟩ := h; exact h2 w hf a ha)
theorem rbeF {r : Nat} {L' : List (Nat × Value)} {C : Prop} [Decidable C] {b : Bool} {w0 : World} (hr : look L r = some (.bool b)) (hb : b = decide C) (hs : Sub L' L) (hf : Fr [] w0 w) : WL P ops (BoolEndF ds n r C L' w0) [] n ds w L :=
  fun a h => wpList_nil ⟨rfl, hf, (bool_end (w := w) h hr hb hs).2.2⟩
/-- Back from a frame with a name. -/
theorem bk {e : Exit} (h : AgM ds a n L) (k : EW Q e n ds w L) : Q e a w := k a h
theorem we {f : FuncId} {fn : Func} {c : Code} {args : Array Value} {R : Ending → World → Prop} (L : List (Nat × Value)) (hf : P.funcs[f]? = some fn) (hc : fn.body = some c) (hn : fn.ntmps = n) (hl : Nat.ble args.size n = true) (hL : argsOk args L)
    (h : CW P (bodyPost P fn R) c n [] w L) : Calls P f args w R := enter L hf hc hn hl hL h
section
variable {R : Ending → World → Prop} {fn : Func} {t u s : Nat} {v z : Value}
theorem r0 (hr : fn.results = #[]) (k : R (.returned (.tuple #[])) w) : EW (bodyPost P fn R) .ret n [] w L := fun _ h => ret0 h hr k
theorem r1 (hr : fn.results = #[.tmp t]) (hv : look L t = some v) (k : R (.returned v) w) : EW (bodyPost P fn R) .ret n [] w L := fun _ h => ret1 h hr hv k
theorem r2 (hr : fn.results = #[.tmp t, .tmp u]) (hv : look L t = some v) (hx : look L u = some z) (k : R (.returned (.tuple #[v, z])) w) : EW (bodyPost P fn R) .ret n [] w L := fun _ h => ret2 h hr hv hx k
theorem r3 {z' : Value} (hr : fn.results = #[.tmp t, .tmp u, .tmp s]) (hv : look L t = some v) (hx : look L u = some z) (hy : look L s = some z') (k : R (.returned (.tuple #[v, z, z'])) w) : EW (bodyPost P fn R) .ret n [] w L := fun _ h => ret3 h hr hv hx hy k
variable {p pt q r g T : Nat} {cs : List Value}
theorem rC (hr : fn.results = #[.cell p pt]) (hp : look L p = some (.pointer (some ⟨g, 0, none⟩))) (hb : Blk w g T cs) (hg : AggOf P pt cs.length) (k : R (.returned (.agg cs.toArray)) w) : EW (bodyPost P fn R) .ret n [] w L := fun _ h => retC h hr hp hb hg k
theorem rCT (hr : fn.results = #[.cell p pt, .tmp q]) (hp : look L p = some (.pointer (some ⟨g, 0, none⟩))) (hb : Blk w g T cs) (hg : AggOf P pt cs.length) (hv : look L q = some v) (k : R (.returned (.tuple #[.agg cs.toArray, v])) w) : EW (bodyPost P fn R) .ret n [] w L := fun _ h => retCT h hr hp hb hg hv k
end
theorem wi6 {z : Int} (h : -9223372036854775808 ≤ z ∧ z ≤ 9223372036854775807) : IntKind.i64.wrap z = z := IntWalk.i64_in z (by omega)
theorem wi8 {z : Int} (h : 0 ≤ z ∧ z ≤ 255) : IntKind.u8.wrap z = z := IntWalk.u8_in z (by omega)
theorem ev1 {x : Operand} {v : Value} (h : ev L x = some v) : evs L [x] [v] := ⟨h, trivial⟩
theorem ev2 {x y : Operand} {v u : Value} (h : ev L x = some v) (h2 : ev L y = some u) : evs L [x, y] [v, u] := ⟨h, h2, trivial⟩
theorem ev3 {x y z : Operand} {v u t : Value} (h : ev L x = some v) (h2 : ev L y = some u) (h3 : ev L z = some t) : evs L [x, y, z] [v, u, t] := ⟨h, h2, h3, trivial⟩
theorem ev4 {x y z o : Operand} {v u t s : Value} (h : ev L x = some v) (h2 : ev L y = some u) (h3 : ev L z = some t) (h4 : ev L o = some s) : evs L [x, y, z, o] [v, u, t, s] := ⟨h, h2, h3, h4, trivial⟩
theorem nat_of {k : Nat} : ((k : Nat) : Int).toNat = k := Int.toNat_natCast k
end
theorem us {P : Program} {t : TypeId} {u} (h : P.underlying t = some u) : (P.underlying t).isSome = true := by rw [h]; rfl
section
variable {P : Program} {n : Nat} {L : List (Nat × Value)} {ds : List Nat} {w w' : World} {Q : Exit → Act → World → Prop} {ops : Array Oper} {rest : List Oper} {d : Nat} {ty T : TypeId} {pos : String} {after : Array Edge} {v : Value} {x : Operand}
theorem bx {cs : List Value} (hx : ev L x = some v) (hc : v.cells = cs.toArray) (hn : Nat.blt d n = true) (q : ∀ g w', g = w.heap.size → Blk w' g T cs → Fr [] w w' → w'.heap.size = g + 1 → WL P ops Q rest n ds w' ((d, .pointer (some ⟨g, 0, none⟩)) :: L)) : WL P ops Q (⟨some d, .box T x, ty, pos, after, none⟩ :: rest) n ds w L :=
  s_box hx hc hn (fun w' h1 h2 h3 => q _ w' rfl h1 h2 h3)
theorem al {cs : List Value} (hz : ∀ w : World, (zeroValue T).run P w = .ok v w) (hc : v.cells = cs.toArray) (hn : Nat.blt d n = true) (q : ∀ g w', g = w.heap.size → Blk w' g T cs → Fr [] w w' → w'.heap.size = g + 1 → WL P ops Q rest n ds w' ((d, .pointer (some ⟨g, 0, none⟩)) :: L)) : WL P ops Q (⟨some d, .alloc T, ty, pos, after, none⟩ :: rest) n ds w L :=
  s_alloc hz hc hn (fun w' h1 h2 h3 => q _ w' rfl h1 h2 h3)
theorem s_loadBP {t : TypeId} {g off : Nat} {cs vs : List Value} (hx : ev L x = some (.pointer (some ((⟨g, 0, none⟩ : Addr).add off)))) (hb : Blk w g T cs) (hg : AggOf P t vs.length) (hv : (cs.drop off).take vs.length = vs) (hn : Nat.blt d n = true) (q : WL P ops Q rest n ds w ((d, .agg vs.toArray) :: L)) : WL P ops Q (⟨some d, .load t x, ty, pos, after, none⟩ :: rest) n ds w L :=
  s_loadA hx (fun j u hu => by
    rw [← hv] at hu
    have hj : (cs.drop off)[j]? = some u := by
      rw [List.getElem?_take] at hu; split at hu
      · exact hu
      · cases hu
    rw [List.getElem?_drop] at hj
    rw [add_add]; exact hb.cellAdd hj) hg hn q
section
variable {C : World → Prop} {K : Act → World → Prop} {fu : Nat} {listed : Array Bool} {pq : Option Nat} {o : Oper} {a : Act} {G : Option (Nat × Bool)} {t t' : TypeId} {y : Operand} {k : IntKind} {i j : Int} {l l' : List UInt8}
end
end
end Go.Lw
namespace Go.Lw
open Go.RowKit
theorem cells_part {w : World} {ad : Addr} {cs vs : List Value} {off : Nat} (h : Cells w ad cs) (hv : (cs.drop off).take vs.length = vs) : Cells w (ad.add off) vs := fun j u hu => by
  rw [← hv] at hu
  rw [List.getElem?_take] at hu
  split at hu
  · rw [List.getElem?_drop] at hu
    rw [add_add]; exact h _ u hu
  · cases hu
/-- A reader of a string, at a place. -/
def IterAt (w : World) (g : Nat) (l : List UInt8) (p : Nat) : Prop := w.heap[g]? = some (.stringIter ⟨l.toArray⟩ p)
theorem IterAt.fr {w w' : World} {g p : Nat} {l : List UInt8} {S : List Nat} (h : IterAt w g l p) (hf : Fr S w w') (hn : g ∉ S) : IterAt w' g l p := by
  unfold IterAt at h ⊢
  rw [hf.block g (Array.getElem?_eq_some_iff.1 h).1 hn]; exact h
theorem IterAt.ext {w w' : World} {g p : Nat} {l : List UInt8} (h : IterAt w g l p) (hf : Fr [] w w') : IterAt w' g l p := h.fr hf (by simp)
theorem IterAt.lt {w : World} {g p : Nat} {l : List UInt8} (h : IterAt w g l p) : g < w.heap.size := (Array.getElem?_eq_some_iff.1 h).1
abbrev dec8 (l : List UInt8) (p : Nat) : Nat × Nat := Utf8.decode ⟨l.toArray⟩ p
theorem dec_get (l : List UInt8) (p : Nat) : (ByteArray.mk l.toArray).get! p = l.getD p 0 := by
  show l.toArray[p]! = _
  rw [List.getD]
  by_cases h : p < l.length
  · simp [h]
  · simp [List.getElem?_eq_none (show l.length ≤ p by omega)]; rfl
theorem dec_low {l : List UInt8} {p : Nat} (h : (l.getD p 0).toNat < 128) : dec8 l p = ((l.getD p 0).toNat, 1) := by
  unfold dec8 Utf8.decode
  simp only [Nat.add_zero, dec_get]
  rw [if_pos h]
theorem dec_high {l : List UInt8} {p : Nat} (h : ¬ (l.getD p 0).toNat < 128) : 128 ≤ (dec8 l p).1 := by
  unfold dec8 Utf8.decode Utf8.runeError
  simp only [Nat.add_zero, dec_get]
  rw [if_neg h]
  repeat' split
  all_goals first | (simp only; omega) | (rename_i hh; simp only [Bool.and_eq_true, decide_eq_true_eq] at hh; simp only; omega)
section
variable {P : Program} {a : Act} {n : Nat} {L : List (Nat × Value)} {ds : List Nat} {w : World} {Q : Exit → Act → World → Prop} {ops : Array Oper} {rest : List Oper} {d g p : Nat} {ty t : TypeId} {pos : String} {after : Array Edge} {x : Operand} {l : List UInt8}
theorem st_range (h : AgM ds a n L) (hx : ev L x = some (S l)) (hu : P.underlying t = some .string) (hn : Nat.blt d n = true)
    (q : ∀ g w', g = w.heap.size → IterAt w' g l 0 → Fr [] w w' → w'.heap.size = g + 1 → ∀ a, AgM ds a n ((d, .pointer (some ⟨g, 0, none⟩)) :: L) → wpList P ops Q rest a w') : wpList P ops Q (⟨some d, .range t x, ty, pos, after, none⟩ :: rest) a w := by
  refine st_ok h rfl rfl hn (w' := w.alloc (.stringIter ⟨l.toArray⟩ 0)) (v := .pointer (some ⟨w.heap.size, 0, none⟩)) ?_ (q _ _ rfl (heap_alloc_new w _) (Fr.alloc [] w _) (by simp))
  have hx' := h.eval hx
  have e : w.iter ⟨l.toArray⟩ 0 = w.alloc (.stringIter ⟨l.toArray⟩ 0) := rfl
  simp only [execOp, hx', S, Sem.run_bind, run_range_string w t ⟨l.toArray⟩ hu, Result.andThen_ok, Sem.run_pure, e]
theorem next_in {w : World} {k p : Nat} (ty : TypeId) (hk : IterAt w k l p) (h : p < l.length) :
    (Instr.next (.pointer (some ⟨k, 0, none⟩)) true ty).run P w = .ok (.tuple #[.bool true, .int .i64 p, .int .i32 (dec8 l p).1]) { w with heap := w.heap.setIfInBounds k (.stringIter ⟨l.toArray⟩ (p + (dec8 l p).2)) } := by
  have hs : p < (⟨l.toArray⟩ : ByteArray).size := by simpa [ByteArray.size] using h
  have hk' : w.heap[k]? = some (.stringIter ⟨l.toArray⟩ p) := hk
  simp only [Instr.next, getObj, setObj, Sem.run_bind, Sem.run, hk', Result.andThen, hs, if_true]
  simp [goInt]
theorem st_next_t (h : AgM ds a n L) (hx : ev L x = some (.pointer (some ⟨g, 0, none⟩))) (hi : IterAt w g l p) (hp : p < l.length) (hn : Nat.blt d n = true)
    (q : ∀ w', IterAt w' g l (p + (dec8 l p).2) → Fr [g] w w' → w'.heap.size = w.heap.size → ∀ a, AgM ds a n ((d, .tuple #[.bool true, .int .i64 (p : Int), .int .i32 ((dec8 l p).1 : Int)]) :: L) → wpList P ops Q rest a w') : wpList P ops Q (⟨some d, .next x true, ty, pos, after, none⟩ :: rest) a w := by
  have hlt := hi.lt
  refine st_ok h rfl rfl hn (w' := { w with heap := w.heap.setIfInBounds g (.stringIter ⟨l.toArray⟩ (p + (dec8 l p).2)) }) (v := .tuple #[.bool true, .int .i64 (p : Int), .int .i32 ((dec8 l p).1 : Int)]) ?_ (q _ ?_ ⟨rfl, rfl, rfl, by simp, fun k hk hS => ?_⟩ (by simp))
  · have hx' := h.eval hx
    simp only [execOp, hx', Sem.run_bind, next_in ty hi hp, Result.andThen_ok, Sem.run_pure]
  · unfold IterAt; simp [hlt]
  · have : g ≠ k := fun e => hS (by simp [e])
    simp [Array.getElem?_setIfInBounds_ne this]
theorem st_next_f (h : AgM ds a n L) (hx : ev L x = some (.pointer (some ⟨g, 0, none⟩))) (hi : IterAt w g l p) (hp : ¬ p < l.length) (hn : Nat.blt d n = true)
    (q : ∀ a, AgM ds a n ((d, .tuple #[.bool false]) :: L) → wpList P ops Q rest a w) : wpList P ops Q (⟨some d, .next x true, ty, pos, after, none⟩ :: rest) a w := by
  refine st_ok h rfl rfl hn (w' := w) (v := .tuple #[.bool false]) ?_ q
  have hx' := h.eval hx
  have hs : ¬ p < (⟨l.toArray⟩ : ByteArray).size := by simpa [ByteArray.size] using hp
  have hk' : w.heap[g]? = some (.stringIter ⟨l.toArray⟩ p) := hi
  have e : (Instr.next (.pointer (some ⟨g, 0, none⟩)) true ty).run P w = .ok (.tuple #[.bool false]) w := by simp [Instr.next, getObj, Sem.run, hk', hs]
  simp only [execOp, hx', Sem.run_bind, e, Result.andThen_ok, Sem.run_pure]
theorem s_range (hx : ev L x = some (S l)) (hu : P.underlying t = some .string) (hn : Nat.blt d n = true)
    (q : ∀ g w', g = w.heap.size → IterAt w' g l 0 → Fr [] w w' → w'.heap.size = g + 1 → WL P ops Q rest n ds w' ((d, .pointer (some ⟨g, 0, none⟩)) :: L)) : WL P ops Q (⟨some d, .range t x, ty, pos, after, none⟩ :: rest) n ds w L := fun _ h => st_range h hx hu hn q
theorem s_next (hx : ev L x = some (.pointer (some ⟨g, 0, none⟩))) (hi : IterAt w g l p) (hn : Nat.blt d n = true)
    (qt : p < l.length → ∀ w', IterAt w' g l (p + (dec8 l p).2) → Fr [g] w w' → w'.heap.size = w.heap.size → WL P ops Q rest n ds w' ((d, .tuple #[.bool true, .int .i64 (p : Int), .int .i32 ((dec8 l p).1 : Int)]) :: L))
    (qf : ¬ p < l.length → WL P ops Q rest n ds w ((d, .tuple #[.bool false]) :: L)) : WL P ops Q (⟨some d, .next x true, ty, pos, after, none⟩ :: rest) n ds w L := fun _ h => by
  by_cases hp : p < l.length
  · exact st_next_t h hx hi hp hn (qt hp)
  · exact st_next_f h hx hi hp hn (qf hp)
end
end Go.Lw
namespace Go.Lw
open Go.RowKit
section
variable {P : Program} {a : Act} {n : Nat} {L : List (Nat × Value)} {ds : List Nat} {w : World} {Q : Exit → Act → World → Prop} {ops : Array Oper} {rest : List Oper} {d : Nat} {ty t T : TypeId} {pos : String} {after : Array Edge} {x : Operand}
/-- A local array as a slice. -/
theorem st_slArr {g N sz : Nat} (h : AgM ds a n L) (hx : ev L x = some (.pointer (some ⟨g, 0, none⟩))) (hu : P.underlying t = some (.array N T)) (hs : SizeOf P T sz) (hN : Nat.beq N 0 = false) (hn : Nat.blt d n = true)
    (q : ∀ a, AgM ds a n ((d, .slice (some ⟨g, 0, none⟩) N N) :: L) → wpList P ops Q rest a w) : wpList P ops Q (⟨some d, .slice t x none none none, ty, pos, after, none⟩ :: rest) a w := by
  have hN' : N ≠ 0 := fun e => by subst e; cases hN
  refine st_ok h rfl rfl hn (w' := w) ?_ q
  have hs' := hs w
  have hx' := h.eval hx
  simp [execOp, hx', Instr.sliceAt, Instr.slice, run_underlying hu, Instr.sliceBounds, hs', hN', Addr.add, Instr.sureAddr, Sem.run_bind, Result.andThen_ok]
theorem s_slArr {g N sz : Nat} (hx : ev L x = some (.pointer (some ⟨g, 0, none⟩))) (hu : P.underlying t = some (.array N T)) (hs : SizeOf P T sz) (hN : Nat.beq N 0 = false) (hn : Nat.blt d n = true)
    (q : WL P ops Q rest n ds w ((d, .slice (some ⟨g, 0, none⟩) N N) :: L)) : WL P ops Q (⟨some d, .slice t x none none none, ty, pos, after, none⟩ :: rest) n ds w L := fun _ h => st_slArr h hx hu hs hN hn q
/-- A local array of ints. -/
def ivs (c : List Int) : List Value := c.map fun z => .int .i64 z
theorem ivs_get {c : List Int} {k : Nat} (h : k < c.length) : (ivs c)[k]? = some (.int .i64 (c.getD k 0)) := by
  unfold ivs; rw [List.getElem?_map, List.getElem?_eq_getElem h, List.getD, List.getElem?_eq_getElem h]; rfl
theorem ivs_set (c : List Int) (k : Nat) (z : Int) : (ivs c).set k (.int .i64 z) = ivs (c.set k z) := by
  unfold ivs; rw [List.map_set]
theorem ivs_len (c : List Int) : (ivs c).length = c.length := by simp [ivs]
/-- A number is added to one element of a table. -/
theorem tab_add (F : Nat → Int) (n k : Nat) (z : Int) (h : k < n) : ((List.range n).map F).set k (F k + z) = (List.range n).map fun y => F y + if y = k then z else 0 := by
  apply List.ext_getElem?
  intro i
  rw [List.getElem?_set]
  by_cases e : k = i
  · subst e
    rw [if_pos rfl, if_pos (by simpa using h), List.getElem?_map, List.getElem?_range h]
    simp
  · rw [if_neg e, List.getElem?_map, List.getElem?_map]
    by_cases hi : i < n
    · rw [List.getElem?_range hi]; simp [Ne.symm e]
    · rw [List.getElem?_eq_none (by simpa using hi)]; rfl
theorem tab_get (F : Nat → Int) {n k : Nat} (h : k < n) : ((List.range n).map F).getD k 0 = F k := by
  rw [List.getD, List.getElem?_map, List.getElem?_range h]; rfl
theorem blk_own {g T : Nat} {c : List Int} {N : Nat} (h : Blk w g T (ivs c)) (hN : N ≤ g) (hM : c.length ≤ maxLen) : Own Enc.i64 T N w (.slice (some ⟨g, 0, none⟩) c.length c.length) c := by
  refine .inr ⟨g, c.length, (ivs c).toArray, rfl, hN, h, Nat.le_refl _, hM, ?_, ?_⟩
  · simp [ivs, Enc.i64]
  · have e : c.flatMap Enc.i64.enc = ivs c := by
      clear h hM
      unfold ivs
      induction c with
      | nil => rfl
      | cons x xs ih => rw [List.flatMap_cons, List.map_cons, ih]; rfl
    rw [e]
    simp only [ivs, Enc.i64, Nat.mul_one, List.drop_zero]
    exact List.take_of_length_le (by simp)
end
section
variable {P : Program} {a : Act} {n : Nat} {L : List (Nat × Value)} {ds : List Nat} {w : World} {Q : Exit → Act → World → Prop} {ops : Array Oper} {rest : List Oper} {d : Nat} {ty t T : TypeId} {pos : String} {after : Array Edge} {x y : Operand} {k : IntKind} {i : Int}
/-- An element of an array that is a value. -/
theorem st_ixv {vs : List Value} {N : Nat} {v : Value} (h : AgM ds a n L) (hx : ev L x = some (.agg vs.toArray)) (hy : ev L y = some (.int k i)) (hu : P.underlying t = some (.array N T)) (hs : SizeOf P T 1) (hg : NotAgg P T) (h0 : 0 ≤ i) (h1 : i < N) (hv : vs[i.toNat]? = some v) (hn : Nat.blt d n = true)
    (q : ∀ a, AgM ds a n ((d, v) :: L) → wpList P ops Q rest a w) : wpList P ops Q (⟨some d, .index t x y, ty, pos, after, none⟩ :: rest) a w := by
  refine st_ok h rfl rfl hn (w' := w) (v := v) ?_ q
  have hx' := h.eval hx
  have hy' := h.eval hy
  have hs' := hs w
  have hg' := hg w
  simp [execOp, hx', hy', Instr.index, asIntOf, run_underlying hu, h0, h1, hs', part, hg', hv]
theorem s_ixv {vs : List Value} {N : Nat} {v : Value} (hx : ev L x = some (.agg vs.toArray)) (hy : ev L y = some (.int k i)) (hu : P.underlying t = some (.array N T)) (hs : SizeOf P T 1) (hg : NotAgg P T) (h0 : 0 ≤ i) (h1 : i < N) (hv : vs[i.toNat]? = some v) (hn : Nat.blt d n = true)
    (q : WL P ops Q rest n ds w ((d, v) :: L)) : WL P ops Q (⟨some d, .index t x y, ty, pos, after, none⟩ :: rest) n ds w L := fun _ h => st_ixv h hx hy hu hs hg h0 h1 hv hn q
end
end Go.Lw
namespace Go.Proofs.YthehggmdcmpjeaaDoor
open Go.Lw Go.G14
theorem el34 : ElemOf Tryd.prog 34 47 encCq 24 := ElemOf.mk' (z := (.agg #[(.slice none 0 0)])) Tryd.underlying34 (by kernel_rfl) rfl
theorem er45 : ElemOf Tryd.prog 45 61 encRq 24 := ElemOf.mk' (z := (.slice none 0 0)) Tryd.underlying45 (by kernel_rfl) rfl
theorem low_of {l : List UInt8} {i : Nat} (h : i ≤ l.length) (ha : (l.take i).all lower = true) (h2 : i < l.length) (hc : 97 ≤ (dec8 l i).1 ∧ (dec8 l i).1 ≤ 122) : (l.take (i + 1)).all lower = true ∧ (dec8 l i).2 = 1 := by
  have hb : (l.getD i 0).toNat < 128 := by
    rcases Nat.lt_or_ge (l.getD i 0).toNat 128 with h | h
    · exact h
    · have := dec_high (l := l) (p := i) (by omega); omega
  rw [dec_low hb] at hc ⊢
  refine ⟨?_, rfl⟩
  rw [List.take_add_one, List.all_append, ha, List.getElem?_eq_getElem h2]
  have e : l.getD i 0 = l[i] := by rw [List.getD, List.getElem?_eq_getElem h2]; rfl
  rw [e] at hc
  simp [lower]; omega
theorem low_no {l : List UInt8} {i : Nat} (h2 : i < l.length) (hc : ¬ (97 ≤ (dec8 l i).1 ∧ (dec8 l i).1 ≤ 122)) : l.all lower = false := by
  rw [Bool.eq_false_iff]
  intro e
  have h1 := List.all_eq_true.1 e l[i] (List.getElem_mem h2)
  have e2 : l.getD i 0 = l[i] := by rw [List.getD, List.getElem?_eq_getElem h2]; rfl
  simp only [lower, decide_eq_true_eq] at h1
  rw [dec_low (by rw [e2]; omega), e2] at hc
  exact hc h1
theorem byte_lo {l : List UInt8} {i : Nat} (ha : (l.take i).all lower = true) (h2 : i < l.length) (hc : ¬ (((l.getD i 0).toNat : Int) < 97 ∨ 122 < ((l.getD i 0).toNat : Int))) : (l.take (i + 1)).all lower = true := by
  rw [List.take_add_one, List.all_append, ha, List.getElem?_eq_getElem h2]
  have e : l.getD i 0 = l[i] := by rw [List.getD, List.getElem?_eq_getElem h2]; rfl
  rw [e] at hc
  simp [lower]; omega
theorem byte_no {l : List UInt8} {i : Nat} (h2 : i < l.length) (hc : ((l.getD i 0).toNat : Int) < 97 ∨ 122 < ((l.getD i 0).toNat : Int)) : l.all lower = false := by
  rw [Bool.eq_false_iff]
  intro e
  have h1 := List.all_eq_true.1 e l[i] (List.getElem_mem h2)
  have e2 : l.getD i 0 = l[i] := by rw [List.getD, List.getElem?_eq_getElem h2]; rfl
  simp only [lower, decide_eq_true_eq] at h1
  rw [e2] at hc; omega
theorem name_iff (l : List UInt8) : nameB l = true ↔ (1 ≤ l.length ∧ l.length ≤ 16) ∧ l.all lower = true := by
  unfold nameB; rw [Bool.and_eq_true, decide_eq_true_eq]
theorem name_f1 {l : List UInt8} (h : ¬ (1 ≤ l.length ∧ l.length ≤ 16)) : nameB l = false := by
  rw [Bool.eq_false_iff]; exact fun e => h ((name_iff l).1 e).1
theorem name_f2 {l : List UInt8} (h : l.all lower = false) : nameB l = false := by
  rw [Bool.eq_false_iff]; intro e; rw [((name_iff l).1 e).2] at h; cases h
theorem named_ok (l : List UInt8) (w0 : World) : Rets Tryd.prog 26 #[S l] w0 fun r w' => r = .bool (nameB l) ∧ Fr [] w0 w' := by
 refine we [(0, S l)] Tryd.func26 rfl Tryd.ntmps26 rfl (.cons rfl .nil) ?_
 refine sr (asg rfl rfl (nn (sq (sq ?_))))
 refine rbo (r := 12) (L' := [(0, _)]) ((((l.length : Int) < 1) ∨ (16 < (l.length : Int)))) (.cons rfl .nil) ?_ ?_
 · refine mv rfl rfl (ln rfl Tryd.underlying9 rfl (lt' rfl rfl rfl (mv rfl rfl ?_)))
   refine gs 8 rfl (fun g0 => ?_) (fun g0 => ?_)
   · exact gN rfl rfl rfl (gN rfl rfl rfl (gN rfl rfl rfl (pkt rfl rfl rfl rfl (rbe rfl (by first | exact bt (by omega) | exact bf (by omega) | exact bi (by omega) | exact bn (by omega) | (simp_all; done) | (simp_all; omega)) (.cons rfl .nil)))))
   · exact gY rfl (mv rfl rfl (gY rfl (ln rfl Tryd.underlying9 rfl (gY rfl (gt' rfl rfl rfl (pkf rfl rfl rfl rfl (rbe rfl (by first | exact bt (by omega) | exact bf (by omega) | exact bi (by omega) | exact bn (by omega) | (simp_all; done) | (simp_all; omega)) (.cons rfl .nil))))))))
 · refine tn ?_
   refine cd rfl (fun c0 => ?_) (fun c0 => ?_)
   · refine sr (asg rfl rfl (nn (rt (tr (r1 Tryd.results26 rfl ?_)))))
     exact ⟨_, rfl, by first | rw [name_f1 (by omega)] | rw [name_f2 (low_no (by assumption) (by omega))] | rw [name_f2 (byte_no (by assumption) (by assumption))] | rw [(name_iff l).2 ⟨by omega, by first | assumption | (rw [← List.take_of_length_le (l := l) (show l.length ≤ i by omega)]; assumption)⟩], (Fr.refl _ _)⟩
   · refine sk (tn (sq (sr (mv rfl rfl (s_range rfl Tryd.underlying9 rfl (fun g14 w1 hg14 hit14 q1 z1 => ?_))))))
     refine nn (bl ?_)
     refine lpK (ι := Nat) [(14, _)] (fun i => []) (fun i w' => Fr [g14] w1 w' ∧ i ≤ l.length ∧ (l.take i).all lower = true ∧ IterAt w' g14 l i) (fun i => l.length - i) 0 (.cons rfl .nil) ⟨Fr.refl _ _, ⟨Nat.zero_le _, rfl, hit14⟩⟩ ?_
     rintro i w2 ⟨q2, ⟨hi, ha, hit14⟩⟩
     have z2 := q2.size
     refine kpC [(14, _)] (.cons rfl .nil) ?_
     refine sr ?_
     refine s_next rfl hit14 rfl (fun hlt w3 hit14 q3 z3 => ?_) (fun hlt => ?_)
     · refine xt rfl rfl rfl (nn (sq (ct rfl (sk (tn (bl (sr (xt rfl rfl rfl (asg rfl rfl (nn (sq ?_)))))))))))
       refine rbo (r := 23) (L' := [(14, _)]) (((((dec8 l i).1 : Int) < 97) ∨ (122 < ((dec8 l i).1 : Int)))) (.cons rfl .nil) ?_ ?_
       · refine mv rfl rfl (lt' rfl rfl rfl (mv rfl rfl ?_))
         refine gs 20 rfl (fun g1 => ?_) (fun g1 => ?_)
         · exact gN rfl rfl rfl (gN rfl rfl rfl (pkt rfl rfl rfl rfl (rbe rfl (by first | exact bt (by omega) | exact bf (by omega) | exact bi (by omega) | exact bn (by omega) | (simp_all; done) | (simp_all; omega)) (.cons rfl .nil))))
         · exact gY rfl (mv rfl rfl (gY rfl (gt' rfl rfl rfl (pkf rfl rfl rfl rfl (rbe rfl (by first | exact bt (by omega) | exact bf (by omega) | exact bi (by omega) | exact bn (by omega) | (simp_all; done) | (simp_all; omega)) (.cons rfl .nil))))))
       · refine tn ?_
         refine cd rfl (fun c2 => ?_) (fun c2 => ?_)
         · refine sr (asg rfl rfl (nn (rt (rb (tr (rb (tr (r1 Tryd.results26 rfl ?_))))))))
           exact ⟨_, rfl, by first | rw [name_f1 (by omega)] | rw [name_f2 (low_no (by assumption) (by omega))] | rw [name_f2 (byte_no (by assumption) (by assumption))] | rw [(name_iff l).2 ⟨by omega, by first | assumption | (rw [← List.take_of_length_le (l := l) (show l.length ≤ i by omega)]; assumption)⟩], ((q1.step q2 (by first | (simp; done) | (simp; omega))).step q3 (by first | (simp; done) | (simp; omega)))⟩
         · refine sk (bn' ?_)
           obtain ⟨ha2, hw1⟩ := low_of hi ha hlt (by omega)
           rw [hw1] at hit14
           exact lpE (i + 1) (.cons rfl .nil) ⟨(((Fr.refl [g14] _).step q2 (by first | (simp; done) | (simp; omega))).step q3 (by first | (simp; done) | (simp; omega))), ⟨by omega, ha2, hit14⟩⟩ (by omega)
     · refine xt rfl rfl rfl (nn (sq (cf rfl (ex (te (te (xh (tn (sr (asg rfl rfl (nn ?_)))))))))))
       refine rt (r1 Tryd.results26 rfl ?_)
       exact ⟨_, rfl, by first | rw [name_f1 (by omega)] | rw [name_f2 (low_no (by assumption) (by omega))] | rw [name_f2 (byte_no (by assumption) (by assumption))] | rw [(name_iff l).2 ⟨by omega, by first | assumption | (rw [← List.take_of_length_le (l := l) (show l.length ≤ i by omega)]; assumption)⟩], (q1.step q2 (by first | (simp; done) | (simp; omega)))⟩
theorem within_ok (n a b : Int) (w0 : World) : Rets Tryd.prog 23 #[.int .i64 n, .int .i64 a, .int .i64 b] w0 fun r w' => r = .bool (decide (a ≤ n ∧ n ≤ b)) ∧ Fr [] w0 w' := by
 refine we [(0, .int .i64 n), (1, .int .i64 a), (2, .int .i64 b)] Tryd.func23 rfl Tryd.ntmps23 rfl (.cons rfl (.cons rfl (.cons rfl .nil))) ?_
 refine sr (asg rfl rfl (nn (sq ?_)))
 refine rbo (r := 6) (L' := []) (((a ≤ n) ∧ (n ≤ b))) .nil ?_ ?_
 · refine mv rfl rfl (mv rfl rfl (le' rfl rfl rfl (mv rfl rfl ?_)))
   refine gs 10 rfl (fun g0 => ?_) (fun g0 => ?_)
   · exact gY rfl (mv rfl rfl (gY rfl (mv rfl rfl (gY rfl (le' rfl rfl rfl (pkt rfl rfl rfl rfl (asg rfl rfl (rbe rfl (by first | exact bt (by omega) | exact bf (by omega) | exact bi (by omega) | exact bn (by omega) | (simp_all; done) | (simp_all; omega)) .nil))))))))
   · exact gN rfl rfl rfl (gN rfl rfl rfl (gN rfl rfl rfl (pkf rfl rfl rfl rfl (asg rfl rfl (rbe rfl (by first | exact bt (by omega) | exact bf (by omega) | exact bi (by omega) | exact bn (by omega) | (simp_all; done) | (simp_all; omega)) .nil)))))
 · refine tn (rt (r1 Tryd.results23 rfl ?_))
   exact ⟨_, rfl, rfl, (Fr.refl _ _)⟩
theorem refname_ok (l : List UInt8) (w0 : World) : Rets Tryd.prog 21 #[S l] w0 fun r w' => r = .int .i64 (if nameB l = true then 1 else 0) ∧ Fr [] w0 w' := by
 refine we [(0, S l)] Tryd.func21 rfl Tryd.ntmps21 rfl (.cons rfl .nil) ?_
 refine sr (asg rfl rfl (nn (sq (sq ?_))))
 refine rbo (r := 11) (L' := [(0, _)]) ((((l.length : Int) = 0) ∨ (16 < (l.length : Int)))) (.cons rfl .nil) ?_ ?_
 · refine mv rfl rfl (ln rfl Tryd.underlying9 rfl (eq' rfl rfl rfl (mv rfl rfl ?_)))
   refine gs 7 rfl (fun g0 => ?_) (fun g0 => ?_)
   · exact gN rfl rfl rfl (gN rfl rfl rfl (gN rfl rfl rfl (pkt rfl rfl rfl rfl (rbe rfl (by first | exact bt (by omega) | exact bf (by omega) | exact bi (by omega) | exact bn (by omega) | (simp_all; done) | (simp_all; omega)) (.cons rfl .nil)))))
   · exact gY rfl (mv rfl rfl (gY rfl (ln rfl Tryd.underlying9 rfl (gY rfl (gt' rfl rfl rfl (pkf rfl rfl rfl rfl (rbe rfl (by first | exact bt (by omega) | exact bf (by omega) | exact bi (by omega) | exact bn (by omega) | (simp_all; done) | (simp_all; omega)) (.cons rfl .nil))))))))
 · refine tn ?_
   refine cd rfl (fun c0 => ?_) (fun c0 => ?_)
   · refine sr (asg rfl rfl (nn (rt (tr (r1 Tryd.results21 rfl ?_)))))
     exact ⟨_, rfl, by first | (rw [name_f1 (by omega)]; rfl) | rw [name_f2 (low_no (by assumption) (by omega))] | rw [name_f2 (byte_no (by assumption) (by assumption))]; rfl | rw [(name_iff l).2 ⟨by omega, by first | assumption | (rw [← List.take_of_length_le (l := l) (show l.length ≤ i by omega)]; assumption)⟩]; rfl, (Fr.refl _ _)⟩
   · refine sk (tn (sq (sr (asg rfl rfl (nn (bl ?_))))))
     refine lpK (ι := Nat) [(0, _)] (fun i => [(3, .int .i64 (i : Int))]) (fun i w' => Fr [] w0 w' ∧ i ≤ l.length ∧ (l.take i).all lower = true) (fun i => l.length - i) 0 (.cons rfl (.cons rfl .nil)) ⟨Fr.refl _ _, ⟨Nat.zero_le _, rfl⟩⟩ ?_
     rintro i w1 ⟨q1, ⟨hi, ha⟩⟩
     have z1 := q1.size
     refine kpC [(0, _), (3, _)] (.cons rfl (.cons rfl .nil)) ?_
     refine sq (sr (mv rfl rfl (mv rfl rfl (ln rfl Tryd.underlying9 rfl (lt' rfl rfl rfl (nn ?_))))))
     refine cd rfl (fun c1 => ?_) (fun c1 => ?_)
     · have hlt : i < l.length := by omega
       refine sk (tn (sq (bl (sq ?_))))
       refine rbo (r := 27) (L' := [(0, _), (3, _)]) (((((l.getD ((i : Int)).toNat 0).toNat : Int) < 97) ∨ (122 < ((l.getD ((i : Int)).toNat 0).toNat : Int)))) (.cons rfl (.cons rfl .nil)) ?_ ?_
       · refine mv rfl rfl (mv rfl rfl (s_index rfl rfl Tryd.underlying9 (by omega) (by omega) nat_of rfl (fun hy20 => ?_)))
         refine lt' rfl rfl rfl (mv rfl rfl ?_)
         refine gs 22 rfl (fun g1 => ?_) (fun g1 => ?_)
         · exact gN rfl rfl rfl (gN rfl rfl rfl (gN rfl rfl rfl (gN rfl rfl rfl (pkt rfl rfl rfl rfl (rbe rfl (by first | exact bt (by omega) | exact bf (by omega) | exact bi (by omega) | exact bn (by omega) | (simp_all; done) | (simp_all; omega)) (.cons rfl (.cons rfl .nil)))))))
         · refine gY rfl (mv rfl rfl (gY rfl (mv rfl rfl (gY rfl (s_index rfl rfl Tryd.underlying9 (by omega) (by omega) nat_of rfl (fun hy25 => ?_))))))
           exact gY rfl (gt' rfl rfl rfl (pkf rfl rfl rfl rfl (rbe rfl (by first | exact bt (by omega) | exact bf (by omega) | exact bi (by omega) | exact bn (by omega) | (simp_all; done) | (simp_all; omega)) (.cons rfl (.cons rfl .nil)))))
       · refine tn ?_
         refine cd rfl (fun c2 => ?_) (fun c2 => ?_)
         · refine sr (asg rfl rfl (nn (rt (rb (tr (tr (rb (tr (r1 Tryd.results21 rfl ?_)))))))))
           exact ⟨_, rfl, by first | (rw [name_f1 (by omega)]; rfl) | rw [name_f2 (low_no (by assumption) (by omega))] | rw [name_f2 (byte_no (by assumption) (by assumption))]; rfl | rw [(name_iff l).2 ⟨by omega, by first | assumption | (rw [← List.take_of_length_le (l := l) (show l.length ≤ i by omega)]; assumption)⟩]; rfl, q1⟩
         · refine sk (bn' (tn (rg (mv rfl rfl (s_add rfl rfl (wi6 (by omega)) rfl (asg rfl rfl (nl ?_)))))))
           exact lpE (i + 1) (.cons rfl (.cons rfl .nil)) ⟨q1, ⟨by omega, byte_lo ha (by omega) (by assumption)⟩⟩ (by omega)
     · obtain rfl : i = l.length := by omega
       rw [List.take_length] at ha
       refine ex (te (te (xh (tn (sr (asg rfl rfl (nn (rt (r1 Tryd.results21 rfl ?_)))))))))
       exact ⟨_, rfl, by first | (rw [name_f1 (by omega)]; rfl) | rw [name_f2 (low_no (by assumption) (by omega))] | rw [name_f2 (byte_no (by assumption) (by assumption))]; rfl | rw [(name_iff l).2 ⟨by omega, by first | assumption | (rw [← List.take_of_length_le (l := l) (show l.length ≤ i by omega)]; assumption)⟩]; rfl, q1⟩
theorem all_lt {α : Type} {l : List α} {d : α} {p : α → Prop} (h : ∀ j, j < l.length → p (l.getD j d)) : ∀ x ∈ l, p x := by
  intro x hx
  obtain ⟨i, hi⟩ := List.getElem?_of_mem hx
  have := h i (List.getElem?_eq_some_iff.1 hi).1
  rwa [List.getD, hi] at this
theorem all_step {p : Nat → Prop} {i : Nat} (h : ∀ j, j < i → p j) (hi : p i) : ∀ j, j < i + 1 → p j := fun j hj => by
  rcases Nat.lt_or_ge j i with h1 | h1
  · exact h j h1
  · obtain rfl : j = i := by omega
    exact hi
theorem large_iff (c : RowL) : largeB c = true ↔ 31 < c.length ∨ ∃ r ∈ c, 16 < r.length := by
  unfold largeB; rw [Bool.or_eq_true, decide_eq_true_eq, List.any_eq_true]; simp
theorem large_no {c : RowL} (h1 : ¬ 31 < c.length) (h2 : ∀ r ∈ c, ¬ 16 < r.length) : largeB c = false := by
  rw [Bool.eq_false_iff]; intro e
  rcases (large_iff c).1 e with e | ⟨r, hr, e⟩
  · exact h1 e
  · exact h2 r hr e
theorem good_no {c : RowL} {r : List Stitch} {s : Stitch} (hr : r ∈ c) (hs : s ∈ r) (h : checkS s ≠ 0) : goodB c = false := by
  rw [Bool.eq_false_iff]; intro e
  have := List.all_eq_true.1 (List.all_eq_true.1 e r hr) s hs
  exact h ((okB_iff s).1 this)
theorem mem_snd {α β : Type} {l : List (α × β)} {j : Nat} {d : α × β} (h : j < l.length) : (l.getD j d).2 ∈ l.map Prod.snd := List.mem_map.2 ⟨_, getD_memS h, rfl⟩
theorem all_snd {α β : Type} {l : List (α × β)} {d : α × β} {p : β → Prop} (h : ∀ j, j < l.length → p (l.getD j d).2) : ∀ r ∈ l.map Prod.snd, p r := by
  intro r hr
  obtain ⟨q, hq, rfl⟩ := List.mem_map.1 hr
  exact all_lt (p := fun q => p q.2) h q hq
theorem msmall_ok (v : Value) (qs : List CQ) (w0 : World) (hs : Sl encCq w0 v qs) (hq : ChsQ w0 qs) : Rets Tryd.prog 51 #[v] w0 fun r w' => r = .bool (decide (∀ q ∈ qs, largeB q.2 = false)) ∧ Fr [] w0 w' := by
 obtain ⟨A, c, rfl, hcc, hM, hA⟩ := id hs
 clear hA
 unfold maxLen at hM
 refine we [(0, .slice A qs.length c)] Tryd.func51 rfl Tryd.ntmps51 rfl (.cons rfl .nil) ?_
 have hs0 := hs
 have hq0 := hq
 refine sr (asg rfl rfl (nn (sq (sr (mv rfl rfl (lnS rfl Tryd.underlying34 rfl (mv rfl rfl (nn (bl ?_)))))))))
 refine lpK (ι := Nat) [(7, _), (8, _)] (fun i => [(9, .int .i64 (i : Int))]) (fun i w' => Fr [] w0 w' ∧ i ≤ qs.length ∧ ∀ j, j < i → largeB (qs.getD j cq0).2 = false) (fun i => qs.length - i) 0 (.cons rfl (.cons rfl (.cons rfl .nil))) ⟨Fr.refl _ _, ⟨Nat.zero_le _, fun j hj => absurd hj (Nat.not_lt_zero j)⟩⟩ ?_
 rintro i w1 ⟨q1, ⟨hi, hall⟩⟩
 have z1 := q1.size
 refine kpC [(7, _), (8, _), (9, _)] (.cons rfl (.cons rfl (.cons rfl .nil))) ?_
 refine sr (lt' rfl rfl rfl (nn (sq ?_)))
 refine cd rfl (fun c0 => ?_) (fun c0 => ?_)
 · replace hq := hq0.ext q1
   obtain ⟨hqS, hqL⟩ := hq.at (i := i) (by omega)
   obtain ⟨rs, hrs, hqr, hrm⟩ := Sll.opn hqS
   have hrl := sl_len hrs
   have hrc : rs.length = (qs.getD i cq0).2.length := by rw [← hrm, List.length_map]
   have hrM := hrs.len_le
   unfold maxLen at hrM
   have hrs0 := hrs
   have hqr0 := hqr
   refine sk (tn (sq (bl (sr ?_))))
   replace hs := hs0.ext q1
   refine s_idxL (cq0) rfl hs rfl el34 (by omega) (by omega) nat_of rfl (fun ad11 hc11 => ?_)
   refine s_loadA rfl (hc11 _ hs) ag47 rfl (al zv47 rfl rfl (fun g4 w2 hg4 hb4 q2 z2 => ?_))
   refine s_storeBA rfl rfl hb4 rfl (by first | (simp [Value.oneCell', S]; done) | exact Enc.one _ _) sz47 (fun w3 hb4 q3 z3 => ?_)
   refine nn (sq (sr (fad rfl fa47_0 rfl (s_loadB rfl hb4 rfl na45 rfl (lnS rfl Tryd.underlying45 rfl (gt' rfl rfl rfl (nn ?_)))))))
   refine cd rfl (fun c1 => ?_) (fun c1 => ?_)
   · refine sr (asg rfl rfl (nn (rt (tr (rb (tr (tr (rb (tr (r1 Tryd.results51 rfl ?_))))))))))
     exact ⟨_, rfl, by first | rw [decide_eq_true (all_lt (d := cq0) hall)] | (rw [decide_eq_false]; intro hh; have h1 := hh _ (getD_memS (d := cq0) (show i < qs.length by omega)); rw [(large_iff _).2 (by first | (left; omega) | (right; exact ⟨_, by rw [← hrm]; exact mem_snd (d := rq0) (show j < rs.length by omega), by omega⟩))] at h1; cases h1), ((q1.next q2).step q3 (by first | (simp; done) | (simp; omega)))⟩
   · refine sk (tn (sr (fad rfl fa47_0 rfl (s_loadB rfl hb4 rfl na45 rfl (lnS rfl Tryd.underlying45 rfl (mv rfl rfl (nn (bl ?_))))))))
     refine lpK (ι := Nat) [(7, _), (8, _), (9, _), (18, _), (19, _)] (fun j => [(20, .int .i64 (j : Int))]) (fun j w' => Fr [] w3 w' ∧ j ≤ rs.length ∧ ∀ k, k < j → ¬ 16 < (rs.getD k rq0).2.length) (fun j => rs.length - j) 0 (.cons rfl (.cons rfl (.cons rfl (.cons rfl (.cons rfl (.cons rfl .nil)))))) ⟨Fr.refl _ _, ⟨Nat.zero_le _, fun j hj => absurd hj (Nat.not_lt_zero j)⟩⟩ ?_
     rintro j w4 ⟨q4, ⟨hj, hrow⟩⟩
     have z4 := q4.size
     refine kpC [(7, _), (8, _), (9, _), (18, _), (19, _), (20, _)] (.cons rfl (.cons rfl (.cons rfl (.cons rfl (.cons rfl (.cons rfl .nil)))))) ?_
     refine sr (lt' rfl rfl rfl (nn (sq ?_)))
     refine cd rfl (fun c2 => ?_) (fun c2 => ?_)
     · replace hqr := hqr0.ext ((q2.step q3 (by first | (simp; done) | (simp; omega))).next q4)
       have hjl := sl_len (hqr (rs.getD j rq0) (getD_memS (by omega)))
       have hjM := (hqr (rs.getD j rq0) (getD_memS (by omega))).len_le
       unfold maxLen at hjM
       refine sk (tn (sq (bl (sr ?_))))
       replace hrs := hrs0.ext ((q2.step q3 (by first | (simp; done) | (simp; omega))).next q4)
       refine s_idxL (rq0) rfl hrs rfl er45 (by omega) (by omega) nat_of rfl (fun ad22 hc22 => ?_)
       refine s_loadC0 rfl (hc22 _ hrs) na61 rfl (asg rfl rfl (nn (sr (mv rfl rfl (lnS rfl Tryd.underlying61 rfl (gt' rfl rfl rfl (nn ?_)))))))
       refine cd rfl (fun c3 => ?_) (fun c3 => ?_)
       · refine sr (asg rfl rfl (kpL [(2, _)] (.cons rfl .nil) (nn (rt (rb (tr (tr (rb (rb (tr (tr ?_)))))))))))
         refine rb (tr (r1 Tryd.results51 rfl ?_))
         exact ⟨_, rfl, by first | rw [decide_eq_true (all_lt (d := cq0) hall)] | (rw [decide_eq_false]; intro hh; have h1 := hh _ (getD_memS (d := cq0) (show i < qs.length by omega)); rw [(large_iff _).2 (by first | (left; omega) | (right; exact ⟨_, by rw [← hrm]; exact mem_snd (d := rq0) (show j < rs.length by omega), by omega⟩))] at h1; cases h1), (((q1.next q2).step q3 (by first | (simp; done) | (simp; omega))).next q4)⟩
       · refine sk (bn' (tn (rg (s_add rfl rfl (wi6 (by omega)) rfl (mv rfl rfl (nl ?_))))))
         exact lpE (j + 1) (.cons rfl (.cons rfl (.cons rfl (.cons rfl (.cons rfl (.cons rfl .nil)))))) ⟨q4, ⟨by omega, all_step hrow (by omega)⟩⟩ (by omega)
     · obtain rfl : j = rs.length := by omega
       refine ex (te (te (xh (bn' (tn (rg (s_add rfl rfl (wi6 (by omega)) rfl (mv rfl rfl (nl ?_)))))))))
       exact lpE (i + 1) (.cons rfl (.cons rfl (.cons rfl .nil))) ⟨(((q1.next q2).step q3 (by first | (simp; done) | (simp; omega))).next q4), ⟨by omega, all_step hall (by rw [← hrm]; exact large_no (by rw [List.length_map]; omega) (all_snd (d := rq0) hrow))⟩⟩ (by omega)
 · obtain rfl : i = qs.length := by omega
   refine ex (te (te (xh (tn (sr (asg rfl rfl (nn (rt (r1 Tryd.results51 rfl ?_)))))))))
   exact ⟨_, rfl, by first | rw [decide_eq_true (all_lt (d := cq0) hall)] | (rw [decide_eq_false]; intro hh; have h1 := hh _ (getD_memS (d := cq0) (show i < qs.length by omega)); rw [(large_iff _).2 (by first | (left; omega) | (right; exact ⟨_, by rw [← hrm]; exact mem_snd (d := rq0) (show j < rs.length by omega), by omega⟩))] at h1; cases h1), q1⟩
theorem mgood_ok (v : Value) (qs : List CQ) (w0 : World) (hs : Sl encCq w0 v qs) (hq : ChsQ w0 qs) : Rets Tryd.prog 52 #[v] w0 fun r w' => r = .bool (decide (∀ q ∈ qs, goodB q.2 = true)) ∧ Fr [] w0 w' := by
 obtain ⟨A, c, rfl, hcc, hM, hA⟩ := id hs
 clear hA
 unfold maxLen at hM
 refine we [(0, .slice A qs.length c)] Tryd.func52 rfl Tryd.ntmps52 rfl (.cons rfl .nil) ?_
 have hs0 := hs
 have hq0 := hq
 refine sr (asg rfl rfl (nn (sq (sr (mv rfl rfl (lnS rfl Tryd.underlying34 rfl (mv rfl rfl (nn (bl ?_)))))))))
 refine lpK (ι := Nat) [(9, _), (10, _)] (fun i => [(11, .int .i64 (i : Int))]) (fun i w' => Fr [] w0 w' ∧ i ≤ qs.length ∧ ∀ j, j < i → goodB (qs.getD j cq0).2 = true) (fun i => qs.length - i) 0 (.cons rfl (.cons rfl (.cons rfl .nil))) ⟨Fr.refl _ _, ⟨Nat.zero_le _, fun j hj => absurd hj (Nat.not_lt_zero j)⟩⟩ ?_
 rintro i w1 ⟨q1, ⟨hi, hall⟩⟩
 have z1 := q1.size
 refine kpC [(9, _), (10, _), (11, _)] (.cons rfl (.cons rfl (.cons rfl .nil))) ?_
 refine sr (lt' rfl rfl rfl (nn (sq ?_)))
 refine cd rfl (fun c0 => ?_) (fun c0 => ?_)
 · replace hq := hq0.ext q1
   obtain ⟨hqS, hqL⟩ := hq.at (i := i) (by omega)
   obtain ⟨rs, hrs, hqr, hrm⟩ := Sll.opn hqS
   have hrl := sl_len hrs
   have hrc : rs.length = (qs.getD i cq0).2.length := by rw [← hrm, List.length_map]
   have hrM := hrs.len_le
   unfold maxLen at hrM
   have hrs0 := hrs
   have hqr0 := hqr
   refine sk (tn (sq (bl (sr ?_))))
   replace hs := hs0.ext q1
   refine s_idxL (cq0) rfl hs rfl el34 (by omega) (by omega) nat_of rfl (fun ad13 hc13 => ?_)
   refine s_loadA rfl (hc13 _ hs) ag47 rfl (al zv47 rfl rfl (fun g4 w2 hg4 hb4 q2 z2 => ?_))
   refine s_storeBA rfl rfl hb4 rfl (by first | (simp [Value.oneCell', S]; done) | exact Enc.one _ _) sz47 (fun w3 hb4 q3 z3 => ?_)
   refine nn (sr (fad rfl fa47_0 rfl (s_loadB rfl hb4 rfl na45 rfl (lnS rfl Tryd.underlying45 rfl (mv rfl rfl (nn (bl ?_)))))))
   refine lpK (ι := Nat) [(9, _), (10, _), (11, _), (16, _), (17, _)] (fun j => [(18, .int .i64 (j : Int))]) (fun j w' => Fr [] w3 w' ∧ j ≤ rs.length ∧ ∀ k, k < j → (rs.getD k rq0).2.all okB = true) (fun j => rs.length - j) 0 (.cons rfl (.cons rfl (.cons rfl (.cons rfl (.cons rfl (.cons rfl .nil)))))) ⟨Fr.refl _ _, ⟨Nat.zero_le _, fun j hj => absurd hj (Nat.not_lt_zero j)⟩⟩ ?_
   rintro j w4 ⟨q4, ⟨hj, hrow⟩⟩
   have z4 := q4.size
   refine kpC [(9, _), (10, _), (11, _), (16, _), (17, _), (18, _)] (.cons rfl (.cons rfl (.cons rfl (.cons rfl (.cons rfl (.cons rfl .nil)))))) ?_
   refine sr (lt' rfl rfl rfl (nn (sq ?_)))
   refine cd rfl (fun c1 => ?_) (fun c1 => ?_)
   · replace hqr := hqr0.ext ((q2.step q3 (by first | (simp; done) | (simp; omega))).next q4)
     have hjl := sl_len (hqr (rs.getD j rq0) (getD_memS (by omega)))
     have hjM := (hqr (rs.getD j rq0) (getD_memS (by omega))).len_le
     unfold maxLen at hjM
     refine sk (tn (sq (bl (sr ?_))))
     replace hrs := hrs0.ext ((q2.step q3 (by first | (simp; done) | (simp; omega))).next q4)
     refine s_idxL (rq0) rfl hrs rfl er45 (by omega) (by omega) nat_of rfl (fun ad20 hc20 => ?_)
     refine s_loadC0 rfl (hc20 _ hrs) na61 rfl (asg rfl rfl (nn (sr (mv rfl rfl (lnS rfl Tryd.underlying61 rfl (mv rfl rfl (nn (bl ?_))))))))
     refine lpK (ι := Nat) [(9, _), (10, _), (11, _), (16, _), (17, _), (18, _), (22, _), (23, _)] (fun k => [(24, .int .i64 (k : Int))]) (fun k w' => Fr [] w4 w' ∧ k ≤ (rs.getD j rq0).2.length ∧ ∀ m, m < k → okB ((rs.getD j rq0).2.getD m zeroS) = true) (fun k => (rs.getD j rq0).2.length - k) 0 (.cons rfl (.cons rfl (.cons rfl (.cons rfl (.cons rfl (.cons rfl (.cons rfl (.cons rfl (.cons rfl .nil))))))))) ⟨Fr.refl _ _, ⟨Nat.zero_le _, fun j hj => absurd hj (Nat.not_lt_zero j)⟩⟩ ?_
     rintro k w5 ⟨q5, ⟨hk, hst⟩⟩
     have z5 := q5.size
     refine kpC [(9, _), (10, _), (11, _), (16, _), (17, _), (18, _), (22, _), (23, _), (24, _)] (.cons rfl (.cons rfl (.cons rfl (.cons rfl (.cons rfl (.cons rfl (.cons rfl (.cons rfl (.cons rfl .nil))))))))) ?_
     refine sr (lt' rfl rfl rfl (nn (sq ?_)))
     refine cd rfl (fun c2 => ?_) (fun c2 => ?_)
     · refine sk (tn (sq (bl (sr ?_))))
       replace hqr := hqr0.ext (((q2.step q3 (by first | (simp; done) | (simp; omega))).next q4).next q5)
       refine s_idxL (zeroS) rfl (hqr (rs.getD j rq0) (getD_memS (by omega))) rfl el61 (by omega) (by omega) nat_of rfl (fun ad26 hc26 => ?_)
       refine s_loadA rfl (hc26 _ (hqr (rs.getD j rq0) (getD_memS (by omega)))) ag100 rfl (al zv100 rfl rfl (fun g8 w6 hg8 hb8 q6 z6 => ?_))
       refine s_storeBA rfl rfl hb8 rfl (by first | (simp [Value.oneCell', S]; done) | exact Enc.one _ _) sz100 (fun w7 hb8 q7 z7 => ?_)
       refine nn (sr (s_loadBA rfl hb8 ag100 rfl ?_))
       refine cl (ev1 rfl) co68 (check_ok ((rs.getD j rq0).2.getD k zeroS) _) rfl ?_
       rintro _ w8 ⟨rfl, q8⟩
       have z8 := q8.size
       refine ne' rfl rfl rfl (nn ?_)
       refine cd rfl (fun c3 => ?_) (fun c3 => ?_)
       · refine sr (asg rfl rfl (kpL [(2, _)] (.cons rfl .nil) (nn (rt (rb (tr (tr (rb (rb (tr (tr ?_)))))))))))
         refine rb (rb (tr (tr (rb (tr (r1 Tryd.results52 rfl ?_))))))
         exact ⟨_, rfl, by first | rw [decide_eq_true (all_lt (d := cq0) hall)] | (rw [decide_eq_false]; intro hh; have h1 := hh _ (getD_memS (d := cq0) (show i < qs.length by omega)); rw [← hrm, good_no (mem_snd (d := rq0) (show j < rs.length by omega)) (getD_memS (d := zeroS) (show k < (rs.getD j rq0).2.length by omega)) (by assumption)] at h1; cases h1), (((((((q1.next q2).step q3 (by first | (simp; done) | (simp; omega))).next q4).next q5).next q6).step q7 (by first | (simp; done) | (simp; omega))).next q8)⟩
       · refine sk (bn' (tn (rg (s_add rfl rfl (wi6 (by omega)) rfl (mv rfl rfl (nl ?_))))))
         exact lpE (k + 1) (.cons rfl (.cons rfl (.cons rfl (.cons rfl (.cons rfl (.cons rfl (.cons rfl (.cons rfl (.cons rfl .nil))))))))) ⟨(((q5.next q6).step q7 (by first | (simp; done) | (simp; omega))).next q8), ⟨by omega, all_step hst ((okB_iff _).2 (Classical.not_not.1 (by assumption)))⟩⟩ (by omega)
     · obtain rfl : k = (rs.getD j rq0).2.length := by omega
       refine ex (te (te (xh (bn' (tn (rg (s_add rfl rfl (wi6 (by omega)) rfl (mv rfl rfl (nl ?_)))))))))
       exact lpE (j + 1) (.cons rfl (.cons rfl (.cons rfl (.cons rfl (.cons rfl (.cons rfl .nil)))))) ⟨(q4.next q5), ⟨by omega, all_step hrow (List.all_eq_true.2 (all_lt (d := zeroS) hst))⟩⟩ (by omega)
   · obtain rfl : j = rs.length := by omega
     refine ex (te (te (xh (bn' (tn (rg (s_add rfl rfl (wi6 (by omega)) rfl (mv rfl rfl (nl ?_)))))))))
     exact lpE (i + 1) (.cons rfl (.cons rfl (.cons rfl .nil))) ⟨(((q1.next q2).step q3 (by first | (simp; done) | (simp; omega))).next q4), ⟨by omega, all_step hall (by rw [← hrm]; exact List.all_eq_true.2 (all_snd (d := rq0) hrow))⟩⟩ (by omega)
 · obtain rfl : i = qs.length := by omega
   refine ex (te (te (xh (tn (sr (asg rfl rfl (nn (rt (r1 Tryd.results52 rfl ?_)))))))))
   exact ⟨_, rfl, by first | rw [decide_eq_true (all_lt (d := cq0) hall)] | (rw [decide_eq_false]; intro hh; have h1 := hh _ (getD_memS (d := cq0) (show i < qs.length by omega)); rw [← hrm, good_no (mem_snd (d := rq0) (show j < rs.length by omega)) (getD_memS (d := zeroS) (show k < (rs.getD j rq0).2.length by omega)) (by assumption)] at h1; cases h1), q1⟩
end Go.Proofs.YthehggmdcmpjeaaDoor
namespace Go.Proofs.YthehggmdcmpjeaaDoor
open Go.Lw Go.G14
theorem bo60 : BuildAt Tryd.prog 60 [(0, 1), (1, 1), (2, 1)] [(.slice none 0 0), (.slice none 0 0), (.slice none 0 0)] := BuildAt.array (sz := 1) Tryd.underlying60 (fun _ => by kernel_rfl) (fun _ => by kernel_rfl) (fun i q h => by match i, h with | 0, h => simpa using h.symm | 1, h => simpa using h.symm | 2, h => simpa using h.symm | (k + 3), h => simp at h)
theorem co41 : CallOf Tryd.prog 41 := CallOf.mk' Tryd.func41 (by kernel_rfl) (by kernel_rfl)
theorem co51 : CallOf Tryd.prog 51 := CallOf.mk' Tryd.func51 (by kernel_rfl) (by kernel_rfl)
theorem co52 : CallOf Tryd.prog 52 := CallOf.mk' Tryd.func52 (by kernel_rfl) (by kernel_rfl)
theorem fa49_0 : FieldAt Tryd.prog 49 0 0 := fun _ _ => by kernel_rfl
theorem fa49_1 : FieldAt Tryd.prog 49 1 1 := fun _ _ => by kernel_rfl
theorem fa49_2 : FieldAt Tryd.prog 49 2 2 := fun _ _ => by kernel_rfl
theorem sz60 : SizeOf Tryd.prog 60 3 := fun _ => by kernel_rfl
theorem zv60 (w : World) : (zeroValue 60).run Tryd.prog w = .ok (.agg #[(.slice none 0 0), (.slice none 0 0), (.slice none 0 0)]) w := by kernel_rfl
theorem mcheck_ok (m : Mot) (l t r : SV) (w0 : World) (hm : MotAt w0 m l t r) : Rets Tryd.prog 28 #[.agg #[.slice l.1 l.2.1 l.2.2, .slice t.1 t.2.1 t.2.2, .slice r.1 r.2.1 r.2.2]] w0 fun v w' => v = .int .i64 (motE m) ∧ Fr [] w0 w' := by
 obtain ⟨hl1, hl2, hl3⟩ := hm.len
 obtain ⟨rs, hrs, hqr, hrm⟩ := Sll.opn hm.T
 have hrl := sl_len hrs
 have hrc : rs.length = m.T.length := by rw [← hrm, List.length_map]
 have hrM := hrs.len_le
 unfold maxLen at hrM
 refine we [(0, .agg #[.slice l.1 l.2.1 l.2.2, .slice t.1 t.2.1 t.2.2, .slice r.1 r.2.1 r.2.2])] Tryd.func28 rfl Tryd.ntmps28 rfl (.cons rfl .nil) ?_
 have hm0 := hm
 have hrs0 := hrs
 have hqr0 := hqr
 refine sr (bx rfl rfl rfl (fun g1 w1 hg1 hb1 q1 z1 => ?_))
 refine asg rfl rfl (nn (sq (sr (fad rfl fa49_0 rfl (s_loadBP (vs := [_]) rfl hb1 ag47 rfl rfl (fad rfl fa49_1 rfl (s_loadBP (vs := [_]) rfl hb1 ag47 rfl rfl (fad rfl fa49_2 rfl (s_loadBP (vs := [_]) rfl hb1 ag47 rfl rfl (s_bslice (bl3 m l t r) (ev3 rfl rfl rfl) rfl rfl rfl el34 (Nat.le_of_ble_eq_true rfl) rfl (fun g14 w2 hg14 ho14 q2 z2 => ?_)))))))))))
 replace hm := hm0.ext (q1.next q2)
 refine cl (ev1 rfl) co51 (msmall_ok _ _ _ ho14.sl hm.chs3) rfl ?_
 rintro _ w3 ⟨rfl, q3⟩
 have z3 := q3.size
 refine nt' rfl rfl (kpL [(1, _), (16, _)] (.cons rfl (.cons rfl .nil)) (nn ?_))
 refine cd rfl (fun c0 => ?_) (fun c0 => ?_)
 · refine sr (asg rfl rfl (nn (rt (tr (r1 Tryd.results28 rfl ?_)))))
   exact ⟨_, rfl, by rw [mot3 c0], ((q1.next q2).next q3)⟩
 · refine sk (tn (sr (fad rfl fa49_1 rfl (s_fad2 rfl fa47_0 rfl ?_))))
   replace hb1 := hb1.ext (q2.next q3)
   refine s_loadB rfl hb1 rfl na45 rfl (lnS rfl Tryd.underlying45 rfl (asg rfl rfl (nn (sq (sr (fad rfl fa49_0 rfl (s_loadBP (vs := [_]) rfl hb1 ag47 rfl rfl (fad rfl fa49_2 rfl (s_loadBP (vs := [_]) rfl hb1 ag47 rfl rfl (s_bslice (bl2 m l r) (ev2 rfl rfl) rfl rfl rfl el34 (Nat.le_of_ble_eq_true rfl) rfl (fun g25 w4 hg25 ho25 q4 z4 => ?_)))))))))))
   refine lnS rfl Tryd.underlying34 rfl (mv rfl rfl (nn (bl ?_)))
   have hes : (bl2 m l r).length = 2 := rfl
   refine lpK (ι := Nat) [(1, _), (3, _), (25, _), (26, _)] (fun i => [(27, .int .i64 (i : Int))]) (fun i w' => Fr [] w4 w' ∧ i ≤ 2 ∧ ∀ j, j < i → ¬ (0 < ((bl2 m l r).getD j cq0).2.length ∧ ((bl2 m l r).getD j cq0).2.length ≠ m.T.length)) (fun i => 2 - i) 0 (.cons rfl (.cons rfl (.cons rfl (.cons rfl (.cons rfl .nil))))) ⟨Fr.refl _ _, ⟨Nat.zero_le _, fun j hj => absurd hj (Nat.not_lt_zero j)⟩⟩ ?_
   rintro i w5 ⟨q5, ⟨hi, hall⟩⟩
   have z5 := q5.size
   refine kpC [(1, _), (3, _), (25, _), (26, _), (27, _)] (.cons rfl (.cons rfl (.cons rfl (.cons rfl (.cons rfl .nil))))) ?_
   refine sr (lt' rfl rfl rfl (nn (sq ?_)))
   refine cd rfl (fun c1 => ?_) (fun c1 => ?_)
   · replace hm := hm0.ext ((((q1.next q2).next q3).next q4).next q5)
     have hee := (hm.chs2.at (i := i) (by omega)).2
     refine sk (tn (sq (bl (sr ?_))))
     replace ho25 := ho25.ext q5
     refine s_idxL (cq0) rfl ho25.sl rfl el34 (by omega) (by omega) nat_of rfl (fun ad29 hc29 => ?_)
     refine s_loadA rfl (hc29 _ ho25.sl) ag47 rfl (al zv47 rfl rfl (fun g5 w6 hg5 hb5 q6 z6 => ?_))
     refine s_storeBA rfl rfl hb5 rfl (by first | (simp [Value.oneCell', S]; done) | exact Enc.one _ _) sz47 (fun w7 hb5 q7 z7 => ?_)
     refine nn (sq ?_)
     refine rbo (r := 41) (L' := [(1, _), (3, _), (25, _), (26, _), (27, _)]) (((0 < (((bl2 m l r).getD i cq0).1.2.1 : Int)) ∧ ((((bl2 m l r).getD i cq0).1.2.1 : Int) ≠ (t.2.1 : Int)))) (.cons rfl (.cons rfl (.cons rfl (.cons rfl (.cons rfl .nil))))) ?_ ?_
     · refine fad rfl fa47_0 rfl (s_loadB rfl hb5 rfl na45 rfl (lnS rfl Tryd.underlying45 rfl (gt' rfl rfl rfl (mv rfl rfl ?_))))
       refine gs 35 rfl (fun g0 => ?_) (fun g0 => ?_)
       · exact gY rfl (fad rfl fa47_0 rfl (gY rfl (s_loadB rfl hb5 rfl na45 rfl (gY rfl (lnS rfl Tryd.underlying45 rfl (gY rfl (mv rfl rfl (gY rfl (ne' rfl rfl rfl (pkt rfl rfl rfl rfl (rbe rfl (by first | exact bt (by omega) | exact bf (by omega) | exact bi (by omega) | exact bn (by omega) | (simp_all; done) | (simp_all; omega)) (.cons rfl (.cons rfl (.cons rfl (.cons rfl (.cons rfl .nil))))))))))))))))
       · exact gN rfl rfl rfl (gN rfl rfl rfl (gN rfl rfl rfl (gN rfl rfl rfl (gN rfl rfl rfl (pkf rfl rfl rfl rfl (rbe rfl (by first | exact bt (by omega) | exact bf (by omega) | exact bi (by omega) | exact bn (by omega) | (simp_all; done) | (simp_all; omega)) (.cons rfl (.cons rfl (.cons rfl (.cons rfl (.cons rfl .nil)))))))))))
     · refine tn ?_
       refine cd rfl (fun c2 => ?_) (fun c2 => ?_)
       · refine sr (asg rfl rfl (kpL [(2, _)] (.cons rfl .nil) (nn (rt (rb (tr (tr (rb (tr (r1 Tryd.results28 rfl ?_))))))))))
         exact ⟨_, rfl, by rw [mot5 (Classical.not_not.1 c0) (edg_at (l := l) (r := r) (i := i) (by omega) (by omega))], ((((((q1.next q2).next q3).next q4).next q5).next q6).step q7 (by first | (simp; done) | (simp; omega)))⟩
       · refine sk (bn' (tn (rg (s_add rfl rfl (wi6 (by omega)) rfl (mv rfl rfl (nl ?_))))))
         exact lpE (i + 1) (.cons rfl (.cons rfl (.cons rfl (.cons rfl (.cons rfl .nil))))) ⟨((q5.next q6).step q7 (by first | (simp; done) | (simp; omega))), ⟨by omega, all_step hall (by omega)⟩⟩ (by omega)
   · obtain rfl : i = 2 := by omega
     have hne := edg_no hall
     refine ex (te (te (xh (tn (sq (sq ?_))))))
     refine rboF (r := 55) (L' := [(1, _)]) ((((t.2.1 : Int) = 0) ∨ (¬ (∀ q ∈ bl3 m l t r, goodB q.2 = true)))) (.cons rfl .nil) ?_ ?_
     · refine mv rfl rfl (eq' rfl rfl rfl (mv rfl rfl ?_))
       refine gs 45 rfl (fun g1 => ?_) (fun g1 => ?_)
       · exact gN rfl rfl rfl (gN rfl rfl rfl (gN rfl rfl rfl (gN rfl rfl rfl (gN rfl rfl rfl (gN rfl rfl rfl (gN rfl rfl rfl (gN rfl rfl rfl (gN rfl rfl rfl (pkt rfl rfl rfl rfl (rbeF rfl (by first | exact bt (by omega) | exact bf (by omega) | exact bi (by omega) | exact bn (by omega) | (simp_all; done) | (simp_all; omega)) (.cons rfl .nil) (Fr.refl _ _)))))))))))
       · refine gY rfl (fad rfl fa49_0 rfl (gY rfl ?_))
         replace hb1 := hb1.ext (q4.next q5)
         refine s_loadBP (vs := [_]) rfl hb1 ag47 rfl rfl (gY rfl (fad rfl fa49_1 rfl (gY rfl (s_loadBP (vs := [_]) rfl hb1 ag47 rfl rfl (gY rfl (fad rfl fa49_2 rfl (gY rfl (s_loadBP (vs := [_]) rfl hb1 ag47 rfl rfl (gY rfl (s_bslice (bl3 m l t r) (ev3 rfl rfl rfl) rfl rfl rfl el34 (Nat.le_of_ble_eq_true rfl) rfl (fun g52 w8 hg52 ho52 q8 z8 => ?_)))))))))))
         refine gY rfl ?_
         replace hm := hm0.ext (((((q1.next q2).next q3).next q4).next q5).next q8)
         refine cl (ev1 rfl) co52 (mgood_ok _ _ _ ho52.sl hm.chs3) rfl ?_
         rintro _ w9 ⟨rfl, q9⟩
         have z9 := q9.size
         exact gY rfl (nt' rfl rfl (pkf rfl rfl rfl rfl (rbeF rfl (by first | exact bt (by omega) | exact bf (by omega) | exact bi (by omega) | exact bn (by omega) | (simp_all; done) | (simp_all; omega)) (.cons rfl .nil) (q8.next q9))))
     · intro w10 q10; have z10 := q10.size
       refine tn ?_
       refine cd rfl (fun c3 => ?_) (fun c3 => ?_)
       · refine sr (asg rfl rfl (nn (rt (tr (r1 Tryd.results28 rfl ?_)))))
         exact ⟨_, rfl, by rw [mot1 (Classical.not_not.1 c0) hne (by rcases c3 with h | h; exact .inl (by omega); exact .inr h)], (((((q1.next q2).next q3).next q4).next q5).next q10)⟩
       · refine sk (tn (sq (sr (fad rfl fa49_1 rfl (s_fad2 rfl fa47_0 rfl ?_)))))
         replace hb1 := hb1.ext ((q4.next q5).next q10)
         refine s_loadB rfl hb1 rfl na45 rfl (lnS rfl Tryd.underlying45 rfl (mv rfl rfl (nn (bl ?_))))
         refine lpK (ι := Nat) [(58, _), (59, _)] (fun j => [(60, .int .i64 (j : Int))]) (fun j w' => Fr [] w10 w' ∧ j ≤ rs.length ∧ ∀ k, k < j → ¬ (rs.getD k rq0).2.length = 0) (fun j => rs.length - j) 0 (.cons rfl (.cons rfl (.cons rfl .nil))) ⟨Fr.refl _ _, ⟨Nat.zero_le _, fun j hj => absurd hj (Nat.not_lt_zero j)⟩⟩ ?_
         rintro j w11 ⟨q11, ⟨hj, hrow⟩⟩
         have z11 := q11.size
         refine kpC [(58, _), (59, _), (60, _)] (.cons rfl (.cons rfl (.cons rfl .nil))) ?_
         refine sr (lt' rfl rfl rfl (nn (sq ?_)))
         refine cd rfl (fun c4 => ?_) (fun c4 => ?_)
         · replace hqr := hqr0.ext ((((((q1.next q2).next q3).next q4).next q5).next q10).next q11)
           have hjl := sl_len (hqr (rs.getD j rq0) (getD_memS (by omega)))
           have hjM := (hqr (rs.getD j rq0) (getD_memS (by omega))).len_le
           unfold maxLen at hjM
           refine sk (tn (sq (bl (sr ?_))))
           replace hrs := hrs0.ext ((((((q1.next q2).next q3).next q4).next q5).next q10).next q11)
           refine s_idxL (rq0) rfl hrs rfl er45 (by omega) (by omega) nat_of rfl (fun ad62 hc62 => ?_)
           refine s_loadC0 rfl (hc62 _ hrs) na61 rfl (asg rfl rfl (nn (sr (mv rfl rfl (lnS rfl Tryd.underlying61 rfl (eq' rfl rfl rfl (nn ?_)))))))
           refine cd rfl (fun c5 => ?_) (fun c5 => ?_)
           · refine sr (asg rfl rfl (nn (rt (rb (tr (tr (rb (tr (r1 Tryd.results28 rfl ?_)))))))))
             exact ⟨_, rfl, by rw [mot1r (Classical.not_not.1 c0) hne ⟨_, by rw [← hrm]; exact mem_snd (d := rq0) (show j < rs.length by omega), by omega⟩], ((((((q1.next q2).next q3).next q4).next q5).next q10).next q11)⟩
           · refine sk (bn' (tn (rg (s_add rfl rfl (wi6 (by omega)) rfl (mv rfl rfl (nl ?_))))))
             exact lpE (j + 1) (.cons rfl (.cons rfl (.cons rfl .nil))) ⟨q11, ⟨by omega, all_step hrow (by omega)⟩⟩ (by omega)
         · obtain rfl : j = rs.length := by omega
           refine ex (te (te (xh (tn (sr (asg rfl rfl (nn (rt (r1 Tryd.results28 rfl ?_)))))))))
           exact ⟨_, rfl, by rw [mot0 (l := l) (t := t) (r := r) (Classical.not_not.1 c0) hne (fun h => c3 (.inl (by omega))) (Classical.not_not.1 fun h => c3 (.inr h)) (by rw [← hrm]; exact all_snd (d := rq0) hrow)], ((((((q1.next q2).next q3).next q4).next q5).next q10).next q11)⟩
theorem large_ok (u : Value) (rows : RowL) (w0 : World) (hS : Sll encSt w0 u rows) : Rets Tryd.prog 41 #[.agg #[u]] w0 fun v w' => v = .int .i64 (if largeB rows = true then 1 else 0) ∧ Fr [] w0 w' := by
 obtain ⟨rs, hrs, hqr, hrm⟩ := Sll.opn hS
 obtain ⟨A, c, rfl, hcc, hM, hA⟩ := id hrs
 clear hA
 unfold maxLen at hM
 have hrc : rs.length = rows.length := by rw [← hrm, List.length_map]
 refine we [(0, .agg #[.slice A rs.length c])] Tryd.func41 rfl Tryd.ntmps41 rfl (.cons rfl .nil) ?_
 have hrs0 := hrs
 have hqr0 := hqr
 refine sr (bx rfl rfl rfl (fun g1 w1 hg1 hb1 q1 z1 => ?_))
 refine asg rfl rfl (nn (sq (sr (fad rfl fa47_0 rfl (s_loadB rfl hb1 rfl na45 rfl (lnS rfl Tryd.underlying45 rfl (gt' rfl rfl rfl (nn ?_))))))))
 refine cd rfl (fun c0 => ?_) (fun c0 => ?_)
 · refine sr (asg rfl rfl (nn (rt (tr (r1 Tryd.results41 rfl ?_)))))
   exact ⟨_, rfl, by first | rw [if_pos ((large_iff _).2 (.inl (by omega)))] | rw [if_pos ((large_iff _).2 (.inr ⟨_, by rw [← hrm]; exact mem_snd (d := rq0) (show j < rs.length by omega), by omega⟩))] | rw [large_no (by omega) (by rw [← hrm]; exact all_snd (d := rq0) hrow), if_neg (by decide)], q1⟩
 · refine sk (tn (sq (sr (asg rfl rfl (nn (bl ?_))))))
   refine lpK (ι := Nat) [(1, _)] (fun j => [(3, .int .i64 (j : Int))]) (fun j w' => Fr [] w1 w' ∧ j ≤ rs.length ∧ ∀ k, k < j → ¬ 16 < (rs.getD k rq0).2.length) (fun j => rs.length - j) 0 (.cons rfl (.cons rfl .nil)) ⟨Fr.refl _ _, ⟨Nat.zero_le _, fun j hj => absurd hj (Nat.not_lt_zero j)⟩⟩ ?_
   rintro j w2 ⟨q2, ⟨hj, hrow⟩⟩
   have z2 := q2.size
   refine kpC [(1, _), (3, _)] (.cons rfl (.cons rfl .nil)) ?_
   refine sq (sr (mv rfl rfl (fad rfl fa47_0 rfl ?_)))
   replace hb1 := hb1.ext q2
   refine s_loadB rfl hb1 rfl na45 rfl (lnS rfl Tryd.underlying45 rfl (lt' rfl rfl rfl (nn ?_)))
   refine cd rfl (fun c1 => ?_) (fun c1 => ?_)
   · replace hqr := hqr0.ext (q1.next q2)
     have hjl := sl_len (hqr (rs.getD j rq0) (getD_memS (by omega)))
     have hjM := (hqr (rs.getD j rq0) (getD_memS (by omega))).len_le
     unfold maxLen at hjM
     refine sk (tn (sq (bl (sr (fad rfl fa47_0 rfl (s_loadB rfl hb1 rfl na45 rfl (mv rfl rfl ?_)))))))
     replace hrs := hrs0.ext (q1.next q2)
     refine s_idxL (rq0) rfl hrs rfl er45 (by omega) (by omega) nat_of rfl (fun ad18 hc18 => ?_)
     refine s_loadC0 rfl (hc18 _ hrs) na61 rfl (lnS rfl Tryd.underlying61 rfl (gt' rfl rfl rfl (kpL [(1, _), (3, _), (21, _)] (.cons rfl (.cons rfl (.cons rfl .nil))) (nn ?_))))
     refine cd rfl (fun c2 => ?_) (fun c2 => ?_)
     · refine sr (asg rfl rfl (nn (rt (rb (tr (tr (rb (tr (r1 Tryd.results41 rfl ?_)))))))))
       exact ⟨_, rfl, by first | rw [if_pos ((large_iff _).2 (.inl (by omega)))] | rw [if_pos ((large_iff _).2 (.inr ⟨_, by rw [← hrm]; exact mem_snd (d := rq0) (show j < rs.length by omega), by omega⟩))] | rw [large_no (by omega) (by rw [← hrm]; exact all_snd (d := rq0) hrow), if_neg (by decide)], (q1.next q2)⟩
     · refine sk (bn' (tn (rg (mv rfl rfl (s_add rfl rfl (wi6 (by omega)) rfl (asg rfl rfl (nl ?_)))))))
       exact lpE (j + 1) (.cons rfl (.cons rfl .nil)) ⟨q2, ⟨by omega, all_step hrow (by omega)⟩⟩ (by omega)
   · obtain rfl : j = rs.length := by omega
     refine ex (te (te (xh (tn (sr (asg rfl rfl (nn (rt (r1 Tryd.results41 rfl ?_)))))))))
     exact ⟨_, rfl, by first | rw [if_pos ((large_iff _).2 (.inl (by omega)))] | rw [if_pos ((large_iff _).2 (.inr ⟨_, by rw [← hrm]; exact mem_snd (d := rq0) (show j < rs.length by omega), by omega⟩))] | rw [large_no (by omega) (by rw [← hrm]; exact all_snd (d := rq0) hrow), if_neg (by decide)], (q1.next q2)⟩
abbrev RowOk15 (k : Nat) (r : List Stitch) : Prop := ¬ (k = 1 ∧ r.length = 0) ∧ r.all okB = true
theorem rows_bad {m : Mot} {l t r : SV} {k : Nat} {row : List Stitch} (hN : NoL m l t r) (he : ¬ Edg m) (hk : k < 3) (hr : row ∈ ((bl3 m l t r).getD k cq0).2) (hb : (k = 1 ∧ row.length = 0) ∨ ∃ s ∈ row, checkS s ≠ 0) : motE m = 1 := by
  rcases hb with ⟨rfl, h0⟩ | ⟨s, hs, hc⟩
  · exact mot1r hN he ⟨row, hr, h0⟩
  · refine mot1 (l := l) (t := t) (r := r) hN he (.inr fun hg => ?_)
    have h1 := hg _ (getD_memS (d := cq0) (show k < (bl3 m l t r).length from hk))
    rw [good_no hr hs hc] at h1; cases h1
theorem rows_ok {m : Mot} {l t r : SV} (hN : NoL m l t r) (he : ¬ Edg m) (h0 : ¬ m.T.length = 0) (h : ∀ k, k < 3 → ∀ row ∈ ((bl3 m l t r).getD k cq0).2, RowOk15 k row) : motE m = 0 := by
  refine mot0 hN he h0 (fun q hq => ?_) (fun row hr e => (h 1 (by omega) row hr).1 ⟨rfl, e⟩)
  obtain ⟨k, hk⟩ := List.getElem?_of_mem hq
  have hk3 : k < 3 := (List.getElem?_eq_some_iff.1 hk).1
  have := h k hk3
  rw [List.getD, hk] at this
  exact List.all_eq_true.2 fun row hr => (this row hr).2
set_option maxHeartbeats 1000000 in
theorem refmot_ok (m : Mot) (l t r : SV) (w0 : World) (hm : MotAt w0 m l t r) : Rets Tryd.prog 22 #[.agg #[.slice l.1 l.2.1 l.2.2, .slice t.1 t.2.1 t.2.2, .slice r.1 r.2.1 r.2.2]] w0 fun v w' => v = .int .i64 (motE m) ∧ Fr [] w0 w' := by
 obtain ⟨hl1, hl2, hl3⟩ := hm.len
 refine we [(0, .agg #[.slice l.1 l.2.1 l.2.2, .slice t.1 t.2.1 t.2.2, .slice r.1 r.2.1 r.2.2])] Tryd.func22 rfl Tryd.ntmps22 rfl (.cons rfl .nil) ?_
 have hm0 := hm
 refine sr (bx rfl rfl rfl (fun g1 w1 hg1 hb1 q1 z1 => ?_))
 refine asg rfl rfl (nn (sq (sq ?_)))
 refine rboF (r := 23) (L' := [(1, _)]) (((((if largeB m.L = true then 1 else 0) = 1) ∨ ((if largeB m.T = true then 1 else 0) = 1)) ∨ ((if largeB m.R = true then 1 else 0) = 1))) (.cons rfl .nil) ?_ ?_
 · refine fad rfl fa49_0 rfl (s_loadBP (vs := [_]) rfl hb1 ag47 rfl rfl ?_)
   replace hm := hm0.ext q1
   refine cl (ev1 rfl) co41 (large_ok _ m.L _ hm.L) rfl ?_
   rintro _ w2 ⟨rfl, q2⟩
   have z2 := q2.size
   refine eq' rfl rfl rfl (mv rfl rfl ?_)
   refine gs 12 rfl (fun g0 => ?_) (fun g0 => ?_)
   · exact gN rfl rfl rfl (gN rfl rfl rfl (gN rfl rfl rfl (gN rfl rfl rfl (pkt rfl rfl rfl rfl (mv rfl rfl (gN rfl rfl rfl (gN rfl rfl rfl (gN rfl rfl rfl (gN rfl rfl rfl (pkt rfl rfl rfl rfl (rbeF rfl (by first | exact bt (by omega) | exact bf (by omega) | exact bi (by omega) | exact bn (by omega) | (simp_all; done) | (simp_all; omega)) (.cons rfl .nil) q2)))))))))))
   · refine gY rfl (fad rfl fa49_1 rfl (gY rfl ?_))
     replace hb1 := hb1.ext q2
     refine s_loadBP (vs := [_]) rfl hb1 ag47 rfl rfl (gY rfl ?_)
     replace hm := hm0.ext (q1.next q2)
     refine cl (ev1 rfl) co41 (large_ok _ m.T _ hm.T) rfl ?_
     rintro _ w3 ⟨rfl, q3⟩
     have z3 := q3.size
     refine gY rfl (eq' rfl rfl rfl (pkf rfl rfl rfl rfl (mv rfl rfl ?_)))
     refine gs 18 rfl (fun g1 => ?_) (fun g1 => ?_)
     · exact gN rfl rfl rfl (gN rfl rfl rfl (gN rfl rfl rfl (gN rfl rfl rfl (pkt rfl rfl rfl rfl (rbeF rfl (by first | exact bt (by omega) | exact bf (by omega) | exact bi (by omega) | exact bn (by omega) | (simp_all; done) | (simp_all; omega)) (.cons rfl .nil) (q2.next q3))))))
     · refine gY rfl (fad rfl fa49_2 rfl (gY rfl ?_))
       replace hb1 := hb1.ext q3
       refine s_loadBP (vs := [_]) rfl hb1 ag47 rfl rfl (gY rfl ?_)
       replace hm := hm0.ext ((q1.next q2).next q3)
       refine cl (ev1 rfl) co41 (large_ok _ m.R _ hm.R) rfl ?_
       rintro _ w4 ⟨rfl, q4⟩
       have z4 := q4.size
       exact gY rfl (eq' rfl rfl rfl (pkf rfl rfl rfl rfl (rbeF rfl (by first | exact bt (by omega) | exact bf (by omega) | exact bi (by omega) | exact bn (by omega) | (simp_all; done) | (simp_all; omega)) (.cons rfl .nil) ((q2.next q3).next q4))))
 · intro w5 q5; have z5 := q5.size
   refine tn ?_
   refine cd rfl (fun c0 => ?_) (fun c0 => ?_)
   · refine sr (asg rfl rfl (nn (rt (tr (r1 Tryd.results22 rfl ?_)))))
     exact ⟨_, rfl, by rw [mot3 (l := l) (t := t) (r := r) (fun h => by have := nol_iff.1 h; rw [this.1, this.2.1, this.2.2] at c0; simp at c0)], (q1.next q5)⟩
   · have hN : NoL m l t r := nol_iff.2 ⟨by cases e : largeB m.L <;> simp_all, by cases e : largeB m.T <;> simp_all, by cases e : largeB m.R <;> simp_all⟩
     refine sk (tn (sr (fad rfl fa49_1 rfl (s_fad2 rfl fa47_0 rfl ?_))))
     replace hb1 := hb1.ext q5
     refine s_loadB rfl hb1 rfl na45 rfl (lnS rfl Tryd.underlying45 rfl (asg rfl rfl (nn (sq (sq ?_)))))
     refine rbo (r := 55) (L' := [(1, _), (3, _)]) (((((l.2.1 : Int) ≠ 0) ∧ ((l.2.1 : Int) ≠ (t.2.1 : Int))) ∨ (((r.2.1 : Int) ≠ 0) ∧ ((r.2.1 : Int) ≠ (t.2.1 : Int))))) (.cons rfl (.cons rfl .nil)) ?_ ?_
     · refine fad rfl fa49_0 rfl (s_fad2 rfl fa47_0 rfl (s_loadB rfl hb1 rfl na45 rfl (lnS rfl Tryd.underlying45 rfl (ne' rfl rfl rfl (mv rfl rfl ?_)))))
       refine gs 33 rfl (fun g2 => ?_) (fun g2 => ?_)
       · refine gY rfl (fad rfl fa49_0 rfl (gY rfl (s_fad2 rfl fa47_0 rfl (gY rfl (s_loadB rfl hb1 rfl na45 rfl (gY rfl (lnS rfl Tryd.underlying45 rfl (gY rfl (mv rfl rfl (gY rfl (ne' rfl rfl rfl ?_)))))))))))
         refine pkt rfl rfl rfl rfl (mv rfl rfl ?_)
         refine gs 41 rfl (fun g3 => ?_) (fun g3 => ?_)
         · refine gN rfl rfl rfl (gN rfl rfl rfl (gN rfl rfl rfl (gN rfl rfl rfl (gN rfl rfl rfl (gN rfl rfl rfl (gS rfl rfl rfl (gS rfl rfl rfl (gS rfl rfl rfl (gS rfl rfl rfl (gS rfl rfl rfl (gS rfl rfl rfl ?_)))))))))))
           exact gN rfl rfl rfl (pkt rfl rfl rfl rfl (rbe rfl (by first | exact bt (by omega) | exact bf (by omega) | exact bi (by omega) | exact bn (by omega) | (simp_all; done) | (simp_all; omega)) (.cons rfl (.cons rfl .nil))))
         · refine gY rfl (fad rfl fa49_2 rfl (gY rfl (s_fad2 rfl fa47_0 rfl (gY rfl (s_loadB rfl hb1 rfl na45 rfl (gY rfl (lnS rfl Tryd.underlying45 rfl (gY rfl (ne' rfl rfl rfl (gY rfl (mv rfl rfl ?_)))))))))))
           refine gs 47 rfl (fun g4 => ?_) (fun g4 => ?_)
           · refine gY rfl (fad rfl fa49_2 rfl (gY rfl (s_fad2 rfl fa47_0 rfl (gY rfl (s_loadB rfl hb1 rfl na45 rfl (gY rfl (lnS rfl Tryd.underlying45 rfl (gY rfl (mv rfl rfl (gY rfl (ne' rfl rfl rfl ?_)))))))))))
             exact gY rfl (pkt rfl rfl rfl rfl (pkf rfl rfl rfl rfl (rbe rfl (by first | exact bt (by omega) | exact bf (by omega) | exact bi (by omega) | exact bn (by omega) | (simp_all; done) | (simp_all; omega)) (.cons rfl (.cons rfl .nil)))))
           · exact gN rfl rfl rfl (gN rfl rfl rfl (gN rfl rfl rfl (gN rfl rfl rfl (gN rfl rfl rfl (gN rfl rfl rfl (gY rfl (pkf rfl rfl rfl rfl (pkf rfl rfl rfl rfl (rbe rfl (by first | exact bt (by omega) | exact bf (by omega) | exact bi (by omega) | exact bn (by omega) | (simp_all; done) | (simp_all; omega)) (.cons rfl (.cons rfl .nil)))))))))))
       · refine gN rfl rfl rfl (gN rfl rfl rfl (gN rfl rfl rfl (gN rfl rfl rfl (gN rfl rfl rfl (gN rfl rfl rfl (pkf rfl rfl rfl rfl (mv rfl rfl (gY rfl (fad rfl fa49_2 rfl (gY rfl (s_fad2 rfl fa47_0 rfl ?_)))))))))))
         refine gY rfl (s_loadB rfl hb1 rfl na45 rfl (gY rfl (lnS rfl Tryd.underlying45 rfl (gY rfl (ne' rfl rfl rfl (gY rfl (mv rfl rfl ?_)))))))
         refine gs 47 rfl (fun g5 => ?_) (fun g5 => ?_)
         · refine gY rfl (fad rfl fa49_2 rfl (gY rfl (s_fad2 rfl fa47_0 rfl (gY rfl (s_loadB rfl hb1 rfl na45 rfl (gY rfl (lnS rfl Tryd.underlying45 rfl (gY rfl (mv rfl rfl (gY rfl (ne' rfl rfl rfl ?_)))))))))))
           exact gY rfl (pkt rfl rfl rfl rfl (pkf rfl rfl rfl rfl (rbe rfl (by first | exact bt (by omega) | exact bf (by omega) | exact bi (by omega) | exact bn (by omega) | (simp_all; done) | (simp_all; omega)) (.cons rfl (.cons rfl .nil)))))
         · exact gN rfl rfl rfl (gN rfl rfl rfl (gN rfl rfl rfl (gN rfl rfl rfl (gN rfl rfl rfl (gN rfl rfl rfl (gY rfl (pkf rfl rfl rfl rfl (pkf rfl rfl rfl rfl (rbe rfl (by first | exact bt (by omega) | exact bf (by omega) | exact bi (by omega) | exact bn (by omega) | (simp_all; done) | (simp_all; omega)) (.cons rfl (.cons rfl .nil)))))))))))
     · refine tn ?_
       refine cd rfl (fun c1 => ?_) (fun c1 => ?_)
       · refine sr (asg rfl rfl (nn (rt (tr (r1 Tryd.results22 rfl ?_)))))
         exact ⟨_, rfl, by rw [mot5 (l := l) (t := t) (r := r) hN (by unfold Edg; omega)], (q1.next q5)⟩
       · have hne : ¬ Edg m := fun e => c1 (by unfold Edg at e; omega)
         refine sk (tn (sq (sr (mv rfl rfl (eq' rfl rfl rfl (nn ?_))))))
         refine cd rfl (fun c2 => ?_) (fun c2 => ?_)
         · refine sr (asg rfl rfl (nn (rt (tr (r1 Tryd.results22 rfl ?_)))))
           exact ⟨_, rfl, by rw [mot1 (l := l) (t := t) (r := r) hN hne (.inl (by omega))], (q1.next q5)⟩
         · refine sk (tn (sr (fad rfl fa49_0 rfl (s_loadBP (vs := [_]) rfl hb1 ag47 rfl rfl (fad rfl fa49_1 rfl (s_loadBP (vs := [_]) rfl hb1 ag47 rfl rfl (fad rfl fa49_2 rfl (s_loadBP (vs := [_]) rfl hb1 ag47 rfl rfl (s_lit (cs := [_, _, _]) (ev3 rfl rfl rfl) bo60 (pok_cons rfl rfl rfl (pok_cons rfl rfl rfl (pok_cons rfl rfl rfl pok_nil))) rfl rfl ?_)))))))))
           refine al zv60 rfl rfl (fun g4 w6 hg4 hb4 q6 z6 => ?_)
           refine s_storeBA rfl rfl hb4 rfl (by first | (simp [Value.oneCell', S]; done) | exact Enc.one _ _) sz60 (fun w7 hb4 q7 z7 => ?_)
           refine kpL [(4, _)] (.cons rfl .nil) (nn (sq (sr (asg rfl rfl (nn (bl ?_))))))
           refine lpK (ι := Nat) [(4, _)] (fun k => [(5, .int .i64 (k : Int))]) (fun k w' => Fr [] w7 w' ∧ k ≤ 3 ∧ ∀ k', k' < k → ∀ row ∈ ((bl3 m l t r).getD k' cq0).2, RowOk15 k' row) (fun k => 3 - k) 0 (.cons rfl (.cons rfl .nil)) ⟨Fr.refl _ _, ⟨Nat.zero_le _, fun j hj => absurd hj (Nat.not_lt_zero j)⟩⟩ ?_
           rintro k w8 ⟨q8, ⟨hk, hall⟩⟩
           have z8 := q8.size
           refine kpC [(4, _), (5, _)] (.cons rfl (.cons rfl .nil)) ?_
           refine sq (sr (mv rfl rfl (lt' rfl rfl rfl (nn ?_))))
           refine cd rfl (fun c3 => ?_) (fun c3 => ?_)
           · replace hm := hm0.ext ((((q1.next q5).next q6).step q7 (by first | (simp; done) | (simp; omega))).next q8)
             obtain ⟨hqS, hqL⟩ := hm.chs3.at (i := k) (show k < 3 by omega)
             obtain ⟨rs, hrs, hqr, hrm⟩ := Sll.opn hqS
             have hrl := sl_len hrs
             have hrM := hrs.len_le
             unfold maxLen at hrM
             have hrs0 := hrs
             have hqr0 := hqr
             refine sk (tn (sq (bl (sr (asg rfl rfl (nn (bl ?_)))))))
             refine lpK (ι := Nat) [(4, _), (5, _)] (fun j => [(6, .int .i64 (j : Int))]) (fun j w' => Fr [] w8 w' ∧ j ≤ rs.length ∧ ∀ a, a < j → RowOk15 k (rs.getD a rq0).2) (fun j => rs.length - j) 0 (.cons rfl (.cons rfl (.cons rfl .nil))) ⟨Fr.refl _ _, ⟨Nat.zero_le _, fun j hj => absurd hj (Nat.not_lt_zero j)⟩⟩ ?_
             rintro j w9 ⟨q9, ⟨hj, hrow⟩⟩
             have z9 := q9.size
             refine kpC [(4, _), (5, _), (6, _)] (.cons rfl (.cons rfl (.cons rfl .nil))) ?_
             refine sq (sr (mv rfl rfl (mv rfl rfl (s_idxA rfl rfl Tryd.underlying60 sz47 (by omega) (by omega) rfl (s_fad2 rfl fa47_0 rfl ?_)))))
             replace hb4 := hb4.ext (q8.next q9)
             refine s_loadB rfl hb4 (bl3_get m l t r (by omega)) na45 rfl (lnS rfl Tryd.underlying45 rfl (lt' rfl rfl rfl (kpL [(4, _), (5, _), (6, _), (75, _)] (.cons rfl (.cons rfl (.cons rfl (.cons rfl .nil)))) (nn ?_))))
             refine cd rfl (fun c4 => ?_) (fun c4 => ?_)
             · replace hqr := hqr0.ext q9
               replace hm := hm0.ext (((((q1.next q5).next q6).step q7 (by first | (simp; done) | (simp; omega))).next q8).next q9)
               have hjl := sl_len (hqr (rs.getD j rq0) (getD_memS (by omega)))
               have hjM := (hqr (rs.getD j rq0) (getD_memS (by omega))).len_le
               unfold maxLen at hjM
               have hrg := hm.rng3 (l := l) (t := t) (r := r) (k := k) (by omega) (rs.getD j rq0).2 (by rw [← hrm]; exact mem_snd (d := rq0) (by omega))
               refine sk (tn (sq (bl (sq (sq ?_)))))
               refine rbo (r := 90) (L' := [(4, _), (5, _), (6, _)]) ((((k : Int) = 1) ∧ (((rs.getD j rq0).1.2.1 : Int) = 0))) (.cons rfl (.cons rfl (.cons rfl .nil))) ?_ ?_
               · refine mv rfl rfl (eq' rfl rfl rfl (mv rfl rfl ?_))
                 refine gs 80 rfl (fun g6 => ?_) (fun g6 => ?_)
                 · refine gY rfl (mv rfl rfl (gY rfl (s_idxA rfl rfl Tryd.underlying60 sz47 (by omega) (by omega) rfl (gY rfl (s_fad2 rfl fa47_0 rfl (gY rfl (s_loadB rfl hb4 (bl3_get m l t r (by omega)) na45 rfl (gY rfl (mv rfl rfl (gY rfl ?_))))))))))
                   replace hrs := hrs0.ext q9
                   refine s_idxL (rq0) rfl hrs rfl er45 (by omega) (by omega) nat_of rfl (fun ad86 hc86 => ?_)
                   exact gY rfl (s_loadC0 rfl (hc86 _ hrs) na61 rfl (gY rfl (lnS rfl Tryd.underlying61 rfl (gY rfl (eq' rfl rfl rfl (pkt rfl rfl rfl rfl (rbe rfl (by first | exact bt (by omega) | exact bf (by omega) | exact bi (by omega) | exact bn (by omega) | (simp_all; done) | (simp_all; omega)) (.cons rfl (.cons rfl (.cons rfl .nil))))))))))
                 · exact gN rfl rfl rfl (gN rfl rfl rfl (gN rfl rfl rfl (gN rfl rfl rfl (gN rfl rfl rfl (gN rfl rfl rfl (gN rfl rfl rfl (gN rfl rfl rfl (gN rfl rfl rfl (pkf rfl rfl rfl rfl (rbe rfl (by first | exact bt (by omega) | exact bf (by omega) | exact bi (by omega) | exact bn (by omega) | (simp_all; done) | (simp_all; omega)) (.cons rfl (.cons rfl (.cons rfl .nil)))))))))))))
               · refine tn ?_
                 refine cd rfl (fun c5 => ?_) (fun c5 => ?_)
                 · refine sr (asg rfl rfl (nn (rt (tr (rb (tr (tr (rb (rb (tr (tr ?_)))))))))))
                   refine rb (tr (r1 Tryd.results22 rfl ?_))
                   exact ⟨_, rfl, by rw [rows_bad hN hne (k := k) (by omega) (row := (rs.getD j rq0).2) (by rw [← hrm]; exact mem_snd (d := rq0) (by omega)) (.inl (by omega))], (((((q1.next q5).next q6).step q7 (by first | (simp; done) | (simp; omega))).next q8).next q9)⟩
                 · refine sk (tn (sr (asg rfl rfl (nn (bl ?_)))))
                   refine lpK (ι := Nat) [(4, _), (5, _), (6, _)] (fun n => [(7, .int .i64 (n : Int))]) (fun n w' => Fr [] w9 w' ∧ n ≤ (rs.getD j rq0).2.length ∧ ∀ a, a < n → okB ((rs.getD j rq0).2.getD a zeroS) = true) (fun n => (rs.getD j rq0).2.length - n) 0 (.cons rfl (.cons rfl (.cons rfl (.cons rfl .nil)))) ⟨Fr.refl _ _, ⟨Nat.zero_le _, fun j hj => absurd hj (Nat.not_lt_zero j)⟩⟩ ?_
                   rintro n w10 ⟨q10, ⟨hn, hst⟩⟩
                   have z10 := q10.size
                   refine kpC [(4, _), (5, _), (6, _), (7, _)] (.cons rfl (.cons rfl (.cons rfl (.cons rfl .nil)))) ?_
                   refine sq (sr (mv rfl rfl (mv rfl rfl (s_idxA rfl rfl Tryd.underlying60 sz47 (by omega) (by omega) rfl (s_fad2 rfl fa47_0 rfl ?_)))))
                   replace hb4 := hb4.ext q10
                   refine s_loadB rfl hb4 (bl3_get m l t r (by omega)) na45 rfl (mv rfl rfl ?_)
                   replace hrs := hrs0.ext (q9.next q10)
                   refine s_idxL (rq0) rfl hrs rfl er45 (by omega) (by omega) nat_of rfl (fun ad97 hc97 => ?_)
                   refine s_loadC0 rfl (hc97 _ hrs) na61 rfl (lnS rfl Tryd.underlying61 rfl (lt' rfl rfl rfl (kpL [(4, _), (5, _), (6, _), (7, _), (100, _)] (.cons rfl (.cons rfl (.cons rfl (.cons rfl (.cons rfl .nil))))) (nn ?_))))
                   refine cd rfl (fun c6 => ?_) (fun c6 => ?_)
                   · refine sk (tn (sq (bl (sr (mv rfl rfl (s_idxA rfl rfl Tryd.underlying60 sz47 (by omega) (by omega) rfl (s_fad2 rfl fa47_0 rfl (s_loadB rfl hb4 (bl3_get m l t r (by omega)) na45 rfl (mv rfl rfl (s_idxL (rq0) rfl hrs rfl er45 (by omega) (by omega) nat_of rfl (fun ad108 hc108 => ?_)))))))))))
                     refine s_loadC0 rfl (hc108 _ hrs) na61 rfl (mv rfl rfl ?_)
                     replace hqr := hqr0.ext (q9.next q10)
                     refine s_idxL (zeroS) rfl (hqr (rs.getD j rq0) (getD_memS (by omega))) rfl el61 (by omega) (by omega) nat_of rfl (fun ad111 hc111 => ?_)
                     refine s_loadA rfl (hc111 _ (hqr (rs.getD j rq0) (getD_memS (by omega)))) ag100 rfl ?_
                     refine cl (ev1 rfl) co42 (valid_ok ((rs.getD j rq0).2.getD n zeroS) _ (hrg _ (getD_memS (by omega))).1 (hrg _ (getD_memS (by omega))).2) rfl ?_
                     rintro _ w11 ⟨rfl, q11⟩
                     have z11 := q11.size
                     refine eq' rfl rfl rfl (kpL [(4, _), (5, _), (6, _), (7, _), (114, _)] (.cons rfl (.cons rfl (.cons rfl (.cons rfl (.cons rfl .nil))))) (nn ?_))
                     refine cd rfl (fun c7 => ?_) (fun c7 => ?_)
                     · refine sr (asg rfl rfl (nn (rt (rb (tr (tr (rb (rb (tr (tr (rb ?_)))))))))))
                       refine rb (tr (tr (rb (tr (r1 Tryd.results22 rfl ?_)))))
                       exact ⟨_, rfl, by rw [rows_bad hN hne (k := k) (by omega) (row := (rs.getD j rq0).2) (by rw [← hrm]; exact mem_snd (d := rq0) (by omega)) (.inr ⟨_, getD_memS (d := zeroS) (show n < (rs.getD j rq0).2.length by omega), fun e => by rw [if_pos e] at c7; cases c7⟩)], (((((((q1.next q5).next q6).step q7 (by first | (simp; done) | (simp; omega))).next q8).next q9).next q10).next q11)⟩
                     · refine sk (bn' (tn (rg (mv rfl rfl (s_add rfl rfl (wi6 (by omega)) rfl (asg rfl rfl (nl ?_)))))))
                       exact lpE (n + 1) (.cons rfl (.cons rfl (.cons rfl (.cons rfl .nil)))) ⟨(q10.next q11), ⟨by omega, all_step hst ((okB_iff _).2 (Classical.not_not.1 fun e => by rw [if_neg e] at c7; exact c7 rfl))⟩⟩ (by omega)
                   · obtain rfl : n = (rs.getD j rq0).2.length := by omega
                     refine ex (te (te (xh (bn' (tn (rg (mv rfl rfl (s_add rfl rfl (wi6 (by omega)) rfl (asg rfl rfl (nl ?_))))))))))
                     exact lpE (j + 1) (.cons rfl (.cons rfl (.cons rfl .nil))) ⟨(q9.next q10), ⟨by omega, all_step hrow ⟨by omega, List.all_eq_true.2 (all_lt (d := zeroS) hst)⟩⟩⟩ (by omega)
             · obtain rfl : j = rs.length := by omega
               refine ex (te (te (xh (bn' (tn (rg (mv rfl rfl (s_add rfl rfl (wi6 (by omega)) rfl (asg rfl rfl (nl ?_))))))))))
               exact lpE (k + 1) (.cons rfl (.cons rfl .nil)) ⟨(q8.next q9), ⟨by omega, all_step hall (by rw [← hrm]; exact all_snd (d := rq0) hrow)⟩⟩ (by omega)
           · obtain rfl : k = 3 := by omega
             refine ex (te (te (xh (tn (sr (asg rfl rfl (nn (rt (r1 Tryd.results22 rfl ?_)))))))))
             exact ⟨_, rfl, by rw [rows_ok hN hne (fun h => c2 (by omega)) hall], ((((q1.next q5).next q6).step q7 (by first | (simp; done) | (simp; omega))).next q8)⟩
end Go.Proofs.YthehggmdcmpjeaaDoor
namespace Go.Proofs.YthehggmdcmpjeaaDoor
open Go.Lw Go.G14
theorem ag49 : AggOf Tryd.prog 49 3 := ⟨fun _ => by kernel_rfl, fun _ => by kernel_rfl⟩
theorem ag51 : AggOf Tryd.prog 51 8 := ⟨fun _ => by kernel_rfl, fun _ => by kernel_rfl⟩
theorem co23 : CallOf Tryd.prog 23 := CallOf.mk' Tryd.func23 (by kernel_rfl) (by kernel_rfl)
theorem co26 : CallOf Tryd.prog 26 := CallOf.mk' Tryd.func26 (by kernel_rfl) (by kernel_rfl)
theorem co27 : CallOf Tryd.prog 27 := CallOf.mk' Tryd.func27 (by kernel_rfl) (by kernel_rfl)
theorem co28 : CallOf Tryd.prog 28 := CallOf.mk' Tryd.func28 (by kernel_rfl) (by kernel_rfl)
theorem el22 : ElemOf Tryd.prog 22 51 encPq 120 := ElemOf.mk' (z := (.agg #[(S []), (.slice none 0 0), (.slice none 0 0), (.slice none 0 0), (.int .i64 0), (.int .i64 0), (.int .i64 0), (.int .i64 0)])) Tryd.underlying22 (by kernel_rfl) rfl
theorem fa24_0 : FieldAt Tryd.prog 24 0 0 := fun _ _ => by kernel_rfl
theorem fa24_1 : FieldAt Tryd.prog 24 1 1 := fun _ _ => by kernel_rfl
theorem fa51_0 : FieldAt Tryd.prog 51 0 0 := fun _ _ => by kernel_rfl
theorem fa51_1 : FieldAt Tryd.prog 51 1 1 := fun _ _ => by kernel_rfl
theorem fa51_2 : FieldAt Tryd.prog 51 2 4 := fun _ _ => by kernel_rfl
theorem fa51_3 : FieldAt Tryd.prog 51 3 5 := fun _ _ => by kernel_rfl
theorem fa51_4 : FieldAt Tryd.prog 51 4 6 := fun _ _ => by kernel_rfl
theorem fa51_5 : FieldAt Tryd.prog 51 5 7 := fun _ _ => by kernel_rfl
theorem na22 : NotAgg Tryd.prog 22 := fun _ => by kernel_rfl
theorem sz51 : SizeOf Tryd.prog 51 8 := fun _ => by kernel_rfl
theorem zv51 (w : World) : (zeroValue 51).run Tryd.prog w = .ok (.agg #[(S []), (.slice none 0 0), (.slice none 0 0), (.slice none 0 0), (.int .i64 0), (.int .i64 0), (.int .i64 0), (.int .i64 0)]) w := by kernel_rfl
theorem right_iff (p : Pc) : rightB p = true ↔ nameB p.nm = true ∧ 1 ≤ p.ba ∧ p.ba ≤ 16 ∧ 0 ≤ p.st ∧ p.st ≤ 4 ∧ 1 ≤ p.up ∧ p.up ≤ 31 ∧ 1 ≤ p.ct ∧ p.ct ≤ 9 := by
  unfold rightB; rw [Bool.and_eq_true, decide_eq_true_eq]
theorem bnot_pos {b : Bool} (h : (!b) = true) : ¬ b = true := by cases b; decide; cases h
theorem bnot_neg {b : Bool} (h : ¬ (!b) = true) : b = true := by cases b; exact absurd rfl h; rfl
section
variable {nm : List UInt8} {qs : List PQ}
abbrev PcAt (qs : List PQ) (i : Nat) : Pc := (qs.getD i pq0).p
theorem pcs_len (qs : List PQ) : (pcs qs).length = qs.length := by simp
theorem gar_a (h : 8 < qs.length) : garE nm (pcs qs) = 3 := by unfold garE; rw [if_pos (by rw [pcs_len]; exact h)]
theorem gar_b (h : ¬ 8 < qs.length) (h2 : qs.length = 0 ∨ ¬ nameB nm = true) : garE nm (pcs qs) = 1 := by
  unfold garE; rw [if_neg (by rw [pcs_len]; exact h), if_pos (by rw [pcs_len]; exact h2.imp id fun e => by cases h : nameB nm; rfl; exact absurd h e)]
theorem gar_nb (h2 : ¬ (qs.length = 0 ∨ ¬ nameB nm = true)) : ¬ ((pcs qs).length = 0 ∨ nameB nm = false) := by
  rw [pcs_len]; exact fun e => h2 (e.imp id fun e h => by rw [e] at h; cases h)
theorem gar_c (h : ¬ 8 < qs.length) (h2 : ¬ (qs.length = 0 ∨ ¬ nameB nm = true)) {i : Nat} (hi : i < qs.length) (hr : ¬ rightB (PcAt qs i) = true) : garE nm (pcs qs) = 1 := by
  unfold garE; rw [if_neg (by rw [pcs_len]; exact h), if_neg (gar_nb h2), if_pos]
  rw [Bool.eq_false_iff]; intro e
  exact hr (List.all_eq_true.1 e _ (List.mem_map.2 ⟨_, getD_memS hi, rfl⟩))
theorem all_right (hr : ∀ j, j < qs.length → rightB (PcAt qs j) = true) : ¬ (pcs qs).all rightB = false := by
  have : (pcs qs).all rightB = true := List.all_eq_true.2 fun p hp => by
    obtain ⟨q, hq, rfl⟩ := List.mem_map.1 hp
    exact all_lt (d := pq0) (p := fun q => rightB q.p = true) hr q hq
  rw [this]; decide
theorem dup_yes {i k : Nat} (hi : i < qs.length) (hk : k < i) (he : (PcAt qs i).nm = (PcAt qs k).nm) : dupB (pcs qs) = true := by
  unfold dupB
  rw [List.any_eq_true]
  refine ⟨i, by rw [pcs_len]; exact List.mem_range.2 hi, ?_⟩
  rw [List.any_eq_true]
  exact ⟨k, List.mem_range.2 hk, by rw [pcs_get, pcs_get]; exact decide_eq_true he⟩
theorem dup_no (h : ∀ i, i < qs.length → ∀ k, k < i → ¬ (PcAt qs i).nm = (PcAt qs k).nm) : ¬ dupB (pcs qs) = true := by
  unfold dupB
  rw [List.any_eq_true]
  rintro ⟨i, hi, h2⟩
  rw [List.any_eq_true] at h2
  obtain ⟨k, hk, h3⟩ := h2
  rw [pcs_len] at hi
  rw [pcs_get, pcs_get] at h3
  exact h i (List.mem_range.1 hi) k (List.mem_range.1 hk) (of_decide_eq_true h3)
theorem gar_d (h : ¬ 8 < qs.length) (h2 : ¬ (qs.length = 0 ∨ ¬ nameB nm = true)) (hr : ∀ j, j < qs.length → rightB (PcAt qs j) = true) (hd : dupB (pcs qs) = true) : garE nm (pcs qs) = 8 := by
  unfold garE; rw [if_neg (by rw [pcs_len]; exact h), if_neg (gar_nb h2), if_neg (all_right hr), if_pos hd]
theorem gar_e (h : ¬ 8 < qs.length) (h2 : ¬ (qs.length = 0 ∨ ¬ nameB nm = true)) (hr : ∀ j, j < qs.length → rightB (PcAt qs j) = true) (hd : ¬ dupB (pcs qs) = true) : garE nm (pcs qs) = motsE (pcs qs) := by
  unfold garE; rw [if_neg (by rw [pcs_len]; exact h), if_neg (gar_nb h2), if_neg (all_right hr), if_neg hd]
theorem mots_at : ∀ {qs : List PQ} {i : Nat}, i < qs.length → (∀ j, j < i → motE (PcAt qs j).mot = 0) → motE (PcAt qs i).mot ≠ 0 → motsE (pcs qs) = motE (PcAt qs i).mot
  | [], i, h, _, _ => by simp at h
  | q :: qs, 0, _, _, h => by show (if motE q.p.mot ≠ 0 then _ else _) = _; rw [if_pos (show motE q.p.mot ≠ 0 from h)]; rfl
  | q :: qs, i + 1, hl, hb, h => by
    have h0 : motE q.p.mot = 0 := hb 0 (by omega)
    show (if motE q.p.mot ≠ 0 then _ else motsE (pcs qs)) = _
    rw [if_neg (by omega)]
    exact mots_at (qs := qs) (i := i) (by simp at hl; omega) (fun j hj => hb (j + 1) (by omega)) h
theorem mots_no : ∀ {qs : List PQ}, (∀ j, j < qs.length → motE (PcAt qs j).mot = 0) → motsE (pcs qs) = 0
  | [], _ => rfl
  | q :: qs, hb => by
    have h0 : motE q.p.mot = 0 := hb 0 (by simp)
    show (if motE q.p.mot ≠ 0 then _ else motsE (pcs qs)) = _
    rw [if_neg (by omega)]
    exact mots_no (qs := qs) (fun j hj => hb (j + 1) (by simp; omega))
theorem take_pq {i k : Nat} (h : k < i) : (qs.take i).getD k pq0 = qs.getD k pq0 := by
  rw [List.getD, List.getD, List.getElem?_take, if_pos h]
end
theorem right_ok (q : PQ) (w0 : World) : Rets Tryd.prog 27 #[.agg #[S q.p.nm, .slice q.l.1 q.l.2.1 q.l.2.2, .slice q.t.1 q.t.2.1 q.t.2.2, .slice q.r.1 q.r.2.1 q.r.2.2, .int .i64 q.p.ba, .int .i64 q.p.st, .int .i64 q.p.up, .int .i64 q.p.ct]] w0 fun v w' => v = .bool (rightB q.p) ∧ Fr [] w0 w' := by
 refine we [(0, .agg #[S q.p.nm, .slice q.l.1 q.l.2.1 q.l.2.2, .slice q.t.1 q.t.2.1 q.t.2.2, .slice q.r.1 q.r.2.1 q.r.2.2, .int .i64 q.p.ba, .int .i64 q.p.st, .int .i64 q.p.up, .int .i64 q.p.ct])] Tryd.func27 rfl Tryd.ntmps27 rfl (.cons rfl .nil) ?_
 refine sr (bx rfl rfl rfl (fun g1 w1 hg1 hb1 q1 z1 => ?_))
 refine asg rfl rfl (nn (sq ?_))
 refine rboF (r := 2) (L' := []) ((((((nameB q.p.nm = true) ∧ (1 ≤ q.p.ba ∧ q.p.ba ≤ 16)) ∧ (0 ≤ q.p.st ∧ q.p.st ≤ 4)) ∧ (1 ≤ q.p.up ∧ q.p.up ≤ 31)) ∧ (1 ≤ q.p.ct ∧ q.p.ct ≤ 9))) .nil ?_ ?_
 · refine fad rfl fa51_0 rfl (s_loadB rfl hb1 rfl na9 rfl ?_)
   refine cl (ev1 rfl) co26 (named_ok _ _) rfl ?_
   rintro _ w2 ⟨rfl, q2⟩
   have z2 := q2.size
   refine mv rfl rfl ?_
   refine gs 6 rfl (fun g0 => ?_) (fun g0 => ?_)
   · refine gY rfl (fad rfl fa51_2 rfl (gY rfl ?_))
     replace hb1 := hb1.ext q2
     refine s_loadB rfl hb1 rfl na3 rfl (gY rfl ?_)
     refine cl (ev3 rfl rfl rfl) co23 (within_ok _ _ _ _) rfl ?_
     rintro _ w3 ⟨rfl, q3⟩
     have z3 := q3.size
     refine pkt rfl rfl rfl rfl (mv rfl rfl ?_)
     refine gs 11 rfl (fun g1 => ?_) (fun g1 => ?_)
     · refine gY rfl (fad rfl fa51_3 rfl (gY rfl ?_))
       replace hb1 := hb1.ext q3
       refine s_loadB rfl hb1 rfl na3 rfl (gY rfl ?_)
       refine cl (ev3 rfl rfl rfl) co23 (within_ok _ _ _ _) rfl ?_
       rintro _ w4 ⟨rfl, q4⟩
       have z4 := q4.size
       refine pkt rfl rfl rfl rfl (mv rfl rfl ?_)
       refine gs 16 rfl (fun g2 => ?_) (fun g2 => ?_)
       · refine gY rfl (fad rfl fa51_4 rfl (gY rfl ?_))
         replace hb1 := hb1.ext q4
         refine s_loadB rfl hb1 rfl na3 rfl (gY rfl ?_)
         refine cl (ev3 rfl rfl rfl) co23 (within_ok _ _ _ _) rfl ?_
         rintro _ w5 ⟨rfl, q5⟩
         have z5 := q5.size
         refine pkt rfl rfl rfl rfl (mv rfl rfl ?_)
         refine gs 21 rfl (fun g3 => ?_) (fun g3 => ?_)
         · refine gY rfl (fad rfl fa51_5 rfl (gY rfl ?_))
           replace hb1 := hb1.ext q5
           refine s_loadB rfl hb1 rfl na3 rfl (gY rfl ?_)
           refine cl (ev3 rfl rfl rfl) co23 (within_ok _ _ _ _) rfl ?_
           rintro _ w6 ⟨rfl, q6⟩
           have z6 := q6.size
           exact pkt rfl rfl rfl rfl (asg rfl rfl (rbeF rfl (by first | exact bt (by omega) | exact bf (by omega) | exact bi (by omega) | exact bn (by omega) | (simp_all; done) | (simp_all; omega)) .nil ((((q2.next q3).next q4).next q5).next q6)))
         · exact gN rfl rfl rfl (gN rfl rfl rfl (gN rfl rfl rfl (pkf rfl rfl rfl rfl (asg rfl rfl (rbeF rfl (by first | exact bt (by omega) | exact bf (by omega) | exact bi (by omega) | exact bn (by omega) | (simp_all; done) | (simp_all; omega)) .nil (((q2.next q3).next q4).next q5))))))
       · exact gN rfl rfl rfl (gN rfl rfl rfl (gN rfl rfl rfl (pkf rfl rfl rfl rfl (mv rfl rfl (gN rfl rfl rfl (gN rfl rfl rfl (gN rfl rfl rfl (pkf rfl rfl rfl rfl (asg rfl rfl (rbeF rfl (by first | exact bt (by omega) | exact bf (by omega) | exact bi (by omega) | exact bn (by omega) | (simp_all; done) | (simp_all; omega)) .nil ((q2.next q3).next q4)))))))))))
     · refine gN rfl rfl rfl (gN rfl rfl rfl (gN rfl rfl rfl (pkf rfl rfl rfl rfl (mv rfl rfl (gN rfl rfl rfl (gN rfl rfl rfl (gN rfl rfl rfl (pkf rfl rfl rfl rfl (mv rfl rfl (gN rfl rfl rfl (gN rfl rfl rfl ?_)))))))))))
       exact gN rfl rfl rfl (pkf rfl rfl rfl rfl (asg rfl rfl (rbeF rfl (by first | exact bt (by omega) | exact bf (by omega) | exact bi (by omega) | exact bn (by omega) | (simp_all; done) | (simp_all; omega)) .nil (q2.next q3))))
   · refine gN rfl rfl rfl (gN rfl rfl rfl (gN rfl rfl rfl (pkf rfl rfl rfl rfl (mv rfl rfl (gN rfl rfl rfl (gN rfl rfl rfl (gN rfl rfl rfl (pkf rfl rfl rfl rfl (mv rfl rfl (gN rfl rfl rfl (gN rfl rfl rfl ?_)))))))))))
     exact gN rfl rfl rfl (pkf rfl rfl rfl rfl (mv rfl rfl (gN rfl rfl rfl (gN rfl rfl rfl (gN rfl rfl rfl (pkf rfl rfl rfl rfl (asg rfl rfl (rbeF rfl (by first | exact bt (by omega) | exact bf (by omega) | exact bi (by omega) | exact bn (by omega) | (simp_all; done) | (simp_all; omega)) .nil q2))))))))
 · intro w7 q7; have z7 := q7.size
   refine tn (rt (r1 Tryd.results27 rfl ?_))
   exact ⟨_, rfl, congrArg Value.bool (by rw [Bool.eq_iff_iff, decide_eq_true_iff, right_iff]; exact ⟨fun ⟨⟨⟨⟨a, b⟩, c⟩, d⟩, e⟩ => ⟨a, by omega⟩, fun ⟨a, b⟩ => ⟨⟨⟨⟨a, by omega⟩, by omega⟩, by omega⟩, by omega⟩⟩), (q1.next q7)⟩
set_option maxHeartbeats 1000000 in
theorem gcheck_ok (nm : List UInt8) (v : Value) (qs : List PQ) (w0 : World) (hs : Sl encPq w0 v qs) (hq : PcsQ w0 qs) : Rets Tryd.prog 10 #[.agg #[S nm, v]] w0 fun r w' => r = .int .i64 (garE nm (pcs qs)) ∧ Fr [] w0 w' := by
 obtain ⟨A, c, rfl, hcc, hM, hA⟩ := id hs
 clear hA
 unfold maxLen at hM
 refine we [(0, .agg #[S nm, .slice A qs.length c])] Tryd.func10 rfl Tryd.ntmps10 rfl (.cons rfl .nil) ?_
 have hs0 := hs
 have hq0 := hq
 refine sr (bx rfl rfl rfl (fun g1 w1 hg1 hb1 q1 z1 => ?_))
 refine asg rfl rfl (nn (sq (sr (fad rfl fa24_1 rfl (s_loadB rfl hb1 rfl na22 rfl (lnS rfl Tryd.underlying22 rfl (gt' rfl rfl rfl (nn ?_))))))))
 refine cd rfl (fun c0 => ?_) (fun c0 => ?_)
 · refine sr (asg rfl rfl (nn (rt (tr (r1 Tryd.results10 rfl ?_)))))
   exact ⟨_, rfl, by rw [gar_a (by omega)], q1⟩
 · refine sk (tn (sq (sq ?_)))
   refine rboF (r := 25) (L' := [(1, _)]) ((((qs.length : Int) = 0) ∨ (¬ (nameB nm = true)))) (.cons rfl .nil) ?_ ?_
   · refine fad rfl fa24_1 rfl (s_loadB rfl hb1 rfl na22 rfl (lnS rfl Tryd.underlying22 rfl (eq' rfl rfl rfl (mv rfl rfl ?_))))
     refine gs 20 rfl (fun g0 => ?_) (fun g0 => ?_)
     · exact gN rfl rfl rfl (gN rfl rfl rfl (gN rfl rfl rfl (gN rfl rfl rfl (pkt rfl rfl rfl rfl (rbeF rfl (by first | exact bt (by omega) | exact bf (by omega) | exact bi (by omega) | exact bn (by omega) | (simp_all; done) | (simp_all; omega)) (.cons rfl .nil) (Fr.refl _ _))))))
     · refine gY rfl (fad rfl fa24_0 rfl (gY rfl (s_loadB rfl hb1 rfl na9 rfl (gY rfl ?_))))
       refine cl (ev1 rfl) co26 (named_ok _ _) rfl ?_
       rintro _ w2 ⟨rfl, q2⟩
       have z2 := q2.size
       exact gY rfl (nt' rfl rfl (pkf rfl rfl rfl rfl (rbeF rfl (by first | exact bt (by omega) | exact bf (by omega) | exact bi (by omega) | exact bn (by omega) | (simp_all; done) | (simp_all; omega)) (.cons rfl .nil) q2)))
   · intro w3 q3; have z3 := q3.size
     refine tn ?_
     refine cd rfl (fun c1 => ?_) (fun c1 => ?_)
     · refine sr (asg rfl rfl (nn (rt (tr (r1 Tryd.results10 rfl ?_)))))
       exact ⟨_, rfl, by rw [gar_b (by omega) (by rcases c1 with h | h; exact .inl (by omega); exact .inr h)], (q1.next q3)⟩
     · refine sk (tn (sq (sr (fad rfl fa24_1 rfl ?_))))
       replace hb1 := hb1.ext q3
       refine s_loadB rfl hb1 rfl na22 rfl (lnS rfl Tryd.underlying22 rfl (mv rfl rfl (nn (bl ?_))))
       refine lpK (ι := Nat) [(1, _), (27, _), (28, _)] (fun i => [(29, .int .i64 (i : Int))]) (fun i w' => Fr [] w3 w' ∧ i ≤ qs.length ∧ ∀ j, j < i → rightB (PcAt qs j) = true) (fun i => qs.length - i) 0 (.cons rfl (.cons rfl (.cons rfl (.cons rfl .nil)))) ⟨Fr.refl _ _, ⟨Nat.zero_le _, fun j hj => absurd hj (Nat.not_lt_zero j)⟩⟩ ?_
       rintro i w4 ⟨q4, ⟨hi, hr⟩⟩
       have z4 := q4.size
       refine kpC [(1, _), (27, _), (28, _), (29, _)] (.cons rfl (.cons rfl (.cons rfl (.cons rfl .nil)))) ?_
       refine sr (lt' rfl rfl rfl (nn (sq ?_)))
       refine cd rfl (fun c2 => ?_) (fun c2 => ?_)
       · refine sk (tn (sq (bl (sr ?_))))
         replace hs := hs0.ext ((q1.next q3).next q4)
         refine s_idxL (pq0) rfl hs rfl el22 (by omega) (by omega) nat_of rfl (fun ad31 hc31 => ?_)
         refine s_loadA rfl (hc31 _ hs) ag51 rfl (al zv51 rfl rfl (fun g4 w5 hg4 hb4 q5 z5 => ?_))
         refine s_storeBA rfl rfl hb4 rfl (by first | (simp [Value.oneCell', S]; done) | exact Enc.one _ _) sz51 (fun w6 hb4 q6 z6 => ?_)
         refine nn (sr (s_loadBA rfl hb4 ag51 rfl ?_))
         refine cl (ev1 rfl) co27 (right_ok (qs.getD i pq0) _) rfl ?_
         rintro _ w7 ⟨rfl, q7⟩
         have z7 := q7.size
         refine nt' rfl rfl (nn ?_)
         refine cd rfl (fun c3 => ?_) (fun c3 => ?_)
         · refine sr (asg rfl rfl (nn (rt (rb (tr (tr (rb (tr (r1 Tryd.results10 rfl ?_)))))))))
           exact ⟨_, rfl, by rw [gar_c (by omega) (fun e => c1 (by rcases e with h | h; exact .inl (by omega); exact .inr h)) (i := i) (by omega) (bnot_pos c3)], (((((q1.next q3).next q4).next q5).step q6 (by first | (simp; done) | (simp; omega))).next q7)⟩
         · refine sk (bn' (tn (rg (s_add rfl rfl (wi6 (by omega)) rfl (mv rfl rfl (nl ?_))))))
           exact lpE (i + 1) (.cons rfl (.cons rfl (.cons rfl (.cons rfl .nil)))) ⟨(((q4.next q5).step q6 (by first | (simp; done) | (simp; omega))).next q7), ⟨by omega, all_step hr (bnot_neg c3)⟩⟩ (by omega)
       · obtain rfl : i = qs.length := by omega
         refine ex (te (te (xh (tn (sq (sr (fad rfl fa24_1 rfl ?_)))))))
         replace hb1 := hb1.ext q4
         refine s_loadB rfl hb1 rfl na22 rfl (lnS rfl Tryd.underlying22 rfl (mv rfl rfl (nn (bl ?_))))
         refine lpK (ι := Nat) [(1, _), (38, _), (39, _)] (fun i => [(40, .int .i64 (i : Int))]) (fun i w' => Fr [] w4 w' ∧ i ≤ qs.length ∧ ∀ a, a < i → ∀ b, b < a → ¬ (PcAt qs a).nm = (PcAt qs b).nm) (fun i => qs.length - i) 0 (.cons rfl (.cons rfl (.cons rfl (.cons rfl .nil)))) ⟨Fr.refl _ _, ⟨Nat.zero_le _, fun j hj => absurd hj (Nat.not_lt_zero j)⟩⟩ ?_
         rintro i w8 ⟨q8, ⟨hi, hd⟩⟩
         have z8 := q8.size
         refine kpC [(1, _), (38, _), (39, _), (40, _)] (.cons rfl (.cons rfl (.cons rfl (.cons rfl .nil)))) ?_
         refine sr (lt' rfl rfl rfl (nn (sq ?_)))
         refine cd rfl (fun c4 => ?_) (fun c4 => ?_)
         · refine sk (tn (sq (bl (sr (mv rfl rfl ?_)))))
           replace hs := hs0.ext (((q1.next q3).next q4).next q8)
           refine s_idxL (pq0) rfl hs rfl el22 (by omega) (by omega) nat_of rfl (fun ad43 hc43 => ?_)
           refine s_loadA rfl (hc43 _ hs) ag51 rfl (al zv51 rfl rfl (fun g6 w9 hg6 hb6 q9 z9 => ?_))
           refine asg rfl rfl (s_storeBA rfl rfl hb6 rfl (by first | (simp [Value.oneCell', S]; done) | exact Enc.one _ _) sz51 (fun w10 hb6 q10 z10 => ?_))
           refine nn (sr (fad rfl fa24_1 rfl ?_))
           replace hb1 := (hb1.ext (q8.next q9)).fr q10 (by first | (simp; done) | (simp; omega) | (simp [blks]; done) | (simp [blks]; omega))
           refine s_loadB rfl hb1 rfl na22 rfl (mv rfl rfl (s_sl_h (p := i) rfl rfl el22 (by omega) (by omega) (by omega) rfl (lnS rfl Tryd.underlying22 rfl (mv rfl rfl (nn (bl ?_))))))
           have htl : (qs.take i).length = i := by rw [List.length_take]; omega
           refine lpK (ι := Nat) [(1, _), (6, _), (38, _), (39, _), (40, _), (48, _), (49, _)] (fun k => [(50, .int .i64 (k : Int))]) (fun k w' => Fr [] w10 w' ∧ k ≤ i ∧ ∀ b, b < k → ¬ (PcAt qs i).nm = (PcAt qs b).nm) (fun k => i - k) 0 (.cons rfl (.cons rfl (.cons rfl (.cons rfl (.cons rfl (.cons rfl (.cons rfl (.cons rfl .nil)))))))) ⟨Fr.refl _ _, ⟨Nat.zero_le _, fun j hj => absurd hj (Nat.not_lt_zero j)⟩⟩ ?_
           rintro k w11 ⟨q11, ⟨hk, hn⟩⟩
           have z11 := q11.size
           refine kpC [(1, _), (6, _), (38, _), (39, _), (40, _), (48, _), (49, _), (50, _)] (.cons rfl (.cons rfl (.cons rfl (.cons rfl (.cons rfl (.cons rfl (.cons rfl (.cons rfl .nil)))))))) ?_
           refine sr (lt' rfl rfl rfl (nn (sq ?_)))
           refine cd rfl (fun c5 => ?_) (fun c5 => ?_)
           · refine sk (tn (sq (bl (sr ?_))))
             replace hs := hs0.ext ((((((q1.next q3).next q4).next q8).next q9).step q10 (by first | (simp; done) | (simp; omega))).next q11)
             refine s_idxL (pq0) rfl (hs.take rfl (m := i) (B := A) (by omega) (by omega) (by unfold maxLen; omega) (fun _ => rfl)) rfl el22 (by omega) (by omega) nat_of rfl (fun ad52 hc52 => ?_)
             refine s_loadA rfl (hc52 _ (hs.take rfl (m := i) (B := A) (by omega) (by omega) (by unfold maxLen; omega) (fun _ => rfl))) ag51 rfl (al zv51 rfl rfl (fun g8 w12 hg8 hb8 q12 z12 => ?_))
             refine s_storeBA rfl rfl hb8 rfl (by first | (simp [Value.oneCell', S]; done) | exact Enc.one _ _) sz51 (fun w13 hb8 q13 z13 => ?_)
             refine nn (sr (fad rfl fa51_0 rfl ?_))
             replace hb6 := (hb6.ext (q11.next q12)).fr q13 (by first | (simp; done) | (simp; omega) | (simp [blks]; done) | (simp [blks]; omega))
             refine s_loadB rfl hb6 rfl na9 rfl (fad rfl fa51_0 rfl (s_loadB rfl hb8 rfl na9 rfl (s_eqs rfl rfl rfl (nn ?_))))
             refine cd rfl (fun c6 => ?_) (fun c6 => ?_)
             · refine sr (asg rfl rfl (kpL [(2, _)] (.cons rfl .nil) (nn (rt (rb (tr (tr (rb (rb (tr (tr ?_)))))))))))
               refine rb (tr (r1 Tryd.results10 rfl ?_))
               exact ⟨_, rfl, by rw [gar_d (by omega) (fun e => c1 (by rcases e with h | h; exact .inl (by omega); exact .inr h)) hr (dup_yes (i := i) (k := k) (by omega) (by omega) (by rw [take_pq (by omega)] at c6; exact c6))], ((((((((q1.next q3).next q4).next q8).next q9).step q10 (by first | (simp; done) | (simp; omega))).next q11).next q12).step q13 (by first | (simp; done) | (simp; omega)))⟩
             · refine sk (bn' (tn (rg (s_add rfl rfl (wi6 (by omega)) rfl (mv rfl rfl (nl ?_))))))
               exact lpE (k + 1) (.cons rfl (.cons rfl (.cons rfl (.cons rfl (.cons rfl (.cons rfl (.cons rfl (.cons rfl .nil)))))))) ⟨((q11.next q12).step q13 (by first | (simp; done) | (simp; omega))), ⟨by omega, all_step hn (by rw [take_pq (by omega)] at c6; exact c6)⟩⟩ (by omega)
           · obtain rfl : i = k := by omega
             refine ex (te (te (xh (bn' (tn (rg (s_add rfl rfl (wi6 (by omega)) rfl (mv rfl rfl (kpL [(1, _), (38, _), (39, _), (40, _)] (.cons rfl (.cons rfl (.cons rfl (.cons rfl .nil)))) (nl ?_))))))))))
             exact lpE (i + 1) (.cons rfl (.cons rfl (.cons rfl (.cons rfl .nil)))) ⟨(((q8.next q9).step q10 (by first | (simp; done) | (simp; omega))).next q11), ⟨by omega, all_step hd hn⟩⟩ (by omega)
         · obtain rfl : i = qs.length := by omega
           refine ex (te (te (xh (tn (sq (sr (fad rfl fa24_1 rfl ?_)))))))
           replace hb1 := hb1.ext q8
           refine s_loadB rfl hb1 rfl na22 rfl (lnS rfl Tryd.underlying22 rfl (mv rfl rfl (kpL [(62, _), (63, _), (64, _)] (.cons rfl (.cons rfl (.cons rfl .nil))) (nn (bl ?_)))))
           refine lpK (ι := Nat) [(62, _), (63, _)] (fun i => [(64, .int .i64 (i : Int))]) (fun i w' => Fr [] w8 w' ∧ i ≤ qs.length ∧ ∀ a, a < i → motE (PcAt qs a).mot = 0) (fun i => qs.length - i) 0 (.cons rfl (.cons rfl (.cons rfl .nil))) ⟨Fr.refl _ _, ⟨Nat.zero_le _, fun j hj => absurd hj (Nat.not_lt_zero j)⟩⟩ ?_
           rintro i w14 ⟨q14, ⟨hi, hm⟩⟩
           have z14 := q14.size
           refine kpC [(62, _), (63, _), (64, _)] (.cons rfl (.cons rfl (.cons rfl .nil))) ?_
           refine sr (lt' rfl rfl rfl (nn (sq ?_)))
           refine cd rfl (fun c7 => ?_) (fun c7 => ?_)
           · refine sk (tn (sq (bl (sr ?_))))
             replace hs := hs0.ext ((((q1.next q3).next q4).next q8).next q14)
             refine s_idxL (pq0) rfl hs rfl el22 (by omega) (by omega) nat_of rfl (fun ad66 hc66 => ?_)
             refine s_loadA rfl (hc66 _ hs) ag51 rfl (al zv51 rfl rfl (fun g10 w15 hg10 hb10 q15 z15 => ?_))
             refine s_storeBA rfl rfl hb10 rfl (by first | (simp [Value.oneCell', S]; done) | exact Enc.one _ _) sz51 (fun w16 hb10 q16 z16 => ?_)
             refine nn (sr (fad rfl fa51_1 rfl (s_loadBP (vs := [_, _, _]) rfl hb10 ag49 rfl rfl ?_)))
             replace hq := hq0.ext ((((((q1.next q3).next q4).next q8).next q14).next q15).step q16 (by first | (simp; done) | (simp; omega)))
             refine cl (ev1 rfl) co28 (mcheck_ok (PcAt qs i).mot _ _ _ _ (hq.at (by omega))) rfl ?_
             rintro _ w17 ⟨rfl, q17⟩
             have z17 := q17.size
             refine asg rfl rfl (nn (sr (mv rfl rfl (ne' rfl rfl rfl (nn ?_)))))
             refine cd rfl (fun c8 => ?_) (fun c8 => ?_)
             · refine sr (mv rfl rfl (asg rfl rfl (kpL [(2, _)] (.cons rfl .nil) (nn (rt (rb (tr (tr (rb (tr (r1 Tryd.results10 rfl ?_)))))))))))
               exact ⟨_, rfl, by rw [gar_e (by omega) (fun e => c1 (by rcases e with h | h; exact .inl (by omega); exact .inr h)) hr (dup_no hd), mots_at (i := i) (by omega) hm (by omega)], (((((((q1.next q3).next q4).next q8).next q14).next q15).step q16 (by first | (simp; done) | (simp; omega))).next q17)⟩
             · refine sk (bn' (tn (rg (s_add rfl rfl (wi6 (by omega)) rfl (mv rfl rfl (nl ?_))))))
               exact lpE (i + 1) (.cons rfl (.cons rfl (.cons rfl .nil))) ⟨(((q14.next q15).step q16 (by first | (simp; done) | (simp; omega))).next q17), ⟨by omega, all_step hm (by omega)⟩⟩ (by omega)
           · obtain rfl : i = qs.length := by omega
             refine ex (te (te (xh (tn (sr (asg rfl rfl (nn (rt (r1 Tryd.results10 rfl ?_)))))))))
             exact ⟨_, rfl, by rw [gar_e (by omega) (fun e => c1 (by rcases e with h | h; exact .inl (by omega); exact .inr h)) hr (dup_no hd), mots_no hm], ((((q1.next q3).next q4).next q8).next q14)⟩
end Go.Proofs.YthehggmdcmpjeaaDoor
namespace Go.G14
open Go.Lw
def wide (c : RowL) : Bool := c.any fun r => decide (16 < r.length)
theorem wide_iff (c : RowL) : wide c = true ↔ ∃ r ∈ c, 16 < r.length := by unfold wide; simp
theorem wide_no {c : RowL} (h : ¬ wide c = true) : ∀ r ∈ c, r.length ≤ 16 := fun r hr => by
  rcases Nat.lt_or_ge 16 r.length with h1 | h1
  · exact absurd ((wide_iff c).2 ⟨r, hr, h1⟩) h
  · exact h1
theorem large_wide (c : RowL) : largeB c = (decide (31 < c.length) || wide c) := rfl
def besR (qs : List CQ) (i : Nat) : List Stitch := qs.flatMap fun q => q.2.getD i []
def besS (qs : List CQ) (h : Nat) : RowL := (List.range h).map (besR qs)
def besE (qs : List CQ) (h : Nat) : Int := if wide (besS qs h) = true then 3 else 0
theorem bes_bad {qs : List CQ} {h i : Nat} (hi : i < h) (hw : 16 < (besR qs i).length) : besE qs h = 3 := by
  rw [besE, if_pos]; exact (wide_iff _).2 ⟨_, List.mem_map.2 ⟨i, List.mem_range.2 hi, rfl⟩, hw⟩
theorem bes_good {qs : List CQ} {h : Nat} (hw : ∀ i, i < h → ¬ 16 < (besR qs i).length) : besE qs h = 0 := by
  rw [besE, if_neg]
  rw [wide_iff]; rintro ⟨r, hr, h2⟩
  obtain ⟨i, hi, rfl⟩ := List.mem_map.1 hr
  exact hw i (List.mem_range.1 hi) h2
theorem flat_snd {ps : List RQ} {l : List (List Stitch)} (h : ps.map Prod.snd = l) : ps.flatMap Prod.snd = l.flatten := by
  rw [List.flatMap_def, h]
theorem bes_flat {qs : List CQ} {ps : List RQ} {i : Nat} (h : ps.map Prod.snd = qs.map fun q => q.2.getD i []) : ps.flatMap Prod.snd = besR qs i := by
  rw [flat_snd h, besR, List.flatMap_def]
theorem take_map {α β : Type} (f : α → β) (l : List α) (i : Nat) (d : α) (h : i < l.length) : (l.take (i + 1)).map f = (l.take i).map f ++ [f (l.getD i d)] := by
  rw [List.take_add_one, List.getElem?_eq_getElem h, List.map_append, List.getD, List.getElem?_eq_getElem h]; rfl
theorem range_map_succ {β : Type} (f : Nat → β) (i : Nat) : (List.range (i + 1)).map f = (List.range i).map f ++ [f i] := by
  rw [List.range_succ, List.map_append]; rfl
theorem part_le {qs : List CQ} {i j : Nat} (hw : ∀ q ∈ qs, ∀ r ∈ q.2, r.length ≤ 16) : (((qs.take j).map fun q => q.2.getD i []).flatten).length ≤ 16 * j := by
  induction j with
  | zero => simp
  | succ j ih =>
    by_cases h : j < qs.length
    · rw [take_map _ qs j cq0 h, List.flatten_append, List.length_append]
      have : ((qs.getD j cq0).2.getD i []).length ≤ 16 := by
        rcases Nat.lt_or_ge i (qs.getD j cq0).2.length with h1 | h1
        · exact hw _ (getD_memS h) _ (getD_memS h1)
        · rw [List.getD, List.getElem?_eq_none h1]; simp
      simp only [List.flatten_cons, List.flatten_nil, List.append_nil]; omega
    · rw [List.take_of_length_le (by omega)] at ih ⊢; omega
/-! The block of a motif. -/
def tilesL (m : Mot) (l t r : SV) (n : Nat) : List CQ := edgeL (l, m.L) ++ (List.replicate n (t, m.T) ++ edgeL (r, m.R))
def blkE (m : Mot) (n : Nat) : Int := if 16 < n then 3 else if wide (sideM m n) = true then 3 else 0
theorem edge_flat (q : CQ) (i : Nat) : ((edgeL q).flatMap fun q => q.2.getD i []) = q.2.getD i [] := by
  unfold edgeL
  split
  · rename_i h; rw [List.length_eq_zero_iff.1 h]; rfl
  · simp
theorem tiles_row (m : Mot) (l t r : SV) (n i : Nat) : besR (tilesL m l t r n) i = sideR m n i := by
  unfold besR tilesL sideR
  rw [List.flatMap_append, List.flatMap_append, edge_flat, edge_flat]
  congr 2
  induction n with
  | zero => rfl
  | succ n ih => rw [List.replicate_succ, List.flatMap_cons, ih, List.replicate_succ, List.flatten_cons]
theorem tiles_bes (m : Mot) (l t r : SV) (n : Nat) : besS (tilesL m l t r n) m.T.length = sideM m n := by
  unfold besS sideM; exact List.map_congr_left fun i _ => tiles_row m l t r n i
theorem edge_len (q : CQ) : (edgeL q).length ≤ 1 := by unfold edgeL; split <;> simp
theorem tiles_len (m : Mot) (l t r : SV) (n : Nat) : n ≤ (tilesL m l t r n).length ∧ (tilesL m l t r n).length ≤ n + 2 := by
  have h1 := edge_len (l, m.L)
  have h2 := edge_len (r, m.R)
  unfold tilesL
  simp only [List.length_append, List.length_replicate]; omega
theorem large_len {c : RowL} (h : largeB c = false) : c.length ≤ 31 ∧ ∀ r ∈ c, r.length ≤ 16 := by
  rw [large_wide, Bool.or_eq_false_iff, decide_eq_false_iff_not] at h
  exact ⟨by omega, wide_no (by rw [h.2]; decide)⟩
theorem mot_all {m : Mot} (h : motE m = 0) : largeB m.L = false ∧ largeB m.T = false ∧ largeB m.R = false ∧ (m.L.length = 0 ∨ m.L.length = m.T.length) ∧ (m.R.length = 0 ∨ m.R.length = m.T.length) ∧ 1 ≤ m.T.length ∧ (∀ i, i < m.T.length → m.T.getD i [] ≠ []) := by
  have ht := mot_tile h
  unfold motE at h
  split at h
  · omega
  split at h
  · omega
  · rename_i h1 h2
    refine ⟨?_, ?_, ?_, by omega, by omega, ht.1, ht.2.1⟩
    · cases e : largeB m.L; rfl; exact absurd (.inl e) h1
    · cases e : largeB m.T; rfl; exact absurd (.inr (.inl e)) h1
    · cases e : largeB m.R; rfl; exact absurd (.inr (.inr e)) h1
theorem tiles_mem {m : Mot} {l t r : SV} {n : Nat} {q : CQ} (hq : q ∈ tilesL m l t r n) : (q = (l, m.L) ∧ m.L.length ≠ 0) ∨ q = (t, m.T) ∨ (q = (r, m.R) ∧ m.R.length ≠ 0) := by
  unfold tilesL at hq
  rw [List.mem_append, List.mem_append] at hq
  have he : ∀ z : CQ, q ∈ edgeL z → q = z ∧ z.2.length ≠ 0 := by
    intro z hz
    unfold edgeL at hz
    split at hz
    · cases hz
    · exact ⟨List.mem_singleton.1 hz, by assumption⟩
  rcases hq with hq | hq | hq
  · exact .inl (he _ hq)
  · exact .inr (.inl (List.eq_of_mem_replicate hq))
  · exact .inr (.inr (he _ hq))
theorem tiles_ok {m : Mot} {l t r : SV} {n : Nat} (h : motE m = 0) : (∀ q ∈ tilesL m l t r n, q.2.length = m.T.length) ∧ ∀ q ∈ tilesL m l t r n, ∀ x ∈ q.2, x.length ≤ 16 := by
  obtain ⟨a1, a2, a3, a4, a5, _⟩ := mot_all h
  refine ⟨fun q hq => ?_, fun q hq => ?_⟩
  · rcases tiles_mem hq with ⟨rfl, h1⟩ | rfl | ⟨rfl, h1⟩
    · exact a4.resolve_left h1
    · rfl
    · exact a5.resolve_left h1
  · rcases tiles_mem hq with ⟨rfl, _⟩ | rfl | ⟨rfl, _⟩
    · exact (large_len a1).2
    · exact (large_len a2).2
    · exact (large_len a3).2
theorem tiles_chs {w : World} {m : Mot} {l t r : SV} {n : Nat} (hm : MotAt w m l t r) : ChsQ w (tilesL m l t r n) := fun q hq => by
  rcases tiles_mem hq with ⟨rfl, _⟩ | rfl | ⟨rfl, _⟩
  · exact hm.L
  · exact hm.T
  · exact hm.R
/-! Blocks above each other. -/
def abvE (qs : List CQ) : Int := if ¬ (∀ q ∈ qs, largeB q.2 = false) then 3 else if 31 < (qs.flatMap Prod.snd).length then 3 else 0
theorem rep_flat (q : CQ) : ∀ n, (List.replicate n q).flatMap Prod.snd = (List.replicate n q.2).flatten
  | 0 => rfl
  | n + 1 => by rw [List.replicate_succ, List.flatMap_cons, rep_flat q n, List.replicate_succ, List.flatten_cons]
theorem side_wide {m : Mot} {n up : Nat} (hu : 1 ≤ up) : wide (stackM m n up) = wide (sideM m n) := by
  rw [Bool.eq_iff_iff, wide_iff, wide_iff]
  constructor
  · rintro ⟨r, hr, h⟩
    obtain ⟨c, hc, hr⟩ := List.mem_flatten.1 hr
    rw [List.eq_of_mem_replicate hc] at hr
    exact ⟨r, hr, h⟩
  · rintro ⟨r, hr, h⟩
    exact ⟨r, List.mem_flatten.2 ⟨_, List.mem_replicate.2 ⟨by omega, rfl⟩, hr⟩, h⟩
theorem flat_rep_len {α : Type} (a : List α) : ∀ n : Nat, (List.replicate n a).flatten.length = n * a.length
  | 0 => by simp
  | n + 1 => by rw [List.replicate_succ, List.flatten_cons, List.length_append, flat_rep_len a n, Nat.add_mul]; omega
theorem side_long {m : Mot} {n : Nat} (h : motE m = 0) (hn : 16 < n) : wide (sideM m n) = true := by
  obtain ⟨_, _, _, _, _, t1, t2⟩ := mot_all h
  refine (wide_iff _).2 ⟨sideR m n 0, List.mem_map.2 ⟨0, List.mem_range.2 (by omega), rfl⟩, ?_⟩
  unfold sideR
  rw [List.length_append, List.length_append, flat_rep_len]
  have : 1 ≤ (m.T.getD 0 []).length := List.length_pos_iff.2 (t2 0 (by omega))
  have : n * 1 ≤ n * (m.T.getD 0 []).length := Nat.mul_le_mul_left _ this
  omega
theorem stk_mot {m : Mot} {n up : Int} (h : motE m ≠ 0) : stackE m n up = motE m := if_pos h
theorem stk_arg {m : Mot} {n up : Int} (h : motE m = 0) (h1 : n < 1 ∨ up < 1) : stackE m n up = 1 := by
  unfold stackE; rw [if_neg (by omega), if_pos h1]
theorem stk_up {m : Mot} {n up : Int} (h : motE m = 0) (h1 : ¬ (n < 1 ∨ up < 1)) (h2 : 31 < up) : stackE m n up = 3 := by
  unfold stackE; rw [if_neg (by omega), if_neg h1, if_pos]
  rw [large_wide, Bool.or_eq_true, decide_eq_true_eq, stackM_len]
  left
  have t1 := (mot_all h).2.2.2.2.2.1
  have : up.toNat * 1 ≤ up.toNat * m.T.length := Nat.mul_le_mul_left _ t1
  omega
theorem stk_blk {m : Mot} {n up : Int} (h : motE m = 0) (h1 : ¬ (n < 1 ∨ up < 1)) (h2 : blkE m n.toNat ≠ 0) : stackE m n up = 3 ∧ blkE m n.toNat = 3 := by
  have hb : blkE m n.toNat = 3 ∧ wide (sideM m n.toNat) = true := by
    unfold blkE at h2 ⊢
    split
    · rename_i hh; exact ⟨rfl, side_long h hh⟩
    · rename_i hh
      rw [if_neg hh] at h2
      split
      · exact ⟨rfl, by assumption⟩
      · rename_i h3; rw [if_neg h3] at h2; exact absurd rfl h2
  refine ⟨?_, hb.1⟩
  unfold stackE; rw [if_neg (by omega), if_neg h1, if_pos]
  rw [large_wide, side_wide (by omega), hb.2]; simp
theorem blk_of {m : Mot} {n : Nat} (h2 : blkE m n = 0) : n ≤ 16 ∧ ¬ wide (sideM m n) = true := by
  unfold blkE at h2
  split at h2
  · omega
  · split at h2
    · omega
    · exact ⟨by omega, by assumption⟩
theorem stk_abv {m : Mot} {n up : Int} {s : SV} (h : motE m = 0) (h1 : ¬ (n < 1 ∨ up < 1)) (h2 : blkE m n.toNat = 0) : abvE (List.replicate up.toNat (s, sideM m n.toNat)) = (if 31 < (stackM m n.toNat up.toNat).length then 3 else 0) ∧ (abvE (List.replicate up.toNat (s, sideM m n.toNat)) ≠ 0 → stackE m n up = 3) ∧ (abvE (List.replicate up.toNat (s, sideM m n.toNat)) = 0 → stackE m n up = chartE (stackM m n.toNat up.toNat)) := by
  obtain ⟨b1, b2⟩ := blk_of h2
  have t3 := (mot_tile h).2.2
  have hl : largeB (sideM m n.toNat) = false := by
    rw [large_wide, Bool.or_eq_false_iff, decide_eq_false_iff_not, sideM_len]
    exact ⟨by omega, by simpa using b2⟩
  have e1 : abvE (List.replicate up.toNat (s, sideM m n.toNat)) = if 31 < (stackM m n.toNat up.toNat).length then 3 else 0 := by
    unfold abvE
    rw [if_neg (fun hh => hh fun q hq => by rw [List.eq_of_mem_replicate hq]; exact hl), rep_flat]; rfl
  refine ⟨e1, fun e => ?_, fun e => ?_⟩
  · rw [e1] at e
    unfold stackE; rw [if_neg (by omega), if_neg h1, if_pos]
    rw [large_wide, Bool.or_eq_true, decide_eq_true_eq]
    left
    split at e
    · assumption
    · exact absurd rfl e
  · rw [e1] at e
    unfold stackE; rw [if_neg (by omega), if_neg h1, if_neg]
    rw [large_wide, side_wide (by omega), Bool.or_eq_true, decide_eq_true_eq]
    rintro (hh | hh)
    · rw [if_pos hh] at e; omega
    · exact b2 hh
theorem slln {α : Type} {E : Enc α} (w : World) : Sll E w (.slice none 0 0) [] := ⟨[], Sl.nil w, rfl, fun i p r hp => by simp at hp⟩
theorem tks_flat (m : Mot) (l t r p q s : SV) (n : Nat) : ([(p, edgeL (l, m.L)), (q, List.replicate n (t, m.T)), (s, edgeL (r, m.R))] : List KQ).flatMap Prod.snd = tilesL m l t r n := by simp [tilesL]
theorem blk_bes {m : Mot} {l t r : SV} {n : Nat} (h : ¬ 16 < n) : besE (tilesL m l t r n) m.T.length = blkE m n := by
  unfold besE blkE; rw [tiles_bes, if_neg h]
theorem take_one {α : Type} (l : List α) (j : Nat) (d : α) (h : j < l.length) : l.take (j + 1) = l.take j ++ [l.getD j d] := by
  rw [List.take_add_one, List.getElem?_eq_getElem h, List.getD, List.getElem?_eq_getElem h]; rfl
/-! Slices of the call's own of different types lie in different blocks. -/
theorem ownT_dis {α β : Type} {E : Enc α} {E' : Enc β} {T T' b b' : Nat} {w : World} {v v' : Value} {xs : List α} {ys : List β} (h : Lw.Own E T b w v xs) (h' : Lw.Own E' T' b' w v' ys) (hT : T ≠ T') : ∀ k ∈ blks v, k ∉ blks v' := by
  intro k hk hk'
  rcases h with ⟨rfl, rfl⟩ | ⟨g, c, cur, rfl, _, hg, _⟩
  · cases hk
  rcases h' with ⟨rfl, rfl⟩ | ⟨g', c', cur', rfl, _, hg', _⟩
  · cases hk'
  simp only [blks, List.mem_singleton] at hk hk'
  subst hk; subst hk'
  rw [hg] at hg'; cases hg'; exact hT rfl
theorem RwO.frT {T N Ro b : Nat} {w w' : World} {qs : List RQ} {α : Type} {E : Enc α} {v : Value} {xs : List α} (h : RwO T N w qs) (hf : Fr (blks v) w w') (ho : Lw.Own E Ro b w v xs) (hT : Ro ≠ T) : RwO T N w' qs :=
  fun q hq => (h q hq).fr hf fun k hk hb => ownT_dis ho (h q hq) hT k hk hb
theorem RwO.low {T N M : Nat} {w : World} {qs : List RQ} (h : RwO T N w qs) (hM : M ≤ N) : RwO T M w qs := fun q hq => (h q hq).low hM
/-- Rows of the call's own: the outer slice and the rows. -/
def OwR (R T N : Nat) (w : World) (X : Value) (rows : RowL) : Prop := ∃ qs : List RQ, Lw.Own encRq R N w X qs ∧ RwO T N w qs ∧ qs.map Prod.snd = rows
section
variable {R T N : Nat} {w w' : World} {X : Value} {rows : RowL}
theorem OwR.fr {S : List Nat} (h : OwR R T N w X rows) (hf : Fr S w w') (hS : ∀ k ∈ S, k < N) : OwR R T N w' X rows := by
  obtain ⟨qs, h1, h2, h3⟩ := h
  exact ⟨qs, h1.fr hf (fun k hk hb => by have := (h1.blk k hb).1; have := hS k hk; omega), h2.fr hf hS, h3⟩
theorem OwR.ext (h : OwR R T N w X rows) (hf : Fr [] w w') : OwR R T N w' X rows := h.fr hf (by simp)
theorem OwR.sll (h : OwR R T N w X rows) : Sll encSt w X rows := by
  obtain ⟨qs, h1, h2, h3⟩ := h
  rw [← h3]; exact sll_of h1.sl h2.q
theorem OwR.low {M : Nat} (h : OwR R T N w X rows) (hM : M ≤ N) : OwR R T M w X rows := by
  obtain ⟨qs, h1, h2, h3⟩ := h
  exact ⟨qs, h1.low hM, h2.low hM, h3⟩
theorem OwR.form (h : OwR R T N w X rows) : ∃ A c, X = .slice A rows.length c ∧ rows.length ≤ c := by
  obtain ⟨A, c, e, h1, _⟩ := h.sll.form
  exact ⟨A, c, e, h1⟩
theorem OwR.nil (w : World) : OwR R T N w (.slice none 0 0) [] := ⟨[], Own.nil w, RwO.nil, rfl⟩
end
theorem row_rep_le {a : List Stitch} (h : a.length ≤ 16) (n : Nat) : (List.replicate n a).flatten.length ≤ 16 * n := by
  rw [flat_rep_len]
  have := Nat.mul_le_mul_left n h
  omega
theorem rep_flat_succ {α : Type} (a : List α) (n : Nat) : (List.replicate (n + 1) a).flatten = (List.replicate n a).flatten ++ a := by
  rw [List.replicate_succ', List.flatten_append]; simp
theorem getD_nil {c : RowL} {i : Nat} (h : c.length = 0) : c.getD i [] = [] := by rw [List.length_eq_zero_iff.1 h]; rfl
theorem rows_rng {c : RowL} (h : rowsR c) (i : Nat) : ∀ x ∈ c.getD i [], 0 ≤ x.k ∧ 0 ≤ x.y := by
  intro x hx
  rcases Nat.lt_or_ge i c.length with h1 | h1
  · exact h _ (getD_memS h1) x hx
  · rw [List.getD, List.getElem?_eq_none h1] at hx; cases hx
theorem side_rng {m : Mot} (hL : rowsR m.L) (hT : rowsR m.T) (hR : rowsR m.R) (n up : Nat) : rowsR (stackM m n up) := by
  intro r hr x hx
  obtain ⟨c, hc, hr⟩ := List.mem_flatten.1 hr
  rw [List.eq_of_mem_replicate hc] at hr
  obtain ⟨i, hi, rfl⟩ := List.mem_map.1 hr
  unfold sideR at hx
  rw [List.mem_append, List.mem_append] at hx
  rcases hx with hx | hx | hx
  · exact rows_rng hL i x hx
  · obtain ⟨q, hq, hx⟩ := List.mem_flatten.1 hx
    rw [List.eq_of_mem_replicate hq] at hx
    exact rows_rng hT i x hx
  · exact rows_rng hR i x hx
theorem stackM_take (m : Mot) (n u i : Nat) (h : i < m.T.length) : (sideM m n).take (i + 1) = (sideM m n).take i ++ [sideR m n i] := by
  rw [take_one _ i [] (by rw [sideM_len]; exact h), sideM_get m n i h]
theorem stk_large {m : Mot} {n up : Int} (h : motE m = 0) (h1 : ¬ (n < 1 ∨ up < 1)) (h2 : largeB (stackM m n.toNat up.toNat) = true) : stackE m n up = 3 := by
  unfold stackE; rw [if_neg (by omega), if_neg h1, if_pos h2]
theorem stk_chart {m : Mot} {n up : Int} (h : motE m = 0) (h1 : ¬ (n < 1 ∨ up < 1)) (h2 : ¬ largeB (stackM m n.toNat up.toNat) = true) : stackE m n up = chartE (stackM m n.toNat up.toNat) := by
  unfold stackE; rw [if_neg (by omega), if_neg h1, if_neg h2]
def ItmO (R T N : Nat) (w : World) (its : List IQ) : Prop := ∀ q ∈ its, OwR R T N w (slv q.c) q.rows
theorem ItmO.fr {R T N : Nat} {w w' : World} {its : List IQ} {S : List Nat} (h : ItmO R T N w its) (hf : Fr S w w') (hS : ∀ k ∈ S, k < N) : ItmO R T N w' its := fun q hq => (h q hq).fr hf hS
theorem ItmO.ext {R T N : Nat} {w w' : World} {its : List IQ} (h : ItmO R T N w its) (hf : Fr [] w w') : ItmO R T N w' its := h.fr hf (by simp)
theorem ItmO.nil {R T N : Nat} {w : World} : ItmO R T N w [] := fun q hq => by cases hq
theorem ItmO.snoc {R T N : Nat} {w : World} {its : List IQ} {q : IQ} (h : ItmO R T N w its) (hq : OwR R T N w (slv q.c) q.rows) : ItmO R T N w (its ++ [q]) := fun x hx => by
  rcases List.mem_append.1 hx with hx | hx
  · exact h x hx
  · rw [List.mem_singleton.1 hx]; exact hq
theorem ItmO.low {R T N M : Nat} {w : World} {its : List IQ} (h : ItmO R T N w its) (hM : M ≤ N) : ItmO R T M w its := fun q hq => (h q hq).low hM
theorem ItmO.q {R T N : Nat} {w : World} {its : List IQ} (h : ItmO R T N w its) : ItmQ w its := fun q hq => (h q hq).sll
/-- What an item says of a piece in a size. -/
def itmOf (size : Int) (p : Pc) (q : IQ) : Prop := q.nm = p.nm ∧ q.ct = p.ct ∧ q.rows = chartP size p
theorem charts_at {size : Int} : ∀ {qs : List PQ} {i : Nat}, i < qs.length → (∀ j, j < i → stackE (qs.getD j pq0).p.mot (tiles (qs.getD j pq0).p size) (qs.getD j pq0).p.up = 0) → stackE (qs.getD i pq0).p.mot (tiles (qs.getD i pq0).p size) (qs.getD i pq0).p.up ≠ 0 → chartsE size (pcs qs) = stackE (qs.getD i pq0).p.mot (tiles (qs.getD i pq0).p size) (qs.getD i pq0).p.up
  | [], i, h, _, _ => by simp at h
  | q :: qs, 0, _, _, h => by
    show (if stackE q.p.mot (tiles q.p size) q.p.up ≠ 0 then _ else _) = _
    rw [if_pos (show stackE q.p.mot (tiles q.p size) q.p.up ≠ 0 from h)]; rfl
  | q :: qs, i + 1, hl, hb, h => by
    have h0 : stackE q.p.mot (tiles q.p size) q.p.up = 0 := hb 0 (by omega)
    show (if stackE q.p.mot (tiles q.p size) q.p.up ≠ 0 then _ else chartsE size (pcs qs)) = _
    rw [if_neg (by omega)]
    exact charts_at (qs := qs) (i := i) (by simp at hl; omega) (fun j hj => hb (j + 1) (by omega)) h
theorem charts_no {size : Int} : ∀ {qs : List PQ}, (∀ j, j < qs.length → stackE (qs.getD j pq0).p.mot (tiles (qs.getD j pq0).p size) (qs.getD j pq0).p.up = 0) → chartsE size (pcs qs) = 0
  | [], _ => rfl
  | q :: qs, hb => by
    have h0 : stackE q.p.mot (tiles q.p size) q.p.up = 0 := hb 0 (by simp)
    show (if stackE q.p.mot (tiles q.p size) q.p.up ≠ 0 then _ else chartsE size (pcs qs)) = _
    rw [if_neg (by omega)]
    exact charts_no (qs := qs) fun j hj => hb (j + 1) (by simp; omega)
theorem make_a {nm : List UInt8} {ps : List Pc} {size : Int} (h : garE nm ps ≠ 0) : makeE nm ps size = garE nm ps := if_pos h
theorem make_b {nm : List UInt8} {ps : List Pc} {size : Int} (h : garE nm ps = 0) (h2 : size < 0 ∨ 9 < size) : makeE nm ps size = 1 := by unfold makeE; rw [if_neg (by omega), if_pos h2]
theorem make_c {nm : List UInt8} {ps : List Pc} {size : Int} (h : garE nm ps = 0) (h2 : ¬ (size < 0 ∨ 9 < size)) : makeE nm ps size = chartsE size ps := by unfold makeE; rw [if_neg (by omega), if_neg h2]
theorem tiles_rng {p : Pc} {size : Int} (h : rightB p = true) (h0 : 0 ≤ size) (h9 : size ≤ 9) : 0 ≤ size * p.st ∧ size * p.st ≤ 36 ∧ 1 ≤ tiles p size ∧ tiles p size ≤ 52 := by
  obtain ⟨_, r1, r2, r3, r4, _⟩ := right_of h
  have e1 := Int.mul_nonneg h0 r3
  have e2 : size * p.st ≤ 9 * 4 := Int.mul_le_mul h9 r4 r3 (by omega)
  unfold tiles; omega
/-! Charts of the call's own. -/
def ChO (R T N : Nat) (w : World) (cs : List CQ) : Prop := ∀ q ∈ cs, OwR R T N w (slv q.1) q.2
section
variable {R T N : Nat} {w w' : World} {cs : List CQ}
theorem ChO.fr {S : List Nat} (h : ChO R T N w cs) (hf : Fr S w w') (hS : ∀ k ∈ S, k < N) : ChO R T N w' cs := fun q hq => (h q hq).fr hf hS
theorem ChO.ext (h : ChO R T N w cs) (hf : Fr [] w w') : ChO R T N w' cs := h.fr hf (by simp)
theorem ChO.nil : ChO R T N w [] := fun q hq => by cases hq
theorem ChO.snoc {q : CQ} (h : ChO R T N w cs) (hq : OwR R T N w (slv q.1) q.2) : ChO R T N w (cs ++ [q]) := fun x hx => by
  rcases List.mem_append.1 hx with hx | hx
  · exact h x hx
  · rw [List.mem_singleton.1 hx]; exact hq
theorem ChO.low {M : Nat} (h : ChO R T N w cs) (hM : M ≤ N) : ChO R T M w cs := fun q hq => (h q hq).low hM
theorem ChO.q (h : ChO R T N w cs) : ChsQ w cs := fun q hq => (h q hq).sll
theorem OwR.frT {α : Type} {E : Enc α} {Ro b : Nat} {v X : Value} {xs : List α} {rows : RowL} (h : OwR R T N w X rows) (hf : Fr (blks v) w w') (ho : Lw.Own E Ro b w v xs) (h1 : Ro ≠ R) (h2 : Ro ≠ T) : OwR R T N w' X rows := by
  obtain ⟨qs, a1, a2, a3⟩ := h
  exact ⟨qs, a1.fr hf fun k hk hb => ownT_dis ho a1 h1 k hk hb, a2.frT hf ho h2, a3⟩
theorem ChO.frT {α : Type} {E : Enc α} {Ro b : Nat} {v : Value} {xs : List α} (h : ChO R T N w cs) (hf : Fr (blks v) w w') (ho : Lw.Own E Ro b w v xs) (h1 : Ro ≠ R) (h2 : Ro ≠ T) : ChO R T N w' cs := fun q hq => (h q hq).frT hf ho h1 h2
end
def sizesTo (nm : List UInt8) (ps : List Pc) (i : Nat) : List Int := ((List.range i).filter fun s : Nat => decide (makeE nm ps (s : Int) = 0)).map fun s : Nat => (s : Int)
theorem sizes_yes {nm : List UInt8} {ps : List Pc} {i : Nat} (h : makeE nm ps (i : Int) = 0) : sizesTo nm ps (i + 1) = sizesTo nm ps i ++ [(i : Int)] := by
  unfold sizesTo; rw [List.range_succ, List.filter_append, List.map_append]; simp [h]
theorem sizes_no {nm : List UInt8} {ps : List Pc} {i : Nat} (h : ¬ makeE nm ps (i : Int) = 0) : sizesTo nm ps (i + 1) = sizesTo nm ps i := by
  unfold sizesTo; rw [List.range_succ, List.filter_append, List.map_append]; simp [h]
theorem sizes_len (nm : List UInt8) (ps : List Pc) (i : Nat) : (sizesTo nm ps i).length ≤ i := by
  unfold sizesTo; rw [List.length_map]
  exact Nat.le_trans (List.length_filter_le _ _) (by simp)
end Go.G14
namespace Go.Proofs.YthehggmdcmpjeaaDoor
open Go.Lw Go.G14
theorem co21 : CallOf Tryd.prog 21 := CallOf.mk' Tryd.func21 (by kernel_rfl) (by kernel_rfl)
theorem co22 : CallOf Tryd.prog 22 := CallOf.mk' Tryd.func22 (by kernel_rfl) (by kernel_rfl)
theorem nrx {l : List UInt8} : ((if nameB l = true then 1 else 0 : Int) = 0) ↔ ¬ nameB l = true := by by_cases h : nameB l = true <;> simp [h]
set_option maxHeartbeats 2000000 in
theorem refgar_ok (nm : List UInt8) (v : Value) (qs : List PQ) (w0 : World) (hs : Sl encPq w0 v qs) (hq : PcsQ w0 qs) : Rets Tryd.prog 7 #[.agg #[S nm, v]] w0 fun r w' => r = .int .i64 (garE nm (pcs qs)) ∧ Fr [] w0 w' := by
 obtain ⟨A, c, rfl, hcc, hM, hA⟩ := id hs
 clear hA
 unfold maxLen at hM
 refine we [(0, .agg #[S nm, .slice A qs.length c])] Tryd.func7 rfl Tryd.ntmps7 rfl (.cons rfl .nil) ?_
 have hs0 := hs
 have hq0 := hq
 refine sr (bx rfl rfl rfl (fun g1 w1 hg1 hb1 q1 z1 => ?_))
 refine asg rfl rfl (nn (sr (fad rfl fa24_1 rfl (s_loadB rfl hb1 rfl na22 rfl (lnS rfl Tryd.underlying22 rfl (asg rfl rfl (nn (sq (sr (mv rfl rfl (gt' rfl rfl rfl ?_)))))))))))
 refine nn ?_
 refine cd rfl (fun c0 => ?_) (fun c0 => ?_)
 · refine sr (asg rfl rfl (nn (rt (tr (r1 Tryd.results7 rfl ?_)))))
   exact ⟨_, rfl, by rw [gar_a (by omega)], q1⟩
 · refine sk (tn (sq (sq ?_)))
   refine rboF (r := 22) (L' := [(1, _), (3, _)]) ((((qs.length : Int) = 0) ∨ ((if nameB nm = true then (1 : Int) else 0) = 0))) (.cons rfl (.cons rfl .nil)) ?_ ?_
   · refine mv rfl rfl (eq' rfl rfl rfl (mv rfl rfl ?_))
     refine gs 17 rfl (fun g0 => ?_) (fun g0 => ?_)
     · exact gN rfl rfl rfl (gN rfl rfl rfl (gN rfl rfl rfl (gN rfl rfl rfl (pkt rfl rfl rfl rfl (rbeF rfl (by first | exact bt (by omega) | exact bf (by omega) | exact bi (by omega) | exact bn (by omega) | (simp_all; done) | (simp_all; omega)) (.cons rfl (.cons rfl .nil)) (Fr.refl _ _))))))
     · refine gY rfl (fad rfl fa24_0 rfl (gY rfl (s_loadB rfl hb1 rfl na9 rfl (gY rfl ?_))))
       refine cl (ev1 rfl) co21 (refname_ok _ _) rfl ?_
       rintro _ w2 ⟨rfl, q2⟩
       have z2 := q2.size
       exact gY rfl (eq' rfl rfl rfl (pkf rfl rfl rfl rfl (rbeF rfl (by first | exact bt (by omega) | exact bf (by omega) | exact bi (by omega) | exact bn (by omega) | (simp_all; done) | (simp_all; omega)) (.cons rfl (.cons rfl .nil)) q2)))
   · intro w3 q3; have z3 := q3.size
     refine tn ?_
     refine cd rfl (fun c1 => ?_) (fun c1 => ?_)
     · refine sr (asg rfl rfl (nn (rt (tr (r1 Tryd.results7 rfl ?_)))))
       exact ⟨_, rfl, by rw [gar_b (by omega) (by rcases c1 with h | h; exact .inl (by omega); exact .inr (nrx.1 h))], (q1.next q3)⟩
     · refine sk (tn (sq (sr (asg rfl rfl (nn (bl ?_))))))
       refine lpK (ι := Nat) [(1, _), (3, _)] (fun i => [(4, .int .i64 (i : Int))]) (fun i w' => Fr [] w3 w' ∧ i ≤ qs.length ∧ ∀ j, j < i → rightB (PcAt qs j) = true) (fun i => qs.length - i) 0 (.cons rfl (.cons rfl (.cons rfl .nil))) ⟨Fr.refl _ _, ⟨Nat.zero_le _, fun j hj => absurd hj (Nat.not_lt_zero j)⟩⟩ ?_
       rintro i w4 ⟨q4, ⟨hi, hr⟩⟩
       have z4 := q4.size
       refine kpC [(1, _), (3, _), (4, _)] (.cons rfl (.cons rfl (.cons rfl .nil))) ?_
       refine sq (sr (mv rfl rfl (mv rfl rfl (lt' rfl rfl rfl (nn ?_)))))
       refine cd rfl (fun c2 => ?_) (fun c2 => ?_)
       · refine sk (tn (sq (bl (sr (fad rfl fa24_1 rfl ?_)))))
         replace hb1 := hb1.ext (q3.next q4)
         refine s_loadB rfl hb1 rfl na22 rfl (mv rfl rfl ?_)
         replace hs := hs0.ext ((q1.next q3).next q4)
         refine s_idxL (pq0) rfl hs rfl el22 (by omega) (by omega) nat_of rfl (fun ad31 hc31 => ?_)
         refine s_loadA rfl (hc31 _ hs) ag51 rfl (al zv51 rfl rfl (fun g5 w5 hg5 hb5 q5 z5 => ?_))
         refine s_storeBA rfl rfl hb5 rfl (by first | (simp [Value.oneCell', S]; done) | exact Enc.one _ _) sz51 (fun w6 hb5 q6 z6 => ?_)
         refine kpL [(1, _), (3, _), (4, _), (5, _)] (.cons rfl (.cons rfl (.cons rfl (.cons rfl .nil)))) (nn (sq ?_))
         refine rboF (r := 76) (L' := [(1, _), (3, _), (4, _)]) (((((((((((if nameB (qs.getD i pq0).p.nm = true then (1 : Int) else 0) = 0) ∨ ((qs.getD i pq0).p.ba < 1)) ∨ (16 < (qs.getD i pq0).p.ba)) ∨ ((qs.getD i pq0).p.st < 0)) ∨ (4 < (qs.getD i pq0).p.st)) ∨ ((qs.getD i pq0).p.up < 1)) ∨ (31 < (qs.getD i pq0).p.up)) ∨ ((qs.getD i pq0).p.ct < 1)) ∨ (9 < (qs.getD i pq0).p.ct))) (.cons rfl (.cons rfl (.cons rfl .nil))) ?_ ?_
         · refine fad rfl fa51_0 rfl (s_loadB rfl hb5 rfl na9 rfl ?_)
           refine cl (ev1 rfl) co21 (refname_ok _ _) rfl ?_
           rintro _ w7 ⟨rfl, q7⟩
           have z7 := q7.size
           refine eq' rfl rfl rfl (mv rfl rfl ?_)
           refine gs 37 rfl (fun g1 => ?_) (fun g1 => ?_)
           · refine gN rfl rfl rfl (gN rfl rfl rfl (gN rfl rfl rfl (pkt rfl rfl rfl rfl (mv rfl rfl (gN rfl rfl rfl (gN rfl rfl rfl (gN rfl rfl rfl (pkt rfl rfl rfl rfl (mv rfl rfl (gN rfl rfl rfl (gN rfl rfl rfl ?_)))))))))))
             refine gN rfl rfl rfl (pkt rfl rfl rfl rfl (mv rfl rfl (gN rfl rfl rfl (gN rfl rfl rfl (gN rfl rfl rfl (pkt rfl rfl rfl rfl (mv rfl rfl (gN rfl rfl rfl (gN rfl rfl rfl (gN rfl rfl rfl (pkt rfl rfl rfl rfl ?_)))))))))))
             refine mv rfl rfl (gN rfl rfl rfl (gN rfl rfl rfl (gN rfl rfl rfl (pkt rfl rfl rfl rfl (mv rfl rfl (gN rfl rfl rfl (gN rfl rfl rfl (gN rfl rfl rfl (pkt rfl rfl rfl rfl (mv rfl rfl (gN rfl rfl rfl ?_)))))))))))
             exact gN rfl rfl rfl (gN rfl rfl rfl (pkt rfl rfl rfl rfl (rbeF rfl (by first | exact bt (by omega) | exact bf (by omega) | exact bi (by omega) | exact bn (by omega) | (simp_all; done) | (simp_all; omega)) (.cons rfl (.cons rfl (.cons rfl .nil))) q7)))
           · refine gY rfl (fad rfl fa51_2 rfl (gY rfl ?_))
             replace hb5 := hb5.ext q7
             refine s_loadB rfl hb5 rfl na3 rfl (gY rfl (lt' rfl rfl rfl (pkf rfl rfl rfl rfl (mv rfl rfl ?_))))
             refine gs 42 rfl (fun g2 => ?_) (fun g2 => ?_)
             · refine gN rfl rfl rfl (gN rfl rfl rfl (gN rfl rfl rfl (pkt rfl rfl rfl rfl (mv rfl rfl (gN rfl rfl rfl (gN rfl rfl rfl (gN rfl rfl rfl (pkt rfl rfl rfl rfl (mv rfl rfl (gN rfl rfl rfl (gN rfl rfl rfl ?_)))))))))))
               refine gN rfl rfl rfl (pkt rfl rfl rfl rfl (mv rfl rfl (gN rfl rfl rfl (gN rfl rfl rfl (gN rfl rfl rfl (pkt rfl rfl rfl rfl (mv rfl rfl (gN rfl rfl rfl (gN rfl rfl rfl (gN rfl rfl rfl (pkt rfl rfl rfl rfl ?_)))))))))))
               exact mv rfl rfl (gN rfl rfl rfl (gN rfl rfl rfl (gN rfl rfl rfl (pkt rfl rfl rfl rfl (mv rfl rfl (gN rfl rfl rfl (gN rfl rfl rfl (gN rfl rfl rfl (pkt rfl rfl rfl rfl (rbeF rfl (by first | exact bt (by omega) | exact bf (by omega) | exact bi (by omega) | exact bn (by omega) | (simp_all; done) | (simp_all; omega)) (.cons rfl (.cons rfl (.cons rfl .nil))) q7))))))))))
             · refine gY rfl (fad rfl fa51_2 rfl (gY rfl (s_loadB rfl hb5 rfl na3 rfl (gY rfl (gt' rfl rfl rfl (pkf rfl rfl rfl rfl (mv rfl rfl ?_)))))))
               refine gs 47 rfl (fun g3 => ?_) (fun g3 => ?_)
               · refine gN rfl rfl rfl (gN rfl rfl rfl (gN rfl rfl rfl (pkt rfl rfl rfl rfl (mv rfl rfl (gN rfl rfl rfl (gN rfl rfl rfl (gN rfl rfl rfl (pkt rfl rfl rfl rfl (mv rfl rfl (gN rfl rfl rfl (gN rfl rfl rfl ?_)))))))))))
                 refine gN rfl rfl rfl (pkt rfl rfl rfl rfl (mv rfl rfl (gN rfl rfl rfl (gN rfl rfl rfl (gN rfl rfl rfl (pkt rfl rfl rfl rfl (mv rfl rfl (gN rfl rfl rfl (gN rfl rfl rfl (gN rfl rfl rfl (pkt rfl rfl rfl rfl ?_)))))))))))
                 exact mv rfl rfl (gN rfl rfl rfl (gN rfl rfl rfl (gN rfl rfl rfl (pkt rfl rfl rfl rfl (rbeF rfl (by first | exact bt (by omega) | exact bf (by omega) | exact bi (by omega) | exact bn (by omega) | (simp_all; done) | (simp_all; omega)) (.cons rfl (.cons rfl (.cons rfl .nil))) q7)))))
               · refine gY rfl (fad rfl fa51_3 rfl (gY rfl (s_loadB rfl hb5 rfl na3 rfl (gY rfl (lt' rfl rfl rfl (pkf rfl rfl rfl rfl (mv rfl rfl ?_)))))))
                 refine gs 52 rfl (fun g4 => ?_) (fun g4 => ?_)
                 · refine gN rfl rfl rfl (gN rfl rfl rfl (gN rfl rfl rfl (pkt rfl rfl rfl rfl (mv rfl rfl (gN rfl rfl rfl (gN rfl rfl rfl (gN rfl rfl rfl (pkt rfl rfl rfl rfl (mv rfl rfl (gN rfl rfl rfl (gN rfl rfl rfl ?_)))))))))))
                   refine gN rfl rfl rfl (pkt rfl rfl rfl rfl (mv rfl rfl (gN rfl rfl rfl (gN rfl rfl rfl (gN rfl rfl rfl (pkt rfl rfl rfl rfl (mv rfl rfl (gN rfl rfl rfl (gN rfl rfl rfl (gN rfl rfl rfl (pkt rfl rfl rfl rfl ?_)))))))))))
                   exact rbeF rfl (by first | exact bt (by omega) | exact bf (by omega) | exact bi (by omega) | exact bn (by omega) | (simp_all; done) | (simp_all; omega)) (.cons rfl (.cons rfl (.cons rfl .nil))) q7
                 · refine gY rfl (fad rfl fa51_3 rfl (gY rfl (s_loadB rfl hb5 rfl na3 rfl (gY rfl (gt' rfl rfl rfl (pkf rfl rfl rfl rfl (mv rfl rfl ?_)))))))
                   refine gs 57 rfl (fun g5 => ?_) (fun g5 => ?_)
                   · refine gN rfl rfl rfl (gN rfl rfl rfl (gN rfl rfl rfl (pkt rfl rfl rfl rfl (mv rfl rfl (gN rfl rfl rfl (gN rfl rfl rfl (gN rfl rfl rfl (pkt rfl rfl rfl rfl (mv rfl rfl (gN rfl rfl rfl (gN rfl rfl rfl ?_)))))))))))
                     exact gN rfl rfl rfl (pkt rfl rfl rfl rfl (mv rfl rfl (gN rfl rfl rfl (gN rfl rfl rfl (gN rfl rfl rfl (pkt rfl rfl rfl rfl (rbeF rfl (by first | exact bt (by omega) | exact bf (by omega) | exact bi (by omega) | exact bn (by omega) | (simp_all; done) | (simp_all; omega)) (.cons rfl (.cons rfl (.cons rfl .nil))) q7)))))))
                   · refine gY rfl (fad rfl fa51_4 rfl (gY rfl (s_loadB rfl hb5 rfl na3 rfl (gY rfl (lt' rfl rfl rfl (pkf rfl rfl rfl rfl (mv rfl rfl ?_)))))))
                     refine gs 62 rfl (fun g6 => ?_) (fun g6 => ?_)
                     · refine gN rfl rfl rfl (gN rfl rfl rfl (gN rfl rfl rfl (pkt rfl rfl rfl rfl (mv rfl rfl (gN rfl rfl rfl (gN rfl rfl rfl (gN rfl rfl rfl (pkt rfl rfl rfl rfl (mv rfl rfl (gN rfl rfl rfl (gN rfl rfl rfl ?_)))))))))))
                       exact gN rfl rfl rfl (pkt rfl rfl rfl rfl (rbeF rfl (by first | exact bt (by omega) | exact bf (by omega) | exact bi (by omega) | exact bn (by omega) | (simp_all; done) | (simp_all; omega)) (.cons rfl (.cons rfl (.cons rfl .nil))) q7))
                     · refine gY rfl (fad rfl fa51_4 rfl (gY rfl (s_loadB rfl hb5 rfl na3 rfl (gY rfl (gt' rfl rfl rfl (pkf rfl rfl rfl rfl (mv rfl rfl ?_)))))))
                       refine gs 67 rfl (fun g7 => ?_) (fun g7 => ?_)
                       · exact gN rfl rfl rfl (gN rfl rfl rfl (gN rfl rfl rfl (pkt rfl rfl rfl rfl (mv rfl rfl (gN rfl rfl rfl (gN rfl rfl rfl (gN rfl rfl rfl (pkt rfl rfl rfl rfl (rbeF rfl (by first | exact bt (by omega) | exact bf (by omega) | exact bi (by omega) | exact bn (by omega) | (simp_all; done) | (simp_all; omega)) (.cons rfl (.cons rfl (.cons rfl .nil))) q7)))))))))
                       · refine gY rfl (fad rfl fa51_5 rfl (gY rfl (s_loadB rfl hb5 rfl na3 rfl (gY rfl (lt' rfl rfl rfl (pkf rfl rfl rfl rfl (mv rfl rfl ?_)))))))
                         refine gs 72 rfl (fun g8 => ?_) (fun g8 => ?_)
                         · exact gN rfl rfl rfl (gN rfl rfl rfl (gN rfl rfl rfl (pkt rfl rfl rfl rfl (rbeF rfl (by first | exact bt (by omega) | exact bf (by omega) | exact bi (by omega) | exact bn (by omega) | (simp_all; done) | (simp_all; omega)) (.cons rfl (.cons rfl (.cons rfl .nil))) q7))))
                         · exact gY rfl (fad rfl fa51_5 rfl (gY rfl (s_loadB rfl hb5 rfl na3 rfl (gY rfl (gt' rfl rfl rfl (pkf rfl rfl rfl rfl (rbeF rfl (by first | exact bt (by omega) | exact bf (by omega) | exact bi (by omega) | exact bn (by omega) | (simp_all; done) | (simp_all; omega)) (.cons rfl (.cons rfl (.cons rfl .nil))) q7)))))))
         · intro w8 q8; have z8 := q8.size
           refine tn ?_
           refine cd rfl (fun c3 => ?_) (fun c3 => ?_)
           · refine sr (asg rfl rfl (nn (rt (rb (tr (tr (rb (tr (r1 Tryd.results7 rfl ?_)))))))))
             exact ⟨_, rfl, by rw [gar_c (by omega) (fun e => c1 (by rcases e with h | h; exact .inl (by omega); exact .inr (nrx.2 h))) (i := i) (by omega) (fun e => by have hh := (right_iff (qs.getD i pq0).p).1 e; rw [if_pos hh.1] at c3; omega)], (((((q1.next q3).next q4).next q5).step q6 (by first | (simp; done) | (simp; omega))).next q8)⟩
           · refine sk (bn' (tn (rg (mv rfl rfl (s_add rfl rfl (wi6 (by omega)) rfl (asg rfl rfl (nl ?_)))))))
             exact lpE (i + 1) (.cons rfl (.cons rfl (.cons rfl .nil))) ⟨(((q4.next q5).step q6 (by first | (simp; done) | (simp; omega))).next q8), ⟨by omega, all_step hr ((right_iff (qs.getD i pq0).p).2 ⟨Classical.not_not.1 fun e => c3 (by rw [if_neg e]; omega), by omega⟩)⟩⟩ (by omega)
       · obtain rfl : i = qs.length := by omega
         refine ex (te (te (xh (tn (sq (sr (asg rfl rfl (nn (bl ?_)))))))))
         refine lpK (ι := Nat) [(1, _), (3, _)] (fun i => [(6, .int .i64 (i : Int))]) (fun i w' => Fr [] w4 w' ∧ i ≤ qs.length ∧ ∀ a, a < i → ∀ b, b < a → ¬ (PcAt qs a).nm = (PcAt qs b).nm) (fun i => qs.length - i) 0 (.cons rfl (.cons rfl (.cons rfl .nil))) ⟨Fr.refl _ _, ⟨Nat.zero_le _, fun j hj => absurd hj (Nat.not_lt_zero j)⟩⟩ ?_
         rintro i w9 ⟨q9, ⟨hi, hd⟩⟩
         have z9 := q9.size
         refine kpC [(1, _), (3, _), (6, _)] (.cons rfl (.cons rfl (.cons rfl .nil))) ?_
         refine sq (sr (mv rfl rfl (mv rfl rfl (lt' rfl rfl rfl (nn ?_)))))
         refine cd rfl (fun c4 => ?_) (fun c4 => ?_)
         · refine sk (tn (sq (bl (sr (asg rfl rfl (nn (bl ?_)))))))
           refine lpK (ι := Nat) [(1, _), (3, _), (6, _)] (fun k => [(7, .int .i64 (k : Int))]) (fun k w' => Fr [] w9 w' ∧ k ≤ i ∧ ∀ b, b < k → ¬ (PcAt qs i).nm = (PcAt qs b).nm) (fun k => i - k) 0 (.cons rfl (.cons rfl (.cons rfl (.cons rfl .nil)))) ⟨Fr.refl _ _, ⟨Nat.zero_le _, fun j hj => absurd hj (Nat.not_lt_zero j)⟩⟩ ?_
           rintro k w10 ⟨q10, ⟨hk, hn⟩⟩
           have z10 := q10.size
           refine kpC [(1, _), (3, _), (6, _), (7, _)] (.cons rfl (.cons rfl (.cons rfl (.cons rfl .nil)))) ?_
           refine sq (sr (mv rfl rfl (mv rfl rfl (lt' rfl rfl rfl (nn ?_)))))
           refine cd rfl (fun c5 => ?_) (fun c5 => ?_)
           · refine sk (tn (sq (bl (sq ?_))))
             replace hs := hs0.ext ((((q1.next q3).next q4).next q9).next q10)
             replace hq := hq0.ext ((((q1.next q3).next q4).next q9).next q10)
             replace hb1 := hb1.ext (((q3.next q4).next q9).next q10)
             intro a h
             refine region_quiet hmix (by kernel_rfl) ?_
             refine qt_fieldAddr h rfl fa24_1 rfl ?_; clear h a; intro a h
             refine qt_loadB h rfl (fun _ hw => hb1.ext hw) rfl na22 rfl ?_; clear h a; intro a h
             refine qt_move h rfl rfl ?_; clear h a; intro a h
             refine qt_idxL (pq0) h rfl hs rfl el22 (by omega) (by omega) rfl rfl ?_; clear h a; intro ad90 hc90 a h
             refine qt_fieldAddr h rfl fa51_0 rfl ?_; clear h a; intro a h
             refine qt_loadC h rfl (fun _ hw => hc90 _ (hs.ext hw)) rfl na9 rfl ?_; clear h a; intro a h
             refine qt_fieldAddr h rfl fa24_1 rfl ?_; clear h a; intro a h
             refine qt_loadB h rfl (fun _ hw => hb1.ext hw) rfl na22 rfl ?_; clear h a; intro a h
             refine qt_move h rfl rfl ?_; clear h a; intro a h
             refine qt_idxL (pq0) h rfl hs rfl el22 (by omega) (by omega) rfl rfl ?_; clear h a; intro ad96 hc96 a h
             refine qt_fieldAddr h rfl fa51_0 rfl ?_; clear h a; intro a h
             refine qt_loadC h rfl (fun _ hw => hc96 _ (hs.ext hw)) rfl na9 rfl ?_; clear h a; intro a h
             refine qt_eqs h rfl rfl rfl ?_; clear h a; intro a h
             refine wpQuiet_nil ?_
             intro w11 q11
             have z11 := q11.size
             refine bk (h.sub (L' := [(1, _), (3, _), (6, _), (7, _), (99, _)]) (.cons rfl (.cons rfl (.cons rfl (.cons rfl (.cons rfl .nil)))))) ?_; clear h a
             refine tn ?_
             refine cd rfl (fun c6 => ?_) (fun c6 => ?_)
             · refine sr (asg rfl rfl (nn (rt (rb (tr (tr (rb (rb (tr (tr (rb ?_)))))))))))
               refine tr (r1 Tryd.results7 rfl ?_)
               exact ⟨_, rfl, by rw [gar_d (by omega) (fun e => c1 (by rcases e with h | h; exact .inl (by omega); exact .inr (nrx.2 h))) hr (dup_yes (i := i) (k := k) (by omega) (by omega) c6)], (((((q1.next q3).next q4).next q9).next q10).next q11)⟩
             · refine sk (bn' (tn (rg (mv rfl rfl (s_add rfl rfl (wi6 (by omega)) rfl (asg rfl rfl (nl ?_)))))))
               exact lpE (k + 1) (.cons rfl (.cons rfl (.cons rfl (.cons rfl .nil)))) ⟨(q10.next q11), ⟨by omega, all_step hn c6⟩⟩ (by omega)
           · obtain rfl : i = k := by omega
             refine ex (te (te (xh (bn' (tn (rg (mv rfl rfl (s_add rfl rfl (wi6 (by omega)) rfl (asg rfl rfl (nl ?_))))))))))
             exact lpE (i + 1) (.cons rfl (.cons rfl (.cons rfl .nil))) ⟨(q9.next q10), ⟨by omega, all_step hd hn⟩⟩ (by omega)
         · obtain rfl : i = qs.length := by omega
           refine ex (te (te (xh (tn (sq (sr (asg rfl rfl (nn (bl ?_)))))))))
           refine lpK (ι := Nat) [(1, _), (3, _)] (fun i => [(8, .int .i64 (i : Int))]) (fun i w' => Fr [] w9 w' ∧ i ≤ qs.length ∧ ∀ a, a < i → motE (PcAt qs a).mot = 0) (fun i => qs.length - i) 0 (.cons rfl (.cons rfl (.cons rfl .nil))) ⟨Fr.refl _ _, ⟨Nat.zero_le _, fun j hj => absurd hj (Nat.not_lt_zero j)⟩⟩ ?_
           rintro i w12 ⟨q12, ⟨hi, hm⟩⟩
           have z12 := q12.size
           refine kpC [(1, _), (3, _), (8, _)] (.cons rfl (.cons rfl (.cons rfl .nil))) ?_
           refine sq (sr (mv rfl rfl (mv rfl rfl (lt' rfl rfl rfl (nn ?_)))))
           refine cd rfl (fun c7 => ?_) (fun c7 => ?_)
           · refine sk (tn (sq (bl (sr (fad rfl fa24_1 rfl ?_)))))
             replace hb1 := hb1.ext (((q3.next q4).next q9).next q12)
             refine s_loadB rfl hb1 rfl na22 rfl (mv rfl rfl ?_)
             replace hs := hs0.ext ((((q1.next q3).next q4).next q9).next q12)
             refine s_idxL (pq0) rfl hs rfl el22 (by omega) (by omega) nat_of rfl (fun ad108 hc108 => ?_)
             refine fad rfl fa51_1 rfl (s_loadA rfl (cells_part (vs := [_, _, _]) (hc108 _ hs) rfl) ag49 rfl ?_)
             replace hq := hq0.ext ((((q1.next q3).next q4).next q9).next q12)
             refine cl (ev1 rfl) co22 (refmot_ok (PcAt qs i).mot _ _ _ _ (hq.at (by omega))) rfl ?_
             rintro _ w13 ⟨rfl, q13⟩
             have z13 := q13.size
             refine asg rfl rfl (kpL [(1, _), (3, _), (8, _), (9, _)] (.cons rfl (.cons rfl (.cons rfl (.cons rfl .nil)))) (nn (sr (mv rfl rfl (ne' rfl rfl rfl (nn ?_))))))
             refine cd rfl (fun c8 => ?_) (fun c8 => ?_)
             · refine sr (mv rfl rfl (asg rfl rfl (kpL [(2, _)] (.cons rfl .nil) (nn (rt (rb (tr (tr (rb (tr (r1 Tryd.results7 rfl ?_)))))))))))
               exact ⟨_, rfl, by rw [gar_e (by omega) (fun e => c1 (by rcases e with h | h; exact .inl (by omega); exact .inr (nrx.2 h))) hr (dup_no hd), mots_at (i := i) (by omega) hm (by omega)], (((((q1.next q3).next q4).next q9).next q12).next q13)⟩
             · refine sk (bn' (tn (rg (mv rfl rfl (s_add rfl rfl (wi6 (by omega)) rfl (asg rfl rfl (nl ?_)))))))
               exact lpE (i + 1) (.cons rfl (.cons rfl (.cons rfl .nil))) ⟨(q12.next q13), ⟨by omega, all_step hm (by omega)⟩⟩ (by omega)
           · obtain rfl : i = qs.length := by omega
             refine ex (te (te (xh (tn (sr (asg rfl rfl (nn (rt (r1 Tryd.results7 rfl ?_)))))))))
             exact ⟨_, rfl, by rw [gar_e (by omega) (fun e => c1 (by rcases e with h | h; exact .inl (by omega); exact .inr (nrx.2 h))) hr (dup_no hd), mots_no hm], ((((q1.next q3).next q4).next q9).next q12)⟩
theorem gd_l {α : Type} {l : List α} {j : Nat} {q d : α} (h : j < l.length) : (l ++ [q]).getD j d = l.getD j d := by
  rw [List.getD, List.getD, List.getElem?_append_left h]
theorem gd_r {α : Type} {l : List α} {j : Nat} {q d : α} (h : l.length = j) : (l ++ [q]).getD j d = q := by
  rw [List.getD, List.getElem?_append_right (by omega), h, Nat.sub_self]; rfl
theorem itm_snoc {size : Int} {qs : List PQ} {its : List IQ} {i : Nat} {q : IQ} (hl : its.length = i) (h : ∀ j, j < i → itmOf size (qs.getD j pq0).p (its.getD j iq0)) (hq : itmOf size (qs.getD i pq0).p q) : ∀ j, j < i + 1 → itmOf size (qs.getD j pq0).p ((its ++ [q]).getD j iq0) := fun j hj => by
  rcases Nat.lt_or_ge j i with h1 | h1
  · rw [gd_l (by omega)]; exact h j h1
  · obtain rfl : j = i := by omega
    rw [gd_r hl]; exact hq
theorem pcs_take {qs : List PQ} {i : Nat} (h : i < qs.length) : pcs (qs.take (i + 1)) = pcs (qs.take i) ++ [(qs.getD i pq0).p] := by
  unfold pcs; rw [take_one _ i pq0 h, List.map_append]; rfl
end Go.Proofs.YthehggmdcmpjeaaDoor
namespace Go.Lw
open Go.RowKit
section
variable {P : Program} {n : Nat} {L : List (Nat × Value)} {ds : List Nat} {w w' : World} {Q : Exit → Act → World → Prop} {ops : Array Oper} {rest : List Oper} {a : Act} {d : Nat} {ty T t : TypeId} {pos : String} {after : Array Edge} {v : Value} {x y : Operand}
end
end Go.Lw
namespace Go.Lw
open Go.RowKit
section
variable {P : Program} {n : Nat} {L : List (Nat × Value)} {ds : List Nat} {w w' : World} {Q : Exit → Act → World → Prop} {ops : Array Oper} {rest : List Oper} {a : Act} {d : Nat} {ty T t : TypeId} {pos : String} {after : Array Edge} {v : Value} {x y : Operand}
/-- copy into a slice of the call's own, from an element on. -/
theorem st_copyP {α : Type} {E : Enc α} {bytes base g m cap p k : Nat} {zs ys : List α} (h : AgM ds a n L) (hx : ev L x = some (.slice (some ((⟨g, 0, none⟩ : Addr).add (p * E.sz))) (m - p) (cap - p))) (hy : ev L y = some v) (ho : Own E T base w (.slice (some ⟨g, 0, none⟩) m cap) zs) (hs : Sl E w v ys) (hp : p ≤ m) (hk : k = min (m - p) ys.length) (he : ElemOf P t T E bytes) (hn : Nat.blt d n = true)
    (q : ∀ w', Own E T base w' (.slice (some ⟨g, 0, none⟩) m cap) (zs.take p ++ ys.take k ++ zs.drop (p + k)) → Fr [g] w w' → w'.heap.size = w.heap.size → ∀ a, AgM ds a n ((d, .int .i64 (k : Int)) :: L) → wpList P ops Q rest a w') : wpList P ops Q (⟨some d, .call ⟨.builtin .copy, #[x, y], #[t, t]⟩, ty, pos, after, none⟩ :: rest) a w := by
  obtain ⟨i, z, h1, h2, h3, h4, h5⟩ := he.info
  rcases ho with ⟨e, _⟩ | ⟨g', cap', cur, e, hb, hg, r1, r2, r3, r4⟩
  · cases e
  cases e
  obtain ⟨A0, c0, e0, _, hM0, _⟩ := id hs
  subst e0
  have hkl : k ≤ ys.length := by omega
  have hs2 := hs.take rfl (m := k) hkl (B := A0) (c' := c0) (by omega) hM0 (fun _ => rfl)
  obtain ⟨A, c, e2, hc, hM, hA⟩ := hs2.flat
  have hlk : (ys.take k).length = k := by rw [List.length_take]; omega
  rw [hlk] at e2
  simp only [Value.slice.injEq] at e2
  obtain ⟨rfl, -, rfl⟩ := e2
  obtain ⟨cs, hcs0⟩ : ∃ cs, (ys.take k).flatMap E.enc = cs := ⟨_, rfl⟩
  have hlen : cs.length = k * E.sz := by rw [← hcs0, E.flat_len, hlk]
  have hone := E.flat_one (ys.take k)
  rw [hcs0] at hone hA
  have hpk : p + k ≤ zs.length := by omega
  have hsz : p * E.sz + k * E.sz ≤ zs.length * E.sz := by rw [← Nat.add_mul]; exact Nat.mul_le_mul_right _ hpk
  have hcz : zs.length * E.sz ≤ cur.size := Nat.le_trans (Nat.mul_le_mul_right _ r1) r3
  have hst := run_storeCells_at P g (p * E.sz) T cs 0 cur w hg (by rw [hlen]; omega) hone
  rw [Nat.add_zero, hlen] at hst
  have hfc : (Builtin.firstCells E.sz k (.slice A0 ys.length c0)).run P w = .ok cs.toArray w := by
    by_cases hys : ys.take k = []
    · have h0 : k = 0 := by have := congrArg List.length hys; rw [hlk] at this; simpa using this
      have hc0 : cs = [] := by rw [← hcs0, hys]; rfl
      rw [h0, hc0]
      cases A0 with
      | none => simp [Builtin.firstCells]
      | some ad => simp [Builtin.firstCells, loadCells, loadCellsFrom]
    · obtain ⟨ad, rfl, hcs⟩ := hA hys
      have hload := run_loadCells_list (P := P) w ad cs hcs
      rw [hlen] at hload
      simpa [Builtin.firstCells] using hload
  have key : (Builtin.copy_ #[t, t] ty #[.slice (some ((⟨g, 0, none⟩ : Addr).add (p * E.sz))) (zs.length - p) (cap - p), .slice A0 ys.length c0]).run P w = .ok (.int .i64 (k : Int)) (w.setRow g (cur.toList.take (p * E.sz) ++ cs ++ cur.toList.drop (p * E.sz + k * E.sz)).toArray) := by
    rw [lit_add, Nat.zero_add]
    have hmin : Nat.min (zs.length - p) ys.length = k := hk.symm
    have hmin2 : Nat.min ys.length (zs.length - p) = k := (Nat.min_comm _ _).trans hk.symm
    simp only [Builtin.copy_, List.getElem?_toArray, List.getElem?_cons_zero, List.getElem?_cons_succ, Sem.run_bind, run_underlying he.und, Result.andThen_ok, Builtin.lenOf, Sem.run_pure, hmin, sizeOf, typeInfo]
    simp [h1, h3, hfc, hst, goInt, hmin2]
  obtain ⟨za, zb, zc, rfl, hza, hzb⟩ : ∃ za zb zc, zs = za ++ (zb ++ zc) ∧ za.length = p ∧ zb.length = k := ⟨zs.take p, (zs.drop p).take k, (zs.drop p).drop k, by rw [List.take_append_drop, List.take_append_drop], by rw [List.length_take]; omega, by rw [List.length_take, List.length_drop]; omega⟩
  have hnew : (za ++ (zb ++ zc)).take p ++ ys.take k ++ (za ++ (zb ++ zc)).drop (p + k) = za ++ (ys.take k ++ zc) := by
    rw [← hza, List.take_left, ← hzb, ← List.drop_drop, List.drop_left, List.drop_left, List.append_assoc]
  rw [hnew] at q
  have hl2 : (za ++ (ys.take k ++ zc)).length = (za ++ (zb ++ zc)).length := by simp only [List.length_append, hlk, hzb]
  have hcur : cur.toList = (za ++ (zb ++ zc)).flatMap E.enc ++ cur.toList.drop ((za ++ (zb ++ zc)).length * E.sz) := by
    rw [← r4, List.take_append_drop]
  have hfa : (za.flatMap E.enc).length = p * E.sz := by rw [E.flat_len, hza]
  have hfb : (zb.flatMap E.enc).length = k * E.sz := by rw [E.flat_len, hzb]
  have hrow : cur.toList.take (p * E.sz) ++ cs ++ cur.toList.drop (p * E.sz + k * E.sz) = (za ++ (ys.take k ++ zc)).flatMap E.enc ++ cur.toList.drop ((za ++ (zb ++ zc)).length * E.sz) := by
    generalize cur.toList.drop ((za ++ (zb ++ zc)).length * E.sz) = R at hcur ⊢
    rw [hcur]
    simp only [List.flatMap_append, List.append_assoc]
    rw [← hfa, List.take_left, ← hfb, ← List.drop_drop, List.drop_left, List.drop_left, hcs0]
  rw [hrow] at key
  refine st_ok h rfl rfl hn (w' := w.setRow g ((za ++ (ys.take k ++ zc)).flatMap E.enc ++ cur.toList.drop ((za ++ (zb ++ zc)).length * E.sz)).toArray) ?_ (q _ (.inr ⟨g, cap, _, by rw [hl2], hb, setRow_heap w g cur _ T (0, 0) hg, by rw [hl2]; exact r1, r2, ?_, ?_⟩) (Fr.setRow w g _) (by simp))
  · rw [exec_builtin]; unfold builtin
    simp only [List.map_toArray, List.map_cons, List.map_nil, h.eval hx, h.eval hy, Sem.run_bind, key, Result.andThen_ok, Sem.run_pure]
  · have e1 : ((za ++ (ys.take k ++ zc)).flatMap E.enc).length = (za ++ (zb ++ zc)).length * E.sz := by rw [E.flat_len, hl2]
    generalize (za ++ (ys.take k ++ zc)).flatMap E.enc = X at e1
    generalize (za ++ (zb ++ zc)).length * E.sz = M at e1 hcz
    simp only [List.size_toArray, List.length_append, List.length_drop, Array.length_toList]
    omega
  · show List.take _ _ = _
    rw [show (za ++ (ys.take k ++ zc)).length * E.sz = ((za ++ (ys.take k ++ zc)).flatMap E.enc).length by rw [E.flat_len]]
    exact List.take_left
theorem s_copyP {α : Type} {E : Enc α} {bytes base g m cap p k : Nat} {zs ys : List α} (hx : ev L x = some (.slice (some ((⟨g, 0, none⟩ : Addr).add (p * E.sz))) (m - p) (cap - p))) (hy : ev L y = some v) (ho : Own E T base w (.slice (some ⟨g, 0, none⟩) m cap) zs) (hs : Sl E w v ys) (hp : p ≤ m) (hk : k = min (m - p) ys.length) (he : ElemOf P t T E bytes) (hn : Nat.blt d n = true)
    (q : ∀ w', Own E T base w' (.slice (some ⟨g, 0, none⟩) m cap) (zs.take p ++ ys.take k ++ zs.drop (p + k)) → Fr [g] w w' → w'.heap.size = w.heap.size → WL P ops Q rest n ds w' ((d, .int .i64 (k : Int)) :: L)) : WL P ops Q (⟨some d, .call ⟨.builtin .copy, #[x, y], #[t, t]⟩, ty, pos, after, none⟩ :: rest) n ds w L := fun a h => st_copyP h hx hy ho hs hp hk he hn q
end
end Go.Lw
namespace Go.Proofs
open Go.Shelf
def Tryd.lays169_ren : Go.Shelf.Ren := ⟨fun | 169 => 34 | n => n, fun | 70 => 75 | 9 => 9 | 0 => 0 | 72 => 78 | 37 => 76 | 127 => 117 | 3 => 3 | 5 => 5 | n => n, fun | n => n⟩
theorem Tryd.lays169 : Go.Proofs.Lays.n169 Tryd.prog Tryd.lays169_ren := {
  mixed := by kernel_rfl
  f169 := Tryd.func34.trans (congrArg some (by kernel_rfl))
  t0 := Tryd.underlying0
  a0 := Tryd.isAgg0
  z0 := Tryd.sizeOf0
  v0 := Tryd.zeroValue0
  t3 := Tryd.underlying3
  a3 := Tryd.isAgg3
  z3 := Tryd.sizeOf3
  v3 := Tryd.zeroValue3
  t9 := Tryd.underlying9
  a9 := Tryd.isAgg9
  z9 := Tryd.sizeOf9
  v9 := Tryd.zeroValue9
  t37 := Tryd.underlying76
  a37 := Tryd.isAgg76
  z37 := Tryd.sizeOf76
  v37 := Tryd.zeroValue76
  t70 := Tryd.underlying75
  a70 := Tryd.isAgg75
  z70 := Tryd.sizeOf75
  v70 := Tryd.zeroValue75
  t72 := Tryd.underlying78
  a72 := Tryd.isAgg78
  z72 := Tryd.sizeOf78
  v72 := Tryd.zeroValue78
  t127 := Tryd.underlying117
  a127 := Tryd.isAgg117
  z127 := Tryd.sizeOf117
  v127 := Tryd.zeroValue117 }
theorem Tryd.Builder_Extra_169 : Builder.Extra Tryd.prog Tryd.lays169_ren := {
  sizeBuilder := by kernel_rfl
  liesBuilder := by kernel_rfl
  t5 := Tryd.underlying5
  a5 := Tryd.isAgg5
  z5 := Tryd.sizeOf5
  v5 := Tryd.zeroValue5
  infoByte := by kernel_rfl
  cellsByte := by kernel_rfl
  sizeByte := by kernel_rfl
  neB5 := by decide }
open Go.RowKit in
theorem Tryd.Builder_String_any (B b : Nat) (l : List UInt8) (w : World) (h : Lib.IsBuilder 78 5 B b (Lib.byteCells l) w) (hBw : B ≤ w.heap.size) :
    Calls Tryd.prog 34 #[.pointer (some ⟨b, 0, none⟩)] w fun e w' => e = .returned (.string ⟨l.toArray⟩) ∧ Below B w w' := Any.Builder_String_any Tryd.lays169 Tryd.Builder_Extra_169 B b l w h hBw
def Tryd.lays156_ren : Go.Shelf.Ren := ⟨fun | 156 => 57 | 165 => 77 | 166 => 31 | 169 => 34 | 240 => 54 | 241 => 93 | 276 => 74 | 277 => 104 | n => n, fun | 31 => 96 | 9 => 9 | 3 => 3 | 4 => 4 | 0 => 0 | 20 => 20 | 72 => 78 | 76 => 81 | 70 => 75 | 37 => 76 | 75 => 80 | 127 => 117 | 164 => 133 | 5 => 5 | 80 => 86 | n => n, fun | n => n⟩
theorem Tryd.lays156 : Go.Proofs.Lays.n156 Tryd.prog Tryd.lays156_ren := {
  mixed := by kernel_rfl
  f156 := Tryd.func57.trans (congrArg some (by kernel_rfl))
  f165 := Tryd.func77.trans (congrArg some (by kernel_rfl))
  f166 := Tryd.func31.trans (congrArg some (by kernel_rfl))
  f169 := Tryd.func34.trans (congrArg some (by kernel_rfl))
  f240 := Tryd.func54.trans (congrArg some (by kernel_rfl))
  f241 := Tryd.func93.trans (congrArg some (by kernel_rfl))
  f276 := Tryd.func74.trans (congrArg some (by kernel_rfl))
  f277 := Tryd.func104.trans (congrArg some (by kernel_rfl))
  t0 := Tryd.underlying0
  a0 := Tryd.isAgg0
  z0 := Tryd.sizeOf0
  v0 := Tryd.zeroValue0
  t3 := Tryd.underlying3
  a3 := Tryd.isAgg3
  z3 := Tryd.sizeOf3
  v3 := Tryd.zeroValue3
  t4 := Tryd.underlying4
  a4 := Tryd.isAgg4
  z4 := Tryd.sizeOf4
  v4 := Tryd.zeroValue4
  t9 := Tryd.underlying9
  a9 := Tryd.isAgg9
  z9 := Tryd.sizeOf9
  v9 := Tryd.zeroValue9
  t20 := Tryd.underlying20
  a20 := Tryd.isAgg20
  z20 := Tryd.sizeOf20
  v20 := Tryd.zeroValue20
  t31 := Tryd.underlying96
  a31 := Tryd.isAgg96
  z31 := Tryd.sizeOf96
  v31 := Tryd.zeroValue96
  t37 := Tryd.underlying76
  a37 := Tryd.isAgg76
  z37 := Tryd.sizeOf76
  v37 := Tryd.zeroValue76
  t70 := Tryd.underlying75
  a70 := Tryd.isAgg75
  z70 := Tryd.sizeOf75
  v70 := Tryd.zeroValue75
  t72 := Tryd.underlying78
  a72 := Tryd.isAgg78
  z72 := Tryd.sizeOf78
  v72 := Tryd.zeroValue78
  t75 := Tryd.underlying80
  a75 := Tryd.isAgg80
  z75 := Tryd.sizeOf80
  v75 := Tryd.zeroValue80
  t76 := Tryd.underlying81
  a76 := Tryd.isAgg81
  z76 := Tryd.sizeOf81
  v76 := Tryd.zeroValue81
  t127 := Tryd.underlying117
  a127 := Tryd.isAgg117
  z127 := Tryd.sizeOf117
  v127 := Tryd.zeroValue117
  t164 := Tryd.underlying133
  a164 := Tryd.isAgg133
  z164 := Tryd.sizeOf133
  v164 := Tryd.zeroValue133 }
theorem Tryd.Builder_Extra_156 : Builder.Extra Tryd.prog Tryd.lays156_ren := {
  sizeBuilder := by kernel_rfl
  liesBuilder := by kernel_rfl
  t5 := Tryd.underlying5
  a5 := Tryd.isAgg5
  z5 := Tryd.sizeOf5
  v5 := Tryd.zeroValue5
  infoByte := by kernel_rfl
  cellsByte := by kernel_rfl
  sizeByte := by kernel_rfl
  neB5 := by decide }
open Go.RowKit in
theorem Tryd.strings_Join (bk o c : Nat) (xs : List ByteArray) (sep : ByteArray) (w : World) (hcells : ∀ (j : Nat) x, xs[j]? = some x → w.cell? ⟨bk, o + j, none⟩ = some (.string x)) (hbk : bk < w.heap.size) (hN : xs.length ≤ 140737488355328) (hcap : xs.length ≤ c) (hlen : (Lib.join (xs.map (·.data.toList)) sep.data.toList).length ≤ 140737488355328) :
    Calls Tryd.prog 57 #[.slice (some ⟨bk, o, none⟩) xs.length c, .string sep] w fun e w' => e = .returned (.string ⟨(Lib.join (xs.map (·.data.toList)) sep.data.toList).toArray⟩) ∧ Below w.heap.size w w' := Any.strings_Join Tryd.lays156 Tryd.Builder_Extra_156 bk o c xs sep w hcells hbk hN hcap hlen
def Tryd.lays212_ren : Go.Shelf.Ren := ⟨fun | 212 => 64 | 263 => 81 | 264 => 82 | n => n, fun | 46 => 124 | 51 => 141 | 146 => 142 | 53 => 144 | 148 => 145 | n => n, fun | n => n⟩
theorem Tryd.lays212 : Go.Proofs.Lays.n212 Tryd.prog Tryd.lays212_ren := {
  mixed := by kernel_rfl
  f212 := Tryd.func64.trans (congrArg some (by kernel_rfl))
  f263 := Tryd.func81.trans (congrArg some (by kernel_rfl))
  f264 := Tryd.func82.trans (congrArg some (by kernel_rfl))
  t46 := Tryd.underlying124
  a46 := Tryd.isAgg124
  z46 := Tryd.sizeOf124
  v46 := Tryd.zeroValue124
  t51 := Tryd.underlying141
  a51 := Tryd.isAgg141
  z51 := Tryd.sizeOf141
  v51 := Tryd.zeroValue141
  t53 := Tryd.underlying144
  a53 := Tryd.isAgg144
  z53 := Tryd.sizeOf144
  v53 := Tryd.zeroValue144
  t146 := Tryd.underlying142
  a146 := Tryd.isAgg142
  z146 := Tryd.sizeOf142
  v146 := Tryd.zeroValue142
  t148 := Tryd.underlying145
  a148 := Tryd.isAgg145
  z148 := Tryd.sizeOf145
  v148 := Tryd.zeroValue145 }
open Go.RowKit Go.Lib in
theorem Tryd.bits_Mul (x y : Nat) (hx : x < 18446744073709551616) (hy : y < 18446744073709551616) (w : World) :
    Calls Tryd.prog 64 #[.int .u64 x, .int .u64 y] w fun e w' => e = .returned (.tuple #[.int .u64 ((x * y / 18446744073709551616 : Nat) : Int), .int .u64 ((x * y % 18446744073709551616 : Nat) : Int)]) ∧ w' = w := Any.bits_Mul Tryd.lays212 x y hx hy w
end Go.Proofs
namespace Go.Proofs.YthehggmdcmpjeaaDoor
open Go.Lw Go.G14
theorem co64 : CallOf Tryd.prog 64 := CallOf.mk' Tryd.func64 (by kernel_rfl) (by kernel_rfl)
theorem el140 : ElemOf Tryd.prog 140 34 encKq 24 := ElemOf.mk' (z := (.slice none 0 0)) Tryd.underlying140 (by kernel_rfl) rfl
theorem na34 : NotAgg Tryd.prog 34 := fun _ => by kernel_rfl
theorem joinc_ok (v : Value) (ks : List KQ) (w0 : World) (hs : Sl encKq w0 v ks) (hk : KsQ w0 ks) (hN : (ks.flatMap Prod.snd).length ≤ 1000000) : Rets Tryd.prog 62 #[v] w0 fun r w' => Lw.Own encCq 47 w0.heap.size w' r (ks.flatMap Prod.snd) ∧ Fr [] w0 w' := by
 obtain ⟨A, c, rfl, hcc, hM, hA⟩ := id hs
 clear hA
 unfold maxLen at hM
 refine we [(0, .slice A ks.length c)] Tryd.func62 rfl Tryd.ntmps62 rfl (.cons rfl .nil) ?_
 have hs0 := hs
 have hk0 := hk
 refine sr (asg rfl rfl (nn (sr (asg rfl rfl (nn (sq (sr (mv rfl rfl (lnS rfl Tryd.underlying140 rfl (mv rfl rfl (nn ?_)))))))))))
 refine bl ?_
 refine lpK (ι := Nat) [(0, _), (9, _), (10, _)] (fun i => [(11, .int .i64 (i : Int)), (3, .int .i64 (((ks.take i).flatMap Prod.snd).length : Int))]) (fun i w' => Fr [] w0 w' ∧ i ≤ ks.length) (fun i => ks.length - i) 0 (.cons rfl (.cons rfl (.cons rfl (.cons rfl (.cons rfl .nil))))) ⟨Fr.refl _ _, Nat.zero_le _⟩ ?_
 rintro i w1 ⟨q1, hi⟩
 have z1 := q1.size
 refine kpC [(0, _), (9, _), (10, _), (11, _), (3, _)] (.cons rfl (.cons rfl (.cons rfl (.cons rfl (.cons rfl .nil))))) ?_
 refine sr (lt' rfl rfl rfl (nn (sq ?_)))
 refine cd rfl (fun c0 => ?_) (fun c0 => ?_)
 · replace hk := hk0.ext q1
   have hpl := sl_len (hk (ks.getD i kq0) (getD_memS (by omega)))
   have hpM := (hk (ks.getD i kq0) (getD_memS (by omega))).len_le
   unfold maxLen at hpM
   have hfs := flat_succ Prod.snd ks i kq0 (by omega)
   have hfl := congrArg List.length hfs
   rw [List.length_append] at hfl
   have hf1 := flat_le Prod.snd ks (i + 1)
   refine sk (tn (sq (bl (sr ?_))))
   replace hs := hs0.ext q1
   refine s_idxL (kq0) rfl hs rfl el140 (by omega) (by omega) nat_of rfl (fun ad13 hc13 => ?_)
   refine s_loadC0 rfl (hc13 _ hs) na34 rfl (asg rfl rfl (nn (rg (mv rfl rfl (mv rfl rfl (lnS rfl Tryd.underlying34 rfl (s_add rfl rfl (wi6 (by omega)) rfl (asg rfl rfl (nl (bn' (tn ?_)))))))))))
   refine rg (s_add rfl rfl (wi6 (by omega)) rfl (mv rfl rfl (nl ?_)))
   exact lpE (i + 1) (.cons rfl (.cons rfl (.cons rfl (.cons rfl (.cons (congrArg (fun z => some (Value.int .i64 z)) (by omega)) .nil))))) ⟨q1, by omega⟩ (by omega)
 · obtain rfl : i = ks.length := by omega
   rw [List.take_length]
   refine ex (te (te (xh (tn (sr (mv rfl rfl ?_))))))
   refine s_makeSlice (m := 0) (c := (ks.flatMap Prod.snd).length) (cq0) rfl rfl el34 zv47 rfl (Nat.zero_le _) (by omega) (by unfold maxLen; omega) rfl (fun g21 w2 hg21 ho q2 z2 => ?_)
   replace ho := ho.low (b' := w0.heap.size) (by omega)
   refine asg rfl rfl (kpL [(0, _), (6, _)] (.cons rfl (.cons rfl .nil)) (nn (sq (sr (mv rfl rfl (lnS rfl Tryd.underlying140 rfl (mv rfl rfl (nn (bl ?_)))))))))
   refine lpK (ι := Nat × Value) [(22, _), (23, _)] (fun p => [(24, .int .i64 (p.1 : Int)), (6, p.2)]) (fun p w' => Fr [] w0 w' ∧ p.1 ≤ ks.length ∧ Lw.Own encCq 47 w0.heap.size w' p.2 ((ks.take p.1).flatMap Prod.snd)) (fun p => ks.length - p.1) (0, .slice (some ⟨g21, 0, none⟩) 0 (ks.flatMap Prod.snd).length) (.cons rfl (.cons rfl (.cons rfl (.cons rfl .nil)))) ⟨(q1.next q2), ⟨Nat.zero_le _, ho⟩⟩ ?_
   rintro ⟨i, vG⟩ w3 ⟨q3, ⟨hi, ho⟩⟩
   simp only at hi ho
   have z3 := q3.size
   refine kpC [(22, _), (23, _), (24, .int .i64 (i : Int)), (6, vG)] (.cons rfl (.cons rfl (.cons rfl (.cons rfl .nil)))) ?_
   refine sr (lt' rfl rfl rfl (nn (sq ?_)))
   refine cd rfl (fun c1 => ?_) (fun c1 => ?_)
   · replace hk := hk0.ext q3
     have hpl := sl_len (hk (ks.getD i kq0) (getD_memS (by omega)))
     have hpM := (hk (ks.getD i kq0) (getD_memS (by omega))).len_le
     unfold maxLen at hpM
     have hfs := flat_succ Prod.snd ks i kq0 (by omega)
     have hfl := congrArg List.length hfs
     rw [List.length_append] at hfl
     have hf1 := flat_le Prod.snd ks (i + 1)
     refine sk (tn (sq (bl (sr ?_))))
     replace hs := hs0.ext q3
     refine s_idxL (kq0) rfl hs rfl el140 (by omega) (by omega) nat_of rfl (fun ad26 hc26 => ?_)
     refine s_loadC0 rfl (hc26 _ hs) na34 rfl (asg rfl rfl (nn (rg (mv rfl rfl (mv rfl rfl ?_)))))
     have hoo30 := ho
     refine s_append rfl rfl ho (hk (ks.getD i kq0) (getD_memS (by omega))) el34 (by unfold maxLen; omega) (by omega) (by omega) rfl (fun v30 w4 ho q4 hor30 => ?_)
     have z4 := q4.size
     refine asg rfl rfl (nl (bn' (tn (rg (s_add rfl rfl (wi6 (by omega)) rfl (mv rfl rfl (nl ?_)))))))
     exact lpE ((i + 1, v30)) (.cons rfl (.cons rfl (.cons rfl (.cons rfl .nil)))) ⟨(q3.step q4 (fun k hk hlt => absurd (hoo30.blk k hk).1 (by omega))), ⟨by simp only; omega, by rw [hfs]; exact ho⟩⟩ (by simp only; omega)
   · obtain rfl : i = ks.length := by omega
     rw [List.take_length] at ho
     refine ex (te (te (xh (tn (sr (mv rfl rfl (asg rfl rfl (kpL [(2, _)] (.cons rfl .nil) (nn (rt (r1 Tryd.results62 rfl ?_)))))))))))
     exact ⟨_, rfl, ho, q3⟩
theorem joins_ok (v : Value) (ks : List RQ) (w0 : World) (hs : Sl encRq w0 v ks) (hk : RowsQ w0 ks) (hN : (ks.flatMap Prod.snd).length ≤ 1000000) : Rets Tryd.prog 63 #[v] w0 fun r w' => Lw.Own encSt 100 w0.heap.size w' r (ks.flatMap Prod.snd) ∧ Fr [] w0 w' := by
 obtain ⟨A, c, rfl, hcc, hM, hA⟩ := id hs
 clear hA
 unfold maxLen at hM
 refine we [(0, .slice A ks.length c)] Tryd.func63 rfl Tryd.ntmps63 rfl (.cons rfl .nil) ?_
 have hs0 := hs
 have hk0 := hk
 refine sr (asg rfl rfl (nn (sr (asg rfl rfl (nn (sq (sr (mv rfl rfl (lnS rfl Tryd.underlying45 rfl (mv rfl rfl (nn ?_)))))))))))
 refine bl ?_
 refine lpK (ι := Nat) [(0, _), (9, _), (10, _)] (fun i => [(11, .int .i64 (i : Int)), (3, .int .i64 (((ks.take i).flatMap Prod.snd).length : Int))]) (fun i w' => Fr [] w0 w' ∧ i ≤ ks.length) (fun i => ks.length - i) 0 (.cons rfl (.cons rfl (.cons rfl (.cons rfl (.cons rfl .nil))))) ⟨Fr.refl _ _, Nat.zero_le _⟩ ?_
 rintro i w1 ⟨q1, hi⟩
 have z1 := q1.size
 refine kpC [(0, _), (9, _), (10, _), (11, _), (3, _)] (.cons rfl (.cons rfl (.cons rfl (.cons rfl (.cons rfl .nil))))) ?_
 refine sr (lt' rfl rfl rfl (nn (sq ?_)))
 refine cd rfl (fun c0 => ?_) (fun c0 => ?_)
 · replace hk := hk0.ext q1
   have hpl := sl_len (hk (ks.getD i rq0) (getD_memS (by omega)))
   have hpM := (hk (ks.getD i rq0) (getD_memS (by omega))).len_le
   unfold maxLen at hpM
   have hfs := flat_succ Prod.snd ks i rq0 (by omega)
   have hfl := congrArg List.length hfs
   rw [List.length_append] at hfl
   have hf1 := flat_le Prod.snd ks (i + 1)
   refine sk (tn (sq (bl (sr ?_))))
   replace hs := hs0.ext q1
   refine s_idxL (rq0) rfl hs rfl er45 (by omega) (by omega) nat_of rfl (fun ad13 hc13 => ?_)
   refine s_loadC0 rfl (hc13 _ hs) na61 rfl (asg rfl rfl (nn (rg (mv rfl rfl (mv rfl rfl (lnS rfl Tryd.underlying61 rfl (s_add rfl rfl (wi6 (by omega)) rfl (asg rfl rfl (nl (bn' (tn ?_)))))))))))
   refine rg (s_add rfl rfl (wi6 (by omega)) rfl (mv rfl rfl (nl ?_)))
   exact lpE (i + 1) (.cons rfl (.cons rfl (.cons rfl (.cons rfl (.cons (congrArg (fun z => some (Value.int .i64 z)) (by omega)) .nil))))) ⟨q1, by omega⟩ (by omega)
 · obtain rfl : i = ks.length := by omega
   rw [List.take_length]
   refine ex (te (te (xh (tn (sr (mv rfl rfl ?_))))))
   refine s_makeSlice (m := 0) (c := (ks.flatMap Prod.snd).length) (zeroS) rfl rfl el61 zv100 rfl (Nat.zero_le _) (by omega) (by unfold maxLen; omega) rfl (fun g21 w2 hg21 ho q2 z2 => ?_)
   replace ho := ho.low (b' := w0.heap.size) (by omega)
   refine asg rfl rfl (kpL [(0, _), (6, _)] (.cons rfl (.cons rfl .nil)) (nn (sq (sr (mv rfl rfl (lnS rfl Tryd.underlying45 rfl (mv rfl rfl (nn (bl ?_)))))))))
   refine lpK (ι := Nat × Value) [(22, _), (23, _)] (fun p => [(24, .int .i64 (p.1 : Int)), (6, p.2)]) (fun p w' => Fr [] w0 w' ∧ p.1 ≤ ks.length ∧ Lw.Own encSt 100 w0.heap.size w' p.2 ((ks.take p.1).flatMap Prod.snd)) (fun p => ks.length - p.1) (0, .slice (some ⟨g21, 0, none⟩) 0 (ks.flatMap Prod.snd).length) (.cons rfl (.cons rfl (.cons rfl (.cons rfl .nil)))) ⟨(q1.next q2), ⟨Nat.zero_le _, ho⟩⟩ ?_
   rintro ⟨i, vG⟩ w3 ⟨q3, ⟨hi, ho⟩⟩
   simp only at hi ho
   have z3 := q3.size
   refine kpC [(22, _), (23, _), (24, .int .i64 (i : Int)), (6, vG)] (.cons rfl (.cons rfl (.cons rfl (.cons rfl .nil)))) ?_
   refine sr (lt' rfl rfl rfl (nn (sq ?_)))
   refine cd rfl (fun c1 => ?_) (fun c1 => ?_)
   · replace hk := hk0.ext q3
     have hpl := sl_len (hk (ks.getD i rq0) (getD_memS (by omega)))
     have hpM := (hk (ks.getD i rq0) (getD_memS (by omega))).len_le
     unfold maxLen at hpM
     have hfs := flat_succ Prod.snd ks i rq0 (by omega)
     have hfl := congrArg List.length hfs
     rw [List.length_append] at hfl
     have hf1 := flat_le Prod.snd ks (i + 1)
     refine sk (tn (sq (bl (sr ?_))))
     replace hs := hs0.ext q3
     refine s_idxL (rq0) rfl hs rfl er45 (by omega) (by omega) nat_of rfl (fun ad26 hc26 => ?_)
     refine s_loadC0 rfl (hc26 _ hs) na61 rfl (asg rfl rfl (nn (rg (mv rfl rfl (mv rfl rfl ?_)))))
     have hoo30 := ho
     refine s_append rfl rfl ho (hk (ks.getD i rq0) (getD_memS (by omega))) el61 (by unfold maxLen; omega) (by omega) (by omega) rfl (fun v30 w4 ho q4 hor30 => ?_)
     have z4 := q4.size
     refine asg rfl rfl (nl (bn' (tn (rg (s_add rfl rfl (wi6 (by omega)) rfl (mv rfl rfl (nl ?_)))))))
     exact lpE ((i + 1, v30)) (.cons rfl (.cons rfl (.cons rfl (.cons rfl .nil)))) ⟨(q3.step q4 (fun k hk hlt => absurd (hoo30.blk k hk).1 (by omega))), ⟨by simp only; omega, by rw [hfs]; exact ho⟩⟩ (by simp only; omega)
   · obtain rfl : i = ks.length := by omega
     rw [List.take_length] at ho
     refine ex (te (te (xh (tn (sr (mv rfl rfl (asg rfl rfl (kpL [(2, _)] (.cons rfl .nil) (nn (rt (r1 Tryd.results63 rfl ?_)))))))))))
     exact ⟨_, rfl, ho, q3⟩
theorem mul_ok (x y : Nat) (w0 : World) (h : x * y < 18446744073709551616) (hx : x < 18446744073709551616) (hy : y < 18446744073709551616) : Rets Tryd.prog 64 #[.int .u64 (x : Int), .int .u64 (y : Int)] w0 fun r w' => r = .tuple #[.int .u64 0, .int .u64 ((x * y : Nat) : Int)] ∧ w0 = w' := by
  refine Calls.mono (Tryd.bits_Mul x y hx hy w0) ?_
  rintro e w' ⟨rfl, rfl⟩
  exact ⟨_, rfl, by rw [Nat.div_eq_of_lt h, Nat.mod_eq_of_lt h]; rfl, rfl⟩
theorem mul1_ok (n : Nat) (w0 : World) (h : n < 1000000) : Rets Tryd.prog 64 #[.int .u64 1, .int .u64 (n : Int)] w0 fun r w' => r = .tuple #[.int .u64 0, .int .u64 (n : Int)] ∧ w0 = w' := by
  have := mul_ok 1 n w0 (by omega) (by omega) (by omega)
  rwa [Nat.one_mul] at this
set_option maxHeartbeats 1000000 in
theorem repeat_ok (v : Value) (q : CQ) (n : Nat) (w0 : World) (hs : Sl encCq w0 v [q]) (hn : 1 ≤ n ∧ n ≤ 1000) : Rets Tryd.prog 45 #[v, .int .i64 (n : Int)] w0 fun r w' => Lw.Own encCq 47 w0.heap.size w' r (List.replicate n q) ∧ Fr [] w0 w' := by
 obtain ⟨A, c, rfl, hcc, hM, hA⟩ := id hs
 clear hA
 obtain ⟨hn1, hn2⟩ := hn
 refine we [(0, .slice A 1 c), (1, .int .i64 (n : Int))] Tryd.func45 rfl Tryd.ntmps45 rfl (.cons rfl (.cons rfl .nil)) ?_
 have hs0 := hs
 refine sr (asg rfl rfl (nn (sq (sr (mv rfl rfl (lt' rfl rfl rfl (nn ?_)))))))
 refine cd rfl (fun c0 => ?_) (fun c0 => ?_)
 · exact absurd c0 (by omega)
 · refine sk (tn (sr (mv rfl rfl (lnS rfl Tryd.underlying34 rfl (s_conv rfl (us Tryd.underlying3) Tryd.underlying124 (IntWalk.u64_in _ (by omega)) rfl (mv rfl rfl (s_conv rfl (us Tryd.underlying3) Tryd.underlying124 (IntWalk.u64_in _ (by omega)) rfl ?_)))))))
   refine cl (ev2 rfl rfl) co64 (mul1_ok n _ (by omega)) rfl ?_
   rintro _ _ ⟨rfl, rfl⟩
   refine mv rfl rfl (xt rfl rfl rfl (xt rfl rfl rfl (asg rfl rfl (asg rfl rfl (kpL [(0, _), (5, _), (6, _)] (.cons rfl (.cons rfl (.cons rfl .nil))) (nn (sq (sq ?_))))))))
   refine rbo (r := 26) (L' := [(0, _), (6, _)]) (((0 < 0) ∨ (9223372036854775807 < (n : Int)))) (.cons rfl (.cons rfl .nil)) ?_ ?_
   · refine mv rfl rfl (gt' rfl rfl rfl (mv rfl rfl ?_))
     refine gs 23 rfl (fun g0 => ?_) (fun g0 => ?_)
     · exact gN rfl rfl rfl (gN rfl rfl rfl (pkt rfl rfl rfl rfl (rbe rfl (by first | exact bt (by omega) | exact bf (by omega) | exact bi (by omega) | exact bn (by omega) | (simp_all; done) | (simp_all; omega)) (.cons rfl (.cons rfl .nil)))))
     · exact gY rfl (mv rfl rfl (gY rfl (gt' rfl rfl rfl (pkf rfl rfl rfl rfl (rbe rfl (by first | exact bt (by omega) | exact bf (by omega) | exact bi (by omega) | exact bn (by omega) | (simp_all; done) | (simp_all; omega)) (.cons rfl (.cons rfl .nil)))))))
   · refine tn ?_
     refine cd rfl (fun c1 => ?_) (fun c1 => ?_)
     · exact absurd c1 (by omega)
     · refine sk (tn (sr (mv rfl rfl (s_conv rfl (us Tryd.underlying124) Tryd.underlying3 (wi6 (by omega)) rfl ?_))))
       refine s_makeSlice (m := n) (c := n) (cq0) rfl rfl el34 zv47 rfl (Nat.le_refl _) (by omega) (by unfold maxLen; omega) rfl (fun g30 w1 hg30 ho q1 z1 => ?_)
       refine asg rfl rfl (nn (sr (mv rfl rfl (mv rfl rfl ?_))))
       replace hs := hs0.ext q1
       refine s_copyP (p := 0) (k := 1) (m := n) (cap := n) (by rw [Nat.zero_mul, lit_add]; rfl) rfl ho hs (Nat.zero_le _) (by simp; omega) el34 rfl (fun w2 ho q2 z2 => ?_)
       replace ho : Lw.Own encCq 47 g30 w2 (.slice (some ⟨g30, 0, none⟩) n n) (List.replicate 1 q ++ List.replicate (n - 1) cq0) := by simpa using ho
       refine asg rfl rfl (nn (sq (bl ?_)))
       refine lpK (ι := Nat) [(7, _)] (fun m => [(8, .int .i64 (m : Int))]) (fun m w' => Fr [g30] w2 w' ∧ (1 ≤ m ∧ m ≤ n) ∧ Lw.Own encCq 47 g30 w' (.slice (some ⟨g30, 0, none⟩) n n) (List.replicate m q ++ List.replicate (n - m) cq0)) (fun m => n - m) 1 (.cons rfl (.cons rfl .nil)) ⟨Fr.refl _ _, ⟨⟨by omega, by omega⟩, ho⟩⟩ ?_
       rintro m w3 ⟨q3, ⟨hm, ho⟩⟩
       have z3 := q3.size
       refine kpC [(7, _), (8, _)] (.cons rfl (.cons rfl .nil)) ?_
       refine sq (sr (mv rfl rfl (mv rfl rfl (lnS rfl Tryd.underlying34 rfl (lt' rfl rfl rfl (nn ?_))))))
       refine cd rfl (fun c2 => ?_) (fun c2 => ?_)
       · refine sk (tn (bl ?_))
         intro a h
         have qh9 := Fr.refl [g30] w3
         refine region_held (fun wb w' => Fr [g30] wb w') hmix ?_; intro w4 hq
         have z4 := hq.size
         replace ho := ho.ext hq
         replace qh9 := qh9.next hq
         have hsz := hq.size; clear hq; have hC : Fr [g30] w4 w4 := Fr.refl _ _
         have ho_b := ho
         refine hd_move 0 (by kernel_rfl) (by kernel_rfl) (by kernel_rfl) hC h wn rfl rfl rfl ?_; clear h a; intro a h
         refine hd_move 1 (by kernel_rfl) (by kernel_rfl) (by kernel_rfl) hC h wn rfl rfl rfl ?_; clear h a; intro a h
         refine hd_move 2 (by kernel_rfl) (by kernel_rfl) (by kernel_rfl) hC h wn rfl rfl rfl ?_; clear h a; intro a h
         refine hd_sl_l 3 (by kernel_rfl) (by kernel_rfl) (by kernel_rfl) hC h wn rfl rfl el34 (by omega) (by omega) rfl rfl rfl ?_; clear h a; intro a h
         refine hd_move 4 (by kernel_rfl) (by kernel_rfl) (by kernel_rfl) hC h wn rfl rfl rfl ?_; clear h a; intro a h
         refine hd_move 5 (by kernel_rfl) (by kernel_rfl) (by kernel_rfl) hC h wn rfl rfl rfl ?_; clear h a; intro a h
         refine hd_sl_h 6 (by kernel_rfl) (by kernel_rfl) (by kernel_rfl) hC h wn rfl rfl el34 (by omega) (by omega) rfl rfl rfl ?_; clear h a; intro a h
         refine hd_one 7 (by kernel_rfl) rfl ?_
         refine st_copyP (p := m) (k := min (n - m) m) (m := n) (cap := n) h (by show some (Value.slice (if n = m then _ else _) _ _) = _; rw [if_neg (by omega)]; rfl) rfl ho (by have := ho.sl.take rfl (m := m) (by simp) (B := some ⟨g30, 0, none⟩) (c' := n) (by omega) (by unfold maxLen; omega) (fun _ => rfl); rwa [List.take_append_of_le_length (by simp), List.take_of_length_le (by simp)] at this) (by omega) (by simp) el34 rfl ?_; clear h a; intro w5 ho2 hq hz a h
         rw [rep_copy q cq0 rfl (by omega)] at ho2
         have z5 := hq.size
         replace qh9 := qh9.step hq (by first | (simp; done) | (simp; omega))
         replace hC := hC.step hq (by first | (simp; done) | (simp; omega))
         clear hq hz ho; have ho := ho2; clear ho2
         refine hd_next hC ?_
         refine hd_add 8 (by kernel_rfl) (by kernel_rfl) (by kernel_rfl) hC h wn rfl rfl (by first | exact IntWalk.i64_in _ (by omega) | rfl) rfl rfl ?_; clear h a; intro a h
         refine hd_one 9 (by kernel_rfl) rfl ?_
         refine st_assign h rfl rfl ?_; clear h a; intro a h
         refine hd_next hC ?_
         refine hd_end (by kernel_rfl) ?_
         clear hC ho_b
         have z5 := qh9.size
         refine bk (h.sub (L' := [(7, _), (8, _)]) (.cons rfl (.cons rfl .nil))) ?_; clear h a
         refine bn' ?_
         exact lpE (m + min (n - m) m) (.cons rfl (.cons (congrArg (fun z => some (Value.int .i64 z)) (by omega)) .nil)) ⟨(((Fr.refl [g30] _).step q3 (by first | (simp; done) | (simp; omega))).step qh9 (by first | (simp; done) | (simp; omega))), ⟨by omega, ho⟩⟩ (by omega)
       · obtain rfl : n = m := by omega
         rw [Nat.sub_self, List.replicate_zero, List.append_nil] at ho
         refine ex (te (te (xh (tn (sr (mv rfl rfl (asg rfl rfl (nn (rt (r1 Tryd.results45 rfl ?_))))))))))
         exact ⟨_, rfl, ho.low (by omega), ((q1.step q2 (by first | (simp; done) | (simp; omega))).step q3 (by first | (simp; done) | (simp; omega)))⟩
theorem edge_ok (q : CQ) (w0 : World) (hl : q.1.2.1 = q.2.length) : Rets Tryd.prog 60 #[.agg #[.slice q.1.1 q.1.2.1 q.1.2.2]] w0 fun r w' => ∃ A c, r = .slice A (edgeL q).length c ∧ Lw.Own encCq 47 w0.heap.size w' (.slice A (edgeL q).length c) (edgeL q) ∧ Fr [] w0 w' := by
 refine we [(0, .agg #[.slice q.1.1 q.1.2.1 q.1.2.2])] Tryd.func60 rfl Tryd.ntmps60 rfl (.cons rfl .nil) ?_
 refine sr (bx rfl rfl rfl (fun g1 w1 hg1 hb1 q1 z1 => ?_))
 refine asg rfl rfl (nn (sq (sr (fad rfl fa47_0 rfl (s_loadB rfl hb1 rfl na45 rfl (lnS rfl Tryd.underlying45 rfl (eq' rfl rfl rfl (nn ?_))))))))
 refine cd rfl (fun c0 => ?_) (fun c0 => ?_)
 · refine sr (asg rfl rfl (nn (rt (tr (r1 Tryd.results60 rfl ?_)))))
   exact ⟨_, rfl, none, 0, by rw [edgeL, if_pos (by omega)]; rfl, by rw [edgeL, if_pos (by omega)]; exact Own.nil _, q1⟩
 · refine sk (tn (sr (s_loadBA rfl hb1 ag47 rfl (s_bslice ([q]) (ev1 rfl) rfl rfl rfl el34 (Nat.le_of_ble_eq_true rfl) rfl (fun g8 w2 hg8 ho8 q2 z2 => ?_)))))
   refine asg rfl rfl (nn (rt (r1 Tryd.results60 rfl ?_)))
   have he : edgeL q = [q] := by rw [edgeL, if_neg (by omega)]
   exact ⟨_, rfl, _, _, by rw [he], by rw [he]; exact ho8.low (by omega), (q1.next q2)⟩
end Go.Proofs.YthehggmdcmpjeaaDoor
namespace Go.Lw
open Go.RowKit
section
variable {P : Program} {n N : Nat} {r : Option Nat} {L : List (Nat × Value)} {ds : List Nat} {w w' : World} {Q : Exit → Act → World → Prop} {ops : Array Oper} {rest : List Oper} {a : Act} {x y c : Code} {id : Nat}
theorem inl (h : EW Q .normal n ds w L) : WL P ops (NormEnd (Q .normal)) [] n ds w L := fun a ha => nm_end (h a ha)
end
end Go.Lw
namespace Go.Lw
open Go.RowKit
section
variable {P : Program} {n N : Nat} {ro : Option Nat} {L : List (Nat × Value)} {ds : List Nat} {w w' : World} {Q : Exit → Act → World → Prop} {ops : Array Oper} {rest : List Oper} {a : Act} {x y c : Code} {id : Nat}
section
variable {R : Ending → World → Prop} {fn : Func} {t u : Nat} {v z : Value}
end
/-- The block D holds no deferred call. -/
def DefAt (D : Nat) (w : World) : Prop := w.heap[D]? = some (.deferred (some []))
theorem DefAt.ext {D : Nat} (h : DefAt D w) (hf : Fr [] w w') : DefAt D w' := (hf.block D (Array.getElem?_eq_some_iff.1 h).1 (by simp)).trans h
theorem DefAt.fr {D : Nat} {S : List Nat} (h : DefAt D w) (hf : Fr S w w') (hS : D ∉ S) : DefAt D w' := (hf.block D (Array.getElem?_eq_some_iff.1 h).1 hS).trans h
theorem DefAt.lt {D : Nat} (h : DefAt D w) : D < w.heap.size := (Array.getElem?_eq_some_iff.1 h).1
/-- What the loop's body says of the list of rounds, where the iterator lets it stand. -/
def JAt {β : Type} (J : β → World → Prop) (B : Nat) (s : β) (w : World) : Prop := J s w ∧ AbidesFrom B J
theorem JAt.ext {β : Type} {J : β → World → Prop} {B : Nat} {s : β} (h : JAt J B s w) (hf : Fr [] w w') : JAt J B s w' :=
  ⟨h.2 s w w' none h.1 ⟨hf.os, hf.tape, hf.output, hf.size, fun k hk _ => hf.block k hk (by simp)⟩ (fun r e => by cases e), h.2⟩
theorem Keep.ext {B : List Nat} (hf : Fr [] w w') (hB : ∀ b ∈ B, b < w.heap.size) : Keep B w w' := fun b hb => hf.block b (hB b hb) (by simp)
theorem Keep.fr {B S : List Nat} (hf : Fr S w w') (hB : ∀ b ∈ B, b < w.heap.size) (hS : ∀ b ∈ B, b ∉ S) : Keep B w w' := fun b hb => hf.block b (hB b hb) (hS b hb)
/-- What a round keeps: the blocks of B, and all blocks that hold values of the types Ts. -/
def KeepT (Ts B : List Nat) (W W' : World) : Prop := Keep B W W' ∧ ∀ (b : Nat) (cs : Array Value) (T : TypeId) (f : Nat × Nat), T ∈ Ts → W.heap[b]? = some (.cells cs T f) → W'.heap[b]? = some (.cells cs T f)
theorem KeepT.trans {Ts B : List Nat} {w'' : World} (h : KeepT Ts B w w') (k : KeepT Ts B w' w'') : KeepT Ts B w w'' := ⟨fun b hb => (k.1 b hb).trans (h.1 b hb), fun b cs T f hT hc => k.2 b cs T f hT (h.2 b cs T f hT hc)⟩
theorem KeepT.ext {Ts B : List Nat} (hf : Fr [] w w') (hB : ∀ b ∈ B, b < w.heap.size) : KeepT Ts B w w' := ⟨Keep.ext hf hB, fun b cs T f _ hc => (hf.block b (Array.getElem?_eq_some_iff.1 hc).1 (by simp)).trans hc⟩
theorem KeepT.fr {Ts B S : List Nat} (hf : Fr S w w') (hB : ∀ b ∈ B, b < w.heap.size) (hd : ∀ b ∈ B, b ∉ S) (hS : ∀ k ∈ S, k < w.heap.size → ∃ cs T f, w.heap[k]? = some (.cells cs T f) ∧ T ∉ Ts) : KeepT Ts B w w' :=
  ⟨Keep.fr hf hB hd, fun b cs T f hT hc => (hf.block b (Array.getElem?_eq_some_iff.1 hc).1 (fun e => by
    obtain ⟨cs', T', f', h1, h2⟩ := hS b e (Array.getElem?_eq_some_iff.1 hc).1
    rw [hc] at h1; cases h1; exact h2 hT)).trans hc⟩
theorem KeepT.put {Ts B : List Nat} {l : Nat} {o o' : Obj} (hl : w.heap[l]? = some o) (ho : o.isCells = false) (hB : ∀ b ∈ B, b ≠ l) : KeepT Ts B w (w.putObj l o') :=
  ⟨fun b hb => World.putObj_heap_other (hB b hb), fun b cs T f _ hc => (World.putObj_heap_other (by rintro rfl; rw [hl] at hc; cases hc; cases ho)).trans hc⟩
end
end Go.Lw
namespace Go.Lw
open Go.RowKit
section
variable {P : Program} {n N : Nat} {L : List (Nat × Value)} {ds : List Nat} {w w' : World} {Q : Exit → Act → World → Prop}
/-- A block of another type is none of a slice's. -/
theorem Own.neB {α : Type} {E : Enc α} {T T' base g : Nat} {v : Value} {ys : List α} {cs : List Value} (h : Own E T base w v ys) (hb : Blk w g T' cs) (hT : T ≠ T') : g ∉ blks v := by
  rcases h with ⟨rfl, rfl⟩ | ⟨g', cap, cur, rfl, _, hg, _⟩
  · intro e; cases e
  · intro e
    simp [blks] at e; subst e
    rw [show w.heap[g]? = _ from hb] at hg
    cases hg; exact hT rfl
end
end Go.Lw
