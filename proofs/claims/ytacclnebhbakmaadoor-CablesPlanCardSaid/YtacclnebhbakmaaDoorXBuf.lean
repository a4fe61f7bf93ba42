/- strings.Builder, for a walk by live slots: the operations of its methods. Conditions: none; each law is over any program. -/
import Derived.Test.YtacclnebhbakmaaDoorXShelf
import Derived.Lib.Builder
import Derived.Lib.AppendStr
import Derived.Laws.Pointers
import Derived.Laws.Externs
set_option linter.unusedVariables false
set_option linter.unusedSimpArgs false
namespace Go.Lw
open Go.RowKit
theorem Blk.of_below {w w' : World} {g B : Nat} {T : TypeId} {cs : List Value} (h : Blk w g T cs) (hb : Below B w w') (hg : g < B) : Blk w' g T cs := by
  unfold Blk at h ⊢; rw [hb.block g hg]; exact h
theorem Fr.of_below' {w w' : World} {B : Nat} (hb : Below B w w') (hB : w.heap.size ≤ B) : Fr [] w w' := ⟨hb.os, hb.tape, hb.output, hb.size, fun k hk _ => hb.block k (by omega)⟩
theorem Fr.then_below {w0 w w' : World} {B : Nat} (hf : Fr [] w0 w) (hb : Below B w w') (hB : w0.heap.size ≤ B) : Fr [] w0 w' :=
  ⟨hb.os.trans hf.os, hb.tape.trans hf.tape, hb.output.trans hf.output, Nat.le_trans hf.size hb.size, fun k hk hn => (hb.block k (by omega)).trans (hf.block k hk hn)⟩
theorem below_of_fr {w w' : World} {B : Nat} {S : List Nat} (hf : Fr S w w') (hS : ∀ k ∈ S, B ≤ k) (hB : B ≤ w.heap.size) : Below B w w' :=
  ⟨hf.os, hf.tape, hf.output, hf.size, fun k hk => hf.block k (by omega) (fun e => by have := hS k e; omega)⟩
theorem bAt_fr {T e : TypeId} {B b : Nat} {p : Value} {bs : List Value} {w w' : World} (h : Lib.BuilderAt T e B b p bs w) (hf : Fr [] w w') : Lib.BuilderAt T e B b p bs w' := by
  obtain ⟨hB, v, hb, ⟨hl, hown⟩, hne⟩ := h
  have hblk : ∀ k o, w.heap[k]? = some o → w'.heap[k]? = some o := fun k o hk => by
    rw [hf.block k (Array.getElem?_eq_some_iff.1 hk).1 (by simp)]; exact hk
  refine ⟨hB, v, hblk _ _ hb, ⟨hl, ?_⟩, hne⟩
  rcases hown with h1 | ⟨g, cap, cur, h1, h2, h3, r⟩
  · exact .inl h1
  · exact .inr ⟨g, cap, cur, h1, h2, hblk _ _ h3, r⟩
theorem isB_fr {T e : TypeId} {B b : Nat} {bs : List Value} {w w' : World} (h : Lib.IsBuilder T e B b bs w) (hf : Fr [] w w') : Lib.IsBuilder T e B b bs w' := h.imp (bAt_fr · hf) (bAt_fr · hf)
theorem own_fr {w w' : World} {S : List Nat} {B : Nat} {e : TypeId} {v : Value} {n : Nat} {xs : List Value} (h : w.ownsRow B e 1 v n xs) (hf : Fr S w w') (hS : ∀ g ∈ S, v.ownBlock ≠ some g) : w'.ownsRow B e 1 v n xs := by
  obtain ⟨hl, hown⟩ := h
  refine ⟨hl, ?_⟩
  rcases hown with h1 | ⟨g, cap, cur, rfl, h2, h3, r⟩
  · exact .inl h1
  · exact .inr ⟨g, cap, cur, rfl, h2, by rw [hf.block g (Array.getElem?_eq_some_iff.1 h3).1 (fun e => hS g e rfl)]; exact h3, r⟩
theorem fr_grown {w w' : World} {r : Option Nat} (h : w.grownBy w' r) : Fr r.toList w w' :=
  ⟨h.os, h.tape, h.output, h.size, fun k hk hn => h.block k hk (fun e => hn (by simp [← e]))⟩
theorem own_ge {w : World} {B : Nat} {e : TypeId} {v : Value} {n : Nat} {xs : List Value} (h : w.ownsRow B e 1 v n xs) : ∀ k ∈ v.ownBlock.toList, B ≤ k := by
  obtain ⟨-, ⟨rfl, -⟩ | ⟨g, cap, cur, rfl, h2, -⟩⟩ := h
  · simp [Value.ownBlock]
  · simpa [Value.ownBlock] using h2
theorem own_one {w : World} {B : Nat} {e : TypeId} {v : Value} {n : Nat} {xs : List Value} (h : w.ownsRow B e 1 v n xs) : v.oneCell' = true ∧ v.cells = #[v] := by
  obtain ⟨-, ⟨rfl, -⟩ | ⟨g, cap, cur, rfl, -⟩⟩ := h <;> exact ⟨rfl, rfl⟩
/-- The builder's fact after a store into its block. -/
theorem bAt_mk {T e : TypeId} {B b : Nat} {p v : Value} {bs : List Value} {w w' : World} (hB : B ≤ b) (hb : Blk w' b T [p, v]) (ho : w.ownsRow B e 1 v bs.length bs) (hf : Fr [b] w w') (hne : v.ownBlock ≠ some b) : Lib.BuilderAt T e B b p bs w' :=
  ⟨hB, v, hb, own_fr ho hf (fun g hg => by rw [List.mem_singleton.1 hg]; exact hne), hne⟩
theorem row_str {w : World} {B : Nat} {e : TypeId} {v : Value} {l s : List UInt8} (h : w.ownsRow B e 1 v (l.length + s.length) (Lib.byteCells l ++ Lib.strCells ⟨s.toArray⟩)) : w.ownsRow B e 1 v (Lib.byteCells (l ++ s)).length (Lib.byteCells (l ++ s)) := by
  have e : Lib.byteCells l ++ Lib.strCells ⟨s.toArray⟩ = Lib.byteCells (l ++ s) := by simp [Lib.byteCells, Lib.strCells]
  rw [Lib.byteCells_length, List.length_append, ← e]; exact h
theorem cell_one {w : World} {B g k : Nat} {T : TypeId} {c : UInt8} (h : Own Enc.b T B w (.slice (some ⟨g, 0, none⟩) 1 k) [c]) : ∀ j u, (Lib.strCells ⟨[c].toArray⟩)[j]? = some u → w.cell? ((⟨g, 0, none⟩ : Addr).add j) = some u := by
  obtain ⟨A, cc, e, -, -, h3⟩ := h.sl
  obtain ⟨ad, rfl, hc⟩ := h3 0 c rfl
  cases e
  intro j u hu
  have := hc j u hu
  rw [Nat.zero_mul, lit_add, lit_add, Nat.zero_add] at this
  rw [lit_add, Nat.zero_add]; exact this
section
variable {P : Program} {a : Act} {n : Nat} {L : List (Nat × Value)} {ds : List Nat} {w w' : World} {Q : Exit → Act → World → Prop} {ops : Array Oper} {rest : List Oper}
variable {d : Nat} {ty : TypeId} {pos : String} {after : Array Edge} {x y : Operand} {t t' T T' : TypeId} {v : Value} {ad : Addr} {po : Option Addr}
theorem st_eqnilP (h : AgM ds a n L) (hx : ev L x = some (.pointer po)) (hu : P.underlying t = some (.pointer T)) (hn : Nat.blt d n = true) (q : ∀ a, AgM ds a n ((d, .bool po.isNone) :: L) → wpList P ops Q rest a w) :
    wpList P ops Q (⟨some d, .binOp .eql t x (.const (.pointer none)) t', ty, pos, after, none⟩ :: rest) a w :=
  st_ok h rfl rfl hn (by
    have hp : P.pointee t = T := by simp [Program.pointee, hu]
    have h3 := run_eql_pointer_nil (P := P) (w := w) t po (by rw [hp]; exact hu)
    have h4 : a.eval (.const (.pointer none)) = .pointer none := rfl
    simp [execOp, h.eval hx, h4, eqGuard, h3]) q
theorem s_eqnilP (hx : ev L x = some (.pointer po)) (hu : P.underlying t = some (.pointer T)) (hn : Nat.blt d n = true) (q : WL P ops Q rest n ds w ((d, .bool po.isNone) :: L)) : WL P ops Q (⟨some d, .binOp .eql t x (.const (.pointer none)) t', ty, pos, after, none⟩ :: rest) n ds w L := fun a h => st_eqnilP h hx hu hn q -- short
theorem st_neSameP {j : TypeInfo} (h : AgM ds a n L) (hx : ev L x = some (.pointer (some ad))) (hy : ev L y = some (.pointer (some ad))) (hu : P.underlying t = some (.pointer T)) (hi : P.info? T = some j) (hn : Nat.blt d n = true)
    (q : ∀ a, AgM ds a n ((d, .bool false) :: L) → wpList P ops Q rest a w) : wpList P ops Q (⟨some d, .binOp .neq t x y t', ty, pos, after, none⟩ :: rest) a w :=
  st_ok h rfl rfl hn (by
    have h3 := Lib.run_neq_ptr_same (P := P) (w := w) ad hu hi
    simp [execOp, h.eval hx, h.eval hy, eqGuard, h3]) q
theorem s_neSameP {j : TypeInfo} (hx : ev L x = some (.pointer (some ad))) (hy : ev L y = some (.pointer (some ad))) (hu : P.underlying t = some (.pointer T)) (hi : P.info? T = some j) (hn : Nat.blt d n = true) (q : WL P ops Q rest n ds w ((d, .bool false) :: L)) : WL P ops Q (⟨some d, .binOp .neq t x y t', ty, pos, after, none⟩ :: rest) n ds w L := fun a h => st_neSameP h hx hy hu hi hn q -- short
theorem st_toUnsafe {j : TypeInfo} {E cells : Nat} (h : AgM ds a n L) (hx : ev L x = some (.pointer (some ad))) (hs : P.underlying t = some (.pointer T)) (hd : P.underlying t' = some .unsafePointer) (hi : P.info? T = some j) (hj : j.size ≠ 0) (hsh : w.shape? ad.block = some (E, cells)) (ho : ad.off < cells) (hn : Nat.blt d n = true)
    (q : ∀ a, AgM ds a n ((d, .pointer (some ad)) :: L) → wpList P ops Q rest a w) : wpList P ops Q (⟨some d, .convert t t' x, ty, pos, after, none⟩ :: rest) a w :=
  st_ok h rfl rfl hn (by
    have h3 := Lib.run_to_unsafe (P := P) (w := w) ad hs hd hi hj hsh ho
    simp [execOp, h.eval hx, h3]) q
theorem s_toUnsafe {j : TypeInfo} {E cells : Nat} (hx : ev L x = some (.pointer (some ad))) (hs : P.underlying t = some (.pointer T)) (hd : P.underlying t' = some .unsafePointer) (hi : P.info? T = some j) (hj : j.size ≠ 0) (hsh : w.shape? ad.block = some (E, cells)) (ho : ad.off < cells) (hn : Nat.blt d n = true) (q : WL P ops Q rest n ds w ((d, .pointer (some ad)) :: L)) : WL P ops Q (⟨some d, .convert t t' x, ty, pos, after, none⟩ :: rest) n ds w L := fun a h => st_toUnsafe h hx hs hd hi hj hsh ho hn q -- short
theorem st_fromUnsafe {j : TypeInfo} {E cells : Nat} (h : AgM ds a n L) (hx : ev L x = some (.pointer (some ad))) (hs : P.underlying t = some .unsafePointer) (hd : P.underlying t' = some (.pointer T)) (hi : P.info? T = some j) (hsh : w.shape? ad.block = some (E, cells)) (hl : liesAt P P.depth E (cells / P.cellsOf E) ad.off T 1 = true) (hn : Nat.blt d n = true)
    (q : ∀ a, AgM ds a n ((d, .pointer (some ad)) :: L) → wpList P ops Q rest a w) : wpList P ops Q (⟨some d, .convert t t' x, ty, pos, after, none⟩ :: rest) a w :=
  st_ok h rfl rfl hn (by
    have h3 := Lib.run_from_unsafe (P := P) (w := w) ad hs hd hi hsh hl
    simp [execOp, h.eval hx, h3]) q
theorem s_fromUnsafe {j : TypeInfo} {E cells : Nat} (hx : ev L x = some (.pointer (some ad))) (hs : P.underlying t = some .unsafePointer) (hd : P.underlying t' = some (.pointer T)) (hi : P.info? T = some j) (hsh : w.shape? ad.block = some (E, cells)) (hl : liesAt P P.depth E (cells / P.cellsOf E) ad.off T 1 = true) (hn : Nat.blt d n = true) (q : WL P ops Q rest n ds w ((d, .pointer (some ad)) :: L)) : WL P ops Q (⟨some d, .convert t t' x, ty, pos, after, none⟩ :: rest) n ds w L := fun a h => st_fromUnsafe h hx hs hd hi hsh hl hn q -- short
/-- A call of a function without a body that returns its argument. -/
theorem st_same {f : FuncId} {ts : Array TypeId} (h : AgM ds a n L) (hx : ev L x = some v) (hf : ∀ (u : Value) (w : World), (callFunc f #[u]).run P w = .ok (.value u) w) (hn : Nat.blt d n = true)
    (q : ∀ a, AgM ds a n ((d, v) :: L) → wpList P ops Q rest a w) : wpList P ops Q (⟨some d, .call ⟨.value (.func f), #[x], ts⟩, ty, pos, after, none⟩ :: rest) a w :=
  st_ok h rfl rfl hn (by
    rw [execOp_call_go]
    simp only [List.map_toArray, List.map_cons, List.map_nil, h.eval hx]
    exact hf v w) q
theorem s_same {f : FuncId} {ts : Array TypeId} (hx : ev L x = some v) (hf : ∀ (u : Value) (w : World), (callFunc f #[u]).run P w = .ok (.value u) w) (hn : Nat.blt d n = true) (q : WL P ops Q rest n ds w ((d, v) :: L)) : WL P ops Q (⟨some d, .call ⟨.value (.func f), #[x], ts⟩, ty, pos, after, none⟩ :: rest) n ds w L := fun a h => st_same h hx hf hn q -- short
/-- append of a string onto bytes of the call's own. -/
theorem st_appendStr {u : Value} {m B : Nat} {xs : List Value} {l : List UInt8} (h : AgM ds a n L) (hx : ev L x = some u) (hy : ev L y = some (S l)) (ht : P.underlying t = some (.slice T)) (hs : P.underlying t' = some .string) (hi : (P.info? T).map (fun i => (i.zero, i.size, i.bytes)) = some (some (.int .u8 0), 1, 1))
    (ho : w.ownsRow B T 1 u m xs) (hM : m + l.length ≤ maxLen) (hb : m + l.length ≤ 140737488355328) (hB : B ≤ w.heap.size) (hn : Nat.blt d n = true)
    (q : ∀ v' w', w'.ownsRow B T 1 v' (m + l.length) (xs ++ Lib.strCells ⟨l.toArray⟩) → w.grownBy w' u.ownBlock → ∀ a, AgM ds a n ((d, v') :: L) → wpList P ops Q rest a w') :
    wpList P ops Q (⟨some d, .call ⟨.builtin .append, #[x, y], #[t, t']⟩, ty, pos, after, none⟩ :: rest) a w := by
  obtain ⟨i, h1, h2, h3, h4⟩ := info_parts hi
  have hsz : (ByteArray.mk l.toArray).size = l.length := by simp [ByteArray.size]
  obtain ⟨v', w', hr, r1, r2, _⟩ := Lib.run_append_own_string (P := P) (w := w) B t t' ty T i ht hs h1 h2 h3 h4 u m xs ho ⟨l.toArray⟩ (by rw [hsz]; exact hM) (by rw [hsz]; exact hb) hB
  rw [hsz] at r1
  refine st_ok h rfl rfl hn (w' := w') ?_ (q v' w' r1 r2)
  rw [exec_builtin]; unfold builtin
  simp only [List.map_toArray, List.map_cons, List.map_nil, h.eval hx, h.eval hy, S, Sem.run_bind, hr, Result.andThen_ok, Sem.run_pure]
theorem s_appendStr {u : Value} {m B : Nat} {xs : List Value} {l : List UInt8} (hx : ev L x = some u) (hy : ev L y = some (S l)) (ht : P.underlying t = some (.slice T)) (hs : P.underlying t' = some .string) (hi : (P.info? T).map (fun i => (i.zero, i.size, i.bytes)) = some (some (.int .u8 0), 1, 1)) (ho : w.ownsRow B T 1 u m xs) (hM : m + l.length ≤ maxLen) (hb : m + l.length ≤ 140737488355328) (hB : B ≤ w.heap.size) (hn : Nat.blt d n = true) (q : ∀ v' w', w'.ownsRow B T 1 v' (m + l.length) (xs ++ Lib.strCells ⟨l.toArray⟩) → w.grownBy w' u.ownBlock → WL P ops Q rest n ds w' ((d, v') :: L)) : WL P ops Q (⟨some d, .call ⟨.builtin .append, #[x, y], #[t, t']⟩, ty, pos, after, none⟩ :: rest) n ds w L := fun a h => st_appendStr h hx hy ht hs hi ho hM hb hB hn q -- short
/-- append of a row of cells of another block onto bytes of the call's own. -/
theorem st_appendRow {u : Value} {m B k c : Nat} {xs news : List Value} {ad : Addr} (h : AgM ds a n L) (hx : ev L x = some u) (hy : ev L y = some (.slice (some ad) k c)) (ht : P.underlying t = some (.slice T)) (hi : (P.info? T).map (fun i => (i.zero, i.size, i.bytes)) = some (some (.int .u8 0), 1, 1))
    (ho : w.ownsRow B T 1 u m xs) (hl : news.length = k) (hc : ∀ j u, news[j]? = some u → w.cell? (ad.add j) = some u) (h1 : ∀ u ∈ news, u.oneCell' = true) (hM : m + k ≤ maxLen) (hb : m + k ≤ 140737488355328) (hB : B ≤ w.heap.size) (hn : Nat.blt d n = true)
    (q : ∀ v' w', w'.ownsRow B T 1 v' (m + k) (xs ++ news) → w.grownBy w' u.ownBlock → ∀ a, AgM ds a n ((d, v') :: L) → wpList P ops Q rest a w') :
    wpList P ops Q (⟨some d, .call ⟨.builtin .append, #[x, y], #[t, t]⟩, ty, pos, after, none⟩ :: rest) a w := by
  obtain ⟨i, i1, i2, i3, i4⟩ := info_parts hi
  obtain ⟨v', w', hr, r1, r2, _⟩ := run_append_own (P := P) (w := w) B t ty T i _ 1 1 ht i1 i2 i3 i4 rfl (by decide) u m xs ho ad k c news (by omega) hc h1 hM (by omega) hB
  refine st_ok h rfl rfl hn (w' := w') ?_ (q v' w' r1 r2)
  rw [exec_builtin]; unfold builtin
  simp only [List.map_toArray, List.map_cons, List.map_nil, h.eval hx, h.eval hy, Sem.run_bind, hr, Result.andThen_ok, Sem.run_pure]
theorem s_appendRow {u : Value} {m B k c : Nat} {xs news : List Value} {ad : Addr} (hx : ev L x = some u) (hy : ev L y = some (.slice (some ad) k c)) (ht : P.underlying t = some (.slice T)) (hi : (P.info? T).map (fun i => (i.zero, i.size, i.bytes)) = some (some (.int .u8 0), 1, 1)) (ho : w.ownsRow B T 1 u m xs) (hl : news.length = k) (hc : ∀ j u, news[j]? = some u → w.cell? (ad.add j) = some u) (h1 : ∀ u ∈ news, u.oneCell' = true) (hM : m + k ≤ maxLen) (hb : m + k ≤ 140737488355328) (hB : B ≤ w.heap.size) (hn : Nat.blt d n = true) (q : ∀ v' w', w'.ownsRow B T 1 v' (m + k) (xs ++ news) → w.grownBy w' u.ownBlock → WL P ops Q rest n ds w' ((d, v') :: L)) : WL P ops Q (⟨some d, .call ⟨.builtin .append, #[x, y], #[t, t]⟩, ty, pos, after, none⟩ :: rest) n ds w L := fun a h => st_appendRow h hx hy ht hi ho hl hc h1 hM hb hB hn q -- short
end
end Go.Lw
