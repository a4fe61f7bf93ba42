/- The operations of a walk by live slots that touch strings, slices and memory. Conditions: none; each law is over any program. -/
import Derived.Test.YtacclnebhbakmaaDoorXMem
set_option linter.unusedVariables false
set_option linter.unusedSimpArgs false
namespace Go.Lw
open Go.RowKit

/-- Facts on a program's types. -/
def NotAgg (P : Program) (t : TypeId) : Prop := ∀ w : World, (isAgg t).run P w = .ok false w
def AggOf (P : Program) (t : TypeId) (n : Nat) : Prop := (∀ w : World, (isAgg t).run P w = .ok true w) ∧ ∀ w : World, (sizeOf t).run P w = .ok n w
def SizeOf (P : Program) (t : TypeId) (n : Nat) : Prop := ∀ w : World, (sizeOf t).run P w = .ok n w
def FieldAt (P : Program) (s f off : Nat) : Prop := ∀ (ad : Addr) (w : World), (Instr.fieldAt s (.pointer (some ad)) f).run P w = .ok (.pointer (some (ad.add off))) w
def CallOf (P : Program) (f : FuncId) : Prop := ∀ (args : Array Value) (w : World), (callFunc f args).run P w = .ok (.enter f args) w
structure ElemOf {α : Type} (P : Program) (t T : TypeId) (E : Enc α) (bytes : Nat) : Prop where
  und : P.underlying t = some (.slice T)
  info : ∃ i z, P.info? T = some i ∧ i.zero = some z ∧ i.size = E.sz ∧ i.bytes = bytes ∧ z.cells.size = E.sz
theorem ElemOf.mk' {α : Type} {P : Program} {t T : TypeId} {E : Enc α} {bytes : Nat} {z : Value} (h1 : P.underlying t = some (.slice T)) (h2 : (P.info? T).map (fun i => (i.zero, i.size, i.bytes)) = some (some z, E.sz, bytes)) (h3 : z.cells.size = E.sz) : ElemOf P t T E bytes :=
  ⟨h1, let ⟨i, a, b, c, d⟩ := info_parts h2; ⟨i, z, a, b, c, d, h3⟩⟩
theorem CallOf.mk' {P : Program} {f : FuncId} {fn : Func} (hf : P.funcs[f]? = some fn) (hn : (fn.name == "runtime.NumGoroutine") = false) (hb : fn.body.isNone = false) : CallOf P f :=
  fun args w => by
    have h1 : fn.name ≠ "runtime.NumGoroutine" := by simpa using hn
    have h2 : fn.body ≠ none := by intro e; rw [e] at hb; cases hb
    simp [callFunc, hf, h1, h2]

section
variable {P : Program} {a : Act} {n : Nat} {L : List (Nat × Value)} {ds : List Nat} {w w' : World} {Q : Exit → Act → World → Prop} {ops : Array Oper} {rest : List Oper}
variable {d : Nat} {ty : TypeId} {pos : String} {after : Array Edge} {v u : Value} {x y z : Operand} {t t' T : TypeId} {k k' : IntKind} {i j : Int} {b c : Bool} {l l' : List UInt8}

/-! Strings. -/
theorem byte_rng (c : UInt8) : 0 ≤ ((c.toNat : Nat) : Int) ∧ ((c.toNat : Nat) : Int) ≤ 255 := by have := c.toNat_lt; omega
theorem st_index {p : Nat} (h : AgM ds a n L) (hx : ev L x = some (S l)) (hy : ev L y = some (.int k i)) (hu : P.underlying t = some .string) (h0 : 0 ≤ i) (h1 : i < l.length) (hp : i.toNat = p) (hn : Nat.blt d n = true)
    (q : 0 ≤ ((l.getD p 0).toNat : Int) ∧ ((l.getD p 0).toNat : Int) ≤ 255 → ∀ a, AgM ds a n ((d, .int .u8 ((l.getD p 0).toNat : Int)) :: L) → wpList P ops Q rest a w) : wpList P ops Q (⟨some d, .index t x y, ty, pos, after, none⟩ :: rest) a w :=
  st_ok h rfl rfl hn (by
    have hs : (ByteArray.mk l.toArray).size = l.length := by simp [ByteArray.size]
    have h1' : i < ((ByteArray.mk l.toArray).size : Nat) := by rw [hs]; exact h1
    have hl : i.toNat < l.length := by omega
    subst hp
    simp [execOp, h.eval hx, h.eval hy, S, run_index_string w t _ k i hu, h0, h1']
    simp [hl]; rfl) (q (byte_rng _))
theorem s_index {p : Nat} (hx : ev L x = some (S l)) (hy : ev L y = some (.int k i)) (hu : P.underlying t = some .string) (h0 : 0 ≤ i) (h1 : i < l.length) (hp : i.toNat = p) (hn : Nat.blt d n = true) (q : 0 ≤ ((l.getD p 0).toNat : Int) ∧ ((l.getD p 0).toNat : Int) ≤ 255 → WL P ops Q rest n ds w ((d, .int .u8 ((l.getD p 0).toNat : Int)) :: L)) : WL P ops Q (⟨some d, .index t x y, ty, pos, after, none⟩ :: rest) n ds w L := fun a h => st_index h hx hy hu h0 h1 hp hn q -- short
theorem ext_list (l : List UInt8) (lo hi : Nat) : (ByteArray.mk l.toArray).extract lo hi = ⟨((l.take hi).drop lo).toArray⟩ := by
  apply ByteArray.ext
  rw [ByteArray.data_extract]
  apply Array.ext'
  simp [List.drop_take]
theorem st_ss_lh {p p' : Nat} (h : AgM ds a n L) (hx : ev L x = some (S l)) (hy : ev L y = some (.int k i)) (hz : ev L z = some (.int k' j)) (hu : P.underlying t = some .string) (h0 : 0 ≤ i) (h1 : i ≤ j) (h2 : j ≤ l.length) (hp : i.toNat = p) (hp' : j.toNat = p') (hn : Nat.blt d n = true)
    (q : ∀ a, AgM ds a n ((d, S ((l.take p').drop p)) :: L) → wpList P ops Q rest a w) : wpList P ops Q (⟨some d, .slice t x (some y) (some z) none, ty, pos, after, none⟩ :: rest) a w :=
  st_ok h rfl rfl hn (by
    have hs : j ≤ ((ByteArray.mk l.toArray).size : Nat) := by simpa [ByteArray.size] using h2
    subst hp hp'
    have hr := run_slice_string (P := P) w t ⟨l.toArray⟩ k k' i j hu h0 h1 hs
    rw [ext_list] at hr
    simp [execOp, h.eval hx, h.eval hy, h.eval hz, S, run_sliceAt_string w t _ _ _ _ hu, hr]) q
theorem s_ss_lh {p p' : Nat} (hx : ev L x = some (S l)) (hy : ev L y = some (.int k i)) (hz : ev L z = some (.int k' j)) (hu : P.underlying t = some .string) (h0 : 0 ≤ i) (h1 : i ≤ j) (h2 : j ≤ l.length) (hp : i.toNat = p) (hp' : j.toNat = p') (hn : Nat.blt d n = true) (q : WL P ops Q rest n ds w ((d, S ((l.take p').drop p)) :: L)) : WL P ops Q (⟨some d, .slice t x (some y) (some z) none, ty, pos, after, none⟩ :: rest) n ds w L := fun a h => st_ss_lh h hx hy hz hu h0 h1 h2 hp hp' hn q -- short
theorem st_ss_l {p : Nat} (h : AgM ds a n L) (hx : ev L x = some (S l)) (hy : ev L y = some (.int k i)) (hu : P.underlying t = some .string) (h0 : 0 ≤ i) (h1 : i ≤ l.length) (hp : i.toNat = p) (hn : Nat.blt d n = true)
    (q : ∀ a, AgM ds a n ((d, S (l.drop p)) :: L) → wpList P ops Q rest a w) : wpList P ops Q (⟨some d, .slice t x (some y) none none, ty, pos, after, none⟩ :: rest) a w :=
  st_ok h rfl rfl hn (by
    have hs : i ≤ ((ByteArray.mk l.toArray).size : Nat) := by simpa [ByteArray.size] using h1
    subst hp
    have hr := run_slice_string_l (P := P) w t ⟨l.toArray⟩ hu k i h0 hs
    rw [ext_list, List.take_of_length_le (by simp [ByteArray.size])] at hr
    simp [execOp, h.eval hx, h.eval hy, S, run_sliceAt_string w t _ _ _ _ hu, hr]) q
theorem s_ss_l {p : Nat} (hx : ev L x = some (S l)) (hy : ev L y = some (.int k i)) (hu : P.underlying t = some .string) (h0 : 0 ≤ i) (h1 : i ≤ l.length) (hp : i.toNat = p) (hn : Nat.blt d n = true) (q : WL P ops Q rest n ds w ((d, S (l.drop p)) :: L)) : WL P ops Q (⟨some d, .slice t x (some y) none none, ty, pos, after, none⟩ :: rest) n ds w L := fun a h => st_ss_l h hx hy hu h0 h1 hp hn q -- short
theorem st_ss_h {p : Nat} (h : AgM ds a n L) (hx : ev L x = some (S l)) (hz : ev L z = some (.int k' j)) (hu : P.underlying t = some .string) (h0 : 0 ≤ j) (h2 : j ≤ l.length) (hp : j.toNat = p) (hn : Nat.blt d n = true)
    (q : ∀ a, AgM ds a n ((d, S (l.take p)) :: L) → wpList P ops Q rest a w) : wpList P ops Q (⟨some d, .slice t x none (some z) none, ty, pos, after, none⟩ :: rest) a w :=
  st_ok h rfl rfl hn (by
    have hs : j ≤ ((ByteArray.mk l.toArray).size : Nat) := by simpa [ByteArray.size] using h2
    subst hp
    have hr := run_slice_string_h (P := P) w t ⟨l.toArray⟩ hu k' j h0 hs
    rw [ext_list, List.drop_zero] at hr
    simp [execOp, h.eval hx, h.eval hz, S, run_sliceAt_string w t _ _ _ _ hu, hr]) q
theorem s_ss_h {p : Nat} (hx : ev L x = some (S l)) (hz : ev L z = some (.int k' j)) (hu : P.underlying t = some .string) (h0 : 0 ≤ j) (h2 : j ≤ l.length) (hp : j.toNat = p) (hn : Nat.blt d n = true) (q : WL P ops Q rest n ds w ((d, S (l.take p)) :: L)) : WL P ops Q (⟨some d, .slice t x none (some z) none, ty, pos, after, none⟩ :: rest) n ds w L := fun a h => st_ss_h h hx hz hu h0 h2 hp hn q -- short
theorem st_adds (h : AgM ds a n L) (hx : ev L x = some (S l)) (hy : ev L y = some (S l')) (hb : l.length + l'.length ≤ 9223372036854775807) (hn : Nat.blt d n = true)
    (q : ∀ a, AgM ds a n ((d, S (l ++ l')) :: L) → wpList P ops Q rest a w) : wpList P ops Q (⟨some d, .binOp .add t x y t', ty, pos, after, none⟩ :: rest) a w :=
  st_ok h rfl rfl hn (by
    have hr := run_string_add_sum (P := P) w ⟨l.toArray⟩ ⟨l'.toArray⟩ (by simpa [ByteArray.size] using hb)
    rw [ByteArray.mk_append_mk] at hr
    simp [execOp, h.eval hx, h.eval hy, S, eqGuard_add, binOp_string_add, hr]) q
theorem s_adds (hx : ev L x = some (S l)) (hy : ev L y = some (S l')) (hb : l.length + l'.length ≤ 9223372036854775807) (hn : Nat.blt d n = true) (q : WL P ops Q rest n ds w ((d, S (l ++ l')) :: L)) : WL P ops Q (⟨some d, .binOp .add t x y t', ty, pos, after, none⟩ :: rest) n ds w L := fun a h => st_adds h hx hy hb hn q -- short
theorem st_eqs (h : AgM ds a n L) (hx : ev L x = some (S l)) (hy : ev L y = some (S l')) (hn : Nat.blt d n = true)
    (q : ∀ a, AgM ds a n ((d, .bool (decide (l = l'))) :: L) → wpList P ops Q rest a w) : wpList P ops Q (⟨some d, .binOp .eql t x y t', ty, pos, after, none⟩ :: rest) a w :=
  st_ok h rfl rfl hn (by simp [execOp, h.eval hx, h.eval hy, S, eqGuard_at_string, binOp_string_eql]; by_cases e : l = l' <;> simp [e]) q
theorem s_eqs (hx : ev L x = some (S l)) (hy : ev L y = some (S l')) (hn : Nat.blt d n = true) (q : WL P ops Q rest n ds w ((d, .bool (decide (l = l'))) :: L)) : WL P ops Q (⟨some d, .binOp .eql t x y t', ty, pos, after, none⟩ :: rest) n ds w L := fun a h => st_eqs h hx hy hn q -- short
theorem st_nes (h : AgM ds a n L) (hx : ev L x = some (S l)) (hy : ev L y = some (S l')) (hn : Nat.blt d n = true)
    (q : ∀ a, AgM ds a n ((d, .bool (decide (l ≠ l'))) :: L) → wpList P ops Q rest a w) : wpList P ops Q (⟨some d, .binOp .neq t x y t', ty, pos, after, none⟩ :: rest) a w :=
  st_ok h rfl rfl hn (by simp [execOp, h.eval hx, h.eval hy, S, eqGuard_at_string, binOp_string_neq]; by_cases e : l = l' <;> simp [e]) q
theorem s_nes (hx : ev L x = some (S l)) (hy : ev L y = some (S l')) (hn : Nat.blt d n = true) (q : WL P ops Q rest n ds w ((d, .bool (decide (l ≠ l'))) :: L)) : WL P ops Q (⟨some d, .binOp .neq t x y t', ty, pos, after, none⟩ :: rest) n ds w L := fun a h => st_nes h hx hy hn q -- short
theorem st_lts (h : AgM ds a n L) (hx : ev L x = some (S l)) (hy : ev L y = some (S l')) (hn : Nat.blt d n = true)
    (q : ∀ a, AgM ds a n ((d, .bool (Op.bytesLess l l')) :: L) → wpList P ops Q rest a w) : wpList P ops Q (⟨some d, .binOp .lss t x y t', ty, pos, after, none⟩ :: rest) a w :=
  st_ok h rfl rfl hn (by simp [execOp, h.eval hx, h.eval hy, S, eqGuard_lss, binOp_string_lss]) q

theorem s_lts (hx : ev L x = some (S l)) (hy : ev L y = some (S l')) (hn : Nat.blt d n = true) (q : WL P ops Q rest n ds w ((d, .bool (Op.bytesLess l l')) :: L)) : WL P ops Q (⟨some d, .binOp .lss t x y t', ty, pos, after, none⟩ :: rest) n ds w L := fun a h => st_lts h hx hy hn q -- short
/-! Slices. -/
variable {A : Option Addr} {m cp : Nat}
theorem st_lenS (h : AgM ds a n L) (hx : ev L x = some (.slice A m cp)) (hu : P.underlying t = some (.slice T)) (hn : Nat.blt d n = true) (q : ∀ a, AgM ds a n ((d, .int .i64 (m : Int)) :: L) → wpList P ops Q rest a w) :
    wpList P ops Q (⟨some d, .call ⟨.builtin .len, #[x], #[t]⟩, ty, pos, after, none⟩ :: rest) a w :=
  st_ok h rfl rfl hn (by
    rw [exec_builtin]; unfold builtin
    simp [h.eval hx, Builtin.len_, run_underlying hu]
    rfl) q
theorem lnS (hx : ev L x = some (.slice A m cp)) (hu : P.underlying t = some (.slice T)) (hn : Nat.blt d n = true) (q : WL P ops Q rest n ds w ((d, .int .i64 (m : Int)) :: L)) : WL P ops Q (⟨some d, .call ⟨.builtin .len, #[x], #[t]⟩, ty, pos, after, none⟩ :: rest) n ds w L := fun a h => st_lenS h hx hu hn q -- short
theorem st_capS (h : AgM ds a n L) (hx : ev L x = some (.slice A m cp)) (hu : P.underlying t = some (.slice T)) (hn : Nat.blt d n = true) (q : ∀ a, AgM ds a n ((d, .int .i64 (cp : Int)) :: L) → wpList P ops Q rest a w) :
    wpList P ops Q (⟨some d, .call ⟨.builtin .cap, #[x], #[t]⟩, ty, pos, after, none⟩ :: rest) a w :=
  st_ok h rfl rfl hn (by
    rw [exec_builtin]; unfold builtin
    simp [h.eval hx, Builtin.cap_, run_underlying hu]
    rfl) q
theorem s_capS (hx : ev L x = some (.slice A m cp)) (hu : P.underlying t = some (.slice T)) (hn : Nat.blt d n = true) (q : WL P ops Q rest n ds w ((d, .int .i64 (cp : Int)) :: L)) : WL P ops Q (⟨some d, .call ⟨.builtin .cap, #[x], #[t]⟩, ty, pos, after, none⟩ :: rest) n ds w L := fun a h => st_capS h hx hu hn q -- short
/-- The address of an element. -/
theorem st_idx {p : Nat} {α : Type} {E : Enc α} {ys : List α} {e : α} {bytes : Nat} (h : AgM ds a n L) (hx : ev L x = some v) (hy : ev L y = some (.int k i)) (hs : Sl E w v ys) (he : ElemOf P t T E bytes) (h0 : 0 ≤ i) (hp : i.toNat = p) (hi : ys[p]? = some e) (hn : Nat.blt d n = true)
    (q : ∀ ad, Cells w ad (E.enc e) → ∀ a, AgM ds a n ((d, .pointer (some ad)) :: L) → wpList P ops Q rest a w) : wpList P ops Q (⟨some d, .indexAddr t x y, ty, pos, after, none⟩ :: rest) a w := by
  obtain ⟨A, c, rfl, h1, h2, h3⟩ := hs
  subst hp
  obtain ⟨ad, rfl, hc⟩ := h3 _ _ hi
  obtain ⟨inf, zv, hin, _, hsz, _⟩ := he.info
  have hlt : i.toNat < ys.length := (List.getElem?_eq_some_iff.1 hi).1
  have hlt' : i < (ys.length : Int) := by omega
  exact st_ok h rfl rfl hn (by simp [execOp, h.eval hx, h.eval hy, Instr.indexAt, asIntOf, run_underlying he.und, h0, hlt', sizeOf, typeInfo, hin, hsz]) (q _ hc)
theorem s_idx {p : Nat} {α : Type} {E : Enc α} {ys : List α} {e : α} {bytes : Nat} (hx : ev L x = some v) (hy : ev L y = some (.int k i)) (hs : Sl E w v ys) (he : ElemOf P t T E bytes) (h0 : 0 ≤ i) (hp : i.toNat = p) (hi : ys[p]? = some e) (hn : Nat.blt d n = true) (q : ∀ ad, Cells w ad (E.enc e) → WL P ops Q rest n ds w ((d, .pointer (some ad)) :: L)) : WL P ops Q (⟨some d, .indexAddr t x y, ty, pos, after, none⟩ :: rest) n ds w L := fun a h => st_idx h hx hy hs he h0 hp hi hn q -- short
/-- x[:hi] -/
theorem st_sl_h {p : Nat} {α : Type} {E : Enc α} {bytes : Nat} (h : AgM ds a n L) (hx : ev L x = some (.slice A m cp)) (hz : ev L z = some (.int k' j)) (he : ElemOf P t T E bytes) (h0 : 0 ≤ j) (h2 : j ≤ cp) (hp : j.toNat = p) (hn : Nat.blt d n = true)
    (q : ∀ a, AgM ds a n ((d, .slice A p cp) :: L) → wpList P ops Q rest a w) : wpList P ops Q (⟨some d, .slice t x none (some z) none, ty, pos, after, none⟩ :: rest) a w := by
  subst hp
  obtain ⟨inf, zv, hin, _, hsz, _⟩ := he.info
  exact st_ok h rfl rfl hn (by
    have hA : Option.map (fun x => Addr.add x 0) A = A := by cases A <;> simp [Addr.add]
    simp [execOp, h.eval hx, h.eval hz, Instr.sliceAt, Instr.slice, run_underlying he.und, Instr.sliceBounds, Instr.sliceBound, asIntOf, h0, h2, sizeOf, typeInfo, hin, hA]) q
theorem s_sl_h {p : Nat} {α : Type} {E : Enc α} {bytes : Nat} (hx : ev L x = some (.slice A m cp)) (hz : ev L z = some (.int k' j)) (he : ElemOf P t T E bytes) (h0 : 0 ≤ j) (h2 : j ≤ cp) (hp : j.toNat = p) (hn : Nat.blt d n = true) (q : WL P ops Q rest n ds w ((d, .slice A p cp) :: L)) : WL P ops Q (⟨some d, .slice t x none (some z) none, ty, pos, after, none⟩ :: rest) n ds w L := fun a h => st_sl_h h hx hz he h0 h2 hp hn q -- short
/-- x[lo:] -/
theorem st_sl_l {p : Nat} {α : Type} {E : Enc α} {bytes : Nat} (h : AgM ds a n L) (hx : ev L x = some (.slice A m cp)) (hy : ev L y = some (.int k i)) (he : ElemOf P t T E bytes) (h0 : 0 ≤ i) (h1 : i ≤ m) (hp : i.toNat = p) (hn : Nat.blt d n = true)
    (q : ∀ a, AgM ds a n ((d, .slice (if cp = p then A else A.map (·.add (p * E.sz))) (m - p) (cp - p)) :: L) → wpList P ops Q rest a w) : wpList P ops Q (⟨some d, .slice t x (some y) none none, ty, pos, after, none⟩ :: rest) a w := by
  subst hp
  obtain ⟨inf, zv, hin, _, hsz, _⟩ := he.info
  exact st_ok h rfl rfl hn (by
    simp [execOp, h.eval hx, h.eval hy, Instr.sliceAt, Instr.slice, run_underlying he.und, Instr.sliceBounds, Instr.sliceBound, asIntOf, h0, h1, sizeOf, typeInfo, hin, hsz]) q
theorem s_sl_l {p : Nat} {α : Type} {E : Enc α} {bytes : Nat} (hx : ev L x = some (.slice A m cp)) (hy : ev L y = some (.int k i)) (he : ElemOf P t T E bytes) (h0 : 0 ≤ i) (h1 : i ≤ m) (hp : i.toNat = p) (hn : Nat.blt d n = true) (q : WL P ops Q rest n ds w ((d, .slice (if cp = p then A else A.map (·.add (p * E.sz))) (m - p) (cp - p)) :: L)) : WL P ops Q (⟨some d, .slice t x (some y) none none, ty, pos, after, none⟩ :: rest) n ds w L := fun a h => st_sl_l h hx hy he h0 h1 hp hn q -- short
/-- x[lo:hi] -/
theorem st_sl_lh {p p' : Nat} {α : Type} {E : Enc α} {bytes : Nat} (h : AgM ds a n L) (hx : ev L x = some (.slice A m cp)) (hy : ev L y = some (.int k i)) (hz : ev L z = some (.int k' j)) (he : ElemOf P t T E bytes) (h0 : 0 ≤ i) (h1 : i ≤ j) (h2 : j ≤ cp) (hp : i.toNat = p) (hp' : j.toNat = p') (hn : Nat.blt d n = true)
    (q : ∀ a, AgM ds a n ((d, .slice (if cp = p then A else A.map (·.add (p * E.sz))) (p' - p) (cp - p)) :: L) → wpList P ops Q rest a w) : wpList P ops Q (⟨some d, .slice t x (some y) (some z) none, ty, pos, after, none⟩ :: rest) a w := by
  subst hp hp'
  obtain ⟨inf, zv, hin, _, hsz, _⟩ := he.info
  exact st_ok h rfl rfl hn (by
    have h3 : 0 ≤ j := by omega
    have h4 : i ≤ ((j.toNat : Nat) : Int) := by omega
    simp [execOp, h.eval hx, h.eval hy, h.eval hz, Instr.sliceAt, Instr.slice, run_underlying he.und, Instr.sliceBounds, Instr.sliceBound, asIntOf, h0, h2, h3, h4, sizeOf, typeInfo, hin, hsz]
    intro hc; omega) q
theorem s_sl_lh {p p' : Nat} {α : Type} {E : Enc α} {bytes : Nat} (hx : ev L x = some (.slice A m cp)) (hy : ev L y = some (.int k i)) (hz : ev L z = some (.int k' j)) (he : ElemOf P t T E bytes) (h0 : 0 ≤ i) (h1 : i ≤ j) (h2 : j ≤ cp) (hp : i.toNat = p) (hp' : j.toNat = p') (hn : Nat.blt d n = true) (q : WL P ops Q rest n ds w ((d, .slice (if cp = p then A else A.map (·.add (p * E.sz))) (p' - p) (cp - p)) :: L)) : WL P ops Q (⟨some d, .slice t x (some y) (some z) none, ty, pos, after, none⟩ :: rest) n ds w L := fun a h => st_sl_lh h hx hy hz he h0 h1 h2 hp hp' hn q -- short
/-- x[:hi:max] -/
theorem st_sl_hm {p p' : Nat} {α : Type} {E : Enc α} {bytes : Nat} {o : Operand} {k'' : IntKind} {r : Int} (h : AgM ds a n L) (hx : ev L x = some (.slice A m cp)) (hz : ev L z = some (.int k' j)) (ho : ev L o = some (.int k'' r)) (he : ElemOf P t T E bytes) (h0 : 0 ≤ j) (h1 : j ≤ r) (h2 : r ≤ cp) (hp : j.toNat = p) (hp' : r.toNat = p') (hn : Nat.blt d n = true)
    (q : ∀ a, AgM ds a n ((d, .slice A p p') :: L) → wpList P ops Q rest a w) : wpList P ops Q (⟨some d, .slice t x none (some z) (some o), ty, pos, after, none⟩ :: rest) a w := by
  subst hp hp'
  obtain ⟨inf, zv, hin, _, hsz, _⟩ := he.info
  exact st_ok h rfl rfl hn (by
    have h3 : 0 ≤ r := by omega
    have h4 : j ≤ ((r.toNat : Nat) : Int) := by omega
    have hA : Option.map (fun x => Addr.add x 0) A = A := by cases A <;> simp [Addr.add]
    simp [execOp, h.eval hx, h.eval hz, h.eval ho, Instr.sliceAt, Instr.slice, run_underlying he.und, Instr.sliceBounds, Instr.sliceBound, asIntOf, h0, h2, h3, h4, sizeOf, typeInfo, hin, hA]
    intro hc; omega) q

theorem s_sl_hm {p p' : Nat} {α : Type} {E : Enc α} {bytes : Nat} {o : Operand} {k'' : IntKind} {r : Int} (hx : ev L x = some (.slice A m cp)) (hz : ev L z = some (.int k' j)) (ho : ev L o = some (.int k'' r)) (he : ElemOf P t T E bytes) (h0 : 0 ≤ j) (h1 : j ≤ r) (h2 : r ≤ cp) (hp : j.toNat = p) (hp' : r.toNat = p') (hn : Nat.blt d n = true) (q : WL P ops Q rest n ds w ((d, .slice A p p') :: L)) : WL P ops Q (⟨some d, .slice t x none (some z) (some o), ty, pos, after, none⟩ :: rest) n ds w L := fun a h => st_sl_hm h hx hz ho he h0 h1 h2 hp hp' hn q -- short
/-! Memory. -/
/-- A block that is known whole. -/
def Blk (w : World) (g : Nat) (T : TypeId) (cs : List Value) : Prop := w.heap[g]? = some (.cells cs.toArray T (0, 0))
theorem Blk.lt {g : Nat} {cs : List Value} (h : Blk w g T cs) : g < w.heap.size := (Array.getElem?_eq_some_iff.1 h).1
theorem Blk.cell {g : Nat} {cs : List Value} (h : Blk w g T cs) (o : Nat) : w.cell? ⟨g, o, none⟩ = cs[o]? := by
  rw [cell_of_row w g o cs.toArray T (0, 0) h]; simp
theorem Blk.cells {g : Nat} {cs : List Value} (h : Blk w g T cs) : Cells w ⟨g, 0, none⟩ cs := fun j u hu => by rw [lit_add, Nat.zero_add, h.cell]; exact hu
theorem Blk.fr {g : Nat} {cs : List Value} {S : List Nat} (h : Blk w g T cs) (hf : Fr S w w') (hn : g ∉ S) : Blk w' g T cs := (hf.block g h.lt hn).trans h
theorem Blk.ext {g : Nat} {cs : List Value} (h : Blk w g T cs) (hf : Fr [] w w') : Blk w' g T cs := h.fr hf (by simp)
theorem st_load {ad : Addr} (h : AgM ds a n L) (hx : ev L x = some (.pointer (some ad))) (hc : w.cell? ad = some v) (hg : NotAgg P t) (hn : Nat.blt d n = true) (q : ∀ a, AgM ds a n ((d, v) :: L) → wpList P ops Q rest a w) :
    wpList P ops Q (⟨some d, .load t x, ty, pos, after, none⟩ :: rest) a w :=
  st_ok h rfl rfl hn (by simp [execOp, h.eval hx, Instr.loadAt, Instr.sureAddr, loadVar, hg w, hc]) q
theorem s_load {ad : Addr} (hx : ev L x = some (.pointer (some ad))) (hc : w.cell? ad = some v) (hg : NotAgg P t) (hn : Nat.blt d n = true) (q : WL P ops Q rest n ds w ((d, v) :: L)) : WL P ops Q (⟨some d, .load t x, ty, pos, after, none⟩ :: rest) n ds w L := fun a h => st_load h hx hc hg hn q -- short
theorem st_loadA {ad : Addr} {cs : List Value} (h : AgM ds a n L) (hx : ev L x = some (.pointer (some ad))) (hc : Cells w ad cs) (hg : AggOf P t cs.length) (hn : Nat.blt d n = true) (q : ∀ a, AgM ds a n ((d, .agg cs.toArray) :: L) → wpList P ops Q rest a w) :
    wpList P ops Q (⟨some d, .load t x, ty, pos, after, none⟩ :: rest) a w :=
  st_ok h rfl rfl hn (by simp [execOp, h.eval hx, Instr.loadAt, Instr.sureAddr, loadVar, hg.1 w, hg.2 w, run_loadCells_list w ad cs hc]) q
theorem s_loadA {ad : Addr} {cs : List Value} (hx : ev L x = some (.pointer (some ad))) (hc : Cells w ad cs) (hg : AggOf P t cs.length) (hn : Nat.blt d n = true) (q : WL P ops Q rest n ds w ((d, .agg cs.toArray) :: L)) : WL P ops Q (⟨some d, .load t x, ty, pos, after, none⟩ :: rest) n ds w L := fun a h => st_loadA h hx hc hg hn q -- short
theorem st_fieldAddr {ad : Addr} {f off : Nat} (h : AgM ds a n L) (hx : ev L x = some (.pointer (some ad))) (hf : FieldAt P t f off) (hn : Nat.blt d n = true) (q : ∀ a, AgM ds a n ((d, .pointer (some (ad.add off))) :: L) → wpList P ops Q rest a w) :
    wpList P ops Q (⟨some d, .fieldAddr t x f, ty, pos, after, none⟩ :: rest) a w :=
  st_ok h rfl rfl hn (by simp [execOp, h.eval hx, hf ad w]) q
theorem fad {ad : Addr} {f off : Nat} (hx : ev L x = some (.pointer (some ad))) (hf : FieldAt P t f off) (hn : Nat.blt d n = true) (q : WL P ops Q rest n ds w ((d, .pointer (some (ad.add off))) :: L)) : WL P ops Q (⟨some d, .fieldAddr t x f, ty, pos, after, none⟩ :: rest) n ds w L := fun a h => st_fieldAddr h hx hf hn q -- short
theorem st_nilCheck {ad : Addr} (h : AgM ds a n L) (hx : ev L x = some (.pointer (some ad))) (hn : Nat.blt d n = true) (q : ∀ a, AgM ds a n ((d, .pointer (some ad)) :: L) → wpList P ops Q rest a w) :
    wpList P ops Q (⟨some d, .nilCheck x, ty, pos, after, none⟩ :: rest) a w :=
  st_ok h rfl rfl hn (by simp [execOp, h.eval hx]) q
theorem nlc {ad : Addr} (hx : ev L x = some (.pointer (some ad))) (hn : Nat.blt d n = true) (q : WL P ops Q rest n ds w ((d, .pointer (some ad)) :: L)) : WL P ops Q (⟨some d, .nilCheck x, ty, pos, after, none⟩ :: rest) n ds w L := fun a h => st_nilCheck h hx hn q -- short
/-- A store of one cell into a block that is known whole. -/
theorem st_store {g o : Nat} {cs : List Value} (h : AgM ds a n L) (hx : ev L x = some (.pointer (some ⟨g, o, none⟩))) (hy : ev L y = some v) (hb : Blk w g T cs) (ho : Nat.blt o cs.length = true) (h1 : v.oneCell' = true) (hc : v.cells = #[v]) (hs : SizeOf P t 1)
    (q : ∀ w', Blk w' g T (cs.set o v) → Fr [g] w w' → w'.heap.size = w.heap.size → ∀ a, AgM ds a n L → wpList P ops Q rest a w') : wpList P ops Q (⟨none, .store t x y, ty, pos, after, none⟩ :: rest) a w := by
  have ho' : o < cs.length := by simpa [Nat.blt_eq] using ho
  have hcell : w.cell? ⟨g, o, none⟩ = some cs[o] := by rw [hb.cell, List.getElem?_eq_getElem ho']
  have hfz : w.frozen? ⟨g, o, none⟩ = false := frozen_of_row w g o cs.toArray T hb
  refine st_skip h rfl rfl (w' := w.setCell ⟨g, o, none⟩ v) ?_ (q _ ?_ (Fr.setCell w ⟨g, o, none⟩ v) (by simp))
  · simp [execOp, h.eval hx, h.eval hy, Instr.storeAt, Instr.sureAddr, storeVar, hs w, hc, storeCells, Addr.add_zero', run_store P w _ v _ h1, hcell, hfz]
  · unfold Blk
    rw [heap_setCell_same w g o cs.toArray T v hb]
    simp
theorem s_store {g o : Nat} {cs : List Value} (hx : ev L x = some (.pointer (some ⟨g, o, none⟩))) (hy : ev L y = some v) (hb : Blk w g T cs) (ho : Nat.blt o cs.length = true) (h1 : v.oneCell' = true) (hc : v.cells = #[v]) (hs : SizeOf P t 1) (q : ∀ w', Blk w' g T (cs.set o v) → Fr [g] w w' → w'.heap.size = w.heap.size → WL P ops Q rest n ds w' L) : WL P ops Q (⟨none, .store t x y, ty, pos, after, none⟩ :: rest) n ds w L := fun a h => st_store h hx hy hb ho h1 hc hs q -- short
theorem st_box {cs : List Value} (h : AgM ds a n L) (hx : ev L x = some v) (hc : v.cells = cs.toArray) (hn : Nat.blt d n = true)
    (q : ∀ w', Blk w' w.heap.size T cs → Fr [] w w' → w'.heap.size = w.heap.size + 1 → ∀ a, AgM ds a n ((d, .pointer (some ⟨w.heap.size, 0, none⟩)) :: L) → wpList P ops Q rest a w') :
    wpList P ops Q (⟨some d, .box T x, ty, pos, after, none⟩ :: rest) a w :=
  st_ok h rfl rfl hn (w' := w.alloc (.cells cs.toArray T)) (by simp [execOp, h.eval hx, Instr.box, newVar, newRow, hc]) (q _ (heap_alloc_new w _) (Fr.alloc [] w _) (by simp))
theorem s_box {cs : List Value} (hx : ev L x = some v) (hc : v.cells = cs.toArray) (hn : Nat.blt d n = true) (q : ∀ w', Blk w' w.heap.size T cs → Fr [] w w' → w'.heap.size = w.heap.size + 1 → WL P ops Q rest n ds w' ((d, .pointer (some ⟨w.heap.size, 0, none⟩)) :: L)) : WL P ops Q (⟨some d, .box T x, ty, pos, after, none⟩ :: rest) n ds w L := fun a h => st_box h hx hc hn q -- short
theorem st_alloc {cs : List Value} (h : AgM ds a n L) (hz : ∀ w : World, (zeroValue T).run P w = .ok v w) (hc : v.cells = cs.toArray) (hn : Nat.blt d n = true)
    (q : ∀ w', Blk w' w.heap.size T cs → Fr [] w w' → w'.heap.size = w.heap.size + 1 → ∀ a, AgM ds a n ((d, .pointer (some ⟨w.heap.size, 0, none⟩)) :: L) → wpList P ops Q rest a w') :
    wpList P ops Q (⟨some d, .alloc T, ty, pos, after, none⟩ :: rest) a w :=
  st_ok h rfl rfl hn (w' := w.alloc (.cells cs.toArray T)) (by simp [execOp, Instr.alloc, hz w, newVar, newRow, hc]) (q _ (heap_alloc_new w _) (Fr.alloc [] w _) (by simp))
theorem s_alloc {cs : List Value} (hz : ∀ w : World, (zeroValue T).run P w = .ok v w) (hc : v.cells = cs.toArray) (hn : Nat.blt d n = true) (q : ∀ w', Blk w' w.heap.size T cs → Fr [] w w' → w'.heap.size = w.heap.size + 1 → WL P ops Q rest n ds w' ((d, .pointer (some ⟨w.heap.size, 0, none⟩)) :: L)) : WL P ops Q (⟨some d, .alloc T, ty, pos, after, none⟩ :: rest) n ds w L := fun a h => st_alloc h hz hc hn q -- short
theorem st_extract {vs : Array Value} {m : Nat} (h : AgM ds a n L) (hx : ev L x = some (.tuple vs)) (hm : vs[m]? = some v) (hn : Nat.blt d n = true) (q : ∀ a, AgM ds a n ((d, v) :: L) → wpList P ops Q rest a w) :
    wpList P ops Q (⟨some d, .extract x m, ty, pos, after, none⟩ :: rest) a w :=
  st_ok h rfl rfl hn (by simp [execOp, h.eval hx, Instr.extract, hm]) q
theorem xt {vs : Array Value} {m : Nat} (hx : ev L x = some (.tuple vs)) (hm : vs[m]? = some v) (hn : Nat.blt d n = true) (q : WL P ops Q rest n ds w ((d, v) :: L)) : WL P ops Q (⟨some d, .extract x m, ty, pos, after, none⟩ :: rest) n ds w L := fun a h => st_extract h hx hm hn q -- short
theorem st_field {f : Nat} (h : AgM ds a n L) (hx : ev L x = some v) (hr : ∀ w : World, (Instr.field t v f).run P w = .ok u w) (hn : Nat.blt d n = true) (q : ∀ a, AgM ds a n ((d, u) :: L) → wpList P ops Q rest a w) :
    wpList P ops Q (⟨some d, .field t x f, ty, pos, after, none⟩ :: rest) a w :=
  st_ok h rfl rfl hn (by simp [execOp, h.eval hx, hr w]) q
theorem s_field {f : Nat} (hx : ev L x = some v) (hr : ∀ w : World, (Instr.field t v f).run P w = .ok u w) (hn : Nat.blt d n = true) (q : WL P ops Q rest n ds w ((d, u) :: L)) : WL P ops Q (⟨some d, .field t x f, ty, pos, after, none⟩ :: rest) n ds w L := fun a h => st_field h hx hr hn q -- short
/-- A struct or an array written out. -/
theorem st_build {parts : List (Nat × Operand)} {vs : List (Nat × Value)} (h : AgM ds a n L) (hp : evs L (parts.map (·.2)) (vs.map (·.2))) (hi : parts.map (·.1) = vs.map (·.1)) (hr : ∀ w : World, (Instr.build t vs.toArray).run P w = .ok v w) (hn : Nat.blt d n = true)
    (q : ∀ a, AgM ds a n ((d, v) :: L) → wpList P ops Q rest a w) : wpList P ops Q (⟨some d, .build t parts.toArray, ty, pos, after, none⟩ :: rest) a w := by
  have hm : parts.map (fun p => (p.1, a.eval p.2)) = vs := by
    have := h.evals hp
    rw [List.map_map] at this
    apply List.ext_getElem?
    intro m
    have h1 := congrArg (·[m]?) this
    have h2 := congrArg (·[m]?) hi
    simp only [List.getElem?_map, Function.comp] at h1 h2 ⊢
    cases hpm : parts[m]? <;> cases hvm : vs[m]? <;> simp_all
  refine st_ok h rfl rfl hn ?_ q
  simp only [execOp, List.map_toArray, hm, Sem.run_bind, hr w, Result.andThen_ok, Sem.run_pure]
theorem s_build {parts : List (Nat × Operand)} {vs : List (Nat × Value)} (hp : evs L (parts.map (·.2)) (vs.map (·.2))) (hi : parts.map (·.1) = vs.map (·.1)) (hr : ∀ w : World, (Instr.build t vs.toArray).run P w = .ok v w) (hn : Nat.blt d n = true) (q : WL P ops Q rest n ds w ((d, v) :: L)) : WL P ops Q (⟨some d, .build t parts.toArray, ty, pos, after, none⟩ :: rest) n ds w L := fun a h => st_build h hp hi hr hn q -- short
/-- A call of a function by its name. -/
theorem st_call {f : FuncId} {xs : List Operand} {vs : List Value} {ts : Array TypeId} {Φ : Value → World → Prop} (h : AgM ds a n L) (hx : evs L xs vs) (hf : CallOf P f) (hc : Rets P f vs.toArray w Φ) (hn : Nat.blt d n = true)
    (q : ∀ v w', Φ v w' → ∀ a, AgM ds a n ((d, v) :: L) → wpList P ops Q rest a w') : wpList P ops Q (⟨some d, .call ⟨.value (.func f), xs.toArray, ts⟩, ty, pos, after, none⟩ :: rest) a w :=
  st_enter (w' := w) h rfl rfl hn (by
    rw [execOp_call_go]
    simp only [List.map_toArray, h.evals hx, List.append_toArray, List.nil_append, List.append_nil]
    exact hf _ _) hc q
theorem cl {f : FuncId} {xs : List Operand} {vs : List Value} {ts : Array TypeId} {Φ : Value → World → Prop} (hx : evs L xs vs) (hf : CallOf P f) (hc : Rets P f vs.toArray w Φ) (hn : Nat.blt d n = true) (q : ∀ v w', Φ v w' → WL P ops Q rest n ds w' ((d, v) :: L)) : WL P ops Q (⟨some d, .call ⟨.value (.func f), xs.toArray, ts⟩, ty, pos, after, none⟩ :: rest) n ds w L := fun a h => st_call h hx hf hc hn q -- short
/-- append onto a row of the call's own. -/
theorem st_append {α : Type} {E : Enc α} {ys zs : List α} {bytes base : Nat} (h : AgM ds a n L) (hx : ev L x = some u) (hy : ev L y = some v) (ho : Own E T base w u ys) (hs : Sl E w v zs) (he : ElemOf P t T E bytes)
    (hM : ys.length + zs.length ≤ maxLen) (hb : (ys.length + zs.length) * bytes ≤ 140737488355328) (hbase : base ≤ w.heap.size) (hn : Nat.blt d n = true)
    (q : ∀ v' w', Own E T base w' v' (ys ++ zs) → Fr (blks u) w w' → (v' = u ∨ blks v' = blks u ∨ blks v' = [w.heap.size]) → ∀ a, AgM ds a n ((d, v') :: L) → wpList P ops Q rest a w') :
    wpList P ops Q (⟨some d, .call ⟨.builtin .append, #[x, y], #[t, t]⟩, ty, pos, after, none⟩ :: rest) a w := by
  obtain ⟨inf, zv, h1, h2, h3, h4, h5⟩ := he.info
  obtain ⟨v', w', hr, r1, r2, r3⟩ := run_append (P := P) t ty inf zv bytes he.und h1 h2 h3 h4 h5 ho hs hM hb hbase
  refine st_ok h rfl rfl hn (w' := w') ?_ (q v' w' r1 r2 r3)
  rw [exec_builtin]; unfold builtin
  simp only [List.map_toArray, List.map_cons, List.map_nil, h.eval hx, h.eval hy, Sem.run_bind, hr, Result.andThen_ok, Sem.run_pure]

theorem s_append {α : Type} {E : Enc α} {ys zs : List α} {bytes base : Nat} (hx : ev L x = some u) (hy : ev L y = some v) (ho : Own E T base w u ys) (hs : Sl E w v zs) (he : ElemOf P t T E bytes) (hM : ys.length + zs.length ≤ maxLen) (hb : (ys.length + zs.length) * bytes ≤ 140737488355328) (hbase : base ≤ w.heap.size) (hn : Nat.blt d n = true) (q : ∀ v' w', Own E T base w' v' (ys ++ zs) → Fr (blks u) w w' → (v' = u ∨ blks v' = blks u ∨ blks v' = [w.heap.size]) → WL P ops Q rest n ds w' ((d, v') :: L)) : WL P ops Q (⟨some d, .call ⟨.builtin .append, #[x, y], #[t, t]⟩, ty, pos, after, none⟩ :: rest) n ds w L := fun a h => st_append h hx hy ho hs he hM hb hbase hn q -- short
/-! The ways through a body. -/
theorem Sub.nil : Sub [] L := trivial
theorem Sub.cons {t : Nat} {v : Value} {r : List (Nat × Value)} (h : Lw.look L t = some v) (hr : Sub r L) : Sub ((t, v) :: r) L := ⟨h, hr⟩
theorem argsOk.nil {args : Array Value} : argsOk args [] := trivial
theorem argsOk.cons {args : Array Value} {t : Nat} {v : Value} {r : List (Nat × Value)} (h : args[t]? = some v) (hr : argsOk args r) : argsOk args ((t, v) :: r) := ⟨h, hr⟩
theorem evs_nil : evs L [] [] := trivial
theorem evs_cons {xs : List Operand} {vs : List Value} (h : ev L x = some v) (hr : evs L xs vs) : evs L (x :: xs) (v :: vs) := ⟨h, hr⟩
theorem norm_then {K : Act → World → Prop} (h : K a w) : Exit.then K Q .normal a w := h
theorem norm_blk {id : Nat} (h : Q .normal a w) : Exit.inBlock id Q .normal a w := h
theorem ret_then {K : Act → World → Prop} (h : Q .ret a w) : Exit.then K Q .ret a w := h
theorem ret_blk {id : Nat} (h : Q .ret a w) : Exit.inBlock id Q .ret a w := h
theorem exit_then {K : Act → World → Prop} {id : Nat} (h : Q (.exit id) a w) : Exit.then K Q (.exit id) a w := h
theorem cond_dec {C : Operand} {x y : Code} {p : Prop} {hp : Decidable p} (h : AgM ds a n L) (hc : ev L C = some (.bool (decide p))) (ht : p → x.wp P Q a w) (hf : ¬ p → y.wp P Q a w) : (Code.cond C x y).wp P Q a w :=
  cond_split h hc (fun e => ht (of_decide_eq_true e)) (fun e => hf (of_decide_eq_false e))
theorem cond_ndec {C : Operand} {x y : Code} {p : Prop} {hp : Decidable p} (h : AgM ds a n L) (hc : ev L C = some (.bool (!decide p))) (ht : ¬ p → x.wp P Q a w) (hf : p → y.wp P Q a w) : (Code.cond C x y).wp P Q a w :=
  cond_split h hc (fun e => ht (by simpa using e)) (fun e => hf (by simpa using e))
theorem AgM.known {D : Nat} {b b' : Bool} (h : AgM ds a n L) (hb : look L D = some (.bool b)) (e : b = b') : AgM ds a n ((D, .bool b') :: L) :=
  ⟨h.dfr, h.size, fun t v hv => by
    simp only [look] at hv
    by_cases et : D = t
    · subst et
      simp only [Nat.beq_refl, Bool.cond_true, Option.some.injEq] at hv
      rw [← hv, ← e]; exact h.at_ D _ hb
    · rw [beq_no et] at hv; exact h.at_ t v hv⟩
theorem guard_dec {D : Nat} {p G : Prop} {hp : Decidable p} (h : AgM ds a n L) (hb : look L D = some (.bool (decide p))) (ht : p → AgM ds a n ((D, .bool true) :: L) → G) (hf : ¬ p → AgM ds a n ((D, .bool false) :: L) → G) : G := by
  by_cases e : p
  · exact ht e (h.known hb (by simp [e]))
  · exact hf e (h.known hb (by simp [e]))
theorem guard_ndec {D : Nat} {p G : Prop} {hp : Decidable p} (h : AgM ds a n L) (hb : look L D = some (.bool (!decide p))) (ht : ¬ p → AgM ds a n ((D, .bool true) :: L) → G) (hf : p → AgM ds a n ((D, .bool false) :: L) → G) : G := by
  by_cases e : p
  · exact hf e (h.known hb (by simp [e]))
  · exact ht e (h.known hb (by simp [e]))
theorem guard_any {D : Nat} {b : Bool} {G : Prop} (h : AgM ds a n L) (hb : look L D = some (.bool b)) (ht : b = true → AgM ds a n ((D, .bool true) :: L) → G) (hf : b = false → AgM ds a n ((D, .bool false) :: L) → G) : G := by
  cases b
  · exact hf rfl (h.known hb rfl)
  · exact ht rfl (h.known hb rfl)
/-- The end of a region whose ways meet in one test. -/
def BoolEnd (ds : List Nat) (n r : Nat) (C : Prop) [Decidable C] (L' : List (Nat × Value)) (w0 : World) : Exit → Act → World → Prop := fun e a w => e = .normal ∧ w = w0 ∧ AgM ds a n ((r, .bool (decide C)) :: L')
theorem region_bool {id : Nat} {ol : List Oper} {r : Nat} {L' : List (Nat × Value)} (C : Prop) [Decidable C] (h : AgM ds a n L) (hs : Sub L' L) (h1 : wpList P ol.toArray (BoolEnd ds n r C L' w) ol a w) (h2 : ∀ a, AgM ds a n ((r, .bool (decide C)) :: L') → Q .normal a w) :
    (Code.region id ol.toArray false).wp P Q a w :=
  wp_mono (wp_region_lit h1) (by rintro e a w ⟨rfl, rfl, h⟩; exact h2 a h)
theorem bool_end {r : Nat} {L' : List (Nat × Value)} {C : Prop} [Decidable C] {b : Bool} (h : AgM ds a n L) (hr : look L r = some (.bool b)) (hb : b = decide C) (hs : Sub L' L) : BoolEnd ds n r C L' w .normal a w :=
  ⟨rfl, rfl, h.sub ⟨by rw [← hb]; exact hr, hs⟩⟩
theorem bt {C : Prop} {hC : Decidable C} (h : C) : true = decide C := (decide_eq_true h).symm
theorem bf {C : Prop} {hC : Decidable C} (h : ¬ C) : false = decide C := (decide_eq_false h).symm
theorem bi {p C : Prop} {hp : Decidable p} {hC : Decidable C} (h : p ↔ C) : decide p = decide C := decide_eq_decide.2 h
theorem bb {C : Prop} {hC : Decidable C} {b : Bool} (h : b = true ↔ C) : b = decide C := by
  cases b
  · exact bf (fun c => by have := h.2 c; cases this)
  · exact bt (h.1 rfl)
theorem bn {p C : Prop} {hp : Decidable p} {hC : Decidable C} (h : ¬ p ↔ C) : (!decide p) = decide C := by
  by_cases e : p <;> simp [e] at h ⊢ <;> exact h
/-- A frame of which only some slots are kept, with what is known of the world. -/
def Cut {ι : Type} (n : Nat) (L : ι → List (Nat × Value)) (I : ι → World → Prop) (a : Act) (w : World) : Prop := ∃ j, Ag a n (L j) ∧ I j w
theorem cut_mk {ι : Type} {M : ι → List (Nat × Value)} {I : ι → World → Prop} (j : ι) (h : Ag a n (M j)) (hI : I j w) : Cut n M I a w := ⟨j, h, hI⟩
end
end Go.Lw
