/- Texts of the proof, joined. -/
import Derived.Lib.AppendZerosOnto
import Derived.Lib.ItoaNum
import Derived.Lib.Join
import Derived.Lib.AtoiAll
import Derived.Lib.Split
import Derived.Lib.TrimByte
import Derived.Lib.IndexMore
import Derived.Test.YtkionldalpijpaaGreatDoorRows
import Derived.Test.YtkionldalpijpaaGreatDoorS1
set_option linter.unusedVariables false
set_option linter.unusedSimpArgs false
namespace Go.G21
open Go.Lw
section
variable {α : Type} {E : Enc α} {T T' base : Nat} {w w' : World} {v : Value} {ys : List α} {S : List Nat}
/-- The blocks of S are of other types than T. -/
def OffT (w : World) (T : Nat) (S : List Nat) : Prop := ∀ k ∈ S, ∃ (T' : Nat) (cs : List Value), Blk w k T' cs ∧ T' ≠ T
theorem own_blk (h : Lw.Own E T base w v ys) : ∀ k ∈ blks v, ∃ cs, Blk w k T cs := by
  rcases h with ⟨rfl, rfl⟩ | ⟨g, cap, cur, rfl, _, hg, _⟩
  · intro k hk; cases hk
  · intro k hk
    simp [blks] at hk; subst hk
    exact ⟨cur.toList, hg⟩
theorem own_off (h : Lw.Own E T' base w v ys) (hT : T' ≠ T) : OffT w T (blks v) := fun k hk => by
  obtain ⟨cs, hb⟩ := own_blk h k hk
  exact ⟨T', cs, hb, hT⟩
theorem OffT.nil : OffT w T [] := fun k hk => by cases hk
theorem OffT.one {g : Nat} {cs : List Value} (h : Blk w g T' cs) (hT : T' ≠ T) : OffT w T [g] := fun k hk => by rw [List.mem_singleton] at hk; subst hk; exact ⟨T', cs, h, hT⟩
theorem OffT.app {S' : List Nat} (h : OffT w T S) (h' : OffT w T S') : OffT w T (S ++ S') := fun k hk => (List.mem_append.1 hk).elim (h k) (h' k)
theorem own_tf (h : Lw.Own E T base w v ys) (hf : Fr S w w') (hS : OffT w T S) : Lw.Own E T base w' v ys := h.fr hf fun k hk hb => by
  obtain ⟨T', cs, h1, h2⟩ := hS k hk
  exact h.neB h1 (Ne.symm h2) hb
theorem blk_tf {g : Nat} {cs : List Value} (h : Blk w g T cs) (hf : Fr S w w') (hS : OffT w T S) : Blk w' g T cs := h.fr hf fun hk => by
  obtain ⟨T', cs', h1, h2⟩ := hS g hk
  have e := (show w.heap[g]? = some (.cells cs.toArray T (0, 0)) from h).symm.trans (show w.heap[g]? = some (.cells cs'.toArray T' (0, 0)) from h1)
  simp only [Option.some.injEq, Obj.cells.injEq] at e
  exact h2 e.2.1.symm
end
/-- The types of the blocks. -/
structure TyK where
  Y : Nat
  T : Nat
  L : Nat
  I : Nat
  P : Nat
  S : Nat
  K : Nat
structure TyK.Ok (τ : TyK) : Prop where
  yt : τ.Y ≠ τ.T
  yl : τ.Y ≠ τ.L
  yi : τ.Y ≠ τ.I
  yp : τ.Y ≠ τ.P
  ys : τ.Y ≠ τ.S
  tl : τ.T ≠ τ.L
  ti : τ.T ≠ τ.I
  tp : τ.T ≠ τ.P
  ts : τ.T ≠ τ.S
  li : τ.L ≠ τ.I
  lp : τ.L ≠ τ.P
  ls : τ.L ≠ τ.S
  si : τ.S ≠ τ.I
  sp : τ.S ≠ τ.P
  ky : τ.K ≠ τ.Y
  kt : τ.K ≠ τ.T
  kl : τ.K ≠ τ.L
  ki : τ.K ≠ τ.I
  ks : τ.K ≠ τ.S
def LpO (τ : TyK) (base : Nat) (w : World) (q : LpQ) : Prop := Lw.Own encId τ.I base w (slv q.th) q.ths ∧ Lw.Own encPa τ.P base w (slv q.pa) q.pas
/-- A table of the call's own. -/
structure TbO (τ : TyK) (base : Nat) (w : World) (v : Value) (ts : List TQ) : Prop where
  out : Lw.Own encTq τ.T base w v ts
  ins : ∀ i, i < ts.length → Lw.Own encLp τ.L base w (slv (ts.getD i tq0).1) (ts.getD i tq0).2
  off : ∀ i j, i < ts.length → j < ts.length → i ≠ j → ∀ k ∈ blks (slv (ts.getD i tq0).1), k ∉ blks (slv (ts.getD j tq0).1)
  lps : ∀ i, i < ts.length → ∀ q ∈ (ts.getD i tq0).2, LpO τ base w q
/-- Yarns of the call's own. -/
structure YsO (τ : TyK) (base : Nat) (w : World) (v : Value) (ys : List YQ) : Prop where
  out : Lw.Own encYq τ.Y base w v ys
  ins : ∀ i, i < ys.length → Lw.Own encPa τ.P base w (slv (ys.getD i yq0).pe) (ys.getD i yq0).pes
/-- Stacks of the call's own. -/
structure FqO (τ : TyK) (base : Nat) (w : World) (v : Value) (fs : List IQ) : Prop where
  out : Lw.Own encIq τ.S base w v fs
  ins : ∀ i, i < fs.length → Lw.Own encId τ.I base w (slv (fs.getD i iq0).1) (fs.getD i iq0).2
section
variable {τ : TyK} {base : Nat} {w w' w2 : World} {v : Value} {ts : List TQ} {ys : List YQ} {fs : List IQ} {S : List Nat} {q : LpQ}
theorem LpO.tf (h : LpO τ base w q) (hf : Fr S w w') (hI : OffT w τ.I S) (hP : OffT w τ.P S) : LpO τ base w' q := ⟨own_tf h.1 hf hI, own_tf h.2 hf hP⟩
theorem LpO.at (h : LpO τ base w q) : LpAt w q := ⟨h.1.sl, h.2.sl⟩
theorem LpO.low {b : Nat} (h : LpO τ base w q) (hb : b ≤ base) : LpO τ b w q := ⟨h.1.low hb, h.2.low hb⟩
theorem TbO.tf (h : TbO τ base w v ts) (hf : Fr S w w') (hT : OffT w τ.T S) (hL : OffT w τ.L S) (hI : OffT w τ.I S) (hP : OffT w τ.P S) : TbO τ base w' v ts :=
  ⟨own_tf h.out hf hT, fun i hi => own_tf (h.ins i hi) hf hL, h.off, fun i hi q hq => (h.lps i hi q hq).tf hf hI hP⟩
theorem YsO.tf (h : YsO τ base w v ys) (hf : Fr S w w') (hY : OffT w τ.Y S) (hP : OffT w τ.P S) : YsO τ base w' v ys :=
  ⟨own_tf h.out hf hY, fun i hi => own_tf (h.ins i hi) hf hP⟩
theorem FqO.tf (h : FqO τ base w v fs) (hf : Fr S w w') (hS : OffT w τ.S S) (hI : OffT w τ.I S) : FqO τ base w' v fs :=
  ⟨own_tf h.out hf hS, fun i hi => own_tf (h.ins i hi) hf hI⟩
theorem TbO.ext (h : TbO τ base w v ts) (hf : Fr [] w w') : TbO τ base w' v ts := h.tf hf OffT.nil OffT.nil OffT.nil OffT.nil
theorem YsO.ext (h : YsO τ base w v ys) (hf : Fr [] w w') : YsO τ base w' v ys := h.tf hf OffT.nil OffT.nil
theorem FqO.ext (h : FqO τ base w v fs) (hf : Fr [] w w') : FqO τ base w' v fs := h.tf hf OffT.nil OffT.nil
theorem set_getD {α : Type} {l : List α} {i j : Nat} {x d : α} (hi : i < l.length) : (l.set i x).getD j d = if i = j then x else l.getD j d := by
  rw [List.getD, List.getElem?_set, List.getD]
  split
  · first | rfl | (rw [if_pos hi]; rfl)
  · rfl
/-- A loop more in a row: first the row grows, then its header is written. -/
theorem TbO.put (hτ : τ.Ok) {i : Nat} {u : SV} (h : TbO τ base w v ts) (hi : i < ts.length) (hq : LpO τ base w q)
    (h1 : Lw.Own encLp τ.L base w' (slv u) ((ts.getD i tq0).2 ++ [q])) (f1 : Fr (blks (slv (ts.getD i tq0).1)) w w') (hx : slv u = slv (ts.getD i tq0).1 ∨ blks (slv u) = blks (slv (ts.getD i tq0).1) ∨ blks (slv u) = [w.heap.size])
    (h2 : Lw.Own encTq τ.T base w2 v (ts.set i (u, (ts.getD i tq0).2 ++ [q]))) (f2 : Fr (blks v) w' w2) : TbO τ base w2 v (ts.set i (u, (ts.getD i tq0).2 ++ [q])) := by
  have o1 : ∀ T, T ≠ τ.L → OffT w T (blks (slv (ts.getD i tq0).1)) := fun T hT => own_off (h.ins i hi) (Ne.symm hT)
  have out1 := own_tf h.out f1 (o1 _ hτ.tl)
  have o2 : ∀ T, T ≠ τ.T → OffT w' T (blks v) := fun T hT => own_off out1 (Ne.symm hT)
  refine ⟨h2, fun j hj => ?_, fun j k hj hk hjk => ?_, fun j hj p hp => ?_⟩
  · rw [List.length_set] at hj
    rw [set_getD hi]
    split
    · exact own_tf h1 f2 (o2 _ (Ne.symm hτ.tl))
    · rename_i hij
      exact own_tf ((h.ins j hj).fr f1 fun b hb hb2 => h.off i j hi hj hij b hb hb2) f2 (o2 _ (Ne.symm hτ.tl))
  · rw [List.length_set] at hj hk
    have key : ∀ k, k < ts.length → i ≠ k → ∀ b ∈ blks (slv u), b ∉ blks (slv (ts.getD k tq0).1) := fun k hk hik b hb hb2 => by
      rcases hx with e | e | e
      · rw [e] at hb; exact h.off i k hi hk hik b hb hb2
      · rw [e] at hb; exact h.off i k hi hk hik b hb hb2
      · rw [e, List.mem_singleton] at hb; subst hb
        have := ((h.ins k hk).blk _ hb2).2; omega
    rw [set_getD hi, set_getD hi]
    split <;> split
    · rename_i e1 e2; exact absurd (e1.symm.trans e2) hjk
    · rename_i e1 e2; exact key k hk e2
    · rename_i e1 e2; exact fun b hb hb2 => key j hj e1 b hb2 hb
    · exact h.off j k hj hk hjk
  · rw [List.length_set] at hj
    rw [set_getD hi] at hp
    have g : ∀ p, LpO τ base w p → LpO τ base w2 p := fun p hp => (hp.tf f1 (o1 _ (Ne.symm hτ.li)) (o1 _ (Ne.symm hτ.lp))).tf f2 (o2 _ (Ne.symm hτ.ti)) (o2 _ (Ne.symm hτ.tp))
    split at hp
    · rcases List.mem_append.1 hp with hp | hp
      · exact g p (h.lps i hi p hp)
      · rw [List.mem_singleton.1 hp]; exact g q hq
    · exact g p (h.lps j hj p hp)
theorem TbO.at (h : TbO τ base w v ts) : Sl encTq w v ts ∧ TabAt w ts := by
  refine ⟨h.out.sl, fun p hp => ?_⟩
  obtain ⟨i, hi⟩ := List.getElem?_of_mem hp
  have hl := (List.getElem?_eq_some_iff.1 hi).1
  have e : ts.getD i tq0 = p := by rw [List.getD, hi]; rfl
  have h1 := h.ins i hl
  rw [e] at h1
  refine ⟨h1.sl, fun q hq => (h.lps i hl q (by rw [e]; exact hq)).at⟩
theorem YsO.put {i : Nat} {y : YQ} (h : YsO τ base w v ys) (hi : i < ys.length) (hτ : τ.Ok) (h2 : Lw.Own encYq τ.Y base w' v (ys.set i y)) (hf : Fr (blks v) w w') (hp : Lw.Own encPa τ.P base w (slv y.pe) y.pes) : YsO τ base w' v (ys.set i y) := by
  have o : OffT w τ.P (blks v) := own_off h.out hτ.yp
  refine ⟨h2, fun j hj => ?_⟩
  rw [List.length_set] at hj
  rw [set_getD hi]
  split
  · exact own_tf hp hf o
  · exact own_tf (h.ins j hj) hf o
theorem FqO.put {i : Nat} {y : IQ} (h : FqO τ base w v fs) (hi : i < fs.length) (hτ : τ.Ok) (h2 : Lw.Own encIq τ.S base w' v (fs.set i y)) (hf : Fr (blks v) w w') (hp : Lw.Own encId τ.I base w (slv y.1) y.2) : FqO τ base w' v (fs.set i y) := by
  have o : OffT w τ.I (blks v) := own_off h.out hτ.si
  refine ⟨h2, fun j hj => ?_⟩
  rw [List.length_set] at hj
  rw [set_getD hi]
  split
  · exact own_tf hp hf o
  · exact own_tf (h.ins j hj) hf o
end
end Go.G21
namespace Go.Lw
open Go.RowKit
section
variable {P : Program} {n : Nat} {L : List (Nat × Value)} {ds : List Nat} {w w' : World} {Q : Exit → Act → World → Prop} {ops : Array Oper} {rest : List Oper} {a : Act} {d : Nat} {ty T t tn : TypeId} {pos : String} {after : Array Edge} {v : Value} {x y : Operand}
theorem s_appendZ {α : Type} {E : Enc α} {bytes k : Nat} {kq kn : IntKind} (hx : ev L x = some (.slice none 0 0)) (hy : ev L y = some (.int kq (k : Int))) (he : ElemOf P t T E bytes) (htn : P.underlying tn = some (.int kn)) (h0 : 0 < k) (hM : k ≤ maxLen) (hb : k * bytes ≤ 140737488355328) (hn : Nat.blt d n = true)
    (q : ∀ g c w', g = w.heap.size → k ≤ c → Own E T g w' (.slice (some ⟨g, 0, none⟩) 0 c) [] → Fr [] w w' → w'.heap.size = g + 1 → WL P ops Q rest n ds w' ((d, .slice (some ⟨g, 0, none⟩) k c) :: L)) : WL P ops Q (⟨some d, .call ⟨.builtin .append, #[x, y], #[t, tn]⟩, ty, pos, after, none⟩ :: rest) n ds w L := by
  intro a h
  obtain ⟨i, z, h1, h2, h3, h4, h5⟩ := he.info
  have hM2 : k ≤ 9223372036854775807 := by simp only [maxLen] at hM; omega
  have hold : (Builtin.firstCells i.size 0 (.slice none 0 0)).run P w.drew = .ok ([] : List Value).toArray w.drew := by simp [Builtin.firstCells]
  have hr := Lib.run_append_grow_zeros (P := P) w t tn ty T i z kq kn he.und htn h1 h2 none 0 0 [] hold k h0 (by rw [h3]; exact E.pos) (by omega) (by omega) (by rw [h4]; omega)
    (by rw [h4, Nat.zero_add]; exact growslice_fits (by omega) (by omega))
  rw [Nat.zero_add] at hr
  have hge := grownCap_ge w k 0 T
  have hcm := grownCap_le_maxLen w k 0 T hM
  refine st_ok h rfl rfl hn (w' := w.drew.alloc (.cells ((([] : List Value).toArray) ++ Builtin.zeroCells z.cells k ++ Builtin.zeroCells z.cells (grownCap w k 0 T - k)) T)) ?_ (fun a h => q w.heap.size (grownCap w k 0 T) (w.drew.alloc (.cells ((([] : List Value).toArray) ++ Builtin.zeroCells z.cells k ++ Builtin.zeroCells z.cells (grownCap w k 0 T - k)) T)) rfl hge ?_ ⟨rfl, rfl, rfl, by simp, fun k hk _ => Below.heap_alloc w.drew _ k hk⟩ (by simp) a h)
  · rw [exec_builtin]; unfold builtin
    simp only [List.map_toArray, List.map_cons, List.map_nil, h.eval hx, h.eval hy, Sem.run_bind, hr, Result.andThen_ok, Sem.run_pure]
  · refine .inr ⟨_, _, _, by simp, Nat.le_refl _, heap_alloc_new w.drew _, by simp, hcm, ?_, by simp⟩
    simp only [Array.size_append, List.size_toArray, List.length_nil, size_zeroCells, h5, Nat.zero_add, ← Nat.add_mul]
    refine Nat.mul_le_mul_right _ ?_
    omega
/-- A comparison that is known not to hold. -/
theorem s_ltF {k : IntKind} {i j : Int} {t' : TypeId} (hx : ev L x = some (.int k i)) (hy : ev L y = some (.int k j)) (hn : Nat.blt d n = true) (hij : ¬ i < j) (q : WL P ops Q rest n ds w ((d, .bool false) :: L)) : WL P ops Q (⟨some d, .binOp .lss t x y t', ty, pos, after, none⟩ :: rest) n ds w L :=
  lt' hx hy hn (by rw [decide_eq_false hij]; exact q)
end
end Go.Lw
namespace Go.G21
open Go.Lw
/-- Where it lies. -/
structure KA where
  gk : Nat
  gy : Nat
  cy : Nat
  gt : Nat
  ct : Nat
  gf : Nat
  cf : Nat
  gb : Nat
  cb : Nat
  wd : Nat
  g5 : Nat
  c5 : List Value
  ids : List (Nat × List Value)
abbrev KA.YV (a : KA) : Value := .slice (some ⟨a.gy, 0, none⟩) 6 a.cy
abbrev KA.TV (a : KA) : Value := .slice (some ⟨a.gt, 0, none⟩) 6 a.ct
abbrev KA.FV (a : KA) : Value := .slice (some ⟨a.gf, 0, none⟩) a.wd a.cf
abbrev KA.BV (a : KA) : Value := .slice (some ⟨a.gb, 0, none⟩) a.wd a.cb
structure KtOk (τ : TyK) (Kt : Nat) : Prop where
  o : τ.Ok
  y : Kt ≠ τ.Y
  t : Kt ≠ τ.T
  l : Kt ≠ τ.L
  s : Kt ≠ τ.S
structure KnM (τ : TyK) (Kt : Nat) (wS : World) (a : KA) (w : World) (ys : List YQ) (ts : List TQ) (fs bs : List IQ) : Prop where
  k : Blk w a.gk Kt [a.YV, a.TV, a.FV, a.BV]
  y : YsO τ wS.heap.size w a.YV ys
  t : TbO τ wS.heap.size w a.TV ts
  f : FqO τ wS.heap.size w a.FV fs
  b : FqO τ wS.heap.size w a.BV bs
  ly : ys.length = 6
  lt : ts.length = 6
  lf : fs.length = a.wd
  lb : bs.length = a.wd
  fb : a.gf ≠ a.gb
  gk : wS.heap.size ≤ a.gk
  fr : Fr [] wS w
  x : Blk w a.g5 τ.K a.c5
  xi : ∀ p ∈ a.ids, Blk w p.1 τ.I p.2
section
variable {τ : TyK} {Kt : Nat} {wS w w' : World} {a : KA} {ys ys' : List YQ} {ts ts' : List TQ} {fs bs : List IQ} {j i : Nat} {q : IQ}
theorem KnM.offL (h : KnM τ Kt wS a w ys ts fs bs) (hj : j < 6) {T : Nat} (h1 : T ≠ τ.Y) (h2 : T ≠ τ.T) (h3 : T ≠ τ.L) : OffT w T ([a.gy] ++ ([a.gt] ++ blks (slv (ts.getD j tq0).1))) :=
  OffT.app (own_off h.y.out (Ne.symm h1)) (OffT.app (own_off h.t.out (Ne.symm h2)) (own_off (h.t.ins j (by rw [h.lt]; exact hj)) (Ne.symm h3)))
/-- One loop more. -/
theorem KnM.loop (h : KnM τ Kt wS a w ys ts fs bs) (hK : KtOk τ Kt) (hj : j < 6) (hy : YsO τ wS.heap.size w' a.YV ys') (ht : TbO τ wS.heap.size w' a.TV ts') (ly : ys'.length = 6) (lt : ts'.length = 6)
    (hf : Fr ([a.gy] ++ ([a.gt] ++ blks (slv (ts.getD j tq0).1))) w w') : KnM τ Kt wS a w' ys' ts' fs bs := by
  have oS := h.offL hj (Ne.symm hK.o.ys) (Ne.symm hK.o.ts) (Ne.symm hK.o.ls)
  have oI := h.offL hj (Ne.symm hK.o.yi) (Ne.symm hK.o.ti) (Ne.symm hK.o.li)
  refine ⟨blk_tf h.k hf (h.offL hj hK.y hK.t hK.l), hy, ht, h.f.tf hf oS oI, h.b.tf hf oS oI, ly, lt, h.lf, h.lb, h.fb, h.gk, h.fr.step hf fun k hk hlt => ?_, blk_tf h.x hf (h.offL hj hK.o.ky hK.o.kt hK.o.kl), fun p hp => blk_tf (h.xi p hp) hf oI⟩
  rcases List.mem_append.1 hk with hk | hk
  · have := (h.y.out.blk k hk).1; omega
  · rcases List.mem_append.1 hk with hk | hk
    · have := (h.t.out.blk k hk).1; omega
    · have := ((h.t.ins j (by rw [h.lt]; exact hj)).blk k hk).1; omega
theorem KnM.ext (h : KnM τ Kt wS a w ys ts fs bs) (hf : Fr [] w w') : KnM τ Kt wS a w' ys ts fs bs :=
  ⟨h.k.ext hf, h.y.ext hf, h.t.ext hf, h.f.ext hf, h.b.ext hf, h.ly, h.lt, h.lf, h.lb, h.fb, h.gk, h.fr.next hf, h.x.ext hf, fun p hp => (h.xi p hp).ext hf⟩
/-- A stack of the front, of the back is written. -/
theorem KnM.front (h : KnM τ Kt wS a w ys ts fs bs) (hK : KtOk τ Kt) (hi : i < a.wd) (ho : Lw.Own encIq τ.S wS.heap.size w' a.FV (fs.set i q)) (hf : Fr [a.gf] w w') (hq : Lw.Own encId τ.I wS.heap.size w (slv q.1) q.2) : KnM τ Kt wS a w' ys ts (fs.set i q) bs := by
  have o : ∀ T, T ≠ τ.S → OffT w T [a.gf] := fun T hT => own_off h.f.out (Ne.symm hT)
  refine ⟨blk_tf h.k hf (o _ hK.s), h.y.tf hf (o _ hK.o.ys) (o _ (Ne.symm hK.o.sp)), h.t.tf hf (o _ hK.o.ts) (o _ hK.o.ls) (o _ (Ne.symm hK.o.si)) (o _ (Ne.symm hK.o.sp)), h.f.put (by rw [h.lf]; exact hi) hK.o ho hf hq, ⟨h.b.out.fr hf fun k hk hb => ?_, fun i hi => own_tf (h.b.ins i hi) hf (o _ (Ne.symm hK.o.si))⟩, h.ly, h.lt, by rw [List.length_set]; exact h.lf, h.lb, h.fb, h.gk, h.fr.step hf fun k hk hlt => ?_, blk_tf h.x hf (o _ hK.o.ks), fun p hp => blk_tf (h.xi p hp) hf (o _ (Ne.symm hK.o.si))⟩
  · rw [List.mem_singleton] at hk; subst hk
    simp [blks] at hb
    exact h.fb hb
  · have := (h.f.out.blk k hk).1; omega
theorem KnM.back (h : KnM τ Kt wS a w ys ts fs bs) (hK : KtOk τ Kt) (hi : i < a.wd) (ho : Lw.Own encIq τ.S wS.heap.size w' a.BV (bs.set i q)) (hf : Fr [a.gb] w w') (hq : Lw.Own encId τ.I wS.heap.size w (slv q.1) q.2) : KnM τ Kt wS a w' ys ts fs (bs.set i q) := by
  have o : ∀ T, T ≠ τ.S → OffT w T [a.gb] := fun T hT => own_off h.b.out (Ne.symm hT)
  refine ⟨blk_tf h.k hf (o _ hK.s), h.y.tf hf (o _ hK.o.ys) (o _ (Ne.symm hK.o.sp)), h.t.tf hf (o _ hK.o.ts) (o _ hK.o.ls) (o _ (Ne.symm hK.o.si)) (o _ (Ne.symm hK.o.sp)), ⟨h.f.out.fr hf fun k hk hb => ?_, fun i hi => own_tf (h.f.ins i hi) hf (o _ (Ne.symm hK.o.si))⟩, h.b.put (by rw [h.lb]; exact hi) hK.o ho hf hq, h.ly, h.lt, h.lf, by rw [List.length_set]; exact h.lb, h.fb, h.gk, h.fr.step hf fun k hk hlt => ?_, blk_tf h.x hf (o _ hK.o.ks), fun p hp => blk_tf (h.xi p hp) hf (o _ (Ne.symm hK.o.si))⟩
  · rw [List.mem_singleton] at hk; subst hk
    simp [blks] at hb
    exact h.fb hb.symm
  · have := (h.b.out.blk k hk).1; omega
/-- A cell of the type of loops is written, which is no part of it. -/
theorem KnM.tfI {g : Nat} {cs : List Value} (h : KnM τ Kt wS a w ys ts fs bs) (hK : KtOk τ Kt) (hKI : Kt ≠ τ.I) (hIP : τ.I ≠ τ.P) (hb : Blk w g τ.I cs) (hf : Fr [g] w w') (hg : wS.heap.size ≤ g)
    (h1 : ∀ i, i < 6 → ∀ q ∈ (ts.getD i tq0).2, g ∉ blks (slv q.th)) (h2 : ∀ i, i < a.wd → g ∉ blks (slv (fs.getD i iq0).1)) (h3 : ∀ i, i < a.wd → g ∉ blks (slv (bs.getD i iq0).1)) (h4 : ∀ p ∈ a.ids, g ≠ p.1) : KnM τ Kt wS a w' ys ts fs bs := by
  have o : ∀ T, τ.I ≠ T → OffT w T [g] := fun T hT => OffT.one hb hT
  have d : ∀ {v : Value}, g ∉ blks v → ∀ k ∈ [g], k ∉ blks v := fun hv k hk => by rw [List.mem_singleton.1 hk]; exact hv
  refine ⟨blk_tf h.k hf (o _ (Ne.symm hKI)), h.y.tf hf (o _ (Ne.symm hK.o.yi)) (o _ hIP), ⟨own_tf h.t.out hf (o _ (Ne.symm hK.o.ti)), fun i hi => own_tf (h.t.ins i hi) hf (o _ (Ne.symm hK.o.li)), h.t.off, fun i hi q hq => ⟨(h.t.lps i hi q hq).1.fr hf (d (h1 i (by rw [← h.lt]; exact hi) q hq)), own_tf (h.t.lps i hi q hq).2 hf (o _ hIP)⟩⟩,
    ⟨own_tf h.f.out hf (o _ (Ne.symm hK.o.si)), fun i hi => (h.f.ins i hi).fr hf (d (h2 i (by rw [← h.lf]; exact hi)))⟩, ⟨own_tf h.b.out hf (o _ (Ne.symm hK.o.si)), fun i hi => (h.b.ins i hi).fr hf (d (h3 i (by rw [← h.lb]; exact hi)))⟩, h.ly, h.lt, h.lf, h.lb, h.fb, h.gk, h.fr.step hf fun k hk hlt => ?_, blk_tf h.x hf (o _ (Ne.symm hK.o.ki)), fun p hp => (h.xi p hp).fr hf (fun k_ => h4 p hp (List.mem_singleton.1 k_).symm)⟩
  rw [List.mem_singleton] at hk; omega
theorem KnM.addId {g : Nat} {cs : List Value} (h : KnM τ Kt wS a w ys ts fs bs) (hb : Blk w g τ.I cs) : KnM τ Kt wS { a with ids := (g, cs) :: a.ids } w ys ts fs bs :=
  ⟨h.k, h.y, h.t, h.f, h.b, h.ly, h.lt, h.lf, h.lb, h.fb, h.gk, h.fr, h.x, fun p hp => (List.mem_cons.1 hp).elim (fun e => by subst e; exact hb) (h.xi p)⟩
theorem KnM.dropId {p : Nat × List Value} {l : List (Nat × List Value)} (h : KnM τ Kt wS { a with ids := p :: l } w ys ts fs bs) : KnM τ Kt wS { a with ids := l } w ys ts fs bs :=
  ⟨h.k, h.y, h.t, h.f, h.b, h.ly, h.lt, h.lf, h.lb, h.fb, h.gk, h.fr, h.x, fun q hq => h.xi q (List.mem_cons_of_mem _ hq)⟩
/-- The yarns of which none, or so many loops, have been made. -/
def yQ (b : Bool) (f : Nat) : YQ := if b = true then ⟨true, -13, f, decide (f = 0), sv0, []⟩ else yq0
theorem goE_yQ {f : Nat} {l : List Pa} (hf : f ≤ 2048) (hl : l.length ≤ 1) (hv : AllV l) : goE (yQ true f).p (yQ true f).pl l = 0 := by
  have h0 : ynE (yQ true f).p = 0 := yn_0 ⟨⟨by show (0 : Int) ≤ f; omega, by show (f : Int) ≤ 2048; omega⟩, (show IsPl (-13) by decide), by show (0 : Nat) ≤ 4096; omega, fun i h => by simp [yQ] at h⟩
  have hp := pushS_len l ([] : List Pa)
  unfold goE
  rw [if_neg (by rw [h0]; decide), if_neg (by show ¬ ¬ IsPl (-13); decide), if_neg (fun e => e hv), if_neg (by show ¬ (true = false); decide), if_neg (by show ¬ 4096 < (pushS [] l).length; simp at hp; omega)]
theorem goS_yQ {f : Nat} {l : List Pa} : goS (yQ true f).p (yQ true f).pl l = ⟨true, -13, f, decide (f = 0), pushS [] l⟩ := rfl
end
end Go.G21
namespace Go.G21
open Go.Lw
/-- The plain state: the rows of the table, which yarns are in, the stacks of the front and of the back. -/
structure KnR (wd : Nat) (ys : List YQ) (ts : List TQ) (fs bs : List IQ) (rows : List (List Lp)) (en : Nat → Bool) (F B : Nat → List LId) : Prop where
  y : ∀ j, j < 6 → ys.getD j yq0 = yQ (en j) (rows.getD j []).length
  t : tabP ts = rows
  f : ∀ i, i < wd → (fs.getD i iq0).2 = F i
  b : ∀ i, i < wd → (bs.getD i iq0).2 = B i
section
variable {wd : Nat} {ys : List YQ} {ts : List TQ} {fs bs : List IQ} {rows : List (List Lp)} {en : Nat → Bool} {F B F' B' : Nat → List LId} {j i : Nat} {lq : LpQ} {L : Lp} {u u' : SV} {l : List LId}
theorem KnR.row (h : KnR wd ys ts fs bs rows en F B) (hj : j < ts.length) : (ts.getD j tq0).2.map LpQ.p = rows.getD j [] := by
  rw [← h.t, map_getD' (fun p : TQ => p.2.map LpQ.p) ts j tq0 [] hj]
theorem KnR.rlen (h : KnR wd ys ts fs bs rows en F B) (hj : j < ts.length) : (ts.getD j tq0).2.length = (rows.getD j []).length := by rw [← h.row hj, List.length_map]
theorem KnR.rows_len (h : KnR wd ys ts fs bs rows en F B) : rows.length = ts.length := by rw [← h.t, List.length_map]
theorem KnR.loop (h : KnR wd ys ts fs bs rows en F B) (hly : ys.length = 6) (hlt : ts.length = 6) (hj : j < 6) (he : en j = true) (hp : lq.p = L) :
    KnR wd (ys.set j ⟨true, (ys.getD j yq0).pl, (ys.getD j yq0).ct + 1, false, sv0, []⟩) (ts.set j (u, (ts.getD j tq0).2 ++ [lq])) fs bs (rows.set j (rows.getD j [] ++ [L])) en F B := by
  have hrl : rows.length = 6 := by rw [h.rows_len, hlt]
  refine ⟨fun i hi => ?_, ?_, h.f, h.b⟩
  · rw [set_getD (by rw [hly]; exact hj), set_getD (by rw [hrl]; exact hj)]
    split
    · rename_i e; subst e
      rw [h.y _ hj, he, List.length_append]
      simp [yQ]
    · exact h.y i hi
  · rw [← h.row (by rw [hlt]; exact hj), ← h.t]
    show List.map _ _ = _
    rw [List.map_set]
    simp only [List.map_append, List.map_cons, List.map_nil, hp]
theorem KnR.front (h : KnR wd ys ts fs bs rows en F B) (hl : fs.length = wd) (hi : i < wd) : KnR wd ys ts (fs.set i (u, l)) bs rows en (fun k => if i = k then l else F k) B :=
  ⟨h.y, h.t, fun k hk => by
    rw [set_getD (by rw [hl]; exact hi)]
    by_cases e : i = k
    · rw [if_pos e, if_pos e]
    · rw [if_neg e, if_neg e]; exact h.f k hk, h.b⟩
theorem KnR.back (h : KnR wd ys ts fs bs rows en F B) (hl : bs.length = wd) (hi : i < wd) : KnR wd ys ts fs (bs.set i (u, l)) rows en F (fun k => if i = k then l else B k) :=
  ⟨h.y, h.t, h.f, fun k hk => by
    rw [set_getD (by rw [hl]; exact hi)]
    by_cases e : i = k
    · rw [if_pos e, if_pos e]
    · rw [if_neg e, if_neg e]; exact h.b k hk⟩
theorem KnR.cg (h : KnR wd ys ts fs bs rows en F B) (hF : ∀ i, i < wd → F i = F' i) (hB : ∀ i, i < wd → B i = B' i) : KnR wd ys ts fs bs rows en F' B' :=
  ⟨h.y, h.t, fun i hi => (h.f i hi).trans (hF i hi), fun i hi => (h.b i hi).trans (hB i hi)⟩
/-- The stacks while a round is worked: first the front, then the back. -/
def frK (s : Lst) (y : Int) (f k i : Nat) : List LId := if i < k then [⟨y, ((f + i : Nat) : Int)⟩] else frS s i
def bkK (wd : Nat) (s : Lst) (y : Int) (f k i : Nat) : List LId := if wd - 1 - i < k then [⟨y, ((f + 2 * wd - 1 - i : Nat) : Int)⟩] else bkS wd s i
theorem rndF_succ (wd : Nat) (s : Lst) (f k : Nat) : rndF wd s f (k + 1) = rndF wd s f k ++ [lpF wd s f k] := by simp [rndF, List.range_succ]
theorem rndB_succ (wd : Nat) (s : Lst) (y : Int) (f k : Nat) : rndB wd s y f (k + 1) = rndB wd s y f k ++ [lpB wd s y f k] := by simp [rndB, List.range_succ]
theorem rndF_len (wd : Nat) (s : Lst) (f k : Nat) : (rndF wd s f k).length = k := by simp [rndF]
theorem rndB_len (wd : Nat) (s : Lst) (y : Int) (f k : Nat) : (rndB wd s y f k).length = k := by simp [rndB]
theorem frS_len (s : Lst) (i : Nat) : (frS s i).length ≤ 1 := by unfold frS; split <;> simp
theorem bkS_len (wd : Nat) (s : Lst) (i : Nat) : (bkS wd s i).length ≤ 1 := by unfold bkS; split <;> simp
/-- A place of the first half. -/
theorem KnR.stepF {z : List (List Lp)} {s : Lst} {y : Int} {f k : Nat} (h : KnR wd ys ts fs bs (z.set j (z.getD j [] ++ rndF wd s f k)) en (frK s y f k) (bkS wd s)) (hz : z.length = 6) (hf : (z.getD j []).length = f) (hly : ys.length = 6) (hlt : ts.length = 6) (hlf : fs.length = wd) (hj : j < 6) (hk : k < wd) (he : en j = true)
    (hp : lq.p = lpF wd s f k) : KnR wd (ys.set j ⟨true, (ys.getD j yq0).pl, (ys.getD j yq0).ct + 1, false, sv0, []⟩) (ts.set j (u, (ts.getD j tq0).2 ++ [lq])) (fs.set k (u', [⟨y, ((f + k : Nat) : Int)⟩])) bs (z.set j (z.getD j [] ++ rndF wd s f (k + 1))) en (frK s y f (k + 1)) (bkS wd s) := by
  have h2 := ((h.loop (u := u) hly hlt hj he hp).front (u := u') (l := [⟨y, ((f + k : Nat) : Int)⟩]) hlf hk)
  rw [set_getD (by rw [hz]; exact hj), if_pos rfl, List.set_set, List.append_assoc, ← rndF_succ] at h2
  refine h2.cg (fun i hi => ?_) (fun i hi => rfl)
  unfold frK
  by_cases e : k = i
  · subst e; rw [if_pos rfl, if_pos (by omega)]
  · rw [if_neg e]
    by_cases e2 : i < k
    · rw [if_pos e2, if_pos (by omega)]
    · rw [if_neg e2, if_neg (by omega)]
/-- A place of the second half. -/
theorem KnR.stepB {z : List (List Lp)} {s : Lst} {y : Int} {f k : Nat} (h : KnR wd ys ts fs bs (z.set j (z.getD j [] ++ rndF wd s f wd ++ rndB wd s y f k)) en F (bkK wd s y f k)) (hz : z.length = 6) (hf : (z.getD j []).length = f) (hly : ys.length = 6) (hlt : ts.length = 6) (hlb : bs.length = wd) (hj : j < 6) (hk : k < wd) (he : en j = true)
    (hp : lq.p = lpB wd s y f k) : KnR wd (ys.set j ⟨true, (ys.getD j yq0).pl, (ys.getD j yq0).ct + 1, false, sv0, []⟩) (ts.set j (u, (ts.getD j tq0).2 ++ [lq])) fs (bs.set (wd - 1 - k) (u', [⟨y, ((f + wd + k : Nat) : Int)⟩])) (z.set j (z.getD j [] ++ rndF wd s f wd ++ rndB wd s y f (k + 1))) en F (bkK wd s y f (k + 1)) := by
  have h2 := ((h.loop (u := u) hly hlt hj he hp).back (u := u') (l := [⟨y, ((f + wd + k : Nat) : Int)⟩]) (i := wd - 1 - k) hlb (by omega))
  rw [set_getD (by rw [hz]; exact hj), if_pos rfl, List.set_set, List.append_assoc _ (rndB wd s y f k), ← rndB_succ] at h2
  refine h2.cg (fun i hi => rfl) (fun i hi => ?_)
  unfold bkK
  by_cases e : wd - 1 - k = i
  · subst e; rw [if_pos rfl, if_pos (by omega), show f + 2 * wd - 1 - (wd - 1 - k) = f + wd + k by omega]
  · rw [if_neg e]
    by_cases e2 : wd - 1 - i < k
    · rw [if_pos e2, if_pos (by omega)]
    · rw [if_neg e2, if_neg (by omega)]
end
end Go.G21
namespace Go.G21
open Go.Lw
theorem pushS_one {l : List Pa} (hl : l.length ≤ 1) : pushS [] l = l := by
  match l, hl with
  | [], _ => rfl
  | [p], _ => rfl
theorem mkE_yQ {f : Nat} {l : List Pa} (hf : f < 2048) (hl : l.length ≤ 1) (hv : AllV l) : mkE (goS (yQ true f).p (yQ true f).pl l) = 0 := by
  rw [goS_yQ, pushS_one hl]
  have h0 : ynE ⟨true, -13, f, decide (f = 0), l⟩ = 0 := yn_0 ⟨⟨by show (0 : Int) ≤ f; omega, by show (f : Int) ≤ 2048; omega⟩, ⟨(show IsPl (-13) by decide), by show l.length ≤ 4096; omega, fun i h => ⟨hv _ (mem_getD h), fun h1 => absurd (show i < l.length from h) (by omega)⟩⟩⟩
  unfold mkE
  rw [if_neg (by rw [h0]; decide), if_neg (by show ¬ (true = false); decide), if_neg (by show ¬ (f : Int) = 2048; omega)]
theorem allF {y : Int} {n : Nat} (h1 : 1 ≤ y) (h2 : y ≤ 6) (h3 : n < 2048) : AllV (psF [⟨y, (n : Int)⟩]) := fun p hp => by
  simp [psF] at hp; subst hp
  exact ⟨⟨h1, h2, by show (0 : Int) ≤ n; omega, by show (n : Int) < 2048; omega⟩, .inl rfl⟩
theorem allB {y : Int} {f wd i : Nat} (h1 : 1 ≤ y) (h2 : y ≤ 6) (h3 : f + 2 * wd < 2048) : AllV (psB (bkS wd (some (y, f)) i)) := fun p hp => by
  simp [psB, bkS] at hp; subst hp
  exact ⟨⟨h1, h2, by show (0 : Int) ≤ ((f + 2 * wd - 1 - i : Nat) : Int); omega, by show ((f + 2 * wd - 1 - i : Nat) : Int) < 2048; omega⟩, .inr rfl⟩
end Go.G21
namespace Go.G21
open Go.Lw
section
variable {τ : TyK} {Kt : Nat} {wS w w' : World} {a : KA} {ys : List YQ} {ts : List TQ} {fs bs : List IQ} {j wd : Nat} {y : YQ} {rows : List (List Lp)} {en en' : Nat → Bool} {F B : Nat → List LId}
/-- A yarn is written. -/
theorem KnM.yarn (h : KnM τ Kt wS a w ys ts fs bs) (hK : KtOk τ Kt) (hj : j < 6) (ho : Lw.Own encYq τ.Y wS.heap.size w' a.YV (ys.set j y)) (hf : Fr [a.gy] w w') (hp : Lw.Own encPa τ.P wS.heap.size w (slv y.pe) y.pes) : KnM τ Kt wS a w' (ys.set j y) ts fs bs := by
  have o : ∀ T, T ≠ τ.Y → OffT w T [a.gy] := fun T hT => own_off h.y.out (Ne.symm hT)
  refine ⟨blk_tf h.k hf (o _ hK.y), h.y.put (by rw [h.ly]; exact hj) hK.o ho hf hp, h.t.tf hf (o _ (Ne.symm hK.o.yt)) (o _ (Ne.symm hK.o.yl)) (o _ (Ne.symm hK.o.yi)) (o _ (Ne.symm hK.o.yp)), h.f.tf hf (o _ (Ne.symm hK.o.ys)) (o _ (Ne.symm hK.o.yi)), h.b.tf hf (o _ (Ne.symm hK.o.ys)) (o _ (Ne.symm hK.o.yi)), by rw [List.length_set]; exact h.ly, h.lt, h.lf, h.lb, h.fb, h.gk, h.fr.step hf fun k hk hlt => ?_, blk_tf h.x hf (o _ hK.o.ky), fun p hp => blk_tf (h.xi p hp) hf (o _ (Ne.symm hK.o.yi))⟩
  have := (h.y.out.blk k hk).1; omega
theorem KnR.enter (h : KnR wd ys ts fs bs rows en F B) (hly : ys.length = 6) (hj : j < 6) (hr : rows.getD j [] = []) : KnR wd (ys.set j ⟨true, -13, 0, true, sv0, []⟩) ts fs bs rows (fun i => if i = j then true else en i) F B :=
  ⟨fun i hi => by
    rw [set_getD (by rw [hly]; exact hj)]
    by_cases e : j = i
    · subst e; rw [if_pos rfl, hr, if_pos rfl]; rfl
    · rw [if_neg e, if_neg (Ne.symm e)]; exact h.y i hi, h.t, h.f, h.b⟩
theorem KnR.stay (h : KnR wd ys ts fs bs rows en F B) (hj : en j = true) : KnR wd ys ts fs bs rows (fun i => if i = j then true else en i) F B :=
  ⟨fun i hi => by
    by_cases e : i = j
    · subst e; rw [if_pos rfl, ← hj]; exact h.y i hi
    · rw [if_neg e]; exact h.y i hi, h.t, h.f, h.b⟩
theorem KnR.fin {z : List (List Lp)} {s : Lst} {y : Int} {f : Nat} (hw : 1 ≤ wd) (h : KnR wd ys ts fs bs (z.set j (z.getD j [] ++ rndF wd s f wd ++ rndB wd s y f wd)) en (frK s y f wd) (bkK wd s y f wd)) : KnR wd ys ts fs bs (z.set j (z.getD j [] ++ rndL wd s y f)) en (frS (some (y, f))) (bkS wd (some (y, f))) := by
  rw [List.append_assoc] at h
  exact h.cg (fun i hi => by unfold frK frS; rw [if_pos hi]) (fun i hi => by unfold bkK bkS; rw [if_pos (by omega)])
end
theorem enE_new : enE yq0.p 0 = 0 := by
  have h0 : ynE yq0.p = 0 := yn_0 ⟨by decide, by decide⟩
  unfold enE
  rw [if_neg (by rw [h0]; decide), if_neg (by decide), if_neg (by decide)]
end Go.G21
namespace Go.G21
open Go.Lw
/-- A cell of the type of stacks is written, which is no part of it. -/
theorem KnM.tfS {τ : TyK} {Kt : Nat} {wS w w' : World} {a : KA} {ys : List YQ} {ts : List TQ} {fs bs : List IQ} {g : Nat} {cs : List Value} (h : KnM τ Kt wS a w ys ts fs bs) (hK : KtOk τ Kt) (hb : Blk w g τ.S cs) (hf : Fr [g] w w') (hg : wS.heap.size ≤ g) (h1 : g ≠ a.gf) (h2 : g ≠ a.gb) : KnM τ Kt wS a w' ys ts fs bs := by
  have o : ∀ T, τ.S ≠ T → OffT w T [g] := fun T hT => OffT.one hb hT
  refine ⟨blk_tf h.k hf (o _ (Ne.symm hK.s)), h.y.tf hf (o _ (Ne.symm hK.o.ys)) (o _ hK.o.sp), h.t.tf hf (o _ (Ne.symm hK.o.ts)) (o _ (Ne.symm hK.o.ls)) (o _ hK.o.si) (o _ hK.o.sp),
    ⟨h.f.out.fr hf fun k hk hb2 => ?_, fun i hi => own_tf (h.f.ins i hi) hf (o _ hK.o.si)⟩, ⟨h.b.out.fr hf fun k hk hb2 => ?_, fun i hi => own_tf (h.b.ins i hi) hf (o _ hK.o.si)⟩, h.ly, h.lt, h.lf, h.lb, h.fb, h.gk, h.fr.step hf fun k hk hlt => ?_, blk_tf h.x hf (o _ (Ne.symm hK.o.ks)), fun p hp => blk_tf (h.xi p hp) hf (o _ hK.o.si)⟩
  · rw [List.mem_singleton] at hk; subst hk; simp [blks] at hb2; exact h1 hb2
  · rw [List.mem_singleton] at hk; subst hk; simp [blks] at hb2; exact h2 hb2
  · rw [List.mem_singleton] at hk; omega
end Go.G21
namespace Go.G21
open Go.Lw
/-- Blocks of other types are written. -/
theorem KnM.tfO {τ : TyK} {Kt : Nat} {wS w w' : World} {a : KA} {ys : List YQ} {ts : List TQ} {fs bs : List IQ} {S : List Nat} (h : KnM τ Kt wS a w ys ts fs bs) (hf : Fr S w w') (hg : ∀ k ∈ S, wS.heap.size ≤ k) (h0 : OffT w Kt S) (h1 : OffT w τ.Y S) (h2 : OffT w τ.T S) (h3 : OffT w τ.L S) (h4 : OffT w τ.I S) (h5 : OffT w τ.P S) (h6 : OffT w τ.S S) (h7 : OffT w τ.K S) : KnM τ Kt wS a w' ys ts fs bs :=
  ⟨blk_tf h.k hf h0, h.y.tf hf h1 h5, h.t.tf hf h2 h3 h4 h5, h.f.tf hf h6 h4, h.b.tf hf h6 h4, h.ly, h.lt, h.lf, h.lb, h.fb, h.gk, h.fr.step hf fun k hk hlt => by have := hg k hk; omega, blk_tf h.x hf h7, fun p hp => blk_tf (h.xi p hp) hf h4⟩
end Go.G21
namespace Go.G21
open Go.Lw
def bdK (y : Int) (f k : Nat) : List LId := if k = 0 then [] else [⟨y, ((f + k - 1 : Nat) : Int)⟩]
def pdK (y : Int) (f k : Nat) : List Pa := if k = 0 then [] else [⟨⟨y, ((f + k - 1 : Nat) : Int)⟩, true, 0⟩]
theorem bdK_len (y : Int) (f k : Nat) : (bdK y f k).length ≤ 1 := by unfold bdK; split <;> simp
theorem pdK_len (y : Int) (f k : Nat) : (pdK y f k).length ≤ 1 := by unfold pdK; split <;> simp
theorem pdK_all {y : Int} {f k : Nat} (h1 : 1 ≤ y) (h2 : y ≤ 6) (h3 : f + k < 2048) : AllV (pdK y f k) := fun p hp => by
  unfold pdK at hp
  split at hp
  · cases hp
  · simp at hp; subst hp
    exact ⟨⟨h1, h2, by show (0 : Int) ≤ ((f + k - 1 : Nat) : Int); omega, by show ((f + k - 1 : Nat) : Int) < 2048; omega⟩, .inl rfl⟩
theorem bndL_succ (wd : Nat) (s : Lst) (y : Int) (f k : Nat) : bndL wd s y f (k + 1) = bndL wd s y f k ++ [bndP wd s y f k] := by simp [bndL, List.range_succ]
theorem bndL_len (wd : Nat) (s : Lst) (y : Int) (f k : Nat) : (bndL wd s y f k).length = k := by simp [bndL]
theorem KnR.stepN {wd : Nat} {ys : List YQ} {ts : List TQ} {fs bs : List IQ} {en : Nat → Bool} {F B : Nat → List LId} {j : Nat} {lq : LpQ} {u : SV} {z : List (List Lp)} {s : Lst} {y : Int} {f k : Nat} (h : KnR wd ys ts fs bs (z.set j (z.getD j [] ++ bndL wd s y f k)) en F B) (hz : z.length = 6) (hly : ys.length = 6) (hlt : ts.length = 6) (hj : j < 6) (he : en j = true) (hp : lq.p = bndP wd s y f k) :
    KnR wd (ys.set j ⟨true, (ys.getD j yq0).pl, (ys.getD j yq0).ct + 1, false, sv0, []⟩) (ts.set j (u, (ts.getD j tq0).2 ++ [lq])) fs bs (z.set j (z.getD j [] ++ bndL wd s y f (k + 1))) en F B := by
  have h2 := h.loop (u := u) hly hlt hj he hp
  rw [set_getD (by rw [hz]; exact hj), if_pos rfl, List.set_set, List.append_assoc, ← bndL_succ] at h2
  exact h2
end Go.G21
namespace Go.Lw
open Go.RowKit

/-- An operation of a machine: kind, direction, bed, needle, yarn, rack. -/
structure MOp where
  k : Int
  d : Int
  b : Int
  p : Int
  y : Int
  r : Int

theorem MOp.ext' {a c : MOp} (h : a.k = c.k ∧ a.d = c.d ∧ a.b = c.b ∧ a.p = c.p ∧ a.y = c.y ∧ a.r = c.r) : a = c := by
  obtain ⟨h1, h2, h3, h4, h5, h6⟩ := h; cases a; cases c; simp only at *; subst h1 h2 h3 h4 h5 h6; rfl
instance : DecidableEq MOp := fun a c =>
  if h : a.k = c.k ∧ a.d = c.d ∧ a.b = c.b ∧ a.p = c.p ∧ a.y = c.y ∧ a.r = c.r then isTrue (MOp.ext' h)
  else isFalse (fun e => h (by subst e; exact ⟨rfl, rfl, rfl, rfl, rfl, rfl⟩))

/-- needles.Check -/
def nchk (b p : Int) : Int := if b ≠ 0 ∧ b ≠ 1 then 1 else if p < 1 ∨ 40 < p then 1 else 0
/-- Which fields a kind uses: direction, needle, yarn, rack. -/
abbrev F4 := Bool × Bool × Bool × Bool
def f40 : F4 := (false, false, false, false)
def usesS (k : Int) : Option F4 :=
  if k = 8 then some (false, true, false, false) else if k = 7 then some (false, true, false, false) else if k = 6 then some (true, true, true, false)
  else if k = 5 then some (true, true, true, false) else if k = 4 then some (true, true, true, false) else if k = 3 then some (false, false, false, true)
  else if k = 2 then some (false, false, true, false) else if k = 1 then some (true, false, true, false) else none
abbrev pl1 (f : F4) (o : MOp) : Prop := (f.1 = true ∧ o.d ≠ 0) ∧ o.d ≠ 1 ∨ ¬ f.1 = true ∧ o.d ≠ 0
abbrev pl2 (f : F4) (o : MOp) : Prop := f.2.1 = true ∧ nchk o.b o.p ≠ 0 ∨ ¬ f.2.1 = true ∧ ¬ (o.b = 0 ∧ o.p = 0)
abbrev pl3 (f : F4) (o : MOp) : Prop := f.2.2.1 = true ∧ (o.y < 1 ∨ 6 < o.y) ∨ ¬ f.2.2.1 = true ∧ o.y ≠ 0
abbrev pl4 (f : F4) (o : MOp) : Prop := f.2.2.2 = true ∨ o.r = 0
def plainF (f : F4) (o : MOp) : Prop := ¬ pl1 f o ∧ ¬ pl2 f o ∧ ¬ pl3 f o ∧ pl4 f o
instance (f : F4) (o : MOp) : Decidable (plainF f o) := by unfold plainF; infer_instance
def plainS (o : MOp) : Prop := (usesS o.k).isSome = true ∧ plainF ((usesS o.k).getD f40) o
instance (o : MOp) : Decidable (plainS o) := by unfold plainS; infer_instance
def dig1 (n : Nat) : UInt8 := UInt8.ofNat (48 + n)
def dec0 (n : Nat) : List UInt8 := if n < 10 then [dig1 n] else [dig1 (n / 10), dig1 (n % 10)]
theorem dec0_eq {n : Nat} (h : n < 100) : Lib.decDigits n = dec0 n := by
  unfold dec0
  rw [Lib.decDigits]
  split
  · rfl
  · rw [Lib.decDigits, dif_pos (by omega)]; rfl
/-- The fields are those of bytes. -/
def MOp.Ok (o : MOp) : Prop := 0 ≤ o.k ∧ 0 ≤ o.d ∧ 0 ≤ o.b ∧ 0 ≤ o.y ∧ o.k ≤ 255 ∧ o.d ≤ 255 ∧ o.b ≤ 255 ∧ o.y ≤ 255
theorem splitK_len (sep : List UInt8) : ∀ (k : Nat) (l x : List UInt8), x ∈ Lib.splitK sep 0 k l → x.length ≤ l.length
  | 0, l, x, h => by simp [Lib.splitK] at h; rw [h]; exact Nat.le_refl _
  | k + 1, l, x, h => by
    unfold Lib.splitK at h
    split at h
    · simp at h; rw [h]; exact Nat.le_refl _
    · rw [List.mem_cons] at h
      rcases h with rfl | h
      · simp; omega
      · have := splitK_len sep k _ x h
        simp at this; omega
theorem split_len (l sep : List UInt8) (i : Nat) : ((Lib.split l sep).getD i []).length ≤ l.length := by
  rw [List.getD]
  cases e : (Lib.split l sep)[i]? with
  | none => simp
  | some y => exact splitK_len sep _ l y (List.mem_of_getElem? e)

theorem cut_len (x m : List UInt8) : (Lib.cut x m).1.length ≤ x.length := by unfold Lib.cut; (repeat' split) <;> simp <;> omega
end Go.Lw
namespace Go.Lw

theorem ix_none {c : UInt8} : ∀ {l : List UInt8}, c ∉ l → Lib.index l [c] = -1
  | [], _ => by simp [Lib.index]
  | b :: l, h => by
    have hb : ¬ c = b := fun e => h (by rw [e]; simp)
    have hl : c ∉ l := fun e => h (by simp [e])
    rw [Lib.index, ix_none hl]
    simp [List.isPrefixOf, hb]
theorem ix_app {c : UInt8} (y : List UInt8) : ∀ {x : List UInt8}, c ∉ x → Lib.index (x ++ c :: y) [c] = x.length
  | [], _ => by simp [Lib.index, List.isPrefixOf]
  | b :: x, h => by
    have hb : ¬ c = b := fun e => h (by rw [e]; simp)
    have hl : c ∉ x := fun e => h (by simp [e])
    rw [List.cons_append, Lib.index, ix_app y hl]
    simp only [List.isPrefixOf, beq_eq_false_iff_ne.2 hb, Bool.false_and, Bool.false_eq_true, if_false]
    rw [if_neg (by simp <;> omega)]; simp
theorem cnt {c : UInt8} : ∀ (f : Nat) (s : List UInt8), s.length < f → Lib.countFrom [c] f s = s.count c
  | 0, s, h => by omega
  | f + 1, s, h => by
    rw [Lib.countFrom]
    by_cases hm : c ∈ s
    · obtain ⟨x, y, rfl, hx⟩ := List.eq_append_cons_of_mem hm
      rw [ix_app y hx, if_neg (by simp <;> omega)]
      have e : (x ++ c :: y).drop ((x.length : Int).toNat + [c].length) = y := by
        rw [Int.toNat_natCast, show x ++ c :: y = (x ++ [c]) ++ y by simp, show x.length + [c].length = (x ++ [c]).length by simp, List.drop_left]
      rw [e, cnt f y (by simp at h; omega)]
      simp [List.count_eq_zero.2 hx]; omega
    · rw [ix_none hm, if_pos (by decide), List.count_eq_zero.2 hm]
end Go.Lw
namespace Go.G21
open Go.Lw
def runT (y n : Nat) : List UInt8 := 32 :: (dec0 y ++ (if 1 < n then 120 :: dec0 n else []))
def runs : List UInt8 → List (UInt8 × Nat)
  | [] => []
  | y :: l => (y, 1 + (l.takeWhile fun z => z == y).length) :: runs (l.dropWhile fun z => z == y)
termination_by l => l.length
decreasing_by
  have := (List.dropWhile_suffix (fun z => z == y) (l := l)).length_le
  simp only [List.length_cons]; omega
def textR (rs : List UInt8) : List UInt8 := (runs rs).flatMap fun p => runT p.1.toNat p.2
def textT (wd : Int) (rs : List UInt8) : List UInt8 := [116, 117, 98, 101, 32] ++ dec0 wd.toNat ++ textR rs
theorem tw_rep (y : UInt8) (l : List UInt8) (h : l = [] ∨ l.getD 0 0 ≠ y) : ∀ m, ((List.replicate m y ++ l).takeWhile fun z => z == y) = List.replicate m y ∧ ((List.replicate m y ++ l).dropWhile fun z => z == y) = l
  | 0 => by
    cases l with
    | nil => simp
    | cons z l =>
      have hz : z ≠ y := by rcases h with h | h; exact absurd h (by simp); exact h
      simp [hz]
  | m + 1 => by
    have := tw_rep y l h m
    simp [List.replicate_succ, this]
theorem runs_rep (y : UInt8) (l : List UInt8) (h : l = [] ∨ l.getD 0 0 ≠ y) (m : Nat) : runs (List.replicate (m + 1) y ++ l) = (y, m + 1) :: runs l := by
  rw [List.replicate_succ, List.cons_append, runs, (tw_rep y l h m).1, (tw_rep y l h m).2, List.length_replicate, Nat.add_comm]
theorem drop_rep {rs : List UInt8} {i k : Nat} (hik : i ≤ k) (hk : k ≤ rs.length) (he : ∀ j, i ≤ j → j < k → rs.getD j 0 = rs.getD i 0) : rs.drop i = List.replicate (k - i) (rs.getD i 0) ++ rs.drop k := by
  have e : rs.drop i = (rs.drop i).take (k - i) ++ rs.drop k := by
    conv => lhs; rw [← List.take_append_drop (k - i) (rs.drop i), List.drop_drop]
    rw [show i + (k - i) = k by omega]
  rw [e]
  congr 1
  · refine List.ext_getElem? fun j => ?_
    rw [List.getElem?_take, List.getElem?_replicate]
    split
    · rename_i hj
      rw [List.getElem?_drop, List.getElem?_eq_getElem (show i + j < rs.length by omega)]
      have := he (i + j) (by omega) (by omega)
      rw [List.getD, List.getElem?_eq_getElem (show i + j < rs.length by omega)] at this
      exact congrArg some this
    · rfl
theorem run_end {rs : List UInt8} {i k : Nat} (hik : i < k) (hk : k ≤ rs.length) (he : ∀ j, i ≤ j → j < k → rs.getD j 0 = rs.getD i 0) (hend : k = rs.length ∨ rs.getD k 0 ≠ rs.getD i 0) : textR (rs.drop i) = runT (rs.getD i 0).toNat (k - i) ++ textR (rs.drop k) := by
  rw [drop_rep (by omega) hk he]
  obtain ⟨m, hm⟩ : ∃ m, k - i = m + 1 := ⟨k - i - 1, by omega⟩
  rw [hm, textR, runs_rep, List.flatMap_cons]
  · rfl
  · rcases hend with h | h
    · left; rw [h, List.drop_length]
    · right; rw [List.getD, List.getElem?_drop]; exact h
theorem textR_nil : textR [] = [] := by simp [textR, runs]
/-! Reading. -/
def numM (w : List UInt8) (most : Int) : Int := match Lib.atoiAll w with
  | .ok n => if n < 1 ∨ most < n then 0 else n
  | _ => 0
theorem numM_rng (w : List UInt8) (most : Int) (h : 0 ≤ most) : 0 ≤ numM w most ∧ numM w most ≤ most := by
  unfold numM; split
  · split <;> omega
  · omega
def timesW (w : List UInt8) : Int := if (Lib.cut w [120]).2.2 = true then numM (Lib.cut w [120]).2.1 31 else 1
def addW (acc : List UInt8) (w : List UInt8) : List UInt8 := acc ++ List.replicate (min (timesW w) (32 - (acc.length : Int))).toNat (UInt8.ofNat (numM (Lib.cut w [120]).1 6).toNat)
def guessR (ws : List (List UInt8)) : List UInt8 := ws.foldl addW []
end Go.G21
namespace Go.Proofs.YtkionldalpijpaaGreatDoor
open Go.Lw Go.G21
theorem ag39 : AggOf Tryz.prog 39 2 := ⟨fun _ => by kernel_rfl, fun _ => by kernel_rfl⟩
theorem ag65 : AggOf Tryz.prog 65 4 := ⟨fun _ => by kernel_rfl, fun _ => by kernel_rfl⟩
theorem co46 : CallOf Tryz.prog 46 := CallOf.mk' Tryz.func46 (by kernel_rfl) (by kernel_rfl)
theorem co85 : CallOf Tryz.prog 85 := CallOf.mk' Tryz.func85 (by kernel_rfl) (by kernel_rfl)
theorem fa39_0 : FieldAt Tryz.prog 39 0 0 := fun _ _ => by kernel_rfl
theorem fa39_1 : FieldAt Tryz.prog 39 1 1 := fun _ _ => by kernel_rfl
theorem fa65_0 : FieldAt Tryz.prog 65 0 0 := fun _ _ => by kernel_rfl
theorem fa65_2 : FieldAt Tryz.prog 65 2 3 := fun _ _ => by kernel_rfl
theorem na3 : NotAgg Tryz.prog 3 := fun _ => by kernel_rfl
theorem na5 : NotAgg Tryz.prog 5 := fun _ => by kernel_rfl
theorem na63 : NotAgg Tryz.prog 63 := fun _ => by kernel_rfl
theorem sz63 : SizeOf Tryz.prog 63 1 := fun _ => by kernel_rfl
def idV (i : LId) : Value := .agg (idL i).toArray
def paV (p : Pa) : Value := .agg (paL p).toArray
theorem eqId : EqOf Tryz.prog 39 idV := by
  intro e f ox oy w
  have hg : ∀ op, (eqGuard op 39 ox oy (idV e) (idV f)).run Tryz.prog w = .ok () w := fun op => run_eqGuard_agg w op 39 ox oy _ _ (by kernel_rfl)
  have h1 : Tryz.prog.stoodInHeld 39 = false := by kernel_rfl
  obtain ⟨y, n⟩ := e
  obtain ⟨y', n'⟩ := f
  refine ⟨hg _, hg _, ?_, ?_⟩
  · unfold idV
    simp [go_sem, h1, Tryz.underlying39]
    (repeat' split) <;> simp_all
  · unfold idV
    simp [go_sem, h1, Tryz.underlying39]
    (repeat' split) <;> simp_all
theorem eqPa : EqOf Tryz.prog 65 paV := by
  intro e f ox oy w
  have hg : ∀ op, (eqGuard op 65 ox oy (paV e) (paV f)).run Tryz.prog w = .ok () w := fun op => run_eqGuard_agg w op 65 ox oy _ _ (by kernel_rfl)
  have h1 : Tryz.prog.stoodInHeld 65 = false := by kernel_rfl
  obtain ⟨⟨y, n⟩, b, d⟩ := e
  obtain ⟨⟨y', n'⟩, b', d'⟩ := f
  refine ⟨hg _, hg _, ?_, ?_⟩
  · unfold paV
    simp [go_sem, h1, Tryz.underlying65]
    (repeat' split) <;> simp_all
  · unfold paV
    simp [go_sem, h1, Tryz.underlying65]
    (repeat' split) <;> simp_all
theorem named_ok (i : LId) (w0 : World) : Rets Tryz.prog 85 #[.agg #[.int .u8 i.y, .int .i64 i.n]] w0 fun r w' => r = .bool (decide (Named i)) ∧ Fr [] w0 w' := by
 refine we [(0, .agg #[.int .u8 i.y, .int .i64 i.n])] Tryz.func85 rfl Tryz.ntmps85 rfl (.cons rfl .nil) ?_
 refine sr (bx rfl rfl rfl (fun g1 w1 hg1 hb1 q1 z1 => ?_))
 refine asg rfl rfl (nn (sq ?_))
 refine rbo (r := 2) (L' := []) (((((1 ≤ i.y) ∧ (i.y ≤ 6)) ∧ (0 ≤ i.n)) ∧ (i.n < 2048))) .nil ?_ ?_
 · refine fad rfl fa39_0 rfl (s_loadB rfl hb1 rfl na5 rfl (ge' rfl rfl rfl (mv rfl rfl ?_)))
   refine gs 6 rfl (fun g0 => ?_) (fun g0 => ?_)
   · refine gY rfl (fad rfl fa39_0 rfl (gY rfl (s_loadB rfl hb1 rfl na5 rfl (gY rfl (le' rfl rfl rfl (pkt rfl rfl rfl rfl (mv rfl rfl ?_)))))))
     refine gs 11 rfl (fun g1 => ?_) (fun g1 => ?_)
     · refine gY rfl (fad rfl fa39_1 rfl (gY rfl (s_loadB rfl hb1 rfl na3 rfl (gY rfl (ge' rfl rfl rfl (pkt rfl rfl rfl rfl (mv rfl rfl ?_)))))))
       refine gs 16 rfl (fun g2 => ?_) (fun g2 => ?_)
       · exact gY rfl (fad rfl fa39_1 rfl (gY rfl (s_loadB rfl hb1 rfl na3 rfl (gY rfl (lt' rfl rfl rfl (pkt rfl rfl rfl rfl (asg rfl rfl (rbe rfl (by first | exact bt (by omega) | exact bf (by omega) | exact bi (by omega) | exact bn (by omega) | (simp_all; done) | (simp_all; omega)) .nil))))))))
       · exact gN rfl rfl rfl (gN rfl rfl rfl (gN rfl rfl rfl (pkf rfl rfl rfl rfl (asg rfl rfl (rbe rfl (by first | exact bt (by omega) | exact bf (by omega) | exact bi (by omega) | exact bn (by omega) | (simp_all; done) | (simp_all; omega)) .nil)))))
     · exact gN rfl rfl rfl (gN rfl rfl rfl (gN rfl rfl rfl (pkf rfl rfl rfl rfl (mv rfl rfl (gN rfl rfl rfl (gN rfl rfl rfl (gN rfl rfl rfl (pkf rfl rfl rfl rfl (asg rfl rfl (rbe rfl (by first | exact bt (by omega) | exact bf (by omega) | exact bi (by omega) | exact bn (by omega) | (simp_all; done) | (simp_all; omega)) .nil))))))))))
   · refine gN rfl rfl rfl (gN rfl rfl rfl (gN rfl rfl rfl (pkf rfl rfl rfl rfl (mv rfl rfl (gN rfl rfl rfl (gN rfl rfl rfl (gN rfl rfl rfl (pkf rfl rfl rfl rfl (mv rfl rfl (gN rfl rfl rfl (gN rfl rfl rfl ?_)))))))))))
     exact gN rfl rfl rfl (pkf rfl rfl rfl rfl (asg rfl rfl (rbe rfl (by first | exact bt (by omega) | exact bf (by omega) | exact bi (by omega) | exact bn (by omega) | (simp_all; done) | (simp_all; omega)) .nil)))
 · refine tn (rt (r1 Tryz.results85 rfl ?_))
   exact ⟨_, rfl, congrArg Value.bool (decide_eq_decide.2 (by unfold Named; omega)), q1⟩
theorem sided_ok (d : Int) (w0 : World) : Rets Tryz.prog 46 #[.int .u8 d] w0 fun r w' => r = .bool (decide (Sided d)) ∧ Fr [] w0 w' := by
 refine we [(0, .int .u8 d)] Tryz.func46 rfl Tryz.ntmps46 rfl (.cons rfl .nil) ?_
 refine sr (asg rfl rfl (nn (sq ?_)))
 refine rbo (r := 2) (L' := []) (((d = 0) ∨ (d = 1))) .nil ?_ ?_
 · refine mv rfl rfl (eq' rfl rfl rfl (mv rfl rfl ?_))
   refine gs 5 rfl (fun g0 => ?_) (fun g0 => ?_)
   · exact gN rfl rfl rfl (gN rfl rfl rfl (pkt rfl rfl rfl rfl (asg rfl rfl (rbe rfl (by first | exact bt (by omega) | exact bf (by omega) | exact bi (by omega) | exact bn (by omega) | (simp_all; done) | (simp_all; omega)) .nil))))
   · exact gY rfl (mv rfl rfl (gY rfl (eq' rfl rfl rfl (pkf rfl rfl rfl rfl (asg rfl rfl (rbe rfl (by first | exact bt (by omega) | exact bf (by omega) | exact bi (by omega) | exact bn (by omega) | (simp_all; done) | (simp_all; omega)) .nil))))))
 · refine tn (rt (r1 Tryz.results46 rfl ?_))
   exact ⟨_, rfl, congrArg Value.bool (decide_eq_decide.2 (by unfold Sided; omega)), (Fr.refl _ _)⟩
theorem valid_ok (p : Pa) (w0 : World) : Rets Tryz.prog 68 #[.agg #[.int .u8 p.id.y, .int .i64 p.id.n, .bool p.f, .int .u8 p.d]] w0 fun r w' => r = .bool (decide (ValidP p)) ∧ Fr [] w0 w' := by
 refine we [(0, .agg #[.int .u8 p.id.y, .int .i64 p.id.n, .bool p.f, .int .u8 p.d])] Tryz.func68 rfl Tryz.ntmps68 rfl (.cons rfl .nil) ?_
 refine sr (bx rfl rfl rfl (fun g1 w1 hg1 hb1 q1 z1 => ?_))
 refine asg rfl rfl (nn (sq ?_))
 refine rboF (r := 2) (L' := []) (((Named ⟨p.id.y, p.id.n⟩) ∧ (Sided p.d))) .nil ?_ ?_
 · refine fad rfl fa65_0 rfl (s_loadBP (vs := [_, _]) rfl hb1 ag39 rfl rfl ?_)
   refine cl (ev1 rfl) co85 (named_ok ⟨_, _⟩ _) rfl ?_
   rintro _ w2 ⟨rfl, q2⟩
   have z2 := q2.size
   refine mv rfl rfl ?_
   refine gs 6 rfl (fun g0 => ?_) (fun g0 => ?_)
   · refine gY rfl (fad rfl fa65_2 rfl (gY rfl ?_))
     replace hb1 := hb1.ext q2
     refine s_loadB rfl hb1 rfl na63 rfl (gY rfl ?_)
     refine cl (ev1 rfl) co46 (sided_ok _ _) rfl ?_
     rintro _ w3 ⟨rfl, q3⟩
     have z3 := q3.size
     exact pkt rfl rfl rfl rfl (asg rfl rfl (rbeF rfl (by first | exact bt (by omega) | exact bf (by omega) | exact bi (by omega) | exact bn (by omega) | (simp_all; done) | (simp_all; omega)) .nil (q2.next q3)))
   · exact gN rfl rfl rfl (gN rfl rfl rfl (gN rfl rfl rfl (pkf rfl rfl rfl rfl (asg rfl rfl (rbeF rfl (by first | exact bt (by omega) | exact bf (by omega) | exact bi (by omega) | exact bn (by omega) | (simp_all; done) | (simp_all; omega)) .nil q2)))))
 · intro w4 q4; have z4 := q4.size
   refine tn (rt (r1 Tryz.results68 rfl ?_))
   exact ⟨_, rfl, congrArg Value.bool (decide_eq_decide.2 (by rfl)), (q1.next q4)⟩
theorem isplace_ok (x : Int) (w0 : World) : Rets Tryz.prog 67 #[.int .i64 x] w0 fun r w' => r = .bool (decide (IsPl x)) ∧ Fr [] w0 w' := by
 refine we [(0, .int .i64 x)] Tryz.func67 rfl Tryz.ntmps67 rfl (.cons rfl .nil) ?_
 refine sr (asg rfl rfl (nn (sq ?_)))
 refine rbo (r := 2) (L' := []) (((((Int.tmod x 2) ≠ 0) ∧ (-13 ≤ x)) ∧ (x ≤ 179))) .nil ?_ ?_
 · refine mv rfl rfl (s_rem rfl rfl (by omega) (by first | exact IntWalk.rem_in _ _ (by omega) | rfl) rfl (ne' rfl rfl rfl (mv rfl rfl ?_)))
   refine gs 6 rfl (fun g0 => ?_) (fun g0 => ?_)
   · refine gY rfl (mv rfl rfl (gY rfl (ge' rfl rfl rfl (pkt rfl rfl rfl rfl (mv rfl rfl ?_)))))
     refine gs 10 rfl (fun g1 => ?_) (fun g1 => ?_)
     · exact gY rfl (mv rfl rfl (gY rfl (le' rfl rfl rfl (pkt rfl rfl rfl rfl (asg rfl rfl (rbe rfl (by first | exact bt (by omega) | exact bf (by omega) | exact bi (by omega) | exact bn (by omega) | (simp_all; done) | (simp_all; omega)) .nil))))))
     · exact gN rfl rfl rfl (gN rfl rfl rfl (pkf rfl rfl rfl rfl (asg rfl rfl (rbe rfl (by first | exact bt (by omega) | exact bf (by omega) | exact bi (by omega) | exact bn (by omega) | (simp_all; done) | (simp_all; omega)) .nil))))
   · exact gN rfl rfl rfl (gN rfl rfl rfl (pkf rfl rfl rfl rfl (mv rfl rfl (gN rfl rfl rfl (gN rfl rfl rfl (pkf rfl rfl rfl rfl (asg rfl rfl (rbe rfl (by first | exact bt (by omega) | exact bf (by omega) | exact bi (by omega) | exact bn (by omega) | (simp_all; done) | (simp_all; omega)) .nil))))))))
 · refine tn (rt (r1 Tryz.results67 rfl ?_))
   exact ⟨_, rfl, congrArg Value.bool (decide_eq_decide.2 (by unfold IsPl; exact and_assoc)), (Fr.refl _ _)⟩
theorem cancel_ok (p q : Pa) (w0 : World) : Rets Tryz.prog 69 #[.agg #[.int .u8 p.id.y, .int .i64 p.id.n, .bool p.f, .int .u8 p.d], .agg #[.int .u8 q.id.y, .int .i64 q.id.n, .bool q.f, .int .u8 q.d]] w0 fun r w' => r = .bool (decide (Canc p q)) ∧ Fr [] w0 w' := by
 refine we [(0, .agg #[.int .u8 p.id.y, .int .i64 p.id.n, .bool p.f, .int .u8 p.d]), (1, .agg #[.int .u8 q.id.y, .int .i64 q.id.n, .bool q.f, .int .u8 q.d])] Tryz.func69 rfl Tryz.ntmps69 rfl (.cons rfl (.cons rfl .nil)) ?_
 refine sr (bx rfl rfl rfl (fun g2 w1 hg2 hb2 q1 z1 => ?_))
 refine bx rfl rfl rfl (fun g3 w2 hg3 hb3 q2 z2 => ?_)
 refine asg rfl rfl (nn (sq (sq ?_)))
 refine rboF (r := 21) (L' := [(2, _), (3, _)]) ((((¬ (Sided p.d)) ∨ (¬ (Sided q.d))) ∨ (p.d = q.d))) (.cons rfl (.cons rfl .nil)) ?_ ?_
 · refine fad rfl fa65_2 rfl ?_
   replace hb2 := hb2.ext q2
   refine s_loadB rfl hb2 rfl na63 rfl ?_
   refine cl (ev1 rfl) co46 (sided_ok _ _) rfl ?_
   rintro _ w3 ⟨rfl, q3⟩
   have z3 := q3.size
   refine nt' rfl rfl (mv rfl rfl ?_)
   refine gs 9 rfl (fun g0 => ?_) (fun g0 => ?_)
   · refine gN rfl rfl rfl (gN rfl rfl rfl (gN rfl rfl rfl (gN rfl rfl rfl (pkt rfl rfl rfl rfl (mv rfl rfl (gN rfl rfl rfl (gN rfl rfl rfl (gN rfl rfl rfl (gN rfl rfl rfl (gN rfl rfl rfl (pkt rfl rfl rfl rfl ?_)))))))))))
     exact rbeF rfl (by first | exact bt (by omega) | exact bf (by omega) | exact bi (by omega) | exact bn (by omega) | (simp_all; done) | (simp_all; omega)) (.cons rfl (.cons rfl .nil)) q3
   · refine gY rfl (fad rfl fa65_2 rfl (gY rfl ?_))
     replace hb3 := hb3.ext q3
     refine s_loadB rfl hb3 rfl na63 rfl (gY rfl ?_)
     refine cl (ev1 rfl) co46 (sided_ok _ _) rfl ?_
     rintro _ w4 ⟨rfl, q4⟩
     have z4 := q4.size
     refine gY rfl (nt' rfl rfl (pkf rfl rfl rfl rfl (mv rfl rfl ?_)))
     refine gs 15 rfl (fun g1 => ?_) (fun g1 => ?_)
     · exact gN rfl rfl rfl (gN rfl rfl rfl (gN rfl rfl rfl (gN rfl rfl rfl (gN rfl rfl rfl (pkt rfl rfl rfl rfl (rbeF rfl (by first | exact bt (by omega) | exact bf (by omega) | exact bi (by omega) | exact bn (by omega) | (simp_all; done) | (simp_all; omega)) (.cons rfl (.cons rfl .nil)) (q3.next q4)))))))
     · refine gY rfl (fad rfl fa65_2 rfl (gY rfl ?_))
       replace hb2 := hb2.ext (q3.next q4)
       refine s_loadB rfl hb2 rfl na63 rfl (gY rfl (fad rfl fa65_2 rfl (gY rfl ?_)))
       replace hb3 := hb3.ext q4
       exact s_loadB rfl hb3 rfl na63 rfl (gY rfl (eq' rfl rfl rfl (pkf rfl rfl rfl rfl (rbeF rfl (by first | exact bt (by omega) | exact bf (by omega) | exact bi (by omega) | exact bn (by omega) | (simp_all; done) | (simp_all; omega)) (.cons rfl (.cons rfl .nil)) (q3.next q4)))))
 · intro w5 q5; have z5 := q5.size
   refine tn ?_
   refine cd rfl (fun c0 => ?_) (fun c0 => ?_)
   · refine sr (asg rfl rfl (nn (rt (tr (r1 Tryz.results69 rfl ?_)))))
     exact ⟨_, rfl, congrArg Value.bool (decide_eq_false (canc_no c0)).symm, ((q1.next q2).next q5)⟩
   · refine sk (tn (sr (fad rfl fa65_2 rfl ?_)))
     replace hb2 := hb2.ext (q2.next q5)
     refine s_loadB rfl hb2 rfl na63 rfl (fad rfl fa65_2 rfl ?_)
     replace hb3 := hb3.ext q5
     refine s_storeB rfl rfl hb3 rfl rfl rfl sz63 (fun w6 hb3 q6 z6 => ?_)
     replace hb3 : Blk w6 g3 _ [_, _, _, _] := hb3
     refine nn (sr ?_)
     replace hb2 := hb2.fr q6 (by first | (simp; done) | (simp; omega) | (simp [blks]; done) | (simp [blks]; omega))
     refine s_loadBA rfl hb2 ag65 rfl (s_loadBA rfl hb3 ag65 rfl ?_)
     refine s_eqV (V := paV) (e := p) (f := (⟨q.id, q.f, p.d⟩ : Pa)) rfl rfl eqPa rfl ?_
     refine asg rfl rfl (nn (rt (r1 Tryz.results69 rfl ?_)))
     exact ⟨_, rfl, congrArg Value.bool (decide_eq_decide.2 (canc_eq c0)), (((q1.next q2).next q5).step q6 (by first | (simp; done) | (simp; omega)))⟩
end Go.Proofs.YtkionldalpijpaaGreatDoor
namespace Go.Proofs.YtkionldalpijpaaGreatDoor
open Go.Lw Go.G21
theorem el56 : ElemOf Tryz.prog 56 65 encPa 24 := ElemOf.mk' (z := (.agg #[.int .u8 0, .int .i64 0, .bool false, .int .u8 0])) Tryz.underlying56 (by kernel_rfl) rfl
theorem zv65 (w : World) : (zeroValue 65).run Tryz.prog w = .ok (.agg #[(.int .u8 0), (.int .i64 0), (.bool false), (.int .u8 0)]) w := by kernel_rfl
theorem ycopied_ok (v : Value) (l : List Pa) (w0 : World) (hs : Sl encPa w0 v l) (hl : l.length ≤ 100000) : Rets Tryz.prog 72 #[v] w0 fun r w' => ∃ A, r = .slice A l.length l.length ∧ Lw.Own encPa 65 w0.heap.size w' r l ∧ Fr [] w0 w' := by
 obtain ⟨A, c, rfl, hcc, hM, hA⟩ := id hs
 clear hA
 unfold maxLen at hM
 refine we [(0, .slice A l.length c)] Tryz.func72 rfl Tryz.ntmps72 rfl (.cons rfl .nil) ?_
 have hs0 := hs
 refine sr (asg rfl rfl (nn (sr (mv rfl rfl (lnS rfl Tryz.underlying56 rfl ?_)))))
 refine s_makeSlice (m := l.length) (c := l.length) (pa0) rfl rfl el56 zv65 rfl (by omega) (by omega) (by unfold maxLen; omega) rfl (fun g6 w1 hg6 ho q1 z1 => ?_)
 refine asg rfl rfl (nn (sr (mv rfl rfl (mv rfl rfl ?_))))
 replace hs := hs0.ext q1
 refine s_copy (zs := List.replicate l.length pa0) (by rw [List.length_replicate]; rfl) rfl (by rw [List.length_replicate]; exact ho) hs (by rw [List.length_replicate]) el56 rfl (fun w2 ho q2 z2 => ?_)
 rw [List.length_replicate] at ho
 refine nn (sr (mv rfl rfl (asg rfl rfl (nn (rt (r1 Tryz.results72 rfl ?_))))))
 exact ⟨_, rfl, some ⟨g6, 0, none⟩, rfl, ho.low (by omega), (q1.step q2 (by first | (simp; done) | (simp; omega)))⟩
end Go.Proofs.YtkionldalpijpaaGreatDoor
namespace Go.Proofs.YtkionldalpijpaaGreatDoor
open Go.Lw Go.G21
theorem co69 : CallOf Tryz.prog 69 := CallOf.mk' Tryz.func69 (by kernel_rfl) (by kernel_rfl)
theorem hmix : Tryz.prog.follows .mixedOrders = true := by kernel_rfl
theorem sz65 : SizeOf Tryz.prog 65 4 := fun _ => by kernel_rfl
set_option maxHeartbeats 1000000 in
theorem push_ok (base : Nat) (u v : Value) (st l : List Pa) (w0 : World) (ho : Lw.Own encPa 65 base w0 u st) (hs : Sl encPa w0 v l) (hd : ∀ k ∈ blks v, k < base) (hb : base ≤ w0.heap.size) (hn : st.length + l.length ≤ 100000) : Rets Tryz.prog 71 #[u, v] w0 fun r w' => ∃ S, Lw.Own encPa 65 base w' r (pushS st l) ∧ (∀ k ∈ S, base ≤ k) ∧ Fr S w0 w' := by
 obtain ⟨A, c, rfl, hcc, hM, hA⟩ := id hs
 clear hA
 unfold maxLen at hM
 refine we [(0, u), (1, .slice A l.length c)] Tryz.func71 rfl Tryz.ntmps71 rfl (.cons rfl (.cons rfl .nil)) ?_
 have hs0 := hs
 refine sr (asg rfl rfl (nn (sq (sr (mv rfl rfl (lnS rfl Tryz.underlying56 rfl (mv rfl rfl (nn (bl ?_)))))))))
 refine lpK (ι := Nat × Value) [(8, _), (9, _)] (fun p => [(10, .int .i64 (p.1 : Int)), (0, p.2)]) (fun p w' => p.1 ≤ l.length ∧ Lw.Own encPa 65 base w' p.2 (pushS st (l.take p.1)) ∧ base ≤ w'.heap.size ∧ (∃ S, (∀ k ∈ S, base ≤ k) ∧ Fr S w0 w')) (fun p => l.length - p.1) (0, u) (.cons rfl (.cons rfl (.cons rfl (.cons rfl .nil)))) ⟨Nat.zero_le _, ho, hb, [], (by simp), Fr.refl _ _⟩ ?_
 rintro ⟨i, vT⟩ w1 ⟨hi, ho, hb, ⟨S, hS, qS⟩⟩
 simp only at hi ho
 refine kpC [(8, _), (9, _), (10, .int .i64 (i : Int)), (0, vT)] (.cons rfl (.cons rfl (.cons rfl (.cons rfl .nil)))) ?_
 have hs := hs0.fr qS (fun k hk hk2 => by have := hS k hk; have := hd k hk2; omega)
 have hpl := pushS_len (l.take i) st
 rw [List.length_take] at hpl
 obtain ⟨ps, hps⟩ : ∃ x, x = pushS st (l.take i) := ⟨_, rfl⟩
 rw [← hps] at ho hpl
 obtain ⟨AT, cT, rfl, hcT⟩ := ho.sl.form
 have hoB := ho
 have hcM := ho.sl.len_le
 unfold maxLen at hcM
 refine sr (lt' rfl rfl rfl (nn (sq ?_)))
 refine cd rfl (fun c0 => ?_) (fun c0 => ?_)
 · refine sk (tn (sq (bl (sr (s_idxL (pa0) rfl hs rfl el56 (by omega) (by omega) nat_of rfl (fun ad12 hc12 => ?_))))))
   refine s_loadA rfl (hc12 _ hs) ag65 rfl (al zv65 rfl rfl (fun g6 w2 hg6 hb6 q2 z2 => ?_))
   refine s_storeBA (vs := [_, _, _, _]) rfl rfl hb6 (by rfl) (by first | (simp [Value.oneCell', S]; done) | exact Enc.one _ _ | exact encPa.one (l.getD i pa0)) sz65 (fun w3 hb6 q3 z3 => ?_)
   refine nn (sr (mv rfl rfl (lnS rfl Tryz.underlying56 rfl (asg rfl rfl (nn (sq ?_))))))
   replace ho := (ho.ext q2).fr q3 (by first | (simp; done) | (simp; omega) | (simp [blks]; done) | (simp [blks]; omega) | (intro k hk hb; simp at hk; subst hk; have := ho.blk _ hb; omega))
   intro a h
   refine region_heldP none (fun wb w' => Fr [] wb w') hmix ?_; intro w4 hq
   have z4 := hq.size
   replace ho := ho.ext hq
   replace hb6 := hb6.ext hq
   have q4 := hq
   clear hq; have hC : Fr [] w4 w4 := Fr.refl _ _
   have ho_b := ho
   have hb6_b := hb6
   refine hd_move 0 (by kernel_rfl) (by kernel_rfl) (by kernel_rfl) hC h wn rfl rfl rfl ?_; clear h a; intro a h
   refine hd_gt 1 (by kernel_rfl) (by kernel_rfl) (by kernel_rfl) hC h wn rfl rfl rfl rfl ?_; clear h a; intro a h
   refine hd_move 2 (by kernel_rfl) (by kernel_rfl) (by kernel_rfl) hC h wn rfl rfl rfl ?_; clear h a; intro a h
   first | refine guard_dec (D := 18) h rfl ?_ ?_ | refine guard_ndec (D := 18) h rfl ?_ ?_ | refine guard_any (D := 18) h rfl ?_ ?_
   · clear h; intro g0 h
     refine hd_move 3 (by kernel_rfl) (by kernel_rfl) (by kernel_rfl) hC h (wy rfl) rfl rfl rfl ?_; clear h a; intro a h
     refine hd_move 4 (by kernel_rfl) (by kernel_rfl) (by kernel_rfl) hC h (wy rfl) rfl rfl rfl ?_; clear h a; intro a h
     refine hd_sub 5 (by kernel_rfl) (by kernel_rfl) (by kernel_rfl) hC h (wy rfl) rfl rfl (by first | exact IntWalk.i64_in _ (by omega) | rfl) rfl rfl ?_; clear h a; intro a h
     refine hd_idxL (p := (ps.length - 1)) (pa0) 6 (by kernel_rfl) (by kernel_rfl) (by kernel_rfl) hC h (wy rfl) rfl ho.sl rfl el56 (by omega) (by omega) (by omega) rfl rfl ?_; clear h a; intro ad22 hc22 a h
     refine hd_loadA 7 (by kernel_rfl) (by kernel_rfl) (by kernel_rfl) hC h (wy rfl) rfl (fun _ hw => hc22 _ (ho_b.sl.ext hw)) ag65 rfl rfl ?_; clear h a; intro a h
     refine hd_loadBA 8 (by kernel_rfl) (by kernel_rfl) (by kernel_rfl) hC h (wy rfl) rfl (fun _ hw => hb6_b.ext hw) ag65 rfl rfl ?_; clear h a; intro a h
     refine hd_one 9 (by kernel_rfl) rfl ?_
     refine gd_yes h rfl rfl rfl rfl rfl rfl ?_
     refine st_call h (evs_cons rfl (evs_cons rfl evs_nil)) co69 (cancel_ok (ps.getD (ps.length - 1) pa0) (l.getD i pa0) _) rfl ?_; clear h a; rintro _ w5 ⟨rfl, hq⟩ a h
     have z5 := hq.size
     replace ho := ho.ext hq
     replace hb6 := hb6.ext hq
     replace hC := hC.next hq
     have q5 := hq
     clear hq
     refine hd_next hC ?_
     refine hd_one 10 (by kernel_rfl) rfl ?_
     refine st_pick_t h rfl rfl rfl rfl ?_; clear h a; intro a h
     refine hd_next hC ?_
     refine hd_end (by kernel_rfl) ?_
     clear hC ho_b hb6_b
     refine bk (h.sub (L' := [(0, _), (6, _), (7, _), (8, _), (9, _), (10, _), (26, _)]) (.cons rfl (.cons rfl (.cons rfl (.cons rfl (.cons rfl (.cons rfl (.cons rfl .nil)))))))) ?_; clear h a
     refine tn ?_
     refine cd rfl (fun c1 => ?_) (fun c1 => ?_)
     · refine rg (mv rfl rfl (mv rfl rfl (s_sub rfl rfl (wi6 (by omega)) rfl (mv rfl rfl (s_capS rfl Tryz.underlying56 rfl (s_sl_hm (p := (ps.length - 1)) (p' := cT) rfl rfl rfl el56 (by omega) (by omega) (by omega) (by omega) (by omega) rfl (asg rfl rfl (kpL [(0, _), (8, _), (9, _), (10, _)] (.cons rfl (.cons rfl (.cons rfl (.cons rfl .nil)))) (nl (bn' (tn ?_)))))))))))
       refine rg (s_add rfl rfl (wi6 (by omega)) rfl (mv rfl rfl (nl ?_)))
       exact lpE ((i + 1, _)) (.cons rfl (.cons rfl (.cons rfl (.cons rfl .nil)))) ⟨by simp only; omega, by rw [pushS_succ st l i (by omega), ← hps, push1, if_pos ⟨by omega, c1⟩]; exact ho.take rfl (by omega) (by omega) (by omega), by omega, S ++ blks (.slice AT ps.length cT), (fun k hk => (List.mem_append.1 hk).elim (hS k) (fun hk => (hoB.blk k hk).1)), qS.trans (((((Fr.refl (blks (.slice AT ps.length cT)) _).next q2).step q3 (by first | (simp; done) | (simp; omega))).next q4).next q5)⟩ (by simp only; omega)
     · refine rg (mv rfl rfl (s_loadBA rfl hb6 ag65 rfl (s_bslice ([l.getD i pa0]) (ev1 rfl) rfl rfl rfl el56 (Nat.le_of_ble_eq_true rfl) rfl (fun g35 w6 hg35 ho35 q6 z6 => ?_))))
       replace ho := ho.ext q6
       have hoo36 := ho
       refine s_append rfl rfl ho ho35.sl el56 (by unfold maxLen; simp only [List.length_cons, List.length_nil]; omega) (by simp only [List.length_cons, List.length_nil]; omega) (by omega) rfl (fun v36 w7 ho q7 hor36 => ?_)
       have z7 := q7.size
       refine asg rfl rfl (kpL [(0, _), (8, _), (9, _), (10, _)] (.cons rfl (.cons rfl (.cons rfl (.cons rfl .nil)))) (nl (bn' (tn (rg (s_add rfl rfl (wi6 (by omega)) rfl (mv rfl rfl (nl ?_))))))))
       exact lpE ((i + 1, _)) (.cons rfl (.cons rfl (.cons rfl (.cons rfl .nil)))) ⟨by simp only; omega, by rw [pushS_succ st l i (by omega), ← hps, push1, if_neg (by first | exact fun e => c1 e.2 | exact fun e => absurd e.1 (by omega))]; exact ho, by omega, S ++ blks (.slice AT ps.length cT), (fun k hk => (List.mem_append.1 hk).elim (hS k) (fun hk => (hoB.blk k hk).1)), qS.trans (((((((Fr.refl (blks (.slice AT ps.length cT)) _).next q2).step q3 (by first | (simp; done) | (simp; omega))).next q4).next q5).next q6).step q7 (fun k hk _ => hk))⟩ (by simp only; omega)
   · clear h; intro g0 h
     refine hd_gn 3 (by kernel_rfl) (by kernel_rfl) (by kernel_rfl) hC h rfl rfl rfl rfl ?_; clear h a; intro a h
     refine hd_gn 4 (by kernel_rfl) (by kernel_rfl) (by kernel_rfl) hC h rfl rfl rfl rfl ?_; clear h a; intro a h
     refine hd_gn 5 (by kernel_rfl) (by kernel_rfl) (by kernel_rfl) hC h rfl rfl rfl rfl ?_; clear h a; intro a h
     refine hd_gn 6 (by kernel_rfl) (by kernel_rfl) (by kernel_rfl) hC h rfl rfl rfl rfl ?_; clear h a; intro a h
     refine hd_gn 7 (by kernel_rfl) (by kernel_rfl) (by kernel_rfl) hC h rfl rfl rfl rfl ?_; clear h a; intro a h
     refine hd_gn 8 (by kernel_rfl) (by kernel_rfl) (by kernel_rfl) hC h rfl rfl rfl rfl ?_; clear h a; intro a h
     refine hd_gn 9 (by kernel_rfl) (by kernel_rfl) (by kernel_rfl) hC h rfl rfl rfl rfl ?_; clear h a; intro a h
     refine hd_one 10 (by kernel_rfl) rfl ?_
     refine st_pick_f h rfl rfl rfl rfl ?_; clear h a; intro a h
     refine hd_next hC ?_
     refine hd_end (by kernel_rfl) ?_
     clear hC ho_b hb6_b
     refine bk (h.sub (L' := [(0, _), (6, _), (7, _), (8, _), (9, _), (10, _), (26, _)]) (.cons rfl (.cons rfl (.cons rfl (.cons rfl (.cons rfl (.cons rfl (.cons rfl .nil)))))))) ?_; clear h a
     refine tn (cf rfl (rg (mv rfl rfl (s_loadBA rfl hb6 ag65 rfl (s_bslice ([l.getD i pa0]) (ev1 rfl) rfl rfl rfl el56 (Nat.le_of_ble_eq_true rfl) rfl (fun g35 w8 hg35 ho35 q8 z8 => ?_))))))
     replace ho := ho.ext q8
     have hoo36 := ho
     refine s_append rfl rfl ho ho35.sl el56 (by unfold maxLen; simp only [List.length_cons, List.length_nil]; omega) (by simp only [List.length_cons, List.length_nil]; omega) (by omega) rfl (fun v36 w9 ho q9 hor36 => ?_)
     have z9 := q9.size
     refine asg rfl rfl (kpL [(0, _), (8, _), (9, _), (10, _)] (.cons rfl (.cons rfl (.cons rfl (.cons rfl .nil)))) (nl (bn' (tn (rg (s_add rfl rfl (wi6 (by omega)) rfl (mv rfl rfl (nl ?_))))))))
     exact lpE ((i + 1, _)) (.cons rfl (.cons rfl (.cons rfl (.cons rfl .nil)))) ⟨by simp only; omega, by rw [pushS_succ st l i (by omega), ← hps, push1, if_neg (by first | exact fun e => c1 e.2 | exact fun e => absurd e.1 (by omega))]; exact ho, by omega, S ++ blks (.slice AT ps.length cT), (fun k hk => (List.mem_append.1 hk).elim (hS k) (fun hk => (hoB.blk k hk).1)), qS.trans ((((((Fr.refl (blks (.slice AT ps.length cT)) _).next q2).step q3 (by first | (simp; done) | (simp; omega))).next q4).next q8).step q9 (fun k hk _ => hk))⟩ (by simp only; omega)
 · refine ex (te (te (xh (tn (sr (mv rfl rfl (asg rfl rfl (kpL [(4, _)] (.cons rfl .nil) (nn (rt (r1 Tryz.results71 rfl ?_)))))))))))
   exact ⟨_, rfl, S, by rw [List.take_of_length_le (by omega)] at hps; rw [← hps]; exact ho, hS, qS⟩
end Go.Proofs.YtkionldalpijpaaGreatDoor
namespace Go.Proofs.YtkionldalpijpaaGreatDoor
open Go.Lw Go.G21
theorem co67 : CallOf Tryz.prog 67 := CallOf.mk' Tryz.func67 (by kernel_rfl) (by kernel_rfl)
theorem co68 : CallOf Tryz.prog 68 := CallOf.mk' Tryz.func68 (by kernel_rfl) (by kernel_rfl)
theorem fa75_0 : FieldAt Tryz.prog 75 0 0 := fun _ _ => by kernel_rfl
theorem fa75_1 : FieldAt Tryz.prog 75 1 1 := fun _ _ => by kernel_rfl
theorem fa75_2 : FieldAt Tryz.prog 75 2 2 := fun _ _ => by kernel_rfl
theorem fa75_3 : FieldAt Tryz.prog 75 3 3 := fun _ _ => by kernel_rfl
theorem fa75_4 : FieldAt Tryz.prog 75 4 4 := fun _ _ => by kernel_rfl
theorem na4 : NotAgg Tryz.prog 4 := fun _ => by kernel_rfl
theorem na56 : NotAgg Tryz.prog 56 := fun _ => by kernel_rfl
set_option maxHeartbeats 1000000 in
theorem ycheck_ok (q : YQ) (w0 : World) (hp : Sl encPa w0 (slv q.pe) q.pes) : Rets Tryz.prog 45 #[.agg #[.bool q.inn, .int .i64 q.pl, .int .i64 q.ct, .bool q.nw, .slice q.pe.1 q.pe.2.1 q.pe.2.2]] w0 fun r w' => r = .int .i64 (ynE q.p) ∧ Fr [] w0 w' := by
 have hpl := sl_len hp
 have hpM := hp.len_le
 unfold maxLen at hpM
 refine we [(0, .agg #[.bool q.inn, .int .i64 q.pl, .int .i64 q.ct, .bool q.nw, .slice q.pe.1 q.pe.2.1 q.pe.2.2])] Tryz.func45 rfl Tryz.ntmps45 rfl (.cons rfl .nil) ?_
 have hp0 := hp
 refine sr (bx rfl rfl rfl (fun g1 w1 hg1 hb1 q1 z1 => ?_))
 refine asg rfl rfl (nn (sq (sq ?_)))
 refine rbo (r := 12) (L' := [(1, _)]) (((q.ct < 0) ∨ (2048 < q.ct))) (.cons rfl .nil) ?_ ?_
 · refine fad rfl fa75_2 rfl (s_loadB rfl hb1 rfl na3 rfl (lt' rfl rfl rfl (mv rfl rfl ?_)))
   refine gs 8 rfl (fun g0 => ?_) (fun g0 => ?_)
   · exact gN rfl rfl rfl (gN rfl rfl rfl (gN rfl rfl rfl (pkt rfl rfl rfl rfl (rbe rfl (by first | exact bt (by omega) | exact bf (by omega) | exact bi (by omega) | exact bn (by omega) | (simp_all; done) | (simp_all; omega)) (.cons rfl .nil)))))
   · exact gY rfl (fad rfl fa75_2 rfl (gY rfl (s_loadB rfl hb1 rfl na3 rfl (gY rfl (gt' rfl rfl rfl (pkf rfl rfl rfl rfl (rbe rfl (by first | exact bt (by omega) | exact bf (by omega) | exact bi (by omega) | exact bn (by omega) | (simp_all; done) | (simp_all; omega)) (.cons rfl .nil))))))))
 · refine tn ?_
   refine cd rfl (fun c0 => ?_) (fun c0 => ?_)
   · refine sr (asg rfl rfl (nn (rt (tr (r1 Tryz.results45 rfl ?_)))))
     exact ⟨_, rfl, by rw [yn_a c0], q1⟩
   · refine sk (tn (sq (sr (fad rfl fa75_0 rfl (s_loadB rfl hb1 rfl na4 rfl (nt' rfl rfl (nn ?_)))))))
     refine cd rfl (fun c1 => ?_) (fun c1 => ?_)
     · refine sq (sq ?_)
       refine rbo (r := 28) (L' := []) ((((q.pl ≠ 0) ∨ q.nw = true) ∨ (0 < (q.pe.2.1 : Int)))) .nil ?_ ?_
       · refine fad rfl fa75_1 rfl (s_loadB rfl hb1 rfl na3 rfl (ne' rfl rfl rfl (mv rfl rfl ?_)))
         refine gs 19 rfl (fun g1 => ?_) (fun g1 => ?_)
         · exact gN rfl rfl rfl (gN rfl rfl rfl (pkt rfl rfl rfl rfl (mv rfl rfl (gN rfl rfl rfl (gN rfl rfl rfl (gN rfl rfl rfl (gN rfl rfl rfl (pkt rfl rfl rfl rfl (rbe rfl (by first | exact bt (by omega) | exact bf (by omega) | exact bi (by omega) | exact bn (by omega) | (simp_all; done) | (simp_all; omega)) .nil)))))))))
         · refine gY rfl (fad rfl fa75_3 rfl (gY rfl (s_loadB rfl hb1 rfl na4 rfl (pkf rfl rfl rfl rfl (mv rfl rfl ?_)))))
           refine gs 23 rfl (fun g2 => ?_) (fun g2 => ?_)
           · exact gN rfl rfl rfl (gN rfl rfl rfl (gN rfl rfl rfl (gN rfl rfl rfl (pkt rfl rfl rfl rfl (rbe rfl (by first | exact bt (by omega) | exact bf (by omega) | exact bi (by omega) | exact bn (by omega) | (simp_all; done) | (simp_all; omega)) .nil)))))
           · exact gY rfl (fad rfl fa75_4 rfl (gY rfl (s_loadB rfl hb1 rfl na56 rfl (gY rfl (lnS rfl Tryz.underlying56 rfl (gY rfl (gt' rfl rfl rfl (pkf rfl rfl rfl rfl (rbe rfl (by first | exact bt (by omega) | exact bf (by omega) | exact bi (by omega) | exact bn (by omega) | (simp_all; done) | (simp_all; omega)) .nil)))))))))
       · refine tn ?_
         refine cd rfl (fun c2 => ?_) (fun c2 => ?_)
         · refine sr (asg rfl rfl (nn (rt (tr (tr (r1 Tryz.results45 rfl ?_))))))
           have hin : q.inn = false := (by simpa using c1)
           exact ⟨_, rfl, by rw [yn_b hin (by simpa [hpl] using c2)], q1⟩
         · refine sk (tn (sr (asg rfl rfl (nn (rt (tr (r1 Tryz.results45 rfl ?_)))))))
           have hin : q.inn = false := (by simpa using c1)
           exact ⟨_, rfl, by rw [yn_c c0 hin (by simpa [hpl] using c2)], q1⟩
     · refine sk (tn (sq (sq ?_)))
       refine rboF (r := 38) (L' := [(1, _)]) (((¬ (IsPl q.pl)) ∨ (4096 < (q.pe.2.1 : Int)))) (.cons rfl .nil) ?_ ?_
       · refine fad rfl fa75_1 rfl (s_loadB rfl hb1 rfl na3 rfl ?_)
         refine cl (ev1 rfl) co67 (isplace_ok _ _) rfl ?_
         rintro _ w2 ⟨rfl, q2⟩
         have z2 := q2.size
         refine nt' rfl rfl (mv rfl rfl ?_)
         refine gs 33 rfl (fun g3 => ?_) (fun g3 => ?_)
         · exact gN rfl rfl rfl (gN rfl rfl rfl (gN rfl rfl rfl (gN rfl rfl rfl (pkt rfl rfl rfl rfl (rbeF rfl (by first | exact bt (by omega) | exact bf (by omega) | exact bi (by omega) | exact bn (by omega) | (simp_all; done) | (simp_all; omega)) (.cons rfl .nil) q2)))))
         · refine gY rfl (fad rfl fa75_4 rfl (gY rfl ?_))
           replace hb1 := hb1.ext q2
           exact s_loadB rfl hb1 rfl na56 rfl (gY rfl (lnS rfl Tryz.underlying56 rfl (gY rfl (gt' rfl rfl rfl (pkf rfl rfl rfl rfl (rbeF rfl (by first | exact bt (by omega) | exact bf (by omega) | exact bi (by omega) | exact bn (by omega) | (simp_all; done) | (simp_all; omega)) (.cons rfl .nil) q2))))))
       · intro w3 q3; have z3 := q3.size
         refine tn ?_
         refine cd rfl (fun c3 => ?_) (fun c3 => ?_)
         · refine sr (asg rfl rfl (nn (rt (tr (r1 Tryz.results45 rfl ?_)))))
           have hin : q.inn = true := (by simpa using c1)
           exact ⟨_, rfl, by rw [yn_d hin (by simpa [hpl] using c3)], (q1.next q3)⟩
         · refine sk (tn (sq (sr (fad rfl fa75_4 rfl ?_))))
           replace hb1 := hb1.ext q3
           refine s_loadB rfl hb1 rfl na56 rfl (lnS rfl Tryz.underlying56 rfl (mv rfl rfl (nn (bl ?_))))
           refine lpK (ι := Nat) [(1, _), (40, _), (41, _)] (fun i => [(42, .int .i64 (i : Int))]) (fun i w' => Fr [] w3 w' ∧ i ≤ q.pes.length ∧ ∀ j, j < i → GoodAt q.pes j) (fun i => q.pes.length - i) 0 (.cons rfl (.cons rfl (.cons rfl (.cons rfl .nil)))) ⟨Fr.refl _ _, ⟨Nat.zero_le _, fun j h => absurd h (by omega)⟩⟩ ?_
           rintro i w4 ⟨q4, ⟨hi, hg⟩⟩
           have z4 := q4.size
           refine kpC [(1, _), (40, _), (41, _), (42, _)] (.cons rfl (.cons rfl (.cons rfl (.cons rfl .nil)))) ?_
           refine sr (lt' rfl rfl rfl (nn (sq ?_)))
           refine cd rfl (fun c4 => ?_) (fun c4 => ?_)
           · refine sk (tn (sq (bl (sr (mv rfl rfl ?_)))))
             replace hp := hp0.ext ((q1.next q3).next q4)
             refine s_idxL (p := i) (pa0) rfl hp rfl el56 (by omega) (by omega) (by omega) rfl (fun ad45 hc45 => ?_)
             refine s_loadA rfl (hc45 _ hp) ag65 rfl (al zv65 rfl rfl (fun g4 w5 hg4 hb4 q5 z5 => ?_))
             refine asg rfl rfl (s_storeBA (vs := [_, _, _, _]) rfl rfl hb4 (by rfl) (by first | (simp [Value.oneCell', S]; done) | exact Enc.one _ _ | exact encPa.one (q.pes.getD i pa0)) sz65 (fun w6 hb4 q6 z6 => ?_))
             refine nn (sq ?_)
             replace hp := hp0.ext ((((q1.next q3).next q4).next q5).step q6 (by first | (simp; done) | (simp; omega)))
             replace hb1 := (hb1.ext (q4.next q5)).fr q6 (by first | (simp; done) | (simp; omega) | (simp [blks]; done) | (simp [blks]; omega))
             intro a h
             refine region_heldP none (fun wb w' => Fr [] wb w') hmix ?_; intro w7 hq
             have z7 := hq.size
             replace hp := hp.ext hq
             replace hb1 := hb1.ext hq
             replace hb4 := hb4.ext hq
             have q7 := hq
             clear hq; have hC : Fr [] w7 w7 := Fr.refl _ _
             have hp_b := hp
             have hb1_b := hb1
             have hb4_b := hb4
             refine hd_loadBA 0 (by kernel_rfl) (by kernel_rfl) (by kernel_rfl) hC h wn rfl (fun _ hw => hb4_b.ext hw) ag65 rfl rfl ?_; clear h a; intro a h
             refine hd_one 1 (by kernel_rfl) rfl ?_
             refine st_call h (evs_cons rfl evs_nil) co68 (valid_ok (q.pes.getD i pa0) _) rfl ?_; clear h a; rintro _ w8 ⟨rfl, hq⟩ a h
             have z8 := hq.size
             replace hp := hp.ext hq
             replace hb1 := hb1.ext hq
             replace hb4 := hb4.ext hq
             replace hC := hC.next hq
             have q8 := hq
             clear hq
             refine hd_next hC ?_
             refine hd_not 2 (by kernel_rfl) (by kernel_rfl) (by kernel_rfl) hC h wn rfl rfl rfl ?_; clear h a; intro a h
             refine hd_move 3 (by kernel_rfl) (by kernel_rfl) (by kernel_rfl) hC h wn rfl rfl rfl ?_; clear h a; intro a h
             first | refine guard_dec (D := 50) h rfl ?_ ?_ | refine guard_ndec (D := 50) h rfl ?_ ?_ | refine guard_any (D := 50) h rfl ?_ ?_
             · clear h; intro g4 h
               refine hd_gn 4 (by kernel_rfl) (by kernel_rfl) (by kernel_rfl) hC h rfl rfl rfl rfl ?_; clear h a; intro a h
               refine hd_gn 5 (by kernel_rfl) (by kernel_rfl) (by kernel_rfl) hC h rfl rfl rfl rfl ?_; clear h a; intro a h
               refine hd_gn 6 (by kernel_rfl) (by kernel_rfl) (by kernel_rfl) hC h rfl rfl rfl rfl ?_; clear h a; intro a h
               refine hd_gs 7 (by kernel_rfl) (by kernel_rfl) (by kernel_rfl) hC h rfl rfl rfl rfl ?_; clear h a; intro a h
               refine hd_gs 8 (by kernel_rfl) (by kernel_rfl) (by kernel_rfl) hC h rfl rfl rfl rfl ?_; clear h a; intro a h
               refine hd_gs 9 (by kernel_rfl) (by kernel_rfl) (by kernel_rfl) hC h rfl rfl rfl rfl ?_; clear h a; intro a h
               refine hd_gs 10 (by kernel_rfl) (by kernel_rfl) (by kernel_rfl) hC h rfl rfl rfl rfl ?_; clear h a; intro a h
               refine hd_gs 11 (by kernel_rfl) (by kernel_rfl) (by kernel_rfl) hC h rfl rfl rfl rfl ?_; clear h a; intro a h
               refine hd_gs 12 (by kernel_rfl) (by kernel_rfl) (by kernel_rfl) hC h rfl rfl rfl rfl ?_; clear h a; intro a h
               refine hd_gs 13 (by kernel_rfl) (by kernel_rfl) (by kernel_rfl) hC h rfl rfl rfl rfl ?_; clear h a; intro a h
               refine hd_gs 14 (by kernel_rfl) (by kernel_rfl) (by kernel_rfl) hC h rfl rfl rfl rfl ?_; clear h a; intro a h
               refine hd_gn 15 (by kernel_rfl) (by kernel_rfl) (by kernel_rfl) hC h rfl rfl rfl rfl ?_; clear h a; intro a h
               refine hd_one 16 (by kernel_rfl) rfl ?_
               refine st_pick_t h rfl rfl rfl rfl ?_; clear h a; intro a h
               refine hd_next hC ?_
               refine hd_end (by kernel_rfl) ?_
               clear hC hp_b hb1_b hb4_b
               refine bk (h.sub (L' := [(1, _), (40, _), (41, _), (42, _), (63, _)]) (.cons rfl (.cons rfl (.cons rfl (.cons rfl (.cons rfl .nil)))))) ?_; clear h a
               refine tn (ct rfl (sr (asg rfl rfl (nn (rt (rb (tr (tr (rb (tr (r1 Tryz.results45 rfl ?_)))))))))))
               have hin : q.inn = true := (by simpa using c1)
               exact ⟨_, rfl, by rw [yn_e hin (i := i) (by show i < q.pes.length; omega) (fun h => by first | exact absurd h.1 (by assumption) | exact h.2 (by omega) c5)], ((((((q1.next q3).next q4).next q5).step q6 (by first | (simp; done) | (simp; omega))).next q7).next q8)⟩
             · clear h; intro g4 h
               refine hd_move 4 (by kernel_rfl) (by kernel_rfl) (by kernel_rfl) hC h (wy rfl) rfl rfl rfl ?_; clear h a; intro a h
               refine hd_gt 5 (by kernel_rfl) (by kernel_rfl) (by kernel_rfl) hC h (wy rfl) rfl rfl rfl rfl ?_; clear h a; intro a h
               refine hd_move 6 (by kernel_rfl) (by kernel_rfl) (by kernel_rfl) hC h (wy rfl) rfl rfl rfl ?_; clear h a; intro a h
               first | refine guard_dec (D := 53) h rfl ?_ ?_ | refine guard_ndec (D := 53) h rfl ?_ ?_ | refine guard_any (D := 53) h rfl ?_ ?_
               · clear h; intro g5 h
                 refine hd_fieldAddr 7 (by kernel_rfl) (by kernel_rfl) (by kernel_rfl) hC h (wy rfl) rfl fa75_4 rfl rfl ?_; clear h a; intro a h
                 refine hd_loadB 8 (by kernel_rfl) (by kernel_rfl) (by kernel_rfl) hC h (wy rfl) rfl (fun _ hw => hb1_b.ext hw) rfl na56 rfl rfl ?_; clear h a; intro a h
                 refine hd_move 9 (by kernel_rfl) (by kernel_rfl) (by kernel_rfl) hC h (wy rfl) rfl rfl rfl ?_; clear h a; intro a h
                 refine hd_sub 10 (by kernel_rfl) (by kernel_rfl) (by kernel_rfl) hC h (wy rfl) rfl rfl (by first | exact IntWalk.i64_in _ (by omega) | rfl) rfl rfl ?_; clear h a; intro a h
                 refine hd_idxL (p := (i - 1)) (pa0) 11 (by kernel_rfl) (by kernel_rfl) (by kernel_rfl) hC h (wy rfl) rfl hp rfl el56 (by omega) (by omega) (by omega) rfl rfl ?_; clear h a; intro ad58 hc58 a h
                 refine hd_loadA 12 (by kernel_rfl) (by kernel_rfl) (by kernel_rfl) hC h (wy rfl) rfl (fun _ hw => hc58 _ (hp_b.ext hw)) ag65 rfl rfl ?_; clear h a; intro a h
                 refine hd_loadBA 13 (by kernel_rfl) (by kernel_rfl) (by kernel_rfl) hC h (wy rfl) rfl (fun _ hw => hb4_b.ext hw) ag65 rfl rfl ?_; clear h a; intro a h
                 refine hd_one 14 (by kernel_rfl) rfl ?_
                 refine gd_yes h rfl rfl rfl rfl rfl rfl ?_
                 refine st_call h (evs_cons rfl (evs_cons rfl evs_nil)) co69 (cancel_ok (q.pes.getD (i - 1) pa0) (q.pes.getD i pa0) _) rfl ?_; clear h a; rintro _ w9 ⟨rfl, hq⟩ a h
                 have z9 := hq.size
                 replace hp := hp.ext hq
                 replace hb1 := hb1.ext hq
                 replace hb4 := hb4.ext hq
                 replace hC := hC.next hq
                 have q9 := hq
                 clear hq
                 refine hd_next hC ?_
                 refine hd_one 15 (by kernel_rfl) rfl ?_
                 refine gd_yes h rfl rfl rfl rfl rfl rfl ?_
                 refine st_pick_t h rfl rfl rfl rfl ?_; clear h a; intro a h
                 refine hd_next hC ?_
                 refine hd_one 16 (by kernel_rfl) rfl ?_
                 refine st_pick_f h rfl rfl rfl rfl ?_; clear h a; intro a h
                 refine hd_next hC ?_
                 refine hd_end (by kernel_rfl) ?_
                 clear hC hp_b hb1_b hb4_b
                 refine bk (h.sub (L' := [(1, _), (40, _), (41, _), (42, _), (63, _)]) (.cons rfl (.cons rfl (.cons rfl (.cons rfl (.cons rfl .nil)))))) ?_; clear h a
                 refine tn ?_
                 refine cd rfl (fun c5 => ?_) (fun c5 => ?_)
                 · refine sr (asg rfl rfl (nn (rt (rb (tr (tr (rb (tr (r1 Tryz.results45 rfl ?_)))))))))
                   have hin : q.inn = true := (by simpa using c1)
                   exact ⟨_, rfl, by rw [yn_e hin (i := i) (by show i < q.pes.length; omega) (fun h => by first | exact absurd h.1 (by assumption) | exact h.2 (by omega) c5)], (((((((q1.next q3).next q4).next q5).step q6 (by first | (simp; done) | (simp; omega))).next q7).next q8).next q9)⟩
                 · refine sk (bn' (tn (rg (s_add rfl rfl (wi6 (by omega)) rfl (mv rfl rfl (nl ?_))))))
                   exact lpE (i + 1) (.cons rfl (.cons rfl (.cons rfl (.cons rfl .nil)))) ⟨(((((q4.next q5).step q6 (by first | (simp; done) | (simp; omega))).next q7).next q8).next q9), ⟨by omega, fun j hj => by
                       by_cases e : j < i
                       · exact hg j e
                       · obtain rfl : j = i := by omega
                         exact ⟨by assumption, fun h0 => by first | exact c5 | exact absurd h0 (by omega)⟩⟩⟩ (by omega)
               · clear h; intro g5 h
                 refine hd_gn 7 (by kernel_rfl) (by kernel_rfl) (by kernel_rfl) hC h rfl rfl rfl rfl ?_; clear h a; intro a h
                 refine hd_gn 8 (by kernel_rfl) (by kernel_rfl) (by kernel_rfl) hC h rfl rfl rfl rfl ?_; clear h a; intro a h
                 refine hd_gn 9 (by kernel_rfl) (by kernel_rfl) (by kernel_rfl) hC h rfl rfl rfl rfl ?_; clear h a; intro a h
                 refine hd_gn 10 (by kernel_rfl) (by kernel_rfl) (by kernel_rfl) hC h rfl rfl rfl rfl ?_; clear h a; intro a h
                 refine hd_gn 11 (by kernel_rfl) (by kernel_rfl) (by kernel_rfl) hC h rfl rfl rfl rfl ?_; clear h a; intro a h
                 refine hd_gn 12 (by kernel_rfl) (by kernel_rfl) (by kernel_rfl) hC h rfl rfl rfl rfl ?_; clear h a; intro a h
                 refine hd_gn 13 (by kernel_rfl) (by kernel_rfl) (by kernel_rfl) hC h rfl rfl rfl rfl ?_; clear h a; intro a h
                 refine hd_gn 14 (by kernel_rfl) (by kernel_rfl) (by kernel_rfl) hC h rfl rfl rfl rfl ?_; clear h a; intro a h
                 refine hd_one 15 (by kernel_rfl) rfl ?_
                 refine gd_yes h rfl rfl rfl rfl rfl rfl ?_
                 refine st_pick_f h rfl rfl rfl rfl ?_; clear h a; intro a h
                 refine hd_next hC ?_
                 refine hd_one 16 (by kernel_rfl) rfl ?_
                 refine st_pick_f h rfl rfl rfl rfl ?_; clear h a; intro a h
                 refine hd_next hC ?_
                 refine hd_end (by kernel_rfl) ?_
                 clear hC hp_b hb1_b hb4_b
                 refine bk (h.sub (L' := [(1, _), (40, _), (41, _), (42, _), (63, _)]) (.cons rfl (.cons rfl (.cons rfl (.cons rfl (.cons rfl .nil)))))) ?_; clear h a
                 refine tn (cf rfl (sk (bn' (tn (rg (s_add rfl rfl (wi6 (by omega)) rfl (mv rfl rfl (nl ?_))))))))
                 exact lpE (i + 1) (.cons rfl (.cons rfl (.cons rfl (.cons rfl .nil)))) ⟨((((q4.next q5).step q6 (by first | (simp; done) | (simp; omega))).next q7).next q8), ⟨by omega, fun j hj => by
                     by_cases e : j < i
                     · exact hg j e
                     · obtain rfl : j = i := by omega
                       exact ⟨by assumption, fun h0 => by first | exact c5 | exact absurd h0 (by omega)⟩⟩⟩ (by omega)
           · obtain rfl : i = q.pes.length := by omega
             refine ex (te (te (xh (tn (sr (asg rfl rfl (nn (rt (r1 Tryz.results45 rfl ?_)))))))))
             have hin : q.inn = true := (by simpa using c1)
             exact ⟨_, rfl, by rw [yn_f c0 hin (by simpa [hpl] using c3) hg], ((q1.next q3).next q4)⟩
end Go.Proofs.YtkionldalpijpaaGreatDoor
namespace Go.Proofs.YtkionldalpijpaaGreatDoor
open Go.Lw Go.G21
theorem ag75 : AggOf Tryz.prog 75 5 := ⟨fun _ => by kernel_rfl, fun _ => by kernel_rfl⟩
theorem bo75 : BuildAt Tryz.prog 75 [(0, 1), (1, 1), (2, 1), (3, 1), (4, 1)] [(.bool false), (.int .i64 0), (.int .i64 0), (.bool false), (.slice none 0 0)] := BuildAt.struct Tryz.underlying75 (fun _ => by kernel_rfl) (fun _ => by kernel_rfl)
theorem co45 : CallOf Tryz.prog 45 := CallOf.mk' Tryz.func45 (by kernel_rfl) (by kernel_rfl)
theorem co71 : CallOf Tryz.prog 71 := CallOf.mk' Tryz.func71 (by kernel_rfl) (by kernel_rfl)
theorem co72 : CallOf Tryz.prog 72 := CallOf.mk' Tryz.func72 (by kernel_rfl) (by kernel_rfl)
theorem sz3 : SizeOf Tryz.prog 3 1 := fun _ => by kernel_rfl
theorem sz56 : SizeOf Tryz.prog 56 1 := fun _ => by kernel_rfl
theorem sz75 : SizeOf Tryz.prog 75 5 := fun _ => by kernel_rfl
theorem zv75 (w : World) : (zeroValue 75).run Tryz.prog w = .ok (.agg #[(.bool false), (.int .i64 0), (.int .i64 0), (.bool false), (.slice none 0 0)]) w := by kernel_rfl
set_option maxHeartbeats 1000000 in
theorem ygo_ok (q : YQ) (pl : Int) (v : Value) (l : List Pa) (w0 : World) (hp : Sl encPa w0 (slv q.pe) q.pes) (hs : Sl encPa w0 v l) (hv : ∀ k ∈ blks v, k < w0.heap.size) (hl : l.length ≤ 50000) : Rets Tryz.prog 49 #[.agg #[.bool q.inn, .int .i64 q.pl, .int .i64 q.ct, .bool q.nw, .slice q.pe.1 q.pe.2.1 q.pe.2.2], .int .i64 pl, v] w0 fun r w' => ∃ q' : YQ, r = .tuple #[.agg #[.bool q'.inn, .int .i64 q'.pl, .int .i64 q'.ct, .bool q'.nw, .slice q'.pe.1 q'.pe.2.1 q'.pe.2.2], .int .i64 (goE q.p pl l)] ∧ (goE q.p pl l = 0 → q'.p = goS q.p pl l ∧ Lw.Own encPa 65 w0.heap.size w' (slv q'.pe) q'.pes) ∧ Fr [] w0 w' := by
 have hpl := sl_len hp
 have hpM := hp.len_le
 unfold maxLen at hpM
 obtain ⟨A, c, rfl, hcc, hM, hA⟩ := id hs
 clear hA
 unfold maxLen at hM
 refine we [(0, .agg #[.bool q.inn, .int .i64 q.pl, .int .i64 q.ct, .bool q.nw, .slice q.pe.1 q.pe.2.1 q.pe.2.2]), (1, .int .i64 pl), (2, .slice A l.length c)] Tryz.func49 rfl Tryz.ntmps49 rfl (.cons rfl (.cons rfl (.cons rfl .nil))) ?_
 have hp0 := hp
 have hs0 := hs
 refine sr (bx rfl rfl rfl (fun g3 w1 hg3 hb3 q1 z1 => ?_))
 refine al zv75 rfl rfl (fun g6 w2 hg6 hb6 q2 z2 => ?_)
 refine asg rfl rfl (nn (sq (sr ?_)))
 replace hb3 := hb3.ext q2
 refine s_loadBA rfl hb3 ag75 rfl ?_
 replace hp := hp0.ext (q1.next q2)
 refine cl (ev1 rfl) co45 (ycheck_ok q _ hp) rfl ?_
 rintro _ w3 ⟨rfl, q3⟩
 have z3 := q3.size
 refine asg rfl rfl (nn (sr (mv rfl rfl (ne' rfl rfl rfl (nn ?_)))))
 refine cd rfl (fun c0 => ?_) (fun c0 => ?_)
 · refine sr (s_lit (cs := [_, _, _, _, _]) evs_nil bo75 pok_nil rfl rfl ?_)
   refine mv rfl rfl ?_
   replace hb6 := hb6.ext q3
   refine s_storeBA (vs := [_, _, _, _, _]) rfl rfl hb6 (by rfl) (by first | (simp [Value.oneCell', S]; done) | exact Enc.one _ _ | exact encPa.one (l.getD i pa0)) sz75 (fun w4 hb6 q4 z4 => ?_)
   refine asg rfl rfl (kpL [(6, _), (7, _)] (.cons rfl (.cons rfl .nil)) (nn (rt (tr (rCT Tryz.results49 rfl hb6 ag75 rfl ?_)))))
   have he : goE q.p pl l = ynE q.p := by unfold goE; rw [if_pos c0]
   exact ⟨_, rfl, yq0, by rw [he]; rfl, (fun h => absurd h (by rw [he]; exact c0)), (((q1.next q2).next q3).step q4 (by first | (simp; done) | (simp; omega)))⟩
 · have hy0 := yn_in (Classical.not_not.1 c0)
   refine sk (tn (sq (sr (mv rfl rfl ?_))))
   refine cl (ev1 rfl) co67 (isplace_ok _ _) rfl ?_
   rintro _ w5 ⟨rfl, q5⟩
   have z5 := q5.size
   refine nt' rfl rfl (nn ?_)
   refine cd rfl (fun c1 => ?_) (fun c1 => ?_)
   · refine sr (s_lit (cs := [_, _, _, _, _]) evs_nil bo75 pok_nil rfl rfl ?_)
     replace hb6 := hb6.ext (q3.next q5)
     refine s_storeBA (vs := [_, _, _, _, _]) rfl rfl hb6 (by rfl) (by first | (simp [Value.oneCell', S]; done) | exact Enc.one _ _ | exact encPa.one (l.getD i pa0)) sz75 (fun w6 hb6 q6 z6 => ?_)
     refine asg rfl rfl (nn (rt (tr (rCT Tryz.results49 rfl hb6 ag75 rfl ?_))))
     have he : goE q.p pl l = 1 := by unfold goE; rw [if_neg c0, if_pos (by simpa using c1)]
     exact ⟨_, rfl, yq0, by rw [he]; rfl, (fun h => absurd h (by rw [he]; decide)), ((((q1.next q2).next q3).next q5).step q6 (by first | (simp; done) | (simp; omega)))⟩
   · refine sk (tn (sq (sr (mv rfl rfl (lnS rfl Tryz.underlying56 rfl (mv rfl rfl (nn (bl ?_))))))))
     refine lpK (ι := Nat) [(1, _), (2, _), (3, _), (6, _), (22, _), (23, _)] (fun i => [(24, .int .i64 (i : Int))]) (fun i w' => Fr [] w5 w' ∧ i ≤ l.length ∧ ∀ j, j < i → ValidP (l.getD j pa0)) (fun i => l.length - i) 0 (.cons rfl (.cons rfl (.cons rfl (.cons rfl (.cons rfl (.cons rfl (.cons rfl .nil))))))) ⟨Fr.refl _ _, ⟨Nat.zero_le _, fun j h => absurd h (by omega)⟩⟩ ?_
     rintro i w7 ⟨q7, ⟨hi, hg⟩⟩
     have z7 := q7.size
     refine kpC [(1, _), (2, _), (3, _), (6, _), (22, _), (23, _), (24, _)] (.cons rfl (.cons rfl (.cons rfl (.cons rfl (.cons rfl (.cons rfl (.cons rfl .nil))))))) ?_
     refine sr (lt' rfl rfl rfl (nn (sq ?_)))
     refine cd rfl (fun c2 => ?_) (fun c2 => ?_)
     · refine sk (tn (sq (bl (sr ?_))))
       replace hs := hs0.ext ((((q1.next q2).next q3).next q5).next q7)
       refine s_idxL (pa0) rfl hs rfl el56 (by omega) (by omega) nat_of rfl (fun ad26 hc26 => ?_)
       refine s_loadA rfl (hc26 _ hs) ag65 rfl (al zv65 rfl rfl (fun g10 w8 hg10 hb10 q8 z8 => ?_))
       refine s_storeBA (vs := [_, _, _, _]) rfl rfl hb10 (by rfl) (by first | (simp [Value.oneCell', S]; done) | exact Enc.one _ _ | exact encPa.one (l.getD i pa0)) sz65 (fun w9 hb10 q9 z9 => ?_)
       refine nn (sr (s_loadBA rfl hb10 ag65 rfl ?_))
       refine cl (ev1 rfl) co68 (valid_ok (l.getD i pa0) _) rfl ?_
       rintro _ w10 ⟨rfl, q10⟩
       have z10 := q10.size
       refine nt' rfl rfl (nn ?_)
       refine cd rfl (fun c3 => ?_) (fun c3 => ?_)
       · refine sr (s_lit (cs := [_, _, _, _, _]) evs_nil bo75 pok_nil rfl rfl ?_)
         replace hb6 := ((hb6.ext (((q3.next q5).next q7).next q8)).fr q9 (by first | (simp; done) | (simp; omega) | (simp [blks]; done) | (simp [blks]; omega))).ext q10
         refine s_storeBA (vs := [_, _, _, _, _]) rfl rfl hb6 (by rfl) (by first | (simp [Value.oneCell', S]; done) | exact Enc.one _ _ | exact encPa.one (l.getD i pa0)) sz75 (fun w11 hb6 q11 z11 => ?_)
         refine asg rfl rfl (kpL [(6, _), (7, _)] (.cons rfl (.cons rfl .nil)) (nn (rt (rb (tr (tr (rb (tr (rCT Tryz.results49 rfl hb6 ag75 rfl ?_)))))))))
         have he : goE q.p pl l = 1 := by unfold goE; rw [if_neg c0, if_neg (by simpa using c1), if_pos (fun hav => (by simpa using c3 : ¬ ValidP (l.getD i pa0)) (hav _ (mem_getD (by omega))))]
         exact ⟨_, rfl, yq0, by rw [he]; rfl, (fun h => absurd h (by rw [he]; decide)), ((((((((q1.next q2).next q3).next q5).next q7).next q8).step q9 (by first | (simp; done) | (simp; omega))).next q10).step q11 (by first | (simp; done) | (simp; omega)))⟩
       · refine sk (bn' (tn (rg (s_add rfl rfl (wi6 (by omega)) rfl (mv rfl rfl (nl ?_))))))
         exact lpE (i + 1) (.cons rfl (.cons rfl (.cons rfl (.cons rfl (.cons rfl (.cons rfl (.cons rfl .nil))))))) ⟨(((q7.next q8).step q9 (by first | (simp; done) | (simp; omega))).next q10), ⟨by omega, fun j hj => by
             by_cases e : j < i
             · exact hg j e
             · obtain rfl : j = i := by omega
               exact Classical.not_not.1 (by simpa using c3)⟩⟩ (by omega)
     · obtain rfl : i = l.length := by omega
       have hav : AllV l := fun p hp_ => by
         obtain ⟨j, hj, rfl⟩ := List.getElem_of_mem hp_
         have := hg j hj
         rwa [List.getD, List.getElem?_eq_getElem hj] at this
       refine ex (te (te (xh (tn (sq (sr (fad rfl fa75_0 rfl ?_)))))))
       replace hb3 := hb3.ext ((q3.next q5).next q7)
       refine s_loadB rfl hb3 rfl na4 rfl (nt' rfl rfl (kpL [(1, _), (2, _), (3, _), (6, _), (35, _)] (.cons rfl (.cons rfl (.cons rfl (.cons rfl (.cons rfl .nil))))) (nn ?_)))
       refine cd rfl (fun c4 => ?_) (fun c4 => ?_)
       · refine sr (s_lit (cs := [_, _, _, _, _]) evs_nil bo75 pok_nil rfl rfl ?_)
         replace hb6 := hb6.ext ((q3.next q5).next q7)
         refine s_storeBA (vs := [_, _, _, _, _]) rfl rfl hb6 (by rfl) (by first | (simp [Value.oneCell', S]; done) | exact Enc.one _ _ | exact encPa.one (l.getD i pa0)) sz75 (fun w12 hb6 q12 z12 => ?_)
         refine asg rfl rfl (nn (rt (tr (rCT Tryz.results49 rfl hb6 ag75 rfl ?_))))
         have he : goE q.p pl l = 12 := by unfold goE; rw [if_neg c0, if_neg (by simpa using c1), if_neg (fun e => e hav), if_pos (by simpa using c4)]
         exact ⟨_, rfl, yq0, by rw [he]; rfl, (fun h => absurd h (by rw [he]; decide)), (((((q1.next q2).next q3).next q5).next q7).step q12 (by first | (simp; done) | (simp; omega)))⟩
       · have hin : q.inn = true := (by simpa using c4)
         have hy2 := hy0.2
         rw [if_pos hin] at hy2
         have hpe : q.pes.length ≤ 4096 := hy2.2.1
         refine sk (tn (sr (fad rfl fa75_4 rfl (s_loadB rfl hb3 rfl na56 rfl (lnS rfl Tryz.underlying56 rfl (mv rfl rfl (lnS rfl Tryz.underlying56 rfl (s_add rfl rfl (wi6 (by omega)) rfl ?_))))))))
         refine s_makeSlice (m := 0) (c := (q.pe.2.1 + l.length)) (pa0) rfl rfl el56 zv65 rfl (by omega) (by omega) (by unfold maxLen; omega) rfl (fun g43 w13 hg43 ho q13 z13 => ?_)
         refine asg rfl rfl (kpL [(1, _), (2, _), (3, _), (6, _), (11, _)] (.cons rfl (.cons rfl (.cons rfl (.cons rfl (.cons rfl .nil))))) (nn (sr (mv rfl rfl (fad rfl fa75_4 rfl ?_)))))
         replace hb3 := hb3.ext q13
         refine s_loadB rfl hb3 rfl na56 rfl ?_
         replace hb6 := hb6.ext (((q3.next q5).next q7).next q13)
         replace hp := hp0.ext (((((q1.next q2).next q3).next q5).next q7).next q13)
         have hoo47 := ho
         refine s_append rfl rfl ho hp el56 (by unfold maxLen; simp only [List.length_replicate]; omega) (by simp only [List.length_replicate]; omega) (by omega) rfl (fun v47 w14 ho q14 hor47 => ?_)
         have z14 := q14.size
         replace hb3 := hb3.fr q14 (fun hk => by have := (hoo47.blk _ hk).1; omega)
         replace hb6 := hb6.fr q14 (fun hk => by have := (hoo47.blk _ hk).1; omega)
         replace ho : Lw.Own encPa 65 g43 w14 v47 q.pes := ho
         refine mv rfl rfl ?_
         replace hs := hs0.ext ((((((q1.next q2).next q3).next q5).next q7).next q13).step q14 (fun k hk hlt => absurd (hoo47.blk k hk).1 (by omega)))
         refine cl (ev2 rfl rfl) co71 (push_ok g43 v47 _ q.pes l _ ho hs (fun k hk => by have := hv k hk; omega) (by omega) (by omega)) rfl ?_
         rintro V49 w15 ⟨S49, ho, hS49, q15⟩
         replace hb3 := hb3.fr q15 (fun hk => by have := hS49 _ hk; omega)
         replace hb6 := hb6.fr q15 (fun hk => by have := hS49 _ hk; omega)
         have z15 := q15.size
         have hpn := pushS_len l q.pes
         obtain ⟨A49, c49, rfl, hc49⟩ := ho.sl.form
         refine asg rfl rfl (kpL [(1, _), (3, _), (6, _), (11, _)] (.cons rfl (.cons rfl (.cons rfl (.cons rfl .nil)))) (nn (sq (sr (mv rfl rfl (lnS rfl Tryz.underlying56 rfl (gt' rfl rfl rfl (nn ?_))))))))
         refine cd rfl (fun c5 => ?_) (fun c5 => ?_)
         · refine sr (s_lit (cs := [_, _, _, _, _]) evs_nil bo75 pok_nil rfl rfl ?_)
           refine s_storeBA (vs := [_, _, _, _, _]) rfl rfl hb6 (by rfl) (by first | (simp [Value.oneCell', S]; done) | exact Enc.one _ _ | exact encPa.one (l.getD i pa0)) sz75 (fun w16 hb6 q16 z16 => ?_)
           refine asg rfl rfl (nn (rt (tr (rCT Tryz.results49 rfl hb6 ag75 rfl ?_))))
           have he : goE q.p pl l = 3 := by unfold goE; rw [if_neg c0, if_neg (by simpa using c1), if_neg (fun e => e hav), if_neg (by simpa using c4), if_pos (by show 4096 < (pushS q.pes l).length; omega)]
           exact ⟨_, rfl, yq0, by rw [he]; rfl, (fun h => absurd h (by rw [he]; decide)), ((((((((q1.next q2).next q3).next q5).next q7).next q13).step q14 (fun k hk hlt => absurd (hoo47.blk k hk).1 (by omega))).step q15 (fun k hk hlt => absurd (hS49 k hk) (by omega))).step q16 (by first | (simp; done) | (simp; omega)))⟩
         · refine sk (tn (sr (mv rfl rfl (fad rfl fa75_1 rfl (s_storeB rfl rfl hb3 rfl rfl rfl sz3 (fun w17 hb3 q17 z17 => ?_))))))
           replace hb3 : Blk w17 g3 _ [_, _, _, _, _] := hb3
           refine nn (sr (mv rfl rfl ?_))
           replace ho := ho.fr q17 (by first | (simp; done) | (simp; omega) | (simp [blks]; done) | (simp [blks]; omega) | (intro k hk hb; simp at hk; subst hk; have := ho.blk _ hb; omega))
           refine cl (ev1 rfl) co72 (ycopied_ok _ _ _ ho.sl (by omega)) rfl ?_
           rintro _ w18 ⟨A57, rfl, ho57, q18⟩
           have z18 := q18.size
           refine fad rfl fa75_4 rfl ?_
           replace hb3 := hb3.ext q18
           refine s_storeB rfl rfl hb3 rfl rfl rfl sz56 (fun w19 hb3 q19 z19 => ?_)
           replace hb3 : Blk w19 g3 _ [_, _, _, _, _] := hb3
           refine nn (sr (s_loadBA rfl hb3 ag75 rfl ?_))
           replace hb6 := ((hb6.fr q17 (by first | (simp; done) | (simp; omega) | (simp [blks]; done) | (simp [blks]; omega))).ext q18).fr q19 (by first | (simp; done) | (simp; omega) | (simp [blks]; done) | (simp [blks]; omega))
           refine s_storeBA (vs := [_, _, _, _, _]) rfl rfl hb6 (by rfl) (by first | (simp [Value.oneCell', S]; done) | exact Enc.one _ _ | exact encPa.one (l.getD i pa0)) sz75 (fun w20 hb6 q20 z20 => ?_)
           refine asg rfl rfl (nn (rt (rCT Tryz.results49 rfl hb6 ag75 rfl ?_)))
           replace ho57 := (ho57.fr q19 (by first | (simp; done) | (simp; omega) | (simp [blks]; done) | (simp [blks]; omega) | (intro k hk hb; simp at hk; subst hk; have := ho57.blk _ hb; omega))).fr q20 (by first | (simp; done) | (simp; omega) | (simp [blks]; done) | (simp [blks]; omega) | (intro k hk hb; simp at hk; subst hk; have := ho57.blk _ hb; omega))
           have he : goE q.p pl l = 0 := by unfold goE; rw [if_neg c0, if_neg (by simpa using c1), if_neg (fun e => e hav), if_neg (by simpa using c4), if_neg (by show ¬ 4096 < (pushS q.pes l).length; omega)]
           exact ⟨_, rfl, ⟨q.inn, pl, q.ct, q.nw, (A57, (pushS q.pes l).length, (pushS q.pes l).length), pushS q.pes l⟩, by rw [he], (fun _ => ⟨rfl, ho57.low (by omega)⟩), (((((((((((q1.next q2).next q3).next q5).next q7).next q13).step q14 (fun k hk hlt => absurd (hoo47.blk k hk).1 (by omega))).step q15 (fun k hk hlt => absurd (hS49 k hk) (by omega))).step q17 (by first | (simp; done) | (simp; omega))).next q18).step q19 (by first | (simp; done) | (simp; omega))).step q20 (by first | (simp; done) | (simp; omega)))⟩
end Go.Proofs.YtkionldalpijpaaGreatDoor
namespace Go.Proofs.YtkionldalpijpaaGreatDoor
open Go.Lw Go.G21
theorem ag111 : AggOf Tryz.prog 111 3 := ⟨fun _ => by kernel_rfl, fun _ => by kernel_rfl⟩
theorem bo111 : BuildAt Tryz.prog 111 [(0, 1), (1, 1), (2, 1)] [(.int .i64 0), (.bool false), (.slice none 0 0)] := BuildAt.struct Tryz.underlying111 (fun _ => by kernel_rfl) (fun _ => by kernel_rfl)
theorem sz111 : SizeOf Tryz.prog 111 3 := fun _ => by kernel_rfl
theorem zv111 (w : World) : (zeroValue 111).run Tryz.prog w = .ok (.agg #[(.int .i64 0), (.bool false), (.slice none 0 0)]) w := by kernel_rfl
set_option maxHeartbeats 1000000 in
theorem ymake_ok (q : YQ) (w0 : World) (hp : Sl encPa w0 (slv q.pe) q.pes) (hv : ∀ k ∈ blks (slv q.pe), k < w0.heap.size) : Rets Tryz.prog 50 #[.agg #[.bool q.inn, .int .i64 q.pl, .int .i64 q.ct, .bool q.nw, .slice q.pe.1 q.pe.2.1 q.pe.2.2]] w0 fun r w' => ∃ (q' : YQ) (n : Int) (nw : Bool) (s : SV) (ps : List Pa), r = .tuple #[.agg #[.bool q'.inn, .int .i64 q'.pl, .int .i64 q'.ct, .bool q'.nw, .slice q'.pe.1 q'.pe.2.1 q'.pe.2.2], .agg #[.int .i64 n, .bool nw, .slice s.1 s.2.1 s.2.2], .int .i64 (mkE q.p)] ∧ (mkE q.p = 0 → q' = ⟨true, q.pl, q.ct + 1, false, sv0, []⟩ ∧ n = q.ct ∧ nw = q.nw ∧ ps = q.pes ∧ Lw.Own encPa 65 w0.heap.size w' (slv s) ps) ∧ Fr [] w0 w' := by
 have hpl := sl_len hp
 have hpM := hp.len_le
 unfold maxLen at hpM
 refine we [(0, .agg #[.bool q.inn, .int .i64 q.pl, .int .i64 q.ct, .bool q.nw, .slice q.pe.1 q.pe.2.1 q.pe.2.2])] Tryz.func50 rfl Tryz.ntmps50 rfl (.cons rfl .nil) ?_
 have hp0 := hp
 refine sr (bx rfl rfl rfl (fun g1 w1 hg1 hb1 q1 z1 => ?_))
 refine al zv75 rfl rfl (fun g2 w2 hg2 hb2 q2 z2 => ?_)
 refine al zv111 rfl rfl (fun g3 w3 hg3 hb3 q3 z3 => ?_)
 refine asg rfl rfl (nn (sq (sr ?_)))
 replace hb1 := hb1.ext (q2.next q3)
 refine s_loadBA rfl hb1 ag75 rfl ?_
 replace hp := hp0.ext ((q1.next q2).next q3)
 refine cl (ev1 rfl) co45 (ycheck_ok q _ hp) rfl ?_
 rintro _ w4 ⟨rfl, q4⟩
 have z4 := q4.size
 refine asg rfl rfl (nn (sr (mv rfl rfl (ne' rfl rfl rfl (nn ?_)))))
 refine cd rfl (fun c0 => ?_) (fun c0 => ?_)
 · refine sr (s_lit (cs := [_, _, _, _, _]) evs_nil bo75 pok_nil rfl rfl ?_)
   refine s_lit (cs := [_, _, _]) evs_nil bo111 pok_nil rfl rfl ?_
   refine mv rfl rfl ?_
   replace hb2 := hb2.ext (q3.next q4)
   refine s_storeBA (vs := [_, _, _, _, _]) rfl rfl hb2 (by rfl) (by first | (simp [Value.oneCell', S]; done) | exact Enc.one _ _) sz75 (fun w5 hb2 q5 z5 => ?_)
   replace hb3 := (hb3.ext q4).fr q5 (by first | (simp; done) | (simp; omega) | (simp [blks]; done) | (simp [blks]; omega))
   refine s_storeBA (vs := [_, _, _]) rfl rfl hb3 (by rfl) (by first | (simp [Value.oneCell', S]; done) | exact Enc.one _ _) sz111 (fun w6 hb3 q6 z6 => ?_)
   refine asg rfl rfl (kpL [(2, _), (3, _), (4, _)] (.cons rfl (.cons rfl (.cons rfl .nil))) (nn (rt (tr ?_))))
   replace hb2 := hb2.fr q6 (by first | (simp; done) | (simp; omega) | (simp [blks]; done) | (simp [blks]; omega))
   refine rCCT Tryz.results50 rfl hb2 ag75 rfl hb3 ag111 rfl ?_
   have he : mkE q.p = ynE q.p := by unfold mkE; rw [if_pos c0]
   exact ⟨_, rfl, yq0, 0, false, sv0, [], by rw [he]; rfl, (fun h => absurd h (by rw [he]; exact c0)), (((((q1.next q2).next q3).next q4).step q5 (by first | (simp; done) | (simp; omega))).step q6 (by first | (simp; done) | (simp; omega)))⟩
 · have hy0 := yn_in (Classical.not_not.1 c0)
   refine sk (tn (sq (sr (fad rfl fa75_0 rfl ?_))))
   replace hb1 := hb1.ext q4
   refine s_loadB rfl hb1 rfl na4 rfl (nt' rfl rfl (nn ?_))
   refine cd rfl (fun c1 => ?_) (fun c1 => ?_)
   · refine sr (s_lit (cs := [_, _, _, _, _]) evs_nil bo75 pok_nil rfl rfl ?_)
     refine s_lit (cs := [_, _, _]) evs_nil bo111 pok_nil rfl rfl ?_
     replace hb2 := hb2.ext (q3.next q4)
     refine s_storeBA (vs := [_, _, _, _, _]) rfl rfl hb2 (by rfl) (by first | (simp [Value.oneCell', S]; done) | exact Enc.one _ _) sz75 (fun w7 hb2 q7 z7 => ?_)
     replace hb3 := (hb3.ext q4).fr q7 (by first | (simp; done) | (simp; omega) | (simp [blks]; done) | (simp [blks]; omega))
     refine s_storeBA (vs := [_, _, _]) rfl rfl hb3 (by rfl) (by first | (simp [Value.oneCell', S]; done) | exact Enc.one _ _) sz111 (fun w8 hb3 q8 z8 => ?_)
     refine asg rfl rfl (nn (rt (tr ?_)))
     replace hb2 := hb2.fr q8 (by first | (simp; done) | (simp; omega) | (simp [blks]; done) | (simp [blks]; omega))
     refine rCCT Tryz.results50 rfl hb2 ag75 rfl hb3 ag111 rfl ?_
     have he : mkE q.p = 12 := by unfold mkE; rw [if_neg c0, if_pos (by simpa using c1)]
     exact ⟨_, rfl, yq0, 0, false, sv0, [], by rw [he]; rfl, (fun h => absurd h (by rw [he]; decide)), (((((q1.next q2).next q3).next q4).step q7 (by first | (simp; done) | (simp; omega))).step q8 (by first | (simp; done) | (simp; omega)))⟩
   · have hin : q.inn = true := (by simpa using c1)
     have hy2 := hy0.2
     rw [if_pos hin] at hy2
     have hpe : q.pes.length ≤ 4096 := hy2.2.1
     have hct : 0 ≤ q.ct ∧ q.ct ≤ 2048 := hy0.1
     refine sk (tn (sq (sr (fad rfl fa75_2 rfl (s_loadB rfl hb1 rfl na3 rfl (eq' rfl rfl rfl (nn ?_)))))))
     refine cd rfl (fun c2 => ?_) (fun c2 => ?_)
     · refine sr (s_lit (cs := [_, _, _, _, _]) evs_nil bo75 pok_nil rfl rfl ?_)
       refine s_lit (cs := [_, _, _]) evs_nil bo111 pok_nil rfl rfl ?_
       replace hb2 := hb2.ext (q3.next q4)
       refine s_storeBA (vs := [_, _, _, _, _]) rfl rfl hb2 (by rfl) (by first | (simp [Value.oneCell', S]; done) | exact Enc.one _ _) sz75 (fun w9 hb2 q9 z9 => ?_)
       replace hb3 := (hb3.ext q4).fr q9 (by first | (simp; done) | (simp; omega) | (simp [blks]; done) | (simp [blks]; omega))
       refine s_storeBA (vs := [_, _, _]) rfl rfl hb3 (by rfl) (by first | (simp [Value.oneCell', S]; done) | exact Enc.one _ _) sz111 (fun w10 hb3 q10 z10 => ?_)
       refine asg rfl rfl (nn (rt (tr ?_)))
       replace hb2 := hb2.fr q10 (by first | (simp; done) | (simp; omega) | (simp [blks]; done) | (simp [blks]; omega))
       refine rCCT Tryz.results50 rfl hb2 ag75 rfl hb3 ag111 rfl ?_
       have he : mkE q.p = 3 := by unfold mkE; rw [if_neg c0, if_neg (by simpa using c1), if_pos c2]
       exact ⟨_, rfl, yq0, 0, false, sv0, [], by rw [he]; rfl, (fun h => absurd h (by rw [he]; decide)), (((((q1.next q2).next q3).next q4).step q9 (by first | (simp; done) | (simp; omega))).step q10 (by first | (simp; done) | (simp; omega)))⟩
     · refine sk (tn (sq ?_))
       replace hp := hp0.ext (((q1.next q2).next q3).next q4)
       replace hb2 := hb2.ext (q3.next q4)
       replace hb3 := hb3.ext q4
       intro a h
       refine region_heldP none (fun wb w' => Fr [] wb w') hmix ?_; intro w11 hq
       have z11 := hq.size
       replace hp := hp.ext hq
       replace hb1 := hb1.ext hq
       replace hb2 := hb2.ext hq
       replace hb3 := hb3.ext hq
       have q11 := hq
       clear hq; have hC : Fr [] w11 w11 := Fr.refl _ _
       have hp_b := hp
       have hb1_b := hb1
       have hb2_b := hb2
       have hb3_b := hb3
       refine hd_fieldAddr 0 (by kernel_rfl) (by kernel_rfl) (by kernel_rfl) hC h wn rfl fa75_2 rfl rfl ?_; clear h a; intro a h
       refine hd_loadB 1 (by kernel_rfl) (by kernel_rfl) (by kernel_rfl) hC h wn rfl (fun _ hw => hb1_b.ext hw) rfl na3 rfl rfl ?_; clear h a; intro a h
       refine hd_fieldAddr 2 (by kernel_rfl) (by kernel_rfl) (by kernel_rfl) hC h wn rfl fa75_3 rfl rfl ?_; clear h a; intro a h
       refine hd_loadB 3 (by kernel_rfl) (by kernel_rfl) (by kernel_rfl) hC h wn rfl (fun _ hw => hb1_b.ext hw) rfl na4 rfl rfl ?_; clear h a; intro a h
       refine hd_fieldAddr 4 (by kernel_rfl) (by kernel_rfl) (by kernel_rfl) hC h wn rfl fa75_4 rfl rfl ?_; clear h a; intro a h
       refine hd_loadB 5 (by kernel_rfl) (by kernel_rfl) (by kernel_rfl) hC h wn rfl (fun _ hw => hb1_b.ext hw) rfl na56 rfl rfl ?_; clear h a; intro a h
       refine hd_two 6 8 (by kernel_rfl) rfl rfl ?_ ?_
       · refine id ?_
         refine st_call h (evs_cons rfl evs_nil) co72 (ycopied_ok _ _ _ hp (by omega)) rfl ?_; clear h a; rintro _ w12 ⟨A30, rfl, ho30, hq⟩ a h
         have z12 := hq.size
         replace hp := hp.ext hq
         replace hb1 := hb1.ext hq
         replace hb2 := hb2.ext hq
         replace hb3 := hb3.ext hq
         replace hC := hC.next hq
         have q12 := hq
         have hLb := fun k hk => (ho30.blk k hk).2
         refine hd_next hC ?_
         refine hd_lit (cs := [_, _, _]) 7 (by kernel_rfl) (by kernel_rfl) (by kernel_rfl) hC h wn (evs_cons rfl (evs_cons rfl (evs_cons rfl evs_nil))) bo111 (pok_cons rfl rfl rfl (pok_cons rfl rfl rfl (pok_cons rfl rfl rfl pok_nil))) rfl rfl rfl ?_; clear h a; intro a h
         refine hd_one 8 (by kernel_rfl) rfl ?_
         refine st_alloc h zv111 rfl rfl ?_; clear h a; intro w13 hb6 hq hz a h
         obtain ⟨g_6, hg⟩ : ∃ g, g = w12.heap.size := ⟨_, rfl⟩; rw [← hg] at hb6 h hz
         have hn__6 : g1 < g_6 := by have := hb1.lt; omega
         have hn__6 : g2 < g_6 := by have := hb2.lt; omega
         have hn__6 : g3 < g_6 := by have := hb3.lt; omega
         have z13 := hq.size
         replace hp := hp.ext hq
         replace hb1 := hb1.ext hq
         replace hb2 := hb2.ext hq
         replace hb3 := hb3.ext hq
         replace ho30 := ho30.ext hq
         replace hC := hC.next hq
         have q13 := hq
         clear hq
         refine hd_next hC ?_
         refine hd_one 9 (by kernel_rfl) rfl ?_
         refine st_storeBA h rfl rfl hb6 rfl (by first | (simp [Value.oneCell', S]; done) | exact Enc.one _ _) sz111 ?_; clear h a; intro w14 hbn hq hz a h
         have z14 := hq.size
         replace hp := hp.fr hq (by intro k hk hb_; simp at hk; subst hk; have := hv _ hb_; omega)
         replace hb1 := hb1.fr hq (by first | (simp; done) | (simp; omega) | (simp [blks]; done) | (simp [blks]; omega))
         replace hb2 := hb2.fr hq (by first | (simp; done) | (simp; omega) | (simp [blks]; done) | (simp [blks]; omega))
         replace hb3 := hb3.fr hq (by first | (simp; done) | (simp; omega) | (simp [blks]; done) | (simp [blks]; omega))
         replace ho30 := ho30.fr hq (by intro k hk hb_; simp at hk; subst hk; have h1_ := hLb _ hb_; have := ho30.blk _ hb_; omega)
         replace hC := hC.step hq (by first | (simp; done) | (simp; omega))
         have q14 := hq
         clear hb6 hq hz; have hb6 : Blk w14 g_6 _ [_, _, _] := hbn; clear hbn
         refine hd_next hC ?_
         refine hd_end (by kernel_rfl) ?_
         clear hC hp_b hb1_b hb2_b hb3_b
         refine bk (h.sub (L' := [(1, _), (2, _), (3, _), (6, _)]) (.cons rfl (.cons rfl (.cons rfl (.cons rfl .nil))))) ?_; clear h a
         refine tn (sq ?_)
         intro a h
         refine region_heldP none (fun wb w' => Fr [g2, g3] wb w') hmix ?_; intro w15 hq
         have z15 := hq.size
         replace hb1 := hb1.ext hq
         replace hb2 := hb2.ext hq
         replace hb3 := hb3.ext hq
         replace ho30 := ho30.ext hq
         replace hb6 := hb6.ext hq
         have q15 := hq
         clear hq; have hC : Fr [g2, g3] w15 w15 := Fr.refl _ _
         have hb1_b := hb1
         have hb2_b := hb2
         have hb3_b := hb3
         have ho30_b := ho30
         have hb6_b := hb6
         refine hd_fieldAddr 0 (by kernel_rfl) (by kernel_rfl) (by kernel_rfl) hC h wn rfl fa75_1 rfl rfl ?_; clear h a; intro a h
         refine hd_loadB 1 (by kernel_rfl) (by kernel_rfl) (by kernel_rfl) hC h wn rfl (fun _ hw => hb1_b.fr hw (by simp; omega)) rfl na3 rfl rfl ?_; clear h a; intro a h
         refine hd_fieldAddr 2 (by kernel_rfl) (by kernel_rfl) (by kernel_rfl) hC h wn rfl fa75_2 rfl rfl ?_; clear h a; intro a h
         refine hd_loadB 3 (by kernel_rfl) (by kernel_rfl) (by kernel_rfl) hC h wn rfl (fun _ hw => hb1_b.fr hw (by simp; omega)) rfl na3 rfl rfl ?_; clear h a; intro a h
         refine hd_add 4 (by kernel_rfl) (by kernel_rfl) (by kernel_rfl) hC h wn rfl rfl (by first | exact IntWalk.i64_in _ (by omega) | rfl) rfl rfl ?_; clear h a; intro a h
         refine hd_lit (cs := [_, _, _, _, _]) 5 (by kernel_rfl) (by kernel_rfl) (by kernel_rfl) hC h wn (evs_cons rfl (evs_cons rfl (evs_cons rfl evs_nil))) bo75 (pok_cons rfl rfl rfl (pok_cons rfl rfl rfl (pok_cons rfl rfl rfl pok_nil))) rfl rfl rfl ?_; clear h a; intro a h
         refine hd_loadBA 6 (by kernel_rfl) (by kernel_rfl) (by kernel_rfl) hC h wn rfl (fun _ hw => hb6_b.fr hw (by simp; omega)) ag111 rfl rfl ?_; clear h a; intro a h
         refine hd_one 7 (by kernel_rfl) rfl ?_
         refine st_storeBA h rfl rfl hb2 rfl (by first | (simp [Value.oneCell', S]; done) | exact Enc.one _ _) sz75 ?_; clear h a; intro w16 hbn hq hz a h
         have z16 := hq.size
         replace hb1 := hb1.fr hq (by first | (simp; done) | (simp; omega) | (simp [blks]; done) | (simp [blks]; omega))
         replace hb3 := hb3.fr hq (by first | (simp; done) | (simp; omega) | (simp [blks]; done) | (simp [blks]; omega))
         replace ho30 := ho30.fr hq (by intro k hk hb_; simp at hk; subst hk; have h1_ := hLb _ hb_; have := ho30.blk _ hb_; omega)
         replace hb6 := hb6.fr hq (by first | (simp; done) | (simp; omega) | (simp [blks]; done) | (simp [blks]; omega))
         replace hC := hC.step hq (by first | (simp; done) | (simp; omega))
         have q16 := hq
         clear hb2 hq hz; have hb2 : Blk w16 g2 _ [_, _, _, _, _] := hbn; clear hbn
         refine hd_next hC ?_
         refine hd_one 8 (by kernel_rfl) rfl ?_
         refine st_storeBA h rfl rfl hb3 rfl (by first | (simp [Value.oneCell', S]; done) | exact Enc.one _ _) sz111 ?_; clear h a; intro w17 hbn hq hz a h
         have z17 := hq.size
         replace hb1 := hb1.fr hq (by first | (simp; done) | (simp; omega) | (simp [blks]; done) | (simp [blks]; omega))
         replace hb2 := hb2.fr hq (by first | (simp; done) | (simp; omega) | (simp [blks]; done) | (simp [blks]; omega))
         replace ho30 := ho30.fr hq (by intro k hk hb_; simp at hk; subst hk; have h1_ := hLb _ hb_; have := ho30.blk _ hb_; omega)
         replace hb6 := hb6.fr hq (by first | (simp; done) | (simp; omega) | (simp [blks]; done) | (simp [blks]; omega))
         replace hC := hC.step hq (by first | (simp; done) | (simp; omega))
         have q17 := hq
         clear hb3 hq hz; have hb3 : Blk w17 g3 _ [_, _, _] := hbn; clear hbn
         refine hd_next hC ?_
         refine hd_one 9 (by kernel_rfl) rfl ?_
         refine st_assign h rfl rfl ?_; clear h a; intro a h
         refine hd_next hC ?_
         refine hd_end (by kernel_rfl) ?_
         clear hC hb1_b hb2_b hb3_b ho30_b hb6_b
         refine bk (h.sub (L' := [(2, _), (3, _), (4, _)]) (.cons rfl (.cons rfl (.cons rfl .nil)))) ?_; clear h a
         refine tn (rt (rCCT Tryz.results50 rfl hb2 ag75 rfl hb3 ag111 rfl ?_))
         have he : mkE q.p = 0 := by unfold mkE; rw [if_neg c0, if_neg (by simpa using c1), if_neg c2]
         exact ⟨_, rfl, ⟨true, q.pl, q.ct + 1, false, sv0, []⟩, q.ct, q.nw, (A30, q.pes.length, q.pes.length), q.pes, by rw [he]; rfl, (fun _ => ⟨rfl, rfl, rfl, rfl, ho30.low (by omega)⟩), ((((((((((q1.next q2).next q3).next q4).next q11).next q12).next q13).step q14 (by first | (simp; done) | (simp; omega))).next q15).step q16 (by first | (simp; done) | (simp; omega))).step q17 (by first | (simp; done) | (simp; omega)))⟩
       · refine id ?_
         refine st_alloc h zv111 rfl rfl ?_; clear h a; intro w18 hb6 hq hz a h
         obtain ⟨g_6, hg⟩ : ∃ g, g = w11.heap.size := ⟨_, rfl⟩; rw [← hg] at hb6 h hz
         have hn__6 : g1 < g_6 := by have := hb1.lt; omega
         have hn__6 : g2 < g_6 := by have := hb2.lt; omega
         have hn__6 : g3 < g_6 := by have := hb3.lt; omega
         have z18 := hq.size
         replace hp := hp.ext hq
         replace hb1 := hb1.ext hq
         replace hb2 := hb2.ext hq
         replace hb3 := hb3.ext hq
         replace hC := hC.next hq
         have q18 := hq
         clear hq
         refine hd_next hC ?_
         refine hd_one 6 (by kernel_rfl) rfl ?_
         refine st_call h (evs_cons rfl evs_nil) co72 (ycopied_ok _ _ _ hp (by omega)) rfl ?_; clear h a; rintro _ w19 ⟨A30, rfl, ho30, hq⟩ a h
         have z19 := hq.size
         replace hp := hp.ext hq
         replace hb1 := hb1.ext hq
         replace hb2 := hb2.ext hq
         replace hb3 := hb3.ext hq
         replace hb6 := hb6.ext hq
         replace hC := hC.next hq
         have q19 := hq
         have hLb := fun k hk => (ho30.blk k hk).2
         refine hd_next hC ?_
         refine hd_lit (cs := [_, _, _]) 7 (by kernel_rfl) (by kernel_rfl) (by kernel_rfl) hC h wn (evs_cons rfl (evs_cons rfl (evs_cons rfl evs_nil))) bo111 (pok_cons rfl rfl rfl (pok_cons rfl rfl rfl (pok_cons rfl rfl rfl pok_nil))) rfl rfl rfl ?_; clear h a; intro a h
         refine hd_one 9 (by kernel_rfl) rfl ?_
         refine st_storeBA h rfl rfl hb6 rfl (by first | (simp [Value.oneCell', S]; done) | exact Enc.one _ _) sz111 ?_; clear h a; intro w20 hbn hq hz a h
         have z20 := hq.size
         replace hp := hp.fr hq (by intro k hk hb_; simp at hk; subst hk; have := hv _ hb_; omega)
         replace hb1 := hb1.fr hq (by first | (simp; done) | (simp; omega) | (simp [blks]; done) | (simp [blks]; omega))
         replace hb2 := hb2.fr hq (by first | (simp; done) | (simp; omega) | (simp [blks]; done) | (simp [blks]; omega))
         replace hb3 := hb3.fr hq (by first | (simp; done) | (simp; omega) | (simp [blks]; done) | (simp [blks]; omega))
         replace ho30 := ho30.fr hq (by intro k hk hb_; simp at hk; subst hk; have h1_ := hLb _ hb_; have := ho30.blk _ hb_; omega)
         replace hC := hC.step hq (by first | (simp; done) | (simp; omega))
         have q20 := hq
         clear hb6 hq hz; have hb6 : Blk w20 g_6 _ [_, _, _] := hbn; clear hbn
         refine hd_next hC ?_
         refine hd_end (by kernel_rfl) ?_
         clear hC hp_b hb1_b hb2_b hb3_b
         refine bk (h.sub (L' := [(1, _), (2, _), (3, _), (6, _)]) (.cons rfl (.cons rfl (.cons rfl (.cons rfl .nil))))) ?_; clear h a
         refine tn (sq ?_)
         intro a h
         refine region_heldP none (fun wb w' => Fr [g2, g3] wb w') hmix ?_; intro w21 hq
         have z21 := hq.size
         replace hb1 := hb1.ext hq
         replace hb2 := hb2.ext hq
         replace hb3 := hb3.ext hq
         replace hb6 := hb6.ext hq
         replace ho30 := ho30.ext hq
         have q21 := hq
         clear hq; have hC : Fr [g2, g3] w21 w21 := Fr.refl _ _
         have hb1_b := hb1
         have hb2_b := hb2
         have hb3_b := hb3
         have hb6_b := hb6
         have ho30_b := ho30
         refine hd_fieldAddr 0 (by kernel_rfl) (by kernel_rfl) (by kernel_rfl) hC h wn rfl fa75_1 rfl rfl ?_; clear h a; intro a h
         refine hd_loadB 1 (by kernel_rfl) (by kernel_rfl) (by kernel_rfl) hC h wn rfl (fun _ hw => hb1_b.fr hw (by simp; omega)) rfl na3 rfl rfl ?_; clear h a; intro a h
         refine hd_fieldAddr 2 (by kernel_rfl) (by kernel_rfl) (by kernel_rfl) hC h wn rfl fa75_2 rfl rfl ?_; clear h a; intro a h
         refine hd_loadB 3 (by kernel_rfl) (by kernel_rfl) (by kernel_rfl) hC h wn rfl (fun _ hw => hb1_b.fr hw (by simp; omega)) rfl na3 rfl rfl ?_; clear h a; intro a h
         refine hd_add 4 (by kernel_rfl) (by kernel_rfl) (by kernel_rfl) hC h wn rfl rfl (by first | exact IntWalk.i64_in _ (by omega) | rfl) rfl rfl ?_; clear h a; intro a h
         refine hd_lit (cs := [_, _, _, _, _]) 5 (by kernel_rfl) (by kernel_rfl) (by kernel_rfl) hC h wn (evs_cons rfl (evs_cons rfl (evs_cons rfl evs_nil))) bo75 (pok_cons rfl rfl rfl (pok_cons rfl rfl rfl (pok_cons rfl rfl rfl pok_nil))) rfl rfl rfl ?_; clear h a; intro a h
         refine hd_loadBA 6 (by kernel_rfl) (by kernel_rfl) (by kernel_rfl) hC h wn rfl (fun _ hw => hb6_b.fr hw (by simp; omega)) ag111 rfl rfl ?_; clear h a; intro a h
         refine hd_one 7 (by kernel_rfl) rfl ?_
         refine st_storeBA h rfl rfl hb2 rfl (by first | (simp [Value.oneCell', S]; done) | exact Enc.one _ _) sz75 ?_; clear h a; intro w22 hbn hq hz a h
         have z22 := hq.size
         replace hb1 := hb1.fr hq (by first | (simp; done) | (simp; omega) | (simp [blks]; done) | (simp [blks]; omega))
         replace hb3 := hb3.fr hq (by first | (simp; done) | (simp; omega) | (simp [blks]; done) | (simp [blks]; omega))
         replace hb6 := hb6.fr hq (by first | (simp; done) | (simp; omega) | (simp [blks]; done) | (simp [blks]; omega))
         replace ho30 := ho30.fr hq (by intro k hk hb_; simp at hk; subst hk; have h1_ := hLb _ hb_; have := ho30.blk _ hb_; omega)
         replace hC := hC.step hq (by first | (simp; done) | (simp; omega))
         have q22 := hq
         clear hb2 hq hz; have hb2 : Blk w22 g2 _ [_, _, _, _, _] := hbn; clear hbn
         refine hd_next hC ?_
         refine hd_one 8 (by kernel_rfl) rfl ?_
         refine st_storeBA h rfl rfl hb3 rfl (by first | (simp [Value.oneCell', S]; done) | exact Enc.one _ _) sz111 ?_; clear h a; intro w23 hbn hq hz a h
         have z23 := hq.size
         replace hb1 := hb1.fr hq (by first | (simp; done) | (simp; omega) | (simp [blks]; done) | (simp [blks]; omega))
         replace hb2 := hb2.fr hq (by first | (simp; done) | (simp; omega) | (simp [blks]; done) | (simp [blks]; omega))
         replace hb6 := hb6.fr hq (by first | (simp; done) | (simp; omega) | (simp [blks]; done) | (simp [blks]; omega))
         replace ho30 := ho30.fr hq (by intro k hk hb_; simp at hk; subst hk; have h1_ := hLb _ hb_; have := ho30.blk _ hb_; omega)
         replace hC := hC.step hq (by first | (simp; done) | (simp; omega))
         have q23 := hq
         clear hb3 hq hz; have hb3 : Blk w23 g3 _ [_, _, _] := hbn; clear hbn
         refine hd_next hC ?_
         refine hd_one 9 (by kernel_rfl) rfl ?_
         refine st_assign h rfl rfl ?_; clear h a; intro a h
         refine hd_next hC ?_
         refine hd_end (by kernel_rfl) ?_
         clear hC hb1_b hb2_b hb3_b hb6_b ho30_b
         refine bk (h.sub (L' := [(2, _), (3, _), (4, _)]) (.cons rfl (.cons rfl (.cons rfl .nil)))) ?_; clear h a
         refine tn (rt (rCCT Tryz.results50 rfl hb2 ag75 rfl hb3 ag111 rfl ?_))
         have he : mkE q.p = 0 := by unfold mkE; rw [if_neg c0, if_neg (by simpa using c1), if_neg c2]
         exact ⟨_, rfl, ⟨true, q.pl, q.ct + 1, false, sv0, []⟩, q.ct, q.nw, (A30, q.pes.length, q.pes.length), q.pes, by rw [he]; rfl, (fun _ => ⟨rfl, rfl, rfl, rfl, ho30.low (by omega)⟩), ((((((((((q1.next q2).next q3).next q4).next q11).next q18).next q19).step q20 (by first | (simp; done) | (simp; omega))).next q21).step q22 (by first | (simp; done) | (simp; omega))).step q23 (by first | (simp; done) | (simp; omega)))⟩
end Go.Proofs.YtkionldalpijpaaGreatDoor
namespace Go.Proofs.YtkionldalpijpaaGreatDoor
open Go.Lw Go.G21

set_option maxHeartbeats 1000000 in
theorem yenter_ok (q : YQ) (d : Int) (w0 : World) (hp : Sl encPa w0 (slv q.pe) q.pes) : Rets Tryz.prog 25 #[.agg #[.bool q.inn, .int .i64 q.pl, .int .i64 q.ct, .bool q.nw, .slice q.pe.1 q.pe.2.1 q.pe.2.2], .int .u8 d] w0 fun r w' => ∃ q' : YQ, r = .tuple #[.agg #[.bool q'.inn, .int .i64 q'.pl, .int .i64 q'.ct, .bool q'.nw, .slice q'.pe.1 q'.pe.2.1 q'.pe.2.2], .int .i64 (enE q.p d)] ∧ (enE q.p d = 0 → q' = ⟨true, if d = 1 then 179 else -13, q.ct, true, sv0, []⟩) ∧ Fr [] w0 w' := by
 have hpl := sl_len hp
 have hpM := hp.len_le
 unfold maxLen at hpM
 refine we [(0, .agg #[.bool q.inn, .int .i64 q.pl, .int .i64 q.ct, .bool q.nw, .slice q.pe.1 q.pe.2.1 q.pe.2.2]), (1, .int .u8 d)] Tryz.func25 rfl Tryz.ntmps25 rfl (.cons rfl (.cons rfl .nil)) ?_
 have hp0 := hp
 refine sr (bx rfl rfl rfl (fun g2 w1 hg2 hb2 q1 z1 => ?_))
 refine al zv75 rfl rfl (fun g4 w2 hg4 hb4 q2 z2 => ?_)
 refine asg rfl rfl (nn (sq (sr ?_)))
 replace hb2 := hb2.ext q2
 refine s_loadBA rfl hb2 ag75 rfl ?_
 replace hp := hp0.ext (q1.next q2)
 refine cl (ev1 rfl) co45 (ycheck_ok q _ hp) rfl ?_
 rintro _ w3 ⟨rfl, q3⟩
 have z3 := q3.size
 refine asg rfl rfl (nn (sr (mv rfl rfl (ne' rfl rfl rfl (nn ?_)))))
 refine cd rfl (fun c0 => ?_) (fun c0 => ?_)
 · refine sr (s_lit (cs := [_, _, _, _, _]) evs_nil bo75 pok_nil rfl rfl ?_)
   refine mv rfl rfl ?_
   replace hb4 := hb4.ext q3
   refine s_storeBA (vs := [_, _, _, _, _]) rfl rfl hb4 (by rfl) (by first | (simp [Value.oneCell', S]; done) | exact Enc.one _ _) sz75 (fun w4 hb4 q4 z4 => ?_)
   refine asg rfl rfl (kpL [(4, _), (5, _)] (.cons rfl (.cons rfl .nil)) (nn (rt (tr (rCT Tryz.results25 rfl hb4 ag75 rfl ?_)))))
   have he : enE q.p d = ynE q.p := by unfold enE; rw [if_pos c0]
   exact ⟨_, rfl, yq0, by rw [he]; rfl, (fun h => absurd h (by rw [he]; exact c0)), (((q1.next q2).next q3).step q4 (by first | (simp; done) | (simp; omega)))⟩
 · refine sk (tn (sq (sr (mv rfl rfl ?_))))
   refine cl (ev1 rfl) co46 (sided_ok _ _) rfl ?_
   rintro _ w5 ⟨rfl, q5⟩
   have z5 := q5.size
   refine nt' rfl rfl (nn ?_)
   refine cd rfl (fun c1 => ?_) (fun c1 => ?_)
   · refine sr (s_lit (cs := [_, _, _, _, _]) evs_nil bo75 pok_nil rfl rfl ?_)
     replace hb4 := hb4.ext (q3.next q5)
     refine s_storeBA (vs := [_, _, _, _, _]) rfl rfl hb4 (by rfl) (by first | (simp [Value.oneCell', S]; done) | exact Enc.one _ _) sz75 (fun w6 hb4 q6 z6 => ?_)
     refine asg rfl rfl (nn (rt (tr (rCT Tryz.results25 rfl hb4 ag75 rfl ?_))))
     have he : enE q.p d = 1 := by unfold enE; rw [if_neg c0, if_pos (by simpa using c1)]
     exact ⟨_, rfl, yq0, by rw [he]; rfl, (fun h => absurd h (by rw [he]; decide)), ((((q1.next q2).next q3).next q5).step q6 (by first | (simp; done) | (simp; omega)))⟩
   · refine sk (tn (sq (sr (fad rfl fa75_0 rfl ?_))))
     replace hb2 := hb2.ext (q3.next q5)
     refine s_loadB rfl hb2 rfl na4 rfl (nn ?_)
     refine cd rfl (fun c2 => ?_) (fun c2 => ?_)
     · refine sr (s_lit (cs := [_, _, _, _, _]) evs_nil bo75 pok_nil rfl rfl ?_)
       replace hb4 := hb4.ext (q3.next q5)
       refine s_storeBA (vs := [_, _, _, _, _]) rfl rfl hb4 (by rfl) (by first | (simp [Value.oneCell', S]; done) | exact Enc.one _ _) sz75 (fun w7 hb4 q7 z7 => ?_)
       refine asg rfl rfl (nn (rt (tr (rCT Tryz.results25 rfl hb4 ag75 rfl ?_))))
       have he : enE q.p d = 12 := by unfold enE; rw [if_neg c0, if_neg (by simpa using c1), if_pos (by simpa using c2)]
       exact ⟨_, rfl, yq0, by rw [he]; rfl, (fun h => absurd h (by rw [he]; decide)), ((((q1.next q2).next q3).next q5).step q7 (by first | (simp; done) | (simp; omega)))⟩
     · refine sk (tn (sr (asg rfl rfl (nn ?_))))
       refine jn (ι := Unit) [(2, _), (4, _)] (fun _j => [(7, .int .i64 (if d = 1 then 179 else -13))]) (fun _j w' => Fr [] w5 w') (.cons rfl (.cons rfl .nil)) ?_ ?_
       · refine sr (mv rfl rfl (eq' rfl rfl rfl (nn ?_)))
         refine cd rfl (fun c3 => ?_) (fun c3 => ?_)
         · refine rg (asg rfl rfl (nl ?_))
           exact jE (()) (.cons rfl (.cons rfl (.cons (congrArg (fun q => some (Value.int .i64 q)) (by first | exact (if_pos c3).symm | exact (if_neg c3).symm)) .nil))) (Fr.refl _ _)
         · refine sk ?_
           exact jE (()) (.cons rfl (.cons rfl (.cons (congrArg (fun q => some (Value.int .i64 q)) (by first | exact (if_pos c3).symm | exact (if_neg c3).symm)) .nil))) (Fr.refl _ _)
       · rintro _j w8 q8
         have z8 := q8.size
         refine kpC [(2, _), (4, _), (7, _)] (.cons rfl (.cons rfl (.cons rfl .nil))) ?_
         refine sr (mv rfl rfl (fad rfl fa75_2 rfl ?_))
         replace hb2 := hb2.ext q8
         refine s_loadB rfl hb2 rfl na3 rfl (s_lit (cs := [_, _, _, _, _]) (ev4 rfl rfl rfl rfl) bo75 (pok_cons rfl rfl rfl (pok_cons rfl rfl rfl (pok_cons rfl rfl rfl (pok_cons rfl rfl rfl pok_nil)))) rfl rfl ?_)
         replace hb4 := hb4.ext ((q3.next q5).next q8)
         refine s_storeBA (vs := [_, _, _, _, _]) rfl rfl hb4 (by rfl) (by first | (simp [Value.oneCell', S]; done) | exact Enc.one _ _) sz75 (fun w9 hb4 q9 z9 => ?_)
         refine asg rfl rfl (kpL [(4, _), (5, _)] (.cons rfl (.cons rfl .nil)) (nn (rt (rCT Tryz.results25 rfl hb4 ag75 rfl ?_))))
         have he : enE q.p d = 0 := by unfold enE; rw [if_neg c0, if_neg (by simpa using c1), if_neg (by simpa using c2)]
         exact ⟨_, rfl, ⟨true, if d = 1 then 179 else -13, q.ct, true, sv0, []⟩, by rw [he]; rfl, (fun _ => rfl), (((((q1.next q2).next q3).next q5).next q8).step q9 (by first | (simp; done) | (simp; omega)))⟩
end Go.Proofs.YtkionldalpijpaaGreatDoor
namespace Go.Proofs.YtkionldalpijpaaGreatDoor
open Go.Lw Go.G21
theorem el31 : ElemOf Tryz.prog 31 39 encId 16 := ElemOf.mk' (z := (.agg #[.int .u8 0, .int .i64 0])) Tryz.underlying31 (by kernel_rfl) rfl
theorem el48 : ElemOf Tryz.prog 48 31 encIq 24 := ElemOf.mk' (z := (.slice none 0 0)) Tryz.underlying48 (by kernel_rfl) rfl
theorem na31 : NotAgg Tryz.prog 31 := fun _ => by kernel_rfl
theorem zv39 (w : World) : (zeroValue 39).run Tryz.prog w = .ok (.agg #[(.int .u8 0), (.int .i64 0)]) w := by kernel_rfl
theorem jn_copy (ks : List IQ) (i : Nat) (h : i < ks.length) :
    ((ks.take i).flatMap Prod.snd ++ List.replicate ((ks.flatMap Prod.snd).length - ((ks.take i).flatMap Prod.snd).length) id0).take ((ks.take i).flatMap Prod.snd).length ++ (ks.getD i iq0).2.take (ks.getD i iq0).2.length ++ ((ks.take i).flatMap Prod.snd ++ List.replicate ((ks.flatMap Prod.snd).length - ((ks.take i).flatMap Prod.snd).length) id0).drop (((ks.take i).flatMap Prod.snd).length + (ks.getD i iq0).2.length)
      = (ks.take (i + 1)).flatMap Prod.snd ++ List.replicate ((ks.flatMap Prod.snd).length - ((ks.take (i + 1)).flatMap Prod.snd).length) id0 := by
  have hfs := flat_succ Prod.snd ks i iq0 h
  have hf1 := flat_le Prod.snd ks (i + 1)
  rw [hfs, List.length_append] at hf1 ⊢
  generalize (ks.flatMap Prod.snd).length = m at *
  generalize (ks.take i).flatMap Prod.snd = a at *
  generalize (ks.getD i iq0).2 = b at *
  rw [List.take_left, List.take_length, List.drop_append, List.drop_of_length_le (by omega), List.nil_append, List.drop_replicate, List.append_assoc, List.append_assoc]
  rw [show m - a.length - (a.length + b.length - a.length) = m - (a.length + b.length) by omega]
set_option maxHeartbeats 1000000 in
theorem joined_ok (v : Value) (ks : List IQ) (w0 : World) (hs : Sl encIq w0 v ks) (hk : IqAt w0 ks) (hN : (ks.flatMap Prod.snd).length ≤ 100000) : Rets Tryz.prog 70 #[v] w0 fun r w' => ∃ A, r = .slice A (ks.flatMap Prod.snd).length (ks.flatMap Prod.snd).length ∧ Lw.Own encId 39 w0.heap.size w' r (ks.flatMap Prod.snd) ∧ Fr [] w0 w' := by
 obtain ⟨A, c, rfl, hcc, hM, hA⟩ := id hs
 clear hA
 unfold maxLen at hM
 refine we [(0, .slice A ks.length c)] Tryz.func70 rfl Tryz.ntmps70 rfl (.cons rfl .nil) ?_
 have hs0 := hs
 have hk0 := hk
 refine sr (asg rfl rfl (nn (sr (asg rfl rfl (nn (sq (sr (mv rfl rfl (lnS rfl Tryz.underlying48 rfl (mv rfl rfl (nn ?_)))))))))))
 refine bl ?_
 refine lpK (ι := Nat) [(0, _), (10, _), (11, _)] (fun i => [(12, .int .i64 (i : Int)), (3, .int .i64 (((ks.take i).flatMap Prod.snd).length : Int))]) (fun i w' => Fr [] w0 w' ∧ i ≤ ks.length) (fun i => ks.length - i) 0 (.cons rfl (.cons rfl (.cons rfl (.cons rfl (.cons rfl .nil))))) ⟨Fr.refl _ _, Nat.zero_le _⟩ ?_
 rintro i w1 ⟨q1, hi⟩
 have z1 := q1.size
 refine kpC [(0, _), (10, _), (11, _), (12, _), (3, _)] (.cons rfl (.cons rfl (.cons rfl (.cons rfl (.cons rfl .nil))))) ?_
 refine sr (lt' rfl rfl rfl (nn (sq ?_)))
 refine cd rfl (fun c0 => ?_) (fun c0 => ?_)
 · replace hk := hk0.ext q1
   have hpl := sl_len (hk (ks.getD i iq0) (mem_getD (by omega)))
   have hpM := (hk (ks.getD i iq0) (mem_getD (by omega))).len_le
   unfold maxLen at hpM
   have hfs := flat_succ Prod.snd ks i iq0 (by omega)
   have hfl := congrArg List.length hfs
   rw [List.length_append] at hfl
   have hf1 := flat_le Prod.snd ks (i + 1)
   refine sk (tn (sq (bl (sr ?_))))
   replace hs := hs0.ext q1
   refine s_idxL (iq0) rfl hs rfl el48 (by omega) (by omega) nat_of rfl (fun ad14 hc14 => ?_)
   refine s_loadC0 rfl (hc14 _ hs) na31 rfl (asg rfl rfl (nn (rg (mv rfl rfl (mv rfl rfl (lnS rfl Tryz.underlying31 rfl (s_add rfl rfl (wi6 (by omega)) rfl (asg rfl rfl (nl (bn' (tn ?_)))))))))))
   refine rg (s_add rfl rfl (wi6 (by omega)) rfl (mv rfl rfl (nl ?_)))
   exact lpE (i + 1) (.cons rfl (.cons rfl (.cons rfl (.cons rfl (.cons (congrArg (fun z => some (Value.int .i64 z)) (by omega)) .nil))))) ⟨q1, by omega⟩ (by omega)
 · obtain rfl : i = ks.length := by omega
   rw [List.take_length]
   refine ex (te (te (xh (tn (sr (mv rfl rfl ?_))))))
   refine s_makeSlice (m := (ks.flatMap Prod.snd).length) (c := (ks.flatMap Prod.snd).length) (id0) rfl rfl el31 zv39 rfl (by omega) (by omega) (by unfold maxLen; omega) rfl (fun g22 w2 hg22 ho q2 z2 => ?_)
   refine asg rfl rfl (kpL [(0, _), (6, _)] (.cons rfl (.cons rfl .nil)) (nn (sr (asg rfl rfl (nn (sq (sr (mv rfl rfl (lnS rfl Tryz.underlying48 rfl (mv rfl rfl (nn ?_)))))))))))
   refine bl ?_
   refine lpK (ι := Nat) [(6, _), (23, _), (24, _)] (fun i => [(25, .int .i64 (i : Int)), (7, .int .i64 (((ks.take i).flatMap Prod.snd).length : Int))]) (fun i w' => Fr [g22] w2 w' ∧ i ≤ ks.length ∧ Lw.Own encId 39 g22 w' (.slice (some ⟨g22, 0, none⟩) (ks.flatMap Prod.snd).length (ks.flatMap Prod.snd).length) ((ks.take i).flatMap Prod.snd ++ List.replicate ((ks.flatMap Prod.snd).length - ((ks.take i).flatMap Prod.snd).length) id0)) (fun i => ks.length - i) 0 (.cons rfl (.cons rfl (.cons rfl (.cons rfl (.cons rfl .nil))))) ⟨Fr.refl _ _, ⟨Nat.zero_le _, by simpa using ho⟩⟩ ?_
   rintro i w3 ⟨q3, ⟨hi, ho⟩⟩
   have z3 := q3.size
   refine kpC [(6, _), (23, _), (24, _), (25, _), (7, _)] (.cons rfl (.cons rfl (.cons rfl (.cons rfl (.cons rfl .nil))))) ?_
   refine sr (lt' rfl rfl rfl (nn (sq ?_)))
   refine cd rfl (fun c1 => ?_) (fun c1 => ?_)
   · replace hk := hk0.ext ((q1.next q2).step q3 (by first | (simp; done) | (simp; omega)))
     have hik : i < ks.length := by omega
     have hpl := sl_len (hk (ks.getD i iq0) (mem_getD (by omega)))
     have hpM := (hk (ks.getD i iq0) (mem_getD (by omega))).len_le
     unfold maxLen at hpM
     have hfs := flat_succ Prod.snd ks i iq0 (by omega)
     have hfl := congrArg List.length hfs
     rw [List.length_append] at hfl
     have hf1 := flat_le Prod.snd ks (i + 1)
     refine sk (tn (sq (bl (sr ?_))))
     replace hs := hs0.ext ((q1.next q2).step q3 (by first | (simp; done) | (simp; omega)))
     refine s_idxL (iq0) rfl hs rfl el48 (by omega) (by omega) nat_of rfl (fun ad27 hc27 => ?_)
     refine s_loadC0 rfl (hc27 _ hs) na31 rfl (asg rfl rfl (nn (rg (mv rfl rfl (mv rfl rfl (mv rfl rfl (s_sl_l (p := ((ks.take i).flatMap Prod.snd).length) rfl rfl el31 (by omega) (by omega) (by omega) rfl (mv rfl rfl ?_))))))))
     refine s_copyQ (p := ((ks.take i).flatMap Prod.snd).length) (k := (ks.getD i iq0).2.length) (m := (ks.flatMap Prod.snd).length) rfl rfl ho (hk (ks.getD i iq0) (mem_getD (by omega))) (by omega) (by omega) el31 rfl (fun w4 ho q4 z4 => ?_)
     rw [jn_copy ks i hik] at ho
     refine s_add rfl rfl (wi6 (by omega)) rfl (asg rfl rfl (kpL [(6, _), (7, _), (23, _), (24, _), (25, _)] (.cons rfl (.cons rfl (.cons rfl (.cons rfl (.cons rfl .nil))))) (nl (bn' (tn (rg (s_add rfl rfl (wi6 (by omega)) rfl (mv rfl rfl (nl ?_)))))))))
     exact lpE (i + 1) (.cons rfl (.cons rfl (.cons rfl (.cons rfl (.cons (congrArg (fun z => some (Value.int .i64 z)) (by omega)) .nil))))) ⟨(((Fr.refl [g22] _).step q3 (by first | (simp; done) | (simp; omega))).step q4 (by first | (simp; done) | (simp; omega))), ⟨by omega, ho⟩⟩ (by omega)
   · obtain rfl : i = ks.length := by omega
     rw [List.take_length, Nat.sub_self, List.replicate_zero, List.append_nil] at ho
     refine ex (te (te (xh (tn (sr (mv rfl rfl (asg rfl rfl (kpL [(2, _)] (.cons rfl .nil) (nn (rt (r1 Tryz.results70 rfl ?_)))))))))))
     exact ⟨_, rfl, some ⟨g22, 0, none⟩, rfl, ho.low (by omega), ((q1.next q2).step q3 (by first | (simp; done) | (simp; omega)))⟩
end Go.Proofs.YtkionldalpijpaaGreatDoor
namespace Go.Proofs.YtkionldalpijpaaGreatDoor
open Go.Lw Go.G21
theorem ag81 : AggOf Tryz.prog 81 2 := ⟨fun _ => by kernel_rfl, fun _ => by kernel_rfl⟩
theorem co70 : CallOf Tryz.prog 70 := CallOf.mk' Tryz.func70 (by kernel_rfl) (by kernel_rfl)
theorem el40 : ElemOf Tryz.prog 40 58 encLp 56 := ElemOf.mk' (z := (.agg #[.int .u8 0, .bool false, .slice none 0 0, .slice none 0 0])) Tryz.underlying40 (by kernel_rfl) rfl
theorem el82 : ElemOf Tryz.prog 82 81 encSq 32 := ElemOf.mk' (z := (.agg #[.int .u8 0, .slice none 0 0])) Tryz.underlying82 (by kernel_rfl) rfl
theorem fa81_1 : FieldAt Tryz.prog 81 1 1 := fun _ _ => by kernel_rfl
theorem sz31 : SizeOf Tryz.prog 31 1 := fun _ => by kernel_rfl
theorem sz81 : SizeOf Tryz.prog 81 2 := fun _ => by kernel_rfl
theorem zv31 (w : World) : (zeroValue 31).run Tryz.prog w = .ok (.slice none 0 0) w := by kernel_rfl
theorem zv81 (w : World) : (zeroValue 81).run Tryz.prog w = .ok (.agg #[(.int .u8 0), (.slice none 0 0)]) w := by kernel_rfl
def iqS (q : SlQ) : IQ := (q.h, q.ids)
def paF (b d : Int) (i : LId) : Pa := ⟨i, decide (b = 1), d⟩
def pasF (d : Int) (q : SlQ) : List Pa := q.ids.map (paF q.b d)
theorem sq_iq {w : World} {l : List SlQ} (h : SqAt w l) : IqAt w (l.map iqS) := fun p hp => by
  obtain ⟨q, hq, rfl⟩ := List.mem_map.1 hp
  exact h q hq
theorem iq_flat (l : List SlQ) : (l.map iqS).flatMap Prod.snd = l.flatMap SlQ.ids := by rw [List.flatMap_map]; rfl
theorem hl_set {l : List SlQ} {i : Nat} (h : i < l.length) : ((l.take i).map iqS ++ List.replicate (l.length - i) iq0).set i (iqS (l.getD i sq0)) = (l.take (i + 1)).map iqS ++ List.replicate (l.length - (i + 1)) iq0 := by
  have e : ((l.take i).map iqS).length = i := by simp; omega
  have h2 := set_at ((l.take i).map iqS) (l.length - (i + 1)) iq0 (iqS (l.getD i sq0))
  rw [e, show l.length - (i + 1) + 1 = l.length - i by omega] at h2
  rw [h2, List.take_add_one, List.getElem?_eq_getElem h, List.getD, List.getElem?_eq_getElem h, List.map_append]
  rfl
theorem pas_len (d : Int) (l : List SlQ) : (l.flatMap (pasF d)).length = (l.flatMap SlQ.ids).length := by
  induction l with
  | nil => rfl
  | cons q l ih => rw [List.flatMap_cons, List.flatMap_cons, List.length_append, List.length_append, ih]; simp [pasF]
theorem pas_k {l : List LId} {k : Nat} (b d : Int) (h : k < l.length) (xs : List Pa) : (xs ++ (l.take k).map (paF b d)) ++ [paF b d (l.getD k id0)] = xs ++ (l.take (k + 1)).map (paF b d) := by
  rw [List.take_add_one, List.getElem?_eq_getElem h, List.getD, List.getElem?_eq_getElem h, List.map_append, List.append_assoc]
  rfl
theorem pas_i {l : List SlQ} {i : Nat} (d : Int) (h : i < l.length) {k : Nat} (hk : (l.getD i sq0).ids.length ≤ k) : (l.take i).flatMap (pasF d) ++ ((l.getD i sq0).ids.take k).map (paF (l.getD i sq0).b d) = (l.take (i + 1)).flatMap (pasF d) := by
  rw [flat_succ (pasF d) l i sq0 h, List.take_of_length_le hk]; rfl
set_option maxHeartbeats 1000000 in
theorem held_ok (v : Value) (l : List SlQ) (w0 : World) (hs : Sl encSq w0 v l) (hk : SqAt w0 l) (hl : l.length ≤ 1000) (hN : (l.flatMap SlQ.ids).length ≤ 100000) : Rets Tryz.prog 47 #[v] w0 fun r w' => ∃ A, r = .slice A (l.flatMap SlQ.ids).length (l.flatMap SlQ.ids).length ∧ Lw.Own encId 39 w0.heap.size w' r (l.flatMap SlQ.ids) ∧ Fr [] w0 w' := by
 obtain ⟨A, c, rfl, hcc, hM, hA⟩ := id hs
 clear hA
 unfold maxLen at hM
 refine we [(0, .slice A l.length c)] Tryz.func47 rfl Tryz.ntmps47 rfl (.cons rfl .nil) ?_
 have hs0 := hs
 have hk0 := hk
 refine sr (asg rfl rfl (nn (sr (mv rfl rfl (lnS rfl Tryz.underlying82 rfl ?_)))))
 refine s_makeSlice (m := l.length) (c := l.length) (iq0) rfl rfl el48 zv31 rfl (by omega) (by omega) (by unfold maxLen; omega) rfl (fun g8 w1 hg8 ho q1 z1 => ?_)
 refine asg rfl rfl (nn (sq (sr (mv rfl rfl (lnS rfl Tryz.underlying82 rfl (mv rfl rfl (nn (bl ?_))))))))
 refine lpK (ι := Nat) [(3, _), (9, _), (10, _)] (fun i => [(11, .int .i64 (i : Int))]) (fun i w' => Fr [g8] w1 w' ∧ i ≤ l.length ∧ Lw.Own encIq 31 g8 w' (.slice (some ⟨g8, 0, none⟩) l.length l.length) ((l.take i).map iqS ++ List.replicate (l.length - i) iq0)) (fun i => l.length - i) 0 (.cons rfl (.cons rfl (.cons rfl (.cons rfl .nil)))) ⟨Fr.refl _ _, ⟨Nat.zero_le _, by simpa using ho⟩⟩ ?_
 rintro i w2 ⟨q2, ⟨hi, ho⟩⟩
 have z2 := q2.size
 refine kpC [(3, _), (9, _), (10, _), (11, _)] (.cons rfl (.cons rfl (.cons rfl (.cons rfl .nil)))) ?_
 refine sr (lt' rfl rfl rfl (nn (sq ?_)))
 refine cd rfl (fun c0 => ?_) (fun c0 => ?_)
 · refine sk (tn (sq (bl (sr (mv rfl rfl ?_)))))
   replace hs := hs0.ext (q1.step q2 (by first | (simp; done) | (simp; omega)))
   refine s_idxL (sq0) rfl hs rfl el82 (by omega) (by omega) nat_of rfl (fun ad14 hc14 => ?_)
   refine s_loadA rfl (hc14 _ hs) ag81 rfl (al zv81 rfl rfl (fun g5 w3 hg5 hb5 q3 z3 => ?_))
   refine asg rfl rfl (s_storeBA (vs := [_, _]) rfl rfl hb5 (by rfl) (by first | (simp [Value.oneCell', S]; done) | exact Enc.one _ _ | exact encSq.one (l.getD i sq0)) sz81 (fun w4 hb5 q4 z4 => ?_))
   refine nn (rg (mv rfl rfl (mv rfl rfl (fad rfl fa81_1 rfl (s_loadB rfl hb5 rfl na31 rfl ?_)))))
   replace ho := (ho.ext q3).fr q4 (by first | (simp; done) | (simp; omega) | (simp [blks]; done) | (simp [blks]; omega) | (intro k hk hb; simp at hk; subst hk; have := ho.blk _ hb; omega))
   refine s_idxS (p := i) (E := encIq) rfl rfl el48 (by omega) (by omega) (by omega) rfl ?_
   refine s_storeO (i := i) (iqS (l.getD i sq0)) rfl rfl ho (by simp; omega) rfl sz31 (fun w5 ho q5 z5 => ?_)
   rw [hl_set (by omega)] at ho
   refine kpL [(3, _), (9, _), (10, _), (11, _)] (.cons rfl (.cons rfl (.cons rfl (.cons rfl .nil)))) (nl (bn' (tn (rg (s_add rfl rfl (wi6 (by omega)) rfl (mv rfl rfl (nl ?_)))))))
   exact lpE (i + 1) (.cons rfl (.cons rfl (.cons rfl (.cons rfl .nil)))) ⟨(((((Fr.refl [g8] _).step q2 (by first | (simp; done) | (simp; omega))).next q3).step q4 (by first | (simp; done) | (simp; omega))).step q5 (by first | (simp; done) | (simp; omega))), ⟨by omega, ho⟩⟩ (by omega)
 · obtain rfl : i = l.length := by omega
   rw [List.take_length, Nat.sub_self, List.replicate_zero, List.append_nil] at ho
   refine ex (te (te (xh (tn (sr (mv rfl rfl ?_))))))
   replace hk := hk0.ext (q1.step q2 (by first | (simp; done) | (simp; omega)))
   refine cl (ev1 rfl) co70 (joined_ok _ (l.map iqS) _ ho.sl (sq_iq hk) (by rw [iq_flat]; omega)) rfl ?_
   rintro _ w6 ⟨A23, rfl, hoR, q6⟩
   have z6 := q6.size
   rw [iq_flat] at hoR ⊢
   refine asg rfl rfl (kpL [(2, _)] (.cons rfl .nil) (nn (rt (r1 Tryz.results47 rfl ?_))))
   exact ⟨_, rfl, A23, rfl, hoR.low (by omega), ((q1.step q2 (by first | (simp; done) | (simp; omega))).next q6)⟩
theorem rev1_ok (A : Option Addr) (m c : Nat) (w0 : World) (hm : m ≤ 1) : Rets Tryz.prog 48 #[.slice A m c] w0 fun r w' => w0 = w' := by
 refine we [(0, .slice A m c)] Tryz.func48 rfl Tryz.ntmps48 rfl (.cons rfl .nil) ?_
 refine sr (mv rfl rfl (lnS rfl Tryz.underlying56 rfl (s_sub rfl rfl (wi6 (by omega)) rfl (asg rfl rfl (asg rfl rfl (nn (bl ?_)))))))
 refine lpK (ι := Nat) [(0, _)] (fun k => [(2, .int .i64 (k : Int)), (3, .int .i64 ((m : Int) - 1 - (k : Int)))]) (fun k w' => Fr [] w0 w' ∧ w0 = w' ∧ k ≤ m) (fun k => m - k) 0 (.cons rfl (.cons rfl (.cons (congrArg (fun z => some (Value.int .i64 z)) (by omega)) .nil))) ⟨Fr.refl _ _, ⟨rfl, Nat.zero_le _⟩⟩ ?_
 rintro k w1 ⟨q1, ⟨hw, hi⟩⟩
 have z1 := q1.size
 refine kpC [(0, _), (2, _), (3, _)] (.cons rfl (.cons rfl (.cons rfl .nil))) ?_
 refine sq (sr (mv rfl rfl (mv rfl rfl ?_)))
 refine lt' rfl rfl rfl ?_
 rw [show decide ((k : Int) < (m : Int) - 1 - (k : Int)) = false from decide_eq_false (by omega)]
 refine nn (cf rfl (ex (te (te (xh (r0n Tryz.results48  ?_))))))
 exact ⟨_, rfl, hw⟩
theorem clippa_ok (A : Option Addr) (m c : Nat) (w0 : World) (hc : m ≤ c) : Rets Tryz.prog 51 #[.slice A m c] w0 fun v w' => v = .slice A m m ∧ w0 = w' := by
 refine we [(0, .slice A m c)] Tryz.func51 rfl Tryz.ntmps51 rfl (.cons rfl .nil) ?_
 refine sr (asg rfl rfl (nn (sr (mv rfl rfl (mv rfl rfl (lnS rfl Tryz.underlying56 rfl (mv rfl rfl (lnS rfl Tryz.underlying56 rfl (s_sl_hm rfl rfl rfl el56 (by omega) (by omega) (by omega) nat_of nat_of rfl (asg rfl rfl (kpL [(2, _)] (.cons rfl .nil) ?_)))))))))))
 refine nn (rt (r1 Tryz.results51 rfl ?_))
 exact ⟨_, rfl, rfl, rfl⟩
theorem clipid_ok (A : Option Addr) (m c : Nat) (w0 : World) (hc : m ≤ c) : Rets Tryz.prog 53 #[.slice A m c] w0 fun v w' => v = .slice A m m ∧ w0 = w' := by
 refine we [(0, .slice A m c)] Tryz.func53 rfl Tryz.ntmps53 rfl (.cons rfl .nil) ?_
 refine sr (asg rfl rfl (nn (sr (mv rfl rfl (mv rfl rfl (lnS rfl Tryz.underlying31 rfl (mv rfl rfl (lnS rfl Tryz.underlying31 rfl (s_sl_hm rfl rfl rfl el31 (by omega) (by omega) (by omega) nat_of nat_of rfl (asg rfl rfl (kpL [(2, _)] (.cons rfl .nil) ?_)))))))))))
 refine nn (rt (r1 Tryz.results53 rfl ?_))
 exact ⟨_, rfl, rfl, rfl⟩
theorem cliplp_ok (A : Option Addr) (m c : Nat) (w0 : World) (hc : m ≤ c) : Rets Tryz.prog 13 #[.slice A m c] w0 fun v w' => v = .slice A m m ∧ w0 = w' := by
 refine we [(0, .slice A m c)] Tryz.func13 rfl Tryz.ntmps13 rfl (.cons rfl .nil) ?_
 refine sr (asg rfl rfl (nn (sr (mv rfl rfl (mv rfl rfl (lnS rfl Tryz.underlying40 rfl (mv rfl rfl (lnS rfl Tryz.underlying40 rfl (s_sl_hm rfl rfl rfl el40 (by omega) (by omega) (by omega) nat_of nat_of rfl (asg rfl rfl (kpL [(2, _)] (.cons rfl .nil) ?_)))))))))))
 refine nn (rt (r1 Tryz.results13 rfl ?_))
 exact ⟨_, rfl, rfl, rfl⟩
end Go.Proofs.YtkionldalpijpaaGreatDoor
namespace Go.Proofs.YtkionldalpijpaaGreatDoor
open Go.Lw Go.G21
theorem bo65 : BuildAt Tryz.prog 65 [(0, 2), (2, 1), (3, 1)] [(.int .u8 0), (.int .i64 0), (.bool false), (.int .u8 0)] := BuildAt.struct Tryz.underlying65 (fun _ => by kernel_rfl) (fun _ => by kernel_rfl)
theorem co47 : CallOf Tryz.prog 47 := CallOf.mk' Tryz.func47 (by kernel_rfl) (by kernel_rfl)
theorem co48 : CallOf Tryz.prog 48 := CallOf.mk' Tryz.func48 (by kernel_rfl) (by kernel_rfl)
theorem fa81_0 : FieldAt Tryz.prog 81 0 0 := fun _ _ => by kernel_rfl
theorem na55 : NotAgg Tryz.prog 55 := fun _ => by kernel_rfl
theorem sz39 : SizeOf Tryz.prog 39 2 := fun _ => by kernel_rfl
set_option maxHeartbeats 1000000 in
theorem past_ok (v : Value) (l : List SlQ) (d : Int) (w0 : World) (hs : Sl encSq w0 v l) (hk : SqAt w0 l) (hl : l.length ≤ 1000) (hN : (l.flatMap SlQ.ids).length ≤ 1) : Rets Tryz.prog 28 #[v, .int .u8 d] w0 fun r w' => Lw.Own encPa 65 w0.heap.size w' r (l.flatMap (pasF d)) ∧ Fr [] w0 w' := by
 obtain ⟨A, c, rfl, hcc, hM, hA⟩ := id hs
 clear hA
 unfold maxLen at hM
 have hpn := pas_len d l
 refine we [(0, .slice A l.length c), (1, .int .u8 d)] Tryz.func28 rfl Tryz.ntmps28 rfl (.cons rfl (.cons rfl .nil)) ?_
 have hs0 := hs
 have hk0 := hk
 refine sr (asg rfl rfl (nn (sr (mv rfl rfl ?_))))
 refine cl (ev1 rfl) co47 (held_ok _ l _ hs hk (by omega) (by omega)) rfl ?_
 rintro _ w1 ⟨A12, rfl, ho12, q1⟩
 have z1 := q1.size
 refine asg rfl rfl (nn (sr (mv rfl rfl (lnS rfl Tryz.underlying31 rfl ?_))))
 refine s_makeSlice (m := 0) (c := (l.flatMap SlQ.ids).length) (pa0) rfl rfl el56 zv65 rfl (by omega) (by omega) (by unfold maxLen; omega) rfl (fun g15 w2 hg15 ho q2 z2 => ?_)
 refine asg rfl rfl (nn (sq (sr (mv rfl rfl (lnS rfl Tryz.underlying82 rfl (mv rfl rfl (nn (bl ?_))))))))
 refine lpK (ι := Nat × Value) [(1, _), (16, _), (17, _)] (fun p => [(18, .int .i64 (p.1 : Int)), (6, p.2)]) (fun p w' => Fr [] w0 w' ∧ p.1 ≤ l.length ∧ Lw.Own encPa 65 w0.heap.size w' p.2 ((l.take p.1).flatMap (pasF d))) (fun p => l.length - p.1) (0, _) (.cons rfl (.cons rfl (.cons rfl (.cons rfl (.cons rfl .nil))))) ⟨(q1.next q2), ⟨Nat.zero_le _, by simpa using ho.low (by omega)⟩⟩ ?_
 rintro ⟨i, vP⟩ w3 ⟨q3, ⟨hi, ho⟩⟩
 simp only at hi ho
 have z3 := q3.size
 refine kpC [(1, _), (16, _), (17, _), (18, .int .i64 (i : Int)), (6, vP)] (.cons rfl (.cons rfl (.cons rfl (.cons rfl (.cons rfl .nil))))) ?_
 have hq1 := flat_le (pasF d) l i
 refine sr (lt' rfl rfl rfl (nn (sq ?_)))
 refine cd rfl (fun c0 => ?_) (fun c0 => ?_)
 · replace hk := hk0.ext q3
   have hpl := sl_len (hk (l.getD i sq0) (mem_getD (by omega)))
   have hq2 := flat_le SlQ.ids l (i + 1)
   have hq3 := congrArg List.length (flat_succ SlQ.ids l i sq0 (by omega))
   rw [List.length_append] at hq3
   have hq4 := pas_len d (l.take i)
   refine sk (tn (sq (bl (sr ?_))))
   replace hs := hs0.ext q3
   refine s_idxL (sq0) rfl hs rfl el82 (by omega) (by omega) nat_of rfl (fun ad20 hc20 => ?_)
   refine s_loadA rfl (hc20 _ hs) ag81 rfl (al zv81 rfl rfl (fun g8 w4 hg8 hb8 q4 z4 => ?_))
   refine s_storeBA (vs := [_, _]) rfl rfl hb8 (by rfl) (by first | (simp [Value.oneCell', S]; done) | exact Enc.one _ _ | exact encSq.one (l.getD i sq0)) sz81 (fun w5 hb8 q5 z5 => ?_)
   refine nn (sr (fad rfl fa81_1 rfl (s_loadB rfl hb8 rfl na31 rfl (lnS rfl Tryz.underlying31 rfl (mv rfl rfl (nn (bl ?_)))))))
   replace ho := (ho.ext q4).fr q5 (by first | (simp; done) | (simp; omega) | (simp [blks]; done) | (simp [blks]; omega) | (intro k hk hb; simp at hk; subst hk; have := ho.blk _ hb; omega))
   refine lpK (ι := Nat × Value) [(1, _), (8, _), (16, _), (17, _), (18, _), (23, _), (24, _)] (fun p => [(25, .int .i64 (p.1 : Int)), (6, p.2)]) (fun p w' => Fr [g8] w0 w' ∧ p.1 ≤ (l.getD i sq0).ids.length ∧ Blk w' g8 81 (encSq.enc (l.getD i sq0)) ∧ Lw.Own encPa 65 w0.heap.size w' p.2 ((l.take i).flatMap (pasF d) ++ ((l.getD i sq0).ids.take p.1).map (paF (l.getD i sq0).b d))) (fun p => (l.getD i sq0).ids.length - p.1) (0, _) (.cons rfl (.cons rfl (.cons rfl (.cons rfl (.cons rfl (.cons rfl (.cons rfl (.cons rfl (.cons rfl .nil))))))))) ⟨((((Fr.refl [g8] _).next q3).next q4).step q5 (by first | (simp; done) | (simp; omega))), ⟨Nat.zero_le _, hb8, by simpa using ho⟩⟩ ?_
   rintro ⟨k, vK⟩ w6 ⟨q6, ⟨hk2, hb8, ho⟩⟩
   simp only at hk2 hb8 ho
   have z6 := q6.size
   have lt_hb8 := hb8.lt
   refine kpC [(1, _), (8, _), (16, _), (17, _), (18, _), (23, _), (24, _), (25, .int .i64 (k : Int)), (6, vK)] (.cons rfl (.cons rfl (.cons rfl (.cons rfl (.cons rfl (.cons rfl (.cons rfl (.cons rfl (.cons rfl .nil))))))))) ?_
   refine sr (lt' rfl rfl rfl (nn (sq ?_)))
   refine cd rfl (fun c1 => ?_) (fun c1 => ?_)
   · refine sk (tn (sq (bl (sr ?_))))
     replace hk := hk0.ext (q6.weak (by first | (simp; done) | (simp; omega)))
     refine s_idxL (id0) rfl (hk (l.getD i sq0) (mem_getD (by omega))) rfl el31 (by omega) (by omega) nat_of rfl (fun ad27 hc27 => ?_)
     refine s_loadA rfl (hc27 _ (hk (l.getD i sq0) (mem_getD (by omega)))) ag39 rfl (al zv39 rfl rfl (fun g10 w7 hg10 hb10 q7 z7 => ?_))
     refine s_storeBA (vs := [_, _]) rfl rfl hb10 (by rfl) (by first | (simp [Value.oneCell', S]; done) | exact Enc.one _ _ | exact encSq.one (l.getD i sq0)) sz39 (fun w8 hb10 q8 z8 => ?_)
     refine nn (rg (mv rfl rfl (s_loadBA rfl hb10 ag39 rfl (fad rfl fa81_0 rfl ?_))))
     replace hb8 := (hb8.ext q7).fr q8 (by first | (simp; done) | (simp; omega) | (simp [blks]; done) | (simp [blks]; omega))
     refine s_loadB rfl hb8 rfl na55 rfl (eq' rfl rfl rfl (mv rfl rfl (s_lit (cs := [_, _, _, _]) (ev3 rfl rfl rfl) bo65 (pok_cons rfl rfl rfl (pok_cons rfl rfl rfl (pok_cons rfl rfl rfl pok_nil))) rfl rfl ?_)))
     refine s_bslice ([paF (l.getD i sq0).b d ((l.getD i sq0).ids.getD k id0)]) (ev1 rfl) rfl rfl rfl el56 (Nat.le_of_ble_eq_true rfl) rfl (fun g36 w9 hg36 ho36 q9 z9 => ?_)
     replace hb8 := hb8.ext q9
     replace ho := ((ho.ext q7).fr q8 (by first | (simp; done) | (simp; omega) | (simp [blks]; done) | (simp [blks]; omega) | (intro k hk hb; simp at hk; subst hk; have := ho.blk _ hb; omega))).ext q9
     have hoo37 := ho
     refine s_append rfl rfl ho ho36.sl el56 (by unfold maxLen; simp only [List.length_cons, List.length_nil, List.length_append, List.length_map, List.length_take]; omega) (by simp only [List.length_cons, List.length_nil, List.length_append, List.length_map, List.length_take]; omega) (by omega) rfl (fun v37 w10 ho q10 hor37 => ?_)
     rw [pas_k _ _ (by omega)] at ho
     have z10 := q10.size
     replace hb8 := hb8.fr q10 (fun hk => hoo37.neB hb8 (by decide) hk)
     refine asg rfl rfl (kpL [(1, _), (6, _), (8, _), (16, _), (17, _), (18, _), (23, _), (24, _), (25, _)] (.cons rfl (.cons rfl (.cons rfl (.cons rfl (.cons rfl (.cons rfl (.cons rfl (.cons rfl (.cons rfl .nil))))))))) (nl (bn' (tn (rg (s_add rfl rfl (wi6 (by omega)) rfl (mv rfl rfl (nl ?_))))))))
     exact lpE ((k + 1, _)) (.cons rfl (.cons rfl (.cons rfl (.cons rfl (.cons rfl (.cons rfl (.cons rfl (.cons rfl (.cons rfl .nil))))))))) ⟨((((((Fr.refl [g8] _).step q6 (by first | (simp; done) | (simp; omega))).next q7).step q8 (by first | (simp; done) | (simp; omega))).next q9).step q10 (fun k hk hlt => absurd (hoo37.blk k hk).1 (by omega))), ⟨by simp only; omega, hb8, ho⟩⟩ (by simp only; omega)
   · rw [pas_i d (by omega) (by omega)] at ho
     refine ex (te (te (xh (bn' (tn (rg (s_add rfl rfl (wi6 (by omega)) rfl (mv rfl rfl (kpL [(1, _), (6, _), (16, _), (17, _), (18, _)] (.cons rfl (.cons rfl (.cons rfl (.cons rfl (.cons rfl .nil))))) (nl ?_))))))))))
     exact lpE ((i + 1, _)) (.cons rfl (.cons rfl (.cons rfl (.cons rfl (.cons rfl .nil))))) ⟨(q6.weak (by first | (simp; done) | (simp; omega))), ⟨by simp only; omega, ho⟩⟩ (by simp only; omega)
 · obtain rfl : i = l.length := by omega
   rw [List.take_length] at ho
   obtain ⟨AP, cP, rfl, _⟩ := ho.sl.form
   refine ex (te (te (xh (tn (sq (sr (mv rfl rfl (ne' rfl rfl rfl (kpL [(6, _), (41, _)] (.cons rfl (.cons rfl .nil)) (nn ?_))))))))))
   refine cd rfl (fun c2 => ?_) (fun c2 => ?_)
   · refine rg (mv rfl rfl ?_)
     refine cl (ev1 rfl) co48 (rev1_ok _ _ _ _ (by omega)) rfl ?_
     rintro _ _ rfl
     refine nl (tn (sr (mv rfl rfl (asg rfl rfl (nn (rt (r1 Tryz.results28 rfl ?_)))))))
     exact ⟨_, rfl, ho, q3⟩
   · refine sk (tn (sr (mv rfl rfl (asg rfl rfl (nn (rt (r1 Tryz.results28 rfl ?_)))))))
     exact ⟨_, rfl, ho, q3⟩
end Go.Proofs.YtkionldalpijpaaGreatDoor
namespace Go.Proofs.YtkionldalpijpaaGreatDoor
open Go.Lw Go.G21

theorem clonepa_ok (v : Value) (l : List Pa) (w0 : World) (hs : Sl encPa w0 v l) (hl : l.length ≤ 100000) : Rets Tryz.prog 52 #[v] w0 fun r w' => Lw.Own encPa 65 w0.heap.size w' r l ∧ Fr [] w0 w' := by
 obtain ⟨A, c, rfl, hcc, hM, hA⟩ := id hs
 clear hA
 unfold maxLen at hM
 refine we [(0, .slice A l.length c)] Tryz.func52 rfl Tryz.ntmps52 rfl (.cons rfl .nil) ?_
 have hs0 := hs
 refine sr (asg rfl rfl (nn (sq (sr (mv rfl rfl ?_)))))
 refine s_eqnil rfl Tryz.underlying56 rfl ?_
 refine nn ?_
 refine cd rfl (fun c0 => ?_) (fun c0 => ?_)
 · refine sr (asg rfl rfl (nn (rt (tr (r1 Tryz.results52 rfl ?_)))))
   obtain rfl : l = [] := by
     cases l with
     | nil => rfl
     | cons y ys => obtain ⟨A2, c2, e2, _, _, hA⟩ := id hs; obtain ⟨ad, e, _⟩ := hA 0 y rfl; simp only [Value.slice.injEq] at e2; rw [e2.1, e] at c0; simp at c0
   exact ⟨_, rfl, Own.nil _, (Fr.refl _ _)⟩
 · refine sk (tn (sr (s_bslice (([] : List Pa)) evs_nil rfl rfl rfl el56 (Nat.le_of_ble_eq_true rfl) rfl (fun g5 w1 hg5 ho5 q1 z1 => ?_))))
   refine mv rfl rfl ?_
   replace hs := hs0.ext q1
   have hoo7 := ho5
   refine s_append rfl rfl ho5 hs el56 (by unfold maxLen; simp only [List.length_nil]; omega) (by simp only [List.length_nil]; omega) (by omega) rfl (fun v7 w2 ho5 q2 hor7 => ?_)
   rw [List.nil_append] at ho5
   have z2 := q2.size
   refine asg rfl rfl (nn (rt (r1 Tryz.results52 rfl ?_)))
   exact ⟨_, rfl, ho5.low (by omega), (q1.step q2 (fun k hk hlt => absurd (hoo7.blk k hk).1 (by omega)))⟩
theorem growid_ok (n : Nat) (w0 : World) (hn : n ≤ 100000) : Rets Tryz.prog 73 #[.slice none 0 0, .int .i64 (n : Int)] w0 fun r w' => Lw.Own encId 39 w0.heap.size w' r [] ∧ Fr [] w0 w' := by
 refine we [(0, .slice none 0 0), (1, .int .i64 (n : Int))] Tryz.func73 rfl Tryz.ntmps73 rfl (.cons rfl (.cons rfl .nil)) ?_
 refine sr (asg rfl rfl (nn (sq (sr (mv rfl rfl ?_)))))
 refine s_ltF rfl rfl rfl (by omega) ?_
 refine nn (cf rfl (sk (tn (sq (sr (mv rfl rfl (mv rfl rfl (s_capS rfl Tryz.underlying31 rfl (mv rfl rfl (lnS rfl Tryz.underlying31 rfl (s_sub rfl rfl (wi6 (by omega)) rfl ?_)))))))))))
 refine s_sub rfl rfl (wi6 (by omega)) rfl (asg rfl rfl (kpL [(0, _), (1, _)] (.cons rfl (.cons rfl .nil)) (nn (sr (mv rfl rfl (gt' rfl rfl rfl (nn ?_)))))))
 refine cd rfl (fun c1 => ?_) (fun c1 => ?_)
 · refine rg (mv rfl rfl (mv rfl rfl (s_capS rfl Tryz.underlying31 rfl (s_sl_h rfl rfl el31 (by omega) (by omega) nat_of rfl (mv rfl rfl ?_)))))
   refine s_appendZ (E := encId) (k := n) rfl (congrArg (fun z => some (Value.int .i64 z)) (by omega)) el31 Tryz.underlying3 (by omega) (by unfold maxLen; omega) (by omega) rfl (fun g22 c22 w1 hg22 hc22 ho q1 z1 => ?_)
   refine mv rfl rfl (lnS rfl Tryz.underlying31 rfl (s_sl_h rfl rfl el31 (by omega) (by omega) nat_of rfl (asg rfl rfl (kpL [(0, _)] (.cons rfl .nil) (nl (tn (sr (mv rfl rfl (asg rfl rfl (nn (rt ?_)))))))))))
   refine r1 Tryz.results73 rfl ?_
   exact ⟨_, rfl, ho.low (by omega), q1⟩
 · refine sk (tn (sr (mv rfl rfl (asg rfl rfl (nn (rt (r1 Tryz.results73 rfl ?_)))))))
   exact ⟨_, rfl, Own.nil _, (Fr.refl _ _)⟩
end Go.Proofs.YtkionldalpijpaaGreatDoor
namespace Go.Proofs.YtkionldalpijpaaGreatDoor
open Go.Lw Go.G21
theorem co53 : CallOf Tryz.prog 53 := CallOf.mk' Tryz.func53 (by kernel_rfl) (by kernel_rfl)
theorem co54 : CallOf Tryz.prog 54 := CallOf.mk' Tryz.func54 (by kernel_rfl) (by kernel_rfl)
theorem co73 : CallOf Tryz.prog 73 := CallOf.mk' Tryz.func73 (by kernel_rfl) (by kernel_rfl)
set_option maxHeartbeats 1000000 in
theorem concat_ok (v : Value) (ks : List IQ) (w0 : World) (hs : Sl encIq w0 v ks) (hk : IqAt w0 ks) (hN : (ks.flatMap Prod.snd).length ≤ 100000) : Rets Tryz.prog 54 #[v] w0 fun r w' => Lw.Own encId 39 w0.heap.size w' r (ks.flatMap Prod.snd) ∧ Fr [] w0 w' := by
 obtain ⟨A, c, rfl, hcc, hM, hA⟩ := id hs
 clear hA
 unfold maxLen at hM
 refine we [(0, .slice A ks.length c)] Tryz.func54 rfl Tryz.ntmps54 rfl (.cons rfl .nil) ?_
 have hs0 := hs
 have hk0 := hk
 refine sr (asg rfl rfl (nn (sr (asg rfl rfl (nn (sq (sr (mv rfl rfl (lnS rfl Tryz.underlying48 rfl (mv rfl rfl (nn ?_)))))))))))
 refine bl ?_
 refine lpK (ι := Nat) [(0, _), (9, _), (10, _)] (fun i => [(11, .int .i64 (i : Int)), (3, .int .i64 (((ks.take i).flatMap Prod.snd).length : Int))]) (fun i w' => Fr [] w0 w' ∧ i ≤ ks.length) (fun i => ks.length - i) 0 (.cons rfl (.cons rfl (.cons rfl (.cons rfl (.cons rfl .nil))))) ⟨Fr.refl _ _, Nat.zero_le _⟩ ?_
 rintro i w1 ⟨q1, hi⟩
 have z1 := q1.size
 refine kpC [(0, _), (9, _), (10, _), (11, _), (3, _)] (.cons rfl (.cons rfl (.cons rfl (.cons rfl (.cons rfl .nil))))) ?_
 refine sr (lt' rfl rfl rfl (nn (sq ?_)))
 refine cd rfl (fun c0 => ?_) (fun c0 => ?_)
 · replace hk := hk0.ext q1
   have hpl := sl_len (hk (ks.getD i iq0) (mem_getD (by omega)))
   have hfs := flat_succ Prod.snd ks i iq0 (by omega)
   have hfl := congrArg List.length hfs
   rw [List.length_append] at hfl
   have hf1 := flat_le Prod.snd ks (i + 1)
   refine sk (tn (sq (bl (sr ?_))))
   replace hs := hs0.ext q1
   refine s_idxL (iq0) rfl hs rfl el48 (by omega) (by omega) nat_of rfl (fun ad13 hc13 => ?_)
   refine s_loadC0 rfl (hc13 _ hs) na31 rfl (asg rfl rfl (nn (sr (mv rfl rfl (mv rfl rfl (lnS rfl Tryz.underlying31 rfl (s_add rfl rfl (wi6 (by omega)) rfl (asg rfl rfl (nn (sr (mv rfl rfl ?_)))))))))))
   refine s_ltF rfl rfl rfl (by omega) ?_
   refine nn (cf rfl (sk (bn' (tn (rg (s_add rfl rfl (wi6 (by omega)) rfl (mv rfl rfl (nl ?_))))))))
   exact lpE (i + 1) (.cons rfl (.cons rfl (.cons rfl (.cons rfl (.cons (congrArg (fun z => some (Value.int .i64 z)) (by omega)) .nil))))) ⟨q1, by omega⟩ (by omega)
 · obtain rfl : i = ks.length := by omega
   rw [List.take_length]
   refine ex (te (te (xh (tn (sr (mv rfl rfl ?_))))))
   refine cl (ev2 rfl rfl) co73 (growid_ok (ks.flatMap Prod.snd).length _ (by omega)) rfl ?_
   rintro V24 w2 ⟨ho, q2⟩
   have z2 := q2.size
   refine asg rfl rfl (kpL [(0, _), (6, _)] (.cons rfl (.cons rfl .nil)) (nn (sq (sr (mv rfl rfl (lnS rfl Tryz.underlying48 rfl (mv rfl rfl (nn (bl ?_)))))))))
   refine lpK (ι := Nat × Value) [(25, _), (26, _)] (fun p => [(27, .int .i64 (p.1 : Int)), (6, p.2)]) (fun p w' => Fr [] w0 w' ∧ p.1 ≤ ks.length ∧ Lw.Own encId 39 w0.heap.size w' p.2 ((ks.take p.1).flatMap Prod.snd)) (fun p => ks.length - p.1) (0, _) (.cons rfl (.cons rfl (.cons rfl (.cons rfl .nil)))) ⟨(q1.next q2), ⟨Nat.zero_le _, by simpa using ho.low (by omega)⟩⟩ ?_
   rintro ⟨i, vP⟩ w3 ⟨q3, ⟨hi, ho⟩⟩
   simp only at hi ho
   have z3 := q3.size
   refine kpC [(25, _), (26, _), (27, .int .i64 (i : Int)), (6, vP)] (.cons rfl (.cons rfl (.cons rfl (.cons rfl .nil)))) ?_
   refine sr (lt' rfl rfl rfl (nn (sq ?_)))
   refine cd rfl (fun c2 => ?_) (fun c2 => ?_)
   · replace hk := hk0.ext q3
     have hpl := sl_len (hk (ks.getD i iq0) (mem_getD (by omega)))
     have hfs := flat_succ Prod.snd ks i iq0 (by omega)
     have hfl := congrArg List.length hfs
     rw [List.length_append] at hfl
     have hf1 := flat_le Prod.snd ks (i + 1)
     refine sk (tn (sq (bl (sr ?_))))
     replace hs := hs0.ext q3
     refine s_idxL (iq0) rfl hs rfl el48 (by omega) (by omega) nat_of rfl (fun ad29 hc29 => ?_)
     refine s_loadC0 rfl (hc29 _ hs) na31 rfl (asg rfl rfl (nn (rg (mv rfl rfl (mv rfl rfl ?_)))))
     have hoo33 := ho
     refine s_append rfl rfl ho (hk (ks.getD i iq0) (mem_getD (by omega))) el31 (by unfold maxLen; omega) (by omega) (by omega) rfl (fun v33 w4 ho q4 hor33 => ?_)
     rw [← hfs] at ho
     have z4 := q4.size
     refine asg rfl rfl (nl (bn' (tn (rg (s_add rfl rfl (wi6 (by omega)) rfl (mv rfl rfl (nl ?_)))))))
     exact lpE ((i + 1, _)) (.cons rfl (.cons rfl (.cons rfl (.cons rfl .nil)))) ⟨(q3.step q4 (fun k hk hlt => absurd (hoo33.blk k hk).1 (by omega))), ⟨by simp only; omega, ho⟩⟩ (by simp only; omega)
   · obtain rfl : i = ks.length := by omega
     rw [List.take_length] at ho
     refine ex (te (te (xh (tn (sr (mv rfl rfl (asg rfl rfl (kpL [(2, _)] (.cons rfl .nil) (nn (rt (r1 Tryz.results54 rfl ?_)))))))))))
     exact ⟨_, rfl, ho, q3⟩
theorem tjoin_ok (v : Value) (ks : List IQ) (w0 : World) (hs : Sl encIq w0 v ks) (hk : IqAt w0 ks) (hN : (ks.flatMap Prod.snd).length ≤ 100000) : Rets Tryz.prog 32 #[v] w0 fun r w' => ∃ A, r = .slice A (ks.flatMap Prod.snd).length (ks.flatMap Prod.snd).length ∧ Lw.Own encId 39 w0.heap.size w' r (ks.flatMap Prod.snd) ∧ Fr [] w0 w' := by
 obtain ⟨A, c, rfl, hcc, hM, hA⟩ := id hs
 clear hA
 unfold maxLen at hM
 refine we [(0, .slice A ks.length c)] Tryz.func32 rfl Tryz.ntmps32 rfl (.cons rfl .nil) ?_
 have hs0 := hs
 have hk0 := hk
 refine sr (asg rfl rfl (nn (sr (mv rfl rfl ?_))))
 refine cl (ev1 rfl) co54 (concat_ok _ _ _ hs hk (by omega)) rfl ?_
 rintro V4 w1 ⟨ho, q1⟩
 have z1 := q1.size
 obtain ⟨A4, c4, rfl, hc4⟩ := ho.sl.form
 refine cl (ev1 rfl) co53 (clipid_ok A4 _ c4 _ hc4) rfl ?_
 rintro _ _ ⟨rfl, rfl⟩
 refine asg rfl rfl (nn (rt (r1 Tryz.results32 rfl ?_)))
 exact ⟨_, rfl, A4, rfl, by have h2 := ho.take rfl (Nat.le_refl _) (c' := (ks.flatMap Prod.snd).length) (by omega) (Nat.le_refl _); rwa [List.take_length] at h2, q1⟩
end Go.Proofs.YtkionldalpijpaaGreatDoor
namespace Go.Proofs.YtkionldalpijpaaGreatDoor
open Go.Lw Go.G21
theorem ag33 : AggOf Tryz.prog 33 4 := ⟨fun _ => by kernel_rfl, fun _ => by kernel_rfl⟩
theorem bo33 : BuildAt Tryz.prog 33 [(0, 1), (1, 1), (2, 1), (3, 1)] [(.slice none 0 0), (.slice none 0 0), (.slice none 0 0), (.slice none 0 0)] := BuildAt.struct Tryz.underlying33 (fun _ => by kernel_rfl) (fun _ => by kernel_rfl)
theorem co24 : CallOf Tryz.prog 24 := CallOf.mk' Tryz.func24 (by kernel_rfl) (by kernel_rfl)
theorem el29 : ElemOf Tryz.prog 29 40 encTq 24 := ElemOf.mk' (z := (.slice none 0 0)) Tryz.underlying29 (by kernel_rfl) rfl
theorem sz33 : SizeOf Tryz.prog 33 4 := fun _ => by kernel_rfl
theorem zv33 (w : World) : (zeroValue 33).run Tryz.prog w = .ok (.agg #[(.slice none 0 0), (.slice none 0 0), (.slice none 0 0), (.slice none 0 0)]) w := by kernel_rfl
theorem zv40 (w : World) : (zeroValue 40).run Tryz.prog w = .ok (.slice none 0 0) w := by kernel_rfl
theorem lempty_ok (w0 : World) : Rets Tryz.prog 24 #[] w0 fun r w' => ∃ g, r = .slice (some ⟨g, 0, none⟩) 6 6 ∧ w0.heap.size ≤ g ∧ Lw.Own encTq 40 w0.heap.size w' r (List.replicate 6 tq0) ∧ Fr [] w0 w' := by
 refine we [] Tryz.func24 rfl Tryz.ntmps24 rfl .nil ?_
 refine sr (asg rfl rfl (nn (sr ?_)))
 refine s_makeSlice (m := 6) (c := 6) (tq0) rfl rfl el29 zv40 rfl (by omega) (by omega) (by decide) rfl (fun gT w1 hgT ho q1 z1 => ?_)
 refine asg rfl rfl (nn (rt (r1 Tryz.results24 rfl ?_)))
 exact ⟨_, rfl, gT, rfl, by omega, ho.low (by omega), q1⟩
theorem fempty_ok (w0 : World) : Rets Tryz.prog 10 #[] w0 fun r w' => ∃ g, r = .agg #[.slice (some ⟨g, 0, none⟩) 6 6, .slice none 0 0, .slice none 0 0, .slice none 0 0] ∧ w0.heap.size ≤ g ∧ Lw.Own encTq 40 w0.heap.size w' (.slice (some ⟨g, 0, none⟩) 6 6) (List.replicate 6 tq0) ∧ Fr [] w0 w' := by
 refine we [] Tryz.func10 rfl Tryz.ntmps10 rfl .nil ?_
 refine sr (al zv33 rfl rfl (fun g0 w1 hg0 hb0 q1 z1 => ?_))
 refine nn (sr ?_)
 refine cl evs_nil co24 (lempty_ok _) rfl ?_
 rintro _ w2 ⟨gT, rfl, hgT, ho, q2⟩
 have z2 := q2.size
 refine s_lit (cs := [_, _, _, _]) (ev1 rfl) bo33 (pok_cons rfl rfl rfl pok_nil) rfl rfl ?_
 replace hb0 := hb0.ext q2
 refine s_storeBA (vs := [_, _, _, _]) rfl rfl hb0 (by rfl) (by first | (simp [Value.oneCell', S]; done) | exact Enc.one _ _) sz33 (fun w3 hb0 q3 z3 => ?_)
 refine nn (rt (rC Tryz.results10 rfl hb0 ag33  ?_))
 replace ho := ho.fr q3 (by intro k hk hb; simp at hk; subst hk; have := (ho.blk _ hb).1; omega)
 exact ⟨_, rfl, gT, rfl, by omega, ho.low (by omega), ((q1.next q2).step q3 (by first | (simp; done) | (simp; omega)))⟩
end Go.Proofs.YtkionldalpijpaaGreatDoor
namespace Go.Proofs.YtkionldalpijpaaGreatDoor
open Go.Lw Go.G21
theorem ag58 : AggOf Tryz.prog 58 4 := ⟨fun _ => by kernel_rfl, fun _ => by kernel_rfl⟩
theorem bo39 : BuildAt Tryz.prog 39 [(0, 1), (1, 1)] [(.int .u8 0), (.int .i64 0)] := BuildAt.struct Tryz.underlying39 (fun _ => by kernel_rfl) (fun _ => by kernel_rfl)
theorem bo58 : BuildAt Tryz.prog 58 [(0, 1), (1, 1), (2, 1), (3, 1)] [(.int .u8 0), (.bool false), (.slice none 0 0), (.slice none 0 0)] := BuildAt.struct Tryz.underlying58 (fun _ => by kernel_rfl) (fun _ => by kernel_rfl)
theorem co49 : CallOf Tryz.prog 49 := CallOf.mk' Tryz.func49 (by kernel_rfl) (by kernel_rfl)
theorem co50 : CallOf Tryz.prog 50 := CallOf.mk' Tryz.func50 (by kernel_rfl) (by kernel_rfl)
theorem co51 : CallOf Tryz.prog 51 := CallOf.mk' Tryz.func51 (by kernel_rfl) (by kernel_rfl)
theorem co52 : CallOf Tryz.prog 52 := CallOf.mk' Tryz.func52 (by kernel_rfl) (by kernel_rfl)
theorem el47 : ElemOf Tryz.prog 47 75 encYq 56 := ElemOf.mk' (z := (.agg #[.bool false, .int .i64 0, .int .i64 0, .bool false, .slice none 0 0])) Tryz.underlying47 (by kernel_rfl) rfl
theorem fa50_0 : FieldAt Tryz.prog 50 0 0 := fun _ _ => by kernel_rfl
theorem fa50_1 : FieldAt Tryz.prog 50 1 1 := fun _ _ => by kernel_rfl
theorem fa111_0 : FieldAt Tryz.prog 111 0 0 := fun _ _ => by kernel_rfl
theorem fa111_1 : FieldAt Tryz.prog 111 1 1 := fun _ _ => by kernel_rfl
theorem fa111_2 : FieldAt Tryz.prog 111 2 2 := fun _ _ => by kernel_rfl
theorem na29 : NotAgg Tryz.prog 29 := fun _ => by kernel_rfl
theorem na40 : NotAgg Tryz.prog 40 := fun _ => by kernel_rfl
theorem na47 : NotAgg Tryz.prog 47 := fun _ => by kernel_rfl
theorem sz40 : SizeOf Tryz.prog 40 1 := fun _ => by kernel_rfl
theorem sz58 : SizeOf Tryz.prog 58 4 := fun _ => by kernel_rfl
theorem zv58 (w : World) : (zeroValue 58).run Tryz.prog w = .ok (.agg #[(.int .u8 0), (.bool false), (.slice none 0 0), (.slice none 0 0)]) w := by kernel_rfl
abbrev τd : TyK := ⟨75, 40, 58, 39, 65, 31, 33⟩
theorem τd_ok : τd.Ok := by constructor <;> decide
theorem go_len {y : Yn} {pl : Int} {l : List Pa} (h : goE y pl l = 0) : (pushS y.pe l).length ≤ 4096 := by
  unfold goE at h
  split at h
  · rename_i e; exact absurd h e
  split at h
  · cases h
  split at h
  · cases h
  split at h
  · cases h
  split at h
  · cases h
  · omega
theorem TbO.tfI {τ : TyK} {base : Nat} {w w' : World} {v : Value} {ts : List TQ} {S : List Nat} (h : TbO τ base w v ts) (hf : Fr S w w') (hT : OffT w τ.T S) (hL : OffT w τ.L S) (hP : OffT w τ.P S) (hI : ∀ i, i < ts.length → ∀ q ∈ (ts.getD i tq0).2, ∀ k ∈ blks (slv q.th), k ∉ S) : TbO τ base w' v ts :=
  ⟨own_tf h.out hf hT, fun i hi => own_tf (h.ins i hi) hf hL, h.off, fun i hi q hq => ⟨(h.lps i hi q hq).1.fr hf fun k hk hb => hI i hi q hq k hb hk, own_tf (h.lps i hi q hq).2 hf hP⟩⟩
theorem put_mem {ts : List TQ} {i j : Nat} {u : SV} {lq q : LpQ} (hj : j < ts.length) (hi : i < (ts.set j (u, (ts.getD j tq0).2 ++ [lq])).length) (h : q ∈ ((ts.set j (u, (ts.getD j tq0).2 ++ [lq])).getD i tq0).2) : (∃ i', i' < ts.length ∧ q ∈ (ts.getD i' tq0).2) ∨ q = lq := by
  rw [set_getD hj] at h
  rw [List.length_set] at hi
  split at h
  · rcases List.mem_append.1 h with h | h
    · exact .inl ⟨j, hj, h⟩
    · exact .inr (List.mem_singleton.1 h)
  · exact .inl ⟨i, hi, h⟩
theorem offY {base gy cy n : Nat} {w : World} {ys : List YQ} (hy : YsO τd base w (.slice (some ⟨gy, 0, none⟩) n cy) ys) {T : Nat} (h : T ≠ 75) : OffT w T [gy] := own_off hy.out (Ne.symm h)
set_option maxHeartbeats 2000000 in
theorem kloop_ok (gk gy cy gt ct base j : Nat) (FV BV v : Value) (ys : List YQ) (ts : List TQ) (l : List Pa) (b : Int) (th : SV) (ths : List LId) (w0 : World) (hk : Blk w0 gk 50 [(.slice (some ⟨gy, 0, none⟩) 6 cy), (.slice (some ⟨gt, 0, none⟩) 6 ct), FV, BV]) (hy : YsO τd base w0 (.slice (some ⟨gy, 0, none⟩) 6 cy) ys) (ht : TbO τd base w0 (.slice (some ⟨gt, 0, none⟩) 6 ct) ts) (hly : ys.length = 6) (hlt : ts.length = 6) (hj : j < 6) (hr : (ts.getD j tq0).2.length ≤ 5000) (hs : Sl encPa w0 v l) (hv : ∀ k ∈ blks v, k < w0.heap.size) (hl : l.length ≤ 50000) (hth : Lw.Own encId 39 base w0 (slv th) ths) (hbz : base ≤ w0.heap.size) (hg0 : goE (ys.getD j yq0).p (ys.getD j yq0).pl l = 0) (hm0 : mkE (goS (ys.getD j yq0).p (ys.getD j yq0).pl l) = 0) : Rets Tryz.prog 29 #[.pointer (some ⟨gk, 0, none⟩), .int .u8 ((j : Int) + 1), v, .int .u8 b, .slice th.1 th.2.1 th.2.2] w0 fun r w' => ∃ (u : SV) (lq : LpQ), r = .tuple #[.agg #[.int .u8 ((j : Int) + 1), .int .i64 (ys.getD j yq0).ct], .int .i64 0] ∧ lq.p = ⟨b, (ys.getD j yq0).nw, ths, pushS (ys.getD j yq0).pes l⟩ ∧ lq.th = th ∧ YsO τd base w' (.slice (some ⟨gy, 0, none⟩) 6 cy) (ys.set j (⟨true, (ys.getD j yq0).pl, (ys.getD j yq0).ct + 1, false, sv0, []⟩ : YQ)) ∧ TbO τd base w' (.slice (some ⟨gt, 0, none⟩) 6 ct) (ts.set j (u, (ts.getD j tq0).2 ++ [lq])) ∧ Fr ([gy] ++ ([gt] ++ blks (slv (ts.getD j tq0).1))) w0 w' := by
 have hpsl : (pushS (ys.getD j yq0).pes l).length ≤ 4096 := go_len hg0
 have hkz := hk.lt
 have hyz := (hy.out.blk gy (by simp [blks])).2
 have htz := (ht.out.blk gt (by simp [blks])).2
 have hgky : gk ≠ gy := fun e => Own.neB hy.out hk (by decide) (by simp [blks, e])
 have hgkt : gk ≠ gt := fun e => Own.neB ht.out hk (by decide) (by simp [blks, e])
 have hrowz : ∀ k ∈ blks (slv (ts.getD j tq0).1), k < w0.heap.size := fun k hk => ((ht.ins j (by omega)).blk k hk).2
 have hthz : ∀ i, i < ts.length → ∀ q ∈ (ts.getD i tq0).2, ∀ k ∈ blks (slv q.th), k < w0.heap.size := fun i hi q hq k hk => ((ht.lps i hi q hq).1.blk k hk).2
 have hthw : ∀ k ∈ blks (slv th), k < w0.heap.size := fun k hk => (hth.blk k hk).2
 refine we [(0, .pointer (some ⟨gk, 0, none⟩)), (1, .int .u8 ((j : Int) + 1)), (2, v), (3, .int .u8 b), (4, .slice th.1 th.2.1 th.2.2)] Tryz.func29 rfl Tryz.ntmps29 rfl (.cons rfl (.cons rfl (.cons rfl (.cons rfl (.cons rfl .nil))))) ?_
 have hy0 := hy
 have ht0 := ht
 have hs0 := hs
 have hth0 := hth
 refine sr (al zv39 rfl rfl (fun g10 w1 hg10 hb10 q1 z1 => ?_))
 refine asg rfl rfl (nn (sr (mv rfl rfl (nlc rfl rfl (fad rfl fa50_0 rfl ?_)))))
 replace hk := hk.ext q1
 refine s_loadB rfl hk rfl na47 rfl (mv rfl rfl (s_sub rfl rfl (wi8 (by omega)) rfl ?_))
 replace hy := hy0.ext q1
 refine s_idxL (p := j) (yq0) rfl hy.out.sl rfl el47 (by omega) (by omega) (by omega) rfl (fun ad22 hc22 => ?_)
 refine s_loadA rfl (hc22 _ hy.out.sl) ag75 rfl (al zv75 rfl rfl (fun g12 w2 hg12 hb12 q2 z2 => ?_))
 refine s_storeBA (vs := [_, _, _, _, _]) rfl rfl hb12 (by rfl) (by first | (simp [Value.oneCell', S]; done) | exact Enc.one _ _ | exact encYq.one (ys.getD j yq0)) sz75 (fun w3 hb12 q3 z3 => ?_)
 refine kpL [(0, _), (1, _), (2, _), (3, _), (4, _), (10, _), (12, _)] (.cons rfl (.cons rfl (.cons rfl (.cons rfl (.cons rfl (.cons rfl (.cons rfl .nil))))))) (nn (sr (s_loadBA rfl hb12 ag75 rfl (fad rfl fa75_1 rfl (s_loadB rfl hb12 rfl na3 rfl (mv rfl rfl ?_))))))
 replace hy := hy0.ext ((q1.next q2).step q3 (by first | (simp; done) | (simp; omega)))
 replace hs := hs0.ext ((q1.next q2).step q3 (by first | (simp; done) | (simp; omega)))
 replace hk := (hk.ext q2).fr q3 (by first | (simp; done) | (simp; omega) | (simp [blks]; done) | (simp [blks]; omega))
 refine cl (ev3 rfl rfl rfl) co49 (ygo_ok (ys.getD j yq0) (ys.getD j yq0).pl _ l _ (hy.ins j (by omega)).sl hs (fun k hk => by have := hv k hk; omega) hl) rfl ?_
 rintro _ w4 ⟨q1, rfl, hgo, q4⟩
 have z4 := q4.size
 obtain ⟨hqp, hoP⟩ := hgo hg0
 obtain ⟨inn1, pl1, ct1, nw1, pe1, pes1⟩ := q1
 obtain rfl : inn1 = (ys.getD j yq0).inn := congrArg Yn.inn hqp
 obtain rfl : pl1 = (ys.getD j yq0).pl := congrArg Yn.pl hqp
 obtain rfl : ct1 = (ys.getD j yq0).ct := congrArg Yn.ct hqp
 obtain rfl : nw1 = (ys.getD j yq0).nw := congrArg Yn.nw hqp
 obtain rfl : pes1 = pushS (ys.getD j yq0).pes l := congrArg Yn.pe hqp
 simp only at hoP
 refine mv rfl rfl (xt rfl rfl rfl (xt rfl rfl rfl ?_))
 replace hb12 := hb12.ext q4
 refine s_storeBA (vs := [_, _, _, _, _]) rfl rfl hb12 (by rfl) (by first | (simp [Value.oneCell', S]; done) | exact Enc.one _ _ | exact encYq.one (ys.getD j yq0)) sz75 (fun w5 hb12 q5 z5 => ?_)
 refine asg rfl rfl (kpL [(0, _), (1, _), (3, _), (4, _), (10, _), (12, _), (13, _)] (.cons rfl (.cons rfl (.cons rfl (.cons rfl (.cons rfl (.cons rfl (.cons rfl .nil))))))) (nn (sq (sr (mv rfl rfl (ne' rfl rfl rfl (nn ?_)))))))
 refine cd rfl (fun c0 => ?_) (fun c0 => ?_)
 · refine sr (s_lit (cs := [_, _]) evs_nil bo39 pok_nil rfl rfl ?_)
   refine mv rfl rfl ?_
   replace hb10 := (((hb10.ext q2).fr q3 (by first | (simp; done) | (simp; omega) | (simp [blks]; done) | (simp [blks]; omega))).ext q4).fr q5 (by first | (simp; done) | (simp; omega) | (simp [blks]; done) | (simp [blks]; omega))
   refine s_storeBA (vs := [_, _]) rfl rfl hb10 (by rfl) (by first | (simp [Value.oneCell', S]; done) | exact Enc.one _ _ | exact encYq.one (ys.getD j yq0)) sz39 (fun w6 hb10 q6 z6 => ?_)
   refine asg rfl rfl (kpL [(10, _), (11, _)] (.cons rfl (.cons rfl .nil)) (nn (rt (tr (rCT Tryz.results29 rfl hb10 ag39 rfl ?_)))))
   exact absurd hg0 c0
 · refine sk (tn (sr (s_loadBA rfl hb12 ag75 rfl ?_)))
   replace hoP := hoP.fr q5 (by intro k hk hb; simp at hk; subst hk; have := (hoP.blk _ hb).1; omega)
   replace hk := (hk.ext q4).fr q5 (by first | (simp; done) | (simp; omega) | (simp [blks]; done) | (simp [blks]; omega))
   refine cl (ev1 rfl) co50 (ymake_ok (⟨(ys.getD j yq0).inn, (ys.getD j yq0).pl, (ys.getD j yq0).ct, (ys.getD j yq0).nw, pe1, pushS (ys.getD j yq0).pes l⟩ : YQ) _ hoP.sl (fun k hk => (hoP.blk k hk).2)) rfl ?_
   rintro _ w7 ⟨q2, n2, nw2, s2, ps2, rfl, hmk, q7⟩
   have z7 := q7.size
   replace hk := hk.ext q7
   obtain ⟨rfl, rfl, rfl, rfl, hoM⟩ := hmk hm0
   have hLb := fun k hk => (hoM.blk k hk).2
   refine mv rfl rfl (xt rfl rfl rfl (xt rfl rfl rfl (xt rfl rfl rfl (al zv111 rfl rfl (fun g14 w8 hg14 hb14 q8 z8 => ?_)))))
   replace hb12 := hb12.ext (q7.next q8)
   refine s_storeBA (vs := [_, _, _, _, _]) rfl rfl hb12 (by rfl) (by first | (simp [Value.oneCell', S]; done) | exact Enc.one _ _ | exact encYq.one (ys.getD j yq0)) sz75 (fun w9 hb12 q9 z9 => ?_)
   replace hb14 := hb14.fr q9 (by first | (simp; done) | (simp; omega) | (simp [blks]; done) | (simp [blks]; omega))
   refine s_storeBA (vs := [_, _, _]) rfl rfl hb14 (by rfl) (by first | (simp [Value.oneCell', S]; done) | exact Enc.one _ _ | exact encYq.one (ys.getD j yq0)) sz111 (fun w10 hb14 q10 z10 => ?_)
   refine asg rfl rfl (kpL [(0, _), (1, _), (3, _), (4, _), (10, _), (12, _), (13, _), (14, _)] (.cons rfl (.cons rfl (.cons rfl (.cons rfl (.cons rfl (.cons rfl (.cons rfl (.cons rfl .nil)))))))) (nn (sq (sr (mv rfl rfl (ne' rfl rfl rfl (nn ?_)))))))
   refine cd rfl (fun c1 => ?_) (fun c1 => ?_)
   · refine sr (s_lit (cs := [_, _]) evs_nil bo39 pok_nil rfl rfl ?_)
     refine mv rfl rfl ?_
     replace hb10 := ((((((hb10.ext q2).fr q3 (by first | (simp; done) | (simp; omega) | (simp [blks]; done) | (simp [blks]; omega))).ext q4).fr q5 (by first | (simp; done) | (simp; omega) | (simp [blks]; done) | (simp [blks]; omega))).ext (q7.next q8)).fr q9 (by first | (simp; done) | (simp; omega) | (simp [blks]; done) | (simp [blks]; omega))).fr q10 (by first | (simp; done) | (simp; omega) | (simp [blks]; done) | (simp [blks]; omega))
     refine s_storeBA (vs := [_, _]) rfl rfl hb10 (by rfl) (by first | (simp [Value.oneCell', S]; done) | exact Enc.one _ _ | exact encYq.one (ys.getD j yq0)) sz39 (fun w11 hb10 q11 z11 => ?_)
     refine asg rfl rfl (kpL [(10, _), (11, _)] (.cons rfl (.cons rfl .nil)) (nn (rt (tr (rCT Tryz.results29 rfl hb10 ag39 rfl ?_)))))
     exact absurd hm0 c1
   · refine sk (tn (sq ?_))
     replace hk := ((hk.ext q8).fr q9 (by first | (simp; done) | (simp; omega) | (simp [blks]; done) | (simp [blks]; omega))).fr q10 (by first | (simp; done) | (simp; omega) | (simp [blks]; done) | (simp [blks]; omega))
     replace hy := hy0.ext ((((((((q1.next q2).step q3 (by first | (simp; done) | (simp; omega))).next q4).step q5 (by first | (simp; done) | (simp; omega))).next q7).next q8).step q9 (by first | (simp; done) | (simp; omega))).step q10 (by first | (simp; done) | (simp; omega)))
     replace ht := ht0.ext ((((((((q1.next q2).step q3 (by first | (simp; done) | (simp; omega))).next q4).step q5 (by first | (simp; done) | (simp; omega))).next q7).next q8).step q9 (by first | (simp; done) | (simp; omega))).step q10 (by first | (simp; done) | (simp; omega)))
     replace hth := hth0.ext ((((((((q1.next q2).step q3 (by first | (simp; done) | (simp; omega))).next q4).step q5 (by first | (simp; done) | (simp; omega))).next q7).next q8).step q9 (by first | (simp; done) | (simp; omega))).step q10 (by first | (simp; done) | (simp; omega)))
     replace hb10 := ((((((hb10.ext q2).fr q3 (by first | (simp; done) | (simp; omega) | (simp [blks]; done) | (simp [blks]; omega))).ext q4).fr q5 (by first | (simp; done) | (simp; omega) | (simp [blks]; done) | (simp [blks]; omega))).ext (q7.next q8)).fr q9 (by first | (simp; done) | (simp; omega) | (simp [blks]; done) | (simp [blks]; omega))).fr q10 (by first | (simp; done) | (simp; omega) | (simp [blks]; done) | (simp [blks]; omega))
     replace hb12 := hb12.fr q10 (by first | (simp; done) | (simp; omega) | (simp [blks]; done) | (simp [blks]; omega))
     intro a h
     refine region_heldP (some 8) (fun wb w' => Fr [] wb w') hmix ?_; intro w12 hq
     have z12 := hq.size
     replace hk := hk.ext hq
     replace hy := hy.ext hq
     replace ht := ht.ext hq
     replace hth := hth.ext hq
     replace hb10 := hb10.ext hq
     replace hb12 := hb12.ext hq
     replace hb14 := hb14.ext hq
     have q12 := hq
     clear hq; have hC : Fr [] w12 w12 := Fr.refl _ _
     have hk_b := hk
     have hy_b := hy
     have ht_b := ht
     have hth_b := hth
     have hb10_b := hb10
     have hb12_b := hb12
     have hb14_b := hb14
     refine hd_move 0 (by kernel_rfl) (by kernel_rfl) (by kernel_rfl) hC h wn rfl rfl rfl ?_; clear h a; intro a h
     refine hd_nilCheck 1 (by kernel_rfl) (by kernel_rfl) (by kernel_rfl) hC h wn rfl rfl rfl ?_; clear h a; intro a h
     refine hd_fieldAddr 2 (by kernel_rfl) (by kernel_rfl) (by kernel_rfl) hC h wn rfl fa50_0 rfl rfl ?_; clear h a; intro a h
     refine hd_loadB 3 (by kernel_rfl) (by kernel_rfl) (by kernel_rfl) hC h wn rfl (fun _ hw => hk_b.ext hw) rfl na47 rfl rfl ?_; clear h a; intro a h
     refine hd_move 4 (by kernel_rfl) (by kernel_rfl) (by kernel_rfl) hC h wn rfl rfl rfl ?_; clear h a; intro a h
     refine hd_sub 5 (by kernel_rfl) (by kernel_rfl) (by kernel_rfl) hC h wn rfl rfl (by first | exact IntWalk.u8_in _ (by omega) | rfl) rfl rfl ?_; clear h a; intro a h
     refine hd_loadBA 6 (by kernel_rfl) (by kernel_rfl) (by kernel_rfl) hC h wn rfl (fun _ hw => hb12_b.ext hw) ag75 rfl rfl ?_; clear h a; intro a h
     refine hd_idxS 7 (by kernel_rfl) (by kernel_rfl) (by kernel_rfl) hC (p := j) h wn rfl rfl el47 (by omega) (by omega) (by omega) rfl rfl ?_; clear h a; intro a h
     refine hd_one 8 (by kernel_rfl) rfl ?_
     refine st_storeO (i := j) (⟨true, (ys.getD j yq0).pl, (ys.getD j yq0).ct + 1, false, sv0, []⟩ : YQ) h rfl rfl hy.out (by omega) rfl sz75 ?_; clear h a; intro w13 ho_2 hq _hz a h
     replace ht := ht.tf hq (offY hy (by decide)) (offY hy (by decide)) (offY hy (by decide)) (offY hy (by decide))
     replace hth := own_tf hth hq (offY hy (by decide))
     replace hy := hy.put (by omega) τd_ok ho_2 hq (Own.nil _)
     clear ho_2
     have hy0 := hy
     have ht0 := ht
     have hth0 := hth
     have z13 := hq.size
     replace hk := hk.fr hq (by first | (simp; done) | (simp; omega) | (simp [blks]; done) | (simp [blks]; omega))
     replace hb10 := hb10.fr hq (by first | (simp; done) | (simp; omega) | (simp [blks]; done) | (simp [blks]; omega))
     replace hb12 := hb12.fr hq (by first | (simp; done) | (simp; omega) | (simp [blks]; done) | (simp [blks]; omega))
     replace hb14 := hb14.fr hq (by first | (simp; done) | (simp; omega) | (simp [blks]; done) | (simp [blks]; omega))
     have q13 := hq
     clear hq _hz
     refine hd_past (by kernel_rfl) ?_
     refine hd_end (by kernel_rfl) ?_
     clear hC hk_b hy_b ht_b hth_b hb10_b hb12_b hb14_b
     refine bk (h.sub (L' := [(0, _), (1, _), (3, _), (4, _), (10, _), (14, _)]) (.cons rfl (.cons rfl (.cons rfl (.cons rfl (.cons rfl (.cons rfl .nil))))))) ?_; clear h a
     refine tn (sq ?_)
     replace hoM := ((((hoM.ext q8).fr q9 (by intro k hk hb; simp at hk; subst hk; have h1_ := hLb _ hb; have := hoM.blk _ hb; omega)).fr q10 (by intro k hk hb; simp at hk; subst hk; have h1_ := hLb _ hb; have := hoM.blk _ hb; omega)).ext q12).fr q13 (by intro k hk hb; simp at hk; subst hk; have h1_ := hLb _ hb; have := hoM.blk _ hb; omega)
     intro a h
     refine region_heldP none (fun wb w' => Fr [] wb w') hmix ?_; intro w14 hq
     have z14 := hq.size
     replace hoM := hoM.ext hq
     replace hb14 := hb14.ext hq
     have q14 := hq
     clear hq; have hC : Fr [] w14 w14 := Fr.refl _ _
     have hoM_b := hoM
     have hb14_b := hb14
     refine hd_move 0 (by kernel_rfl) (by kernel_rfl) (by kernel_rfl) hC h wn rfl rfl rfl ?_; clear h a; intro a h
     refine hd_fieldAddr 1 (by kernel_rfl) (by kernel_rfl) (by kernel_rfl) hC h wn rfl fa111_1 rfl rfl ?_; clear h a; intro a h
     refine hd_loadB 2 (by kernel_rfl) (by kernel_rfl) (by kernel_rfl) hC h wn rfl (fun _ hw => hb14_b.ext hw) rfl na4 rfl rfl ?_; clear h a; intro a h
     refine hd_move 3 (by kernel_rfl) (by kernel_rfl) (by kernel_rfl) hC h wn rfl rfl rfl ?_; clear h a; intro a h
     refine hd_fieldAddr 4 (by kernel_rfl) (by kernel_rfl) (by kernel_rfl) hC h wn rfl fa111_2 rfl rfl ?_; clear h a; intro a h
     refine hd_loadB 5 (by kernel_rfl) (by kernel_rfl) (by kernel_rfl) hC h wn rfl (fun _ hw => hb14_b.ext hw) rfl na56 rfl rfl ?_; clear h a; intro a h
     refine hd_two 6 9 (by kernel_rfl) rfl rfl ?_ ?_
     · refine id ?_
       refine st_call h (evs_cons rfl evs_nil) co52 (clonepa_ok _ (pushS (ys.getD j yq0).pes l) _ hoM.sl (by omega)) rfl ?_; clear h a; rintro V60 w15 ⟨hoC, hq⟩ a h
       have z15 := hq.size
       replace hoM := hoM.ext hq
       replace hb14 := hb14.ext hq
       replace hC := hC.next hq
       have q15 := hq
       obtain ⟨AC0, cC0, rfl, hcC0⟩ := hoC.sl.form
       have hLc := fun k hk => (hoC.blk k hk).2
       refine hd_next hC ?_
       refine hd_two 7 9 (by kernel_rfl) rfl rfl ?_ ?_
       · refine id ?_
         refine st_call h (evs_cons rfl evs_nil) co51 (clippa_ok AC0 _ cC0 _ hcC0) rfl ?_; clear h a; rintro _ _ ⟨rfl, rfl⟩ a h
         refine hd_next hC ?_
         refine hd_lit (cs := [_, _, _, _]) 8 (by kernel_rfl) (by kernel_rfl) (by kernel_rfl) hC h wn (evs_cons rfl (evs_cons rfl (evs_cons rfl (evs_cons rfl evs_nil)))) bo58 (pok_cons rfl rfl rfl (pok_cons rfl rfl rfl (pok_cons rfl rfl rfl (pok_cons rfl rfl rfl pok_nil)))) rfl rfl rfl ?_; clear h a; intro a h
         refine hd_one 9 (by kernel_rfl) rfl ?_
         refine st_alloc h zv58 rfl rfl ?_; clear h a; intro w16 hb15 hq hz a h
         obtain ⟨g_15, hg⟩ : ∃ g, g = w15.heap.size := ⟨_, rfl⟩; rw [← hg] at hb15 h hz
         have hn_4_15 : g14 < g_15 := by have := hb14.lt; omega
         have z16 := hq.size
         replace hoM := hoM.ext hq
         replace hb14 := hb14.ext hq
         replace hoC := hoC.ext hq
         replace hC := hC.next hq
         have q16 := hq
         clear hq
         refine hd_next hC ?_
         refine hd_one 10 (by kernel_rfl) rfl ?_
         refine st_storeBA h rfl rfl hb15 rfl (by first | (simp [Value.oneCell', S]; done) | exact Enc.one _ _ | exact encYq.one (ys.getD j yq0)) sz58 ?_; clear h a; intro w17 hbn hq hz a h
         have z17 := hq.size
         replace hoM := hoM.fr hq (by intro k hk hb; simp at hk; subst hk; have h1_ := hLb _ hb; have := hoM.blk _ hb; omega)
         replace hb14 := hb14.fr hq (by first | (simp; done) | (simp; omega) | (simp [blks]; done) | (simp [blks]; omega))
         replace hoC := hoC.fr hq (by intro k hk hb; simp at hk; subst hk; have h1_ := hLc _ hb; have := hoC.blk _ hb; omega)
         replace hC := hC.step hq (by first | (simp; done) | (simp; omega))
         have q17 := hq
         clear hb15 hq hz; have hb15 : Blk w17 g_15 _ [_, _, _, _] := hbn; clear hbn
         refine hd_next hC ?_
         refine hd_end (by kernel_rfl) ?_
         clear hC hoM_b hb14_b
         replace ht := ht0.ext (((q14.next q15).next q16).step q17 (by first | (simp; done) | (simp; omega)))
         have hrow := ht.ins j (by omega)
         have hrow0 := hrow
         refine bk (h.sub (L' := [(0, _), (1, _), (10, _), (14, _), (15, _)]) (.cons rfl (.cons rfl (.cons rfl (.cons rfl (.cons rfl .nil)))))) ?_; clear h a
         refine tn (sq ?_)
         replace hk := (hk.ext ((q14.next q15).next q16)).fr q17 (by first | (simp; done) | (simp; omega) | (simp [blks]; done) | (simp [blks]; omega))
         replace hy := hy0.ext (((q14.next q15).next q16).step q17 (by first | (simp; done) | (simp; omega)))
         replace hth := hth0.ext (((q14.next q15).next q16).step q17 (by first | (simp; done) | (simp; omega)))
         replace hb10 := (hb10.ext ((q14.next q15).next q16)).fr q17 (by first | (simp; done) | (simp; omega) | (simp [blks]; done) | (simp [blks]; omega))
         intro a h
         refine region_heldP (some 18) (fun wb w' => Fr (blks (slv (ts.getD j tq0).1)) wb w') hmix ?_; intro w18 hq
         have z18 := hq.size
         replace hk := hk.ext hq
         replace hy := hy.ext hq
         replace ht := ht.ext hq
         replace hth := hth.ext hq
         replace hb10 := hb10.ext hq
         replace hb14 := hb14.ext hq
         replace hoC := hoC.ext hq
         replace hb15 := hb15.ext hq
         replace hrow := hrow.ext hq
         have q18 := hq
         clear hq; have hC : Fr (blks (slv (ts.getD j tq0).1)) w18 w18 := Fr.refl _ _
         have hk_b := hk
         have hy_b := hy
         have ht_b := ht
         have hth_b := hth
         have hb10_b := hb10
         have hb14_b := hb14
         have hoC_b := hoC
         have hb15_b := hb15
         have hrow_b := hrow
         refine hd_move 0 (by kernel_rfl) (by kernel_rfl) (by kernel_rfl) hC h wn rfl rfl rfl ?_; clear h a; intro a h
         refine hd_nilCheck 1 (by kernel_rfl) (by kernel_rfl) (by kernel_rfl) hC h wn rfl rfl rfl ?_; clear h a; intro a h
         refine hd_fieldAddr 2 (by kernel_rfl) (by kernel_rfl) (by kernel_rfl) hC h wn rfl fa50_1 rfl rfl ?_; clear h a; intro a h
         refine hd_loadB 3 (by kernel_rfl) (by kernel_rfl) (by kernel_rfl) hC h wn rfl (fun _ hw => hk_b.fr hw (fun k_ => Own.neB hrow_b hk_b (by decide) k_)) rfl na29 rfl rfl ?_; clear h a; intro a h
         refine hd_move 4 (by kernel_rfl) (by kernel_rfl) (by kernel_rfl) hC h wn rfl rfl rfl ?_; clear h a; intro a h
         refine hd_sub 5 (by kernel_rfl) (by kernel_rfl) (by kernel_rfl) hC h wn rfl rfl (by first | exact IntWalk.u8_in _ (by omega) | rfl) rfl rfl ?_; clear h a; intro a h
         refine hd_move 6 (by kernel_rfl) (by kernel_rfl) (by kernel_rfl) hC h wn rfl rfl rfl ?_; clear h a; intro a h
         refine hd_nilCheck 7 (by kernel_rfl) (by kernel_rfl) (by kernel_rfl) hC h wn rfl rfl rfl ?_; clear h a; intro a h
         refine hd_fieldAddr 8 (by kernel_rfl) (by kernel_rfl) (by kernel_rfl) hC h wn rfl fa50_1 rfl rfl ?_; clear h a; intro a h
         refine hd_loadB 9 (by kernel_rfl) (by kernel_rfl) (by kernel_rfl) hC h wn rfl (fun _ hw => hk_b.fr hw (fun k_ => Own.neB hrow_b hk_b (by decide) k_)) rfl na29 rfl rfl ?_; clear h a; intro a h
         refine hd_move 10 (by kernel_rfl) (by kernel_rfl) (by kernel_rfl) hC h wn rfl rfl rfl ?_; clear h a; intro a h
         refine hd_sub 11 (by kernel_rfl) (by kernel_rfl) (by kernel_rfl) hC h wn rfl rfl (by first | exact IntWalk.u8_in _ (by omega) | rfl) rfl rfl ?_; clear h a; intro a h
         refine hd_idxL (p := j) (tq0) 12 (by kernel_rfl) (by kernel_rfl) (by kernel_rfl) hC h wn rfl ht.out.sl rfl el29 (by omega) (by omega) (by omega) rfl rfl ?_; clear h a; intro ad75 hc75 a h
         refine hd_loadC0 13 (by kernel_rfl) (by kernel_rfl) (by kernel_rfl) hC h wn rfl (fun _ hw => hc75 _ (own_tf ht_b.out hw (own_off hrow_b (by decide))).sl) na40 rfl rfl ?_; clear h a; intro a h
         refine hd_loadBA 14 (by kernel_rfl) (by kernel_rfl) (by kernel_rfl) hC h wn rfl (fun _ hw => hb15_b.fr hw (fun k_ => by have := hrowz _ k_; omega)) ag58 rfl rfl ?_; clear h a; intro a h
         refine hd_one 15 (by kernel_rfl) rfl ?_
         refine st_bslice ([(⟨b, (ys.getD j yq0).nw, th, (AC0, (pushS (ys.getD j yq0).pes l).length, (pushS (ys.getD j yq0).pes l).length), ths, pushS (ys.getD j yq0).pes l⟩ : LpQ)]) h (evs_cons rfl evs_nil) rfl rfl rfl el40 (Nat.le_of_ble_eq_true rfl) rfl ?_; clear h a; intro g_78 w19 hg ho78 hq hz a h
         have hn__78 : gk < g_78 := by have := hk.lt; omega
         have hn_0_78 : g10 < g_78 := by have := hb10.lt; omega
         have hn_4_78 : g14 < g_78 := by have := hb14.lt; omega
         have hn_15_78 : g_15 < g_78 := by have := hb15.lt; omega
         have z19 := hq.size
         replace hk := hk.ext hq
         replace hy := hy.ext hq
         replace ht := ht.ext hq
         replace hth := hth.ext hq
         replace hb10 := hb10.ext hq
         replace hb14 := hb14.ext hq
         replace hoC := hoC.ext hq
         replace hb15 := hb15.ext hq
         replace hrow := hrow.ext hq
         replace hC := hC.next hq
         have q19 := hq
         clear hq
         refine hd_next hC ?_
         refine hd_one 16 (by kernel_rfl) rfl ?_
         have hoo79 := hrow
         refine st_append h rfl rfl hrow ho78.sl el40 (by unfold maxLen; simp only [List.length_cons, List.length_nil]; omega) (by simp only [List.length_cons, List.length_nil]; omega) (by omega) rfl ?_; clear h a; intro v79 w20 hrow hq hor79 a h
         have hoC2 := hoC.take rfl (Nat.le_refl _) (c' := (pushS (ys.getD j yq0).pes l).length) (by omega) (Nat.le_refl _)
         rw [List.take_length] at hoC2
         have hlp : LpO τd base _ (⟨b, (ys.getD j yq0).nw, th, (AC0, (pushS (ys.getD j yq0).pes l).length, (pushS (ys.getD j yq0).pes l).length), ths, pushS (ys.getD j yq0).pes l⟩ : LpQ) := ⟨hth, hoC2.low (by omega)⟩
         have hto := own_tf ht.out hq (own_off hoo79 (by decide))
         have qap := hq
         obtain ⟨AR, cR, rfl, _⟩ := hrow.sl.form
         have z20 := hq.size
         replace hb10 := hb10.fr hq (fun hk => by have := hrowz _ hk; omega)
         replace hb14 := hb14.fr hq (fun hk => by have := hrowz _ hk; omega)
         replace hC := hC.step hq (fun k_ h_ _ => h_)
         have q20 := hq
         clear hq
         refine hd_next hC ?_
         refine hd_one 17 (by kernel_rfl) rfl ?_
         refine st_idxS (p := j) (E := encTq) h rfl rfl el29 (by omega) (by omega) (by omega) rfl ?_; clear h a; intro a h
         refine hd_next hC ?_
         refine hd_one 18 (by kernel_rfl) rfl ?_
         refine st_storeO (i := j) (((AR, ((ts.getD j tq0).2 ++ [(⟨b, (ys.getD j yq0).nw, th, (AC0, (pushS (ys.getD j yq0).pes l).length, (pushS (ys.getD j yq0).pes l).length), ths, pushS (ys.getD j yq0).pes l⟩ : LpQ)]).length, cR), ((ts.getD j tq0).2 ++ [(⟨b, (ys.getD j yq0).nw, th, (AC0, (pushS (ys.getD j yq0).pes l).length, (pushS (ys.getD j yq0).pes l).length), ths, pushS (ys.getD j yq0).pes l⟩ : LpQ)])) : TQ) h rfl rfl hto (by omega) rfl sz40 ?_; clear h a; intro w21 hto2 hq _hz a h
         have htN := ht.put τd_ok (u := (AR, ((ts.getD j tq0).2 ++ [(⟨b, (ys.getD j yq0).nw, th, (AC0, (pushS (ys.getD j yq0).pes l).length, (pushS (ys.getD j yq0).pes l).length), ths, pushS (ys.getD j yq0).pes l⟩ : LpQ)]).length, cR)) (by omega) hlp hrow qap hor79 hto2 hq
         have hyN := (hy.tf qap (own_off hoo79 (by decide)) (own_off hoo79 (by decide))).tf hq (own_off hto (by decide)) (own_off hto (by decide))
         have z21 := hq.size
         replace hb10 := hb10.fr hq (by first | (simp; done) | (simp; omega) | (simp [blks]; done) | (simp [blks]; omega))
         replace hb14 := hb14.fr hq (by first | (simp; done) | (simp; omega) | (simp [blks]; done) | (simp [blks]; omega))
         have q21 := hq
         have hbS := hb10
         clear hq _hz
         refine hd_past (by kernel_rfl) ?_
         refine hd_end (by kernel_rfl) ?_
         clear hC hk_b hy_b ht_b hth_b hb10_b hb14_b hoC_b hb15_b hrow_b
         refine bk (h.sub (L' := [(1, _), (10, _), (14, _)]) (.cons rfl (.cons rfl (.cons rfl .nil)))) ?_; clear h a
         refine tn (sr (mv rfl rfl (fad rfl fa111_0 rfl (s_loadB rfl hb14 rfl na3 rfl (s_lit (cs := [_, _]) (ev2 rfl rfl) bo39 (pok_cons rfl rfl rfl (pok_cons rfl rfl rfl pok_nil)) rfl rfl ?_)))))
         refine s_storeBA (vs := [_, _]) rfl rfl hb10 (by rfl) (by first | (simp [Value.oneCell', S]; done) | exact Enc.one _ _ | exact encYq.one (ys.getD j yq0)) sz39 (fun w22 hb10 q22 z22 => ?_)
         refine asg rfl rfl (kpL [(10, _), (11, _)] (.cons rfl (.cons rfl .nil)) (nn (rt (rCT Tryz.results29 rfl hb10 ag39 rfl ?_))))
         have hyF := hyN.tf q22 (OffT.one hbS (by decide)) (OffT.one hbS (by decide))
         have htF := TbO.tfI htN q22 (OffT.one hbS (by decide)) (OffT.one hbS (by decide)) (OffT.one hbS (by decide)) (fun i hi q hq k k1 k2 => by
           rw [List.mem_singleton] at k2; subst k2
           rcases put_mem (by omega) hi hq with ⟨i', h1, h2⟩ | e
           · have := hthz i' h1 q h2 _ k1; omega
           · subst e; have := hthw _ k1; omega)
         have hfrF : Fr ([gy] ++ ([gt] ++ blks (slv (ts.getD j tq0).1))) w0 w22 := (((((((((((((((((((((Fr.refl ([gy] ++ ([gt] ++ blks (slv (ts.getD j tq0).1))) _).next q1).next q2).step q3 (by first | (simp; done) | (simp; omega))).next q4).step q5 (by first | (simp; done) | (simp; omega))).next q7).next q8).step q9 (by first | (simp; done) | (simp; omega))).step q10 (by first | (simp; done) | (simp; omega))).next q12).step q13 (by first | (simp; done) | (simp; omega))).next q14).next q15).next q16).step q17 (by first | (simp; done) | (simp; omega))).next q18).next q19).step q20 (fun k k_ _ => List.mem_append.2 (.inr (List.mem_append.2 (.inr k_))))).step q21 (by first | (simp; done) | (simp; omega))).step q22 (by first | (simp; done) | (simp; omega)))
         exact ⟨_, rfl, (AR, ((ts.getD j tq0).2 ++ [(⟨b, (ys.getD j yq0).nw, th, (AC0, (pushS (ys.getD j yq0).pes l).length, (pushS (ys.getD j yq0).pes l).length), ths, pushS (ys.getD j yq0).pes l⟩ : LpQ)]).length, cR), (⟨b, (ys.getD j yq0).nw, th, (AC0, (pushS (ys.getD j yq0).pes l).length, (pushS (ys.getD j yq0).pes l).length), ths, pushS (ys.getD j yq0).pes l⟩ : LpQ), rfl, rfl, rfl, hyF, htF, hfrF⟩
       · refine id ?_
         refine st_alloc h zv58 rfl rfl ?_; clear h a; intro w23 hb15 hq hz a h
         obtain ⟨g_15, hg⟩ : ∃ g, g = w15.heap.size := ⟨_, rfl⟩; rw [← hg] at hb15 h hz
         have hn_4_15 : g14 < g_15 := by have := hb14.lt; omega
         have z23 := hq.size
         replace hoM := hoM.ext hq
         replace hb14 := hb14.ext hq
         replace hoC := hoC.ext hq
         replace hC := hC.next hq
         have q23 := hq
         clear hq
         refine hd_next hC ?_
         refine hd_one 7 (by kernel_rfl) rfl ?_
         refine st_call h (evs_cons rfl evs_nil) co51 (clippa_ok AC0 _ cC0 _ hcC0) rfl ?_; clear h a; rintro _ _ ⟨rfl, rfl⟩ a h
         refine hd_next hC ?_
         refine hd_lit (cs := [_, _, _, _]) 8 (by kernel_rfl) (by kernel_rfl) (by kernel_rfl) hC h wn (evs_cons rfl (evs_cons rfl (evs_cons rfl (evs_cons rfl evs_nil)))) bo58 (pok_cons rfl rfl rfl (pok_cons rfl rfl rfl (pok_cons rfl rfl rfl (pok_cons rfl rfl rfl pok_nil)))) rfl rfl rfl ?_; clear h a; intro a h
         refine hd_one 10 (by kernel_rfl) rfl ?_
         refine st_storeBA h rfl rfl hb15 rfl (by first | (simp [Value.oneCell', S]; done) | exact Enc.one _ _ | exact encYq.one (ys.getD j yq0)) sz58 ?_; clear h a; intro w24 hbn hq hz a h
         have z24 := hq.size
         replace hoM := hoM.fr hq (by intro k hk hb; simp at hk; subst hk; have h1_ := hLb _ hb; have := hoM.blk _ hb; omega)
         replace hb14 := hb14.fr hq (by first | (simp; done) | (simp; omega) | (simp [blks]; done) | (simp [blks]; omega))
         replace hoC := hoC.fr hq (by intro k hk hb; simp at hk; subst hk; have h1_ := hLc _ hb; have := hoC.blk _ hb; omega)
         replace hC := hC.step hq (by first | (simp; done) | (simp; omega))
         have q24 := hq
         clear hb15 hq hz; have hb15 : Blk w24 g_15 _ [_, _, _, _] := hbn; clear hbn
         refine hd_next hC ?_
         refine hd_end (by kernel_rfl) ?_
         clear hC hoM_b hb14_b
         replace ht := ht0.ext (((q14.next q15).next q23).step q24 (by first | (simp; done) | (simp; omega)))
         have hrow := ht.ins j (by omega)
         have hrow0 := hrow
         refine bk (h.sub (L' := [(0, _), (1, _), (10, _), (14, _), (15, _)]) (.cons rfl (.cons rfl (.cons rfl (.cons rfl (.cons rfl .nil)))))) ?_; clear h a
         refine tn (sq ?_)
         replace hk := (hk.ext ((q14.next q15).next q23)).fr q24 (by first | (simp; done) | (simp; omega) | (simp [blks]; done) | (simp [blks]; omega))
         replace hy := hy0.ext (((q14.next q15).next q23).step q24 (by first | (simp; done) | (simp; omega)))
         replace hth := hth0.ext (((q14.next q15).next q23).step q24 (by first | (simp; done) | (simp; omega)))
         replace hb10 := (hb10.ext ((q14.next q15).next q23)).fr q24 (by first | (simp; done) | (simp; omega) | (simp [blks]; done) | (simp [blks]; omega))
         intro a h
         refine region_heldP (some 18) (fun wb w' => Fr (blks (slv (ts.getD j tq0).1)) wb w') hmix ?_; intro w25 hq
         have z25 := hq.size
         replace hk := hk.ext hq
         replace hy := hy.ext hq
         replace ht := ht.ext hq
         replace hth := hth.ext hq
         replace hb10 := hb10.ext hq
         replace hb14 := hb14.ext hq
         replace hoC := hoC.ext hq
         replace hb15 := hb15.ext hq
         replace hrow := hrow.ext hq
         have q25 := hq
         clear hq; have hC : Fr (blks (slv (ts.getD j tq0).1)) w25 w25 := Fr.refl _ _
         have hk_b := hk
         have hy_b := hy
         have ht_b := ht
         have hth_b := hth
         have hb10_b := hb10
         have hb14_b := hb14
         have hoC_b := hoC
         have hb15_b := hb15
         have hrow_b := hrow
         refine hd_move 0 (by kernel_rfl) (by kernel_rfl) (by kernel_rfl) hC h wn rfl rfl rfl ?_; clear h a; intro a h
         refine hd_nilCheck 1 (by kernel_rfl) (by kernel_rfl) (by kernel_rfl) hC h wn rfl rfl rfl ?_; clear h a; intro a h
         refine hd_fieldAddr 2 (by kernel_rfl) (by kernel_rfl) (by kernel_rfl) hC h wn rfl fa50_1 rfl rfl ?_; clear h a; intro a h
         refine hd_loadB 3 (by kernel_rfl) (by kernel_rfl) (by kernel_rfl) hC h wn rfl (fun _ hw => hk_b.fr hw (fun k_ => Own.neB hrow_b hk_b (by decide) k_)) rfl na29 rfl rfl ?_; clear h a; intro a h
         refine hd_move 4 (by kernel_rfl) (by kernel_rfl) (by kernel_rfl) hC h wn rfl rfl rfl ?_; clear h a; intro a h
         refine hd_sub 5 (by kernel_rfl) (by kernel_rfl) (by kernel_rfl) hC h wn rfl rfl (by first | exact IntWalk.u8_in _ (by omega) | rfl) rfl rfl ?_; clear h a; intro a h
         refine hd_move 6 (by kernel_rfl) (by kernel_rfl) (by kernel_rfl) hC h wn rfl rfl rfl ?_; clear h a; intro a h
         refine hd_nilCheck 7 (by kernel_rfl) (by kernel_rfl) (by kernel_rfl) hC h wn rfl rfl rfl ?_; clear h a; intro a h
         refine hd_fieldAddr 8 (by kernel_rfl) (by kernel_rfl) (by kernel_rfl) hC h wn rfl fa50_1 rfl rfl ?_; clear h a; intro a h
         refine hd_loadB 9 (by kernel_rfl) (by kernel_rfl) (by kernel_rfl) hC h wn rfl (fun _ hw => hk_b.fr hw (fun k_ => Own.neB hrow_b hk_b (by decide) k_)) rfl na29 rfl rfl ?_; clear h a; intro a h
         refine hd_move 10 (by kernel_rfl) (by kernel_rfl) (by kernel_rfl) hC h wn rfl rfl rfl ?_; clear h a; intro a h
         refine hd_sub 11 (by kernel_rfl) (by kernel_rfl) (by kernel_rfl) hC h wn rfl rfl (by first | exact IntWalk.u8_in _ (by omega) | rfl) rfl rfl ?_; clear h a; intro a h
         refine hd_idxL (p := j) (tq0) 12 (by kernel_rfl) (by kernel_rfl) (by kernel_rfl) hC h wn rfl ht.out.sl rfl el29 (by omega) (by omega) (by omega) rfl rfl ?_; clear h a; intro ad75 hc75 a h
         refine hd_loadC0 13 (by kernel_rfl) (by kernel_rfl) (by kernel_rfl) hC h wn rfl (fun _ hw => hc75 _ (own_tf ht_b.out hw (own_off hrow_b (by decide))).sl) na40 rfl rfl ?_; clear h a; intro a h
         refine hd_loadBA 14 (by kernel_rfl) (by kernel_rfl) (by kernel_rfl) hC h wn rfl (fun _ hw => hb15_b.fr hw (fun k_ => by have := hrowz _ k_; omega)) ag58 rfl rfl ?_; clear h a; intro a h
         refine hd_one 15 (by kernel_rfl) rfl ?_
         refine st_bslice ([(⟨b, (ys.getD j yq0).nw, th, (AC0, (pushS (ys.getD j yq0).pes l).length, (pushS (ys.getD j yq0).pes l).length), ths, pushS (ys.getD j yq0).pes l⟩ : LpQ)]) h (evs_cons rfl evs_nil) rfl rfl rfl el40 (Nat.le_of_ble_eq_true rfl) rfl ?_; clear h a; intro g_78 w26 hg ho78 hq hz a h
         have hn__78 : gk < g_78 := by have := hk.lt; omega
         have hn_0_78 : g10 < g_78 := by have := hb10.lt; omega
         have hn_4_78 : g14 < g_78 := by have := hb14.lt; omega
         have hn_15_78 : g_15 < g_78 := by have := hb15.lt; omega
         have z26 := hq.size
         replace hk := hk.ext hq
         replace hy := hy.ext hq
         replace ht := ht.ext hq
         replace hth := hth.ext hq
         replace hb10 := hb10.ext hq
         replace hb14 := hb14.ext hq
         replace hoC := hoC.ext hq
         replace hb15 := hb15.ext hq
         replace hrow := hrow.ext hq
         replace hC := hC.next hq
         have q26 := hq
         clear hq
         refine hd_next hC ?_
         refine hd_one 16 (by kernel_rfl) rfl ?_
         have hoo79 := hrow
         refine st_append h rfl rfl hrow ho78.sl el40 (by unfold maxLen; simp only [List.length_cons, List.length_nil]; omega) (by simp only [List.length_cons, List.length_nil]; omega) (by omega) rfl ?_; clear h a; intro v79 w27 hrow hq hor79 a h
         have hoC2 := hoC.take rfl (Nat.le_refl _) (c' := (pushS (ys.getD j yq0).pes l).length) (by omega) (Nat.le_refl _)
         rw [List.take_length] at hoC2
         have hlp : LpO τd base _ (⟨b, (ys.getD j yq0).nw, th, (AC0, (pushS (ys.getD j yq0).pes l).length, (pushS (ys.getD j yq0).pes l).length), ths, pushS (ys.getD j yq0).pes l⟩ : LpQ) := ⟨hth, hoC2.low (by omega)⟩
         have hto := own_tf ht.out hq (own_off hoo79 (by decide))
         have qap := hq
         obtain ⟨AR, cR, rfl, _⟩ := hrow.sl.form
         have z27 := hq.size
         replace hb10 := hb10.fr hq (fun hk => by have := hrowz _ hk; omega)
         replace hb14 := hb14.fr hq (fun hk => by have := hrowz _ hk; omega)
         replace hC := hC.step hq (fun k_ h_ _ => h_)
         have q27 := hq
         clear hq
         refine hd_next hC ?_
         refine hd_one 17 (by kernel_rfl) rfl ?_
         refine st_idxS (p := j) (E := encTq) h rfl rfl el29 (by omega) (by omega) (by omega) rfl ?_; clear h a; intro a h
         refine hd_next hC ?_
         refine hd_one 18 (by kernel_rfl) rfl ?_
         refine st_storeO (i := j) (((AR, ((ts.getD j tq0).2 ++ [(⟨b, (ys.getD j yq0).nw, th, (AC0, (pushS (ys.getD j yq0).pes l).length, (pushS (ys.getD j yq0).pes l).length), ths, pushS (ys.getD j yq0).pes l⟩ : LpQ)]).length, cR), ((ts.getD j tq0).2 ++ [(⟨b, (ys.getD j yq0).nw, th, (AC0, (pushS (ys.getD j yq0).pes l).length, (pushS (ys.getD j yq0).pes l).length), ths, pushS (ys.getD j yq0).pes l⟩ : LpQ)])) : TQ) h rfl rfl hto (by omega) rfl sz40 ?_; clear h a; intro w28 hto2 hq _hz a h
         have htN := ht.put τd_ok (u := (AR, ((ts.getD j tq0).2 ++ [(⟨b, (ys.getD j yq0).nw, th, (AC0, (pushS (ys.getD j yq0).pes l).length, (pushS (ys.getD j yq0).pes l).length), ths, pushS (ys.getD j yq0).pes l⟩ : LpQ)]).length, cR)) (by omega) hlp hrow qap hor79 hto2 hq
         have hyN := (hy.tf qap (own_off hoo79 (by decide)) (own_off hoo79 (by decide))).tf hq (own_off hto (by decide)) (own_off hto (by decide))
         have z28 := hq.size
         replace hb10 := hb10.fr hq (by first | (simp; done) | (simp; omega) | (simp [blks]; done) | (simp [blks]; omega))
         replace hb14 := hb14.fr hq (by first | (simp; done) | (simp; omega) | (simp [blks]; done) | (simp [blks]; omega))
         have q28 := hq
         have hbS := hb10
         clear hq _hz
         refine hd_past (by kernel_rfl) ?_
         refine hd_end (by kernel_rfl) ?_
         clear hC hk_b hy_b ht_b hth_b hb10_b hb14_b hoC_b hb15_b hrow_b
         refine bk (h.sub (L' := [(1, _), (10, _), (14, _)]) (.cons rfl (.cons rfl (.cons rfl .nil)))) ?_; clear h a
         refine tn (sr (mv rfl rfl (fad rfl fa111_0 rfl (s_loadB rfl hb14 rfl na3 rfl (s_lit (cs := [_, _]) (ev2 rfl rfl) bo39 (pok_cons rfl rfl rfl (pok_cons rfl rfl rfl pok_nil)) rfl rfl ?_)))))
         refine s_storeBA (vs := [_, _]) rfl rfl hb10 (by rfl) (by first | (simp [Value.oneCell', S]; done) | exact Enc.one _ _ | exact encYq.one (ys.getD j yq0)) sz39 (fun w29 hb10 q29 z29 => ?_)
         refine asg rfl rfl (kpL [(10, _), (11, _)] (.cons rfl (.cons rfl .nil)) (nn (rt (rCT Tryz.results29 rfl hb10 ag39 rfl ?_))))
         have hyF := hyN.tf q29 (OffT.one hbS (by decide)) (OffT.one hbS (by decide))
         have htF := TbO.tfI htN q29 (OffT.one hbS (by decide)) (OffT.one hbS (by decide)) (OffT.one hbS (by decide)) (fun i hi q hq k k1 k2 => by
           rw [List.mem_singleton] at k2; subst k2
           rcases put_mem (by omega) hi hq with ⟨i', h1, h2⟩ | e
           · have := hthz i' h1 q h2 _ k1; omega
           · subst e; have := hthw _ k1; omega)
         have hfrF : Fr ([gy] ++ ([gt] ++ blks (slv (ts.getD j tq0).1))) w0 w29 := (((((((((((((((((((((Fr.refl ([gy] ++ ([gt] ++ blks (slv (ts.getD j tq0).1))) _).next q1).next q2).step q3 (by first | (simp; done) | (simp; omega))).next q4).step q5 (by first | (simp; done) | (simp; omega))).next q7).next q8).step q9 (by first | (simp; done) | (simp; omega))).step q10 (by first | (simp; done) | (simp; omega))).next q12).step q13 (by first | (simp; done) | (simp; omega))).next q14).next q15).next q23).step q24 (by first | (simp; done) | (simp; omega))).next q25).next q26).step q27 (fun k k_ _ => List.mem_append.2 (.inr (List.mem_append.2 (.inr k_))))).step q28 (by first | (simp; done) | (simp; omega))).step q29 (by first | (simp; done) | (simp; omega)))
         exact ⟨_, rfl, (AR, ((ts.getD j tq0).2 ++ [(⟨b, (ys.getD j yq0).nw, th, (AC0, (pushS (ys.getD j yq0).pes l).length, (pushS (ys.getD j yq0).pes l).length), ths, pushS (ys.getD j yq0).pes l⟩ : LpQ)]).length, cR), (⟨b, (ys.getD j yq0).nw, th, (AC0, (pushS (ys.getD j yq0).pes l).length, (pushS (ys.getD j yq0).pes l).length), ths, pushS (ys.getD j yq0).pes l⟩ : LpQ), rfl, rfl, rfl, hyF, htF, hfrF⟩
     · refine id ?_
       refine st_alloc h zv58 rfl rfl ?_; clear h a; intro w30 hb15 hq hz a h
       obtain ⟨g_15, hg⟩ : ∃ g, g = w14.heap.size := ⟨_, rfl⟩; rw [← hg] at hb15 h hz
       have hn_4_15 : g14 < g_15 := by have := hb14.lt; omega
       have z30 := hq.size
       replace hoM := hoM.ext hq
       replace hb14 := hb14.ext hq
       replace hC := hC.next hq
       have q30 := hq
       clear hq
       refine hd_next hC ?_
       refine hd_one 6 (by kernel_rfl) rfl ?_
       refine st_call h (evs_cons rfl evs_nil) co52 (clonepa_ok _ (pushS (ys.getD j yq0).pes l) _ hoM.sl (by omega)) rfl ?_; clear h a; rintro V60 w31 ⟨hoC, hq⟩ a h
       have z31 := hq.size
       replace hoM := hoM.ext hq
       replace hb14 := hb14.ext hq
       replace hb15 := hb15.ext hq
       replace hC := hC.next hq
       have q31 := hq
       obtain ⟨AC0, cC0, rfl, hcC0⟩ := hoC.sl.form
       have hLc := fun k hk => (hoC.blk k hk).2
       refine hd_next hC ?_
       refine hd_one 7 (by kernel_rfl) rfl ?_
       refine st_call h (evs_cons rfl evs_nil) co51 (clippa_ok AC0 _ cC0 _ hcC0) rfl ?_; clear h a; rintro _ _ ⟨rfl, rfl⟩ a h
       refine hd_next hC ?_
       refine hd_lit (cs := [_, _, _, _]) 8 (by kernel_rfl) (by kernel_rfl) (by kernel_rfl) hC h wn (evs_cons rfl (evs_cons rfl (evs_cons rfl (evs_cons rfl evs_nil)))) bo58 (pok_cons rfl rfl rfl (pok_cons rfl rfl rfl (pok_cons rfl rfl rfl (pok_cons rfl rfl rfl pok_nil)))) rfl rfl rfl ?_; clear h a; intro a h
       refine hd_one 10 (by kernel_rfl) rfl ?_
       refine st_storeBA h rfl rfl hb15 rfl (by first | (simp [Value.oneCell', S]; done) | exact Enc.one _ _ | exact encYq.one (ys.getD j yq0)) sz58 ?_; clear h a; intro w32 hbn hq hz a h
       have z32 := hq.size
       replace hoM := hoM.fr hq (by intro k hk hb; simp at hk; subst hk; have h1_ := hLb _ hb; have := hoM.blk _ hb; omega)
       replace hb14 := hb14.fr hq (by first | (simp; done) | (simp; omega) | (simp [blks]; done) | (simp [blks]; omega))
       replace hoC := hoC.fr hq (by intro k hk hb; simp at hk; subst hk; have h1_ := hLc _ hb; have := hoC.blk _ hb; omega)
       replace hC := hC.step hq (by first | (simp; done) | (simp; omega))
       have q32 := hq
       clear hb15 hq hz; have hb15 : Blk w32 g_15 _ [_, _, _, _] := hbn; clear hbn
       refine hd_next hC ?_
       refine hd_end (by kernel_rfl) ?_
       clear hC hoM_b hb14_b
       replace ht := ht0.ext (((q14.next q30).next q31).step q32 (by first | (simp; done) | (simp; omega)))
       have hrow := ht.ins j (by omega)
       have hrow0 := hrow
       refine bk (h.sub (L' := [(0, _), (1, _), (10, _), (14, _), (15, _)]) (.cons rfl (.cons rfl (.cons rfl (.cons rfl (.cons rfl .nil)))))) ?_; clear h a
       refine tn (sq ?_)
       replace hk := (hk.ext ((q14.next q30).next q31)).fr q32 (by first | (simp; done) | (simp; omega) | (simp [blks]; done) | (simp [blks]; omega))
       replace hy := hy0.ext (((q14.next q30).next q31).step q32 (by first | (simp; done) | (simp; omega)))
       replace hth := hth0.ext (((q14.next q30).next q31).step q32 (by first | (simp; done) | (simp; omega)))
       replace hb10 := (hb10.ext ((q14.next q30).next q31)).fr q32 (by first | (simp; done) | (simp; omega) | (simp [blks]; done) | (simp [blks]; omega))
       intro a h
       refine region_heldP (some 18) (fun wb w' => Fr (blks (slv (ts.getD j tq0).1)) wb w') hmix ?_; intro w33 hq
       have z33 := hq.size
       replace hk := hk.ext hq
       replace hy := hy.ext hq
       replace ht := ht.ext hq
       replace hth := hth.ext hq
       replace hb10 := hb10.ext hq
       replace hb14 := hb14.ext hq
       replace hb15 := hb15.ext hq
       replace hoC := hoC.ext hq
       replace hrow := hrow.ext hq
       have q33 := hq
       clear hq; have hC : Fr (blks (slv (ts.getD j tq0).1)) w33 w33 := Fr.refl _ _
       have hk_b := hk
       have hy_b := hy
       have ht_b := ht
       have hth_b := hth
       have hb10_b := hb10
       have hb14_b := hb14
       have hb15_b := hb15
       have hoC_b := hoC
       have hrow_b := hrow
       refine hd_move 0 (by kernel_rfl) (by kernel_rfl) (by kernel_rfl) hC h wn rfl rfl rfl ?_; clear h a; intro a h
       refine hd_nilCheck 1 (by kernel_rfl) (by kernel_rfl) (by kernel_rfl) hC h wn rfl rfl rfl ?_; clear h a; intro a h
       refine hd_fieldAddr 2 (by kernel_rfl) (by kernel_rfl) (by kernel_rfl) hC h wn rfl fa50_1 rfl rfl ?_; clear h a; intro a h
       refine hd_loadB 3 (by kernel_rfl) (by kernel_rfl) (by kernel_rfl) hC h wn rfl (fun _ hw => hk_b.fr hw (fun k_ => Own.neB hrow_b hk_b (by decide) k_)) rfl na29 rfl rfl ?_; clear h a; intro a h
       refine hd_move 4 (by kernel_rfl) (by kernel_rfl) (by kernel_rfl) hC h wn rfl rfl rfl ?_; clear h a; intro a h
       refine hd_sub 5 (by kernel_rfl) (by kernel_rfl) (by kernel_rfl) hC h wn rfl rfl (by first | exact IntWalk.u8_in _ (by omega) | rfl) rfl rfl ?_; clear h a; intro a h
       refine hd_move 6 (by kernel_rfl) (by kernel_rfl) (by kernel_rfl) hC h wn rfl rfl rfl ?_; clear h a; intro a h
       refine hd_nilCheck 7 (by kernel_rfl) (by kernel_rfl) (by kernel_rfl) hC h wn rfl rfl rfl ?_; clear h a; intro a h
       refine hd_fieldAddr 8 (by kernel_rfl) (by kernel_rfl) (by kernel_rfl) hC h wn rfl fa50_1 rfl rfl ?_; clear h a; intro a h
       refine hd_loadB 9 (by kernel_rfl) (by kernel_rfl) (by kernel_rfl) hC h wn rfl (fun _ hw => hk_b.fr hw (fun k_ => Own.neB hrow_b hk_b (by decide) k_)) rfl na29 rfl rfl ?_; clear h a; intro a h
       refine hd_move 10 (by kernel_rfl) (by kernel_rfl) (by kernel_rfl) hC h wn rfl rfl rfl ?_; clear h a; intro a h
       refine hd_sub 11 (by kernel_rfl) (by kernel_rfl) (by kernel_rfl) hC h wn rfl rfl (by first | exact IntWalk.u8_in _ (by omega) | rfl) rfl rfl ?_; clear h a; intro a h
       refine hd_idxL (p := j) (tq0) 12 (by kernel_rfl) (by kernel_rfl) (by kernel_rfl) hC h wn rfl ht.out.sl rfl el29 (by omega) (by omega) (by omega) rfl rfl ?_; clear h a; intro ad75 hc75 a h
       refine hd_loadC0 13 (by kernel_rfl) (by kernel_rfl) (by kernel_rfl) hC h wn rfl (fun _ hw => hc75 _ (own_tf ht_b.out hw (own_off hrow_b (by decide))).sl) na40 rfl rfl ?_; clear h a; intro a h
       refine hd_loadBA 14 (by kernel_rfl) (by kernel_rfl) (by kernel_rfl) hC h wn rfl (fun _ hw => hb15_b.fr hw (fun k_ => by have := hrowz _ k_; omega)) ag58 rfl rfl ?_; clear h a; intro a h
       refine hd_one 15 (by kernel_rfl) rfl ?_
       refine st_bslice ([(⟨b, (ys.getD j yq0).nw, th, (AC0, (pushS (ys.getD j yq0).pes l).length, (pushS (ys.getD j yq0).pes l).length), ths, pushS (ys.getD j yq0).pes l⟩ : LpQ)]) h (evs_cons rfl evs_nil) rfl rfl rfl el40 (Nat.le_of_ble_eq_true rfl) rfl ?_; clear h a; intro g_78 w34 hg ho78 hq hz a h
       have hn__78 : gk < g_78 := by have := hk.lt; omega
       have hn_0_78 : g10 < g_78 := by have := hb10.lt; omega
       have hn_4_78 : g14 < g_78 := by have := hb14.lt; omega
       have hn_15_78 : g_15 < g_78 := by have := hb15.lt; omega
       have z34 := hq.size
       replace hk := hk.ext hq
       replace hy := hy.ext hq
       replace ht := ht.ext hq
       replace hth := hth.ext hq
       replace hb10 := hb10.ext hq
       replace hb14 := hb14.ext hq
       replace hb15 := hb15.ext hq
       replace hoC := hoC.ext hq
       replace hrow := hrow.ext hq
       replace hC := hC.next hq
       have q34 := hq
       clear hq
       refine hd_next hC ?_
       refine hd_one 16 (by kernel_rfl) rfl ?_
       have hoo79 := hrow
       refine st_append h rfl rfl hrow ho78.sl el40 (by unfold maxLen; simp only [List.length_cons, List.length_nil]; omega) (by simp only [List.length_cons, List.length_nil]; omega) (by omega) rfl ?_; clear h a; intro v79 w35 hrow hq hor79 a h
       have hoC2 := hoC.take rfl (Nat.le_refl _) (c' := (pushS (ys.getD j yq0).pes l).length) (by omega) (Nat.le_refl _)
       rw [List.take_length] at hoC2
       have hlp : LpO τd base _ (⟨b, (ys.getD j yq0).nw, th, (AC0, (pushS (ys.getD j yq0).pes l).length, (pushS (ys.getD j yq0).pes l).length), ths, pushS (ys.getD j yq0).pes l⟩ : LpQ) := ⟨hth, hoC2.low (by omega)⟩
       have hto := own_tf ht.out hq (own_off hoo79 (by decide))
       have qap := hq
       obtain ⟨AR, cR, rfl, _⟩ := hrow.sl.form
       have z35 := hq.size
       replace hb10 := hb10.fr hq (fun hk => by have := hrowz _ hk; omega)
       replace hb14 := hb14.fr hq (fun hk => by have := hrowz _ hk; omega)
       replace hC := hC.step hq (fun k_ h_ _ => h_)
       have q35 := hq
       clear hq
       refine hd_next hC ?_
       refine hd_one 17 (by kernel_rfl) rfl ?_
       refine st_idxS (p := j) (E := encTq) h rfl rfl el29 (by omega) (by omega) (by omega) rfl ?_; clear h a; intro a h
       refine hd_next hC ?_
       refine hd_one 18 (by kernel_rfl) rfl ?_
       refine st_storeO (i := j) (((AR, ((ts.getD j tq0).2 ++ [(⟨b, (ys.getD j yq0).nw, th, (AC0, (pushS (ys.getD j yq0).pes l).length, (pushS (ys.getD j yq0).pes l).length), ths, pushS (ys.getD j yq0).pes l⟩ : LpQ)]).length, cR), ((ts.getD j tq0).2 ++ [(⟨b, (ys.getD j yq0).nw, th, (AC0, (pushS (ys.getD j yq0).pes l).length, (pushS (ys.getD j yq0).pes l).length), ths, pushS (ys.getD j yq0).pes l⟩ : LpQ)])) : TQ) h rfl rfl hto (by omega) rfl sz40 ?_; clear h a; intro w36 hto2 hq _hz a h
       have htN := ht.put τd_ok (u := (AR, ((ts.getD j tq0).2 ++ [(⟨b, (ys.getD j yq0).nw, th, (AC0, (pushS (ys.getD j yq0).pes l).length, (pushS (ys.getD j yq0).pes l).length), ths, pushS (ys.getD j yq0).pes l⟩ : LpQ)]).length, cR)) (by omega) hlp hrow qap hor79 hto2 hq
       have hyN := (hy.tf qap (own_off hoo79 (by decide)) (own_off hoo79 (by decide))).tf hq (own_off hto (by decide)) (own_off hto (by decide))
       have z36 := hq.size
       replace hb10 := hb10.fr hq (by first | (simp; done) | (simp; omega) | (simp [blks]; done) | (simp [blks]; omega))
       replace hb14 := hb14.fr hq (by first | (simp; done) | (simp; omega) | (simp [blks]; done) | (simp [blks]; omega))
       have q36 := hq
       have hbS := hb10
       clear hq _hz
       refine hd_past (by kernel_rfl) ?_
       refine hd_end (by kernel_rfl) ?_
       clear hC hk_b hy_b ht_b hth_b hb10_b hb14_b hb15_b hoC_b hrow_b
       refine bk (h.sub (L' := [(1, _), (10, _), (14, _)]) (.cons rfl (.cons rfl (.cons rfl .nil)))) ?_; clear h a
       refine tn (sr (mv rfl rfl (fad rfl fa111_0 rfl (s_loadB rfl hb14 rfl na3 rfl (s_lit (cs := [_, _]) (ev2 rfl rfl) bo39 (pok_cons rfl rfl rfl (pok_cons rfl rfl rfl pok_nil)) rfl rfl ?_)))))
       refine s_storeBA (vs := [_, _]) rfl rfl hb10 (by rfl) (by first | (simp [Value.oneCell', S]; done) | exact Enc.one _ _ | exact encYq.one (ys.getD j yq0)) sz39 (fun w37 hb10 q37 z37 => ?_)
       refine asg rfl rfl (kpL [(10, _), (11, _)] (.cons rfl (.cons rfl .nil)) (nn (rt (rCT Tryz.results29 rfl hb10 ag39 rfl ?_))))
       have hyF := hyN.tf q37 (OffT.one hbS (by decide)) (OffT.one hbS (by decide))
       have htF := TbO.tfI htN q37 (OffT.one hbS (by decide)) (OffT.one hbS (by decide)) (OffT.one hbS (by decide)) (fun i hi q hq k k1 k2 => by
         rw [List.mem_singleton] at k2; subst k2
         rcases put_mem (by omega) hi hq with ⟨i', h1, h2⟩ | e
         · have := hthz i' h1 q h2 _ k1; omega
         · subst e; have := hthw _ k1; omega)
       have hfrF : Fr ([gy] ++ ([gt] ++ blks (slv (ts.getD j tq0).1))) w0 w37 := (((((((((((((((((((((Fr.refl ([gy] ++ ([gt] ++ blks (slv (ts.getD j tq0).1))) _).next q1).next q2).step q3 (by first | (simp; done) | (simp; omega))).next q4).step q5 (by first | (simp; done) | (simp; omega))).next q7).next q8).step q9 (by first | (simp; done) | (simp; omega))).step q10 (by first | (simp; done) | (simp; omega))).next q12).step q13 (by first | (simp; done) | (simp; omega))).next q14).next q30).next q31).step q32 (by first | (simp; done) | (simp; omega))).next q33).next q34).step q35 (fun k k_ _ => List.mem_append.2 (.inr (List.mem_append.2 (.inr k_))))).step q36 (by first | (simp; done) | (simp; omega))).step q37 (by first | (simp; done) | (simp; omega)))
       exact ⟨_, rfl, (AR, ((ts.getD j tq0).2 ++ [(⟨b, (ys.getD j yq0).nw, th, (AC0, (pushS (ys.getD j yq0).pes l).length, (pushS (ys.getD j yq0).pes l).length), ths, pushS (ys.getD j yq0).pes l⟩ : LpQ)]).length, cR), (⟨b, (ys.getD j yq0).nw, th, (AC0, (pushS (ys.getD j yq0).pes l).length, (pushS (ys.getD j yq0).pes l).length), ths, pushS (ys.getD j yq0).pes l⟩ : LpQ), rfl, rfl, rfl, hyF, htF, hfrF⟩
end Go.Proofs.YtkionldalpijpaaGreatDoor
namespace Go.Proofs.YtkionldalpijpaaGreatDoor
open Go.Lw Go.G21

def ixH (d : Int) (n k : Nat) : Int := if d = 0 then (n : Int) - 1 - (k : Int) else (k : Int)
theorem half_ok (n f : Nat) (d : Int) (ws : List Value) (I : Nat → World → Prop) (w0 : World) (hn : n ≤ 1000) (hf : CallOf Tryz.prog f) (h0 : I 0 w0) (hstep : ∀ k w, k < n → I k w → Rets Tryz.prog f (Value.int .i64 (ixH d n k) :: ws).toArray w fun r w' => r = .int .i64 0 ∧ I (k + 1) w') : Rets Tryz.prog 26 #[.int .i64 (n : Int), .int .u8 d, .func (.func f) #[] ws.toArray] w0 fun r w' => r = .int .i64 0 ∧ I n w' := by
 refine we [(0, .int .i64 (n : Int)), (1, .int .u8 d), (2, .func (.func f) #[] ws.toArray)] Tryz.func26 rfl Tryz.ntmps26 rfl (.cons rfl (.cons rfl (.cons rfl .nil))) ?_
 refine sr (asg rfl rfl (nn (sq (sr (mv rfl rfl (mv rfl rfl (nn (bl ?_))))))))
 refine lpK (ι := Nat) [(0, _), (1, _), (2, _), (9, _)] (fun k => [(10, .int .i64 (k : Int))]) (fun k w' => k ≤ n ∧ I k w') (fun k => n - k) 0 (.cons rfl (.cons rfl (.cons rfl (.cons rfl (.cons rfl .nil))))) ⟨Nat.zero_le _, h0⟩ ?_
 rintro k w1 ⟨hi, hI⟩
 refine kpC [(0, _), (1, _), (2, _), (9, _), (10, _)] (.cons rfl (.cons rfl (.cons rfl (.cons rfl (.cons rfl .nil))))) ?_
 refine sr (lt' rfl rfl rfl (nn (sq ?_)))
 refine cd rfl (fun c0 => ?_) (fun c0 => ?_)
 · refine sk (tn (sq (bl (sr (mv rfl rfl (asg rfl rfl (nn (sq (sr (mv rfl rfl (eq' rfl rfl rfl ?_)))))))))))
   refine nn ?_
   refine cd rfl (fun c1 => ?_) (fun c1 => ?_)
   · refine rg (mv rfl rfl (s_sub rfl rfl (wi6 (by omega)) rfl (mv rfl rfl (s_sub rfl rfl (wi6 (by omega)) rfl (asg rfl rfl (nl (tn (sr (mv rfl rfl (mv rfl rfl ?_))))))))))
     refine clv (us := []) (ws := ws) rfl (ev1 rfl) hf (by have hst := hstep k _ (by omega) hI; rw [ixH, if_pos c1] at hst; exact hst) rfl (by intro g e; cases e) ?_
     rintro _ w2 ⟨rfl, hI⟩
     refine asg rfl rfl (nn (sr (mv rfl rfl (ne' rfl rfl rfl (nn ?_)))))
     refine cd rfl (fun c2 => ?_) (fun c2 => ?_)
     · refine sr (mv rfl rfl (asg rfl rfl (kpL [(6, _)] (.cons rfl .nil) (nn (rt (rb (tr (tr (rb (tr (r1 Tryz.results26 rfl ?_)))))))))))
       exact absurd rfl c2
     · refine sk (bn' (tn (rg (s_add rfl rfl (wi6 (by omega)) rfl (mv rfl rfl (nl ?_))))))
       exact lpE (k + 1) (.cons rfl (.cons rfl (.cons rfl (.cons rfl (.cons rfl .nil))))) ⟨by omega, hI⟩ (by omega)
   · refine sk (tn (sr (mv rfl rfl (mv rfl rfl ?_))))
     refine clv (us := []) (ws := ws) rfl (ev1 rfl) hf (by have hst := hstep k _ (by omega) hI; rw [ixH, if_neg c1] at hst; exact hst) rfl (by intro g e; cases e) ?_
     rintro _ w3 ⟨rfl, hI⟩
     refine asg rfl rfl (nn (sr (mv rfl rfl (ne' rfl rfl rfl (nn ?_)))))
     refine cd rfl (fun c2 => ?_) (fun c2 => ?_)
     · refine sr (mv rfl rfl (asg rfl rfl (kpL [(6, _)] (.cons rfl .nil) (nn (rt (rb (tr (tr (rb (tr (r1 Tryz.results26 rfl ?_)))))))))))
       exact absurd rfl c2
     · refine sk (bn' (tn (rg (s_add rfl rfl (wi6 (by omega)) rfl (mv rfl rfl (nl ?_))))))
       exact lpE (k + 1) (.cons rfl (.cons rfl (.cons rfl (.cons rfl (.cons rfl .nil))))) ⟨by omega, hI⟩ (by omega)
 · refine ex (te (te (xh (tn (sr (asg rfl rfl (kpL [(6, _)] (.cons rfl .nil) (nn (rt (r1 Tryz.results26 rfl ?_))))))))))
   obtain rfl : k = n := by omega
   exact ⟨_, rfl, rfl, hI⟩
end Go.Proofs.YtkionldalpijpaaGreatDoor
namespace Go.Proofs.YtkionldalpijpaaGreatDoor
open Go.Lw Go.G21
theorem bo81 : BuildAt Tryz.prog 81 [(0, 1), (1, 1)] [(.int .u8 0), (.slice none 0 0)] := BuildAt.struct Tryz.underlying81 (fun _ => by kernel_rfl) (fun _ => by kernel_rfl)
theorem co28 : CallOf Tryz.prog 28 := CallOf.mk' Tryz.func28 (by kernel_rfl) (by kernel_rfl)
theorem co29 : CallOf Tryz.prog 29 := CallOf.mk' Tryz.func29 (by kernel_rfl) (by kernel_rfl)
theorem fa50_2 : FieldAt Tryz.prog 50 2 2 := fun _ _ => by kernel_rfl
theorem fa50_3 : FieldAt Tryz.prog 50 3 3 := fun _ _ => by kernel_rfl
theorem na46 : NotAgg Tryz.prog 46 := fun _ => by kernel_rfl
theorem na48 : NotAgg Tryz.prog 48 := fun _ => by kernel_rfl
theorem ktd : KtOk τd 50 := ⟨τd_ok, by decide, by decide, by decide, by decide⟩
theorem sq1 {w : World} {q : SlQ} (h : Sl encId w (slv q.h) q.ids) : SqAt w [q] := fun p hp => by rw [List.mem_singleton.1 hp]; exact h
theorem off_mem {w : World} {T g : Nat} {S : List Nat} {cs : List Value} (h : Blk w g T cs) (hS : OffT w T S) : g ∉ S := fun hk => by
  obtain ⟨T', cs', h1, h2⟩ := hS g hk
  have e := (show w.heap[g]? = some (.cells cs.toArray T (0, 0)) from h).symm.trans (show w.heap[g]? = some (.cells cs'.toArray T' (0, 0)) from h1)
  simp only [Option.some.injEq, Obj.cells.injEq] at e
  exact h2 e.2.1.symm
theorem pas1 (d : Int) (q : SlQ) : [q].flatMap (pasF d) = q.ids.map (paF q.b d) := by simp [pasF]
set_option maxHeartbeats 2000000 in
theorem rnd1_ok (wS : World) (ka : KA) (ck cy j at_ : Nat) (ys : List YQ) (ts : List TQ) (fs bs : List IQ) (w0 : World) (hM : KnM τd 50 wS ka w0 ys ts fs bs) (hck : Blk w0 ck 46 [.pointer (some ⟨ka.gk, 0, none⟩)]) (hcy : Blk w0 cy 5 [.int .u8 ((j : Int) + 1)]) (hj : j < 6) (hat : at_ < ka.wd) (hwd : ka.wd ≤ 1000) (hr : (ts.getD j tq0).2.length ≤ 5000) (hB1 : (bs.getD at_ iq0).2.length ≤ 1) (hg0 : goE (ys.getD j yq0).p (ys.getD j yq0).pl ((bs.getD at_ iq0).2.map (paF 1 1)) = 0) (hm0 : mkE (goS (ys.getD j yq0).p (ys.getD j yq0).pl ((bs.getD at_ iq0).2.map (paF 1 1))) = 0) : Rets Tryz.prog 27 #[.int .i64 (at_ : Int), .pointer (some ⟨ck, 0, none⟩), .pointer (some ⟨cy, 0, none⟩)] w0 fun r w' => r = .int .i64 0 ∧ (∃ (u h2 : SV) (lq : LpQ), KnM τd 50 wS ka w' (ys.set j (⟨true, (ys.getD j yq0).pl, (ys.getD j yq0).ct + 1, false, sv0, []⟩ : YQ)) (ts.set j (u, (ts.getD j tq0).2 ++ [lq])) (fs.set at_ (h2, [(⟨(j : Int) + 1, (ys.getD j yq0).ct⟩ : LId)])) bs ∧ lq.p = ⟨0, (ys.getD j yq0).nw, (fs.getD at_ iq0).2, pushS (ys.getD j yq0).pes ((bs.getD at_ iq0).2.map (paF 1 1))⟩) ∧ Blk w' ck 46 [.pointer (some ⟨ka.gk, 0, none⟩)] ∧ Blk w' cy 5 [.int .u8 ((j : Int) + 1)] := by
 have hltO := hM.lt
 have hI1 := fun i (hi : i < 6) q hq k k_ => ((hM.t.lps i (by rw [hM.lt]; exact hi) q hq).1.blk k k_).2
 have hI2 := fun i (hi : i < ka.wd) k k_ => ((hM.f.ins i (by rw [hM.lf]; exact hi)).blk k k_).2
 have hI3 := fun i (hi : i < ka.wd) k k_ => ((hM.b.ins i (by rw [hM.lb]; exact hi)).blk k k_).2
 have hI4 := fun p (hp : p ∈ ka.ids) => (hM.xi p hp).lt
 have hk := hM.k
 have hzS := hM.fr.size
 have hlr := hM.lb
 have hlw := hM.lf
 refine we [(0, .int .i64 (at_ : Int)), (1, .pointer (some ⟨ck, 0, none⟩)), (2, .pointer (some ⟨cy, 0, none⟩))] Tryz.func27 rfl Tryz.ntmps27 rfl (.cons rfl (.cons rfl (.cons rfl .nil))) ?_
 have hM0 := hM
 refine sr (asg rfl rfl (nn (sr (s_loadB0 rfl hck na46 rfl (nlc rfl rfl (fad rfl fa50_3 rfl (s_loadB rfl hk rfl na48 rfl (mv rfl rfl (s_idxL (p := at_) (iq0) rfl hM.b.out.sl rfl el48 (by omega) (by omega) (by omega) rfl (fun ad13 hc13 => ?_))))))))))
 refine s_loadC0 rfl (hc13 _ hM.b.out.sl) na31 rfl (s_lit (cs := [_, _]) (ev2 rfl rfl) bo81 (pok_cons rfl rfl rfl (pok_cons rfl rfl rfl pok_nil)) rfl rfl ?_)
 refine s_bslice ([(⟨1, (bs.getD at_ iq0).1, (bs.getD at_ iq0).2⟩ : SlQ)]) (ev1 rfl) rfl rfl rfl el82 (Nat.le_of_ble_eq_true rfl) rfl (fun g16 w1 hg16 ho16 q1 z1 => ?_)
 replace hM := hM0.ext q1
 refine cl (ev2 rfl rfl) co28 (past_ok _ [(⟨1, (bs.getD at_ iq0).1, (bs.getD at_ iq0).2⟩ : SlQ)] 1 _ ho16.sl (sq1 (hM.b.ins at_ (by omega)).sl) (by simp) (by simpa using hB1)) rfl ?_
 rintro V17 w2 ⟨hoP, q2⟩
 have z2 := q2.size
 rw [pas1] at hoP
 refine asg rfl rfl (kpL [(0, _), (1, _), (2, _), (5, _)] (.cons rfl (.cons rfl (.cons rfl (.cons rfl .nil)))) (nn (sq ?_)))
 replace hM := hM0.ext (q1.next q2)
 replace hk := hk.ext (q1.next q2)
 replace hck := hck.ext (q1.next q2)
 replace hcy := hcy.ext (q1.next q2)
 intro a h
 refine region_heldP (some 16) (fun wb w' => Fr ([ka.gy] ++ ([ka.gt] ++ blks (slv (ts.getD j tq0).1))) wb w') hmix ?_; intro w3 hq
 have z3 := hq.size
 replace hM := hM.ext hq
 replace hk := hk.ext hq
 replace hck := hck.ext hq
 replace hcy := hcy.ext hq
 replace hoP := hoP.ext hq
 have q3 := hq
 clear hq; have hC : Fr ([ka.gy] ++ ([ka.gt] ++ blks (slv (ts.getD j tq0).1))) w3 w3 := Fr.refl _ _
 have hM_b := hM
 have hk_b := hk
 have hck_b := hck
 have hcy_b := hcy
 have hoP_b := hoP
 refine hd_loadB0 0 (by kernel_rfl) (by kernel_rfl) (by kernel_rfl) hC h wn rfl (fun _ hw => hck_b.fr hw (off_mem hck_b (hM_b.offL hj (by decide) (by decide) (by decide)))) na46 rfl rfl ?_; clear h a; intro a h
 refine hd_loadB0 1 (by kernel_rfl) (by kernel_rfl) (by kernel_rfl) hC h wn rfl (fun _ hw => hcy_b.fr hw (off_mem hcy_b (hM_b.offL hj (by decide) (by decide) (by decide)))) na5 rfl rfl ?_; clear h a; intro a h
 refine hd_move 2 (by kernel_rfl) (by kernel_rfl) (by kernel_rfl) hC h wn rfl rfl rfl ?_; clear h a; intro a h
 refine hd_loadB0 3 (by kernel_rfl) (by kernel_rfl) (by kernel_rfl) hC h wn rfl (fun _ hw => hck_b.fr hw (off_mem hck_b (hM_b.offL hj (by decide) (by decide) (by decide)))) na46 rfl rfl ?_; clear h a; intro a h
 refine hd_nilCheck 4 (by kernel_rfl) (by kernel_rfl) (by kernel_rfl) hC h wn rfl rfl rfl ?_; clear h a; intro a h
 refine hd_fieldAddr 5 (by kernel_rfl) (by kernel_rfl) (by kernel_rfl) hC h wn rfl fa50_2 rfl rfl ?_; clear h a; intro a h
 refine hd_loadB 6 (by kernel_rfl) (by kernel_rfl) (by kernel_rfl) hC h wn rfl (fun _ hw => hk_b.fr hw (off_mem hk_b (hM_b.offL hj (by decide) (by decide) (by decide)))) rfl na48 rfl rfl ?_; clear h a; intro a h
 refine hd_move 7 (by kernel_rfl) (by kernel_rfl) (by kernel_rfl) hC h wn rfl rfl rfl ?_; clear h a; intro a h
 refine hd_idxL (p := at_) (iq0) 8 (by kernel_rfl) (by kernel_rfl) (by kernel_rfl) hC h wn rfl hM.f.out.sl rfl el48 (by omega) (by omega) (by omega) rfl rfl ?_; clear h a; intro ad27 hc27 a h
 refine hd_loadC0 9 (by kernel_rfl) (by kernel_rfl) (by kernel_rfl) hC h wn rfl (fun _ hw => hc27 _ (own_tf hM_b.f.out hw (hM_b.offL hj (by decide) (by decide) (by decide))).sl) na31 rfl rfl ?_; clear h a; intro a h
 refine hd_two 10 14 (by kernel_rfl) rfl rfl ?_ ?_
 · refine id ?_
   refine st_call h (evs_cons rfl (evs_cons rfl (evs_cons rfl (evs_cons rfl (evs_cons rfl evs_nil))))) co29 (kloop_ok ka.gk ka.gy ka.cy ka.gt ka.ct wS.heap.size j _ _ _ ys ts ((bs.getD at_ iq0).2.map (paF 1 1)) 0 (fs.getD at_ iq0).1 (fs.getD at_ iq0).2 _ hk hM.y hM.t hM.ly hM.lt hj hr hoP.sl (fun k k_ => (hoP.blk k k_).2) (by rw [List.length_map]; omega) (hM.f.ins at_ (by rw [hM.lf]; exact hat)) (by omega) hg0 hm0) rfl ?_; clear h a; rintro _ w4 ⟨u, lq, rfl, hlq, hlth, hyN, htN, hq⟩ a h
   have z4 := hq.size
   have hoL := fun (T : Nat) (h1 : T ≠ τd.Y) (h2 : T ≠ τd.T) (h3 : T ≠ τd.L) => hM.offL hj h1 h2 h3
   replace hck := blk_tf hck hq (hoL _ (by decide) (by decide) (by decide))
   replace hcy := blk_tf hcy hq (hoL _ (by decide) (by decide) (by decide))
   have hM := hM.loop ktd hj hyN htN (by rw [List.length_set]; exact hM.ly) (by rw [List.length_set]; exact hM.lt) hq
   have hM0 := hM
   have hq_ := hq
   replace hC := hC.step hq (fun k k_ _ => k_)
   clear hq
   clear hq_
   refine hd_next hC ?_
   refine hd_move 11 (by kernel_rfl) (by kernel_rfl) (by kernel_rfl) hC h wn rfl rfl rfl ?_; clear h a; intro a h
   refine hd_extract 12 (by kernel_rfl) (by kernel_rfl) (by kernel_rfl) hC h wn rfl rfl rfl rfl ?_; clear h a; intro a h
   refine hd_extract 13 (by kernel_rfl) (by kernel_rfl) (by kernel_rfl) hC h wn rfl rfl rfl rfl ?_; clear h a; intro a h
   refine hd_one 14 (by kernel_rfl) rfl ?_
   refine st_alloc h zv39 rfl rfl ?_; clear h a; intro w5 hb6 hq hz a h
   obtain ⟨g_6, hg⟩ : ∃ g, g = w4.heap.size := ⟨_, rfl⟩; rw [← hg] at hb6 h hz
   have hn__6 : ck < g_6 := by have := hck.lt; omega
   have hn__6 : cy < g_6 := by have := hcy.lt; omega
   have z5 := hq.size
   replace hck := hck.ext hq
   replace hcy := hcy.ext hq
   replace hC := hC.next hq
   have q5 := hq
   clear hq
   refine hd_next hC ?_
   refine hd_one 15 (by kernel_rfl) rfl ?_
   refine st_storeBA h rfl rfl hb6 rfl (by first | (simp [Value.oneCell', S]; done) | exact Enc.one _ _) sz39 ?_; clear h a; intro w6 hbn hq hz a h
   have z6 := hq.size
   replace hck := hck.fr hq (by first | (simp; done) | (simp; omega) | (simp [blks]; done) | (simp [blks]; omega))
   replace hcy := hcy.fr hq (by first | (simp; done) | (simp; omega) | (simp [blks]; done) | (simp [blks]; omega))
   replace hC := hC.step hq (by first | (simp; done) | (simp; omega))
   have q6 := hq
   clear hb6 hq hz; have hb6 : Blk w6 g_6 _ [_, _] := hbn; clear hbn
   refine hd_next hC ?_
   refine hd_one 16 (by kernel_rfl) rfl ?_
   refine st_assign h rfl rfl ?_; clear h a; intro a h
   refine hd_past (by kernel_rfl) ?_
   refine hd_end (by kernel_rfl) ?_
   clear hC hM_b hk_b hck_b hcy_b hoP_b
   replace hM := hM0.ext (q5.step q6 (by first | (simp; done) | (simp; omega)))
   have hk := hM.k
   have hzM := hM.fr.size
   refine bk (h.sub (L' := [(0, _), (1, _), (6, _), (7, _)]) (.cons rfl (.cons rfl (.cons rfl (.cons rfl .nil))))) ?_; clear h a
   refine tn (sq ?_)
   intro a h
   refine region_heldP (some 8) (fun wb w' => Fr [] wb w') hmix ?_; intro w7 hq
   have z7 := hq.size
   replace hM := hM.ext hq
   replace hk := hk.ext hq
   replace hck := hck.ext hq
   replace hcy := hcy.ext hq
   replace hb6 := hb6.ext hq
   have q7 := hq
   clear hq; have hC : Fr [] w7 w7 := Fr.refl _ _
   have hM_b := hM
   have hk_b := hk
   have hck_b := hck
   have hcy_b := hcy
   have hb6_b := hb6
   refine hd_loadB0 0 (by kernel_rfl) (by kernel_rfl) (by kernel_rfl) hC h wn rfl (fun _ hw => hck_b.ext hw) na46 rfl rfl ?_; clear h a; intro a h
   refine hd_nilCheck 1 (by kernel_rfl) (by kernel_rfl) (by kernel_rfl) hC h wn rfl rfl rfl ?_; clear h a; intro a h
   refine hd_fieldAddr 2 (by kernel_rfl) (by kernel_rfl) (by kernel_rfl) hC h wn rfl fa50_2 rfl rfl ?_; clear h a; intro a h
   refine hd_loadB 3 (by kernel_rfl) (by kernel_rfl) (by kernel_rfl) hC h wn rfl (fun _ hw => hk_b.ext hw) rfl na48 rfl rfl ?_; clear h a; intro a h
   refine hd_move 4 (by kernel_rfl) (by kernel_rfl) (by kernel_rfl) hC h wn rfl rfl rfl ?_; clear h a; intro a h
   refine hd_loadBA 5 (by kernel_rfl) (by kernel_rfl) (by kernel_rfl) hC h wn rfl (fun _ hw => hb6_b.ext hw) ag39 rfl rfl ?_; clear h a; intro a h
   refine hd_one 6 (by kernel_rfl) rfl ?_
   refine st_bslice ([(⟨(j : Int) + 1, (ys.getD j yq0).ct⟩ : LId)]) h (evs_cons rfl evs_nil) rfl rfl rfl el31 (Nat.le_of_ble_eq_true rfl) rfl ?_; clear h a; intro g_38 w8 hg ho38 hq hz a h
   have hn_.gk_38 : ka.gk < g_38 := by have := hk.lt; omega
   have hn__38 : ck < g_38 := by have := hck.lt; omega
   have hn__38 : cy < g_38 := by have := hcy.lt; omega
   have hn_6_38 : g_6 < g_38 := by have := hb6.lt; omega
   have z8 := hq.size
   replace hM := hM.ext hq
   replace hk := hk.ext hq
   replace hck := hck.ext hq
   replace hcy := hcy.ext hq
   replace hb6 := hb6.ext hq
   replace hC := hC.next hq
   have q8 := hq
   clear hq
   refine hd_next hC ?_
   refine hd_idxS 7 (by kernel_rfl) (by kernel_rfl) (by kernel_rfl) hC (p := at_) h wn rfl rfl el48 (by omega) (by omega) (by omega) rfl rfl ?_; clear h a; intro a h
   refine hd_one 8 (by kernel_rfl) rfl ?_
   refine st_storeO (i := at_) (((_, _, _), [(⟨(j : Int) + 1, (ys.getD j yq0).ct⟩ : LId)]) : IQ) h rfl rfl hM.f.out (by rw [hM.lf]; exact hat) rfl sz31 ?_; clear h a; intro w9 ho_2 hq _hz a h
   replace hck := blk_tf hck hq (own_off hM.f.out (by decide))
   replace hcy := blk_tf hcy hq (own_off hM.f.out (by decide))
   have hMF := hM.front ktd hat ho_2 hq (ho38.low (by omega))
   clear hq _hz
   refine hd_past (by kernel_rfl) ?_
   refine hd_end (by kernel_rfl) ?_
   clear hC hM_b hk_b hck_b hcy_b hb6_b
   refine bk (h.sub (L' := [(7, _)]) (.cons rfl .nil)) ?_; clear h a
   refine tn (sr (mv rfl rfl (asg rfl rfl (nn (rt (r1 Tryz.results27 rfl ?_))))))
   exact ⟨_, rfl, rfl, ⟨u, _, lq, hMF, hlq⟩, hck, hcy⟩
 · refine id ?_
   refine st_alloc h zv39 rfl rfl ?_; clear h a; intro w10 hb6 hq hz a h
   obtain ⟨g_6, hg⟩ : ∃ g, g = w3.heap.size := ⟨_, rfl⟩; rw [← hg] at hb6 h hz
   have hn_.gk_6 : ka.gk < g_6 := by have := hk.lt; omega
   have hn__6 : ck < g_6 := by have := hck.lt; omega
   have hn__6 : cy < g_6 := by have := hcy.lt; omega
   have z10 := hq.size
   replace hM := hM.ext hq
   replace hk := hk.ext hq
   replace hck := hck.ext hq
   replace hcy := hcy.ext hq
   replace hoP := hoP.ext hq
   replace hC := hC.next hq
   have q10 := hq
   clear hq
   refine hd_next hC ?_
   refine hd_one 10 (by kernel_rfl) rfl ?_
   refine st_call h (evs_cons rfl (evs_cons rfl (evs_cons rfl (evs_cons rfl (evs_cons rfl evs_nil))))) co29 (kloop_ok ka.gk ka.gy ka.cy ka.gt ka.ct wS.heap.size j _ _ _ ys ts ((bs.getD at_ iq0).2.map (paF 1 1)) 0 (fs.getD at_ iq0).1 (fs.getD at_ iq0).2 _ hk hM.y hM.t hM.ly hM.lt hj hr hoP.sl (fun k k_ => (hoP.blk k k_).2) (by rw [List.length_map]; omega) (hM.f.ins at_ (by rw [hM.lf]; exact hat)) (by omega) hg0 hm0) rfl ?_; clear h a; rintro _ w11 ⟨u, lq, rfl, hlq, hlth, hyN, htN, hq⟩ a h
   have z11 := hq.size
   have hoL := fun (T : Nat) (h1 : T ≠ τd.Y) (h2 : T ≠ τd.T) (h3 : T ≠ τd.L) => hM.offL hj h1 h2 h3
   replace hck := blk_tf hck hq (hoL _ (by decide) (by decide) (by decide))
   replace hcy := blk_tf hcy hq (hoL _ (by decide) (by decide) (by decide))
   have hM := hM.loop ktd hj hyN htN (by rw [List.length_set]; exact hM.ly) (by rw [List.length_set]; exact hM.lt) hq
   have hM0 := hM
   have hq_ := hq
   replace hC := hC.step hq (fun k k_ _ => k_)
   clear hq
   replace hb6 := blk_tf hb6 hq_ (hoL _ (by decide) (by decide) (by decide))
   have hbA := hb6
   clear hq_
   refine hd_next hC ?_
   refine hd_move 11 (by kernel_rfl) (by kernel_rfl) (by kernel_rfl) hC h wn rfl rfl rfl ?_; clear h a; intro a h
   refine hd_extract 12 (by kernel_rfl) (by kernel_rfl) (by kernel_rfl) hC h wn rfl rfl rfl rfl ?_; clear h a; intro a h
   refine hd_extract 13 (by kernel_rfl) (by kernel_rfl) (by kernel_rfl) hC h wn rfl rfl rfl rfl ?_; clear h a; intro a h
   refine hd_one 15 (by kernel_rfl) rfl ?_
   refine st_storeBA h rfl rfl hb6 rfl (by first | (simp [Value.oneCell', S]; done) | exact Enc.one _ _) sz39 ?_; clear h a; intro w12 hbn hq hz a h
   have z12 := hq.size
   replace hck := hck.fr hq (by first | (simp; done) | (simp; omega) | (simp [blks]; done) | (simp [blks]; omega))
   replace hcy := hcy.fr hq (by first | (simp; done) | (simp; omega) | (simp [blks]; done) | (simp [blks]; omega))
   replace hC := hC.step hq (by first | (simp; done) | (simp; omega))
   have q12 := hq
   clear hb6 hq hz; have hb6 : Blk w12 g_6 _ [_, _] := hbn; clear hbn
   refine hd_next hC ?_
   refine hd_one 16 (by kernel_rfl) rfl ?_
   refine st_assign h rfl rfl ?_; clear h a; intro a h
   refine hd_past (by kernel_rfl) ?_
   refine hd_end (by kernel_rfl) ?_
   clear hC hM_b hk_b hck_b hcy_b hoP_b
   replace hM := hM.tfI ktd (by decide) (by decide) hbA q12 (by omega) (fun i hi q hq k_ => by
     rcases put_mem (by rw [hltO]; exact hj) (by rw [List.length_set, hltO]; exact hi) hq with ⟨i', h1, h2⟩ | e
     · have hi' : i' < 6 := by rw [← hltO]; exact h1
       have := hI1 i' hi' q h2 _ k_; omega
     · subst e; rw [hlth] at k_; have := hI2 at_ hat _ k_; omega) (fun i hi k_ => by have := hI2 i hi _ k_; omega) (fun i hi k_ => by have := hI3 i hi _ k_; omega) (fun p hp => by have := hI4 p hp; omega)
   have hM0 := hM
   have hk := hM.k
   have hzM := hM.fr.size
   refine bk (h.sub (L' := [(0, _), (1, _), (6, _), (7, _)]) (.cons rfl (.cons rfl (.cons rfl (.cons rfl .nil))))) ?_; clear h a
   refine tn (sq ?_)
   intro a h
   refine region_heldP (some 8) (fun wb w' => Fr [] wb w') hmix ?_; intro w13 hq
   have z13 := hq.size
   replace hM := hM.ext hq
   replace hk := hk.ext hq
   replace hck := hck.ext hq
   replace hcy := hcy.ext hq
   replace hb6 := hb6.ext hq
   have q13 := hq
   clear hq; have hC : Fr [] w13 w13 := Fr.refl _ _
   have hM_b := hM
   have hk_b := hk
   have hck_b := hck
   have hcy_b := hcy
   have hb6_b := hb6
   refine hd_loadB0 0 (by kernel_rfl) (by kernel_rfl) (by kernel_rfl) hC h wn rfl (fun _ hw => hck_b.ext hw) na46 rfl rfl ?_; clear h a; intro a h
   refine hd_nilCheck 1 (by kernel_rfl) (by kernel_rfl) (by kernel_rfl) hC h wn rfl rfl rfl ?_; clear h a; intro a h
   refine hd_fieldAddr 2 (by kernel_rfl) (by kernel_rfl) (by kernel_rfl) hC h wn rfl fa50_2 rfl rfl ?_; clear h a; intro a h
   refine hd_loadB 3 (by kernel_rfl) (by kernel_rfl) (by kernel_rfl) hC h wn rfl (fun _ hw => hk_b.ext hw) rfl na48 rfl rfl ?_; clear h a; intro a h
   refine hd_move 4 (by kernel_rfl) (by kernel_rfl) (by kernel_rfl) hC h wn rfl rfl rfl ?_; clear h a; intro a h
   refine hd_loadBA 5 (by kernel_rfl) (by kernel_rfl) (by kernel_rfl) hC h wn rfl (fun _ hw => hb6_b.ext hw) ag39 rfl rfl ?_; clear h a; intro a h
   refine hd_one 6 (by kernel_rfl) rfl ?_
   refine st_bslice ([(⟨(j : Int) + 1, (ys.getD j yq0).ct⟩ : LId)]) h (evs_cons rfl evs_nil) rfl rfl rfl el31 (Nat.le_of_ble_eq_true rfl) rfl ?_; clear h a; intro g_38 w14 hg ho38 hq hz a h
   have hn_.gk_38 : ka.gk < g_38 := by have := hk.lt; omega
   have hn__38 : ck < g_38 := by have := hck.lt; omega
   have hn__38 : cy < g_38 := by have := hcy.lt; omega
   have hn_6_38 : g_6 < g_38 := by have := hb6.lt; omega
   have z14 := hq.size
   replace hM := hM.ext hq
   replace hk := hk.ext hq
   replace hck := hck.ext hq
   replace hcy := hcy.ext hq
   replace hb6 := hb6.ext hq
   replace hC := hC.next hq
   have q14 := hq
   clear hq
   refine hd_next hC ?_
   refine hd_idxS 7 (by kernel_rfl) (by kernel_rfl) (by kernel_rfl) hC (p := at_) h wn rfl rfl el48 (by omega) (by omega) (by omega) rfl rfl ?_; clear h a; intro a h
   refine hd_one 8 (by kernel_rfl) rfl ?_
   refine st_storeO (i := at_) (((_, _, _), [(⟨(j : Int) + 1, (ys.getD j yq0).ct⟩ : LId)]) : IQ) h rfl rfl hM.f.out (by rw [hM.lf]; exact hat) rfl sz31 ?_; clear h a; intro w15 ho_2 hq _hz a h
   replace hck := blk_tf hck hq (own_off hM.f.out (by decide))
   replace hcy := blk_tf hcy hq (own_off hM.f.out (by decide))
   have hMF := hM.front ktd hat ho_2 hq (ho38.low (by omega))
   clear hq _hz
   refine hd_past (by kernel_rfl) ?_
   refine hd_end (by kernel_rfl) ?_
   clear hC hM_b hk_b hck_b hcy_b hb6_b
   refine bk (h.sub (L' := [(7, _)]) (.cons rfl .nil)) ?_; clear h a
   refine tn (sr (mv rfl rfl (asg rfl rfl (nn (rt (r1 Tryz.results27 rfl ?_))))))
   exact ⟨_, rfl, rfl, ⟨u, _, lq, hMF, hlq⟩, hck, hcy⟩
end Go.Proofs.YtkionldalpijpaaGreatDoor
