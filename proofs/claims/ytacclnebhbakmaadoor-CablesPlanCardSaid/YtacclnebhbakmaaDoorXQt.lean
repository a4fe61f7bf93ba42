/- The rules on single operations once more, for regions that draw their order. Conditions: none; each rule is over any program. Written by the program mkqt.py out of XLw and XOps. -/
import Derived.Test.YtacclnebhbakmaaDoorXOps
import Derived.Test.YtacclnebhbakmaaDoorXPh
import Derived.Deep.Quiet
import Derived.OrdersHeld
set_option linter.unusedVariables false
set_option linter.unusedSimpArgs false
namespace Go.Lw
open Go.RowKit
section
variable {P : Program} {a : Act} {n : Nat} {L : List (Nat × Value)} {ds : List Nat} {C : World → Prop} {Qa : Act → Prop} {ops : Array Oper} {rest : List Oper} {o : Oper}
theorem qt_ok {d : Nat} {v : Value} (h : AgM ds a n L) (hg : o.guard = none) (hd : o.dst = some d) (hn : Nat.blt d n = true) (hr : ∀ w, C w → (execOp a.eval o).run P w = .ok (.value v) w)
    (k : ∀ a, AgM ds a n ((d, v) :: L) → wpQuiet P ops C Qa rest a) : wpQuiet P ops C Qa (o :: rest) a := by
  unfold wpQuiet
  rw [if_pos (by simp [Region.wanted, hg])]
  refine ⟨v, fun w hw => ?_, ?_⟩
  · unfold Oper.quietAt; rw [hr w hw]; exact ⟨rfl, rfl⟩
  · rw [hd]; exact k _ (h.put hn v)
theorem qt_call {d : Nat} {v : Value} {f : FuncId} {xs : List Operand} {vs : List Value} {ts : Array TypeId} {ty : TypeId} {pos : String} {after : Array Edge} (h : AgM ds a n L) (hx : evs L xs vs) (hf : CallOf P f) (hc : ∀ w, C w → Rets P f vs.toArray w fun u w' => u = v ∧ C w') (hn : Nat.blt d n = true)
    (q : ∀ a, AgM ds a n ((d, v) :: L) → wpQuiet P ops C Qa rest a) : wpQuiet P ops C Qa (⟨some d, .call ⟨.value (.func f), xs.toArray, ts⟩, ty, pos, after, none⟩ :: rest) a := by
  unfold wpQuiet
  rw [if_pos (by simp [Region.wanted])]
  refine ⟨v, fun w hw => ?_, q _ (h.put hn v)⟩
  unfold Oper.quietAt
  rw [execOp_call_go]
  simp only [List.map_toArray, h.evals hx, List.append_toArray, List.nil_append, List.append_nil]
  rw [hf]
  exact ⟨rfl, Calls.mono (hc w hw) fun e w' ⟨u, he, hu, hC⟩ => ⟨by rw [he, hu], hC⟩⟩
theorem qd_no {d j dj : Nat} {oj : Oper} {want b : Bool} (h : AgM ds a n L) (hg : o.guard = some (j, want)) (hj : ops[j]? = some oj) (hdj : oj.dst = some dj) (hnj : Nat.blt dj n = true)
    (hb : look L dj = some (.bool b)) (hne : (b == want) = false) (hd : o.dst = some d) (hn : Nat.blt d n = true)
    (k : ∀ a, AgM ds a n ((d, undef) :: L) → wpQuiet P ops C Qa rest a) : wpQuiet P ops C Qa (o :: rest) a := by
  have hy := yielded_of (ops := ops) h hj hdj hnj hb
  unfold wpQuiet
  rw [if_neg (by simp only [Region.wanted, hg, hy]; simpa using hne), hd]
  exact k _ (h.put hn undef)
theorem qd_skip {d j dj : Nat} {oj : Oper} {want : Bool} (h : AgM ds a n L) (hg : o.guard = some (j, want)) (hj : ops[j]? = some oj) (hdj : oj.dst = some dj) (hnj : Nat.blt dj n = true)
    (hb : look L dj = some undef) (hd : o.dst = some d) (hn : Nat.blt d n = true)
    (k : ∀ a, AgM ds a n ((d, undef) :: L) → wpQuiet P ops C Qa rest a) : wpQuiet P ops C Qa (o :: rest) a := by
  have h1 := h.at_ dj _ hb
  have hd' : dj < a.tmps.size := by rw [h.size]; simpa [Nat.blt_eq] using hnj
  have h2 : a.tmps[dj]? = some undef := by
    rw [Array.getElem?_eq_getElem hd']
    simpa [Array.getD, hd'] using h1
  have hy : yielded ops a.tmps j = none := by simp [yielded, hj, hdj, h2, undef]
  unfold wpQuiet
  rw [if_neg (by simp [Region.wanted, hg, hy]), hd]
  exact k _ (h.put hn undef)
theorem qd_yes {j dj : Nat} {oj : Oper} {want b : Bool} (h : AgM ds a n L) (hg : o.guard = some (j, want)) (hj : ops[j]? = some oj) (hdj : oj.dst = some dj) (hnj : Nat.blt dj n = true)
    (hb : look L dj = some (.bool b)) (he : (b == want) = true)
    (k : wpQuiet P ops C Qa ({ o with guard := none } :: rest) a) : wpQuiet P ops C Qa (o :: rest) a := by
  have hy := yielded_of (ops := ops) h hj hdj hnj hb
  unfold wpQuiet at k ⊢
  rw [if_pos (by simp [Region.wanted])] at k
  rw [if_pos (by simp only [Region.wanted, hg, hy]; simpa using he)]
  exact k
/-- A region that draws its order, of quiet operations: in the order of the text; behind it any later world. -/
theorem region_quiet {id : Nat} {Q : Exit → Act → World → Prop} {w : World} {l : List Oper} (hm : P.follows .mixedOrders = true) (hB : Region.lexB .any l.toArray = true)
    (h : wpQuiet P l.toArray (fun w' => Fr [] w w') (fun a' => ∀ w', Fr [] w w' → Q .normal a' w') l a) : (Code.region id l.toArray true).wp P Q a w :=
  wp_region_quiet (C := fun w' => Fr [] w w') hm hB (Fr.drew [] w) (by simpa using h)
/-- The end of a region: no way out but the normal one. -/
def NormEnd (K : Act → World → Prop) : Exit → Act → World → Prop
  | .normal, a, w => K a w
  | _, _, _ => False
/-- A region that draws its order, of mixed operations, under a condition on all worlds that come up. -/
theorem region_heldP (pq : Option Nat) {id : Nat} {Q : Exit → Act → World → Prop} {w : World} {l : List Oper} (C : World → World → Prop) (hm : P.follows .mixedOrders = true)
    (h : ∀ w', Fr [] w w' → wpAnyP pq P l.toArray (NormEnd (Q .normal)) (C w') l.length (Array.replicate l.length false) a w') : (Code.region id l.toArray true).wp P Q a w := by
  refine wp_mono (wp_region_any (Q := NormEnd (Q .normal)) hm (wpAny_of_P (C := C w.drew) _ _ _ _ (by simpa using h _ (Fr.drew [] w)))) ?_
  intro e a w hq
  cases e <;> first | exact hq | exact hq.elim
theorem region_held {id : Nat} {Q : Exit → Act → World → Prop} {w : World} {l : List Oper} (C : World → World → Prop) (hm : P.follows .mixedOrders = true)
    (h : ∀ w', Fr [] w w' → wpAnyP none P l.toArray (NormEnd (Q .normal)) (C w') l.length (Array.replicate l.length false) a w') : (Code.region id l.toArray true).wp P Q a w := region_heldP none C hm h
section
variable {K : Act → World → Prop} {fu : Nat} {listed : Array Bool} {pq : Option Nat} {w : World}
/-- An operation with this guard is wanted. -/
def Wd (ops : Array Oper) (n : Nat) (L : List (Nat × Value)) (G : Option (Nat × Bool)) : Prop := ∀ a ds, AgM ds a n L → ∀ o : Oper, o.guard = G → Region.wanted o (yielded ops a.tmps) = true
theorem wn : Wd ops n L none := fun _ _ _ o ho => by simp [Region.wanted, ho]
theorem hd_ok (ix : Nat) (hsel : Region.noSelect ops = true) (hfr : Fre pq ops listed ix = true) (hre : (Region.ready .any ops listed).contains ix = true) (hC : C w) {d : Nat} {v : Value} (h : AgM ds a n L) (hG : Wd ops n L o.guard) (hix : ops[ix]? = some o) (hd : o.dst = some d) (hn : Nat.blt d n = true)
    (hr : ∀ w, C w → (execOp a.eval o).run P w = .ok (.value v) w) (k : ∀ a, AgM ds a n ((d, v) :: L) → wpAnyP pq P ops (NormEnd K) C fu (listed.setIfInBounds ix true) a w) : wpAnyP pq P ops (NormEnd K) C (fu + 1) listed a w :=
  P_take hix hsel hfr hre (fun _ _ _ h => h) (.inl ⟨hG a ds h o rfl, hr⟩) hC (by rw [hd]; exact k _ (h.put hn v))
/-- The one operation that may come up. -/
theorem hd_one (ix : Nat) (hr : Region.ready .any ops listed = [ix]) (hix : ops[ix]? = some o) (k : wpList P ops (NormEnd fun a' w' => Sat pq C (listed.setIfInBounds ix true) w' ∧ wpAnyP pq P ops (NormEnd K) C fu (listed.setIfInBounds ix true) a' w') [o] a w) :
    wpAnyP pq P ops (NormEnd K) C (fu + 1) listed a w := by
  refine P_all hr (by simp) fun i hi => ?_
  simp at hi; subst hi
  unfold wpOp
  rw [hix]
  unfold wpList at k
  simp only
  split
  · rename_i hw
    rw [if_pos hw] at k
    rcases k with k | ⟨_, _, _, k⟩
    · refine .inl (Oper.wp_mono (fun a w h => h) ?_)
      unfold Oper.wp at k ⊢
      generalize (execOp a.eval o).run P w = r at k ⊢
      cases r with
      | ok nx w' =>
        cases nx <;> simp only [Oper.upon] at k ⊢ <;> first
          | exact k
          | exact Calls.mono k (fun e w'' he => by cases e <;> first | exact he | exact he.elim | (obtain ⟨_, _, he⟩ := he; exact he.elim))
          | exact Rows.mono k (fun _ _ he => he)
      | halt x w' => cases x <;> simp only [Oper.upon] at k ⊢ <;> exact k.elim
    · exact k.elim
  · rename_i hw
    rw [if_neg hw] at k
    exact k
theorem hd_end (hr : Region.ready .any ops listed = []) (h : K a w) : wpAnyP pq P ops (NormEnd K) C fu listed a w := P_done hr h fu
theorem hd_next {W : Act → World → Prop} (hC : C w) (h : W a w) : wpList P ops (NormEnd fun a' w' => Sat pq C listed w' ∧ W a' w') [] a w := ⟨sat_of hC, h⟩
theorem hd_past {W : Act → World → Prop} {p : Nat} (hp : listed.getD p true = true) (h : W a w) : wpList P ops (NormEnd fun a' w' => Sat (some p) C listed w' ∧ W a' w') [] a w := ⟨fun e => absurd (hp.symm.trans e) (by simp), h⟩
end
variable {d : Nat} {ty : TypeId} {pos : String} {after : Array Edge} {v u : Value} {x y z : Operand} {t t' T : TypeId} {k k' : IntKind} {i j : Int} {b c : Bool} {l l' : List UInt8} {A : Option Addr} {m cp : Nat} {G : Option (Nat × Bool)}
theorem qt_move (h : AgM ds a n L) (hx : ev L x = some v) (hn : Nat.blt d n = true) (q : ∀ a, AgM ds a n ((d, v) :: L) → wpQuiet P ops C Qa rest a) :
    wpQuiet P ops C Qa (⟨some d, .move x, ty, pos, after, none⟩ :: rest) a :=
  qt_ok h rfl rfl hn (fun w _hw => by simp [execOp, h.eval hx]) q
theorem qt_assign (h : AgM ds a n L) (hx : ev L x = some v) (hn : Nat.blt d n = true) (q : ∀ a, AgM ds a n ((d, v) :: L) → wpQuiet P ops C Qa rest a) :
    wpQuiet P ops C Qa (⟨some d, .assign x, ty, pos, after, none⟩ :: rest) a :=
  qt_ok h rfl rfl hn (fun w _hw => by simp [execOp, h.eval hx]) q
theorem qt_pick_t {z : Value} {x1 x2 : Operand} (h : AgM ds a n L) (hx : ev L x = some (.bool b)) (hb : b = true) (hv : ev L x1 = some z) (hn : Nat.blt d n = true) (q : ∀ a, AgM ds a n ((d, z) :: L) → wpQuiet P ops C Qa rest a) :
    wpQuiet P ops C Qa (⟨some d, .pick x x1 x2, ty, pos, after, none⟩ :: rest) a :=
  qt_ok h rfl rfl hn (fun w _hw => by subst hb; simp [execOp, h.eval hx, asBool, h.eval hv]) q
theorem qt_pick_f {z : Value} {x1 x2 : Operand} (h : AgM ds a n L) (hx : ev L x = some (.bool b)) (hb : b = false) (hv : ev L x2 = some z) (hn : Nat.blt d n = true) (q : ∀ a, AgM ds a n ((d, z) :: L) → wpQuiet P ops C Qa rest a) :
    wpQuiet P ops C Qa (⟨some d, .pick x x1 x2, ty, pos, after, none⟩ :: rest) a :=
  qt_ok h rfl rfl hn (fun w _hw => by subst hb; simp [execOp, h.eval hx, asBool, h.eval hv]) q
theorem qt_add {z : Int} (h : AgM ds a n L) (hx : ev L x = some (.int k i)) (hy : ev L y = some (.int k j)) (hz : k.wrap (i + j) = z) (hn : Nat.blt d n = true) (q : ∀ a, AgM ds a n ((d, .int k z) :: L) → wpQuiet P ops C Qa rest a) :
    wpQuiet P ops C Qa (⟨some d, .binOp .add t x y t', ty, pos, after, none⟩ :: rest) a :=
  qt_ok h rfl rfl hn (fun w _hw => by subst hz; simp [execOp, h.eval hx, h.eval hy, eqGuard_add, binOp_add, Op.intArith]) q
theorem qt_sub {z : Int} (h : AgM ds a n L) (hx : ev L x = some (.int k i)) (hy : ev L y = some (.int k j)) (hz : k.wrap (i - j) = z) (hn : Nat.blt d n = true) (q : ∀ a, AgM ds a n ((d, .int k z) :: L) → wpQuiet P ops C Qa rest a) :
    wpQuiet P ops C Qa (⟨some d, .binOp .sub t x y t', ty, pos, after, none⟩ :: rest) a :=
  qt_ok h rfl rfl hn (fun w _hw => by subst hz; simp [execOp, h.eval hx, h.eval hy, eqGuard_sub, binOp_sub, Op.intArith]) q
theorem qt_mul {z : Int} (h : AgM ds a n L) (hx : ev L x = some (.int k i)) (hy : ev L y = some (.int k j)) (hz : k.wrap (i * j) = z) (hn : Nat.blt d n = true) (q : ∀ a, AgM ds a n ((d, .int k z) :: L) → wpQuiet P ops C Qa rest a) :
    wpQuiet P ops C Qa (⟨some d, .binOp .mul t x y t', ty, pos, after, none⟩ :: rest) a :=
  qt_ok h rfl rfl hn (fun w _hw => by subst hz; simp [execOp, h.eval hx, h.eval hy, eqGuard_mul, binOp_mul, Op.intArith]) q
theorem qt_quo {z : Int} (h : AgM ds a n L) (hx : ev L x = some (.int k i)) (hy : ev L y = some (.int k j)) (h0 : j ≠ 0) (hz : k.wrap (i.tdiv j) = z) (hn : Nat.blt d n = true) (q : ∀ a, AgM ds a n ((d, .int k z) :: L) → wpQuiet P ops C Qa rest a) :
    wpQuiet P ops C Qa (⟨some d, .binOp .quo t x y t', ty, pos, after, none⟩ :: rest) a :=
  qt_ok h rfl rfl hn (fun w _hw => by subst hz; simp [execOp, h.eval hx, h.eval hy, eqGuard_quo, binOp_quo, Op.intDiv, h0]) q
theorem qt_rem {z : Int} (h : AgM ds a n L) (hx : ev L x = some (.int k i)) (hy : ev L y = some (.int k j)) (h0 : j ≠ 0) (hz : i.tmod j = z) (hn : Nat.blt d n = true) (q : ∀ a, AgM ds a n ((d, .int k z) :: L) → wpQuiet P ops C Qa rest a) :
    wpQuiet P ops C Qa (⟨some d, .binOp .rem t x y t', ty, pos, after, none⟩ :: rest) a :=
  qt_ok h rfl rfl hn (fun w _hw => by subst hz; simp [execOp, h.eval hx, h.eval hy, eqGuard_rem, binOp_rem, Op.intDiv, h0]) q
theorem qt_eq (h : AgM ds a n L) (hx : ev L x = some (.int k i)) (hy : ev L y = some (.int k j)) (hn : Nat.blt d n = true) (q : ∀ a, AgM ds a n ((d, .bool (decide (i = j))) :: L) → wpQuiet P ops C Qa rest a) :
    wpQuiet P ops C Qa (⟨some d, .binOp .eql t x y t', ty, pos, after, none⟩ :: rest) a :=
  qt_ok h rfl rfl hn (fun w _hw => by simp [execOp, h.eval hx, h.eval hy, eqGuard_at_int, binOp_eql, beq_dec]) q
theorem qt_ne (h : AgM ds a n L) (hx : ev L x = some (.int k i)) (hy : ev L y = some (.int k j)) (hn : Nat.blt d n = true) (q : ∀ a, AgM ds a n ((d, .bool (decide (i ≠ j))) :: L) → wpQuiet P ops C Qa rest a) :
    wpQuiet P ops C Qa (⟨some d, .binOp .neq t x y t', ty, pos, after, none⟩ :: rest) a :=
  qt_ok h rfl rfl hn (fun w _hw => by simp [execOp, h.eval hx, h.eval hy, eqGuard_at_int, binOp_neq, bne, beq_dec]) q
theorem qt_lt (h : AgM ds a n L) (hx : ev L x = some (.int k i)) (hy : ev L y = some (.int k j)) (hn : Nat.blt d n = true) (q : ∀ a, AgM ds a n ((d, .bool (decide (i < j))) :: L) → wpQuiet P ops C Qa rest a) :
    wpQuiet P ops C Qa (⟨some d, .binOp .lss t x y t', ty, pos, after, none⟩ :: rest) a :=
  qt_ok h rfl rfl hn (fun w _hw => by simp [execOp, h.eval hx, h.eval hy, eqGuard_lss, binOp_lss]) q
theorem qt_le (h : AgM ds a n L) (hx : ev L x = some (.int k i)) (hy : ev L y = some (.int k j)) (hn : Nat.blt d n = true) (q : ∀ a, AgM ds a n ((d, .bool (decide (i ≤ j))) :: L) → wpQuiet P ops C Qa rest a) :
    wpQuiet P ops C Qa (⟨some d, .binOp .leq t x y t', ty, pos, after, none⟩ :: rest) a :=
  qt_ok h rfl rfl hn (fun w _hw => by simp [execOp, h.eval hx, h.eval hy, eqGuard_leq, binOp_leq]) q
theorem qt_gt (h : AgM ds a n L) (hx : ev L x = some (.int k i)) (hy : ev L y = some (.int k j)) (hn : Nat.blt d n = true) (q : ∀ a, AgM ds a n ((d, .bool (decide (j < i))) :: L) → wpQuiet P ops C Qa rest a) :
    wpQuiet P ops C Qa (⟨some d, .binOp .gtr t x y t', ty, pos, after, none⟩ :: rest) a :=
  qt_ok h rfl rfl hn (fun w _hw => by simp [execOp, h.eval hx, h.eval hy, eqGuard_gtr, binOp_gtr]) q
theorem qt_ge (h : AgM ds a n L) (hx : ev L x = some (.int k i)) (hy : ev L y = some (.int k j)) (hn : Nat.blt d n = true) (q : ∀ a, AgM ds a n ((d, .bool (decide (j ≤ i))) :: L) → wpQuiet P ops C Qa rest a) :
    wpQuiet P ops C Qa (⟨some d, .binOp .geq t x y t', ty, pos, after, none⟩ :: rest) a :=
  qt_ok h rfl rfl hn (fun w _hw => by simp [execOp, h.eval hx, h.eval hy, eqGuard_geq, binOp_geq]) q
theorem qt_neg {z : Int} (h : AgM ds a n L) (hx : ev L x = some (.int k i)) (hz : k.wrap (0 - i) = z) (hn : Nat.blt d n = true) (q : ∀ a, AgM ds a n ((d, .int k z) :: L) → wpQuiet P ops C Qa rest a) :
    wpQuiet P ops C Qa (⟨some d, .unOp .neg t x, ty, pos, after, none⟩ :: rest) a :=
  qt_ok h rfl rfl hn (fun w _hw => by subst hz; simp [execOp, h.eval hx, unary_neg, Op.intArith]) q
theorem qt_not (h : AgM ds a n L) (hx : ev L x = some (.bool b)) (hn : Nat.blt d n = true) (q : ∀ a, AgM ds a n ((d, .bool (!b)) :: L) → wpQuiet P ops C Qa rest a) :
    wpQuiet P ops C Qa (⟨some d, .unOp .not t x, ty, pos, after, none⟩ :: rest) a :=
  qt_ok h rfl rfl hn (fun w _hw => by simp [execOp, h.eval hx, unary_not]) q
theorem qt_conv {z : Int} (h : AgM ds a n L) (hx : ev L x = some (.int k i)) (hs : (P.underlying t).isSome = true) (hd : P.underlying t' = some (.int k')) (hz : k'.wrap i = z) (hn : Nat.blt d n = true) (q : ∀ a, AgM ds a n ((d, .int k' z) :: L) → wpQuiet P ops C Qa rest a) :
    wpQuiet P ops C Qa (⟨some d, .convert t t' x, ty, pos, after, none⟩ :: rest) a :=
  qt_ok h rfl rfl hn (fun w _hw => by
    obtain ⟨u, hu⟩ := Option.isSome_iff_exists.mp hs
    subst hz; simp [execOp, h.eval hx, convert, run_underlying hu, run_underlying hd, Conv.intToInt]) q
theorem qt_min {ts : Array TypeId} (h : AgM ds a n L) (hx : ev L x = some (.int k i)) (hy : ev L y = some (.int k' j)) (hn : Nat.blt d n = true) (q : ∀ a, AgM ds a n ((d, .int k (min i j)) :: L) → wpQuiet P ops C Qa rest a) :
    wpQuiet P ops C Qa (⟨some d, .call ⟨.builtin .min, #[x, y], ts⟩, ty, pos, after, none⟩ :: rest) a :=
  qt_ok h rfl rfl hn (fun w _hw => by
    rw [exec_builtin]; unfold builtin
    simp only [List.map_toArray, List.map_cons, List.map_nil, h.eval hx, h.eval hy, Sem.run_bind, run_min_int2, Result.andThen_ok, Sem.run_pure]
    congr 3; omega) q
theorem qt_max {ts : Array TypeId} (h : AgM ds a n L) (hx : ev L x = some (.int k i)) (hy : ev L y = some (.int k' j)) (hn : Nat.blt d n = true) (q : ∀ a, AgM ds a n ((d, .int k (max i j)) :: L) → wpQuiet P ops C Qa rest a) :
    wpQuiet P ops C Qa (⟨some d, .call ⟨.builtin .max, #[x, y], ts⟩, ty, pos, after, none⟩ :: rest) a :=
  qt_ok h rfl rfl hn (fun w _hw => by
    rw [exec_builtin]; unfold builtin
    simp only [List.map_toArray, List.map_cons, List.map_nil, h.eval hx, h.eval hy, Sem.run_bind, run_max_int2, Result.andThen_ok, Sem.run_pure]
    congr 3; omega) q
theorem qt_eqb (h : AgM ds a n L) (hx : ev L x = some (.bool b)) (hy : ev L y = some (.bool c)) (hu : P.underlying t = some .bool) (hn : Nat.blt d n = true) (q : ∀ a, AgM ds a n ((d, .bool (decide (b = c))) :: L) → wpQuiet P ops C Qa rest a) :
    wpQuiet P ops C Qa (⟨some d, .binOp .eql t x y t', ty, pos, after, none⟩ :: rest) a :=
  qt_ok h rfl rfl hn (fun w _hw => by simp [execOp, h.eval hx, h.eval hy, eqGuard_at_bool, run_eql_bool w t b c hu]; cases b <;> cases c <;> rfl) q
theorem qt_neb (h : AgM ds a n L) (hx : ev L x = some (.bool b)) (hy : ev L y = some (.bool c)) (hu : P.underlying t = some .bool) (hn : Nat.blt d n = true) (q : ∀ a, AgM ds a n ((d, .bool (decide (b ≠ c))) :: L) → wpQuiet P ops C Qa rest a) :
    wpQuiet P ops C Qa (⟨some d, .binOp .neq t x y t', ty, pos, after, none⟩ :: rest) a :=
  qt_ok h rfl rfl hn (fun w _hw => by simp [execOp, h.eval hx, h.eval hy, eqGuard_at_bool, run_neq_bool w t b c hu]; cases b <;> cases c <;> rfl) q
theorem qt_len (h : AgM ds a n L) (hx : ev L x = some (S l)) (hu : P.underlying t = some .string) (hn : Nat.blt d n = true) (q : ∀ a, AgM ds a n ((d, .int .i64 (l.length : Int)) :: L) → wpQuiet P ops C Qa rest a) :
    wpQuiet P ops C Qa (⟨some d, .call ⟨.builtin .len, #[x], #[t]⟩, ty, pos, after, none⟩ :: rest) a :=
  qt_ok h rfl rfl hn (fun w _hw => by
    rw [exec_builtin]; unfold builtin
    simp only [List.map_toArray, List.map_cons, List.map_nil, h.eval hx, S, Sem.run_bind, run_len_string w t _ _ hu, Result.andThen_ok, Sem.run_pure]
    rfl) q
theorem qt_index {p : Nat} (h : AgM ds a n L) (hx : ev L x = some (S l)) (hy : ev L y = some (.int k i)) (hu : P.underlying t = some .string) (h0 : 0 ≤ i) (h1 : i < l.length) (hp : i.toNat = p) (hn : Nat.blt d n = true)
    (q : 0 ≤ ((l.getD p 0).toNat : Int) ∧ ((l.getD p 0).toNat : Int) ≤ 255 → ∀ a, AgM ds a n ((d, .int .u8 ((l.getD p 0).toNat : Int)) :: L) → wpQuiet P ops C Qa rest a) : wpQuiet P ops C Qa (⟨some d, .index t x y, ty, pos, after, none⟩ :: rest) a :=
  qt_ok h rfl rfl hn (fun w _hw => by
    have hs : (ByteArray.mk l.toArray).size = l.length := by simp [ByteArray.size]
    have h1' : i < ((ByteArray.mk l.toArray).size : Nat) := by rw [hs]; exact h1
    have hl : i.toNat < l.length := by omega
    subst hp
    simp [execOp, h.eval hx, h.eval hy, S, run_index_string w t _ k i hu, h0, h1']
    simp [hl]; rfl) (q (byte_rng _))
theorem qt_ss_lh {p p' : Nat} (h : AgM ds a n L) (hx : ev L x = some (S l)) (hy : ev L y = some (.int k i)) (hz : ev L z = some (.int k' j)) (hu : P.underlying t = some .string) (h0 : 0 ≤ i) (h1 : i ≤ j) (h2 : j ≤ l.length) (hp : i.toNat = p) (hp' : j.toNat = p') (hn : Nat.blt d n = true)
    (q : ∀ a, AgM ds a n ((d, S ((l.take p').drop p)) :: L) → wpQuiet P ops C Qa rest a) : wpQuiet P ops C Qa (⟨some d, .slice t x (some y) (some z) none, ty, pos, after, none⟩ :: rest) a :=
  qt_ok h rfl rfl hn (fun w _hw => by
    have hs : j ≤ ((ByteArray.mk l.toArray).size : Nat) := by simpa [ByteArray.size] using h2
    subst hp hp'
    have hr := run_slice_string (P := P) w t ⟨l.toArray⟩ k k' i j hu h0 h1 hs
    rw [ext_list] at hr
    simp [execOp, h.eval hx, h.eval hy, h.eval hz, S, run_sliceAt_string w t _ _ _ _ hu, hr]) q
theorem qt_ss_l {p : Nat} (h : AgM ds a n L) (hx : ev L x = some (S l)) (hy : ev L y = some (.int k i)) (hu : P.underlying t = some .string) (h0 : 0 ≤ i) (h1 : i ≤ l.length) (hp : i.toNat = p) (hn : Nat.blt d n = true)
    (q : ∀ a, AgM ds a n ((d, S (l.drop p)) :: L) → wpQuiet P ops C Qa rest a) : wpQuiet P ops C Qa (⟨some d, .slice t x (some y) none none, ty, pos, after, none⟩ :: rest) a :=
  qt_ok h rfl rfl hn (fun w _hw => by
    have hs : i ≤ ((ByteArray.mk l.toArray).size : Nat) := by simpa [ByteArray.size] using h1
    subst hp
    have hr := run_slice_string_l (P := P) w t ⟨l.toArray⟩ hu k i h0 hs
    rw [ext_list, List.take_of_length_le (by simp [ByteArray.size])] at hr
    simp [execOp, h.eval hx, h.eval hy, S, run_sliceAt_string w t _ _ _ _ hu, hr]) q
theorem qt_ss_h {p : Nat} (h : AgM ds a n L) (hx : ev L x = some (S l)) (hz : ev L z = some (.int k' j)) (hu : P.underlying t = some .string) (h0 : 0 ≤ j) (h2 : j ≤ l.length) (hp : j.toNat = p) (hn : Nat.blt d n = true)
    (q : ∀ a, AgM ds a n ((d, S (l.take p)) :: L) → wpQuiet P ops C Qa rest a) : wpQuiet P ops C Qa (⟨some d, .slice t x none (some z) none, ty, pos, after, none⟩ :: rest) a :=
  qt_ok h rfl rfl hn (fun w _hw => by
    have hs : j ≤ ((ByteArray.mk l.toArray).size : Nat) := by simpa [ByteArray.size] using h2
    subst hp
    have hr := run_slice_string_h (P := P) w t ⟨l.toArray⟩ hu k' j h0 hs
    rw [ext_list, List.drop_zero] at hr
    simp [execOp, h.eval hx, h.eval hz, S, run_sliceAt_string w t _ _ _ _ hu, hr]) q
theorem qt_adds (h : AgM ds a n L) (hx : ev L x = some (S l)) (hy : ev L y = some (S l')) (hb : l.length + l'.length ≤ 9223372036854775807) (hn : Nat.blt d n = true)
    (q : ∀ a, AgM ds a n ((d, S (l ++ l')) :: L) → wpQuiet P ops C Qa rest a) : wpQuiet P ops C Qa (⟨some d, .binOp .add t x y t', ty, pos, after, none⟩ :: rest) a :=
  qt_ok h rfl rfl hn (fun w _hw => by
    have hr := run_string_add_sum (P := P) w ⟨l.toArray⟩ ⟨l'.toArray⟩ (by simpa [ByteArray.size] using hb)
    rw [ByteArray.mk_append_mk] at hr
    simp [execOp, h.eval hx, h.eval hy, S, eqGuard_add, binOp_string_add, hr]) q
theorem qt_eqs (h : AgM ds a n L) (hx : ev L x = some (S l)) (hy : ev L y = some (S l')) (hn : Nat.blt d n = true)
    (q : ∀ a, AgM ds a n ((d, .bool (decide (l = l'))) :: L) → wpQuiet P ops C Qa rest a) : wpQuiet P ops C Qa (⟨some d, .binOp .eql t x y t', ty, pos, after, none⟩ :: rest) a :=
  qt_ok h rfl rfl hn (fun w _hw => by simp [execOp, h.eval hx, h.eval hy, S, eqGuard_at_string, binOp_string_eql]; by_cases e : l = l' <;> simp [e]) q
theorem qt_nes (h : AgM ds a n L) (hx : ev L x = some (S l)) (hy : ev L y = some (S l')) (hn : Nat.blt d n = true)
    (q : ∀ a, AgM ds a n ((d, .bool (decide (l ≠ l'))) :: L) → wpQuiet P ops C Qa rest a) : wpQuiet P ops C Qa (⟨some d, .binOp .neq t x y t', ty, pos, after, none⟩ :: rest) a :=
  qt_ok h rfl rfl hn (fun w _hw => by simp [execOp, h.eval hx, h.eval hy, S, eqGuard_at_string, binOp_string_neq]; by_cases e : l = l' <;> simp [e]) q
theorem qt_lts (h : AgM ds a n L) (hx : ev L x = some (S l)) (hy : ev L y = some (S l')) (hn : Nat.blt d n = true)
    (q : ∀ a, AgM ds a n ((d, .bool (Op.bytesLess l l')) :: L) → wpQuiet P ops C Qa rest a) : wpQuiet P ops C Qa (⟨some d, .binOp .lss t x y t', ty, pos, after, none⟩ :: rest) a :=
  qt_ok h rfl rfl hn (fun w _hw => by simp [execOp, h.eval hx, h.eval hy, S, eqGuard_lss, binOp_string_lss]) q
theorem qt_lenS (h : AgM ds a n L) (hx : ev L x = some (.slice A m cp)) (hu : P.underlying t = some (.slice T)) (hn : Nat.blt d n = true) (q : ∀ a, AgM ds a n ((d, .int .i64 (m : Int)) :: L) → wpQuiet P ops C Qa rest a) :
    wpQuiet P ops C Qa (⟨some d, .call ⟨.builtin .len, #[x], #[t]⟩, ty, pos, after, none⟩ :: rest) a :=
  qt_ok h rfl rfl hn (fun w _hw => by
    rw [exec_builtin]; unfold builtin
    simp [h.eval hx, Builtin.len_, run_underlying hu]
    rfl) q
theorem qt_capS (h : AgM ds a n L) (hx : ev L x = some (.slice A m cp)) (hu : P.underlying t = some (.slice T)) (hn : Nat.blt d n = true) (q : ∀ a, AgM ds a n ((d, .int .i64 (cp : Int)) :: L) → wpQuiet P ops C Qa rest a) :
    wpQuiet P ops C Qa (⟨some d, .call ⟨.builtin .cap, #[x], #[t]⟩, ty, pos, after, none⟩ :: rest) a :=
  qt_ok h rfl rfl hn (fun w _hw => by
    rw [exec_builtin]; unfold builtin
    simp [h.eval hx, Builtin.cap_, run_underlying hu]
    rfl) q
theorem qt_sl_h {p : Nat} {α : Type} {E : Enc α} {bytes : Nat} (h : AgM ds a n L) (hx : ev L x = some (.slice A m cp)) (hz : ev L z = some (.int k' j)) (he : ElemOf P t T E bytes) (h0 : 0 ≤ j) (h2 : j ≤ cp) (hp : j.toNat = p) (hn : Nat.blt d n = true)
    (q : ∀ a, AgM ds a n ((d, .slice A p cp) :: L) → wpQuiet P ops C Qa rest a) : wpQuiet P ops C Qa (⟨some d, .slice t x none (some z) none, ty, pos, after, none⟩ :: rest) a := by
  subst hp
  obtain ⟨inf, zv, hin, _, hsz, _⟩ := he.info
  exact qt_ok h rfl rfl hn (fun w _hw => by
    have hA : Option.map (fun x => Addr.add x 0) A = A := by cases A <;> simp [Addr.add]
    simp [execOp, h.eval hx, h.eval hz, Instr.sliceAt, Instr.slice, run_underlying he.und, Instr.sliceBounds, Instr.sliceBound, asIntOf, h0, h2, sizeOf, typeInfo, hin, hA]) q
theorem qt_sl_l {p : Nat} {α : Type} {E : Enc α} {bytes : Nat} (h : AgM ds a n L) (hx : ev L x = some (.slice A m cp)) (hy : ev L y = some (.int k i)) (he : ElemOf P t T E bytes) (h0 : 0 ≤ i) (h1 : i ≤ m) (hp : i.toNat = p) (hn : Nat.blt d n = true)
    (q : ∀ a, AgM ds a n ((d, .slice (if cp = p then A else A.map (·.add (p * E.sz))) (m - p) (cp - p)) :: L) → wpQuiet P ops C Qa rest a) : wpQuiet P ops C Qa (⟨some d, .slice t x (some y) none none, ty, pos, after, none⟩ :: rest) a := by
  subst hp
  obtain ⟨inf, zv, hin, _, hsz, _⟩ := he.info
  exact qt_ok h rfl rfl hn (fun w _hw => by
    simp [execOp, h.eval hx, h.eval hy, Instr.sliceAt, Instr.slice, run_underlying he.und, Instr.sliceBounds, Instr.sliceBound, asIntOf, h0, h1, sizeOf, typeInfo, hin, hsz]) q
theorem qt_sl_lh {p p' : Nat} {α : Type} {E : Enc α} {bytes : Nat} (h : AgM ds a n L) (hx : ev L x = some (.slice A m cp)) (hy : ev L y = some (.int k i)) (hz : ev L z = some (.int k' j)) (he : ElemOf P t T E bytes) (h0 : 0 ≤ i) (h1 : i ≤ j) (h2 : j ≤ cp) (hp : i.toNat = p) (hp' : j.toNat = p') (hn : Nat.blt d n = true)
    (q : ∀ a, AgM ds a n ((d, .slice (if cp = p then A else A.map (·.add (p * E.sz))) (p' - p) (cp - p)) :: L) → wpQuiet P ops C Qa rest a) : wpQuiet P ops C Qa (⟨some d, .slice t x (some y) (some z) none, ty, pos, after, none⟩ :: rest) a := by
  subst hp hp'
  obtain ⟨inf, zv, hin, _, hsz, _⟩ := he.info
  exact qt_ok h rfl rfl hn (fun w _hw => by
    have h3 : 0 ≤ j := by omega
    have h4 : i ≤ ((j.toNat : Nat) : Int) := by omega
    simp [execOp, h.eval hx, h.eval hy, h.eval hz, Instr.sliceAt, Instr.slice, run_underlying he.und, Instr.sliceBounds, Instr.sliceBound, asIntOf, h0, h2, h3, h4, sizeOf, typeInfo, hin, hsz]
    intro hc; omega) q
theorem qt_sl_hm {p p' : Nat} {α : Type} {E : Enc α} {bytes : Nat} {o : Operand} {k'' : IntKind} {r : Int} (h : AgM ds a n L) (hx : ev L x = some (.slice A m cp)) (hz : ev L z = some (.int k' j)) (ho : ev L o = some (.int k'' r)) (he : ElemOf P t T E bytes) (h0 : 0 ≤ j) (h1 : j ≤ r) (h2 : r ≤ cp) (hp : j.toNat = p) (hp' : r.toNat = p') (hn : Nat.blt d n = true)
    (q : ∀ a, AgM ds a n ((d, .slice A p p') :: L) → wpQuiet P ops C Qa rest a) : wpQuiet P ops C Qa (⟨some d, .slice t x none (some z) (some o), ty, pos, after, none⟩ :: rest) a := by
  subst hp hp'
  obtain ⟨inf, zv, hin, _, hsz, _⟩ := he.info
  exact qt_ok h rfl rfl hn (fun w _hw => by
    have h3 : 0 ≤ r := by omega
    have h4 : j ≤ ((r.toNat : Nat) : Int) := by omega
    have hA : Option.map (fun x => Addr.add x 0) A = A := by cases A <;> simp [Addr.add]
    simp [execOp, h.eval hx, h.eval hz, h.eval ho, Instr.sliceAt, Instr.slice, run_underlying he.und, Instr.sliceBounds, Instr.sliceBound, asIntOf, h0, h2, h3, h4, sizeOf, typeInfo, hin, hA]
    intro hc; omega) q
theorem qt_load {ad : Addr} (h : AgM ds a n L) (hx : ev L x = some (.pointer (some ad))) (hc : ∀ w, C w → w.cell? ad = some v) (hg : NotAgg P t) (hn : Nat.blt d n = true) (q : ∀ a, AgM ds a n ((d, v) :: L) → wpQuiet P ops C Qa rest a) :
    wpQuiet P ops C Qa (⟨some d, .load t x, ty, pos, after, none⟩ :: rest) a :=
  qt_ok h rfl rfl hn (fun w _hw => by simp [execOp, h.eval hx, Instr.loadAt, Instr.sureAddr, loadVar, hg w, hc w _hw]) q
theorem qt_loadA {ad : Addr} {cs : List Value} (h : AgM ds a n L) (hx : ev L x = some (.pointer (some ad))) (hc : ∀ w, C w → Cells w ad cs) (hg : AggOf P t cs.length) (hn : Nat.blt d n = true) (q : ∀ a, AgM ds a n ((d, .agg cs.toArray) :: L) → wpQuiet P ops C Qa rest a) :
    wpQuiet P ops C Qa (⟨some d, .load t x, ty, pos, after, none⟩ :: rest) a :=
  qt_ok h rfl rfl hn (fun w _hw => by simp [execOp, h.eval hx, Instr.loadAt, Instr.sureAddr, loadVar, hg.1 w, hg.2 w, run_loadCells_list w ad cs (hc w _hw)]) q
theorem qt_fieldAddr {ad : Addr} {f off : Nat} (h : AgM ds a n L) (hx : ev L x = some (.pointer (some ad))) (hf : FieldAt P t f off) (hn : Nat.blt d n = true) (q : ∀ a, AgM ds a n ((d, .pointer (some (ad.add off))) :: L) → wpQuiet P ops C Qa rest a) :
    wpQuiet P ops C Qa (⟨some d, .fieldAddr t x f, ty, pos, after, none⟩ :: rest) a :=
  qt_ok h rfl rfl hn (fun w _hw => by simp [execOp, h.eval hx, hf ad w]) q
theorem qt_nilCheck {ad : Addr} (h : AgM ds a n L) (hx : ev L x = some (.pointer (some ad))) (hn : Nat.blt d n = true) (q : ∀ a, AgM ds a n ((d, .pointer (some ad)) :: L) → wpQuiet P ops C Qa rest a) :
    wpQuiet P ops C Qa (⟨some d, .nilCheck x, ty, pos, after, none⟩ :: rest) a :=
  qt_ok h rfl rfl hn (fun w _hw => by simp [execOp, h.eval hx]) q
theorem qt_extract {vs : Array Value} {m : Nat} (h : AgM ds a n L) (hx : ev L x = some (.tuple vs)) (hm : vs[m]? = some v) (hn : Nat.blt d n = true) (q : ∀ a, AgM ds a n ((d, v) :: L) → wpQuiet P ops C Qa rest a) :
    wpQuiet P ops C Qa (⟨some d, .extract x m, ty, pos, after, none⟩ :: rest) a :=
  qt_ok h rfl rfl hn (fun w _hw => by simp [execOp, h.eval hx, Instr.extract, hm]) q
theorem qt_field {f : Nat} (h : AgM ds a n L) (hx : ev L x = some v) (hr : ∀ w : World, (Instr.field t v f).run P w = .ok u w) (hn : Nat.blt d n = true) (q : ∀ a, AgM ds a n ((d, u) :: L) → wpQuiet P ops C Qa rest a) :
    wpQuiet P ops C Qa (⟨some d, .field t x f, ty, pos, after, none⟩ :: rest) a :=
  qt_ok h rfl rfl hn (fun w _hw => by simp [execOp, h.eval hx, hr w]) q
theorem qt_build {parts : List (Nat × Operand)} {vs : List (Nat × Value)} (h : AgM ds a n L) (hp : evs L (parts.map (·.2)) (vs.map (·.2))) (hi : parts.map (·.1) = vs.map (·.1)) (hr : ∀ w : World, (Instr.build t vs.toArray).run P w = .ok v w) (hn : Nat.blt d n = true)
    (q : ∀ a, AgM ds a n ((d, v) :: L) → wpQuiet P ops C Qa rest a) : wpQuiet P ops C Qa (⟨some d, .build t parts.toArray, ty, pos, after, none⟩ :: rest) a := by
  have hm : parts.map (fun p => (p.1, a.eval p.2)) = vs := by
    have := h.evals hp
    rw [List.map_map] at this
    apply List.ext_getElem?
    intro m
    have h1 := congrArg (·[m]?) this
    have h2 := congrArg (·[m]?) hi
    simp only [List.getElem?_map, Function.comp] at h1 h2 ⊢
    cases hpm : parts[m]? <;> cases hvm : vs[m]? <;> simp_all
  refine qt_ok h rfl rfl hn (fun w _ => ?_) q
  simp only [execOp, List.map_toArray, hm, Sem.run_bind, hr w, Result.andThen_ok, Sem.run_pure]
section
variable {K : Act → World → Prop} {fu : Nat} {listed : Array Bool} {pq : Option Nat} {w : World}
theorem hd_move (ix : Nat) (hsel : Region.noSelect ops = true) (hfr : Fre pq ops listed ix = true) (hre : (Region.ready .any ops listed).contains ix = true) (hC : C w) (h : AgM ds a n L) (hG : Wd ops n L G) (hx : ev L x = some v) (hix : ops[ix]? = some ⟨some d, .move x, ty, pos, after, G⟩) (hn : Nat.blt d n = true) (q : ∀ a, AgM ds a n ((d, v) :: L) → wpAnyP pq P ops (NormEnd K) C fu (listed.setIfInBounds ix true) a w) :
    wpAnyP pq P ops (NormEnd K) C (fu + 1) listed a w :=
  hd_ok ix hsel hfr hre hC h hG hix rfl hn (fun w _hw => by simp [execOp, h.eval hx]) q
theorem hd_assign (ix : Nat) (hsel : Region.noSelect ops = true) (hfr : Fre pq ops listed ix = true) (hre : (Region.ready .any ops listed).contains ix = true) (hC : C w) (h : AgM ds a n L) (hG : Wd ops n L G) (hx : ev L x = some v) (hix : ops[ix]? = some ⟨some d, .assign x, ty, pos, after, G⟩) (hn : Nat.blt d n = true) (q : ∀ a, AgM ds a n ((d, v) :: L) → wpAnyP pq P ops (NormEnd K) C fu (listed.setIfInBounds ix true) a w) :
    wpAnyP pq P ops (NormEnd K) C (fu + 1) listed a w :=
  hd_ok ix hsel hfr hre hC h hG hix rfl hn (fun w _hw => by simp [execOp, h.eval hx]) q
theorem hd_pick_t {z : Value} {x1 x2 : Operand} (ix : Nat) (hsel : Region.noSelect ops = true) (hfr : Fre pq ops listed ix = true) (hre : (Region.ready .any ops listed).contains ix = true) (hC : C w) (h : AgM ds a n L) (hG : Wd ops n L G) (hx : ev L x = some (.bool b)) (hb : b = true) (hv : ev L x1 = some z) (hix : ops[ix]? = some ⟨some d, .pick x x1 x2, ty, pos, after, G⟩) (hn : Nat.blt d n = true) (q : ∀ a, AgM ds a n ((d, z) :: L) → wpAnyP pq P ops (NormEnd K) C fu (listed.setIfInBounds ix true) a w) :
    wpAnyP pq P ops (NormEnd K) C (fu + 1) listed a w :=
  hd_ok ix hsel hfr hre hC h hG hix rfl hn (fun w _hw => by subst hb; simp [execOp, h.eval hx, asBool, h.eval hv]) q
theorem hd_pick_f {z : Value} {x1 x2 : Operand} (ix : Nat) (hsel : Region.noSelect ops = true) (hfr : Fre pq ops listed ix = true) (hre : (Region.ready .any ops listed).contains ix = true) (hC : C w) (h : AgM ds a n L) (hG : Wd ops n L G) (hx : ev L x = some (.bool b)) (hb : b = false) (hv : ev L x2 = some z) (hix : ops[ix]? = some ⟨some d, .pick x x1 x2, ty, pos, after, G⟩) (hn : Nat.blt d n = true) (q : ∀ a, AgM ds a n ((d, z) :: L) → wpAnyP pq P ops (NormEnd K) C fu (listed.setIfInBounds ix true) a w) :
    wpAnyP pq P ops (NormEnd K) C (fu + 1) listed a w :=
  hd_ok ix hsel hfr hre hC h hG hix rfl hn (fun w _hw => by subst hb; simp [execOp, h.eval hx, asBool, h.eval hv]) q
theorem hd_add {z : Int} (ix : Nat) (hsel : Region.noSelect ops = true) (hfr : Fre pq ops listed ix = true) (hre : (Region.ready .any ops listed).contains ix = true) (hC : C w) (h : AgM ds a n L) (hG : Wd ops n L G) (hx : ev L x = some (.int k i)) (hy : ev L y = some (.int k j)) (hz : k.wrap (i + j) = z) (hix : ops[ix]? = some ⟨some d, .binOp .add t x y t', ty, pos, after, G⟩) (hn : Nat.blt d n = true) (q : ∀ a, AgM ds a n ((d, .int k z) :: L) → wpAnyP pq P ops (NormEnd K) C fu (listed.setIfInBounds ix true) a w) :
    wpAnyP pq P ops (NormEnd K) C (fu + 1) listed a w :=
  hd_ok ix hsel hfr hre hC h hG hix rfl hn (fun w _hw => by subst hz; simp [execOp, h.eval hx, h.eval hy, eqGuard_add, binOp_add, Op.intArith]) q
theorem hd_sub {z : Int} (ix : Nat) (hsel : Region.noSelect ops = true) (hfr : Fre pq ops listed ix = true) (hre : (Region.ready .any ops listed).contains ix = true) (hC : C w) (h : AgM ds a n L) (hG : Wd ops n L G) (hx : ev L x = some (.int k i)) (hy : ev L y = some (.int k j)) (hz : k.wrap (i - j) = z) (hix : ops[ix]? = some ⟨some d, .binOp .sub t x y t', ty, pos, after, G⟩) (hn : Nat.blt d n = true) (q : ∀ a, AgM ds a n ((d, .int k z) :: L) → wpAnyP pq P ops (NormEnd K) C fu (listed.setIfInBounds ix true) a w) :
    wpAnyP pq P ops (NormEnd K) C (fu + 1) listed a w :=
  hd_ok ix hsel hfr hre hC h hG hix rfl hn (fun w _hw => by subst hz; simp [execOp, h.eval hx, h.eval hy, eqGuard_sub, binOp_sub, Op.intArith]) q
theorem hd_mul {z : Int} (ix : Nat) (hsel : Region.noSelect ops = true) (hfr : Fre pq ops listed ix = true) (hre : (Region.ready .any ops listed).contains ix = true) (hC : C w) (h : AgM ds a n L) (hG : Wd ops n L G) (hx : ev L x = some (.int k i)) (hy : ev L y = some (.int k j)) (hz : k.wrap (i * j) = z) (hix : ops[ix]? = some ⟨some d, .binOp .mul t x y t', ty, pos, after, G⟩) (hn : Nat.blt d n = true) (q : ∀ a, AgM ds a n ((d, .int k z) :: L) → wpAnyP pq P ops (NormEnd K) C fu (listed.setIfInBounds ix true) a w) :
    wpAnyP pq P ops (NormEnd K) C (fu + 1) listed a w :=
  hd_ok ix hsel hfr hre hC h hG hix rfl hn (fun w _hw => by subst hz; simp [execOp, h.eval hx, h.eval hy, eqGuard_mul, binOp_mul, Op.intArith]) q
theorem hd_quo {z : Int} (ix : Nat) (hsel : Region.noSelect ops = true) (hfr : Fre pq ops listed ix = true) (hre : (Region.ready .any ops listed).contains ix = true) (hC : C w) (h : AgM ds a n L) (hG : Wd ops n L G) (hx : ev L x = some (.int k i)) (hy : ev L y = some (.int k j)) (h0 : j ≠ 0) (hz : k.wrap (i.tdiv j) = z) (hix : ops[ix]? = some ⟨some d, .binOp .quo t x y t', ty, pos, after, G⟩) (hn : Nat.blt d n = true) (q : ∀ a, AgM ds a n ((d, .int k z) :: L) → wpAnyP pq P ops (NormEnd K) C fu (listed.setIfInBounds ix true) a w) :
    wpAnyP pq P ops (NormEnd K) C (fu + 1) listed a w :=
  hd_ok ix hsel hfr hre hC h hG hix rfl hn (fun w _hw => by subst hz; simp [execOp, h.eval hx, h.eval hy, eqGuard_quo, binOp_quo, Op.intDiv, h0]) q
theorem hd_rem {z : Int} (ix : Nat) (hsel : Region.noSelect ops = true) (hfr : Fre pq ops listed ix = true) (hre : (Region.ready .any ops listed).contains ix = true) (hC : C w) (h : AgM ds a n L) (hG : Wd ops n L G) (hx : ev L x = some (.int k i)) (hy : ev L y = some (.int k j)) (h0 : j ≠ 0) (hz : i.tmod j = z) (hix : ops[ix]? = some ⟨some d, .binOp .rem t x y t', ty, pos, after, G⟩) (hn : Nat.blt d n = true) (q : ∀ a, AgM ds a n ((d, .int k z) :: L) → wpAnyP pq P ops (NormEnd K) C fu (listed.setIfInBounds ix true) a w) :
    wpAnyP pq P ops (NormEnd K) C (fu + 1) listed a w :=
  hd_ok ix hsel hfr hre hC h hG hix rfl hn (fun w _hw => by subst hz; simp [execOp, h.eval hx, h.eval hy, eqGuard_rem, binOp_rem, Op.intDiv, h0]) q
theorem hd_eq (ix : Nat) (hsel : Region.noSelect ops = true) (hfr : Fre pq ops listed ix = true) (hre : (Region.ready .any ops listed).contains ix = true) (hC : C w) (h : AgM ds a n L) (hG : Wd ops n L G) (hx : ev L x = some (.int k i)) (hy : ev L y = some (.int k j)) (hix : ops[ix]? = some ⟨some d, .binOp .eql t x y t', ty, pos, after, G⟩) (hn : Nat.blt d n = true) (q : ∀ a, AgM ds a n ((d, .bool (decide (i = j))) :: L) → wpAnyP pq P ops (NormEnd K) C fu (listed.setIfInBounds ix true) a w) :
    wpAnyP pq P ops (NormEnd K) C (fu + 1) listed a w :=
  hd_ok ix hsel hfr hre hC h hG hix rfl hn (fun w _hw => by simp [execOp, h.eval hx, h.eval hy, eqGuard_at_int, binOp_eql, beq_dec]) q
theorem hd_ne (ix : Nat) (hsel : Region.noSelect ops = true) (hfr : Fre pq ops listed ix = true) (hre : (Region.ready .any ops listed).contains ix = true) (hC : C w) (h : AgM ds a n L) (hG : Wd ops n L G) (hx : ev L x = some (.int k i)) (hy : ev L y = some (.int k j)) (hix : ops[ix]? = some ⟨some d, .binOp .neq t x y t', ty, pos, after, G⟩) (hn : Nat.blt d n = true) (q : ∀ a, AgM ds a n ((d, .bool (decide (i ≠ j))) :: L) → wpAnyP pq P ops (NormEnd K) C fu (listed.setIfInBounds ix true) a w) :
    wpAnyP pq P ops (NormEnd K) C (fu + 1) listed a w :=
  hd_ok ix hsel hfr hre hC h hG hix rfl hn (fun w _hw => by simp [execOp, h.eval hx, h.eval hy, eqGuard_at_int, binOp_neq, bne, beq_dec]) q
theorem hd_lt (ix : Nat) (hsel : Region.noSelect ops = true) (hfr : Fre pq ops listed ix = true) (hre : (Region.ready .any ops listed).contains ix = true) (hC : C w) (h : AgM ds a n L) (hG : Wd ops n L G) (hx : ev L x = some (.int k i)) (hy : ev L y = some (.int k j)) (hix : ops[ix]? = some ⟨some d, .binOp .lss t x y t', ty, pos, after, G⟩) (hn : Nat.blt d n = true) (q : ∀ a, AgM ds a n ((d, .bool (decide (i < j))) :: L) → wpAnyP pq P ops (NormEnd K) C fu (listed.setIfInBounds ix true) a w) :
    wpAnyP pq P ops (NormEnd K) C (fu + 1) listed a w :=
  hd_ok ix hsel hfr hre hC h hG hix rfl hn (fun w _hw => by simp [execOp, h.eval hx, h.eval hy, eqGuard_lss, binOp_lss]) q
theorem hd_le (ix : Nat) (hsel : Region.noSelect ops = true) (hfr : Fre pq ops listed ix = true) (hre : (Region.ready .any ops listed).contains ix = true) (hC : C w) (h : AgM ds a n L) (hG : Wd ops n L G) (hx : ev L x = some (.int k i)) (hy : ev L y = some (.int k j)) (hix : ops[ix]? = some ⟨some d, .binOp .leq t x y t', ty, pos, after, G⟩) (hn : Nat.blt d n = true) (q : ∀ a, AgM ds a n ((d, .bool (decide (i ≤ j))) :: L) → wpAnyP pq P ops (NormEnd K) C fu (listed.setIfInBounds ix true) a w) :
    wpAnyP pq P ops (NormEnd K) C (fu + 1) listed a w :=
  hd_ok ix hsel hfr hre hC h hG hix rfl hn (fun w _hw => by simp [execOp, h.eval hx, h.eval hy, eqGuard_leq, binOp_leq]) q
theorem hd_gt (ix : Nat) (hsel : Region.noSelect ops = true) (hfr : Fre pq ops listed ix = true) (hre : (Region.ready .any ops listed).contains ix = true) (hC : C w) (h : AgM ds a n L) (hG : Wd ops n L G) (hx : ev L x = some (.int k i)) (hy : ev L y = some (.int k j)) (hix : ops[ix]? = some ⟨some d, .binOp .gtr t x y t', ty, pos, after, G⟩) (hn : Nat.blt d n = true) (q : ∀ a, AgM ds a n ((d, .bool (decide (j < i))) :: L) → wpAnyP pq P ops (NormEnd K) C fu (listed.setIfInBounds ix true) a w) :
    wpAnyP pq P ops (NormEnd K) C (fu + 1) listed a w :=
  hd_ok ix hsel hfr hre hC h hG hix rfl hn (fun w _hw => by simp [execOp, h.eval hx, h.eval hy, eqGuard_gtr, binOp_gtr]) q
theorem hd_ge (ix : Nat) (hsel : Region.noSelect ops = true) (hfr : Fre pq ops listed ix = true) (hre : (Region.ready .any ops listed).contains ix = true) (hC : C w) (h : AgM ds a n L) (hG : Wd ops n L G) (hx : ev L x = some (.int k i)) (hy : ev L y = some (.int k j)) (hix : ops[ix]? = some ⟨some d, .binOp .geq t x y t', ty, pos, after, G⟩) (hn : Nat.blt d n = true) (q : ∀ a, AgM ds a n ((d, .bool (decide (j ≤ i))) :: L) → wpAnyP pq P ops (NormEnd K) C fu (listed.setIfInBounds ix true) a w) :
    wpAnyP pq P ops (NormEnd K) C (fu + 1) listed a w :=
  hd_ok ix hsel hfr hre hC h hG hix rfl hn (fun w _hw => by simp [execOp, h.eval hx, h.eval hy, eqGuard_geq, binOp_geq]) q
theorem hd_neg {z : Int} (ix : Nat) (hsel : Region.noSelect ops = true) (hfr : Fre pq ops listed ix = true) (hre : (Region.ready .any ops listed).contains ix = true) (hC : C w) (h : AgM ds a n L) (hG : Wd ops n L G) (hx : ev L x = some (.int k i)) (hz : k.wrap (0 - i) = z) (hix : ops[ix]? = some ⟨some d, .unOp .neg t x, ty, pos, after, G⟩) (hn : Nat.blt d n = true) (q : ∀ a, AgM ds a n ((d, .int k z) :: L) → wpAnyP pq P ops (NormEnd K) C fu (listed.setIfInBounds ix true) a w) :
    wpAnyP pq P ops (NormEnd K) C (fu + 1) listed a w :=
  hd_ok ix hsel hfr hre hC h hG hix rfl hn (fun w _hw => by subst hz; simp [execOp, h.eval hx, unary_neg, Op.intArith]) q
theorem hd_not (ix : Nat) (hsel : Region.noSelect ops = true) (hfr : Fre pq ops listed ix = true) (hre : (Region.ready .any ops listed).contains ix = true) (hC : C w) (h : AgM ds a n L) (hG : Wd ops n L G) (hx : ev L x = some (.bool b)) (hix : ops[ix]? = some ⟨some d, .unOp .not t x, ty, pos, after, G⟩) (hn : Nat.blt d n = true) (q : ∀ a, AgM ds a n ((d, .bool (!b)) :: L) → wpAnyP pq P ops (NormEnd K) C fu (listed.setIfInBounds ix true) a w) :
    wpAnyP pq P ops (NormEnd K) C (fu + 1) listed a w :=
  hd_ok ix hsel hfr hre hC h hG hix rfl hn (fun w _hw => by simp [execOp, h.eval hx, unary_not]) q
theorem hd_conv {z : Int} (ix : Nat) (hsel : Region.noSelect ops = true) (hfr : Fre pq ops listed ix = true) (hre : (Region.ready .any ops listed).contains ix = true) (hC : C w) (h : AgM ds a n L) (hG : Wd ops n L G) (hx : ev L x = some (.int k i)) (hs : (P.underlying t).isSome = true) (hd : P.underlying t' = some (.int k')) (hz : k'.wrap i = z) (hix : ops[ix]? = some ⟨some d, .convert t t' x, ty, pos, after, G⟩) (hn : Nat.blt d n = true) (q : ∀ a, AgM ds a n ((d, .int k' z) :: L) → wpAnyP pq P ops (NormEnd K) C fu (listed.setIfInBounds ix true) a w) :
    wpAnyP pq P ops (NormEnd K) C (fu + 1) listed a w :=
  hd_ok ix hsel hfr hre hC h hG hix rfl hn (fun w _hw => by
    obtain ⟨u, hu⟩ := Option.isSome_iff_exists.mp hs
    subst hz; simp [execOp, h.eval hx, convert, run_underlying hu, run_underlying hd, Conv.intToInt]) q
theorem hd_min {ts : Array TypeId} (ix : Nat) (hsel : Region.noSelect ops = true) (hfr : Fre pq ops listed ix = true) (hre : (Region.ready .any ops listed).contains ix = true) (hC : C w) (h : AgM ds a n L) (hG : Wd ops n L G) (hx : ev L x = some (.int k i)) (hy : ev L y = some (.int k' j)) (hix : ops[ix]? = some ⟨some d, .call ⟨.builtin .min, #[x, y], ts⟩, ty, pos, after, G⟩) (hn : Nat.blt d n = true) (q : ∀ a, AgM ds a n ((d, .int k (min i j)) :: L) → wpAnyP pq P ops (NormEnd K) C fu (listed.setIfInBounds ix true) a w) :
    wpAnyP pq P ops (NormEnd K) C (fu + 1) listed a w :=
  hd_ok ix hsel hfr hre hC h hG hix rfl hn (fun w _hw => by
    rw [exec_builtin]; unfold builtin
    simp only [List.map_toArray, List.map_cons, List.map_nil, h.eval hx, h.eval hy, Sem.run_bind, run_min_int2, Result.andThen_ok, Sem.run_pure]
    congr 3; omega) q
theorem hd_max {ts : Array TypeId} (ix : Nat) (hsel : Region.noSelect ops = true) (hfr : Fre pq ops listed ix = true) (hre : (Region.ready .any ops listed).contains ix = true) (hC : C w) (h : AgM ds a n L) (hG : Wd ops n L G) (hx : ev L x = some (.int k i)) (hy : ev L y = some (.int k' j)) (hix : ops[ix]? = some ⟨some d, .call ⟨.builtin .max, #[x, y], ts⟩, ty, pos, after, G⟩) (hn : Nat.blt d n = true) (q : ∀ a, AgM ds a n ((d, .int k (max i j)) :: L) → wpAnyP pq P ops (NormEnd K) C fu (listed.setIfInBounds ix true) a w) :
    wpAnyP pq P ops (NormEnd K) C (fu + 1) listed a w :=
  hd_ok ix hsel hfr hre hC h hG hix rfl hn (fun w _hw => by
    rw [exec_builtin]; unfold builtin
    simp only [List.map_toArray, List.map_cons, List.map_nil, h.eval hx, h.eval hy, Sem.run_bind, run_max_int2, Result.andThen_ok, Sem.run_pure]
    congr 3; omega) q
theorem hd_eqb (ix : Nat) (hsel : Region.noSelect ops = true) (hfr : Fre pq ops listed ix = true) (hre : (Region.ready .any ops listed).contains ix = true) (hC : C w) (h : AgM ds a n L) (hG : Wd ops n L G) (hx : ev L x = some (.bool b)) (hy : ev L y = some (.bool c)) (hu : P.underlying t = some .bool) (hix : ops[ix]? = some ⟨some d, .binOp .eql t x y t', ty, pos, after, G⟩) (hn : Nat.blt d n = true) (q : ∀ a, AgM ds a n ((d, .bool (decide (b = c))) :: L) → wpAnyP pq P ops (NormEnd K) C fu (listed.setIfInBounds ix true) a w) :
    wpAnyP pq P ops (NormEnd K) C (fu + 1) listed a w :=
  hd_ok ix hsel hfr hre hC h hG hix rfl hn (fun w _hw => by simp [execOp, h.eval hx, h.eval hy, eqGuard_at_bool, run_eql_bool w t b c hu]; cases b <;> cases c <;> rfl) q
theorem hd_neb (ix : Nat) (hsel : Region.noSelect ops = true) (hfr : Fre pq ops listed ix = true) (hre : (Region.ready .any ops listed).contains ix = true) (hC : C w) (h : AgM ds a n L) (hG : Wd ops n L G) (hx : ev L x = some (.bool b)) (hy : ev L y = some (.bool c)) (hu : P.underlying t = some .bool) (hix : ops[ix]? = some ⟨some d, .binOp .neq t x y t', ty, pos, after, G⟩) (hn : Nat.blt d n = true) (q : ∀ a, AgM ds a n ((d, .bool (decide (b ≠ c))) :: L) → wpAnyP pq P ops (NormEnd K) C fu (listed.setIfInBounds ix true) a w) :
    wpAnyP pq P ops (NormEnd K) C (fu + 1) listed a w :=
  hd_ok ix hsel hfr hre hC h hG hix rfl hn (fun w _hw => by simp [execOp, h.eval hx, h.eval hy, eqGuard_at_bool, run_neq_bool w t b c hu]; cases b <;> cases c <;> rfl) q
theorem hd_len (ix : Nat) (hsel : Region.noSelect ops = true) (hfr : Fre pq ops listed ix = true) (hre : (Region.ready .any ops listed).contains ix = true) (hC : C w) (h : AgM ds a n L) (hG : Wd ops n L G) (hx : ev L x = some (S l)) (hu : P.underlying t = some .string) (hix : ops[ix]? = some ⟨some d, .call ⟨.builtin .len, #[x], #[t]⟩, ty, pos, after, G⟩) (hn : Nat.blt d n = true) (q : ∀ a, AgM ds a n ((d, .int .i64 (l.length : Int)) :: L) → wpAnyP pq P ops (NormEnd K) C fu (listed.setIfInBounds ix true) a w) :
    wpAnyP pq P ops (NormEnd K) C (fu + 1) listed a w :=
  hd_ok ix hsel hfr hre hC h hG hix rfl hn (fun w _hw => by
    rw [exec_builtin]; unfold builtin
    simp only [List.map_toArray, List.map_cons, List.map_nil, h.eval hx, S, Sem.run_bind, run_len_string w t _ _ hu, Result.andThen_ok, Sem.run_pure]
    rfl) q
theorem hd_index {p : Nat} (ix : Nat) (hsel : Region.noSelect ops = true) (hfr : Fre pq ops listed ix = true) (hre : (Region.ready .any ops listed).contains ix = true) (hC : C w) (h : AgM ds a n L) (hG : Wd ops n L G) (hx : ev L x = some (S l)) (hy : ev L y = some (.int k i)) (hu : P.underlying t = some .string) (h0 : 0 ≤ i) (h1 : i < l.length) (hp : i.toNat = p) (hix : ops[ix]? = some ⟨some d, .index t x y, ty, pos, after, G⟩) (hn : Nat.blt d n = true)
    (q : 0 ≤ ((l.getD p 0).toNat : Int) ∧ ((l.getD p 0).toNat : Int) ≤ 255 → ∀ a, AgM ds a n ((d, .int .u8 ((l.getD p 0).toNat : Int)) :: L) → wpAnyP pq P ops (NormEnd K) C fu (listed.setIfInBounds ix true) a w) : wpAnyP pq P ops (NormEnd K) C (fu + 1) listed a w :=
  hd_ok ix hsel hfr hre hC h hG hix rfl hn (fun w _hw => by
    have hs : (ByteArray.mk l.toArray).size = l.length := by simp [ByteArray.size]
    have h1' : i < ((ByteArray.mk l.toArray).size : Nat) := by rw [hs]; exact h1
    have hl : i.toNat < l.length := by omega
    subst hp
    simp [execOp, h.eval hx, h.eval hy, S, run_index_string w t _ k i hu, h0, h1']
    simp [hl]; rfl) (q (byte_rng _))
theorem hd_ss_lh {p p' : Nat} (ix : Nat) (hsel : Region.noSelect ops = true) (hfr : Fre pq ops listed ix = true) (hre : (Region.ready .any ops listed).contains ix = true) (hC : C w) (h : AgM ds a n L) (hG : Wd ops n L G) (hx : ev L x = some (S l)) (hy : ev L y = some (.int k i)) (hz : ev L z = some (.int k' j)) (hu : P.underlying t = some .string) (h0 : 0 ≤ i) (h1 : i ≤ j) (h2 : j ≤ l.length) (hp : i.toNat = p) (hp' : j.toNat = p') (hix : ops[ix]? = some ⟨some d, .slice t x (some y) (some z) none, ty, pos, after, G⟩) (hn : Nat.blt d n = true)
    (q : ∀ a, AgM ds a n ((d, S ((l.take p').drop p)) :: L) → wpAnyP pq P ops (NormEnd K) C fu (listed.setIfInBounds ix true) a w) : wpAnyP pq P ops (NormEnd K) C (fu + 1) listed a w :=
  hd_ok ix hsel hfr hre hC h hG hix rfl hn (fun w _hw => by
    have hs : j ≤ ((ByteArray.mk l.toArray).size : Nat) := by simpa [ByteArray.size] using h2
    subst hp hp'
    have hr := run_slice_string (P := P) w t ⟨l.toArray⟩ k k' i j hu h0 h1 hs
    rw [ext_list] at hr
    simp [execOp, h.eval hx, h.eval hy, h.eval hz, S, run_sliceAt_string w t _ _ _ _ hu, hr]) q
theorem hd_ss_l {p : Nat} (ix : Nat) (hsel : Region.noSelect ops = true) (hfr : Fre pq ops listed ix = true) (hre : (Region.ready .any ops listed).contains ix = true) (hC : C w) (h : AgM ds a n L) (hG : Wd ops n L G) (hx : ev L x = some (S l)) (hy : ev L y = some (.int k i)) (hu : P.underlying t = some .string) (h0 : 0 ≤ i) (h1 : i ≤ l.length) (hp : i.toNat = p) (hix : ops[ix]? = some ⟨some d, .slice t x (some y) none none, ty, pos, after, G⟩) (hn : Nat.blt d n = true)
    (q : ∀ a, AgM ds a n ((d, S (l.drop p)) :: L) → wpAnyP pq P ops (NormEnd K) C fu (listed.setIfInBounds ix true) a w) : wpAnyP pq P ops (NormEnd K) C (fu + 1) listed a w :=
  hd_ok ix hsel hfr hre hC h hG hix rfl hn (fun w _hw => by
    have hs : i ≤ ((ByteArray.mk l.toArray).size : Nat) := by simpa [ByteArray.size] using h1
    subst hp
    have hr := run_slice_string_l (P := P) w t ⟨l.toArray⟩ hu k i h0 hs
    rw [ext_list, List.take_of_length_le (by simp [ByteArray.size])] at hr
    simp [execOp, h.eval hx, h.eval hy, S, run_sliceAt_string w t _ _ _ _ hu, hr]) q
theorem hd_ss_h {p : Nat} (ix : Nat) (hsel : Region.noSelect ops = true) (hfr : Fre pq ops listed ix = true) (hre : (Region.ready .any ops listed).contains ix = true) (hC : C w) (h : AgM ds a n L) (hG : Wd ops n L G) (hx : ev L x = some (S l)) (hz : ev L z = some (.int k' j)) (hu : P.underlying t = some .string) (h0 : 0 ≤ j) (h2 : j ≤ l.length) (hp : j.toNat = p) (hix : ops[ix]? = some ⟨some d, .slice t x none (some z) none, ty, pos, after, G⟩) (hn : Nat.blt d n = true)
    (q : ∀ a, AgM ds a n ((d, S (l.take p)) :: L) → wpAnyP pq P ops (NormEnd K) C fu (listed.setIfInBounds ix true) a w) : wpAnyP pq P ops (NormEnd K) C (fu + 1) listed a w :=
  hd_ok ix hsel hfr hre hC h hG hix rfl hn (fun w _hw => by
    have hs : j ≤ ((ByteArray.mk l.toArray).size : Nat) := by simpa [ByteArray.size] using h2
    subst hp
    have hr := run_slice_string_h (P := P) w t ⟨l.toArray⟩ hu k' j h0 hs
    rw [ext_list, List.drop_zero] at hr
    simp [execOp, h.eval hx, h.eval hz, S, run_sliceAt_string w t _ _ _ _ hu, hr]) q
theorem hd_adds (ix : Nat) (hsel : Region.noSelect ops = true) (hfr : Fre pq ops listed ix = true) (hre : (Region.ready .any ops listed).contains ix = true) (hC : C w) (h : AgM ds a n L) (hG : Wd ops n L G) (hx : ev L x = some (S l)) (hy : ev L y = some (S l')) (hb : l.length + l'.length ≤ 9223372036854775807) (hix : ops[ix]? = some ⟨some d, .binOp .add t x y t', ty, pos, after, G⟩) (hn : Nat.blt d n = true)
    (q : ∀ a, AgM ds a n ((d, S (l ++ l')) :: L) → wpAnyP pq P ops (NormEnd K) C fu (listed.setIfInBounds ix true) a w) : wpAnyP pq P ops (NormEnd K) C (fu + 1) listed a w :=
  hd_ok ix hsel hfr hre hC h hG hix rfl hn (fun w _hw => by
    have hr := run_string_add_sum (P := P) w ⟨l.toArray⟩ ⟨l'.toArray⟩ (by simpa [ByteArray.size] using hb)
    rw [ByteArray.mk_append_mk] at hr
    simp [execOp, h.eval hx, h.eval hy, S, eqGuard_add, binOp_string_add, hr]) q
theorem hd_eqs (ix : Nat) (hsel : Region.noSelect ops = true) (hfr : Fre pq ops listed ix = true) (hre : (Region.ready .any ops listed).contains ix = true) (hC : C w) (h : AgM ds a n L) (hG : Wd ops n L G) (hx : ev L x = some (S l)) (hy : ev L y = some (S l')) (hix : ops[ix]? = some ⟨some d, .binOp .eql t x y t', ty, pos, after, G⟩) (hn : Nat.blt d n = true)
    (q : ∀ a, AgM ds a n ((d, .bool (decide (l = l'))) :: L) → wpAnyP pq P ops (NormEnd K) C fu (listed.setIfInBounds ix true) a w) : wpAnyP pq P ops (NormEnd K) C (fu + 1) listed a w :=
  hd_ok ix hsel hfr hre hC h hG hix rfl hn (fun w _hw => by simp [execOp, h.eval hx, h.eval hy, S, eqGuard_at_string, binOp_string_eql]; by_cases e : l = l' <;> simp [e]) q
theorem hd_nes (ix : Nat) (hsel : Region.noSelect ops = true) (hfr : Fre pq ops listed ix = true) (hre : (Region.ready .any ops listed).contains ix = true) (hC : C w) (h : AgM ds a n L) (hG : Wd ops n L G) (hx : ev L x = some (S l)) (hy : ev L y = some (S l')) (hix : ops[ix]? = some ⟨some d, .binOp .neq t x y t', ty, pos, after, G⟩) (hn : Nat.blt d n = true)
    (q : ∀ a, AgM ds a n ((d, .bool (decide (l ≠ l'))) :: L) → wpAnyP pq P ops (NormEnd K) C fu (listed.setIfInBounds ix true) a w) : wpAnyP pq P ops (NormEnd K) C (fu + 1) listed a w :=
  hd_ok ix hsel hfr hre hC h hG hix rfl hn (fun w _hw => by simp [execOp, h.eval hx, h.eval hy, S, eqGuard_at_string, binOp_string_neq]; by_cases e : l = l' <;> simp [e]) q
theorem hd_lts (ix : Nat) (hsel : Region.noSelect ops = true) (hfr : Fre pq ops listed ix = true) (hre : (Region.ready .any ops listed).contains ix = true) (hC : C w) (h : AgM ds a n L) (hG : Wd ops n L G) (hx : ev L x = some (S l)) (hy : ev L y = some (S l')) (hix : ops[ix]? = some ⟨some d, .binOp .lss t x y t', ty, pos, after, G⟩) (hn : Nat.blt d n = true)
    (q : ∀ a, AgM ds a n ((d, .bool (Op.bytesLess l l')) :: L) → wpAnyP pq P ops (NormEnd K) C fu (listed.setIfInBounds ix true) a w) : wpAnyP pq P ops (NormEnd K) C (fu + 1) listed a w :=
  hd_ok ix hsel hfr hre hC h hG hix rfl hn (fun w _hw => by simp [execOp, h.eval hx, h.eval hy, S, eqGuard_lss, binOp_string_lss]) q
theorem hd_lenS (ix : Nat) (hsel : Region.noSelect ops = true) (hfr : Fre pq ops listed ix = true) (hre : (Region.ready .any ops listed).contains ix = true) (hC : C w) (h : AgM ds a n L) (hG : Wd ops n L G) (hx : ev L x = some (.slice A m cp)) (hu : P.underlying t = some (.slice T)) (hix : ops[ix]? = some ⟨some d, .call ⟨.builtin .len, #[x], #[t]⟩, ty, pos, after, G⟩) (hn : Nat.blt d n = true) (q : ∀ a, AgM ds a n ((d, .int .i64 (m : Int)) :: L) → wpAnyP pq P ops (NormEnd K) C fu (listed.setIfInBounds ix true) a w) :
    wpAnyP pq P ops (NormEnd K) C (fu + 1) listed a w :=
  hd_ok ix hsel hfr hre hC h hG hix rfl hn (fun w _hw => by
    rw [exec_builtin]; unfold builtin
    simp [h.eval hx, Builtin.len_, run_underlying hu]
    rfl) q
theorem hd_capS (ix : Nat) (hsel : Region.noSelect ops = true) (hfr : Fre pq ops listed ix = true) (hre : (Region.ready .any ops listed).contains ix = true) (hC : C w) (h : AgM ds a n L) (hG : Wd ops n L G) (hx : ev L x = some (.slice A m cp)) (hu : P.underlying t = some (.slice T)) (hix : ops[ix]? = some ⟨some d, .call ⟨.builtin .cap, #[x], #[t]⟩, ty, pos, after, G⟩) (hn : Nat.blt d n = true) (q : ∀ a, AgM ds a n ((d, .int .i64 (cp : Int)) :: L) → wpAnyP pq P ops (NormEnd K) C fu (listed.setIfInBounds ix true) a w) :
    wpAnyP pq P ops (NormEnd K) C (fu + 1) listed a w :=
  hd_ok ix hsel hfr hre hC h hG hix rfl hn (fun w _hw => by
    rw [exec_builtin]; unfold builtin
    simp [h.eval hx, Builtin.cap_, run_underlying hu]
    rfl) q
theorem hd_sl_h {p : Nat} {α : Type} {E : Enc α} {bytes : Nat} (ix : Nat) (hsel : Region.noSelect ops = true) (hfr : Fre pq ops listed ix = true) (hre : (Region.ready .any ops listed).contains ix = true) (hC : C w) (h : AgM ds a n L) (hG : Wd ops n L G) (hx : ev L x = some (.slice A m cp)) (hz : ev L z = some (.int k' j)) (he : ElemOf P t T E bytes) (h0 : 0 ≤ j) (h2 : j ≤ cp) (hp : j.toNat = p) (hix : ops[ix]? = some ⟨some d, .slice t x none (some z) none, ty, pos, after, G⟩) (hn : Nat.blt d n = true)
    (q : ∀ a, AgM ds a n ((d, .slice A p cp) :: L) → wpAnyP pq P ops (NormEnd K) C fu (listed.setIfInBounds ix true) a w) : wpAnyP pq P ops (NormEnd K) C (fu + 1) listed a w := by
  subst hp
  obtain ⟨inf, zv, hin, _, hsz, _⟩ := he.info
  exact hd_ok ix hsel hfr hre hC h hG hix rfl hn (fun w _hw => by
    have hA : Option.map (fun x => Addr.add x 0) A = A := by cases A <;> simp [Addr.add]
    simp [execOp, h.eval hx, h.eval hz, Instr.sliceAt, Instr.slice, run_underlying he.und, Instr.sliceBounds, Instr.sliceBound, asIntOf, h0, h2, sizeOf, typeInfo, hin, hA]) q
theorem hd_sl_l {p : Nat} {α : Type} {E : Enc α} {bytes : Nat} (ix : Nat) (hsel : Region.noSelect ops = true) (hfr : Fre pq ops listed ix = true) (hre : (Region.ready .any ops listed).contains ix = true) (hC : C w) (h : AgM ds a n L) (hG : Wd ops n L G) (hx : ev L x = some (.slice A m cp)) (hy : ev L y = some (.int k i)) (he : ElemOf P t T E bytes) (h0 : 0 ≤ i) (h1 : i ≤ m) (hp : i.toNat = p) (hix : ops[ix]? = some ⟨some d, .slice t x (some y) none none, ty, pos, after, G⟩) (hn : Nat.blt d n = true)
    (q : ∀ a, AgM ds a n ((d, .slice (if cp = p then A else A.map (·.add (p * E.sz))) (m - p) (cp - p)) :: L) → wpAnyP pq P ops (NormEnd K) C fu (listed.setIfInBounds ix true) a w) : wpAnyP pq P ops (NormEnd K) C (fu + 1) listed a w := by
  subst hp
  obtain ⟨inf, zv, hin, _, hsz, _⟩ := he.info
  exact hd_ok ix hsel hfr hre hC h hG hix rfl hn (fun w _hw => by
    simp [execOp, h.eval hx, h.eval hy, Instr.sliceAt, Instr.slice, run_underlying he.und, Instr.sliceBounds, Instr.sliceBound, asIntOf, h0, h1, sizeOf, typeInfo, hin, hsz]) q
theorem hd_sl_lh {p p' : Nat} {α : Type} {E : Enc α} {bytes : Nat} (ix : Nat) (hsel : Region.noSelect ops = true) (hfr : Fre pq ops listed ix = true) (hre : (Region.ready .any ops listed).contains ix = true) (hC : C w) (h : AgM ds a n L) (hG : Wd ops n L G) (hx : ev L x = some (.slice A m cp)) (hy : ev L y = some (.int k i)) (hz : ev L z = some (.int k' j)) (he : ElemOf P t T E bytes) (h0 : 0 ≤ i) (h1 : i ≤ j) (h2 : j ≤ cp) (hp : i.toNat = p) (hp' : j.toNat = p') (hix : ops[ix]? = some ⟨some d, .slice t x (some y) (some z) none, ty, pos, after, G⟩) (hn : Nat.blt d n = true)
    (q : ∀ a, AgM ds a n ((d, .slice (if cp = p then A else A.map (·.add (p * E.sz))) (p' - p) (cp - p)) :: L) → wpAnyP pq P ops (NormEnd K) C fu (listed.setIfInBounds ix true) a w) : wpAnyP pq P ops (NormEnd K) C (fu + 1) listed a w := by
  subst hp hp'
  obtain ⟨inf, zv, hin, _, hsz, _⟩ := he.info
  exact hd_ok ix hsel hfr hre hC h hG hix rfl hn (fun w _hw => by
    have h3 : 0 ≤ j := by omega
    have h4 : i ≤ ((j.toNat : Nat) : Int) := by omega
    simp [execOp, h.eval hx, h.eval hy, h.eval hz, Instr.sliceAt, Instr.slice, run_underlying he.und, Instr.sliceBounds, Instr.sliceBound, asIntOf, h0, h2, h3, h4, sizeOf, typeInfo, hin, hsz]
    intro hc; omega) q
theorem hd_sl_hm {p p' : Nat} {α : Type} {E : Enc α} {bytes : Nat} {o : Operand} {k'' : IntKind} {r : Int} (ix : Nat) (hsel : Region.noSelect ops = true) (hfr : Fre pq ops listed ix = true) (hre : (Region.ready .any ops listed).contains ix = true) (hC : C w) (h : AgM ds a n L) (hG : Wd ops n L G) (hx : ev L x = some (.slice A m cp)) (hz : ev L z = some (.int k' j)) (ho : ev L o = some (.int k'' r)) (he : ElemOf P t T E bytes) (h0 : 0 ≤ j) (h1 : j ≤ r) (h2 : r ≤ cp) (hp : j.toNat = p) (hp' : r.toNat = p') (hix : ops[ix]? = some ⟨some d, .slice t x none (some z) (some o), ty, pos, after, G⟩) (hn : Nat.blt d n = true)
    (q : ∀ a, AgM ds a n ((d, .slice A p p') :: L) → wpAnyP pq P ops (NormEnd K) C fu (listed.setIfInBounds ix true) a w) : wpAnyP pq P ops (NormEnd K) C (fu + 1) listed a w := by
  subst hp hp'
  obtain ⟨inf, zv, hin, _, hsz, _⟩ := he.info
  exact hd_ok ix hsel hfr hre hC h hG hix rfl hn (fun w _hw => by
    have h3 : 0 ≤ r := by omega
    have h4 : j ≤ ((r.toNat : Nat) : Int) := by omega
    have hA : Option.map (fun x => Addr.add x 0) A = A := by cases A <;> simp [Addr.add]
    simp [execOp, h.eval hx, h.eval hz, h.eval ho, Instr.sliceAt, Instr.slice, run_underlying he.und, Instr.sliceBounds, Instr.sliceBound, asIntOf, h0, h2, h3, h4, sizeOf, typeInfo, hin, hA]
    intro hc; omega) q
theorem hd_load {ad : Addr} (ix : Nat) (hsel : Region.noSelect ops = true) (hfr : Fre pq ops listed ix = true) (hre : (Region.ready .any ops listed).contains ix = true) (hC : C w) (h : AgM ds a n L) (hG : Wd ops n L G) (hx : ev L x = some (.pointer (some ad))) (hc : ∀ w, C w → w.cell? ad = some v) (hg : NotAgg P t) (hix : ops[ix]? = some ⟨some d, .load t x, ty, pos, after, G⟩) (hn : Nat.blt d n = true) (q : ∀ a, AgM ds a n ((d, v) :: L) → wpAnyP pq P ops (NormEnd K) C fu (listed.setIfInBounds ix true) a w) :
    wpAnyP pq P ops (NormEnd K) C (fu + 1) listed a w :=
  hd_ok ix hsel hfr hre hC h hG hix rfl hn (fun w _hw => by simp [execOp, h.eval hx, Instr.loadAt, Instr.sureAddr, loadVar, hg w, hc w _hw]) q
theorem hd_loadA {ad : Addr} {cs : List Value} (ix : Nat) (hsel : Region.noSelect ops = true) (hfr : Fre pq ops listed ix = true) (hre : (Region.ready .any ops listed).contains ix = true) (hC : C w) (h : AgM ds a n L) (hG : Wd ops n L G) (hx : ev L x = some (.pointer (some ad))) (hc : ∀ w, C w → Cells w ad cs) (hg : AggOf P t cs.length) (hix : ops[ix]? = some ⟨some d, .load t x, ty, pos, after, G⟩) (hn : Nat.blt d n = true) (q : ∀ a, AgM ds a n ((d, .agg cs.toArray) :: L) → wpAnyP pq P ops (NormEnd K) C fu (listed.setIfInBounds ix true) a w) :
    wpAnyP pq P ops (NormEnd K) C (fu + 1) listed a w :=
  hd_ok ix hsel hfr hre hC h hG hix rfl hn (fun w _hw => by simp [execOp, h.eval hx, Instr.loadAt, Instr.sureAddr, loadVar, hg.1 w, hg.2 w, run_loadCells_list w ad cs (hc w _hw)]) q
theorem hd_fieldAddr {ad : Addr} {f off : Nat} (ix : Nat) (hsel : Region.noSelect ops = true) (hfr : Fre pq ops listed ix = true) (hre : (Region.ready .any ops listed).contains ix = true) (hC : C w) (h : AgM ds a n L) (hG : Wd ops n L G) (hx : ev L x = some (.pointer (some ad))) (hf : FieldAt P t f off) (hix : ops[ix]? = some ⟨some d, .fieldAddr t x f, ty, pos, after, G⟩) (hn : Nat.blt d n = true) (q : ∀ a, AgM ds a n ((d, .pointer (some (ad.add off))) :: L) → wpAnyP pq P ops (NormEnd K) C fu (listed.setIfInBounds ix true) a w) :
    wpAnyP pq P ops (NormEnd K) C (fu + 1) listed a w :=
  hd_ok ix hsel hfr hre hC h hG hix rfl hn (fun w _hw => by simp [execOp, h.eval hx, hf ad w]) q
theorem hd_nilCheck {ad : Addr} (ix : Nat) (hsel : Region.noSelect ops = true) (hfr : Fre pq ops listed ix = true) (hre : (Region.ready .any ops listed).contains ix = true) (hC : C w) (h : AgM ds a n L) (hG : Wd ops n L G) (hx : ev L x = some (.pointer (some ad))) (hix : ops[ix]? = some ⟨some d, .nilCheck x, ty, pos, after, G⟩) (hn : Nat.blt d n = true) (q : ∀ a, AgM ds a n ((d, .pointer (some ad)) :: L) → wpAnyP pq P ops (NormEnd K) C fu (listed.setIfInBounds ix true) a w) :
    wpAnyP pq P ops (NormEnd K) C (fu + 1) listed a w :=
  hd_ok ix hsel hfr hre hC h hG hix rfl hn (fun w _hw => by simp [execOp, h.eval hx]) q
theorem hd_extract {vs : Array Value} {m : Nat} (ix : Nat) (hsel : Region.noSelect ops = true) (hfr : Fre pq ops listed ix = true) (hre : (Region.ready .any ops listed).contains ix = true) (hC : C w) (h : AgM ds a n L) (hG : Wd ops n L G) (hx : ev L x = some (.tuple vs)) (hm : vs[m]? = some v) (hix : ops[ix]? = some ⟨some d, .extract x m, ty, pos, after, G⟩) (hn : Nat.blt d n = true) (q : ∀ a, AgM ds a n ((d, v) :: L) → wpAnyP pq P ops (NormEnd K) C fu (listed.setIfInBounds ix true) a w) :
    wpAnyP pq P ops (NormEnd K) C (fu + 1) listed a w :=
  hd_ok ix hsel hfr hre hC h hG hix rfl hn (fun w _hw => by simp [execOp, h.eval hx, Instr.extract, hm]) q
theorem hd_field {f : Nat} (ix : Nat) (hsel : Region.noSelect ops = true) (hfr : Fre pq ops listed ix = true) (hre : (Region.ready .any ops listed).contains ix = true) (hC : C w) (h : AgM ds a n L) (hG : Wd ops n L G) (hx : ev L x = some v) (hr : ∀ w : World, (Instr.field t v f).run P w = .ok u w) (hix : ops[ix]? = some ⟨some d, .field t x f, ty, pos, after, G⟩) (hn : Nat.blt d n = true) (q : ∀ a, AgM ds a n ((d, u) :: L) → wpAnyP pq P ops (NormEnd K) C fu (listed.setIfInBounds ix true) a w) :
    wpAnyP pq P ops (NormEnd K) C (fu + 1) listed a w :=
  hd_ok ix hsel hfr hre hC h hG hix rfl hn (fun w _hw => by simp [execOp, h.eval hx, hr w]) q
theorem hd_build {parts : List (Nat × Operand)} {vs : List (Nat × Value)} (ix : Nat) (hsel : Region.noSelect ops = true) (hfr : Fre pq ops listed ix = true) (hre : (Region.ready .any ops listed).contains ix = true) (hC : C w) (h : AgM ds a n L) (hG : Wd ops n L G) (hp : evs L (parts.map (·.2)) (vs.map (·.2))) (hi : parts.map (·.1) = vs.map (·.1)) (hr : ∀ w : World, (Instr.build t vs.toArray).run P w = .ok v w) (hix : ops[ix]? = some ⟨some d, .build t parts.toArray, ty, pos, after, G⟩) (hn : Nat.blt d n = true)
    (q : ∀ a, AgM ds a n ((d, v) :: L) → wpAnyP pq P ops (NormEnd K) C fu (listed.setIfInBounds ix true) a w) : wpAnyP pq P ops (NormEnd K) C (fu + 1) listed a w := by
  have hm : parts.map (fun p => (p.1, a.eval p.2)) = vs := by
    have := h.evals hp
    rw [List.map_map] at this
    apply List.ext_getElem?
    intro m
    have h1 := congrArg (·[m]?) this
    have h2 := congrArg (·[m]?) hi
    simp only [List.getElem?_map, Function.comp] at h1 h2 ⊢
    cases hpm : parts[m]? <;> cases hvm : vs[m]? <;> simp_all
  refine hd_ok ix hsel hfr hre hC h hG hix rfl hn (fun w _ => ?_) q
  simp only [execOp, List.map_toArray, hm, Sem.run_bind, hr w, Result.andThen_ok, Sem.run_pure]
end
/-- The address of an element; its offset is the same in every world. -/
theorem qt_idx {α : Type} {E : Enc α} {bytes : Nat} (h : AgM ds a n L) (hx : ev L x = some (.slice A m cp)) (hy : ev L y = some (.int k i)) {ad : Addr} (hA : A = some ad) (he : ElemOf P t T E bytes) (h0 : 0 ≤ i) (hi : i < m) (hn : Nat.blt d n = true)
    (q : ∀ a, AgM ds a n ((d, .pointer (some (ad.add (i.toNat * E.sz)))) :: L) → wpQuiet P ops C Qa rest a) : wpQuiet P ops C Qa (⟨some d, .indexAddr t x y, ty, pos, after, none⟩ :: rest) a := by
  subst hA
  obtain ⟨inf, zv, hin, _, hsz, _⟩ := he.info
  exact qt_ok h rfl rfl hn (fun w _ => by simp [execOp, h.eval hx, h.eval hy, Instr.indexAt, asIntOf, run_underlying he.und, h0, hi, sizeOf, typeInfo, hin, hsz]) q
end
end Go.Lw
