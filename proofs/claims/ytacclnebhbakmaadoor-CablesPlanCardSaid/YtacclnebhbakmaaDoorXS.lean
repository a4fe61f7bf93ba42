/- The rules on code, without the frame's name: short forms for long walks. Conditions: none. -/
import Derived.Test.YtacclnebhbakmaaDoorXArr
import Derived.Test.YtacclnebhbakmaaDoorXRange
import Derived.Test.YtacclnebhbakmaaDoorXBuf
import Derived.Lib.ConvBytes
import Derived.Laws.AppendOwn
set_option linter.unusedVariables false
set_option linter.unusedSimpArgs false
namespace Go.Lw
open Go.RowKit
section
variable {P : Program} {n : Nat} {L : List (Nat × Value)} {ds : List Nat} {w w' : World} {Q : Exit → Act → World → Prop} {ops : Array Oper} {rest : List Oper} {a : Act} {x y c : Code} {id : Nat}
/-- What a truth value says. -/
class Says (b : Bool) (p : outParam Prop) : Prop where
  iff : b = true ↔ p
instance (priority := 100) says_b (b : Bool) : Says b (b = true) := ⟨Iff.rfl⟩
instance (priority := 1000) says_d (p : Prop) {hp : Decidable p} : Says (@decide p hp) p := ⟨decide_eq_true_iff⟩
instance (priority := 1100) says_n (p : Prop) {hp : Decidable p} : Says (!(@decide p hp)) (¬ p) := ⟨by simp⟩
theorem Says.no {b : Bool} {p : Prop} [h : Says b p] (e : b = false) : ¬ p := fun hp => by rw [h.iff.2 hp] at e; cases e
/-! plain -/
theorem sq (h : CW P (Exit.then (y.wp P Q) Q) x n ds w L) : CW P Q (.seq x y) n ds w L := fun a ha => wp_seq (h a ha)
theorem rg {l : List Oper} (h : WL P l.toArray Q l n ds w L) : CW P Q (.region id l.toArray false) n ds w L := fun a ha => wp_region_lit (h a ha)
theorem sr {l : List Oper} (h : WL P l.toArray (Exit.then (y.wp P Q) Q) l n ds w L) : CW P Q (.seq (.region id l.toArray false) y) n ds w L := sq (rg h)
theorem bl (h : CW P (Exit.inBlock id Q) x n ds w L) : CW P Q (.block id x) n ds w L := fun a ha => wp_block (h a ha)
theorem sk (h : EW Q .normal n ds w L) : CW P Q .skip n ds w L := fun a ha => wp_skip (h a ha)
theorem lb {l : Nat} (h : EW Q .normal n ds w L) : CW P Q (.label l) n ds w L := fun a ha => wp_label (h a ha)
theorem rt (h : EW Q .ret n ds w L) : CW P Q .ret n ds w L := fun a ha => wp_ret (h a ha)
theorem ex (h : EW Q (.exit id) n ds w L) : CW P Q (.exit id) n ds w L := fun a ha => wp_exit (h a ha)
theorem sc (h : CW P (Exit.noGoto Q) x n ds w L) : CW P Q (.scope x) n ds w L := fun a ha => wp_scope_straight (h a ha)
theorem nl (h : EW Q .normal n ds w L) : WL P ops Q [] n ds w L := fun a ha => wpList_nil (h a ha)
theorem tn (h : CW P Q y n ds w L) {Q' : Exit → Act → World → Prop} : EW (Exit.then (y.wp P Q) Q') .normal n ds w L := h
theorem nn (h : CW P Q y n ds w L) {Q' : Exit → Act → World → Prop} : WL P ops (Exit.then (y.wp P Q) Q') [] n ds w L := nl (tn h)
theorem bn' (h : EW Q .normal n ds w L) : EW (Exit.inBlock id Q) .normal n ds w L := h
theorem rb (h : EW Q .ret n ds w L) : EW (Exit.inBlock id Q) .ret n ds w L := h
theorem tr {K : Act → World → Prop} (h : EW Q .ret n ds w L) : EW (Exit.then K Q) .ret n ds w L := h
theorem te {K : Act → World → Prop} (h : EW Q (.exit id) n ds w L) : EW (Exit.then K Q) (.exit id) n ds w L := h
theorem xh (h : EW Q .normal n ds w L) : EW (Exit.inBlock id Q) (.exit id) n ds w L := fun a ha => exit_here (h a ha)
theorem xo {id' : Nat} (hne : Nat.beq id' id = false) (h : EW Q (.exit id') n ds w L) : EW (Exit.inBlock id Q) (.exit id') n ds w L := fun a ha => exit_out hne (h a ha)
theorem gn' (h : EW Q .normal n ds w L) : EW (Exit.noGoto Q) .normal n ds w L := h
theorem gr' (h : EW Q .ret n ds w L) : EW (Exit.noGoto Q) .ret n ds w L := h
theorem gx' (h : EW Q (.exit id) n ds w L) : EW (Exit.noGoto Q) (.exit id) n ds w L := h
theorem ct {C : Operand} (hc : ev L C = some (.bool true)) (k : CW P Q x n ds w L) : CW P Q (.cond C x y) n ds w L := fun a h => cond_true h hc (k a h)
theorem cf {C : Operand} (hc : ev L C = some (.bool false)) (k : CW P Q y n ds w L) : CW P Q (.cond C x y) n ds w L := fun a h => cond_false h hc (k a h)
theorem cd {C : Operand} {b : Bool} {p : Prop} (hc : ev L C = some (.bool b)) [s : Says b p] (ht : p → CW P Q x n ds w L) (hf : ¬ p → CW P Q y n ds w L) : CW P Q (.cond C x y) n ds w L :=
  fun a h => cond_split h hc (fun e => ht (s.iff.1 e) a h) (fun e => hf (s.no e) a h)
/-- A truth value in a slot, known from here on. -/
theorem gs {l : List Oper} (D : Nat) {b : Bool} {p : Prop} (hb : look L D = some (.bool b)) [s : Says b p] (ht : p → WL P ops Q l n ds w ((D, .bool true) :: L)) (hf : ¬ p → WL P ops Q l n ds w ((D, .bool false) :: L)) : WL P ops Q l n ds w L :=
  fun a h => guard_any h hb (fun e h' => ht (s.iff.1 e) a h') (fun e h' => hf (s.no e) a h')
theorem kpL {l : List Oper} (L' : List (Nat × Value)) (hs : Sub L' L) (k : WL P ops Q l n ds w L') : WL P ops Q l n ds w L := fun a h => k a (h.sub hs)
theorem kpC (L' : List (Nat × Value)) (hs : Sub L' L) (k : CW P Q c n ds w L') : CW P Q c n ds w L := fun a h => k a (h.sub hs)
/-- What a guard asks for. -/
def gAskG (ops : Array Oper) (G : Option (Nat × Bool)) (n : Nat) (L : List (Nat × Value)) : Option (Value × Bool) :=
  match G with
  | none => none
  | some (j, want) =>
    match ops[j]? with
    | none => none
    | some oj =>
      match oj.dst with
      | none => none
      | some dj => bif Nat.blt dj n then (look L dj).map (fun v => (v, want)) else none
def gAsk (ops : Array Oper) (o : Oper) (n : Nat) (L : List (Nat × Value)) : Option (Value × Bool) := gAskG ops o.guard n L
theorem gAsk_spec {o : Oper} {v : Value} {want : Bool} (h : gAsk ops o n L = some (v, want)) : ∃ j dj oj, o.guard = some (j, want) ∧ ops[j]? = some oj ∧ oj.dst = some dj ∧ Nat.blt dj n = true ∧ look L dj = some v := by
  unfold gAsk gAskG at h
  split at h
  · cases h
  · rename_i j want' hg
    split at h
    · cases h
    · rename_i oj hj
      split at h
      · cases h
      · rename_i dj hd
        cases hb : Nat.blt dj n with
        | false => rw [hb] at h; cases h
        | true =>
          rw [hb] at h
          cases hl : look L dj with
          | none => rw [hl] at h; cases h
          | some u => rw [hl] at h; cases h; exact ⟨j, dj, oj, hg, hj, hd, hb, hl⟩
theorem gY {o : Oper} {b : Bool} (hg : gAsk ops o n L = some (.bool b, b)) (k : WL P ops Q ({ o with guard := none } :: rest) n ds w L) : WL P ops Q (o :: rest) n ds w L := by
  obtain ⟨j, dj, oj, h1, h2, h3, h4, h5⟩ := gAsk_spec hg
  exact fun a h => gd_yes h h1 h2 h3 h4 h5 (by cases b <;> rfl) (k a h)
theorem gN {o : Oper} {b : Bool} {d : Nat} (hg : gAsk ops o n L = some (.bool b, !b)) (hd : o.dst = some d) (hn : Nat.blt d n = true) (k : WL P ops Q rest n ds w ((d, undef) :: L)) : WL P ops Q (o :: rest) n ds w L := by
  obtain ⟨j, dj, oj, h1, h2, h3, h4, h5⟩ := gAsk_spec hg
  exact fun a h => gd_no h h1 h2 h3 h4 h5 (by cases b <;> rfl) hd hn k
theorem gS {o : Oper} {d : Nat} {want : Bool} (hg : gAsk ops o n L = some (undef, want)) (hd : o.dst = some d) (hn : Nat.blt d n = true) (k : WL P ops Q rest n ds w ((d, undef) :: L)) : WL P ops Q (o :: rest) n ds w L := by
  obtain ⟨j, dj, oj, h1, h2, h3, h4, h5⟩ := gAsk_spec hg
  exact fun a h => gd_skip h h1 h2 h3 h4 h5 hd hn k
/-- A loop: the slots K stay, the slots M turn. -/
theorem lpK {ι : Type} (K : List (Nat × Value)) (M : ι → List (Nat × Value)) (I : ι → World → Prop) (μ : ι → Nat) (i : ι) (hs : Sub (K ++ M i) L) (hI : I i w)
    (round : ∀ i w, I i w → CW P (Exit.then (fun a' w' => ∃ j, AgM ds a' n (K ++ M j) ∧ I j w' ∧ μ j < μ i) Q) c n ds w (K ++ M i)) : CW P Q (.loop c) n ds w L :=
  fun a h => loop (fun i => K ++ M i) I μ i (h.sub hs) hI (fun i w a h hI => round i w hI a h)
theorem lpE {ι : Type} {K : List (Nat × Value)} {M : ι → List (Nat × Value)} {I : ι → World → Prop} {μ : ι → Nat} {m : Nat} (j : ι) (hs : Sub (K ++ M j) L) (hI : I j w) (hm : μ j < m) : EW (Exit.then (fun a' w' => ∃ j, AgM ds a' n (K ++ M j) ∧ I j w' ∧ μ j < m) Q) .normal n ds w L :=
  fun a h => ⟨j, h.sub hs, hI, hm⟩
/-- What joins two ways: the slots K stay. -/
def JW {ι : Type} (n : Nat) (ds : List Nat) (K : List (Nat × Value)) (M : ι → List (Nat × Value)) (I : ι → World → Prop) (a : Act) (w : World) : Prop := ∃ j, AgM ds a n (K ++ M j) ∧ I j w
theorem jn {ι : Type} (K : List (Nat × Value)) (M : ι → List (Nat × Value)) (I : ι → World → Prop) (_hs : Sub K L) (h1 : CW P (Exit.then (JW n ds K M I) Q) x n ds w L) (h2 : ∀ j w, I j w → CW P Q y n ds w (K ++ M j)) : CW P Q (.seq x y) n ds w L :=
  fun a h => seq_cut (JW n ds K M I) (h1 a h) (fun a w ⟨j, h, hI⟩ => h2 j w hI a h)
theorem jE {ι : Type} {K : List (Nat × Value)} {M : ι → List (Nat × Value)} {I : ι → World → Prop} (j : ι) (hs : Sub (K ++ M j) L) (hI : I j w) : EW (Exit.then (JW n ds K M I) Q) .normal n ds w L := fun a h => ⟨j, h.sub hs, hI⟩
/-- A region that yields a truth value, by whatever way. -/
theorem rbo {ol : List Oper} {r : Nat} {L' : List (Nat × Value)} (C : Prop) [Decidable C] (hs : Sub L' L) (h1 : WL P ol.toArray (BoolEnd ds n r C L' w) ol n ds w L) (h2 : EW Q .normal n ds w ((r, .bool (decide C)) :: L')) : CW P Q (.region id ol.toArray false) n ds w L :=
  fun a h => region_bool C h hs (h1 a h) h2
theorem rbe {r : Nat} {L' : List (Nat × Value)} {C : Prop} [Decidable C] {b : Bool} (hr : look L r = some (.bool b)) (hb : b = decide C) (hs : Sub L' L) : WL P ops (BoolEnd ds n r C L' w) [] n ds w L :=
  fun a h => wpList_nil (bool_end h hr hb hs)
/-- The same, with a world that may have grown. -/
def BoolEndF (ds : List Nat) (n r : Nat) (C : Prop) [Decidable C] (L' : List (Nat × Value)) (w0 : World) : Exit → Act → World → Prop := fun e a w => e = .normal ∧ Fr [] w0 w ∧ AgM ds a n ((r, .bool (decide C)) :: L')
theorem rboF {ol : List Oper} {r : Nat} {L' : List (Nat × Value)} (C : Prop) [Decidable C] (_hs : Sub L' L) (h1 : WL P ol.toArray (BoolEndF ds n r C L' w) ol n ds w L) (h2 : ∀ w', Fr [] w w' → EW Q .normal n ds w' ((r, .bool (decide C)) :: L')) : CW P Q (.region id ol.toArray false) n ds w L :=
  fun a h => wp_mono (wp_region_lit (h1 a h)) (fun e a w h => by obtain ⟨rfl, hf, ha⟩ := h; exact h2 w hf a ha)
theorem rbeF {r : Nat} {L' : List (Nat × Value)} {C : Prop} [Decidable C] {b : Bool} {w0 : World} (hr : look L r = some (.bool b)) (hb : b = decide C) (hs : Sub L' L) (hf : Fr [] w0 w) : WL P ops (BoolEndF ds n r C L' w0) [] n ds w L :=
  fun a h => wpList_nil ⟨rfl, hf, (bool_end (w := w) h hr hb hs).2.2⟩
theorem sqR {Q' : Exit → Act → World → Prop} (h : EW Q .normal n ds w L) (e : Q = Q') : EW Q' .normal n ds w L := e ▸ h
/-- Back from a frame with a name. -/
theorem bk {e : Exit} (h : AgM ds a n L) (k : EW Q e n ds w L) : Q e a w := k a h
theorem we {f : FuncId} {fn : Func} {c : Code} {args : Array Value} {R : Ending → World → Prop} (L : List (Nat × Value)) (hf : P.funcs[f]? = some fn) (hc : fn.body = some c) (hn : fn.ntmps = n) (hl : Nat.ble args.size n = true) (hL : argsOk args L)
    (h : CW P (bodyPost P fn R) c n [] w L) : Calls P f args w R := enter L hf hc hn hl hL h
section
variable {R : Ending → World → Prop} {fn : Func} {t u s : Nat} {v z : Value}
theorem r0 (hr : fn.results = #[]) (k : R (.returned (.tuple #[])) w) : EW (bodyPost P fn R) .ret n [] w L := fun _ h => ret0 h hr k
theorem r0n (hr : fn.results = #[]) (k : R (.returned (.tuple #[])) w) : EW (bodyPost P fn R) .normal n [] w L := fun _ h => ret0n h hr k
theorem r1 (hr : fn.results = #[.tmp t]) (hv : look L t = some v) (k : R (.returned v) w) : EW (bodyPost P fn R) .ret n [] w L := fun _ h => ret1 h hr hv k
theorem r2 (hr : fn.results = #[.tmp t, .tmp u]) (hv : look L t = some v) (hx : look L u = some z) (k : R (.returned (.tuple #[v, z])) w) : EW (bodyPost P fn R) .ret n [] w L := fun _ h => ret2 h hr hv hx k
theorem r3 {z' : Value} (hr : fn.results = #[.tmp t, .tmp u, .tmp s]) (hv : look L t = some v) (hx : look L u = some z) (hy : look L s = some z') (k : R (.returned (.tuple #[v, z, z'])) w) : EW (bodyPost P fn R) .ret n [] w L := fun _ h => ret3 h hr hv hx hy k
variable {p pt q r g T : Nat} {cs : List Value}
theorem rC (hr : fn.results = #[.cell p pt]) (hp : look L p = some (.pointer (some ⟨g, 0, none⟩))) (hb : Blk w g T cs) (hg : AggOf P pt cs.length) (k : R (.returned (.agg cs.toArray)) w) : EW (bodyPost P fn R) .ret n [] w L := fun _ h => retC h hr hp hb hg k
theorem rCT (hr : fn.results = #[.cell p pt, .tmp q]) (hp : look L p = some (.pointer (some ⟨g, 0, none⟩))) (hb : Blk w g T cs) (hg : AggOf P pt cs.length) (hv : look L q = some v) (k : R (.returned (.tuple #[.agg cs.toArray, v])) w) : EW (bodyPost P fn R) .ret n [] w L := fun _ h => retCT h hr hp hb hg hv k
theorem rCTT {u : Value} (hr : fn.results = #[.cell p pt, .tmp q, .tmp r]) (hp : look L p = some (.pointer (some ⟨g, 0, none⟩))) (hb : Blk w g T cs) (hg : AggOf P pt cs.length) (hv : look L q = some v) (hu : look L r = some u) (k : R (.returned (.tuple #[.agg cs.toArray, v, u])) w) : EW (bodyPost P fn R) .ret n [] w L := fun _ h => retCTT h hr hp hb hg hv hu k
end
theorem wi6 {z : Int} (h : -9223372036854775808 ≤ z ∧ z ≤ 9223372036854775807) : IntKind.i64.wrap z = z := IntWalk.i64_in z (by omega)
theorem wi8 {z : Int} (h : 0 ≤ z ∧ z ≤ 255) : IntKind.u8.wrap z = z := IntWalk.u8_in z (by omega)
theorem ev1 {x : Operand} {v : Value} (h : ev L x = some v) : evs L [x] [v] := ⟨h, trivial⟩
theorem ev2 {x y : Operand} {v u : Value} (h : ev L x = some v) (h2 : ev L y = some u) : evs L [x, y] [v, u] := ⟨h, h2, trivial⟩
theorem ev3 {x y z : Operand} {v u t : Value} (h : ev L x = some v) (h2 : ev L y = some u) (h3 : ev L z = some t) : evs L [x, y, z] [v, u, t] := ⟨h, h2, h3, trivial⟩
theorem ev4 {x y z o : Operand} {v u t s : Value} (h : ev L x = some v) (h2 : ev L y = some u) (h3 : ev L z = some t) (h4 : ev L o = some s) : evs L [x, y, z, o] [v, u, t, s] := ⟨h, h2, h3, h4, trivial⟩
theorem nat_of {k : Nat} : ((k : Nat) : Int).toNat = k := Int.toNat_natCast k
end
theorem us {P : Program} {t : TypeId} {u} (h : P.underlying t = some u) : (P.underlying t).isSome = true := by rw [h]; rfl
section
variable {P : Program} {n : Nat} {L : List (Nat × Value)} {ds : List Nat} {w w' : World} {Q : Exit → Act → World → Prop} {ops : Array Oper} {rest : List Oper} {d : Nat} {ty T : TypeId} {pos : String} {after : Array Edge} {v : Value} {x : Operand}
theorem bx {cs : List Value} (hx : ev L x = some v) (hc : v.cells = cs.toArray) (hn : Nat.blt d n = true) (q : ∀ g w', g = w.heap.size → Blk w' g T cs → Fr [] w w' → w'.heap.size = g + 1 → WL P ops Q rest n ds w' ((d, .pointer (some ⟨g, 0, none⟩)) :: L)) : WL P ops Q (⟨some d, .box T x, ty, pos, after, none⟩ :: rest) n ds w L :=
  s_box hx hc hn (fun w' h1 h2 h3 => q _ w' rfl h1 h2 h3)
theorem al {cs : List Value} (hz : ∀ w : World, (zeroValue T).run P w = .ok v w) (hc : v.cells = cs.toArray) (hn : Nat.blt d n = true) (q : ∀ g w', g = w.heap.size → Blk w' g T cs → Fr [] w w' → w'.heap.size = g + 1 → WL P ops Q rest n ds w' ((d, .pointer (some ⟨g, 0, none⟩)) :: L)) : WL P ops Q (⟨some d, .alloc T, ty, pos, after, none⟩ :: rest) n ds w L :=
  s_alloc hz hc hn (fun w' h1 h2 h3 => q _ w' rfl h1 h2 h3)
theorem s_loadBP {t : TypeId} {g off : Nat} {cs vs : List Value} (hx : ev L x = some (.pointer (some ((⟨g, 0, none⟩ : Addr).add off)))) (hb : Blk w g T cs) (hg : AggOf P t vs.length) (hv : (cs.drop off).take vs.length = vs) (hn : Nat.blt d n = true) (q : WL P ops Q rest n ds w ((d, .agg vs.toArray) :: L)) : WL P ops Q (⟨some d, .load t x, ty, pos, after, none⟩ :: rest) n ds w L :=
  s_loadA hx (fun j u hu => by
    rw [← hv] at hu
    have hj : (cs.drop off)[j]? = some u := by
      rw [List.getElem?_take] at hu; split at hu
      · exact hu
      · cases hu
    rw [List.getElem?_drop] at hj
    rw [add_add]; exact hb.cellAdd hj) hg hn q
theorem s_neNil {t t' : TypeId} {ms} {b : Bool} (hx : ev L x = some v) (hu : P.underlying t = some (.interface ms)) (hb : v = .nilIface ∧ b = false ∨ (∃ s p, v = .iface s p) ∧ b = true) (hn : Nat.blt d n = true) (q : WL P ops Q rest n ds w ((d, .bool b) :: L)) : WL P ops Q (⟨some d, .binOp .neq t x (.const .nilIface) t', ty, pos, after, none⟩ :: rest) n ds w L :=
  fun a h => st_ok h rfl rfl hn (by
    have h4 : a.eval (.const .nilIface) = .nilIface := rfl
    rcases hb with ⟨rfl, rfl⟩ | ⟨⟨s, p, rfl⟩, rfl⟩
    · have e : ∀ k, (Op.equalIn (k + 1) t .nilIface .nilIface).run P w = .ok true w := fun k => by unfold Op.equalIn; simp only [Sem.run_bind, run_underlying hu, Result.andThen_ok, Sem.run_pure]
      have h3 : (binOp .neq t .nilIface .nilIface).run P w = .ok (.bool false) w := by
        simp only [binOp]
        simp [Op.equal, Op.maxDepth, e 9999]
      simp [execOp, h.eval hx, h4, eqGuard, h3]
    · have e : ∀ k, (Op.equalIn (k + 1) t (.iface s p) .nilIface).run P w = .ok false w := fun k => by unfold Op.equalIn; simp only [Sem.run_bind, run_underlying hu, Result.andThen_ok, Sem.run_pure]
      have h3 : (binOp .neq t (.iface s p) .nilIface).run P w = .ok (.bool true) w := by
        simp only [binOp]
        simp [Op.equal, Op.maxDepth, e 9999]
      simp [execOp, h.eval hx, h4, eqGuard, h3]) q
/-- []byte(s). -/
theorem s_s2b {t t' : TypeId} {u} {l : List UInt8} (hx : ev L x = some (S l)) (hs : P.underlying t = some u) (hd : P.underlying t' = some (.slice T)) (he : P.underlying T = some (.int .u8)) (hl : l.length ≤ maxLen) (hn : Nat.blt d n = true)
    (q : ∀ g c w', g = w.heap.size → Sl Enc.b w' (.slice (some ⟨g, 0, none⟩) l.length c) l → Fr [] w w' → w'.heap.size = g + 1 → WL P ops Q rest n ds w' ((d, .slice (some ⟨g, 0, none⟩) l.length c) :: L)) : WL P ops Q (⟨some d, .convert t t' x, ty, pos, after, none⟩ :: rest) n ds w L :=
  fun a h => st_ok h rfl rfl hn (w' := Lib.bytesWorld w T ⟨l.toArray⟩) (by
    have hz : (⟨l.toArray⟩ : ByteArray).size = l.length := by simp [ByteArray.size]
    have := Lib.run_convert_string_bytes (P := P) w t t' T ⟨l.toArray⟩ hs hd he
    rw [hz] at this
    simp only [execOp, h.eval hx, S, Sem.run_bind, this, Result.andThen_ok, Sem.run_pure])
    (q _ (grownCap w l.length 0 T) _ rfl ⟨_, _, rfl, grownCap_ge _ _ _ _, grownCap_le_maxLen _ _ _ _ hl, fun i y hy => ⟨_, rfl, fun j u hu => by
      have hi := (List.getElem?_eq_some_iff.1 hy).1
      have hj : j = 0 := by
        have := (List.getElem?_eq_some_iff.1 hu).1
        simpa [Enc.b] using this
      subst hj
      have hu' : u = .int .u8 (y.toNat : Int) := by simpa [Enc.b] using hu.symm
      subst hu'
      rw [lit_add, lit_add, show Enc.b.sz = 1 from rfl, Nat.mul_one, Nat.zero_add, Nat.add_zero]
      have := Lib.bytesWorld_cell w T ⟨l.toArray⟩ i (by simpa [ByteArray.size] using hi)
      rw [this]
      simp [List.getD, hy]⟩⟩ (by exact ⟨rfl, rfl, rfl, by rw [Lib.bytesWorld_size]; omega, fun k hk _ => Lib.bytesWorld_at_old w T _ k hk⟩) (Lib.bytesWorld_size _ _ _))
/-! Guarded operations of a region that draws. -/
section
variable {C : World → Prop} {K : Act → World → Prop} {fu : Nat} {listed : Array Bool} {pq : Option Nat} {o : Oper} {a : Act} {G : Option (Nat × Bool)} {t t' : TypeId} {y : Operand} {k : IntKind} {i j : Int} {l l' : List UInt8}
theorem wanted_yes {b : Bool} (h : AgM ds a n L) (hg : gAsk ops o n L = some (.bool b, b)) : Region.wanted o (yielded ops a.tmps) = true := by
  obtain ⟨j, dj, oj, h1, h2, h3, h4, h5⟩ := gAsk_spec hg
  have hy := yielded_of (ops := ops) h h2 h3 h4 h5
  simp [Region.wanted, h1, hy]
theorem wy {b : Bool} (hg : gAskG ops G n L = some (.bool b, b)) : Wd ops n L G := fun a ds h o ho => wanted_yes (o := o) h (by unfold gAsk; rw [ho]; exact hg)
theorem wanted_no {b : Bool} (h : AgM ds a n L) (hg : gAsk ops o n L = some (.bool b, !b)) : Region.wanted o (yielded ops a.tmps) = false := by
  obtain ⟨j, dj, oj, h1, h2, h3, h4, h5⟩ := gAsk_spec hg
  have hy := yielded_of (ops := ops) h h2 h3 h4 h5
  simp [Region.wanted, h1, hy]
theorem wanted_skip {want : Bool} (h : AgM ds a n L) (hg : gAsk ops o n L = some (undef, want)) : Region.wanted o (yielded ops a.tmps) = false := by
  obtain ⟨j, dj, oj, h1, h2, h3, h4, h5⟩ := gAsk_spec hg
  have e1 := h.at_ dj _ h5
  have hd' : dj < a.tmps.size := by rw [h.size]; simpa [Nat.blt_eq] using h4
  have e2 : a.tmps[dj]? = some undef := by
    rw [Array.getElem?_eq_getElem hd']
    simpa [Array.getD, hd'] using e1
  have hy : yielded ops a.tmps j = none := by simp [yielded, h2, h3, e2, undef]
  simp [Region.wanted, h1, hy]
theorem hd_gy {b : Bool} (ix : Nat) (hsel : Region.noSelect ops = true) (hfr : Fre pq ops listed ix = true) (hre : (Region.ready .any ops listed).contains ix = true) (hC : C w) (h : AgM ds a n L) (hix : ops[ix]? = some o) (hg : gAsk ops o n L = some (.bool b, b)) (hd : o.dst = some d) (hn : Nat.blt d n = true) (hr : ∀ w, C w → (execOp a.eval o).run P w = .ok (.value v) w)
    (q : ∀ a, AgM ds a n ((d, v) :: L) → wpAnyP pq P ops (NormEnd K) C fu (listed.setIfInBounds ix true) a w) : wpAnyP pq P ops (NormEnd K) C (fu + 1) listed a w :=
  P_take hix hsel hfr hre (fun _ _ _ h => h) (.inl ⟨wanted_yes h hg, hr⟩) hC (by rw [hd]; exact q _ (h.put hn v))
theorem hd_gn {b : Bool} (ix : Nat) (hsel : Region.noSelect ops = true) (hfr : Fre pq ops listed ix = true) (hre : (Region.ready .any ops listed).contains ix = true) (hC : C w) (h : AgM ds a n L) (hix : ops[ix]? = some o) (hg : gAsk ops o n L = some (.bool b, !b)) (hd : o.dst = some d) (hn : Nat.blt d n = true)
    (q : ∀ a, AgM ds a n ((d, undef) :: L) → wpAnyP pq P ops (NormEnd K) C fu (listed.setIfInBounds ix true) a w) : wpAnyP pq P ops (NormEnd K) C (fu + 1) listed a w :=
  P_take hix hsel hfr hre (fun _ _ _ h => h) (.inr ⟨wanted_no h hg, rfl⟩) hC (by rw [hd]; exact q _ (h.put hn undef))
theorem hd_gs {want : Bool} (ix : Nat) (hsel : Region.noSelect ops = true) (hfr : Fre pq ops listed ix = true) (hre : (Region.ready .any ops listed).contains ix = true) (hC : C w) (h : AgM ds a n L) (hix : ops[ix]? = some o) (hg : gAsk ops o n L = some (undef, want)) (hd : o.dst = some d) (hn : Nat.blt d n = true)
    (q : ∀ a, AgM ds a n ((d, undef) :: L) → wpAnyP pq P ops (NormEnd K) C fu (listed.setIfInBounds ix true) a w) : wpAnyP pq P ops (NormEnd K) C (fu + 1) listed a w :=
  P_take hix hsel hfr hre (fun _ _ _ h => h) (.inr ⟨wanted_skip h hg, rfl⟩) hC (by rw [hd]; exact q _ (h.put hn undef))
theorem xg_loadBA {g : Nat} {cs : List Value} (h : AgM ds a n L) (hx : ev L x = some (.pointer (some ⟨g, 0, none⟩))) (hb : ∀ w, C w → Blk w g T cs) (hg : AggOf P t cs.length) : ∀ w, C w → (execOp a.eval ⟨some d, .load t x, ty, pos, after, G⟩).run P w = .ok (.value (.agg cs.toArray)) w :=
  fun w hw => by simp [execOp, h.eval hx, Instr.loadAt, Instr.sureAddr, loadVar, hg.1 w, hg.2 w, run_loadCells_list w _ cs (hb w hw).cells]
theorem xg_loadC0 {ad : Addr} (h : AgM ds a n L) (hx : ev L x = some (.pointer (some ad))) (hc : ∀ w, C w → Cells w ad [v]) (hg : NotAgg P t) : ∀ w, C w → (execOp a.eval ⟨some d, .load t x, ty, pos, after, G⟩).run P w = .ok (.value v) w :=
  fun w hw => by
    have e := hc w hw 0 v rfl
    rw [Addr.add_zero'] at e
    simp [execOp, h.eval hx, Instr.loadAt, Instr.sureAddr, loadVar, hg w, e]
theorem xg_move (h : AgM ds a n L) (hx : ev L x = some v) : ∀ w, C w → (execOp a.eval ⟨some d, .move x, ty, pos, after, G⟩).run P w = .ok (.value v) w := fun w _ => by simp [execOp, h.eval hx]
theorem xg_eqV {α : Type} [DecidableEq α] {V : α → Value} {e f : α} (h : AgM ds a n L) (hx : ev L x = some (V e)) (hy : ev L y = some (V f)) (he : EqOf P t V) : ∀ w, C w → (execOp a.eval ⟨some d, .binOp .eql t x y t', ty, pos, after, G⟩).run P w = .ok (.value (.bool (decide (e = f)))) w := fun w _ => by
  obtain ⟨h1, _, h3, _⟩ := he e f x y w
  simp [execOp, h.eval hx, h.eval hy, h1, h3]
theorem xg_neV {α : Type} [DecidableEq α] {V : α → Value} {e f : α} (h : AgM ds a n L) (hx : ev L x = some (V e)) (hy : ev L y = some (V f)) (he : EqOf P t V) : ∀ w, C w → (execOp a.eval ⟨some d, .binOp .neq t x y t', ty, pos, after, G⟩).run P w = .ok (.value (.bool (decide (e ≠ f)))) w := fun w _ => by
  obtain ⟨_, h2, _, h4⟩ := he e f x y w
  simp [execOp, h.eval hx, h.eval hy, h2, h4]
theorem hd_eqV {α : Type} [DecidableEq α] {V : α → Value} {e f : α} (ix : Nat) (hsel : Region.noSelect ops = true) (hfr : Fre pq ops listed ix = true) (hre : (Region.ready .any ops listed).contains ix = true) (hC : C w) (h : AgM ds a n L) (hG : Wd ops n L G) (hx : ev L x = some (V e)) (hy : ev L y = some (V f)) (he : EqOf P t V) (hix : ops[ix]? = some ⟨some d, .binOp .eql t x y t', ty, pos, after, G⟩) (hn : Nat.blt d n = true)
    (q : ∀ a, AgM ds a n ((d, .bool (decide (e = f))) :: L) → wpAnyP pq P ops (NormEnd K) C fu (listed.setIfInBounds ix true) a w) : wpAnyP pq P ops (NormEnd K) C (fu + 1) listed a w :=
  hd_ok ix hsel hfr hre hC h hG hix rfl hn (xg_eqV h hx hy he) q
theorem hd_neV {α : Type} [DecidableEq α] {V : α → Value} {e f : α} (ix : Nat) (hsel : Region.noSelect ops = true) (hfr : Fre pq ops listed ix = true) (hre : (Region.ready .any ops listed).contains ix = true) (hC : C w) (h : AgM ds a n L) (hG : Wd ops n L G) (hx : ev L x = some (V e)) (hy : ev L y = some (V f)) (he : EqOf P t V) (hix : ops[ix]? = some ⟨some d, .binOp .neq t x y t', ty, pos, after, G⟩) (hn : Nat.blt d n = true)
    (q : ∀ a, AgM ds a n ((d, .bool (decide (e ≠ f))) :: L) → wpAnyP pq P ops (NormEnd K) C fu (listed.setIfInBounds ix true) a w) : wpAnyP pq P ops (NormEnd K) C (fu + 1) listed a w :=
  hd_ok ix hsel hfr hre hC h hG hix rfl hn (xg_neV h hx hy he) q
end
end
end Go.Lw
