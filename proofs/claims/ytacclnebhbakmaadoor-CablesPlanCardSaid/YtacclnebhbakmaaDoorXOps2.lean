/- More operations of a walk by live slots: blocks of local variables, slices written out, arrays, bytes and strings, function values. Conditions: none; each law is over any program. -/
import Derived.Test.YtacclnebhbakmaaDoorXQt
import Derived.Laws.BytesString
set_option linter.unusedVariables false
set_option linter.unusedSimpArgs false
namespace Go.Lw
open Go.RowKit

def Enc.b : Enc UInt8 := ⟨fun c => [.int .u8 (c.toNat : Int)], 1, fun _ => rfl, fun _ u h => by simp at h; subst h; rfl, by decide⟩

section
variable {P : Program} {a : Act} {n : Nat} {L : List (Nat × Value)} {ds : List Nat} {w w' : World} {Q : Exit → Act → World → Prop} {C : World → Prop} {Qa : Act → Prop} {ops : Array Oper} {rest : List Oper}
variable {d : Nat} {ty : TypeId} {pos : String} {after : Array Edge} {v u : Value} {x y z : Operand} {t t' T : TypeId} {k k' : IntKind} {i j : Int} {b c : Bool} {l l' : List UInt8} {A : Option Addr} {m cp : Nat} {g off : Nat} {cs : List Value}

theorem Blk.cellAdd (h : Blk w g T cs) (hv : cs[off]? = some v) : w.cell? ((⟨g, 0, none⟩ : Addr).add off) = some v := by rw [lit_add, Nat.zero_add, h.cell]; exact hv
/-- A field of a local variable that lies in a block. -/
theorem st_loadB (h : AgM ds a n L) (hx : ev L x = some (.pointer (some ((⟨g, 0, none⟩ : Addr).add off)))) (hb : Blk w g T cs) (hv : cs[off]? = some v) (hg : NotAgg P t) (hn : Nat.blt d n = true) (q : ∀ a, AgM ds a n ((d, v) :: L) → wpList P ops Q rest a w) :
    wpList P ops Q (⟨some d, .load t x, ty, pos, after, none⟩ :: rest) a w := st_load h hx (hb.cellAdd hv) hg hn q
theorem s_loadB (hx : ev L x = some (.pointer (some ((⟨g, 0, none⟩ : Addr).add off)))) (hb : Blk w g T cs) (hv : cs[off]? = some v) (hg : NotAgg P t) (hn : Nat.blt d n = true) (q : WL P ops Q rest n ds w ((d, v) :: L)) : WL P ops Q (⟨some d, .load t x, ty, pos, after, none⟩ :: rest) n ds w L := fun a h => st_loadB h hx hb hv hg hn q -- short
theorem qt_loadB (h : AgM ds a n L) (hx : ev L x = some (.pointer (some ((⟨g, 0, none⟩ : Addr).add off)))) (hb : ∀ w, C w → Blk w g T cs) (hv : cs[off]? = some v) (hg : NotAgg P t) (hn : Nat.blt d n = true) (q : ∀ a, AgM ds a n ((d, v) :: L) → wpQuiet P ops C Qa rest a) :
    wpQuiet P ops C Qa (⟨some d, .load t x, ty, pos, after, none⟩ :: rest) a := qt_load h hx (fun w hw => (hb w hw).cellAdd hv) hg hn q
/-- The whole of a local variable of one cell. -/
theorem st_loadB0 (h : AgM ds a n L) (hx : ev L x = some (.pointer (some ⟨g, 0, none⟩))) (hb : Blk w g T [v]) (hg : NotAgg P t) (hn : Nat.blt d n = true) (q : ∀ a, AgM ds a n ((d, v) :: L) → wpList P ops Q rest a w) :
    wpList P ops Q (⟨some d, .load t x, ty, pos, after, none⟩ :: rest) a w := st_load h hx (by rw [hb.cell]; rfl) hg hn q
theorem s_loadB0 (hx : ev L x = some (.pointer (some ⟨g, 0, none⟩))) (hb : Blk w g T [v]) (hg : NotAgg P t) (hn : Nat.blt d n = true) (q : WL P ops Q rest n ds w ((d, v) :: L)) : WL P ops Q (⟨some d, .load t x, ty, pos, after, none⟩ :: rest) n ds w L := fun a h => st_loadB0 h hx hb hg hn q -- short
theorem qt_loadB0 (h : AgM ds a n L) (hx : ev L x = some (.pointer (some ⟨g, 0, none⟩))) (hb : ∀ w, C w → Blk w g T [v]) (hg : NotAgg P t) (hn : Nat.blt d n = true) (q : ∀ a, AgM ds a n ((d, v) :: L) → wpQuiet P ops C Qa rest a) :
    wpQuiet P ops C Qa (⟨some d, .load t x, ty, pos, after, none⟩ :: rest) a := qt_load h hx (fun w hw => by rw [(hb w hw).cell]; rfl) hg hn q
/-- The whole of a local variable of several cells. -/
theorem st_loadBA (h : AgM ds a n L) (hx : ev L x = some (.pointer (some ⟨g, 0, none⟩))) (hb : Blk w g T cs) (hg : AggOf P t cs.length) (hn : Nat.blt d n = true) (q : ∀ a, AgM ds a n ((d, .agg cs.toArray) :: L) → wpList P ops Q rest a w) :
    wpList P ops Q (⟨some d, .load t x, ty, pos, after, none⟩ :: rest) a w := st_loadA h hx hb.cells hg hn q
theorem s_loadBA (hx : ev L x = some (.pointer (some ⟨g, 0, none⟩))) (hb : Blk w g T cs) (hg : AggOf P t cs.length) (hn : Nat.blt d n = true) (q : WL P ops Q rest n ds w ((d, .agg cs.toArray) :: L)) : WL P ops Q (⟨some d, .load t x, ty, pos, after, none⟩ :: rest) n ds w L := fun a h => st_loadBA h hx hb hg hn q -- short
theorem qt_loadBA (h : AgM ds a n L) (hx : ev L x = some (.pointer (some ⟨g, 0, none⟩))) (hb : ∀ w, C w → Blk w g T cs) (hg : AggOf P t cs.length) (hn : Nat.blt d n = true) (q : ∀ a, AgM ds a n ((d, .agg cs.toArray) :: L) → wpQuiet P ops C Qa rest a) :
    wpQuiet P ops C Qa (⟨some d, .load t x, ty, pos, after, none⟩ :: rest) a := qt_loadA h hx (fun w hw => (hb w hw).cells) hg hn q
section
variable {K : Act → World → Prop} {fu : Nat} {listed : Array Bool} {pq : Option Nat}
theorem hd_loadB {G : Option (Nat × Bool)} (ix : Nat) (hsel : Region.noSelect ops = true) (hfr : Fre pq ops listed ix = true) (hre : (Region.ready .any ops listed).contains ix = true) (hC : C w) (h : AgM ds a n L) (hG : Wd ops n L G) (hx : ev L x = some (.pointer (some ((⟨g, 0, none⟩ : Addr).add off)))) (hb : ∀ w, C w → Blk w g T cs) (hv : cs[off]? = some v) (hg : NotAgg P t)
    (hix : ops[ix]? = some ⟨some d, .load t x, ty, pos, after, G⟩) (hn : Nat.blt d n = true) (q : ∀ a, AgM ds a n ((d, v) :: L) → wpAnyP pq P ops (NormEnd K) C fu (listed.setIfInBounds ix true) a w) : wpAnyP pq P ops (NormEnd K) C (fu + 1) listed a w :=
  hd_load ix hsel hfr hre hC h hG hx (fun w hw => (hb w hw).cellAdd hv) hg hix hn q
theorem hd_loadB0 {G : Option (Nat × Bool)} (ix : Nat) (hsel : Region.noSelect ops = true) (hfr : Fre pq ops listed ix = true) (hre : (Region.ready .any ops listed).contains ix = true) (hC : C w) (h : AgM ds a n L) (hG : Wd ops n L G) (hx : ev L x = some (.pointer (some ⟨g, 0, none⟩))) (hb : ∀ w, C w → Blk w g T [v]) (hg : NotAgg P t)
    (hix : ops[ix]? = some ⟨some d, .load t x, ty, pos, after, G⟩) (hn : Nat.blt d n = true) (q : ∀ a, AgM ds a n ((d, v) :: L) → wpAnyP pq P ops (NormEnd K) C fu (listed.setIfInBounds ix true) a w) : wpAnyP pq P ops (NormEnd K) C (fu + 1) listed a w :=
  hd_load ix hsel hfr hre hC h hG hx (fun w hw => by rw [(hb w hw).cell]; rfl) hg hix hn q
theorem hd_loadBA {G : Option (Nat × Bool)} (ix : Nat) (hsel : Region.noSelect ops = true) (hfr : Fre pq ops listed ix = true) (hre : (Region.ready .any ops listed).contains ix = true) (hC : C w) (h : AgM ds a n L) (hG : Wd ops n L G) (hx : ev L x = some (.pointer (some ⟨g, 0, none⟩))) (hb : ∀ w, C w → Blk w g T cs) (hg : AggOf P t cs.length)
    (hix : ops[ix]? = some ⟨some d, .load t x, ty, pos, after, G⟩) (hn : Nat.blt d n = true) (q : ∀ a, AgM ds a n ((d, .agg cs.toArray) :: L) → wpAnyP pq P ops (NormEnd K) C fu (listed.setIfInBounds ix true) a w) : wpAnyP pq P ops (NormEnd K) C (fu + 1) listed a w :=
  hd_loadA ix hsel hfr hre hC h hG hx (fun w hw => (hb w hw).cells) hg hix hn q
end
theorem qt_loadC0 {ad : Addr} (h : AgM ds a n L) (hx : ev L x = some (.pointer (some ad))) (hc : ∀ w, C w → Cells w ad [v]) (hg : NotAgg P t) (hn : Nat.blt d n = true) (q : ∀ a, AgM ds a n ((d, v) :: L) → wpQuiet P ops C Qa rest a) :
    wpQuiet P ops C Qa (⟨some d, .load t x, ty, pos, after, none⟩ :: rest) a := qt_load h hx (fun w hw => by have := hc w hw 0 v rfl; rwa [Addr.add_zero'] at this) hg hn q
theorem qt_loadC {ad : Addr} (h : AgM ds a n L) (hx : ev L x = some (.pointer (some (ad.add off)))) (hc : ∀ w, C w → Cells w ad cs) (hv : cs[off]? = some v) (hg : NotAgg P t) (hn : Nat.blt d n = true) (q : ∀ a, AgM ds a n ((d, v) :: L) → wpQuiet P ops C Qa rest a) :
    wpQuiet P ops C Qa (⟨some d, .load t x, ty, pos, after, none⟩ :: rest) a := qt_load h hx (fun w hw => hc w hw off v hv) hg hn q
theorem ex_idxS {G : Option (Nat × Bool)} {α : Type} {E : Enc α} {bytes p : Nat} {ad : Addr} (h : AgM ds a n L) (hx : ev L x = some (.slice (some ad) m cp)) (hy : ev L y = some (.int k i)) (he : ElemOf P t T E bytes) (h0 : 0 ≤ i) (hi : i < m) (hp : i.toNat = p) :
    (execOp a.eval ⟨some d, .indexAddr t x y, ty, pos, after, G⟩).run P w = .ok (.value (.pointer (some (ad.add (p * E.sz))))) w := by
  subst hp
  obtain ⟨inf, zv, hin, _, hsz, _⟩ := he.info
  simp [execOp, h.eval hx, h.eval hy, Instr.indexAt, asIntOf, run_underlying he.und, h0, hi, sizeOf, typeInfo, hin, hsz]
theorem st_idxS {α : Type} {E : Enc α} {bytes p : Nat} {ad : Addr} (h : AgM ds a n L) (hx : ev L x = some (.slice (some ad) m cp)) (hy : ev L y = some (.int k i)) (he : ElemOf P t T E bytes) (h0 : 0 ≤ i) (hi : i < m) (hp : i.toNat = p) (hn : Nat.blt d n = true)
    (q : ∀ a, AgM ds a n ((d, .pointer (some (ad.add (p * E.sz)))) :: L) → wpList P ops Q rest a w) : wpList P ops Q (⟨some d, .indexAddr t x y, ty, pos, after, none⟩ :: rest) a w :=
  st_ok h rfl rfl hn (ex_idxS h hx hy he h0 hi hp) q
theorem s_idxS {α : Type} {E : Enc α} {bytes p : Nat} {ad : Addr} (hx : ev L x = some (.slice (some ad) m cp)) (hy : ev L y = some (.int k i)) (he : ElemOf P t T E bytes) (h0 : 0 ≤ i) (hi : i < m) (hp : i.toNat = p) (hn : Nat.blt d n = true) (q : WL P ops Q rest n ds w ((d, .pointer (some (ad.add (p * E.sz)))) :: L)) : WL P ops Q (⟨some d, .indexAddr t x y, ty, pos, after, none⟩ :: rest) n ds w L := fun a h => st_idxS h hx hy he h0 hi hp hn q -- short
theorem qt_idxS {α : Type} {E : Enc α} {bytes p : Nat} {ad : Addr} (h : AgM ds a n L) (hx : ev L x = some (.slice (some ad) m cp)) (hy : ev L y = some (.int k i)) (he : ElemOf P t T E bytes) (h0 : 0 ≤ i) (hi : i < m) (hp : i.toNat = p) (hn : Nat.blt d n = true)
    (q : ∀ a, AgM ds a n ((d, .pointer (some (ad.add (p * E.sz)))) :: L) → wpQuiet P ops C Qa rest a) : wpQuiet P ops C Qa (⟨some d, .indexAddr t x y, ty, pos, after, none⟩ :: rest) a :=
  qt_ok h rfl rfl hn (fun _ _ => ex_idxS h hx hy he h0 hi hp) q
theorem hd_idxS {G : Option (Nat × Bool)} {K : Act → World → Prop} {fu : Nat} {listed : Array Bool} {pq : Option Nat} {α : Type} {E : Enc α} {bytes p : Nat} {ad : Addr} (ix : Nat) (hsel : Region.noSelect ops = true) (hfr : Fre pq ops listed ix = true) (hre : (Region.ready .any ops listed).contains ix = true) (hC : C w) (h : AgM ds a n L) (hG : Wd ops n L G)
    (hx : ev L x = some (.slice (some ad) m cp)) (hy : ev L y = some (.int k i)) (he : ElemOf P t T E bytes) (h0 : 0 ≤ i) (hi : i < m) (hp : i.toNat = p) (hix : ops[ix]? = some ⟨some d, .indexAddr t x y, ty, pos, after, G⟩) (hn : Nat.blt d n = true)
    (q : ∀ a, AgM ds a n ((d, .pointer (some (ad.add (p * E.sz)))) :: L) → wpAnyP pq P ops (NormEnd K) C fu (listed.setIfInBounds ix true) a w) : wpAnyP pq P ops (NormEnd K) C (fu + 1) listed a w :=
  hd_ok ix hsel hfr hre hC h hG hix rfl hn (fun _ _ => ex_idxS h hx hy he h0 hi hp) q
/-- A field of an element that is read. -/
theorem st_loadC {ad : Addr} (h : AgM ds a n L) (hx : ev L x = some (.pointer (some (ad.add off)))) (hc : Cells w ad cs) (hv : cs[off]? = some v) (hg : NotAgg P t) (hn : Nat.blt d n = true) (q : ∀ a, AgM ds a n ((d, v) :: L) → wpList P ops Q rest a w) :
    wpList P ops Q (⟨some d, .load t x, ty, pos, after, none⟩ :: rest) a w := st_load h hx (hc off v hv) hg hn q
theorem s_loadC {ad : Addr} (hx : ev L x = some (.pointer (some (ad.add off)))) (hc : Cells w ad cs) (hv : cs[off]? = some v) (hg : NotAgg P t) (hn : Nat.blt d n = true) (q : WL P ops Q rest n ds w ((d, v) :: L)) : WL P ops Q (⟨some d, .load t x, ty, pos, after, none⟩ :: rest) n ds w L := fun a h => st_loadC h hx hc hv hg hn q -- short
theorem st_loadC0 {ad : Addr} (h : AgM ds a n L) (hx : ev L x = some (.pointer (some ad))) (hc : Cells w ad [v]) (hg : NotAgg P t) (hn : Nat.blt d n = true) (q : ∀ a, AgM ds a n ((d, v) :: L) → wpList P ops Q rest a w) :
    wpList P ops Q (⟨some d, .load t x, ty, pos, after, none⟩ :: rest) a w := st_load h hx (by have := hc 0 v rfl; rwa [Addr.add_zero'] at this) hg hn q
theorem s_loadC0 {ad : Addr} (hx : ev L x = some (.pointer (some ad))) (hc : Cells w ad [v]) (hg : NotAgg P t) (hn : Nat.blt d n = true) (q : WL P ops Q rest n ds w ((d, v) :: L)) : WL P ops Q (⟨some d, .load t x, ty, pos, after, none⟩ :: rest) n ds w L := fun a h => st_loadC0 h hx hc hg hn q -- short
/-- A store of one cell into a field of a local variable. -/
theorem st_storeB (h : AgM ds a n L) (hx : ev L x = some (.pointer (some ((⟨g, 0, none⟩ : Addr).add off)))) (hy : ev L y = some v) (hb : Blk w g T cs) (ho : Nat.blt off cs.length = true) (h1 : v.oneCell' = true) (hc : v.cells = #[v]) (hs : SizeOf P t 1)
    (q : ∀ w', Blk w' g T (cs.set off v) → Fr [g] w w' → w'.heap.size = w.heap.size → ∀ a, AgM ds a n L → wpList P ops Q rest a w') : wpList P ops Q (⟨none, .store t x y, ty, pos, after, none⟩ :: rest) a w :=
  st_store (o := off) h (by rw [hx, lit_add, Nat.zero_add]) hy hb ho h1 hc hs q
theorem s_storeB (hx : ev L x = some (.pointer (some ((⟨g, 0, none⟩ : Addr).add off)))) (hy : ev L y = some v) (hb : Blk w g T cs) (ho : Nat.blt off cs.length = true) (h1 : v.oneCell' = true) (hc : v.cells = #[v]) (hs : SizeOf P t 1) (q : ∀ w', Blk w' g T (cs.set off v) → Fr [g] w w' → w'.heap.size = w.heap.size → WL P ops Q rest n ds w' L) : WL P ops Q (⟨none, .store t x y, ty, pos, after, none⟩ :: rest) n ds w L := fun a h => st_storeB h hx hy hb ho h1 hc hs q -- short
theorem st_storeB0 (h : AgM ds a n L) (hx : ev L x = some (.pointer (some ⟨g, 0, none⟩))) (hy : ev L y = some v) (hb : Blk w g T [u]) (h1 : v.oneCell' = true) (hc : v.cells = #[v]) (hs : SizeOf P t 1)
    (q : ∀ w', Blk w' g T [v] → Fr [g] w w' → w'.heap.size = w.heap.size → ∀ a, AgM ds a n L → wpList P ops Q rest a w') : wpList P ops Q (⟨none, .store t x y, ty, pos, after, none⟩ :: rest) a w :=
  st_store (o := 0) h hx hy hb rfl h1 hc hs q
theorem s_storeB0 (hx : ev L x = some (.pointer (some ⟨g, 0, none⟩))) (hy : ev L y = some v) (hb : Blk w g T [u]) (h1 : v.oneCell' = true) (hc : v.cells = #[v]) (hs : SizeOf P t 1) (q : ∀ w', Blk w' g T [v] → Fr [g] w w' → w'.heap.size = w.heap.size → WL P ops Q rest n ds w' L) : WL P ops Q (⟨none, .store t x y, ty, pos, after, none⟩ :: rest) n ds w L := fun a h => st_storeB0 h hx hy hb h1 hc hs q -- short
/-- A store of a whole struct or array into its block. -/
theorem st_storeBA {vs : List Value} (h : AgM ds a n L) (hx : ev L x = some (.pointer (some ⟨g, 0, none⟩))) (hy : ev L y = some (.agg vs.toArray)) (hb : Blk w g T cs) (hl : vs.length = cs.length) (h1 : ∀ u ∈ vs, u.oneCell' = true) (hs : SizeOf P t vs.length)
    (q : ∀ w', Blk w' g T vs → Fr [g] w w' → w'.heap.size = w.heap.size → ∀ a, AgM ds a n L → wpList P ops Q rest a w') : wpList P ops Q (⟨none, .store t x y, ty, pos, after, none⟩ :: rest) a w := by
  have hst := run_storeCells_at P g 0 T vs 0 cs.toArray w hb (by simp; omega) h1
  refine st_skip h rfl rfl (w' := w.setRow g vs.toArray) ?_ (q _ ?_ (Fr.setRow w g _) (by simp))
  · simp [execOp, h.eval hx, h.eval hy, Instr.storeAt, Instr.sureAddr, storeVar, hs w, Value.cells, hst, hl]
  · unfold Blk; exact setRow_heap w g cs.toArray _ T (0, 0) hb
theorem s_storeBA {vs : List Value} (hx : ev L x = some (.pointer (some ⟨g, 0, none⟩))) (hy : ev L y = some (.agg vs.toArray)) (hb : Blk w g T cs) (hl : vs.length = cs.length) (h1 : ∀ u ∈ vs, u.oneCell' = true) (hs : SizeOf P t vs.length) (q : ∀ w', Blk w' g T vs → Fr [g] w w' → w'.heap.size = w.heap.size → WL P ops Q rest n ds w' L) : WL P ops Q (⟨none, .store t x y, ty, pos, after, none⟩ :: rest) n ds w L := fun a h => st_storeBA h hx hy hb hl h1 hs q -- short
/-- The address of an element of an array. -/
theorem ex_idxA {G : Option (Nat × Bool)} {ad : Addr} {N sz : Nat} (h : AgM ds a n L) (hx : ev L x = some (.pointer (some ad))) (hy : ev L y = some (.int k i)) (hu : P.underlying t = some (.array N T)) (hs : SizeOf P T sz) (h0 : 0 ≤ i) (h1 : i < N) :
    (execOp a.eval ⟨some d, .indexAddr t x y, ty, pos, after, G⟩).run P w = .ok (.value (.pointer (some (ad.add (i.toNat * sz))))) w := by
  simp [execOp, h.eval hx, h.eval hy, Instr.indexAt, asIntOf, run_underlying hu, Instr.sureAddr, h0, h1, hs w]
theorem st_idxA {ad : Addr} {N sz : Nat} (h : AgM ds a n L) (hx : ev L x = some (.pointer (some ad))) (hy : ev L y = some (.int k i)) (hu : P.underlying t = some (.array N T)) (hs : SizeOf P T sz) (h0 : 0 ≤ i) (h1 : i < N) (hn : Nat.blt d n = true)
    (q : ∀ a, AgM ds a n ((d, .pointer (some (ad.add (i.toNat * sz)))) :: L) → wpList P ops Q rest a w) : wpList P ops Q (⟨some d, .indexAddr t x y, ty, pos, after, none⟩ :: rest) a w :=
  st_ok h rfl rfl hn (ex_idxA h hx hy hu hs h0 h1) q
theorem s_idxA {ad : Addr} {N sz : Nat} (hx : ev L x = some (.pointer (some ad))) (hy : ev L y = some (.int k i)) (hu : P.underlying t = some (.array N T)) (hs : SizeOf P T sz) (h0 : 0 ≤ i) (h1 : i < N) (hn : Nat.blt d n = true) (q : WL P ops Q rest n ds w ((d, .pointer (some (ad.add (i.toNat * sz)))) :: L)) : WL P ops Q (⟨some d, .indexAddr t x y, ty, pos, after, none⟩ :: rest) n ds w L := fun a h => st_idxA h hx hy hu hs h0 h1 hn q -- short
theorem qt_idxA {ad : Addr} {N sz : Nat} (h : AgM ds a n L) (hx : ev L x = some (.pointer (some ad))) (hy : ev L y = some (.int k i)) (hu : P.underlying t = some (.array N T)) (hs : SizeOf P T sz) (h0 : 0 ≤ i) (h1 : i < N) (hn : Nat.blt d n = true)
    (q : ∀ a, AgM ds a n ((d, .pointer (some (ad.add (i.toNat * sz)))) :: L) → wpQuiet P ops C Qa rest a) : wpQuiet P ops C Qa (⟨some d, .indexAddr t x y, ty, pos, after, none⟩ :: rest) a :=
  qt_ok h rfl rfl hn (fun w _ => ex_idxA h hx hy hu hs h0 h1) q
/-- An array by value, at an index. -/
theorem st_idxV {vs : List Value} {N : Nat} (h : AgM ds a n L) (hx : ev L x = some (.agg vs.toArray)) (hy : ev L y = some (.int k i)) (hu : P.underlying t = some (.array N T)) (hs : SizeOf P T 1) (ha : NotAgg P T) (h0 : 0 ≤ i) (h1 : i < N) (hv : vs[i.toNat]? = some v) (hn : Nat.blt d n = true)
    (q : ∀ a, AgM ds a n ((d, v) :: L) → wpList P ops Q rest a w) : wpList P ops Q (⟨some d, .index t x y, ty, pos, after, none⟩ :: rest) a w :=
  st_ok h rfl rfl hn (by simp [execOp, h.eval hx, h.eval hy, Instr.index, asIntOf, run_underlying hu, h0, h1, hs w, part, ha w, hv]) q

theorem s_idxV {vs : List Value} {N : Nat} (hx : ev L x = some (.agg vs.toArray)) (hy : ev L y = some (.int k i)) (hu : P.underlying t = some (.array N T)) (hs : SizeOf P T 1) (ha : NotAgg P T) (h0 : 0 ≤ i) (h1 : i < N) (hv : vs[i.toNat]? = some v) (hn : Nat.blt d n = true) (q : WL P ops Q rest n ds w ((d, v) :: L)) : WL P ops Q (⟨some d, .index t x y, ty, pos, after, none⟩ :: rest) n ds w L := fun a h => st_idxV h hx hy hu hs ha h0 h1 hv hn q -- short
/-! A slice written out. -/
theorem foldl_set (vs : List Value) : ∀ (off : Nat) (cs : Array Value), off + vs.length ≤ cs.size →
    ((vs.zipIdx 0).foldl (fun cs (p : Value × Nat) => cs.setIfInBounds (off + p.2) p.1) cs) = (cs.toList.take off ++ vs ++ cs.toList.drop (off + vs.length)).toArray := by
  have key : ∀ (vs : List Value) (s off : Nat) (cs : Array Value), off + s + vs.length ≤ cs.size →
      ((vs.zipIdx s).foldl (fun cs (p : Value × Nat) => cs.setIfInBounds (off + p.2) p.1) cs) = (cs.toList.take (off + s) ++ vs ++ cs.toList.drop (off + s + vs.length)).toArray := by
    intro vs
    induction vs with
    | nil => intro s off cs _; simp
    | cons v vs ih =>
      intro s off cs hl
      simp only [List.zipIdx_cons, List.foldl_cons]
      rw [show s + 1 = s + 1 from rfl, ih (s + 1) off _ (by simp at hl ⊢; omega)]
      have e := list_seg_step cs.toList (off + s) v vs (by simp at hl ⊢; omega)
      simpa [Array.toList_setIfInBounds, Nat.add_assoc] using e
  intro off cs h
  simpa using key vs 0 off cs (by simpa using h)

theorem fill_all {α : Type} (E : Enc α) : ∀ (ys : List α) (vs : List Value) (s : Nat) (cs : Array Value) (N : Nat), vs.map Value.cells = ys.map (fun y => (E.enc y).toArray) → cs.size = N * E.sz → s + ys.length = N →
    Instr.fill (fun i => some (i * E.sz, E.sz)) cs ((List.range' s ys.length).zip vs) = some (cs.toList.take (s * E.sz) ++ ys.flatMap E.enc).toArray
  | [], _, s, cs, N, _, hc, hN => by
    simp only [List.length_nil, List.range'_zero, List.zip_nil_left, Instr.fill, List.flatMap_nil, List.append_nil]
    rw [List.take_of_length_le (by simp [hc]; rw [← hN]; simp)]
  | y :: ys, [], s, cs, N, h, _, _ => by simp at h
  | y :: ys, v :: vs, s, cs, N, h, hc, hN => by
    simp only [List.map_cons, List.cons.injEq] at h
    obtain ⟨hv, hr⟩ := h
    simp only [List.length_cons] at hN ⊢
    rw [List.range'_succ, List.zip_cons_cons]
    simp only [Instr.fill]
    have hsz : v.cells.size = E.sz := by rw [hv]; simp [E.len]
    have hle : s * E.sz + E.sz ≤ cs.size := by
      rw [hc]
      have : (s + 1) * E.sz ≤ N * E.sz := Nat.mul_le_mul_right _ (by omega)
      rw [Nat.add_mul, Nat.one_mul] at this; exact this
    rw [if_neg (by simp [hsz]; omega)]
    have hfold : (v.cells.zipIdx.foldl (fun cs (p : Value × Nat) => cs.setIfInBounds (s * E.sz + p.2) p.1) cs) = (cs.toList.take (s * E.sz) ++ E.enc y ++ cs.toList.drop (s * E.sz + (E.enc y).length)).toArray := by
      rw [← foldl_set (E.enc y) (s * E.sz) cs (by rw [E.len]; exact hle), hv]
      simp [← Array.foldl_toList]
    have := fill_all E ys vs (s + 1) (cs.toList.take (s * E.sz) ++ E.enc y ++ cs.toList.drop (s * E.sz + (E.enc y).length)).toArray N hr (by simp [E.len]; omega) (by omega)
    rw [hfold, this]
    congr 2
    rw [List.flatMap_cons, ← List.append_assoc]
    congr 1
    rw [Nat.add_mul, Nat.one_mul]
    have h2 : s * E.sz + E.sz = (cs.toList.take (s * E.sz) ++ E.enc y).length := by simp [E.len]; omega
    rw [h2]
    exact List.take_left

theorem zip_parts {a : Act} : ∀ (ps : List (Nat × Operand)), ps.map (fun p => (p.1, a.eval p.2)) = (ps.map (fun p => p.1)).zip (ps.map (a.eval ∘ fun p => p.2))
  | [] => rfl
  | p :: ps => by simp only [List.map_cons, List.zip_cons_cons, zip_parts ps]; rfl
theorem st_bslice {α : Type} {E : Enc α} {bytes len : Nat} {parts : List (Nat × Operand)} {vs : List Value} (ys : List α) (h : AgM ds a n L) (hp : evs L (parts.map (·.2)) vs) (hi : parts.map (·.1) = List.range' 0 ys.length) (hy : vs.map Value.cells = ys.map (fun y => (E.enc y).toArray)) (hl : ys.length = len)
    (he : ElemOf P t T E bytes) (hsm : len * E.sz ≤ 16777216) (hn : Nat.blt d n = true)
    (q : ∀ g w', g = w.heap.size → Own E T g w' (.slice (some ⟨g, 0, none⟩) len len) ys → Fr [] w w' → w'.heap.size = g + 1 → ∀ a, AgM ds a n ((d, .slice (some ⟨g, 0, none⟩) len len) :: L) → wpList P ops Q rest a w') :
    wpList P ops Q (⟨some d, .buildSlice t len parts.toArray, ty, pos, after, none⟩ :: rest) a w := by
  obtain ⟨inf, zv, hin, hz, hsz, hby, hzs⟩ := he.info
  have hm : parts.map (fun p => (p.1, a.eval p.2)) = (List.range' 0 ys.length).zip vs := by
    have h1 := h.evals hp
    rw [List.map_map] at h1
    rw [← hi, ← h1]
    exact zip_parts parts
  have hfill := fill_all E ys vs 0 ((Array.range (len * E.sz)).map (zv.cells[· % zv.cells.size]!)) len hy (by simp) (by omega)
  rw [Nat.zero_mul, List.take_zero, List.nil_append] at hfill
  have hno : ¬ 16777216 < len * E.sz := by omega
  refine st_ok h rfl rfl hn (w' := w.alloc (.cells (ys.flatMap E.enc).toArray T)) ?_ (q _ _ rfl ?_ (Fr.alloc [] w _) (by simp))
  · simp only [execOp, List.map_toArray, hm, Instr.buildSlice, Sem.run_bind, run_underlying he.und, Result.andThen_ok, sizeOf, typeInfo, Sem.run_pure]
    by_cases h0 : len * E.sz = 0
    · have hlen : len = 0 := by
        rcases Nat.mul_eq_zero.1 h0 with h | h
        · exact h
        · have := E.pos; omega
      subst hlen
      have hys : ys = [] := List.eq_nil_of_length_eq_zero hl
      subst hys
      simp [hin, hsz, Instr.fill, newRow]
      rw [show Array.range 0 = #[] from rfl]; simp
    · simp [hin, hsz, h0, hno, zeroValue, typeInfo, hz, newRow, hfill]
  · exact .inr ⟨_, len, _, by rw [hl], Nat.le_refl _, heap_alloc_new w _, by omega, by simp only [maxLen]; have := E.pos; have : len ≤ len * E.sz := Nat.le_mul_of_pos_right _ E.pos; omega, by simp [E.flat_len, hl], by
      rw [List.take_of_length_le (by simp [E.flat_len])]⟩
theorem s_bslice {α : Type} {E : Enc α} {bytes len : Nat} {parts : List (Nat × Operand)} {vs : List Value} (ys : List α) (hp : evs L (parts.map (·.2)) vs) (hi : parts.map (·.1) = List.range' 0 ys.length) (hy : vs.map Value.cells = ys.map (fun y => (E.enc y).toArray)) (hl : ys.length = len) (he : ElemOf P t T E bytes) (hsm : len * E.sz ≤ 16777216) (hn : Nat.blt d n = true) (q : ∀ g w', g = w.heap.size → Own E T g w' (.slice (some ⟨g, 0, none⟩) len len) ys → Fr [] w w' → w'.heap.size = g + 1 → WL P ops Q rest n ds w' ((d, .slice (some ⟨g, 0, none⟩) len len) :: L)) : WL P ops Q (⟨some d, .buildSlice t len parts.toArray, ty, pos, after, none⟩ :: rest) n ds w L := fun a h => st_bslice ys h hp hi hy hl he hsm hn q -- short
/-- A string out of bytes. -/
theorem ex_b2s {G : Option (Nat × Bool)} {bytes : Nat} (h : AgM ds a n L) (hx : ev L x = some v) (hs : Sl Enc.b w v l) (he : ElemOf P t T Enc.b bytes) (hu : P.underlying T = some (.int .u8)) (hd : P.underlying t' = some .string) :
    (execOp a.eval ⟨some d, .convert t t' x, ty, pos, after, G⟩).run P w = .ok (.value (S l)) w := by
  obtain ⟨A, c, rfl, h1, h2, h3⟩ := hs.flat
  simp only [execOp, h.eval hx, Sem.run_bind, run_convert_bytes_string w t t' T A l.length c he.und hu hd]
  by_cases hl : l = []
  · subst hl
    cases A with
    | none => simp [Conv.bytesToString, S]; rfl
    | some ad =>
      rw [List.length_nil, run_bytesToString w ad 0 c [] (by simp [loadCells, loadCellsFrom])]
      simp [S]; rfl
  · obtain ⟨ad, rfl, hc⟩ := h3 hl
    have hfl : l.flatMap Enc.b.enc = (l.map (fun c => (c.toNat : Int))).map (Value.int .u8) := by
      clear h1 h2 h3 hs hx hc hl
      induction l with
      | nil => rfl
      | cons c l ih => rw [List.flatMap_cons, ih]; rfl
    have hlc := run_loadCells_list (P := P) w ad _ hc
    rw [Enc.flat_len, hfl] at hlc
    rw [run_bytesToString w ad l.length c (l.map (fun c => (c.toNat : Int))) (by rw [← hlc]; simp [Enc.b])]
    have hfold : ∀ (l : List UInt8) (s : ByteArray), (l.map (fun c => (c.toNat : Int))).foldl (fun r n => r.push (UInt8.ofNat n.toNat)) s = ⟨s.data ++ l.toArray⟩ := by
      intro l
      induction l with
      | nil => intro s; simp
      | cons c l ih =>
        intro s
        rw [List.map_cons, List.foldl_cons, ih]
        apply ByteArray.ext
        simp [ByteArray.push]
    rw [hfold]
    simp [S]
theorem st_b2s {bytes : Nat} (h : AgM ds a n L) (hx : ev L x = some v) (hs : Sl Enc.b w v l) (he : ElemOf P t T Enc.b bytes) (hu : P.underlying T = some (.int .u8)) (hd : P.underlying t' = some .string) (hn : Nat.blt d n = true)
    (q : ∀ a, AgM ds a n ((d, S l) :: L) → wpList P ops Q rest a w) : wpList P ops Q (⟨some d, .convert t t' x, ty, pos, after, none⟩ :: rest) a w :=
  st_ok h rfl rfl hn (ex_b2s h hx hs he hu hd) q
theorem s_b2s {bytes : Nat} (hx : ev L x = some v) (hs : Sl Enc.b w v l) (he : ElemOf P t T Enc.b bytes) (hu : P.underlying T = some (.int .u8)) (hd : P.underlying t' = some .string) (hn : Nat.blt d n = true) (q : WL P ops Q rest n ds w ((d, S l) :: L)) : WL P ops Q (⟨some d, .convert t t' x, ty, pos, after, none⟩ :: rest) n ds w L := fun a h => st_b2s h hx hs he hu hd hn q -- short
/-- A function value. -/
theorem st_makeFunc {fn : Fn} {fs cs : List Operand} {us vs : List Value} (h : AgM ds a n L) (h1 : evs L fs us) (h2 : evs L cs vs) (hn : Nat.blt d n = true) (q : ∀ a, AgM ds a n ((d, .func fn us.toArray vs.toArray) :: L) → wpList P ops Q rest a w) :
    wpList P ops Q (⟨some d, .makeFunc fn fs.toArray cs.toArray, ty, pos, after, none⟩ :: rest) a w :=
  st_ok h rfl rfl hn (by simp [execOp, Instr.makeFunc, h.evals h1, h.evals h2]) q
theorem s_makeFunc {fn : Fn} {fs cs : List Operand} {us vs : List Value} (h1 : evs L fs us) (h2 : evs L cs vs) (hn : Nat.blt d n = true) (q : WL P ops Q rest n ds w ((d, .func fn us.toArray vs.toArray) :: L)) : WL P ops Q (⟨some d, .makeFunc fn fs.toArray cs.toArray, ty, pos, after, none⟩ :: rest) n ds w L := fun a h => st_makeFunc h h1 h2 hn q -- short
/-- A call of a function value. -/
theorem st_callv {f : FuncId} {xs : List Operand} {vs us ws : List Value} {ts : Array TypeId} {Φ : Value → World → Prop} (h : AgM ds a n L) (hy : ev L y = some (.func (.func f) us.toArray ws.toArray)) (hx : evs L xs vs) (hf : CallOf P f) (hc : Rets P f (us ++ vs ++ ws).toArray w Φ) (hn : Nat.blt d n = true)
    (hnf : ∀ g, y ≠ .func g)
    (q : ∀ v w', Φ v w' → ∀ a, AgM ds a n ((d, v) :: L) → wpList P ops Q rest a w') : wpList P ops Q (⟨some d, .call ⟨.value y, xs.toArray, ts⟩, ty, pos, after, none⟩ :: rest) a w :=
  st_enter (w' := w) h rfl rfl hn (by
    simp only [execOp, resolve, h.eval hy, Deferred.ofValue, Sem.run_bind, Sem.run_pure, Result.andThen_ok, invoke, List.map_toArray, h.evals hx, List.append_toArray]
    exact hf _ _) hc q

theorem clv {f : FuncId} {xs : List Operand} {vs us ws : List Value} {ts : Array TypeId} {Φ : Value → World → Prop} (hy : ev L y = some (.func (.func f) us.toArray ws.toArray)) (hx : evs L xs vs) (hf : CallOf P f) (hc : Rets P f (us ++ vs ++ ws).toArray w Φ) (hn : Nat.blt d n = true) (hnf : ∀ g, y ≠ .func g) (q : ∀ v w', Φ v w' → WL P ops Q rest n ds w' ((d, v) :: L)) : WL P ops Q (⟨some d, .call ⟨.value y, xs.toArray, ts⟩, ty, pos, after, none⟩ :: rest) n ds w L := fun a h => st_callv h hy hx hf hc hn hnf q -- short
/-! A struct or an array written out. -/
def splice (cs : List Value) (off : Nat) (vs : List Value) : List Value := cs.take off ++ vs ++ cs.drop (off + vs.length)
/-- The parts fit their places. -/
def PartsOk (pl : List (Nat × Nat)) (m : Nat) : List (Nat × Value) → Prop
  | [] => True
  | p :: r => (∃ q, pl[p.1]? = some q ∧ p.2.cells.size = q.2 ∧ Nat.ble (q.1 + q.2) m = true) ∧ PartsOk pl m r
theorem pok_nil {pl : List (Nat × Nat)} {m : Nat} : PartsOk pl m [] := trivial
theorem pok_cons {pl : List (Nat × Nat)} {m i : Nat} {q : Nat × Nat} {v : Value} {r : List (Nat × Value)} (h1 : pl[i]? = some q) (h2 : v.cells.size = q.2) (h3 : Nat.ble (q.1 + q.2) m = true) (hr : PartsOk pl m r) : PartsOk pl m ((i, v) :: r) := ⟨⟨q, h1, h2, h3⟩, hr⟩
def placed (pl : List (Nat × Nat)) (zs : List Value) (ps : List (Nat × Value)) : List Value := ps.foldl (fun cs p => splice cs (pl.getD p.1 (0, 0)).1 p.2.cells.toList) zs
def BuildAt (P : Program) (t : TypeId) (pl : List (Nat × Nat)) (zs : List Value) : Prop := ∀ (ps : List (Nat × Value)) (w : World), PartsOk pl zs.length ps → (Instr.build t ps.toArray).run P w = .ok (.agg (placed pl zs ps).toArray) w
theorem len_splice (cs vs : List Value) (off : Nat) (h : off + vs.length ≤ cs.length) : (splice cs off vs).length = cs.length := by simp [splice]; omega
theorem fill_placed (pl : List (Nat × Nat)) (f : Nat → Option (Nat × Nat)) (hf : ∀ i q, pl[i]? = some q → f i = some q) : ∀ (ps : List (Nat × Value)) (cs : List Value), PartsOk pl cs.length ps → Instr.fill f cs.toArray ps = some (placed pl cs ps).toArray
  | [], cs, _ => rfl
  | (i, v) :: ps, cs, ⟨⟨q, h1, h2, h3⟩, hr⟩ => by
    have h3' : q.1 + q.2 ≤ cs.length := by simpa [Nat.ble_eq] using h3
    have hl : v.cells.toList.length = q.2 := by simpa using h2
    have hs : (splice cs q.1 v.cells.toList).length = cs.length := len_splice _ _ _ (by rw [hl]; exact h3')
    have hfold : (v.cells.zipIdx.foldl (fun cs (p : Value × Nat) => cs.setIfInBounds (q.1 + p.2) p.1) cs.toArray) = (splice cs q.1 v.cells.toList).toArray := by
      have e := foldl_set v.cells.toList q.1 cs.toArray (by simpa [h2] using h3')
      rw [splice]
      simp only at e
      rw [← e, ← Array.foldl_toList, Array.toList_zipIdx]
    simp only [Instr.fill, hf i q h1]
    rw [if_neg (by simp [h2]; omega)]
    rw [hfold, fill_placed pl f hf ps _ (by rw [hs]; exact hr)]
    simp [placed, List.getD, h1]
theorem BuildAt.struct {t : TypeId} {fs : Array Field} {pl : List (Nat × Nat)} {zs : List Value} (hu : P.underlying t = some (.struct fs)) (hz : ∀ w : World, (zeroValue t).run P w = .ok (.agg zs.toArray) w)
    (hp : ∀ w : World, (fs.mapM fun f => do pure (f.offset, ← sizeOf f.type) : Sem (Array (Nat × Nat))).run P w = .ok pl.toArray w) : BuildAt P t pl zs := by
  intro ps w hok
  have hfill := fill_placed pl (fun i => pl.toArray[i]?) (fun i q h => by simpa using h) ps zs hok
  simp only [Instr.build, Sem.run_bind, hz w, Result.andThen_ok, run_underlying hu, hp w, Value.cells, hfill]
  rfl
theorem BuildAt.array {t T : TypeId} {N sz : Nat} {pl : List (Nat × Nat)} {zs : List Value} (hu : P.underlying t = some (.array N T)) (hz : ∀ w : World, (zeroValue t).run P w = .ok (.agg zs.toArray) w) (hs : SizeOf P T sz)
    (hp : ∀ i q, pl[i]? = some q → q = (i * sz, sz)) : BuildAt P t pl zs := by
  intro ps w hok
  have hfill := fill_placed pl (fun i => some (i * sz, sz)) (fun i q h => by rw [hp i q h]) ps zs hok
  simp only [Instr.build, Sem.run_bind, hz w, Result.andThen_ok, run_underlying hu, hs w, Value.cells, hfill]
  rfl
/-- A store of a struct or array into a part of a block. -/
theorem st_storeBP {vs cs' : List Value} (h : AgM ds a n L) (hx : ev L x = some (.pointer (some ((⟨g, 0, none⟩ : Addr).add off)))) (hy : ev L y = some (.agg vs.toArray)) (hb : Blk w g T cs) (hl : Nat.ble (off + vs.length) cs.length = true) (h1 : ∀ u ∈ vs, u.oneCell' = true) (hs : SizeOf P t vs.length) (hcs : splice cs off vs = cs')
    (q : ∀ w', Blk w' g T cs' → Fr [g] w w' → w'.heap.size = w.heap.size → ∀ a, AgM ds a n L → wpList P ops Q rest a w') : wpList P ops Q (⟨none, .store t x y, ty, pos, after, none⟩ :: rest) a w := by
  subst hcs
  rw [lit_add, Nat.zero_add] at hx
  have hst := run_storeCells_at P g off T vs 0 cs.toArray w hb (by have := Nat.le_of_ble_eq_true hl; simp; omega) h1
  refine st_skip h rfl rfl (w' := w.setRow g (splice cs off vs).toArray) ?_ (q _ ?_ (Fr.setRow w g _) (by simp))
  · have hst' : (storeCells ⟨g, off, none⟩ vs 0).run P w = .ok () (w.setRow g (splice cs off vs).toArray) := by simpa [splice] using hst
    simp [execOp, h.eval hx, h.eval hy, Instr.storeAt, Instr.sureAddr, storeVar, hs w, Value.cells, hst']
  · unfold Blk; exact setRow_heap w g cs.toArray _ T (0, 0) hb
theorem s_storeBP {vs cs' : List Value} (hx : ev L x = some (.pointer (some ((⟨g, 0, none⟩ : Addr).add off)))) (hy : ev L y = some (.agg vs.toArray)) (hb : Blk w g T cs) (hl : Nat.ble (off + vs.length) cs.length = true) (h1 : ∀ u ∈ vs, u.oneCell' = true) (hs : SizeOf P t vs.length) (hcs : splice cs off vs = cs') (q : ∀ w', Blk w' g T cs' → Fr [g] w w' → w'.heap.size = w.heap.size → WL P ops Q rest n ds w' L) : WL P ops Q (⟨none, .store t x y, ty, pos, after, none⟩ :: rest) n ds w L := fun a h => st_storeBP h hx hy hb hl h1 hs hcs q -- short
theorem ex_lit {G : Option (Nat × Bool)} {pl : List (Nat × Nat)} {zs cs : List Value} {parts : List (Nat × Operand)} {vs : List Value} (h : AgM ds a n L) (hp : evs L (parts.map (·.2)) vs) (hb : BuildAt P t pl zs) (hok : PartsOk pl zs.length ((parts.map (·.1)).zip vs)) (hc : placed pl zs ((parts.map (·.1)).zip vs) = cs) :
    (execOp a.eval ⟨some d, .build t parts.toArray, ty, pos, after, G⟩).run P w = .ok (.value (.agg cs.toArray)) w := by
  have hm : parts.map (fun p => (p.1, a.eval p.2)) = (parts.map (·.1)).zip vs := by
    rw [zip_parts, ← h.evals hp, List.map_map]
  simp only [execOp, List.map_toArray, hm, Sem.run_bind, hb _ w hok, Result.andThen_ok, Sem.run_pure, hc]
theorem st_lit {pl : List (Nat × Nat)} {zs cs : List Value} {parts : List (Nat × Operand)} {vs : List Value} (h : AgM ds a n L) (hp : evs L (parts.map (·.2)) vs) (hb : BuildAt P t pl zs) (hok : PartsOk pl zs.length ((parts.map (·.1)).zip vs)) (hc : placed pl zs ((parts.map (·.1)).zip vs) = cs) (hn : Nat.blt d n = true)
    (q : ∀ a, AgM ds a n ((d, .agg cs.toArray) :: L) → wpList P ops Q rest a w) : wpList P ops Q (⟨some d, .build t parts.toArray, ty, pos, after, none⟩ :: rest) a w :=
  st_ok h rfl rfl hn (ex_lit h hp hb hok hc) q
theorem s_lit {pl : List (Nat × Nat)} {zs cs : List Value} {parts : List (Nat × Operand)} {vs : List Value} (hp : evs L (parts.map (·.2)) vs) (hb : BuildAt P t pl zs) (hok : PartsOk pl zs.length ((parts.map (·.1)).zip vs)) (hc : placed pl zs ((parts.map (·.1)).zip vs) = cs) (hn : Nat.blt d n = true) (q : WL P ops Q rest n ds w ((d, .agg cs.toArray) :: L)) : WL P ops Q (⟨some d, .build t parts.toArray, ty, pos, after, none⟩ :: rest) n ds w L := fun a h => st_lit h hp hb hok hc hn q -- short
theorem qt_lit {pl : List (Nat × Nat)} {zs cs : List Value} {parts : List (Nat × Operand)} {vs : List Value} (h : AgM ds a n L) (hp : evs L (parts.map (·.2)) vs) (hb : BuildAt P t pl zs) (hok : PartsOk pl zs.length ((parts.map (·.1)).zip vs)) (hc : placed pl zs ((parts.map (·.1)).zip vs) = cs) (hn : Nat.blt d n = true)
    (q : ∀ a, AgM ds a n ((d, .agg cs.toArray) :: L) → wpQuiet P ops C Qa rest a) : wpQuiet P ops C Qa (⟨some d, .build t parts.toArray, ty, pos, after, none⟩ :: rest) a :=
  qt_ok h rfl rfl hn (fun _ _ => ex_lit h hp hb hok hc) q
theorem hd_lit {G : Option (Nat × Bool)} {K : Act → World → Prop} {fu : Nat} {listed : Array Bool} {pq : Option Nat} (ix : Nat) (hsel : Region.noSelect ops = true) (hfr : Fre pq ops listed ix = true) (hre : (Region.ready .any ops listed).contains ix = true) (hC : C w) {pl : List (Nat × Nat)} {zs cs : List Value} {parts : List (Nat × Operand)} {vs : List Value} (h : AgM ds a n L) (hG : Wd ops n L G)
    (hp : evs L (parts.map (·.2)) vs) (hb : BuildAt P t pl zs) (hok : PartsOk pl zs.length ((parts.map (·.1)).zip vs)) (hc : placed pl zs ((parts.map (·.1)).zip vs) = cs) (hix : ops[ix]? = some ⟨some d, .build t parts.toArray, ty, pos, after, G⟩) (hn : Nat.blt d n = true)
    (q : ∀ a, AgM ds a n ((d, .agg cs.toArray) :: L) → wpAnyP pq P ops (NormEnd K) C fu (listed.setIfInBounds ix true) a w) : wpAnyP pq P ops (NormEnd K) C (fu + 1) listed a w :=
  hd_ok ix hsel hfr hre hC h hG hix rfl hn (fun _ _ => ex_lit h hp hb hok hc) q
/-! Structs that are compared. -/
def EqOf {α : Type} [DecidableEq α] (P : Program) (t : TypeId) (V : α → Value) : Prop :=
  ∀ (e f : α) (ox oy : Operand) (w : World), (eqGuard .eql t ox oy (V e) (V f)).run P w = .ok () w ∧ (eqGuard .neq t ox oy (V e) (V f)).run P w = .ok () w ∧
    (binOp .eql t (V e) (V f)).run P w = .ok (.bool (decide (e = f))) w ∧ (binOp .neq t (V e) (V f)).run P w = .ok (.bool (!decide (e = f))) w
section
variable {α : Type} [DecidableEq α] {V : α → Value} {e f : α}
theorem ex_eqV {G : Option (Nat × Bool)} (h : AgM ds a n L) (hx : ev L x = some (V e)) (hy : ev L y = some (V f)) (he : EqOf P t V) : (execOp a.eval ⟨some d, .binOp .eql t x y t', ty, pos, after, G⟩).run P w = .ok (.value (.bool (decide (e = f)))) w := by
  obtain ⟨h1, _, h3, _⟩ := he e f x y w
  simp [execOp, h.eval hx, h.eval hy, h1, h3]
theorem ex_neV {G : Option (Nat × Bool)} (h : AgM ds a n L) (hx : ev L x = some (V e)) (hy : ev L y = some (V f)) (he : EqOf P t V) : (execOp a.eval ⟨some d, .binOp .neq t x y t', ty, pos, after, G⟩).run P w = .ok (.value (.bool (decide (e ≠ f)))) w := by
  obtain ⟨_, h2, _, h4⟩ := he e f x y w
  simp [execOp, h.eval hx, h.eval hy, h2, h4]
theorem st_eqV (h : AgM ds a n L) (hx : ev L x = some (V e)) (hy : ev L y = some (V f)) (he : EqOf P t V) (hn : Nat.blt d n = true) (q : ∀ a, AgM ds a n ((d, .bool (decide (e = f))) :: L) → wpList P ops Q rest a w) : wpList P ops Q (⟨some d, .binOp .eql t x y t', ty, pos, after, none⟩ :: rest) a w :=
  st_ok h rfl rfl hn (ex_eqV h hx hy he) q
theorem s_eqV (hx : ev L x = some (V e)) (hy : ev L y = some (V f)) (he : EqOf P t V) (hn : Nat.blt d n = true) (q : WL P ops Q rest n ds w ((d, .bool (decide (e = f))) :: L)) : WL P ops Q (⟨some d, .binOp .eql t x y t', ty, pos, after, none⟩ :: rest) n ds w L := fun a h => st_eqV h hx hy he hn q -- short
theorem st_neV (h : AgM ds a n L) (hx : ev L x = some (V e)) (hy : ev L y = some (V f)) (he : EqOf P t V) (hn : Nat.blt d n = true) (q : ∀ a, AgM ds a n ((d, .bool (decide (e ≠ f))) :: L) → wpList P ops Q rest a w) : wpList P ops Q (⟨some d, .binOp .neq t x y t', ty, pos, after, none⟩ :: rest) a w :=
  st_ok h rfl rfl hn (ex_neV h hx hy he) q
theorem s_neV (hx : ev L x = some (V e)) (hy : ev L y = some (V f)) (he : EqOf P t V) (hn : Nat.blt d n = true) (q : WL P ops Q rest n ds w ((d, .bool (decide (e ≠ f))) :: L)) : WL P ops Q (⟨some d, .binOp .neq t x y t', ty, pos, after, none⟩ :: rest) n ds w L := fun a h => st_neV h hx hy he hn q -- short
theorem qt_eqV (h : AgM ds a n L) (hx : ev L x = some (V e)) (hy : ev L y = some (V f)) (he : EqOf P t V) (hn : Nat.blt d n = true) (q : ∀ a, AgM ds a n ((d, .bool (decide (e = f))) :: L) → wpQuiet P ops C Qa rest a) : wpQuiet P ops C Qa (⟨some d, .binOp .eql t x y t', ty, pos, after, none⟩ :: rest) a :=
  qt_ok h rfl rfl hn (fun _ _ => ex_eqV h hx hy he) q
theorem qt_neV (h : AgM ds a n L) (hx : ev L x = some (V e)) (hy : ev L y = some (V f)) (he : EqOf P t V) (hn : Nat.blt d n = true) (q : ∀ a, AgM ds a n ((d, .bool (decide (e ≠ f))) :: L) → wpQuiet P ops C Qa rest a) : wpQuiet P ops C Qa (⟨some d, .binOp .neq t x y t', ty, pos, after, none⟩ :: rest) a :=
  qt_ok h rfl rfl hn (fun _ _ => ex_neV h hx hy he) q
end
/-! Results that lie in memory. -/
theorem retC {fn : Func} {R : Ending → World → Prop} {p pt : Nat} (h : Ag a n L) (hr : fn.results = #[.cell p pt]) (hp : look L p = some (.pointer (some ⟨g, 0, none⟩))) (hb : Blk w g T cs) (hg : AggOf P pt cs.length) (k : R (.returned (.agg cs.toArray)) w) : bodyPost P fn R .ret a w :=
  bodyPost_ret (v := .agg cs.toArray) (by
    have h1 := h.at_ p _ hp
    simp only [Array.getD_eq_getD_getElem?] at h1
    simp [results, hr, h1, asAddr, loadVar, hg.1 w, hg.2 w, run_loadCells_list w _ cs hb.cells]) h.dfr k
theorem retCT {fn : Func} {R : Ending → World → Prop} {p pt q : Nat} (h : Ag a n L) (hr : fn.results = #[.cell p pt, .tmp q]) (hp : look L p = some (.pointer (some ⟨g, 0, none⟩))) (hb : Blk w g T cs) (hg : AggOf P pt cs.length) (hv : look L q = some v) (k : R (.returned (.tuple #[.agg cs.toArray, v])) w) : bodyPost P fn R .ret a w :=
  bodyPost_ret (v := .tuple #[.agg cs.toArray, v]) (by
    have h1 := h.at_ p _ hp
    have h2 := h.at_ q _ hv
    simp only [Array.getD_eq_getD_getElem?] at h1 h2
    simp [results, hr, h1, h2, asAddr, loadVar, hg.1 w, hg.2 w, run_loadCells_list w _ cs hb.cells]) h.dfr k
theorem retCTT {fn : Func} {R : Ending → World → Prop} {p pt q r : Nat} (h : Ag a n L) (hr : fn.results = #[.cell p pt, .tmp q, .tmp r]) (hp : look L p = some (.pointer (some ⟨g, 0, none⟩))) (hb : Blk w g T cs) (hg : AggOf P pt cs.length) (hv : look L q = some v) (hu : look L r = some u) (k : R (.returned (.tuple #[.agg cs.toArray, v, u])) w) : bodyPost P fn R .ret a w :=
  bodyPost_ret (v := .tuple #[.agg cs.toArray, v, u]) (by
    have h1 := h.at_ p _ hp
    have h2 := h.at_ q _ hv
    have h3 := h.at_ r _ hu
    simp only [Array.getD_eq_getD_getElem?] at h1 h2 h3
    simp [results, hr, h1, h2, h3, asAddr, loadVar, hg.1 w, hg.2 w, run_loadCells_list w _ cs hb.cells]) h.dfr k
end
end Go.Lw
