/- Elements of slices: read and written in one stride. Conditions: none; each rule is over any program. -/
import Derived.Test.YtacclnebhbakmaaDoorXShelf
set_option linter.unusedVariables false
set_option linter.unusedSimpArgs false
namespace Go.Lw
open Go.RowKit
section
variable {P : Program} {a : Act} {n : Nat} {L : List (Nat × Value)} {ds : List Nat} {w w' : World} {Q : Exit → Act → World → Prop} {C : World → Prop} {Qa : Act → Prop} {ops : Array Oper} {rest : List Oper} {d d2 : Nat} {ty ty2 : TypeId} {pos pos2 : String} {after after2 : Array Edge} {v u : Value} {x y z : Operand} {t T : TypeId} {k k' k'' : IntKind} {i j : Int}
theorem AgM.skip1 {v1 v2 : Value} (h : AgM ds a n ((d2, v2) :: (d, v1) :: L)) (hf : look L d = none) : AgM ds a n ((d2, v2) :: L) :=
  ⟨h.dfr, h.size, fun t u hu => h.at_ t u (by
    simp only [look] at hu ⊢
    by_cases e2 : d2 = t
    · subst e2; simpa using hu
    · rw [beq_no e2] at hu ⊢
      by_cases e : d = t
      · subst e; exact absurd (hf.symm.trans hu) (by simp)
      · rw [beq_no e]; exact hu)⟩
theorem Sl.at {α : Type} {E : Enc α} {ys : List α} (hs : Sl E w v ys) {p : Nat} (hp : p < ys.length) : ∃ ad c, v = .slice (some ad) ys.length c ∧ ∀ W, Sl E W v ys → Cells W (ad.add (p * E.sz)) (E.enc ys[p]) := by
  obtain ⟨A, c, rfl, h1, h2, h3⟩ := hs
  obtain ⟨ad, rfl, _⟩ := h3 p _ (List.getElem?_eq_getElem hp)
  refine ⟨ad, c, rfl, fun W hW => ?_⟩
  obtain ⟨A', c', e, _, _, h3'⟩ := hW
  cases e
  obtain ⟨ad', e, hc⟩ := h3' p _ (List.getElem?_eq_getElem hp)
  cases e; exact hc
theorem getD_at {α : Type} (ys : List α) (p : Nat) (hp : p < ys.length) (z : α) : ys[p] = ys.getD p z := by simp [List.getD, hp]
/-- x[y], an int. -/
theorem st_ixl {ys : List Int} {p : Nat} (h : AgM ds a n L) (hx : ev L x = some v) (hs : Sl Enc.i64 w v ys) (hy : ev L y = some (.int k i)) (he : ElemOf P t T Enc.i64 8) (hg : NotAgg P T) (h0 : 0 ≤ i) (h1 : i < ys.length) (hp : i.toNat = p) (hf : look L d = none) (hn : Nat.blt d n = true) (hn2 : Nat.blt d2 n = true)
    (q : ∀ a, AgM ds a n ((d2, .int .i64 (ys.getD p 0)) :: L) → wpList P ops Q rest a w) : wpList P ops Q (⟨some d, .indexAddr t x y, ty, pos, after, none⟩ :: ⟨some d2, .load T (.tmp d), ty2, pos2, after2, none⟩ :: rest) a w := by
  subst hp
  have hlt : i.toNat < ys.length := by omega
  obtain ⟨ad, c, rfl, hc⟩ := hs.at hlt
  refine st_idxS h hx hy he h0 h1 rfl hn fun a h => ?_
  refine st_loadC0 h (by simp [ev, look]) (hc w hs) hg hn2 fun a h => ?_
  rw [getD_at ys _ hlt 0] at h
  exact q a (h.skip1 hf)
theorem s_ixl {ys : List Int} {p : Nat} (hx : ev L x = some v) (hs : Sl Enc.i64 w v ys) (hy : ev L y = some (.int k i)) (he : ElemOf P t T Enc.i64 8) (hg : NotAgg P T) (h0 : 0 ≤ i) (h1 : i < ys.length) (hp : i.toNat = p) (hf : look L d = none) (hn : Nat.blt d n = true) (hn2 : Nat.blt d2 n = true) (q : WL P ops Q rest n ds w ((d2, .int .i64 (ys.getD p 0)) :: L)) : WL P ops Q (⟨some d, .indexAddr t x y, ty, pos, after, none⟩ :: ⟨some d2, .load T (.tmp d), ty2, pos2, after2, none⟩ :: rest) n ds w L := fun a h => st_ixl h hx hs hy he hg h0 h1 hp hf hn hn2 q -- short
theorem qt_ixl {ys : List Int} {p : Nat} (h : AgM ds a n L) (hx : ev L x = some v) (hs : ∀ w, C w → Sl Enc.i64 w v ys) (hw : C w) (hy : ev L y = some (.int k i)) (he : ElemOf P t T Enc.i64 8) (hg : NotAgg P T) (h0 : 0 ≤ i) (h1 : i < ys.length) (hp : i.toNat = p) (hf : look L d = none) (hn : Nat.blt d n = true) (hn2 : Nat.blt d2 n = true)
    (q : ∀ a, AgM ds a n ((d2, .int .i64 (ys.getD p 0)) :: L) → wpQuiet P ops C Qa rest a) : wpQuiet P ops C Qa (⟨some d, .indexAddr t x y, ty, pos, after, none⟩ :: ⟨some d2, .load T (.tmp d), ty2, pos2, after2, none⟩ :: rest) a := by
  subst hp
  have hlt : i.toNat < ys.length := by omega
  obtain ⟨ad, c, rfl, hc⟩ := (hs w hw).at hlt
  refine qt_idxS h hx hy he h0 h1 rfl hn fun a h => ?_
  refine qt_loadC0 h (by simp [ev, look]) (fun W hW => hc W (hs W hW)) hg hn2 fun a h => ?_
  rw [getD_at ys _ hlt 0] at h
  exact q a (h.skip1 hf)
theorem hd_ixl {K : Act → World → Prop} {fu : Nat} {listed : Array Bool} {pq : Option Nat} {ys : List Int} {p : Nat} (ix ix2 : Nat) (hsel : Region.noSelect ops = true) (hfr : Fre pq ops listed ix = true) (hre : (Region.ready .any ops listed).contains ix = true) (hfr2 : Fre pq ops (listed.setIfInBounds ix true) ix2 = true) (hre2 : (Region.ready .any ops (listed.setIfInBounds ix true)).contains ix2 = true) (hC : C w) (h : AgM ds a n L)
    (hx : ev L x = some v) (hs : ∀ w, C w → Sl Enc.i64 w v ys) (hy : ev L y = some (.int k i)) (he : ElemOf P t T Enc.i64 8) (hg : NotAgg P T) (h0 : 0 ≤ i) (h1 : i < ys.length) (hp : i.toNat = p) (hf : look L d = none) (hix : ops[ix]? = some ⟨some d, .indexAddr t x y, ty, pos, after, none⟩) (hix2 : ops[ix2]? = some ⟨some d2, .load T (.tmp d), ty2, pos2, after2, none⟩) (hn : Nat.blt d n = true) (hn2 : Nat.blt d2 n = true)
    (q : ∀ a, AgM ds a n ((d2, .int .i64 (ys.getD p 0)) :: L) → wpAnyP pq P ops (NormEnd K) C fu ((listed.setIfInBounds ix true).setIfInBounds ix2 true) a w) : wpAnyP pq P ops (NormEnd K) C (fu + 1 + 1) listed a w := by
  subst hp
  have hlt : i.toNat < ys.length := by omega
  obtain ⟨ad, c, rfl, hc⟩ := (hs w hC).at hlt
  refine hd_idxS ix hsel hfr hre hC h wn hx hy he h0 h1 rfl hix hn fun a h => ?_
  refine hd_load ix2 hsel hfr2 hre2 hC h wn (ad := ad.add (i.toNat * Enc.i64.sz)) (v := .int .i64 ys[i.toNat]) (by simp [ev, look]) (fun W hW => ?_) hg hix2 hn2 fun a h => ?_
  · have := hc W (hs W hW) 0 _ rfl; rwa [Addr.add_zero'] at this
  · rw [getD_at ys _ hlt 0] at h
    exact q a (h.skip1 hf)
/-- x[y] of a struct. -/
theorem st_ixa {α : Type} {E : Enc α} {bytes : Nat} {ys : List α} {p : Nat} (y0 : α) (h : AgM ds a n L) (hx : ev L x = some v) (hs : Sl E w v ys) (hy : ev L y = some (.int k i)) (he : ElemOf P t T E bytes) (hg : AggOf P T E.sz) (h0 : 0 ≤ i) (h1 : i < ys.length) (hp : i.toNat = p) (hf : look L d = none) (hn : Nat.blt d n = true) (hn2 : Nat.blt d2 n = true)
    (q : ∀ a, AgM ds a n ((d2, .agg (E.enc (ys.getD p y0)).toArray) :: L) → wpList P ops Q rest a w) : wpList P ops Q (⟨some d, .indexAddr t x y, ty, pos, after, none⟩ :: ⟨some d2, .load T (.tmp d), ty2, pos2, after2, none⟩ :: rest) a w := by
  subst hp
  have hlt : i.toNat < ys.length := by omega
  obtain ⟨ad, c, rfl, hc⟩ := hs.at hlt
  refine st_idxS h hx hy he h0 h1 rfl hn fun a h => ?_
  refine st_loadA h (by simp [ev, look]) (hc w hs) (by rw [E.len]; exact hg) hn2 fun a h => ?_
  rw [getD_at ys _ hlt y0] at h
  exact q a (h.skip1 hf)
theorem s_ixa {α : Type} {E : Enc α} {bytes : Nat} {ys : List α} {p : Nat} (y0 : α) (hx : ev L x = some v) (hs : Sl E w v ys) (hy : ev L y = some (.int k i)) (he : ElemOf P t T E bytes) (hg : AggOf P T E.sz) (h0 : 0 ≤ i) (h1 : i < ys.length) (hp : i.toNat = p) (hf : look L d = none) (hn : Nat.blt d n = true) (hn2 : Nat.blt d2 n = true) (q : WL P ops Q rest n ds w ((d2, .agg (E.enc (ys.getD p y0)).toArray) :: L)) : WL P ops Q (⟨some d, .indexAddr t x y, ty, pos, after, none⟩ :: ⟨some d2, .load T (.tmp d), ty2, pos2, after2, none⟩ :: rest) n ds w L := fun a h => st_ixa y0 h hx hs hy he hg h0 h1 hp hf hn hn2 q -- short
/-- x[y] = z. -/
theorem st_ixs {α : Type} {E : Enc α} {bytes base : Nat} {ys : List α} {p : Nat} (e : α) (h : AgM ds a n L) (hx : ev L x = some v) (ho : Own E T base w v ys) (hy : ev L y = some (.int k i)) (hz : ev L z = some u) (hzd : z ≠ .tmp d) (he : ElemOf P t T E bytes) (hsz : SizeOf P T E.sz) (hc : u.cells = (E.enc e).toArray) (h0 : 0 ≤ i) (h1 : i < ys.length) (hp : i.toNat = p) (hf : look L d = none) (hn : Nat.blt d n = true)
    (q : ∀ w', Own E T base w' v (ys.set p e) → Fr (blks v) w w' → w'.heap.size = w.heap.size → ∀ a, AgM ds a n L → wpList P ops Q rest a w') : wpList P ops Q (⟨some d, .indexAddr t x y, ty, pos, after, none⟩ :: ⟨none, .store T (.tmp d) z, ty2, pos2, after2, none⟩ :: rest) a w := by
  subst hp
  have hlt : i.toNat < ys.length := by omega
  rcases ho with ⟨rfl, rfl⟩ | ⟨g, cap, cur, rfl, r⟩
  · simp at hlt
  have ho : Own E T base w (.slice (some ⟨g, 0, none⟩) ys.length cap) ys := .inr ⟨g, cap, cur, rfl, r⟩
  refine st_idxS h hx hy he h0 h1 rfl hn fun a h => ?_
  have hz' : ev ((d, Value.pointer (some ((⟨g, 0, none⟩ : Addr).add (i.toNat * E.sz)))) :: L) z = some u := by
    cases z with
    | tmp s =>
      have : ¬ d = s := fun e => hzd (by rw [e])
      simp only [ev, look, beq_no this, cond_false]; exact hz
    | _ => exact hz
  refine st_storeO e h (by simp [ev, look]) hz' ho hlt hc hsz fun w' h1 h2 h3 a h => ?_
  exact q w' h1 h2 h3 a ⟨h.dfr, h.size, fun s u hu => h.at_ s u (by
    simp only [look]
    by_cases e : d = s
    · subst e; rw [hf] at hu; cases hu
    · rw [beq_no e]; exact hu)⟩
theorem s_ixs {α : Type} {E : Enc α} {bytes base : Nat} {ys : List α} {p : Nat} (e : α) (hx : ev L x = some v) (ho : Own E T base w v ys) (hy : ev L y = some (.int k i)) (hz : ev L z = some u) (hzd : z ≠ .tmp d) (he : ElemOf P t T E bytes) (hsz : SizeOf P T E.sz) (hc : u.cells = (E.enc e).toArray) (h0 : 0 ≤ i) (h1 : i < ys.length) (hp : i.toNat = p) (hf : look L d = none) (hn : Nat.blt d n = true) (q : ∀ w', Own E T base w' v (ys.set p e) → Fr (blks v) w w' → w'.heap.size = w.heap.size → WL P ops Q rest n ds w' L) : WL P ops Q (⟨some d, .indexAddr t x y, ty, pos, after, none⟩ :: ⟨none, .store T (.tmp d) z, ty2, pos2, after2, none⟩ :: rest) n ds w L := fun a h => st_ixs e h hx ho hy hz hzd he hsz hc h0 h1 hp hf hn q -- short
theorem st_min3 {ts : Array TypeId} {l : Int} (h : AgM ds a n L) (hx : ev L x = some (.int k i)) (hy : ev L y = some (.int k' j)) (hz : ev L z = some (.int k'' l)) (hn : Nat.blt d n = true) (q : ∀ a, AgM ds a n ((d, .int k (min (min i j) l)) :: L) → wpList P ops Q rest a w) :
    wpList P ops Q (⟨some d, .call ⟨.builtin .min, #[x, y, z], ts⟩, ty, pos, after, none⟩ :: rest) a w :=
  st_ok h rfl rfl hn (by
    rw [exec_builtin]; unfold builtin
    have e : ∀ t, (Builtin.min_ ts t #[.int k i, .int k' j, .int k'' l]).run P w = .ok (.int k (min (min i j) l)) w := by
      intro t
      simp [Builtin.min_, Builtin.min2]
      by_cases h1 : j < i <;> simp [h1] <;> (split <;> omega)
    simp only [List.map_toArray, List.map_cons, List.map_nil, h.eval hx, h.eval hy, h.eval hz, Sem.run_bind, e, Result.andThen_ok, Sem.run_pure]) q
theorem s_min3 {ts : Array TypeId} {l : Int} (hx : ev L x = some (.int k i)) (hy : ev L y = some (.int k' j)) (hz : ev L z = some (.int k'' l)) (hn : Nat.blt d n = true) (q : WL P ops Q rest n ds w ((d, .int k (min (min i j) l)) :: L)) : WL P ops Q (⟨some d, .call ⟨.builtin .min, #[x, y, z], ts⟩, ty, pos, after, none⟩ :: rest) n ds w L := fun a h => st_min3 h hx hy hz hn q -- short
theorem st_max3 {ts : Array TypeId} {l : Int} (h : AgM ds a n L) (hx : ev L x = some (.int k i)) (hy : ev L y = some (.int k' j)) (hz : ev L z = some (.int k'' l)) (hn : Nat.blt d n = true) (q : ∀ a, AgM ds a n ((d, .int k (max (max i j) l)) :: L) → wpList P ops Q rest a w) :
    wpList P ops Q (⟨some d, .call ⟨.builtin .max, #[x, y, z], ts⟩, ty, pos, after, none⟩ :: rest) a w :=
  st_ok h rfl rfl hn (by
    rw [exec_builtin]; unfold builtin
    have e : ∀ t, (Builtin.max_ ts t #[.int k i, .int k' j, .int k'' l]).run P w = .ok (.int k (max (max i j) l)) w := by
      intro t
      simp [Builtin.max_, Builtin.max2]
      by_cases h1 : i < j <;> simp [h1] <;> (split <;> omega)
    simp only [List.map_toArray, List.map_cons, List.map_nil, h.eval hx, h.eval hy, h.eval hz, Sem.run_bind, e, Result.andThen_ok, Sem.run_pure]) q
theorem s_max3 {ts : Array TypeId} {l : Int} (hx : ev L x = some (.int k i)) (hy : ev L y = some (.int k' j)) (hz : ev L z = some (.int k'' l)) (hn : Nat.blt d n = true) (q : WL P ops Q rest n ds w ((d, .int k (max (max i j) l)) :: L)) : WL P ops Q (⟨some d, .call ⟨.builtin .max, #[x, y, z], ts⟩, ty, pos, after, none⟩ :: rest) n ds w L := fun a h => st_max3 h hx hy hz hn q -- short
/-- The address of an element of a slice that reads as a list. -/
theorem Sl.at' {α : Type} {E : Enc α} {ys : List α} (hs : Sl E w v ys) {p : Nat} (hp : p < ys.length) (y0 : α) : ∃ ad c, v = .slice (some ad) ys.length c ∧ ∀ W, Sl E W v ys → Cells W (ad.add (p * E.sz)) (E.enc (ys.getD p y0)) := by
  obtain ⟨ad, c, h1, h2⟩ := hs.at hp
  exact ⟨ad, c, h1, by rw [← getD_at ys p hp y0]; exact h2⟩
theorem st_idxL {α : Type} {E : Enc α} {bytes : Nat} {ys : List α} {p : Nat} (y0 : α) (h : AgM ds a n L) (hx : ev L x = some v) (hs : Sl E w' v ys) (hy : ev L y = some (.int k i)) (he : ElemOf P t T E bytes) (h0 : 0 ≤ i) (h1 : i < ys.length) (hp : i.toNat = p) (hn : Nat.blt d n = true)
    (q : ∀ ad, (∀ W, Sl E W v ys → Cells W ad (E.enc (ys.getD p y0))) → ∀ a, AgM ds a n ((d, .pointer (some ad)) :: L) → wpList P ops Q rest a w) : wpList P ops Q (⟨some d, .indexAddr t x y, ty, pos, after, none⟩ :: rest) a w := by
  subst hp
  obtain ⟨ad, c, rfl, hc⟩ := hs.at' (p := i.toNat) (by omega) y0
  exact st_idxS h hx hy he h0 h1 rfl hn (q _ hc)
theorem s_idxL {α : Type} {E : Enc α} {bytes : Nat} {ys : List α} {p : Nat} (y0 : α) (hx : ev L x = some v) (hs : Sl E w' v ys) (hy : ev L y = some (.int k i)) (he : ElemOf P t T E bytes) (h0 : 0 ≤ i) (h1 : i < ys.length) (hp : i.toNat = p) (hn : Nat.blt d n = true) (q : ∀ ad, (∀ W, Sl E W v ys → Cells W ad (E.enc (ys.getD p y0))) → WL P ops Q rest n ds w ((d, .pointer (some ad)) :: L)) : WL P ops Q (⟨some d, .indexAddr t x y, ty, pos, after, none⟩ :: rest) n ds w L := fun a h => st_idxL y0 h hx hs hy he h0 h1 hp hn q -- short
theorem qt_idxL {α : Type} {E : Enc α} {bytes : Nat} {ys : List α} {p : Nat} (y0 : α) (h : AgM ds a n L) (hx : ev L x = some v) (hs : Sl E w' v ys) (hy : ev L y = some (.int k i)) (he : ElemOf P t T E bytes) (h0 : 0 ≤ i) (h1 : i < ys.length) (hp : i.toNat = p) (hn : Nat.blt d n = true)
    (q : ∀ ad, (∀ W, Sl E W v ys → Cells W ad (E.enc (ys.getD p y0))) → ∀ a, AgM ds a n ((d, .pointer (some ad)) :: L) → wpQuiet P ops C Qa rest a) : wpQuiet P ops C Qa (⟨some d, .indexAddr t x y, ty, pos, after, none⟩ :: rest) a := by
  subst hp
  obtain ⟨ad, c, rfl, hc⟩ := hs.at' (p := i.toNat) (by omega) y0
  exact qt_idxS h hx hy he h0 h1 rfl hn (q _ hc)
theorem hd_idxL {G : Option (Nat × Bool)} {K : Act → World → Prop} {fu : Nat} {listed : Array Bool} {pq : Option Nat} {α : Type} {E : Enc α} {bytes : Nat} {ys : List α} {p : Nat} (y0 : α) (ix : Nat) (hsel : Region.noSelect ops = true) (hfr : Fre pq ops listed ix = true) (hre : (Region.ready .any ops listed).contains ix = true) (hC : C w) (h : AgM ds a n L) (hG : Wd ops n L G)
    (hx : ev L x = some v) (hs : Sl E w' v ys) (hy : ev L y = some (.int k i)) (he : ElemOf P t T E bytes) (h0 : 0 ≤ i) (h1 : i < ys.length) (hp : i.toNat = p) (hix : ops[ix]? = some ⟨some d, .indexAddr t x y, ty, pos, after, G⟩) (hn : Nat.blt d n = true)
    (q : ∀ ad, (∀ W, Sl E W v ys → Cells W ad (E.enc (ys.getD p y0))) → ∀ a, AgM ds a n ((d, .pointer (some ad)) :: L) → wpAnyP pq P ops (NormEnd K) C fu (listed.setIfInBounds ix true) a w) : wpAnyP pq P ops (NormEnd K) C (fu + 1) listed a w := by
  subst hp
  obtain ⟨ad, c, rfl, hc⟩ := hs.at' (p := i.toNat) (by omega) y0
  exact hd_idxS ix hsel hfr hre hC h hG hx hy he h0 h1 rfl hix hn (q _ hc)
theorem hd_loadC0 {G : Option (Nat × Bool)} {K : Act → World → Prop} {fu : Nat} {listed : Array Bool} {pq : Option Nat} {ad : Addr} (ix : Nat) (hsel : Region.noSelect ops = true) (hfr : Fre pq ops listed ix = true) (hre : (Region.ready .any ops listed).contains ix = true) (hC : C w) (h : AgM ds a n L) (hG : Wd ops n L G) (hx : ev L x = some (.pointer (some ad))) (hc : ∀ w, C w → Cells w ad [v]) (hg : NotAgg P t)
    (hix : ops[ix]? = some ⟨some d, .load t x, ty, pos, after, G⟩) (hn : Nat.blt d n = true) (q : ∀ a, AgM ds a n ((d, v) :: L) → wpAnyP pq P ops (NormEnd K) C fu (listed.setIfInBounds ix true) a w) : wpAnyP pq P ops (NormEnd K) C (fu + 1) listed a w :=
  hd_load ix hsel hfr hre hC h hG hx (fun W hW => by have := hc W hW 0 v rfl; rwa [Addr.add_zero'] at this) hg hix hn q
theorem st_fad2 {ad : Addr} {f off o1 : Nat} (h : AgM ds a n L) (hx : ev L x = some (.pointer (some (ad.add o1)))) (hf : FieldAt P t f off) (hn : Nat.blt d n = true) (q : ∀ a, AgM ds a n ((d, .pointer (some (ad.add (o1 + off)))) :: L) → wpList P ops Q rest a w) : wpList P ops Q (⟨some d, .fieldAddr t x f, ty, pos, after, none⟩ :: rest) a w :=
  st_fieldAddr h hx hf hn (by rw [add_add]; exact q)
theorem s_fad2 {ad : Addr} {f off o1 : Nat} (hx : ev L x = some (.pointer (some (ad.add o1)))) (hf : FieldAt P t f off) (hn : Nat.blt d n = true) (q : WL P ops Q rest n ds w ((d, .pointer (some (ad.add (o1 + off)))) :: L)) : WL P ops Q (⟨some d, .fieldAddr t x f, ty, pos, after, none⟩ :: rest) n ds w L := fun a h => st_fad2 h hx hf hn q -- short
theorem qt_fad2 {ad : Addr} {f off o1 : Nat} (h : AgM ds a n L) (hx : ev L x = some (.pointer (some (ad.add o1)))) (hf : FieldAt P t f off) (hn : Nat.blt d n = true) (q : ∀ a, AgM ds a n ((d, .pointer (some (ad.add (o1 + off)))) :: L) → wpQuiet P ops C Qa rest a) :
    wpQuiet P ops C Qa (⟨some d, .fieldAddr t x f, ty, pos, after, none⟩ :: rest) a := qt_fieldAddr h hx hf hn (by rw [add_add]; exact q)
theorem hd_fad2 {G : Option (Nat × Bool)} {K : Act → World → Prop} {fu : Nat} {listed : Array Bool} {pq : Option Nat} {ad : Addr} {f off o1 : Nat} (ix : Nat) (hsel : Region.noSelect ops = true) (hfr : Fre pq ops listed ix = true) (hre : (Region.ready .any ops listed).contains ix = true) (hC : C w) (h : AgM ds a n L) (hG : Wd ops n L G) (hx : ev L x = some (.pointer (some (ad.add o1)))) (hf : FieldAt P t f off) (hix : ops[ix]? = some ⟨some d, .fieldAddr t x f, ty, pos, after, G⟩) (hn : Nat.blt d n = true)
    (q : ∀ a, AgM ds a n ((d, .pointer (some (ad.add (o1 + off)))) :: L) → wpAnyP pq P ops (NormEnd K) C fu (listed.setIfInBounds ix true) a w) : wpAnyP pq P ops (NormEnd K) C (fu + 1) listed a w :=
  hd_fieldAddr ix hsel hfr hre hC h hG hx hf hix hn (by rw [add_add]; exact q)
theorem hd_loadC {G : Option (Nat × Bool)} {K : Act → World → Prop} {fu : Nat} {listed : Array Bool} {pq : Option Nat} {ad : Addr} {off : Nat} {cs : List Value} (ix : Nat) (hsel : Region.noSelect ops = true) (hfr : Fre pq ops listed ix = true) (hre : (Region.ready .any ops listed).contains ix = true) (hC : C w) (h : AgM ds a n L) (hG : Wd ops n L G) (hx : ev L x = some (.pointer (some (ad.add off)))) (hc : ∀ w, C w → Cells w ad cs) (hv : cs[off]? = some v) (hg : NotAgg P t)
    (hix : ops[ix]? = some ⟨some d, .load t x, ty, pos, after, G⟩) (hn : Nat.blt d n = true) (q : ∀ a, AgM ds a n ((d, v) :: L) → wpAnyP pq P ops (NormEnd K) C fu (listed.setIfInBounds ix true) a w) : wpAnyP pq P ops (NormEnd K) C (fu + 1) listed a w :=
  hd_load ix hsel hfr hre hC h hG hx (fun W hW => hc W hW off v hv) hg hix hn q
theorem Blk.part {w : World} {g T off : Nat} {cs vs : List Value} (hb : Blk w g T cs) (hv : (cs.drop off).take vs.length = vs) : Cells w ((⟨g, 0, none⟩ : Addr).add off) vs := fun j u hu => by
    rw [← hv] at hu
    have hj : (cs.drop off)[j]? = some u := by
      rw [List.getElem?_take] at hu; split at hu
      · exact hu
      · cases hu
    rw [List.getElem?_drop] at hj
    rw [add_add]; exact hb.cellAdd hj
theorem hd_loadBP {G : Option (Nat × Bool)} {K : Act → World → Prop} {fu : Nat} {listed : Array Bool} {pq : Option Nat} {g T off : Nat} {cs vs : List Value} (ix : Nat) (hsel : Region.noSelect ops = true) (hfr : Fre pq ops listed ix = true) (hre : (Region.ready .any ops listed).contains ix = true) (hC : C w) (h : AgM ds a n L) (hG : Wd ops n L G) (hx : ev L x = some (.pointer (some ((⟨g, 0, none⟩ : Addr).add off)))) (hb : ∀ w, C w → Blk w g T cs) (hg : AggOf P t vs.length) (hv : (cs.drop off).take vs.length = vs)
    (hix : ops[ix]? = some ⟨some d, .load t x, ty, pos, after, G⟩) (hn : Nat.blt d n = true) (q : ∀ a, AgM ds a n ((d, .agg vs.toArray) :: L) → wpAnyP pq P ops (NormEnd K) C fu (listed.setIfInBounds ix true) a w) : wpAnyP pq P ops (NormEnd K) C (fu + 1) listed a w :=
  hd_loadA ix hsel hfr hre hC h hG hx (fun w hw => (hb w hw).part hv) hg hix hn q
theorem qt_loadBP {g T off : Nat} {cs vs : List Value} (h : AgM ds a n L) (hx : ev L x = some (.pointer (some ((⟨g, 0, none⟩ : Addr).add off)))) (hb : ∀ w, C w → Blk w g T cs) (hg : AggOf P t vs.length) (hv : (cs.drop off).take vs.length = vs) (hn : Nat.blt d n = true) (q : ∀ a, AgM ds a n ((d, .agg vs.toArray) :: L) → wpQuiet P ops C Qa rest a) :
    wpQuiet P ops C Qa (⟨some d, .load t x, ty, pos, after, none⟩ :: rest) a := qt_loadA h hx (fun w hw => (hb w hw).part hv) hg hn q
/-- x[lo:hi] of a slice that reads as a list. -/
theorem Sl.cutv {α : Type} {E : Enc α} {ys : List α} {A : Option Addr} {m cp p p' : Nat} (hs : Sl E w (.slice A m cp) ys) (h1 : p ≤ p') (h2 : p' ≤ ys.length) : Sl E w (.slice (if cp = p then A else A.map (·.add (p * E.sz))) (p' - p) (cp - p)) ((ys.take p').drop p) := by
  have hs0 := hs
  obtain ⟨A', c', e, hl, hM, _⟩ := hs0
  cases e
  have ht := hs.take rfl (m := p') h2 (B := A) (c' := cp) (by omega) hM (fun _ => rfl)
  have hl2 : (ys.take p').length = p' := by simp; omega
  have := ht.drop rfl (m := p) (by rw [hl2]; exact h1) (B := if cp = p then A else A.map (·.add (p * E.sz))) (c' := cp - p) (by rw [hl2]; omega) (by omega) (fun hlt => by rw [hl2] at hlt; rw [if_neg (by omega)])
  rw [hl2] at this
  exact this
end
end Go.Lw
