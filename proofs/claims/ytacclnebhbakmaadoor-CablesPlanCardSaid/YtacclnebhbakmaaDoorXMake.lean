/- make of a slice, for a walk by live slots. Conditions: none; each law is over any program. -/
import Derived.Test.YtacclnebhbakmaaDoorXNest
set_option linter.unusedVariables false
set_option linter.unusedSimpArgs false
namespace Go.Lw
open Go.RowKit

theorem zero_rows {α : Type} (E : Enc α) (z : α) : ∀ (c : Nat), ((Array.range (c * E.sz)).map ((E.enc z).toArray[· % E.sz]!)).toList = (List.replicate c z).flatMap E.enc := by
  intro c
  apply List.ext_getElem?
  intro m
  have hl : ((List.replicate c z).flatMap E.enc).length = c * E.sz := by rw [E.flat_len, List.length_replicate]
  rcases Nat.lt_or_ge m (c * E.sz) with h | h
  · have hi : m / E.sz < c := Nat.div_lt_of_lt_mul (by rw [Nat.mul_comm]; exact h)
    have hj : m % E.sz < E.sz := Nat.mod_lt _ E.pos
    have e : m / E.sz * E.sz + m % E.sz = m := by rw [Nat.mul_comm]; exact Nat.div_add_mod m E.sz
    have hg := E.flat_get (List.replicate c z) (m / E.sz) z (by rw [List.getElem?_replicate, if_pos hi]) (m % E.sz) hj
    rw [e] at hg
    rw [hg]
    have hj' : m % E.sz < (E.enc z).length := by rw [E.len]; exact hj
    simp [h]
    rw [List.getElem?_eq_getElem hj']
    rfl
  · rw [List.getElem?_eq_none (by simp; exact h), List.getElem?_eq_none (by rw [hl]; exact h)]

section
variable {P : Program} {a : Act} {n : Nat} {L : List (Nat × Value)} {ds : List Nat} {w w' : World} {Q : Exit → Act → World → Prop} {ops : Array Oper} {rest : List Oper}
variable {d : Nat} {ty : TypeId} {pos : String} {after : Array Edge} {v u : Value} {x y z : Operand} {t t' T : TypeId} {k k' : IntKind} {i j : Int}

theorem ex_makeSlice {G : Option (Nat × Bool)} {α : Type} {E : Enc α} {bytes m c : Nat} (e0 : α) (h : AgM ds a n L) (hx : ev L x = some (.int k (m : Int))) (hy : ev L y = some (.int k' (c : Int))) (he : ElemOf P t T E bytes)
    (hz : ∀ w : World, (zeroValue T).run P w = .ok v w) (hv : v.cells = (E.enc e0).toArray) (hmc : m ≤ c) (hb : c * bytes ≤ 140737488355328) (hM : c ≤ maxLen) :
    (execOp a.eval ⟨some d, .makeSlice t x y, ty, pos, after, G⟩).run P w = .ok (.value (.slice (some ⟨w.heap.size, 0, none⟩) m c)) (w.alloc (.cells ((List.replicate c e0).flatMap E.enc).toArray T)) := by
  obtain ⟨inf, zv, hin, hzz, hsz, hby, hzs⟩ := he.info
  have hzv : zv = v := by
    have := hz w
    simpa [zeroValue, typeInfo, hin, hzz] using this
  subst hzv
  have hM' : c ≤ 9223372036854775807 := by simp only [maxLen] at hM; omega
  have w1 : IntKind.i64.wrap (m : Int) = m := IntWalk.i64_in _ (by omega)
  have w2 : IntKind.i64.wrap (c : Int) = c := IntWalk.i64_in _ (by omega)
  have hbi : ((inf.bytes : Nat) : Int) * (c : Int) ≤ 140737488355328 := by
    have : ((inf.bytes * c : Nat) : Int) ≤ 140737488355328 := by rw [hby, Nat.mul_comm]; omega
    simpa using this
  have ht : (decide ((c : Int) < 0) || decide ((inf.bytes : Int) * (c : Int) > 2 ^ 48)) = false := by
    simp only [Bool.or_eq_false_iff, decide_eq_false_iff_not]
    constructor <;> omega
  have hlt : ¬ ((m : Int) < 0) := by omega
  have hgt : ¬ ((m : Int) > (c : Int)) := by omega
  have hroom : ¬ (c * inf.bytes > roomBytes) := by
    rw [hby]; unfold roomBytes; omega
  have hrows := zero_rows E e0 c
  simp only [execOp, h.eval hx, h.eval hy, Instr.makeSlice, Sem.run_bind, run_underlying he.und, Result.andThen_ok, asInt, asIntOf, Sem.run_pure, typeInfo, sizeOf, w1, w2]
  simp [hin, hsz, ht, hlt, hgt, askRoom, hroom, w1, w2]
  by_cases h0 : c = 0
  · subst h0
    simp [newRow]
    rw [show Array.range 0 = #[] from rfl]; simp
  · have hcz : ¬ (c * E.sz = 0) := by
      have := E.pos
      intro e
      rcases Nat.mul_eq_zero.1 e with e | e <;> omega
    have h00 : ¬ ((c : Int) < 0) := by omega
    have hbb : ¬ ((281474976710656 : Int) < (inf.bytes : Int) * (c : Int)) := by omega
    simp [hcz, zeroValue, typeInfo, hin, hzz, newRow, hv, E.len, h00, hbb]
    congr 2
    apply Array.toList_inj.1
    simpa using hrows
theorem st_makeSlice {α : Type} {E : Enc α} {bytes m c : Nat} (e0 : α) (h : AgM ds a n L) (hx : ev L x = some (.int k (m : Int))) (hy : ev L y = some (.int k' (c : Int))) (he : ElemOf P t T E bytes)
    (hz : ∀ w : World, (zeroValue T).run P w = .ok v w) (hv : v.cells = (E.enc e0).toArray) (hmc : m ≤ c) (hb : c * bytes ≤ 140737488355328) (hM : c ≤ maxLen) (hn : Nat.blt d n = true)
    (q : ∀ g w', g = w.heap.size → Own E T g w' (.slice (some ⟨g, 0, none⟩) m c) (List.replicate m e0) → Fr [] w w' → w'.heap.size = g + 1 → ∀ a, AgM ds a n ((d, .slice (some ⟨g, 0, none⟩) m c) :: L) → wpList P ops Q rest a w') :
    wpList P ops Q (⟨some d, .makeSlice t x y, ty, pos, after, none⟩ :: rest) a w := by
  refine st_ok h rfl rfl hn (ex_makeSlice e0 h hx hy he hz hv hmc hb hM) (q _ _ rfl ?_ (Fr.alloc [] w _) (by simp))
  refine .inr ⟨_, c, _, by simp, Nat.le_refl _, heap_alloc_new w _, by simpa using hmc, hM, by simp [E.flat_len], ?_⟩
  simp only [List.length_replicate]
  obtain ⟨r, rfl⟩ : ∃ r, c = m + r := ⟨c - m, by omega⟩
  rw [← List.replicate_append_replicate, List.flatMap_append]
  rw [show m * E.sz = ((List.replicate m e0).flatMap E.enc).length by rw [E.flat_len, List.length_replicate]]
  exact List.take_left
theorem s_makeSlice {α : Type} {E : Enc α} {bytes m c : Nat} (e0 : α) (hx : ev L x = some (.int k (m : Int))) (hy : ev L y = some (.int k' (c : Int))) (he : ElemOf P t T E bytes) (hz : ∀ w : World, (zeroValue T).run P w = .ok v w) (hv : v.cells = (E.enc e0).toArray) (hmc : m ≤ c) (hb : c * bytes ≤ 140737488355328) (hM : c ≤ maxLen) (hn : Nat.blt d n = true) (q : ∀ g w', g = w.heap.size → Own E T g w' (.slice (some ⟨g, 0, none⟩) m c) (List.replicate m e0) → Fr [] w w' → w'.heap.size = g + 1 → WL P ops Q rest n ds w' ((d, .slice (some ⟨g, 0, none⟩) m c) :: L)) : WL P ops Q (⟨some d, .makeSlice t x y, ty, pos, after, none⟩ :: rest) n ds w L := fun a h => st_makeSlice e0 h hx hy he hz hv hmc hb hM hn q -- short
end
end Go.Lw
namespace Go.Lw
section
variable {P : Program} {a : Act} {n : Nat} {L : List (Nat × Value)} {ds : List Nat} {w w' : World} {ops : Array Oper} {C : World → Prop}
variable {d : Nat} {ty : TypeId} {pos : String} {after : Array Edge} {x y : Operand} {t T : TypeId} {k : IntKind} {i : Int}
theorem hd_idxA {G : Option (Nat × Bool)} {K : Act → World → Prop} {fu : Nat} {listed : Array Bool} {pq : Option Nat} {ad : Addr} {N sz : Nat} (ix : Nat) (hsel : Region.noSelect ops = true) (hfr : Fre pq ops listed ix = true) (hre : (Region.ready .any ops listed).contains ix = true) (hC : C w) (h : AgM ds a n L) (hG : Wd ops n L G)
    (hx : ev L x = some (.pointer (some ad))) (hy : ev L y = some (.int k i)) (hu : P.underlying t = some (.array N T)) (hs : SizeOf P T sz) (h0 : 0 ≤ i) (h1 : i < N) (hix : ops[ix]? = some ⟨some d, .indexAddr t x y, ty, pos, after, G⟩) (hn : Nat.blt d n = true)
    (q : ∀ a, AgM ds a n ((d, .pointer (some (ad.add (i.toNat * sz)))) :: L) → wpAnyP pq P ops (NormEnd K) C fu (listed.setIfInBounds ix true) a w) : wpAnyP pq P ops (NormEnd K) C (fu + 1) listed a w :=
  hd_ok ix hsel hfr hre hC h hG hix rfl hn (fun _ _ => ex_idxA h hx hy hu hs h0 h1) q
end
end Go.Lw
