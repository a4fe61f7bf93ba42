/- copy(dst, src) into a slice of the call's own. Conditions: none. -/
import Derived.Test.YtbalocjcbmkecaaGreatDoorXS
import Derived.Test.YtbalocjcbmkecaaGreatDoorXMake
import Derived.Laws.CopyRow
set_option linter.unusedVariables false
set_option linter.unusedSimpArgs false
namespace Go.Lw
open Go.RowKit
section
variable {P : Program} {n : Nat} {L : List (Nat × Value)} {ds : List Nat} {w w' : World} {Q : Exit → Act → World → Prop} {ops : Array Oper} {rest : List Oper} {a : Act} {d : Nat} {ty T t : TypeId} {pos : String} {after : Array Edge} {v : Value} {x y : Operand}
theorem st_copy {α : Type} {E : Enc α} {bytes base g cap : Nat} {zs ys : List α} (h : AgM ds a n L) (hx : ev L x = some (.slice (some ⟨g, 0, none⟩) zs.length cap)) (hy : ev L y = some v) (ho : Own E T base w (.slice (some ⟨g, 0, none⟩) zs.length cap) zs) (hs : Sl E w v ys) (hl : ys.length = zs.length) (he : ElemOf P t T E bytes) (hn : Nat.blt d n = true)
    (q : ∀ w', Own E T base w' (.slice (some ⟨g, 0, none⟩) zs.length cap) ys → Fr [g] w w' → w'.heap.size = w.heap.size → ∀ a, AgM ds a n ((d, .int .i64 (zs.length : Int)) :: L) → wpList P ops Q rest a w') : wpList P ops Q (⟨some d, .call ⟨.builtin .copy, #[x, y], #[t, t]⟩, ty, pos, after, none⟩ :: rest) a w := by
  obtain ⟨i, z, h1, h2, h3, h4, h5⟩ := he.info
  obtain ⟨A, c, rfl, hc, hM, hA⟩ := hs.flat
  rcases ho with ⟨e, _⟩ | ⟨g', cap', cur, e, hb, hg, r1, r2, r3, r4⟩
  · cases e
  cases e
  have hle : ys.length * E.sz ≤ cur.size := by rw [hl]; exact Nat.le_trans (Nat.mul_le_mul_right _ r1) r3
  obtain ⟨cs, hcs0⟩ : ∃ cs, ys.flatMap E.enc = cs := ⟨_, rfl⟩
  have hlen : cs.length = zs.length * E.sz := by rw [← hcs0, E.flat_len, hl]
  have hone := E.flat_one ys
  rw [hcs0] at hone hA
  have hst := run_storeCells_at P g 0 T cs 0 cur w hg (by rw [hlen]; rw [hl] at hle; simpa using hle) hone
  simp only [Nat.zero_add, List.take_zero, List.nil_append] at hst
  have key : (Builtin.copy_ #[t, t] ty #[.slice (some ⟨g, 0, none⟩) zs.length cap, .slice A ys.length c]).run P w = .ok (.int .i64 (zs.length : Int)) (w.setRow g (cs ++ cur.toList.drop cs.length).toArray) := by
    have hfc : (Builtin.firstCells E.sz zs.length (.slice A ys.length c)).run P w = .ok cs.toArray w := by
      by_cases hys : ys = []
      · have h0 : zs.length = 0 := by rw [← hl, hys]; rfl
        have hc0 : cs = [] := by rw [← hcs0, hys]; rfl
        rw [h0, hc0]
        cases A with
        | none => simp [Builtin.firstCells]
        | some ad => simp [Builtin.firstCells, loadCells, loadCellsFrom]
      · obtain ⟨ad, rfl, hcs⟩ := hA hys
        have hload := run_loadCells_list (P := P) w ad cs hcs
        rw [hlen] at hload
        simpa [Builtin.firstCells] using hload
    rw [hl] at hfc
    simp only [Builtin.copy_, List.getElem?_toArray, List.getElem?_cons_zero, List.getElem?_cons_succ, Sem.run_bind, run_underlying he.und, Result.andThen_ok, Builtin.lenOf, Sem.run_pure, hl, Nat.min_self, show ∀ m : Nat, Nat.min m m = m from Nat.min_self, sizeOf, typeInfo]
    simp [h1, h3, hfc, hst, goInt]
  refine st_ok h rfl rfl hn (w' := w.setRow g (cs ++ cur.toList.drop cs.length).toArray) ?_ (q _ (.inr ⟨g, cap, _, by rw [hl], hb, setRow_heap w g cur _ T (0, 0) hg, by rw [hl]; exact r1, r2, ?_, ?_⟩) (Fr.setRow w g _) (by simp))
  · rw [exec_builtin]; unfold builtin
    simp only [List.map_toArray, List.map_cons, List.map_nil, h.eval hx, h.eval hy, Sem.run_bind, key, Result.andThen_ok, Sem.run_pure]
  · simp only [List.size_toArray, List.length_append, List.length_drop, Array.length_toList]; omega
  · rw [hl, ← hlen, hcs0]; simp
theorem s_copy {α : Type} {E : Enc α} {bytes base g cap : Nat} {zs ys : List α} (hx : ev L x = some (.slice (some ⟨g, 0, none⟩) zs.length cap)) (hy : ev L y = some v) (ho : Own E T base w (.slice (some ⟨g, 0, none⟩) zs.length cap) zs) (hs : Sl E w v ys) (hl : ys.length = zs.length) (he : ElemOf P t T E bytes) (hn : Nat.blt d n = true)
    (q : ∀ w', Own E T base w' (.slice (some ⟨g, 0, none⟩) zs.length cap) ys → Fr [g] w w' → w'.heap.size = w.heap.size → WL P ops Q rest n ds w' ((d, .int .i64 (zs.length : Int)) :: L)) : WL P ops Q (⟨some d, .call ⟨.builtin .copy, #[x, y], #[t, t]⟩, ty, pos, after, none⟩ :: rest) n ds w L := fun a h => st_copy h hx hy ho hs hl he hn q
end
end Go.Lw
