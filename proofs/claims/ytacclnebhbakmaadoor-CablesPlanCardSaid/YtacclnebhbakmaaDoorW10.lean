/- Walks. -/
import Derived.Test.YtacclnebhbakmaaDoorRows
import Derived.Test.YtacclnebhbakmaaDoorW9
import Derived.Test.YtacclnebhbakmaaDoorXOp
import Derived.Test.YtacclnebhbakmaaDoorXMap
set_option linter.unusedVariables false
set_option linter.unusedSimpArgs false
namespace Go.Proofs.YtacclnebhbakmaaDoor
open Go.Lw

theorem sum_succ (l : List Int) (i : Nat) (h : i < l.length) : (l.take (i + 1)).sum = (l.take i).sum + l.getD i 0 := by
  rw [take_succ_getD l i h, List.sum_append]; simp
theorem sum_bd {l : List Int} (hb : ∀ i, i < l.length → 0 ≤ l.getD i 0 ∧ l.getD i 0 ≤ 1000) : ∀ i, i ≤ l.length → 0 ≤ (l.take i).sum ∧ (l.take i).sum ≤ 1000 * (i : Int)
  | 0, _ => by simp
  | i + 1, h => by
    have h1 := sum_bd hb i (by omega)
    have h2 := hb i (by omega)
    rw [sum_succ l i (by omega)]; omega
theorem sum_ok (v : Value) (l : List Int) (w0 : World) (hs : Sl Enc.i64 w0 v l) (hb : ∀ i, i < l.length → 0 ≤ l.getD i 0 ∧ l.getD i 0 ≤ 1000) (hl : l.length ≤ 1000) : Rets Tryd.prog 25 #[v] w0 fun r w' => r = .int .i64 l.sum ∧ Fr [] w0 w' := by
 obtain ⟨A, c, rfl, hcc, hM, hA⟩ := id hs
 clear hA
 refine we [(0, .slice A l.length c)] Tryd.func25 rfl Tryd.ntmps25 rfl (.cons rfl .nil) ?_
 have hs0 := hs
 refine sr (asg rfl rfl (nn (sr (asg rfl rfl (nn (sq (sr (mv rfl rfl (lnS rfl Tryd.underlying26 rfl (mv rfl rfl (nn ?_)))))))))))
 refine bl ?_
 refine lpK (ι := Nat) [(6, _), (7, _)] (fun i => [(3, .int .i64 (l.take i).sum), (8, .int .i64 (i : Int))]) (fun i w' => Fr [] w0 w' ∧ i ≤ l.length) (fun i => l.length - i) 0 (.cons rfl (.cons rfl (.cons rfl (.cons rfl .nil)))) ⟨Fr.refl _ _, Nat.zero_le _⟩ ?_
 rintro i w1 ⟨q1, hi⟩
 have z1 := q1.size
 refine kpC [(6, _), (7, _), (3, _), (8, _)] (.cons rfl (.cons rfl (.cons rfl (.cons rfl .nil)))) ?_
 have hsb := sum_bd hb i hi
 refine sr (lt' rfl rfl rfl (nn (sq ?_)))
 refine cd rfl (fun c0 => ?_) (fun c0 => ?_)
 · have hbi := hb i (by omega)
   refine sk (tn (sq (bl (sr ?_))))
   replace hs := hs0.ext q1
   refine s_idxL (p := i) (0) rfl hs rfl el26 (by omega) (by omega) (by omega) rfl (fun ad10 hc10 => ?_)
   refine s_loadC0 rfl (hc10 _ hs) na3 rfl (asg rfl rfl (nn (rg (mv rfl rfl (mv rfl rfl (s_add rfl rfl (wi6 (by omega)) rfl (asg rfl rfl (nl (bn' (tn (rg ?_)))))))))))
   refine s_add rfl rfl (wi6 (by omega)) rfl (mv rfl rfl (nl ?_))
   exact lpE (i + 1) (.cons rfl (.cons rfl (.cons (congrArg (fun z => some (Value.int .i64 z)) (sum_succ l i (by omega)).symm) (.cons rfl .nil)))) ⟨q1, by omega⟩ (by omega)
 · obtain rfl : i = l.length := by omega
   refine ex (te (te (xh (tn (sr (mv rfl rfl (asg rfl rfl (kpL [(2, _)] (.cons rfl .nil) (nn (rt (r1 Tryd.results25 rfl ?_)))))))))))
   exact ⟨_, rfl, by rw [List.take_length], q1⟩
end Go.Proofs.YtacclnebhbakmaaDoor
