/- Walks. -/
import Derived.Test.YtacclnebhbakmaaDoorRows
import Derived.Test.YtacclnebhbakmaaDoorW5
import Derived.Test.YtacclnebhbakmaaDoorXOp
import Derived.Test.YtacclnebhbakmaaDoorXMap
import Derived.Test.YtacclnebhbakmaaDoorXCross
set_option linter.unusedVariables false
set_option linter.unusedSimpArgs false
namespace Go.Proofs.YtacclnebhbakmaaDoor
open Go.Lw

theorem shchk_ok (v : Value) (xs : List Int) (w0 : World) (hs : Sl Enc.i64 w0 v xs) : Rets Tryd.prog 11 #[v] w0 fun r w' => r = .int .i64 (if Asc xs then 0 else 1) ∧ Fr [] w0 w' := by
 obtain ⟨A, c, rfl, hcc, hM, hA⟩ := id hs
 clear hA
 unfold maxLen at hM
 refine we [(0, .slice A xs.length c)] Tryd.func11 rfl Tryd.ntmps11 rfl (.cons rfl .nil) ?_
 have hs0 := hs
 refine sr (asg rfl rfl (nn (sq (sr (mv rfl rfl (lnS rfl Tryd.underlying26 rfl (mv rfl rfl (nn (bl ?_)))))))))
 refine lpK (ι := Nat) [(0, _), (5, _), (6, _)] (fun i => [(7, .int .i64 (i : Int))]) (fun i w' => Fr [] w0 w' ∧ i ≤ xs.length ∧ ∀ j, j < i → 1 ≤ xs.getD j 0 ∧ xs.getD j 0 ≤ 40 ∧ (0 < j → xs.getD (j - 1) 0 < xs.getD j 0)) (fun i => xs.length - i) 0 (.cons rfl (.cons rfl (.cons rfl (.cons rfl .nil)))) ⟨Fr.refl _ _, ⟨Nat.zero_le _, fun j hj => absurd hj (Nat.not_lt_zero j)⟩⟩ ?_
 rintro i w1 ⟨q1, ⟨hi, ha⟩⟩
 have z1 := q1.size
 refine kpC [(0, _), (5, _), (6, _), (7, _)] (.cons rfl (.cons rfl (.cons rfl (.cons rfl .nil)))) ?_
 refine sr (lt' rfl rfl rfl (nn (sq ?_)))
 refine cd rfl (fun c0 => ?_) (fun c0 => ?_)
 · refine sk (tn (sq (bl (sr (mv rfl rfl ?_)))))
   replace hs := hs0.ext q1
   refine s_idxL (p := i) (0) rfl hs rfl el26 (by omega) (by omega) (by omega) rfl (fun ad10 hc10 => ?_)
   refine s_loadC0 rfl (hc10 _ hs) na3 rfl (asg rfl rfl (asg rfl rfl (nn (sr (mv rfl rfl (lt' rfl rfl rfl (mv rfl rfl ?_)))))))
   refine gs 14 rfl (fun g0 => ?_) (fun g0 => ?_)
   · refine gN rfl rfl rfl (gN rfl rfl rfl (pkt rfl rfl rfl rfl (mv rfl rfl (gN rfl rfl rfl (gN rfl rfl rfl (gN rfl rfl rfl (gS rfl rfl rfl (gS rfl rfl rfl (gS rfl rfl rfl (gS rfl rfl rfl (gS rfl rfl rfl ?_)))))))))))
     refine gS rfl rfl rfl (gS rfl rfl rfl (gN rfl rfl rfl (pkt rfl rfl rfl rfl (kpL [(0, _), (5, _), (6, _), (7, _), (30, _)] (.cons rfl (.cons rfl (.cons rfl (.cons rfl (.cons rfl .nil))))) (nn (ct rfl (sr (asg rfl rfl (nn (rt (rb ?_)))))))))))
     refine tr (tr (rb (tr (r1 Tryd.results11 rfl ?_))))
     exact ⟨_, rfl, by first | rw [if_neg (show ¬ Asc xs from fun h => by have := h i (by omega); omega)] | rw [if_pos (show Asc xs from fun j hj => ha j (by omega))], q1⟩
   · refine gY rfl (mv rfl rfl (gY rfl (gt' rfl rfl rfl (pkf rfl rfl rfl rfl (mv rfl rfl ?_)))))
     refine gs 18 rfl (fun g1 => ?_) (fun g1 => ?_)
     · refine gN rfl rfl rfl (gN rfl rfl rfl (gN rfl rfl rfl (gS rfl rfl rfl (gS rfl rfl rfl (gS rfl rfl rfl (gS rfl rfl rfl (gS rfl rfl rfl (gS rfl rfl rfl (gS rfl rfl rfl (gN rfl rfl rfl (pkt rfl rfl rfl rfl ?_)))))))))))
       refine kpL [(0, _), (5, _), (6, _), (7, _), (30, _)] (.cons rfl (.cons rfl (.cons rfl (.cons rfl (.cons rfl .nil))))) (nn (ct rfl (sr (asg rfl rfl (nn (rt (rb (tr (tr (rb (tr ?_)))))))))))
       refine r1 Tryd.results11 rfl ?_
       exact ⟨_, rfl, by first | rw [if_neg (show ¬ Asc xs from fun h => by have := h i (by omega); omega)] | rw [if_pos (show Asc xs from fun j hj => ha j (by omega))], q1⟩
     · refine gY rfl (mv rfl rfl (gY rfl (gt' rfl rfl rfl (gY rfl (mv rfl rfl ?_)))))
       refine gs 21 rfl (fun g2 => ?_) (fun g2 => ?_)
       · refine gY rfl (mv rfl rfl (gY rfl (mv rfl rfl (gY rfl (s_sub rfl rfl (wi6 (by omega)) rfl (gY rfl (s_idxL (p := (i - 1)) (0) rfl hs rfl el26 (by omega) (by omega) (by omega) rfl (fun ad25 hc25 => ?_))))))))
         refine gY rfl (s_loadC0 rfl (hc25 _ hs) na3 rfl (gY rfl (mv rfl rfl (gY rfl (ge' rfl rfl rfl (gY rfl (pkt rfl rfl rfl rfl (pkf rfl rfl rfl rfl (kpL [(0, _), (5, _), (6, _), (7, _), (30, _)] (.cons rfl (.cons rfl (.cons rfl (.cons rfl (.cons rfl .nil))))) (nn ?_))))))))))
         refine cd rfl (fun c1 => ?_) (fun c1 => ?_)
         · refine sr (asg rfl rfl (nn (rt (rb (tr (tr (rb (tr (r1 Tryd.results11 rfl ?_)))))))))
           exact ⟨_, rfl, by first | rw [if_neg (show ¬ Asc xs from fun h => by have := h i (by omega); omega)] | rw [if_pos (show Asc xs from fun j hj => ha j (by omega))], q1⟩
         · refine sk (bn' (tn (rg (s_add rfl rfl (wi6 (by omega)) rfl (mv rfl rfl (nl ?_))))))
           exact lpE (i + 1) (.cons rfl (.cons rfl (.cons rfl (.cons rfl .nil)))) ⟨q1, ⟨by omega, fun j hj => by
             rcases Nat.lt_or_ge j i with h | h
             · exact ha j h
             · have e : j = i := by omega
               subst e
               exact ⟨by omega, by omega, fun _ => by omega⟩⟩⟩ (by omega)
       · refine gN rfl rfl rfl (gN rfl rfl rfl (gN rfl rfl rfl (gN rfl rfl rfl (gN rfl rfl rfl (gN rfl rfl rfl (gN rfl rfl rfl (gY rfl (pkf rfl rfl rfl rfl (pkf rfl rfl rfl rfl (kpL [(0, _), (5, _), (6, _), (7, _), (30, _)] (.cons rfl (.cons rfl (.cons rfl (.cons rfl (.cons rfl .nil))))) (nn ?_)))))))))))
         refine cf rfl (sk (bn' (tn (rg (s_add rfl rfl (wi6 (by omega)) rfl (mv rfl rfl (nl ?_)))))))
         exact lpE (i + 1) (.cons rfl (.cons rfl (.cons rfl (.cons rfl .nil)))) ⟨q1, ⟨by omega, fun j hj => by
           rcases Nat.lt_or_ge j i with h | h
           · exact ha j h
           · have e : j = i := by omega
             subst e
             exact ⟨by omega, by omega, fun _ => by omega⟩⟩⟩ (by omega)
 · refine ex (te (te (xh (tn (sr (asg rfl rfl (nn (rt (r1 Tryd.results11 rfl ?_)))))))))
   exact ⟨_, rfl, by first | rw [if_neg (show ¬ Asc xs from fun h => by have := h i (by omega); omega)] | rw [if_pos (show Asc xs from fun j hj => ha j (by omega))], q1⟩
theorem sizes_ok (a b : Int) (w0 : World) : Rets Tryd.prog 15 #[.int .i64 a, .int .i64 b] w0 fun r w' => r = .int .i64 (if szOk a b then 0 else 1) ∧ Fr [] w0 w' := by
 refine we [(0, .int .i64 a), (1, .int .i64 b)] Tryd.func15 rfl Tryd.ntmps15 rfl (.cons rfl (.cons rfl .nil)) ?_
 refine sr (asg rfl rfl (nn (sq (sq ?_))))
 refine rbo (r := 24) (L' := []) ((((((a < 1) ∨ (b < 1)) ∨ (4 < a)) ∨ (4 < b)) ∨ (4 < (a + b)))) .nil ?_ ?_
 · refine mv rfl rfl (lt' rfl rfl rfl (mv rfl rfl ?_))
   refine gs 7 rfl (fun g0 => ?_) (fun g0 => ?_)
   · refine gN rfl rfl rfl (gN rfl rfl rfl (pkt rfl rfl rfl rfl (mv rfl rfl (gN rfl rfl rfl (gN rfl rfl rfl (pkt rfl rfl rfl rfl (mv rfl rfl (gN rfl rfl rfl (gN rfl rfl rfl (pkt rfl rfl rfl rfl (mv rfl rfl ?_)))))))))))
     exact gN rfl rfl rfl (gN rfl rfl rfl (gN rfl rfl rfl (gN rfl rfl rfl (pkt rfl rfl rfl rfl (rbe rfl (by first | exact bt (by omega) | exact bf (by omega) | exact bi (by omega) | exact bn (by omega) | (simp_all; done) | (simp_all; omega)) .nil)))))
   · refine gY rfl (mv rfl rfl (gY rfl (lt' rfl rfl rfl (pkf rfl rfl rfl rfl (mv rfl rfl ?_)))))
     refine gs 11 rfl (fun g1 => ?_) (fun g1 => ?_)
     · refine gN rfl rfl rfl (gN rfl rfl rfl (pkt rfl rfl rfl rfl (mv rfl rfl (gN rfl rfl rfl (gN rfl rfl rfl (pkt rfl rfl rfl rfl (mv rfl rfl (gN rfl rfl rfl (gN rfl rfl rfl (gN rfl rfl rfl (gN rfl rfl rfl ?_)))))))))))
       exact pkt rfl rfl rfl rfl (rbe rfl (by first | exact bt (by omega) | exact bf (by omega) | exact bi (by omega) | exact bn (by omega) | (simp_all; done) | (simp_all; omega)) .nil)
     · refine gY rfl (mv rfl rfl (gY rfl (gt' rfl rfl rfl (pkf rfl rfl rfl rfl (mv rfl rfl ?_)))))
       refine gs 15 rfl (fun g2 => ?_) (fun g2 => ?_)
       · exact gN rfl rfl rfl (gN rfl rfl rfl (pkt rfl rfl rfl rfl (mv rfl rfl (gN rfl rfl rfl (gN rfl rfl rfl (gN rfl rfl rfl (gN rfl rfl rfl (pkt rfl rfl rfl rfl (rbe rfl (by first | exact bt (by omega) | exact bf (by omega) | exact bi (by omega) | exact bn (by omega) | (simp_all; done) | (simp_all; omega)) .nil)))))))))
       · refine gY rfl (mv rfl rfl (gY rfl (gt' rfl rfl rfl (pkf rfl rfl rfl rfl (mv rfl rfl ?_)))))
         refine gs 19 rfl (fun g3 => ?_) (fun g3 => ?_)
         · exact gN rfl rfl rfl (gN rfl rfl rfl (gN rfl rfl rfl (gN rfl rfl rfl (pkt rfl rfl rfl rfl (rbe rfl (by first | exact bt (by omega) | exact bf (by omega) | exact bi (by omega) | exact bn (by omega) | (simp_all; done) | (simp_all; omega)) .nil)))))
         · exact gY rfl (mv rfl rfl (gY rfl (mv rfl rfl (gY rfl (s_add rfl rfl (wi6 (by omega)) rfl (gY rfl (gt' rfl rfl rfl (pkf rfl rfl rfl rfl (rbe rfl (by first | exact bt (by omega) | exact bf (by omega) | exact bi (by omega) | exact bn (by omega) | (simp_all; done) | (simp_all; omega)) .nil)))))))))
 · refine tn ?_
   refine cd rfl (fun c0 => ?_) (fun c0 => ?_)
   · refine sr (asg rfl rfl (nn (rt (tr (r1 Tryd.results15 rfl ?_)))))
     exact ⟨_, rfl, by rw [if_neg (fun h => by unfold szOk at h; omega)], (Fr.refl _ _)⟩
   · refine sk (tn (sr (asg rfl rfl (nn (rt (r1 Tryd.results15 rfl ?_))))))
     exact ⟨_, rfl, by rw [if_pos (show szOk a b by unfold szOk; omega)], (Fr.refl _ _)⟩
theorem keepR_ok (k F : Int) (gF : Nat) (w0 : World) (hb : Blk w0 gF 3 [.int .i64 F]) (hk : -1000000 ≤ k ∧ k ≤ 1000000) (hF : -1000000 ≤ F ∧ F ≤ 1000000) : Rets Tryd.prog 27 #[.int .i64 k, .pointer (some ⟨gF, 0, none⟩)] w0 fun r w' => r = .int .i64 (max k F) ∧ Blk w' gF 3 [.int .i64 (max k F + 1)] ∧ Fr [gF] w0 w' := by
 refine we [(0, .int .i64 k), (1, .pointer (some ⟨gF, 0, none⟩))] Tryd.func27 rfl Tryd.ntmps27 rfl (.cons rfl (.cons rfl .nil)) ?_
 refine sr (asg rfl rfl (nn (sr (mv rfl rfl (s_loadB0 rfl hb na3 rfl (s_max rfl rfl rfl (asg rfl rfl (nn (sr (mv rfl rfl (s_add rfl rfl (wi6 (by omega)) rfl ?_)))))))))))
 refine s_storeB0 rfl rfl hb rfl rfl sz3 (fun w1 hb q1 z1 => ?_)
 refine nn (sr (mv rfl rfl (asg rfl rfl (nn (rt (r1 Tryd.results27 rfl ?_))))))
 exact ⟨_, rfl, rfl, hb, ((Fr.refl [gF] _).step q1 (by first | (simp; done) | (simp; omega)))⟩
theorem keepL_ok (k F : Int) (gF : Nat) (w0 : World) (hb : Blk w0 gF 3 [.int .i64 F]) (hk : -1000000 ≤ k ∧ k ≤ 1000000) (hF : -1000000 ≤ F ∧ F ≤ 1000000) : Rets Tryd.prog 28 #[.int .i64 k, .pointer (some ⟨gF, 0, none⟩)] w0 fun r w' => r = .int .i64 (min k F) ∧ Blk w' gF 3 [.int .i64 (min k F - 1)] ∧ Fr [gF] w0 w' := by
 refine we [(0, .int .i64 k), (1, .pointer (some ⟨gF, 0, none⟩))] Tryd.func28 rfl Tryd.ntmps28 rfl (.cons rfl (.cons rfl .nil)) ?_
 refine sr (asg rfl rfl (nn (sr (mv rfl rfl (s_loadB0 rfl hb na3 rfl (s_min rfl rfl rfl (asg rfl rfl (nn (sr (mv rfl rfl (s_sub rfl rfl (wi6 (by omega)) rfl ?_)))))))))))
 refine s_storeB0 rfl rfl hb rfl rfl sz3 (fun w1 hb q1 z1 => ?_)
 refine nn (sr (mv rfl rfl (asg rfl rfl (nn (rt (r1 Tryd.results28 rfl ?_))))))
 exact ⟨_, rfl, rfl, hb, ((Fr.refl [gF] _).step q1 (by first | (simp; done) | (simp; omega)))⟩
end Go.Proofs.YtacclnebhbakmaaDoor
