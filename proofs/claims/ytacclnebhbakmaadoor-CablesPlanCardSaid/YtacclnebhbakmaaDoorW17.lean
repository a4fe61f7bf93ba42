/- Walks. -/
import Derived.Test.YtacclnebhbakmaaDoorRows
import Derived.Test.YtacclnebhbakmaaDoorW16
import Derived.Test.YtacclnebhbakmaaDoorXOp
import Derived.Test.YtacclnebhbakmaaDoorXMap
set_option linter.unusedVariables false
set_option linter.unusedSimpArgs false
namespace Go.Proofs.YtacclnebhbakmaaDoor
open Go.Lw
theorem co8 : CallOf Tryd.prog 8 := CallOf.mk' Tryd.func8 (by kernel_rfl) (by kernel_rfl)
theorem co10 : CallOf Tryd.prog 10 := CallOf.mk' Tryd.func10 (by kernel_rfl) (by kernel_rfl)
theorem co12 : CallOf Tryd.prog 12 := CallOf.mk' Tryd.func12 (by kernel_rfl) (by kernel_rfl)
theorem co14 : CallOf Tryd.prog 14 := CallOf.mk' Tryd.func14 (by kernel_rfl) (by kernel_rfl)
set_option maxRecDepth 100000 in
set_option maxHeartbeats 2000000 in
theorem lives_ok (w0 : World) (hG : Glob w0) : Rets Tryd.prog 7 #[] w0 fun r w' => r = .bool true ∧ Fr [] w0 w' := by
 have hGs := hG.sz
 refine we [] Tryd.func7 rfl Tryd.ntmps7 rfl .nil ?_
 have hG0 := hG
 refine sr (asg rfl rfl (nn (sr (s_bslice (([13, 14] : List Int)) (ev2 rfl rfl) rfl rfl rfl el26 (Nat.le_of_ble_eq_true rfl) rfl (fun g10 w1 hg10 ho10 q1 z1 => ?_)))))
 refine cl (evs_cons rfl (evs_cons rfl (evs_cons rfl (evs_cons rfl (evs_cons rfl evs_nil))))) co8 (cross_ok _ [13, 14] 0 1 1 false _ ho10.sl) rfl ?_
 rintro _ w2 ⟨A101, rfl, hoC1, q2⟩
 have z2 := q2.size
 refine mv rfl rfl (xt rfl rfl rfl (xt rfl rfl rfl (asg rfl rfl (asg rfl rfl (nn (sr (s_bslice (([13, 14] : List Int)) (ev2 rfl rfl) rfl rfl rfl el26 (Nat.le_of_ble_eq_true rfl) rfl (fun g15 w3 hg15 ho15 q3 z3 => ?_))))))))
 refine cl (evs_cons rfl (evs_cons rfl (evs_cons rfl (evs_cons rfl (evs_cons rfl evs_nil))))) co8 (cross_ok _ [13, 14] 0 1 1 true _ ho15.sl) rfl ?_
 rintro _ w4 ⟨A102, rfl, hoC2, q4⟩
 have z4 := q4.size
 refine mv rfl rfl (xt rfl rfl rfl (xt rfl rfl rfl (asg rfl rfl (asg rfl rfl (nn (sr (s_bslice (([2, 1, 1] : List Int)) (ev3 rfl rfl rfl) rfl rfl rfl el26 (Nat.le_of_ble_eq_true rfl) rfl (fun g20 w5 hg20 ho20 q5 z5 => ?_))))))))
 refine cl (evs_cons rfl (evs_cons rfl (evs_cons rfl (evs_cons rfl (evs_cons rfl evs_nil))))) co12 (word_ok _ [2, 1, 1] 0 1 2 true _ ho20.sl (by decide)) rfl ?_
 rintro _ w6 ⟨v103, rfl, hoW, q6⟩
 have z6 := q6.size
 refine mv rfl rfl (xt rfl rfl rfl (xt rfl rfl rfl (asg rfl rfl (asg rfl rfl (nn (sr (s_bslice (([39, 40] : List Int)) (ev2 rfl rfl) rfl rfl rfl el26 (Nat.le_of_ble_eq_true rfl) rfl (fun g25 w7 hg25 ho25 q7 z7 => ?_))))))))
 refine cl (evs_cons rfl (evs_cons rfl (evs_cons rfl (evs_cons rfl (evs_cons rfl evs_nil))))) co8 (cross_ok _ [39, 40] 0 1 1 false _ ho25.sl) rfl ?_
 rintro _ w8 ⟨A104, rfl, hoC4, q8⟩
 have z8 := q8.size
 refine mv rfl rfl (xt rfl rfl rfl (xt rfl rfl rfl (asg rfl rfl (asg rfl rfl (kpL [(1, _), (2, _), (3, _), (4, _), (5, _), (6, _), (8, _)] (.cons rfl (.cons rfl (.cons rfl (.cons rfl (.cons rfl (.cons rfl (.cons rfl .nil))))))) (nn (sq ?_)))))))
 refine rboF (r := 0) (L' := []) (True) .nil ?_ ?_
 · refine mv rfl rfl (eq' rfl rfl rfl (mv rfl rfl ?_))
   refine gs 31 rfl (fun g0 => ?_) (fun hh => absurd (by decide +kernel) hh)
   refine gY rfl (mv rfl rfl (gY rfl (eq' rfl rfl rfl (pkt rfl rfl rfl rfl (mv rfl rfl ?_)))))
   refine gs 35 rfl (fun g1 => ?_) (fun hh => absurd (by decide +kernel) hh)
   refine gY rfl (mv rfl rfl (gY rfl (eq' rfl rfl rfl (pkt rfl rfl rfl rfl (mv rfl rfl ?_)))))
   refine gs 39 rfl (fun g2 => ?_) (fun hh => absurd (by decide +kernel) hh)
   refine gY rfl (mv rfl rfl (gY rfl (eq' rfl rfl rfl (pkt rfl rfl rfl rfl (mv rfl rfl ?_)))))
   refine gs 43 rfl (fun g3 => ?_) (fun hh => absurd (by decide +kernel) hh)
   refine gY rfl (mv rfl rfl (gY rfl ?_))
   replace hG := hG0.ext (((((((q1.next q2).next q3).next q4).next q5).next q6).next q7).next q8)
   replace hoC1 := hoC1.ext (((((q3.next q4).next q5).next q6).next q7).next q8)
   refine cl (ev1 rfl) co10 (text28_ok _ (crossS [13, 14] 0 1 1 false) _ hG hoC1.sl (by decide +kernel)) rfl ?_
   rintro _ w9 ⟨rfl, q9⟩
   have z9 := q9.size
   refine gY rfl (s_eqs rfl rfl rfl (pkt rfl rfl rfl rfl (mv rfl rfl ?_)))
   refine gs 48 rfl (fun g4 => ?_) (fun hh => absurd (by decide +kernel) hh)
   refine gY rfl (mv rfl rfl (gY rfl ?_))
   replace hG := hG0.ext ((((((((q1.next q2).next q3).next q4).next q5).next q6).next q7).next q8).next q9)
   replace hoC2 := hoC2.ext ((((q5.next q6).next q7).next q8).next q9)
   refine cl (ev1 rfl) co10 (text28_ok _ (crossS [13, 14] 0 1 1 true) _ hG hoC2.sl (by decide +kernel)) rfl ?_
   rintro _ w10 ⟨rfl, q10⟩
   have z10 := q10.size
   refine gY rfl (s_eqs rfl rfl rfl (pkt rfl rfl rfl rfl (mv rfl rfl ?_)))
   refine gs 53 rfl (fun g5 => ?_) (fun hh => absurd (by decide +kernel) hh)
   refine gY rfl (mv rfl rfl (gY rfl (s_bslice (([2, 3, 1, 2] : List Int)) (ev4 rfl rfl rfl rfl) rfl rfl rfl el26 (Nat.le_of_ble_eq_true rfl) rfl (fun g55 w11 hg55 ho55 q11 z11 => ?_))))
   refine gY rfl ?_
   replace hoW := hoW.ext ((((q7.next q8).next q9).next q10).next q11)
   refine cl (ev2 rfl rfl) co14 (same28_ok _ _ (wordC [2, 1, 1] 0 1 2 true) [2, 3, 1, 2] _ hoW.sl ho55.sl) rfl ?_
   rintro _ w12 ⟨rfl, q12⟩
   have z12 := q12.size
   exact pkt rfl rfl rfl rfl (asg rfl rfl (rbeF rfl (by exact bi ⟨fun _ => trivial, fun _ => by decide +kernel⟩) .nil (((q9.next q10).next q11).next q12)))
 · intro w13 q13; have z13 := q13.size
   refine tn (rt (r1 Tryd.results7 rfl ?_))
   exact ⟨_, rfl, rfl, ((((((((q1.next q2).next q3).next q4).next q5).next q6).next q7).next q8).next q13)⟩
end Go.Proofs.YtacclnebhbakmaaDoor
