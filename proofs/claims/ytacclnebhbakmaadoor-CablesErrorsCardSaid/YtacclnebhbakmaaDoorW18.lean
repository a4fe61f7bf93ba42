/- Walks. -/
import Derived.Test.YtacclnebhbakmaaDoorRows
import Derived.Test.YtacclnebhbakmaaDoorW17
import Derived.Test.YtacclnebhbakmaaDoorXOp
import Derived.Test.YtacclnebhbakmaaDoorXMap
import Derived.Test.YtacclnebhbakmaaDoorXErr
set_option linter.unusedVariables false
set_option linter.unusedSimpArgs false
namespace Go.Proofs.YtacclnebhbakmaaDoor
open Go.Lw
theorem co6 : CallOf Tryd.prog 6 := CallOf.mk' Tryd.func6 (by kernel_rfl) (by kernel_rfl)
theorem co7 : CallOf Tryd.prog 7 := CallOf.mk' Tryd.func7 (by kernel_rfl) (by kernel_rfl)
set_option maxHeartbeats 2000000 in
theorem law_errors (v : Value) (l : List Int) (u0 u1 u2 : Int) (front : Bool) (w0 : World) (hG : Glob w0) (hs : Sl Enc.i64 w0 v l) : Rets Tryd.prog 4 #[v, .agg #[.int .i64 u0, .int .i64 u1, .int .i64 u2], .bool front] w0 fun r w' => r = .bool true ∧ Fr [] w0 w' := by
 obtain ⟨A, c, rfl, hcc, hM, hA⟩ := id hs
 clear hA
 unfold maxLen at hM
 have hGs := hG.sz
 refine we [(0, .slice A l.length c), (1, .agg #[.int .i64 u0, .int .i64 u1, .int .i64 u2]), (2, .bool front)] Tryd.func4 rfl Tryd.ntmps4 rfl (.cons rfl (.cons rfl (.cons rfl .nil))) ?_
 have hs0 := hs
 have hG0 := hG
 refine sr (bx rfl rfl rfl (fun g4 w1 hg4 hb4 q1 z1 => ?_))
 refine asg rfl rfl (nn (sq (sr (mv rfl rfl (lnS rfl Tryd.underlying26 rfl (gt' rfl rfl rfl (nn ?_)))))))
 refine cd rfl (fun c0 => ?_) (fun c0 => ?_)
 · refine sr ?_
   replace hG := hG0.ext q1
   refine cl evs_nil co7 (lives_ok _ hG) rfl ?_
   rintro _ w2 ⟨rfl, q2⟩
   have z2 := q2.size
   refine asg rfl rfl (nn (rt (tr (r1 Tryd.results4 rfl ?_))))
   exact ⟨_, rfl, rfl, (q1.next q2)⟩
 · have hl20 : l.length ≤ 20 := by omega
   refine sk (tn (sr (asg rfl rfl (asg rfl rfl (nn ?_)))))
   refine jn (ι := Unit) [(0, _), (2, _), (4, _)] (fun _j => [(8, .int .i64 (if widB l u0 u1 u2 then 5 else 0))]) (fun _j w' => Fr [] w1 w') (.cons rfl (.cons rfl (.cons rfl .nil))) ?_ ?_
   · refine sq ?_
     refine rbo (r := 40) (L' := [(0, _), (2, _), (4, _), (8, _)]) (widB l u0 u1 u2) (.cons rfl (.cons rfl (.cons rfl (.cons rfl .nil)))) ?_ ?_
     · refine s_idxA rfl rfl Tryd.underlying45 sz3 (by omega) (by omega) rfl (s_loadB rfl hb4 rfl na3 rfl (lt' rfl rfl rfl (mv rfl rfl ?_)))
       refine gs 21 rfl (fun g0 => ?_) (fun g0 => ?_)
       · refine gN rfl rfl rfl (gN rfl rfl rfl (gN rfl rfl rfl (gN rfl rfl rfl (gN rfl rfl rfl (pkt rfl rfl rfl rfl (mv rfl rfl (gN rfl rfl rfl (gN rfl rfl rfl (gN rfl rfl rfl (gN rfl rfl rfl (gN rfl rfl rfl ?_)))))))))))
         exact gN rfl rfl rfl (gN rfl rfl rfl (gN rfl rfl rfl (gN rfl rfl rfl (gN rfl rfl rfl (gN rfl rfl rfl (pkt rfl rfl rfl rfl (rbe rfl (by unfold widB; first | exact bt (by omega) | exact bf (by omega) | exact bi (by omega)) (.cons rfl (.cons rfl (.cons rfl (.cons rfl .nil)))))))))))
       · refine gY rfl (s_idxA rfl rfl Tryd.underlying45 sz3 (by omega) (by omega) rfl (gY rfl (s_loadB rfl hb4 rfl na3 rfl (gY rfl (mv rfl rfl (gY rfl (lnS rfl Tryd.underlying26 rfl (gY rfl (gt' rfl rfl rfl (pkf rfl rfl rfl rfl (mv rfl rfl ?_)))))))))))
         refine gs 28 rfl (fun g1 => ?_) (fun g1 => ?_)
         · refine gN rfl rfl rfl (gN rfl rfl rfl (gN rfl rfl rfl (gN rfl rfl rfl (gN rfl rfl rfl (gN rfl rfl rfl (gN rfl rfl rfl (gN rfl rfl rfl (gN rfl rfl rfl (gN rfl rfl rfl (gN rfl rfl rfl (pkt rfl rfl rfl rfl ?_)))))))))))
           exact rbe rfl (by unfold widB; first | exact bt (by omega) | exact bf (by omega) | exact bi (by omega)) (.cons rfl (.cons rfl (.cons rfl (.cons rfl .nil))))
         · refine gY rfl (s_idxA rfl rfl Tryd.underlying45 sz3 (by omega) (by omega) rfl (gY rfl (s_loadB rfl hb4 rfl na3 rfl (gY rfl (s_idxA rfl rfl Tryd.underlying45 sz3 (by omega) (by omega) rfl (gY rfl (s_loadB rfl hb4 rfl na3 rfl (gY rfl ?_))))))))
           refine s_add rfl rfl rfl rfl ?_
           refine gY rfl (mv rfl rfl (gY rfl (lnS rfl Tryd.underlying26 rfl (gY rfl (s_idxA rfl rfl Tryd.underlying45 sz3 (by omega) (by omega) rfl (gY rfl (s_loadB rfl hb4 rfl na3 rfl (gY rfl (s_sub rfl rfl (wi6 (by omega)) rfl (gY rfl (gt' rfl rfl rfl ?_)))))))))))
           exact pkf rfl rfl rfl rfl (rbe rfl (by unfold widB; first | exact bt (by omega) | exact bf (by omega) | exact bi (by omega)) (.cons rfl (.cons rfl (.cons rfl (.cons rfl .nil)))))
     · refine tn ?_
       refine cd rfl (fun c1 => ?_) (fun c1 => ?_)
       · refine rg (asg rfl rfl (nl ?_))
         exact jE (()) (.cons rfl (.cons rfl (.cons rfl (.cons (congrArg (fun z => some (Value.int .i64 z)) (by first | rw [if_pos c1] | rw [if_neg c1])) .nil)))) (Fr.refl _ _)
       · refine sk ?_
         exact jE (()) (.cons rfl (.cons rfl (.cons rfl (.cons (congrArg (fun z => some (Value.int .i64 z)) (by first | rw [if_pos c1] | rw [if_neg c1])) .nil)))) (Fr.refl _ _)
   · rintro _j w3 q3
     have z3 := q3.size
     refine kpC [(0, _), (2, _), (4, _), (8, _)] (.cons rfl (.cons rfl (.cons rfl (.cons rfl .nil)))) ?_
     refine jn (ι := Unit) [(0, _), (2, _), (4, _)] (fun _j => [(8, .int .i64 (cntC l u0 u1 u2))]) (fun _j w' => Fr [] w3 w') (.cons rfl (.cons rfl (.cons rfl .nil))) ?_ ?_
     · refine sq ?_
       refine rbo (r := 66) (L' := [(0, _), (2, _), (4, _), (8, _)]) (sizB u1 u2) (.cons rfl (.cons rfl (.cons rfl (.cons rfl .nil)))) ?_ ?_
       · refine s_idxA rfl rfl Tryd.underlying45 sz3 (by omega) (by omega) rfl ?_
         replace hb4 := hb4.ext q3
         refine s_loadB rfl hb4 rfl na3 rfl (lt' rfl rfl rfl (mv rfl rfl ?_))
         refine gs 44 rfl (fun g2 => ?_) (fun g2 => ?_)
         · refine gN rfl rfl rfl (gN rfl rfl rfl (gN rfl rfl rfl (pkt rfl rfl rfl rfl (mv rfl rfl (gN rfl rfl rfl (gN rfl rfl rfl (gN rfl rfl rfl (pkt rfl rfl rfl rfl (mv rfl rfl (gN rfl rfl rfl (gN rfl rfl rfl ?_)))))))))))
           exact gN rfl rfl rfl (pkt rfl rfl rfl rfl (mv rfl rfl (gN rfl rfl rfl (gN rfl rfl rfl (gN rfl rfl rfl (gN rfl rfl rfl (gN rfl rfl rfl (gN rfl rfl rfl (pkt rfl rfl rfl rfl (rbe rfl (by unfold sizB; first | exact bt (by omega) | exact bf (by omega) | exact bi (by omega)) (.cons rfl (.cons rfl (.cons rfl (.cons rfl .nil))))))))))))))
         · refine gY rfl (s_idxA rfl rfl Tryd.underlying45 sz3 (by omega) (by omega) rfl (gY rfl (s_loadB rfl hb4 rfl na3 rfl (gY rfl (lt' rfl rfl rfl (pkf rfl rfl rfl rfl (mv rfl rfl ?_)))))))
           refine gs 49 rfl (fun g3 => ?_) (fun g3 => ?_)
           · refine gN rfl rfl rfl (gN rfl rfl rfl (gN rfl rfl rfl (pkt rfl rfl rfl rfl (mv rfl rfl (gN rfl rfl rfl (gN rfl rfl rfl (gN rfl rfl rfl (pkt rfl rfl rfl rfl (mv rfl rfl (gN rfl rfl rfl (gN rfl rfl rfl ?_)))))))))))
             exact gN rfl rfl rfl (gN rfl rfl rfl (gN rfl rfl rfl (gN rfl rfl rfl (pkt rfl rfl rfl rfl (rbe rfl (by unfold sizB; first | exact bt (by omega) | exact bf (by omega) | exact bi (by omega)) (.cons rfl (.cons rfl (.cons rfl (.cons rfl .nil)))))))))
           · refine gY rfl (s_idxA rfl rfl Tryd.underlying45 sz3 (by omega) (by omega) rfl (gY rfl (s_loadB rfl hb4 rfl na3 rfl (gY rfl (gt' rfl rfl rfl (pkf rfl rfl rfl rfl (mv rfl rfl ?_)))))))
             refine gs 54 rfl (fun g4 => ?_) (fun g4 => ?_)
             · refine gN rfl rfl rfl (gN rfl rfl rfl (gN rfl rfl rfl (pkt rfl rfl rfl rfl (mv rfl rfl (gN rfl rfl rfl (gN rfl rfl rfl (gN rfl rfl rfl (gN rfl rfl rfl (gN rfl rfl rfl (gN rfl rfl rfl (pkt rfl rfl rfl rfl ?_)))))))))))
               exact rbe rfl (by unfold sizB; first | exact bt (by omega) | exact bf (by omega) | exact bi (by omega)) (.cons rfl (.cons rfl (.cons rfl (.cons rfl .nil))))
             · refine gY rfl (s_idxA rfl rfl Tryd.underlying45 sz3 (by omega) (by omega) rfl (gY rfl (s_loadB rfl hb4 rfl na3 rfl (gY rfl (gt' rfl rfl rfl (pkf rfl rfl rfl rfl (mv rfl rfl ?_)))))))
               refine gs 59 rfl (fun g5 => ?_) (fun g5 => ?_)
               · exact gN rfl rfl rfl (gN rfl rfl rfl (gN rfl rfl rfl (gN rfl rfl rfl (gN rfl rfl rfl (gN rfl rfl rfl (pkt rfl rfl rfl rfl (rbe rfl (by unfold sizB; first | exact bt (by omega) | exact bf (by omega) | exact bi (by omega)) (.cons rfl (.cons rfl (.cons rfl (.cons rfl .nil)))))))))))
               · refine gY rfl (s_idxA rfl rfl Tryd.underlying45 sz3 (by omega) (by omega) rfl (gY rfl (s_loadB rfl hb4 rfl na3 rfl (gY rfl (s_idxA rfl rfl Tryd.underlying45 sz3 (by omega) (by omega) rfl (gY rfl (s_loadB rfl hb4 rfl na3 rfl (gY rfl (s_add rfl rfl (wi6 (by omega)) rfl (gY rfl (gt' rfl rfl rfl ?_)))))))))))
                 exact pkf rfl rfl rfl rfl (rbe rfl (by unfold sizB; first | exact bt (by omega) | exact bf (by omega) | exact bi (by omega)) (.cons rfl (.cons rfl (.cons rfl (.cons rfl .nil)))))
       · refine tn ?_
         refine cd rfl (fun c2 => ?_) (fun c2 => ?_)
         · refine rg (asg rfl rfl (nl ?_))
           exact jE (()) (.cons rfl (.cons rfl (.cons rfl (.cons (congrArg (fun z => some (Value.int .i64 z)) (by unfold cntC; first | rw [if_pos c2] | rw [if_neg c2])) .nil)))) (Fr.refl _ _)
         · refine sk ?_
           exact jE (()) (.cons rfl (.cons rfl (.cons rfl (.cons (congrArg (fun z => some (Value.int .i64 z)) (by unfold cntC; first | rw [if_pos c2] | rw [if_neg c2])) .nil)))) (Fr.refl _ _)
     · rintro _j w4 q4
       have z4 := q4.size
       refine kpC [(0, _), (2, _), (4, _), (8, _)] (.cons rfl (.cons rfl (.cons rfl (.cons rfl .nil)))) ?_
       refine sr (mv rfl rfl ?_)
       replace hs := hs0.ext ((q1.next q3).next q4)
       refine cl (ev1 rfl) co11 (shchk_ok _ l _ hs) rfl ?_
       rintro _ w5 ⟨rfl, q5⟩
       have z5 := q5.size
       refine asg rfl rfl (nn ?_)
       refine jn (ι := Unit) [(0, _), (2, _), (4, _), (8, _)] (fun _j => [(7, .int .i64 (wantC l u0 u1 u2))]) (fun _j w' => Fr [] w5 w') (.cons rfl (.cons rfl (.cons rfl (.cons rfl .nil)))) ?_ ?_
       · refine sr (mv rfl rfl (eq' rfl rfl rfl (nn ?_)))
         refine cd rfl (fun c3 => ?_) (fun c3 => ?_)
         · refine rg (mv rfl rfl (asg rfl rfl (nl ?_)))
           exact jE (()) (.cons rfl (.cons rfl (.cons rfl (.cons rfl (.cons (congrArg (fun z => some (Value.int .i64 z)) (by first | exact want_t c3 | exact want_f c3)) .nil))))) (Fr.refl _ _)
         · refine sk ?_
           exact jE (()) (.cons rfl (.cons rfl (.cons rfl (.cons rfl (.cons (congrArg (fun z => some (Value.int .i64 z)) (by first | exact want_t c3 | exact want_f c3)) .nil))))) (Fr.refl _ _)
       · rintro _j w6 q6
         have z6 := q6.size
         refine kpC [(0, _), (2, _), (4, _), (8, _), (7, _)] (.cons rfl (.cons rfl (.cons rfl (.cons rfl (.cons rfl .nil))))) ?_
         refine jn (ι := Unit) [(0, _), (2, _), (4, _), (8, _)] (fun _j => [(7, .int .i64 (errC l u0 u1 u2 front))]) (fun _j w' => Fr [] w6 w') (.cons rfl (.cons rfl (.cons rfl (.cons rfl .nil)))) ?_ ?_
         · refine sq ?_
           refine rboF (r := 85) (L' := [(0, _), (2, _), (4, _), (7, _), (8, _)]) (wantC l u0 u1 u2 = 0 ∧ ¬ fitS l u0.toNat u1.toNat u2.toNat front) (.cons rfl (.cons rfl (.cons rfl (.cons rfl (.cons rfl .nil))))) ?_ ?_
           · refine mv rfl rfl (eq' rfl rfl rfl (mv rfl rfl ?_))
             refine gs 74 rfl (fun g6 => ?_) (fun g6 => ?_)
             · refine gY rfl (mv rfl rfl (gY rfl (s_idxA rfl rfl Tryd.underlying45 sz3 (by omega) (by omega) rfl (gY rfl ?_))))
               replace hb4 := hb4.ext (((q3.next q4).next q5).next q6)
               refine s_loadB rfl hb4 rfl na3 rfl (gY rfl (s_idxA rfl rfl Tryd.underlying45 sz3 (by omega) (by omega) rfl (gY rfl (s_loadB rfl hb4 rfl na3 rfl (gY rfl (s_idxA rfl rfl Tryd.underlying45 sz3 (by omega) (by omega) rfl (gY rfl (s_loadB rfl hb4 rfl na3 rfl (gY rfl (mv rfl rfl (gY rfl ?_)))))))))))
               obtain ⟨hasc, hsz, hwd⟩ := want0 (by assumption)
               unfold szOk at hsz
               obtain ⟨i', rfl⟩ := Int.eq_ofNat_of_zero_le (show 0 ≤ u0 by omega)
               obtain ⟨a', rfl⟩ := Int.eq_ofNat_of_zero_le (show 0 ≤ u1 by omega)
               obtain ⟨b', rfl⟩ := Int.eq_ofNat_of_zero_le (show 0 ≤ u2 by omega)
               replace hs := hs0.ext ((((q1.next q3).next q4).next q5).next q6)
               refine cl (evs_cons rfl (evs_cons rfl (evs_cons rfl (evs_cons rfl (evs_cons rfl evs_nil))))) co6 (fits28_ok _ l i' a' b' front _ hs hasc (by omega) (by omega)) rfl ?_
               rintro _ w7 ⟨rfl, q7⟩
               have z7 := q7.size
               exact gY rfl (nt' rfl rfl (pkt rfl rfl rfl rfl (rbeF rfl (by first | exact bf (fun h => absurd h.1 (by assumption)) | exact bn ⟨fun h => ⟨by assumption, by simpa using h⟩, fun h => by simpa using h.2⟩) (.cons rfl (.cons rfl (.cons rfl (.cons rfl (.cons rfl .nil))))) q7)))
             · exact gN rfl rfl rfl (gN rfl rfl rfl (gN rfl rfl rfl (gN rfl rfl rfl (gN rfl rfl rfl (gN rfl rfl rfl (gN rfl rfl rfl (gN rfl rfl rfl (gN rfl rfl rfl (gN rfl rfl rfl (pkf rfl rfl rfl rfl (rbeF rfl (by first | exact bf (fun h => absurd h.1 (by assumption)) | exact bn ⟨fun h => ⟨by assumption, by simpa using h⟩, fun h => by simpa using h.2⟩) (.cons rfl (.cons rfl (.cons rfl (.cons rfl (.cons rfl .nil))))) (Fr.refl _ _))))))))))))
           · intro w8 q8; have z8 := q8.size
             refine tn ?_
             refine cd rfl (fun c4 => ?_) (fun c4 => ?_)
             · refine rg (asg rfl rfl (nl ?_))
               exact jE (()) (.cons rfl (.cons rfl (.cons rfl (.cons rfl (.cons (congrArg (fun z => some (Value.int .i64 z)) (by rw [err_want]; first | rw [if_pos c4] | rw [if_neg c4])) .nil))))) q8
             · refine sk ?_
               exact jE (()) (.cons rfl (.cons rfl (.cons rfl (.cons rfl (.cons (congrArg (fun z => some (Value.int .i64 z)) (by rw [err_want]; first | rw [if_pos c4] | rw [if_neg c4])) .nil))))) q8
         · rintro _j w9 q9
           have z9 := q9.size
           refine kpC [(0, _), (2, _), (4, _), (8, _), (7, _)] (.cons rfl (.cons rfl (.cons rfl (.cons rfl (.cons rfl .nil))))) ?_
           refine sr (mv rfl rfl (s_idxA rfl rfl Tryd.underlying45 sz3 (by omega) (by omega) rfl ?_))
           replace hb4 := hb4.ext ((((q3.next q4).next q5).next q6).next q9)
           refine s_loadB rfl hb4 rfl na3 rfl (s_idxA rfl rfl Tryd.underlying45 sz3 (by omega) (by omega) rfl (s_loadB rfl hb4 rfl na3 rfl (s_idxA rfl rfl Tryd.underlying45 sz3 (by omega) (by omega) rfl (s_loadB rfl hb4 rfl na3 rfl (mv rfl rfl ?_)))))
           replace hs := hs0.ext (((((q1.next q3).next q4).next q5).next q6).next q9)
           refine cl (evs_cons rfl (evs_cons rfl (evs_cons rfl (evs_cons rfl (evs_cons rfl evs_nil))))) co8 (cross_ok _ l u0 u1 u2 front _ hs) rfl ?_
           rintro _ w10 ⟨AC, rfl, hoC, q10⟩
           have z10 := q10.size
           refine mv rfl rfl (xt rfl rfl rfl (xt rfl rfl rfl (asg rfl rfl (asg rfl rfl (kpL [(0, _), (2, _), (4, _), (7, _), (8, _), (9, _), (10, _)] (.cons rfl (.cons rfl (.cons rfl (.cons rfl (.cons rfl (.cons rfl (.cons rfl .nil))))))) (nn (sq (sq ?_))))))))
           refine rbo (r := 109) (L' := [(0, _), (2, _), (4, _), (8, _)]) (False) (.cons rfl (.cons rfl (.cons rfl (.cons rfl .nil)))) ?_ ?_
           · refine mv rfl rfl (mv rfl rfl (ne' rfl rfl rfl (mv rfl rfl ?_)))
             refine gs 101 rfl (fun hh => absurd hh (by simp)) (fun g7 => ?_)
             refine gY rfl (mv rfl rfl (gY rfl (ne' rfl rfl rfl (gY rfl (mv rfl rfl ?_)))))
             refine gs 104 rfl (fun g8 => ?_) (fun g8 => ?_)
             · exact gY rfl (mv rfl rfl (gY rfl (lnS rfl Tryd.underlying31 rfl (gY rfl (ne' rfl rfl rfl (gY rfl (pkt rfl rfl rfl rfl (pkf rfl rfl rfl rfl (rbe rfl (by first | rfl | exact bi ⟨fun h => absurd (by rw [crossS_err (by assumption)]; rfl) h, False.elim⟩) (.cons rfl (.cons rfl (.cons rfl (.cons rfl .nil)))))))))))))
             · exact gN rfl rfl rfl (gN rfl rfl rfl (gN rfl rfl rfl (gY rfl (pkf rfl rfl rfl rfl (pkf rfl rfl rfl rfl (rbe rfl (by first | rfl | exact bi ⟨fun h => absurd (by rw [crossS_err (by assumption)]; rfl) h, False.elim⟩) (.cons rfl (.cons rfl (.cons rfl (.cons rfl .nil))))))))))
           · refine tn ?_
             refine cd rfl (fun c5 => ?_) (fun c5 => ?_)
             · exact c5.elim
             · refine sk (tn (sq (sr (asg rfl rfl (nn (bl ?_))))))
               refine lpK (ι := Nat) [(0, _), (2, _), (4, _)] (fun i => [(8, .int .i64 (wordE l u0 u1 u2 i)), (11, .int .i64 (i : Int))]) (fun i w' => Fr [] w10 w' ∧ i ≤ l.length) (fun i => l.length - i) 0 (.cons rfl (.cons rfl (.cons rfl (.cons (congrArg (fun z => some (Value.int .i64 z)) (by rw [wordE_0])) (.cons rfl .nil))))) ⟨Fr.refl _ _, Nat.zero_le _⟩ ?_
               rintro i w11 ⟨q11, hi⟩
               have z11 := q11.size
               refine kpC [(0, _), (2, _), (4, _), (8, _), (11, _)] (.cons rfl (.cons rfl (.cons rfl (.cons rfl (.cons rfl .nil))))) ?_
               refine sq (sr (mv rfl rfl (mv rfl rfl (lnS rfl Tryd.underlying26 rfl (lt' rfl rfl rfl (nn ?_))))))
               refine cd rfl (fun c6 => ?_) (fun c6 => ?_)
               · refine sk (tn (sq (bl (sq ?_))))
                 refine rbo (r := 127) (L' := [(0, _), (2, _), (4, _), (8, _), (11, _)]) ((((l.getD i 0) < 1) ∨ (4 < (l.getD i 0)))) (.cons rfl (.cons rfl (.cons rfl (.cons rfl (.cons rfl .nil))))) ?_ ?_
                 · refine mv rfl rfl (mv rfl rfl ?_)
                   replace hs := hs0.ext (((((((q1.next q3).next q4).next q5).next q6).next q9).next q10).next q11)
                   refine s_idxL (p := i) (0) rfl hs rfl el26 (by omega) (by omega) (by omega) rfl (fun ad118 hc118 => ?_)
                   refine s_loadC0 rfl (hc118 _ hs) na3 rfl (lt' rfl rfl rfl (mv rfl rfl ?_))
                   refine gs 121 rfl (fun g9 => ?_) (fun g9 => ?_)
                   · exact gN rfl rfl rfl (gN rfl rfl rfl (gN rfl rfl rfl (gN rfl rfl rfl (gN rfl rfl rfl (pkt rfl rfl rfl rfl (rbe rfl (by first | exact bt (by omega) | exact bf (by omega) | exact bi (by omega) | exact bn (by omega) | (simp_all; done) | (simp_all; omega)) (.cons rfl (.cons rfl (.cons rfl (.cons rfl (.cons rfl .nil)))))))))))
                   · refine gY rfl (mv rfl rfl (gY rfl (mv rfl rfl (gY rfl (s_idxL (p := i) (0) rfl hs rfl el26 (by omega) (by omega) (by omega) rfl (fun ad124 hc124 => ?_))))))
                     exact gY rfl (s_loadC0 rfl (hc124 _ hs) na3 rfl (gY rfl (gt' rfl rfl rfl (pkf rfl rfl rfl rfl (rbe rfl (by first | exact bt (by omega) | exact bf (by omega) | exact bi (by omega) | exact bn (by omega) | (simp_all; done) | (simp_all; omega)) (.cons rfl (.cons rfl (.cons rfl (.cons rfl (.cons rfl .nil))))))))))
                 · refine tn ?_
                   refine cd rfl (fun c7 => ?_) (fun c7 => ?_)
                   · refine rg (asg rfl rfl (nl (bn' (tn (rg (mv rfl rfl (s_add rfl rfl (wi6 (by omega)) rfl (asg rfl rfl (nl ?_)))))))))
                     exact lpE (i + 1) (.cons rfl (.cons rfl (.cons rfl (.cons (congrArg (fun z => some (Value.int .i64 z)) (by first | exact (wordE_t c7).symm | exact (wordE_f c7).symm)) (.cons rfl .nil))))) ⟨q11, by omega⟩ (by omega)
                   · refine sk (bn' (tn (rg (mv rfl rfl (s_add rfl rfl (wi6 (by omega)) rfl (asg rfl rfl (nl ?_)))))))
                     exact lpE (i + 1) (.cons rfl (.cons rfl (.cons rfl (.cons (congrArg (fun z => some (Value.int .i64 z)) (by first | exact (wordE_t c7).symm | exact (wordE_f c7).symm)) (.cons rfl .nil))))) ⟨q11, by omega⟩ (by omega)
               · obtain rfl : i = l.length := by omega
                 rw [wordE_all]
                 refine ex (te (te (xh (tn (sr (mv rfl rfl (s_idxA rfl rfl Tryd.underlying45 sz3 (by omega) (by omega) rfl ?_)))))))
                 replace hb4 := hb4.ext (q10.next q11)
                 refine s_loadB rfl hb4 rfl na3 rfl (s_idxA rfl rfl Tryd.underlying45 sz3 (by omega) (by omega) rfl (s_loadB rfl hb4 rfl na3 rfl (s_idxA rfl rfl Tryd.underlying45 sz3 (by omega) (by omega) rfl (s_loadB rfl hb4 rfl na3 rfl (mv rfl rfl ?_)))))
                 replace hs := hs0.ext (((((((q1.next q3).next q4).next q5).next q6).next q9).next q10).next q11)
                 refine cl (evs_cons rfl (evs_cons rfl (evs_cons rfl (evs_cons rfl (evs_cons rfl evs_nil))))) co12 (word_ok _ l u0 u1 u2 front _ hs (by omega)) rfl ?_
                 rintro _ w12 ⟨vW, rfl, hoW, q12⟩
                 have z12 := q12.size
                 obtain ⟨AW, cW, rfl, _⟩ := hoW.sl.form
                 refine mv rfl rfl (xt rfl rfl rfl (xt rfl rfl rfl (asg rfl rfl (asg rfl rfl (kpL [(8, _), (12, _), (13, _)] (.cons rfl (.cons rfl (.cons rfl .nil))) (nn (sq ?_)))))))
                 refine rboF (r := 6) (L' := []) (True) .nil ?_ ?_
                 · refine mv rfl rfl (mv rfl rfl (eq' rfl rfl rfl (mv rfl rfl ?_)))
                   refine gs 143 rfl (fun g10 => ?_) (fun hh => absurd (by rfl) hh)
                   refine gY rfl (mv rfl rfl (gY rfl (eq' rfl rfl rfl (gY rfl (mv rfl rfl ?_)))))
                   refine gs 146 rfl (fun g11 => ?_) (fun g11 => ?_)
                   · refine gN rfl rfl rfl (gN rfl rfl rfl (gN rfl rfl rfl (gY rfl (pkt rfl rfl rfl rfl (pkt rfl rfl rfl rfl (mv rfl rfl (gY rfl ?_)))))))
                     replace hG := hG0.ext ((((((((q1.next q3).next q4).next q5).next q6).next q9).next q10).next q11).next q12)
                     refine cl evs_nil co7 (lives_ok _ hG) rfl ?_
                     rintro _ w13 ⟨rfl, q13⟩
                     have z13 := q13.size
                     exact pkt rfl rfl rfl rfl (asg rfl rfl (rbeF rfl (by rfl) .nil q13))
                   · refine gY rfl (mv rfl rfl (gY rfl (lnS rfl Tryd.underlying26 rfl (gY rfl (eq' rfl rfl rfl (gY rfl (pkf rfl rfl rfl rfl (pkt rfl rfl rfl rfl (mv rfl rfl ?_)))))))))
                     refine gs 152 rfl (fun g12 => ?_) (fun hh => absurd (by rw [wordC_err (by assumption)]; rfl) hh)
                     refine gY rfl ?_
                     replace hG := hG0.ext ((((((((q1.next q3).next q4).next q5).next q6).next q9).next q10).next q11).next q12)
                     refine cl evs_nil co7 (lives_ok _ hG) rfl ?_
                     rintro _ w14 ⟨rfl, q14⟩
                     have z14 := q14.size
                     exact pkt rfl rfl rfl rfl (asg rfl rfl (rbeF rfl (by rfl) .nil q14))
                 · intro w15 q15; have z15 := q15.size
                   refine tn (rt (r1 Tryd.results4 rfl ?_))
                   exact ⟨_, rfl, rfl, (((((((((q1.next q3).next q4).next q5).next q6).next q9).next q10).next q11).next q12).next q15)⟩
end Go.Proofs.YtacclnebhbakmaaDoor
