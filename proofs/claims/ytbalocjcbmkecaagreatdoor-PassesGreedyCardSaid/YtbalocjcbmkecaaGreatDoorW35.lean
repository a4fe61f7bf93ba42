/- Walks. -/
import Derived.Test.YtbalocjcbmkecaaGreatDoorRows
import Derived.Test.YtbalocjcbmkecaaGreatDoorW32
import Derived.Test.YtbalocjcbmkecaaGreatDoorXOp
import Derived.Test.YtbalocjcbmkecaaGreatDoorXMap
set_option linter.unusedVariables false
set_option linter.unusedSimpArgs false
namespace Go.Proofs.YtbalocjcbmkecaaGreatDoor
open Go.Lw
theorem co5 : CallOf Tryz.prog 5 := CallOf.mk' Tryz.func5 (by kernel_rfl) (by kernel_rfl)
theorem co6 : CallOf Tryz.prog 6 := CallOf.mk' Tryz.func6 (by kernel_rfl) (by kernel_rfl)
theorem co7 : CallOf Tryz.prog 7 := CallOf.mk' Tryz.func7 (by kernel_rfl) (by kernel_rfl)
theorem co12 : CallOf Tryz.prog 12 := CallOf.mk' Tryz.func12 (by kernel_rfl) (by kernel_rfl)
set_option maxHeartbeats 8000000 in
theorem law_greedy (v : Value) (xs : List MOp) (w0 : World) (hG : Glob w0) (hs : Sl encOX w0 v xs) (hb : ∀ x ∈ xs, x.Bytes) : Rets Tryz.prog 3 #[v] w0 fun r w' => r = .bool true ∧ Fr [] w0 w' := by
 obtain ⟨A, c, rfl, hc, hM, hA⟩ := id hs
 clear hA
 have hsb : ∀ k ∈ blks (Value.slice A xs.length c), xs ≠ [] → k < w0.heap.size := fun k hk hne => hs.blk hne k hk
 obtain ⟨os, hos0⟩ : ∃ os, os = xs.map ofO := ⟨_, rfl⟩
 have hosl : os.length = xs.length := by rw [hos0, List.length_map]
 have hosc : ∀ o ∈ os, chkO o = 0 := by rw [hos0]; exact of_all hb
 have hoc := all_getD hosc
 have hdl := divS_len os
 have hrl := rkL_len os
 have hGs := hG.sz
 refine we [(0, .slice A xs.length c)] Tryz.func3 rfl Tryz.ntmps3 rfl (.cons rfl .nil) ?_
 have hG0 := hG
 have hs0 := hs
 refine sr (asg rfl rfl (nn (sq (sr (mv rfl rfl (lnS rfl Tryz.underlying23 rfl (gt' rfl rfl rfl (nn ?_))))))))
 refine cd rfl (fun c0 => ?_) (fun c0 => ?_)
 · refine sr ?_
   refine cl evs_nil co5 (lives10_ok _ hG) rfl ?_
   rintro _ w1 ⟨rfl, q1⟩
   have z1 := q1.size
   refine asg rfl rfl (nn (rt (tr (r1 Tryz.results3 rfl ?_))))
   exact ⟨_, rfl, by first | rfl | simp, q1⟩
 · have hvd : vldS os := ⟨by omega, hosc⟩
   have hps : passS os = divS os := if_pos hvd
   refine sk (tn (sr (mv rfl rfl ?_)))
   refine cl (ev1 rfl) co6 (pof2 hos0 _ _ hs hb (by omega)) rfl ?_
   rintro _ w2 ⟨A3, c3, rfl, ho3, q2⟩
   have z2 := q2.size
   have ho30 := ho3
   refine asg rfl rfl (nn (sr (mv rfl rfl ?_)))
   refine cl (ev1 rfl) co7 (racks_ok _ os _ ho3.sl hosc (by omega)) rfl ?_
   rintro _ w3 ⟨g4, rfl, ho4, q3⟩
   have z3 := q3.size
   have ho40 := ho4
   refine asg rfl rfl (nn (sr (mv rfl rfl ?_)))
   replace ho3 := ho30.ext q3
   refine cl (ev1 rfl) co8 (passes_at hps _ _ ho3.sl) rfl ?_
   rintro _ w4 ⟨A5, rfl, ho5, q4⟩
   have z4 := q4.size
   have ho50 := ho5
   refine asg rfl rfl (nn (sr (asg rfl rfl (asg rfl rfl (nn (sq (sr (asg rfl rfl (nn (bl ?_))))))))))
   refine lpK (ι := Nat) [(3, _), (4, _), (5, _)] (fun m => [(6, .int .i64 ((atS (divS os) m) : Int)), (7, .int .i64 (cntP os ((divS os).take m) : Int)), (8, .int .i64 (m : Int))]) (fun m w' => Fr [] w4 w' ∧ m ≤ (divS os).length) (fun m => (divS os).length - m) 0 (.cons rfl (.cons rfl (.cons rfl (.cons rfl (.cons rfl (.cons rfl .nil)))))) ⟨Fr.refl _ _, by omega⟩ ?_
   rintro m w5 ⟨q5, hm⟩
   have z5 := q5.size
   refine kpC [(3, _), (4, _), (5, _), (6, _), (7, _), (8, _)] (.cons rfl (.cons rfl (.cons rfl (.cons rfl (.cons rfl (.cons rfl .nil)))))) ?_
   have hcl := cntP_le os ((divS os).take m)
   rw [List.length_take] at hcl
   refine sq (sr (mv rfl rfl (mv rfl rfl (lnS rfl Tryz.underlying29 rfl (lt' rfl rfl rfl (nn ?_))))))
   refine cd rfl (fun c1 => ?_) (fun c1 => ?_)
   · have hdm := divS_mem (show m < (divS os).length by omega)
     have hsl := sl2_len hdm
     obtain ⟨hda, hd1, hgp, hgn⟩ := div_at (show m < (divS os).length by omega)
     refine sk (tn (sq (bl (sq (sq ?_)))))
     refine rboF (r := 67) (L' := [(3, _), (4, _), (5, _), (6, _), (7, _), (8, _)]) (False) (.cons rfl (.cons rfl (.cons rfl (.cons rfl (.cons rfl (.cons rfl .nil)))))) ?_ ?_
     · refine mv rfl rfl (mv rfl rfl ?_)
       replace ho5 := ho50.ext q5
       refine s_idxL (p := m) ((0, 0)) rfl ho5.sl rfl el29 (by omega) (by omega) (by omega) rfl (fun ad29 hc29 => ?_)
       refine fad rfl fa32_0 rfl (s_loadC rfl (hc29 _ ho5.sl) rfl na3 rfl (mv rfl rfl (ne' rfl rfl rfl (mv rfl rfl ?_))))
       refine gs 34 rfl (fun hh => absurd hh (by omega)) (fun g0 => ?_)
       refine gY rfl (mv rfl rfl (gY rfl (mv rfl rfl (gY rfl (s_idxL (p := m) ((0, 0)) rfl ho5.sl rfl el29 (by omega) (by omega) (by omega) rfl (fun ad37 hc37 => ?_))))))
       refine gY rfl (fad rfl fa32_1 rfl (gY rfl (s_loadC rfl (hc37 _ ho5.sl) rfl na3 rfl (gY rfl (lt' rfl rfl rfl (pkf rfl rfl rfl rfl (mv rfl rfl ?_)))))))
       refine gs 42 rfl (fun hh => absurd hh (by omega)) (fun g1 => ?_)
       refine gY rfl (mv rfl rfl (gY rfl (mv rfl rfl (gY rfl (mv rfl rfl (gY rfl (s_idxL (p := m) ((0, 0)) rfl ho5.sl rfl el29 (by omega) (by omega) (by omega) rfl (fun ad46 hc46 => ?_))))))))
       refine gY rfl (fad rfl fa32_1 rfl (gY rfl (s_loadC rfl (hc46 _ ho5.sl) rfl na3 rfl (gY rfl (s_add rfl rfl (wi6 (by omega)) rfl (gY rfl (mv rfl rfl (gY rfl (lnS rfl Tryz.underlying25 rfl (gY rfl (gt' rfl rfl rfl ?_)))))))))))
       refine pkf rfl rfl rfl rfl (mv rfl rfl ?_)
       refine gs 54 rfl (fun hh => absurd hh (by omega)) (fun g2 => ?_)
       refine gY rfl (mv rfl rfl (gY rfl (mv rfl rfl (gY rfl (mv rfl rfl (gY rfl (mv rfl rfl (gY rfl (mv rfl rfl (gY rfl (mv rfl rfl ?_)))))))))))
       refine gY rfl (s_idxL (p := m) ((0, 0)) rfl ho5.sl rfl el29 (by omega) (by omega) (by omega) rfl (fun ad61 hc61 => ?_))
       refine gY rfl (fad rfl fa32_1 rfl (gY rfl (s_loadC rfl (hc61 _ ho5.sl) rfl na3 rfl (gY rfl ?_))))
       refine s_add rfl rfl (show IntKind.i64.wrap (((atS (divS os) m) : Int) + (((divS os).getD m (0, 0)).2 : Int)) = (((atS (divS os) m) + ((divS os).getD m (0, 0)).2 : Nat) : Int) by rw [wi6 (by omega)]; omega) rfl ?_
       refine gY rfl ?_
       replace ho3 := ho30.ext ((q3.next q4).next q5)
       replace ho4 := ho40.ext (q4.next q5)
       refine cl (ev4 rfl rfl rfl rfl) co9 (pass10_ok _ _ os (atS (divS os) m) ((atS (divS os) m) + ((divS os).getD m (0, 0)).2) _ ho3.sl ho4.sl hosc (by omega) (by omega) (by omega)) rfl ?_
       rintro _ w6 ⟨z1, rfl, hz1, q6⟩
       have z6 := q6.size
       exact gY rfl (eq' rfl rfl rfl (pkf rfl rfl rfl rfl (rbeF rfl (by rcases hz1 with ⟨e, _⟩ | ⟨_, hp⟩; rw [e]; rfl; exact absurd hgp hp) (.cons rfl (.cons rfl (.cons rfl (.cons rfl (.cons rfl (.cons rfl .nil)))))) q6)))
     · intro w7 q7; have z7 := q7.size
       refine tn ?_
       refine cd rfl (fun c2 => ?_) (fun c2 => ?_)
       · exact c2.elim
       · refine sk (tn (sq (sq ?_)))
         refine rboF (r := 92) (L' := [(3, _), (4, _), (5, _), (6, _), (7, _), (8, _)]) (False) (.cons rfl (.cons rfl (.cons rfl (.cons rfl (.cons rfl (.cons rfl .nil)))))) ?_ ?_
         · refine mv rfl rfl (mv rfl rfl (mv rfl rfl ?_))
           replace ho5 := ho50.ext (q5.next q7)
           refine s_idxL (p := m) ((0, 0)) rfl ho5.sl rfl el29 (by omega) (by omega) (by omega) rfl (fun ad71 hc71 => ?_)
           refine fad rfl fa32_1 rfl (s_loadC rfl (hc71 _ ho5.sl) rfl na3 rfl (s_add rfl rfl (wi6 (by omega)) rfl (mv rfl rfl (lnS rfl Tryz.underlying25 rfl (lt' rfl rfl rfl (mv rfl rfl ?_))))))
           refine gs 78 rfl (fun g3 => ?_) (fun g3 => ?_)
           · refine gY rfl (mv rfl rfl (gY rfl (mv rfl rfl (gY rfl (mv rfl rfl (gY rfl (mv rfl rfl (gY rfl (mv rfl rfl (gY rfl (mv rfl rfl ?_)))))))))))
             refine gY rfl (s_idxL (p := m) ((0, 0)) rfl ho5.sl rfl el29 (by omega) (by omega) (by omega) rfl (fun ad85 hc85 => ?_))
             refine gY rfl (fad rfl fa32_1 rfl (gY rfl (s_loadC rfl (hc85 _ ho5.sl) rfl na3 rfl (gY rfl ?_))))
             refine s_add rfl rfl (show IntKind.i64.wrap (((atS (divS os) m) : Int) + (((divS os).getD m (0, 0)).2 : Int)) = (((atS (divS os) m) + ((divS os).getD m (0, 0)).2 : Nat) : Int) by rw [wi6 (by omega)]; omega) rfl ?_
             refine gY rfl ?_
             refine s_add rfl rfl (show IntKind.i64.wrap (((atS (divS os) m) + ((divS os).getD m (0, 0)).2 : Int) + 1) = (((atS (divS os) m) + ((divS os).getD m (0, 0)).2 + 1 : Nat) : Int) by rw [wi6 (by omega)]; omega) rfl ?_
             refine gY rfl ?_
             replace ho3 := ho30.ext (((q3.next q4).next q5).next q7)
             replace ho4 := ho40.ext ((q4.next q5).next q7)
             refine cl (ev4 rfl rfl rfl rfl) co9 (pass10_ok _ _ os (atS (divS os) m) ((atS (divS os) m) + ((divS os).getD m (0, 0)).2 + 1) _ ho3.sl ho4.sl hosc (by omega) (by omega) (by omega)) rfl ?_
             rintro _ w8 ⟨z2, rfl, hz2, q8⟩
             have z8 := q8.size
             exact gY rfl (eq' rfl rfl rfl (pkt rfl rfl rfl rfl (rbeF rfl (by first | rfl | (rcases hz2 with ⟨_, hp⟩ | ⟨e, _⟩; exact absurd hp (hgn (by omega)); rw [e]; rfl)) (.cons rfl (.cons rfl (.cons rfl (.cons rfl (.cons rfl (.cons rfl .nil)))))) q8)))
           · refine gN rfl rfl rfl (gN rfl rfl rfl (gN rfl rfl rfl (gN rfl rfl rfl (gN rfl rfl rfl (gN rfl rfl rfl (gN rfl rfl rfl (gN rfl rfl rfl (gN rfl rfl rfl (gN rfl rfl rfl (gN rfl rfl rfl (gN rfl rfl rfl ?_)))))))))))
             exact gN rfl rfl rfl (pkf rfl rfl rfl rfl (rbeF rfl (by first | rfl | (rcases hz2 with ⟨_, hp⟩ | ⟨e, _⟩; exact absurd hp (hgn (by omega)); rw [e]; rfl)) (.cons rfl (.cons rfl (.cons rfl (.cons rfl (.cons rfl (.cons rfl .nil)))))) (Fr.refl _ _)))
         · intro w9 q9; have z9 := q9.size
           refine tn ?_
           refine cd rfl (fun c3 => ?_) (fun c3 => ?_)
           · exact c3.elim
           · refine sk (tn (sr (asg rfl rfl (nn (sq (sr (mv rfl rfl (asg rfl rfl (nn (bl ?_))))))))))
             refine lpK (ι := Nat) [(3, _), (4, _), (5, _), (6, _), (7, _), (8, _)] (fun t => [(9, .int .i64 (wkI (sl2 os ((divS os).getD m (0, 0))) t)), (10, .int .i64 (((atS (divS os) m) + t : Nat) : Int))]) (fun t w' => Fr [] w9 w' ∧ t ≤ (sl2 os ((divS os).getD m (0, 0))).length) (fun t => (sl2 os ((divS os).getD m (0, 0))).length - t) 0 (.cons rfl (.cons rfl (.cons rfl (.cons rfl (.cons rfl (.cons rfl (.cons rfl (.cons rfl .nil)))))))) ⟨Fr.refl _ _, by omega⟩ ?_
             rintro t w10 ⟨q10, ht⟩
             have z10 := q10.size
             refine kpC [(3, _), (4, _), (5, _), (6, _), (7, _), (8, _), (9, _), (10, _)] (.cons rfl (.cons rfl (.cons rfl (.cons rfl (.cons rfl (.cons rfl (.cons rfl (.cons rfl .nil)))))))) ?_
             have hwi := wkI_in (sl2 os ((divS os).getD m (0, 0))) t
             refine sq (sr (mv rfl rfl (mv rfl rfl (mv rfl rfl (mv rfl rfl ?_)))))
             replace ho5 := ho50.ext (((q5.next q7).next q9).next q10)
             refine s_idxL (p := m) ((0, 0)) rfl ho5.sl rfl el29 (by omega) (by omega) (by omega) rfl (fun ad98 hc98 => ?_)
             refine fad rfl fa32_1 rfl (s_loadC rfl (hc98 _ ho5.sl) rfl na3 rfl (s_add rfl rfl (wi6 (by omega)) rfl (lt' rfl rfl rfl (kpL [(3, _), (4, _), (5, _), (6, _), (7, _), (8, _), (9, _), (10, _), (102, _)] (.cons rfl (.cons rfl (.cons rfl (.cons rfl (.cons rfl (.cons rfl (.cons rfl (.cons rfl (.cons rfl .nil))))))))) (nn ?_)))))
             refine cd rfl (fun c4 => ?_) (fun c4 => ?_)
             · refine sk (tn (sq (bl (sr (mv rfl rfl (mv rfl rfl ?_))))))
               replace ho3 := ho30.ext (((((q3.next q4).next q5).next q7).next q9).next q10)
               refine s_idxL (p := (atS (divS os) m) + t) (op0) rfl ho3.sl rfl el25 (by omega) (by omega) (by omega) rfl (fun ad107 hc107 => ?_)
               refine s_loadA rfl (hc107 _ ho3.sl) ag41 rfl ?_
               refine cl (ev1 rfl) co10 (class10_ok (os.getD ((atS (divS os) m) + t) op0) _) rfl ?_
               rintro _ w11 ⟨rfl, q11⟩
               have z11 := q11.size
               refine gt' rfl rfl rfl (kpL [(3, _), (4, _), (5, _), (6, _), (7, _), (8, _), (9, _), (10, _), (110, _)] (.cons rfl (.cons rfl (.cons rfl (.cons rfl (.cons rfl (.cons rfl (.cons rfl (.cons rfl (.cons rfl .nil))))))))) (nn ?_))
               refine cd rfl (fun c5 => ?_) (fun c5 => ?_)
               · refine rg (asg rfl rfl (nl (bn' (tn (rg (mv rfl rfl (s_add rfl rfl (wi6 (by omega)) rfl (asg rfl rfl (nl ?_)))))))))
                 exact lpE (t + 1) (.cons rfl (.cons rfl (.cons rfl (.cons rfl (.cons rfl (.cons rfl (.cons (congrArg (fun z => some (Value.int .i64 z)) (by rw [wkI_step (by omega), sl2_getD (by omega), hda]; first | rw [if_pos c5] | rw [if_neg c5])) (.cons (congrArg (fun z => some (Value.int .i64 z)) (by omega)) .nil)))))))) ⟨(q10.next q11), by omega⟩ (by omega)
               · refine sk (bn' (tn (rg (mv rfl rfl (s_add rfl rfl (wi6 (by omega)) rfl (asg rfl rfl (nl ?_)))))))
                 exact lpE (t + 1) (.cons rfl (.cons rfl (.cons rfl (.cons rfl (.cons rfl (.cons rfl (.cons (congrArg (fun z => some (Value.int .i64 z)) (by rw [wkI_step (by omega), sl2_getD (by omega), hda]; first | rw [if_pos c5] | rw [if_neg c5])) (.cons (congrArg (fun z => some (Value.int .i64 z)) (by omega)) .nil)))))))) ⟨(q10.next q11), by omega⟩ (by omega)
             · obtain rfl : t = (sl2 os ((divS os).getD m (0, 0))).length := by omega
               refine ex (te (te (xh (tn (sr (mv rfl rfl (mv rfl rfl (s_add rfl rfl (wi6 (by omega)) rfl (asg rfl rfl (kpL [(3, _), (4, _), (5, _), (6, _), (7, _), (8, _)] (.cons rfl (.cons rfl (.cons rfl (.cons rfl (.cons rfl (.cons rfl .nil)))))) (nn ?_)))))))))))
               refine rg (mv rfl rfl (mv rfl rfl (mv rfl rfl (s_idxL (p := m) ((0, 0)) rfl ho5.sl rfl el29 (by omega) (by omega) (by omega) rfl (fun ad117 hc117 => ?_)))))
               refine fad rfl fa32_1 rfl (s_loadC rfl (hc117 _ ho5.sl) rfl na3 rfl ?_)
               refine s_add rfl rfl (show IntKind.i64.wrap (((atS (divS os) m) : Int) + (((divS os).getD m (0, 0)).2 : Int)) = (((atS (divS os) m) + ((divS os).getD m (0, 0)).2 : Nat) : Int) by rw [wi6 (by omega)]; omega) rfl ?_
               refine asg rfl rfl (kpL [(3, _), (4, _), (5, _), (6, _), (7, _), (8, _)] (.cons rfl (.cons rfl (.cons rfl (.cons rfl (.cons rfl (.cons rfl .nil)))))) (nl (bn' (tn (rg (mv rfl rfl (s_add rfl rfl (wi6 (by omega)) rfl (asg rfl rfl (nl ?_)))))))))
               exact lpE (m + 1) (.cons rfl (.cons rfl (.cons rfl (.cons (congrArg (fun z => some (Value.int .i64 z)) (by rw [atS_succ (by omega)])) (.cons (congrArg (fun z => some (Value.int .i64 z)) ((cnt_step (by omega)).symm)) (.cons rfl .nil)))))) ⟨(((q5.next q7).next q9).next q10), by omega⟩ (by omega)
   · obtain rfl : m = (divS os).length := by omega
     have hat := div_end' os
     have hcw : countS os = ((cntP os ((divS os).take (divS os).length) : Nat) : Int) := by rw [countS, if_pos hvd, List.take_length, cnt_div]
     have hgl : ((divS os).length : Int) = (gc os os.length : Int) := by rw [gc_all]
     refine ex (te (te (xh (tn (sq ?_)))))
     refine rboF (r := 2) (L' := []) (True) .nil ?_ ?_
     · refine mv rfl rfl (mv rfl rfl (lnS rfl Tryz.underlying25 rfl (eq' rfl rfl rfl (mv rfl rfl ?_))))
       refine gs 125 rfl (fun g4 => ?_) (fun hh => absurd (by omega) hh)
       refine gY rfl (mv rfl rfl (gY rfl (s_capS rfl Tryz.underlying29 rfl (gY rfl (mv rfl rfl (gY rfl (lnS rfl Tryz.underlying29 rfl (gY rfl (eq' rfl rfl rfl (pkt rfl rfl rfl rfl (mv rfl rfl ?_)))))))))))
       refine gs 132 rfl (fun g5 => ?_) (fun hh => absurd (by rfl) hh)
       refine gY rfl (mv rfl rfl (gY rfl ?_))
       replace ho3 := ho30.ext ((q3.next q4).next q5)
       refine cl (ev1 rfl) co11 (count_ok _ os _ ho3.sl) rfl ?_
       rintro _ w12 ⟨rfl, q12⟩
       have z12 := q12.size
       refine gY rfl (mv rfl rfl (gY rfl (eq' rfl rfl rfl (pkt rfl rfl rfl rfl (mv rfl rfl ?_)))))
       refine gs 138 rfl (fun g6 => ?_) (fun hh => absurd (by exact hcw) hh)
       refine gY rfl (mv rfl rfl (gY rfl (lnS rfl Tryz.underlying29 rfl (gY rfl (mv rfl rfl (gY rfl (mv rfl rfl (gY rfl ?_))))))))
       replace ho3 := ho30.ext (((q3.next q4).next q5).next q12)
       replace ho4 := ho40.ext ((q4.next q5).next q12)
       refine cl (ev2 rfl rfl) co12 (least_ok _ _ os _ ho3.sl ho4.sl hosc (by omega)) rfl ?_
       rintro _ w13 ⟨rfl, q13⟩
       have z13 := q13.size
       refine gY rfl (eq' rfl rfl rfl (pkt rfl rfl rfl rfl (mv rfl rfl ?_)))
       refine gs 146 rfl (fun g7 => ?_) (fun hh => absurd (by exact hgl) hh)
       refine gY rfl ?_
       replace hG := hG0.ext (((((q2.next q3).next q4).next q5).next q12).next q13)
       refine cl evs_nil co5 (lives10_ok _ hG) rfl ?_
       rintro _ w14 ⟨rfl, q14⟩
       have z14 := q14.size
       exact pkt rfl rfl rfl rfl (asg rfl rfl (rbeF rfl (by rfl) .nil ((q12.next q13).next q14)))
     · intro w15 q15; have z15 := q15.size
       refine tn (rt (r1 Tryz.results3 rfl ?_))
       exact ⟨_, rfl, by first | rfl | simp, ((((q2.next q3).next q4).next q5).next q15)⟩
end Go.Proofs.YtbalocjcbmkecaaGreatDoor
