/- Walks. -/
import Derived.Test.YtbalocjcbmkecaaDoorRows
import Derived.Test.YtbalocjcbmkecaaDoorW24b
import Derived.Test.YtbalocjcbmkecaaDoorXOp
import Derived.Test.YtbalocjcbmkecaaDoorXMap
set_option linter.unusedVariables false
set_option linter.unusedSimpArgs false
namespace Go.Proofs.YtbalocjcbmkecaaDoor
open Go.Lw
theorem co20 : CallOf Tryd.prog 20 := CallOf.mk' Tryd.func20 (by kernel_rfl) (by kernel_rfl)
theorem co23 : CallOf Tryd.prog 23 := CallOf.mk' Tryd.func23 (by kernel_rfl) (by kernel_rfl)
set_option maxHeartbeats 2000000 in
theorem law_two (v u : Value) (xs ys : List MOp) (w0 : World) (hG : Glob w0) (hs : Sl encOX w0 v xs) (hb : ∀ x ∈ xs, x.Bytes) (hs1 : Sl encOX w0 u ys) (hb1 : ∀ x ∈ ys, x.Bytes) : Rets Tryd.prog 8 #[v, u] w0 fun r w' => r = .bool true ∧ Fr [] w0 w' := by
 obtain ⟨A, c, rfl, hc, hM, hA⟩ := id hs
 clear hA
 have hsb : ∀ k ∈ blks (Value.slice A xs.length c), xs ≠ [] → k < w0.heap.size := fun k hk hne => hs.blk hne k hk
 obtain ⟨os, hos0⟩ : ∃ os, os = xs.map ofO := ⟨_, rfl⟩
 have hosl : os.length = xs.length := by rw [hos0, List.length_map]
 have hosc : ∀ o ∈ os, chkO o = 0 := by rw [hos0]; exact of_all hb
 have hoc := all_getD hosc
 obtain ⟨A1, c1', rfl, hcy, hMy, hA1⟩ := id hs1
 clear hA1
 obtain ⟨bs, hbs0⟩ : ∃ bs, bs = ys.map ofO := ⟨_, rfl⟩
 have hbsl : bs.length = ys.length := by rw [hbs0, List.length_map]
 have hbsc : ∀ o ∈ bs, chkO o = 0 := by rw [hbs0]; exact of_all hb1
 have hcr1 := count_rng (os ++ [rack0])
 have hcr2 := count_rng bs
 have hcr3 := count_rng ([] ++ os ++ bs)
 simp only [List.length_append, List.length_cons, List.length_nil] at hcr1 hcr3
 have hl28 : (os ++ [rack0]).length = os.length + 1 := by simp
 have hGs := hG.sz
 refine we [(0, .slice A xs.length c), (1, .slice A1 ys.length c1')] Tryd.func8 rfl Tryd.ntmps8 rfl (.cons rfl (.cons rfl .nil)) ?_
 have hG0 := hG
 have hs0 := hs
 have hs10 := hs1
 refine sr (asg rfl rfl (nn (sq (sq ?_))))
 refine rbo (r := 19) (L' := [(0, _), (1, _)]) (((30 < (xs.length : Int)) ∨ (30 < (ys.length : Int)))) (.cons rfl (.cons rfl .nil)) ?_ ?_
 · refine mv rfl rfl (lnS rfl Tryd.underlying43 rfl (gt' rfl rfl rfl (mv rfl rfl ?_)))
   refine gs 15 rfl (fun g0 => ?_) (fun g0 => ?_)
   · exact gN rfl rfl rfl (gN rfl rfl rfl (gN rfl rfl rfl (pkt rfl rfl rfl rfl (rbe rfl (by first | exact bt (by omega) | exact bf (by omega) | exact bi (by omega) | exact bn (by omega) | (simp_all; done) | (simp_all; omega)) (.cons rfl (.cons rfl .nil))))))
   · exact gY rfl (mv rfl rfl (gY rfl (lnS rfl Tryd.underlying43 rfl (gY rfl (gt' rfl rfl rfl (pkf rfl rfl rfl rfl (rbe rfl (by first | exact bt (by omega) | exact bf (by omega) | exact bi (by omega) | exact bn (by omega) | (simp_all; done) | (simp_all; omega)) (.cons rfl (.cons rfl .nil)))))))))
 · refine tn ?_
   refine cd rfl (fun c0 => ?_) (fun c0 => ?_)
   · refine sr ?_
     refine cl evs_nil co23 (lives10_ok _ hG) rfl ?_
     rintro _ w1 ⟨rfl, q1⟩
     have z1 := q1.size
     refine asg rfl rfl (nn (rt (tr (r1 Tryd.results8 rfl ?_))))
     exact ⟨_, rfl, by first | rfl | simp, q1⟩
   · have hl1 : countS ([] ++ (os ++ [rack0]) ++ bs) = countS (os ++ [rack0]) + countS bs := by
       rw [List.nil_append, count_v (chk_app (chk_app hosc (chk_one chk_rack0)) hbsc) (by simp; omega), count_v (chk_app hosc (chk_one chk_rack0)) (by simp; omega), count_v hbsc (by omega), cnt_two]; omega
     refine sk (tn (sr (mv rfl rfl ?_)))
     refine cl (ev1 rfl) co20 (pof2 hos0 _ _ hs hb (by omega)) rfl ?_
     rintro _ w2 ⟨A5, c5, rfl, ho5, q2⟩
     have z2 := q2.size
     refine mv rfl rfl ?_
     have hlt5 := fun k hk => (ho5.blk k hk).2
     replace hs1 := hs10.ext q2
     refine cl (ev1 rfl) co20 (pof2 hbs0 _ _ hs1 hb1 (by omega)) rfl ?_
     rintro _ w3 ⟨A6, c6, rfl, ho6, q3⟩
     have z3 := q3.size
     have hge6 := fun k hk => (ho6.blk k hk).1
     refine asg rfl rfl (asg rfl rfl (kpL [(5, _), (6, _)] (.cons rfl (.cons rfl .nil)) (nn (sr (mv rfl rfl (s_lit (cs := [_, _, _, _, _, _]) (ev1 rfl) bo31 (pok_cons rfl rfl rfl pok_nil) rfl rfl (s_bslice ([rack0]) (ev1 rfl) rfl rfl rfl el45 (Nat.le_of_ble_eq_true rfl) rfl (fun g27 w4 hg27 ho27 q4 z4 => ?_))))))))
     replace ho6 := ho6.ext q4
     replace ho5 := ho5.ext (q3.next q4)
     have hoo28 := ho5
     refine s_append rfl rfl ho5 ho27.sl el45 (by unfold maxLen; simp; omega) (by simp; omega) (by omega) rfl (fun v28 w5 ho5 q5 hor28 => ?_)
     have z5 := q5.size
     replace ho6 := ho6.fr q5 (fun k hk hb => by have := hlt5 k hk; have := hge6 k hb; omega)
     obtain ⟨A28, c28, rfl, hc28⟩ := ho5.sl.form
     refine asg rfl rfl ?_
     have hlt7 := fun k hk => (ho5.blk k hk).2
     have hlt6 := fun k hk => (ho6.blk k hk).2
     refine nn (sr (s_bslice (([] : List MOp)) evs_nil rfl rfl rfl el45 (Nat.le_of_ble_eq_true rfl) rfl (fun g29 w6 hg29 ho29 q6 z6 => ?_)))
     refine mv rfl rfl ?_
     replace ho5 := ho5.ext q6
     replace ho6 := ho6.ext q6
     have hoo31 := ho29
     refine s_append rfl rfl ho29 ho5.sl el45 (by unfold maxLen; simp; omega) (by simp; omega) (by omega) rfl (fun v31 w7 ho31 q7 hor31 => ?_)
     have z7 := q7.size
     replace ho5 := ho5.fr q7 (fun k hk hb => by have := (hoo31.blk k hk).1; have := hlt7 k hb; omega)
     replace ho6 := ho6.fr q7 (fun k hk hb => by have := (hoo31.blk k hk).1; have := hlt6 k hb; omega)
     obtain ⟨A31, c31, rfl, hc31⟩ := ho31.sl.form
     refine mv rfl rfl ?_
     have hoo33 := ho31
     refine s_append rfl rfl ho31 ho6.sl el45 (by unfold maxLen; simp; omega) (by simp; omega) (by omega) rfl (fun v33 w8 ho33 q8 hor33 => ?_)
     have z8 := q8.size
     replace ho5 := ho5.fr q8 (fun k hk hb => by have := (hoo33.blk k hk).1; have := hlt7 k hb; omega)
     replace ho6 := ho6.fr q8 (fun k hk hb => by have := (hoo33.blk k hk).1; have := hlt6 k hb; omega)
     obtain ⟨A33, c33, rfl, hc33⟩ := ho33.sl.form
     refine asg rfl rfl (nn (sr (mv rfl rfl ?_)))
     refine cl (ev1 rfl) co24 (count_ok _ (os ++ [rack0]) _ ho5.sl) rfl ?_
     rintro _ w9 ⟨rfl, q9⟩
     have z9 := q9.size
     refine mv rfl rfl ?_
     replace ho6 := ho6.ext q9
     refine cl (ev1 rfl) co24 (count_ok _ bs _ ho6.sl) rfl ?_
     rintro _ w10 ⟨rfl, q10⟩
     have z10 := q10.size
     refine s_add rfl rfl (wi6 (by omega)) rfl (asg rfl rfl (nn (sr (mv rfl rfl ?_))))
     replace ho33 := ho33.ext (q9.next q10)
     refine cl (ev1 rfl) co24 (count_ok _ ([] ++ (os ++ [rack0]) ++ bs) _ ho33.sl) rfl ?_
     rintro _ w11 ⟨rfl, q11⟩
     have z11 := q11.size
     refine asg rfl rfl (nn (sq (sr (mv rfl rfl (mv rfl rfl (ne' rfl rfl rfl (nn ?_)))))))
     refine cd rfl (fun c1 => ?_) (fun c1 => ?_)
     · exact absurd hl1 c1
     · refine sk (tn (sr (mv rfl rfl (mv rfl rfl (lnS rfl Tryd.underlying45 rfl (s_sub rfl rfl (wi6 (by omega)) rfl (s_sl_h (p := os.length) rfl rfl el45 (by omega) (by omega) (by omega) rfl (asg rfl rfl ?_))))))))
       replace ho5 := ho5.ext ((q9.next q10).next q11)
       have hs5 : Sl encOp w11 (.slice A28 os.length c28) os := take_sl ho5.sl
       have hs50 := hs5
       refine kpL [(5, _), (6, _), (8, _)] (.cons rfl (.cons rfl (.cons rfl .nil))) (nn (sr (asg rfl rfl (nn (sq (sr (asg rfl rfl (nn (bl ?_)))))))))
       refine lpK (ι := Nat) [(5, _), (6, _), (8, _)] (fun i => [(10, .int .i64 (rackF 0 (os.take i))), (11, .int .i64 (i : Int))]) (fun i w' => Fr [] w11 w' ∧ i ≤ os.length) (fun i => os.length - i) 0 (.cons rfl (.cons rfl (.cons rfl (.cons rfl (.cons rfl .nil))))) ⟨Fr.refl _ _, by omega⟩ ?_
       rintro i w12 ⟨q12, hi⟩
       have z12 := q12.size
       refine kpC [(5, _), (6, _), (8, _), (10, _), (11, _)] (.cons rfl (.cons rfl (.cons rfl (.cons rfl (.cons rfl .nil))))) ?_
       refine sq (sr (mv rfl rfl (mv rfl rfl (lnS rfl Tryd.underlying45 rfl (lt' rfl rfl rfl (nn ?_))))))
       refine cd rfl (fun c2 => ?_) (fun c2 => ?_)
       · refine sk (tn (sq (bl (sr (mv rfl rfl (mv rfl rfl ?_))))))
         replace hs5 := hs50.ext q12
         refine s_idxL (p := i) (op0) rfl hs5 rfl el45 (by omega) (by omega) (by omega) rfl (fun ad57 hc57 => ?_)
         refine fad rfl fa31_0 rfl (s_loadC rfl (hc57 _ hs5) rfl na25 rfl (eq' rfl rfl rfl (kpL [(5, _), (6, _), (8, _), (10, _), (11, _), (60, _)] (.cons rfl (.cons rfl (.cons rfl (.cons rfl (.cons rfl (.cons rfl .nil)))))) (nn ?_))))
         refine cd rfl (fun c3 => ?_) (fun c3 => ?_)
         · refine rg (mv rfl rfl (mv rfl rfl (s_idxL (p := i) (op0) rfl hs5 rfl el45 (by omega) (by omega) (by omega) rfl (fun ad63 hc63 => ?_))))
           refine fad rfl fa31_4 rfl (s_loadC rfl (hc63 _ hs5) rfl na3 rfl (asg rfl rfl (kpL [(5, _), (6, _), (8, _), (10, _), (11, _)] (.cons rfl (.cons rfl (.cons rfl (.cons rfl (.cons rfl .nil))))) (nl (bn' (tn (rg (mv rfl rfl (s_add rfl rfl (wi6 (by omega)) rfl (asg rfl rfl (nl ?_)))))))))))
           exact lpE (i + 1) (.cons rfl (.cons rfl (.cons rfl (.cons (congrArg (fun z => some (Value.int .i64 z)) (by rw [rackF_succ (by omega)]; first | (rw [rkN, if_pos c3]) | (rw [rkN, if_neg c3]))) (.cons rfl .nil))))) ⟨q12, by omega⟩ (by omega)
         · refine sk (bn' (tn (rg (mv rfl rfl (s_add rfl rfl (wi6 (by omega)) rfl (asg rfl rfl (nl ?_)))))))
           exact lpE (i + 1) (.cons rfl (.cons rfl (.cons rfl (.cons (congrArg (fun z => some (Value.int .i64 z)) (by rw [rackF_succ (by omega)]; first | (rw [rkN, if_pos c3]) | (rw [rkN, if_neg c3]))) (.cons rfl .nil))))) ⟨q12, by omega⟩ (by omega)
       · obtain rfl : i = os.length := by omega
         rw [List.take_length]
         refine ex (te (te (xh (tn (sq (sr (mv rfl rfl (ne' rfl rfl rfl (nn ?_)))))))))
         refine cd rfl (fun c4 => ?_) (fun c4 => ?_)
         · refine sr ?_
           replace hG := hG0.ext ((((((((((q2.next q3).next q4).step q5 (fun k hk hlt => absurd (hoo28.blk k hk).1 (by omega))).next q6).step q7 (fun k hk hlt => absurd (hoo31.blk k hk).1 (by omega))).step q8 (fun k hk hlt => absurd (hoo33.blk k hk).1 (by omega))).next q9).next q10).next q11).next q12)
           refine cl evs_nil co23 (lives10_ok _ hG) rfl ?_
           rintro _ w13 ⟨rfl, q13⟩
           have z13 := q13.size
           refine asg rfl rfl (nn (rt (tr (r1 Tryd.results8 rfl ?_))))
           exact ⟨_, rfl, by first | rfl | simp, (((((((((((q2.next q3).next q4).step q5 (fun k hk hlt => absurd (hoo28.blk k hk).1 (by omega))).next q6).step q7 (fun k hk hlt => absurd (hoo31.blk k hk).1 (by omega))).step q8 (fun k hk hlt => absurd (hoo33.blk k hk).1 (by omega))).next q9).next q10).next q11).next q12).next q13)⟩
         · have hr0 : rackF 0 os = 0 := Classical.not_not.1 c4
           have hl2 : countS ([] ++ os ++ bs) ≤ countS (os ++ [rack0]) + countS bs ∧ countS (os ++ [rack0]) + countS bs - 1 ≤ countS ([] ++ os ++ bs) := by
             have := cnt_two' (b := bs) hr0
             rw [List.nil_append, count_v (chk_app hosc hbsc) (by simp; omega), count_v (chk_app hosc (chk_one chk_rack0)) (by simp; omega), count_v hbsc (by omega), cnt_rack0]; omega
           refine sk (tn (sr (s_bslice (([] : List MOp)) evs_nil rfl rfl rfl el45 (Nat.le_of_ble_eq_true rfl) rfl (fun g69 w14 hg69 ho69 q14 z14 => ?_))))
           refine mv rfl rfl ?_
           replace ho6 := ho6.ext (((q10.next q11).next q12).next q14)
           replace hs5 := hs50.ext (q12.next q14)
           have hoo71 := ho69
           refine s_append rfl rfl ho69 hs5 el45 (by unfold maxLen; simp; omega) (by simp; omega) (by omega) rfl (fun v71 w15 ho71 q15 hor71 => ?_)
           have z15 := q15.size
           replace ho6 := ho6.fr q15 (fun k hk hb => by have := (hoo71.blk k hk).1; have := hlt6 k hb; omega)
           obtain ⟨A71, c71, rfl, hc71⟩ := ho71.sl.form
           refine mv rfl rfl ?_
           have hoo73 := ho71
           refine s_append rfl rfl ho71 ho6.sl el45 (by unfold maxLen; simp; omega) (by simp; omega) (by omega) rfl (fun v73 w16 ho73 q16 hor73 => ?_)
           have z16 := q16.size
           replace ho6 := ho6.fr q16 (fun k hk hb => by have := (hoo73.blk k hk).1; have := hlt6 k hb; omega)
           obtain ⟨A73, c73, rfl, hc73⟩ := ho73.sl.form
           refine asg rfl rfl (kpL [(7, _), (8, _)] (.cons rfl (.cons rfl .nil)) (nn (sr (mv rfl rfl ?_))))
           refine cl (ev1 rfl) co24 (count_ok _ ([] ++ os ++ bs) _ ho73.sl) rfl ?_
           rintro _ w17 ⟨rfl, q17⟩
           have z17 := q17.size
           refine asg rfl rfl (nn (sq ?_))
           refine rboF (r := 4) (L' := []) (True) .nil ?_ ?_
           · refine mv rfl rfl (mv rfl rfl (le' rfl rfl rfl (mv rfl rfl ?_)))
             refine gs 79 rfl (fun g1 => ?_) (fun hh => absurd (by exact hl2.1) hh)
             refine gY rfl (mv rfl rfl (gY rfl (mv rfl rfl (gY rfl (s_sub rfl rfl (wi6 (by omega)) rfl (gY rfl (ge' rfl rfl rfl (pkt rfl rfl rfl rfl (mv rfl rfl ?_)))))))))
             refine gs 85 rfl (fun g2 => ?_) (fun hh => absurd (by exact hl2.2) hh)
             refine gY rfl ?_
             replace hG := hG0.ext ((((((((((((((q2.next q3).next q4).step q5 (fun k hk hlt => absurd (hoo28.blk k hk).1 (by omega))).next q6).step q7 (fun k hk hlt => absurd (hoo31.blk k hk).1 (by omega))).step q8 (fun k hk hlt => absurd (hoo33.blk k hk).1 (by omega))).next q9).next q10).next q11).next q12).next q14).step q15 (fun k hk hlt => absurd (hoo71.blk k hk).1 (by omega))).step q16 (fun k hk hlt => absurd (hoo73.blk k hk).1 (by omega))).next q17)
             refine cl evs_nil co23 (lives10_ok _ hG) rfl ?_
             rintro _ w18 ⟨rfl, q18⟩
             have z18 := q18.size
             exact pkt rfl rfl rfl rfl (asg rfl rfl (rbeF rfl (by rfl) .nil q18))
           · intro w19 q19; have z19 := q19.size
             refine tn (rt (r1 Tryd.results8 rfl ?_))
             exact ⟨_, rfl, by first | rfl | simp, (((((((((((((((q2.next q3).next q4).step q5 (fun k hk hlt => absurd (hoo28.blk k hk).1 (by omega))).next q6).step q7 (fun k hk hlt => absurd (hoo31.blk k hk).1 (by omega))).step q8 (fun k hk hlt => absurd (hoo33.blk k hk).1 (by omega))).next q9).next q10).next q11).next q12).next q14).step q15 (fun k hk hlt => absurd (hoo71.blk k hk).1 (by omega))).step q16 (fun k hk hlt => absurd (hoo73.blk k hk).1 (by omega))).next q17).next q19)⟩
end Go.Proofs.YtbalocjcbmkecaaDoor
