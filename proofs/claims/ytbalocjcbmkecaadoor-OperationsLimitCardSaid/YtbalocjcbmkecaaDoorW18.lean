/- Walks. -/
import Derived.Test.YtbalocjcbmkecaaDoorRows
import Derived.Test.YtbalocjcbmkecaaDoorW17
import Derived.Test.YtbalocjcbmkecaaDoorXOp
import Derived.Test.YtbalocjcbmkecaaDoorXMap
set_option linter.unusedVariables false
set_option linter.unusedSimpArgs false
namespace Go.Proofs.YtbalocjcbmkecaaDoor
open Go.Lw

set_option maxHeartbeats 2000000 in
theorem law_limit (mo : Int) (x o : MOp) (w0 : World) (hG : Glob w0) (hm : 0 ≤ mo ∧ mo ≤ 255) (hx : x.Bytes) (ho : o.Ok) : Rets Tryd.prog 7 #[.int .u8 mo, oxV x, opV o] w0 fun r w' => r = .bool true ∧ Fr [] w0 w' := by
 have hca := of_chk hx
 obtain ⟨mn, hmn⟩ : ∃ mn : Nat, (mn : Int) = 4094 + mo % 4 := ⟨(4094 + mo % 4).toNat, by omega⟩
 obtain ⟨tl, htl⟩ : ∃ tl, tl = txtO (ofO x) ++ [10] := ⟨_, rfl⟩
 have htl1 : tl.length ≤ 31 := by have := txt_len (ofO x); rw [htl]; simp; omega
 have hrep : ∀ n, n ≤ 5000 → (repT tl n).length ≤ 155000 := fun n hn => by rw [repT_len]; exact Nat.le_trans (Nat.mul_le_mul hn htl1) (by decide)
 have hGs := hG.sz
 refine we [(0, .int .u8 mo), (1, oxV x), (2, opV o)] Tryd.func7 rfl Tryd.ntmps7 rfl (.cons rfl (.cons rfl (.cons rfl .nil))) ?_
 have hG0 := hG
 refine sr (bx rfl rfl rfl (fun g4 w1 hg4 hb4 q1 z1 => ?_))
 refine bx rfl rfl rfl (fun g5 w2 hg5 hb5 q2 z2 => ?_)
 refine asg rfl rfl (nn (sr (mv rfl rfl (s_rem rfl rfl (by omega) (by first | exact IntWalk.rem_in _ _ (by omega) | rfl) rfl (s_conv rfl (us Tryd.underlying5) Tryd.underlying3 (wi6 (by omega)) rfl ?_)))))
 refine s_add rfl rfl (show IntKind.i64.wrap (4094 + mo % 4) = (mn : Int) by rw [hmn]; exact wi6 (by omega)) rfl ?_
 refine asg rfl rfl (nn (sr ?_))
 replace hb4 := hb4.ext q2
 refine s_loadBA rfl hb4 ag23 rfl ?_
 refine cl (ev1 rfl) co13 (of_ok x _ hx) rfl ?_
 rintro _ w3 ⟨rfl, q3⟩
 have z3 := q3.size
 refine cl (ev1 rfl) co15 (ltext_ok (ofO x) _ hca) rfl ?_
 rintro _ w4 ⟨rfl, q4⟩
 have z4 := q4.size
 refine s_adds rfl rfl (by first | omega | (have := txt_len (ofO x); simp; omega)) rfl (asg rfl rfl ?_)
 rw [← htl]
 refine nn (sr (asg rfl rfl (nn (sq (sr (mv rfl rfl (asg rfl rfl (nn (bl ?_)))))))))
 refine lpK (ι := Nat) [(4, _), (5, _), (7, _), (8, _)] (fun j => [(9, S (repT tl j)), (10, .int .i64 ((mn : Int) - j))]) (fun j w' => Fr [] w4 w' ∧ j ≤ mn % 64) (fun j => mn % 64 - j) 0 (.cons rfl (.cons rfl (.cons rfl (.cons rfl (.cons rfl (.cons (by simp; rfl) .nil)))))) ⟨Fr.refl _ _, by omega⟩ ?_
 rintro j w5 ⟨q5, hj⟩
 have z5 := q5.size
 refine kpC [(4, _), (5, _), (7, _), (8, _), (9, _), (10, _)] (.cons rfl (.cons rfl (.cons rfl (.cons rfl (.cons rfl (.cons rfl .nil)))))) ?_
 have hr1 := hrep j (by omega)
 refine sq (sr (mv rfl rfl (gt' rfl rfl rfl (nn ?_))))
 refine cd rfl (fun c0 => ?_) (fun c0 => ?_)
 · refine sk (tn (sq (bl (sq (sr (mv rfl rfl (s_rem rfl rfl (by omega) (by first | exact IntWalk.rem_in _ _ (by omega) | rfl) rfl (eq' rfl rfl rfl (nn ?_)))))))))
   refine cd rfl (fun c1 => ?_) (fun c1 => ?_)
   · obtain rfl : j = mn % 64 := by omega
     refine ex (te (xo rfl (te (te (xh (tn (sr (asg rfl rfl (nn (sq (sr ?_)))))))))))
     refine asg rfl rfl (nn (bl ?_))
     refine lpK (ι := Nat) [(4, _), (5, _), (7, _), (8, _), (9, _)] (fun i => [(11, S (repT tl i)), (12, .int .i64 (i : Int))]) (fun i w' => Fr [] w5 w' ∧ i ≤ 64) (fun i => 64 - i) 0 (.cons rfl (.cons rfl (.cons rfl (.cons rfl (.cons rfl (.cons rfl (.cons rfl .nil))))))) ⟨Fr.refl _ _, by omega⟩ ?_
     rintro i w6 ⟨q6, hi⟩
     have z6 := q6.size
     refine kpC [(4, _), (5, _), (7, _), (8, _), (9, _), (11, _), (12, _)] (.cons rfl (.cons rfl (.cons rfl (.cons rfl (.cons rfl (.cons rfl (.cons rfl .nil))))))) ?_
     have hr2 := hrep i (by omega)
     refine sq (sr (mv rfl rfl (lt' rfl rfl rfl (nn ?_))))
     refine cd rfl (fun c2 => ?_) (fun c2 => ?_)
     · refine sk (tn (sq (bl (rg (mv rfl rfl (mv rfl rfl (s_adds rfl rfl (by first | omega | (have := txt_len (ofO x); simp; omega)) rfl (asg rfl rfl (nl (bn' (tn ?_)))))))))))
       refine rg (mv rfl rfl (s_add rfl rfl (wi6 (by omega)) rfl (asg rfl rfl (nl ?_))))
       exact lpE (i + 1) (.cons rfl (.cons rfl (.cons rfl (.cons rfl (.cons rfl (.cons (congrArg (fun z => some (S z)) (show repT tl i ++ tl = repT tl (i + 1) by rw [← repT_succ])) (.cons rfl .nil))))))) ⟨q6, by omega⟩ (by omega)
     · obtain rfl : i = 64 := by omega
       refine ex (te (te (xh (tn (sq (sr (asg rfl rfl (nn (bl ?_)))))))))
       refine lpK (ι := Nat) [(4, _), (5, _), (7, _), (11, _)] (fun m => [(9, S (repT tl (mn % 64 + 64 * m))), (13, .int .i64 (m : Int))]) (fun m w' => Fr [] w6 w' ∧ m ≤ mn / 64) (fun m => mn / 64 - m) 0 (.cons rfl (.cons rfl (.cons rfl (.cons rfl (.cons rfl (.cons rfl .nil)))))) ⟨Fr.refl _ _, by omega⟩ ?_
       rintro m w7 ⟨q7, hm64⟩
       have z7 := q7.size
       refine kpC [(4, _), (5, _), (7, _), (11, _), (9, _), (13, _)] (.cons rfl (.cons rfl (.cons rfl (.cons rfl (.cons rfl (.cons rfl .nil)))))) ?_
       have hr3 := hrep (mn % 64 + 64 * m) (by omega)
       refine sq (sr (mv rfl rfl (mv rfl rfl (s_quo rfl rfl (by omega) (by first | exact IntWalk.i64_quo _ _ (by omega) | rfl) rfl (lt' rfl rfl rfl (nn ?_))))))
       refine cd rfl (fun c3 => ?_) (fun c3 => ?_)
       · refine sk (tn (sq (bl (rg (mv rfl rfl (mv rfl rfl (s_adds rfl rfl (by first | omega | (have := txt_len (ofO x); simp; omega)) rfl (asg rfl rfl (nl (bn' (tn ?_)))))))))))
         refine rg (mv rfl rfl (s_add rfl rfl (wi6 (by omega)) rfl (asg rfl rfl (nl ?_))))
         exact lpE (m + 1) (.cons rfl (.cons rfl (.cons rfl (.cons rfl (.cons (congrArg (fun z => some (S z)) (show repT tl (mn % 64 + 64 * m) ++ repT tl 64 = repT tl (mn % 64 + 64 * (m + 1)) by rw [← repT_add, Nat.mul_succ, Nat.add_assoc])) (.cons rfl .nil)))))) ⟨q7, by omega⟩ (by omega)
       · obtain rfl : m = mn / 64 := by omega
         rw [show mn % 64 + 64 * (mn / 64) = mn by omega] at hr3 ⊢
         refine ex (te (te (xh (tn (sr (mv rfl rfl ?_))))))
         replace hG := hG0.ext ((((((q1.next q2).next q3).next q4).next q5).next q6).next q7)
         refine cl (ev1 rfl) co21 (program_ok _ _ hG (by omega)) rfl ?_
         rintro _ w8 ⟨A14, gl, n, e, hpe, rfl, hos, q8⟩
         have z8 := q8.size
         refine mv rfl rfl (xt rfl rfl rfl (xt rfl rfl rfl (xt rfl rfl rfl (asg rfl rfl (asg rfl rfl (asg rfl rfl (kpL [(4, _), (5, _), (7, _), (14, _), (15, _), (16, _)] (.cons rfl (.cons rfl (.cons rfl (.cons rfl (.cons rfl (.cons rfl .nil)))))) (nn ?_))))))))
         refine jn (ι := Unit) [(4, _), (5, _)] (fun _j => []) (fun _j w' => Fr [] w8 w') (.cons rfl (.cons rfl .nil)) ?_ ?_
         · refine sr (mv rfl rfl (gt' rfl rfl rfl (nn ?_)))
           refine cd rfl (fun c4 => ?_) (fun c4 => ?_)
           · obtain rfl : mn = 4097 := by omega
             rw [htl, prog_many hca] at hpe
             cases hpe
             refine sq ?_
             refine rbo (r := 71) (L' := [(4, _), (5, _)]) (False) (.cons rfl (.cons rfl .nil)) ?_ ?_
             · refine mv rfl rfl (ne' rfl rfl rfl (mv rfl rfl ?_))
               refine gs 63 rfl (fun g0 => ?_) (fun g0 => ?_)
               · exact gN rfl rfl rfl (gN rfl rfl rfl (pkt rfl rfl rfl rfl (mv rfl rfl (gN rfl rfl rfl (gN rfl rfl rfl (gN rfl rfl rfl (pkt rfl rfl rfl rfl (rbe rfl (by first | rfl | (simp_all; done)) (.cons rfl (.cons rfl .nil))))))))))
               · refine gY rfl (mv rfl rfl (gY rfl (ne' rfl rfl rfl (pkf rfl rfl rfl rfl (mv rfl rfl ?_)))))
                 refine gs 67 rfl (fun g1 => ?_) (fun g1 => ?_)
                 · exact gN rfl rfl rfl (gN rfl rfl rfl (gN rfl rfl rfl (pkt rfl rfl rfl rfl (rbe rfl (by first | rfl | (simp_all; done)) (.cons rfl (.cons rfl .nil))))))
                 · exact gY rfl (mv rfl rfl (gY rfl (lnS rfl Tryd.underlying45 rfl (gY rfl (ne' rfl rfl rfl (pkf rfl rfl rfl rfl (rbe rfl (by first | rfl | (simp_all; done)) (.cons rfl (.cons rfl .nil)))))))))
             · refine tn ?_
               refine cd rfl (fun c5 => ?_) (fun c5 => ?_)
               · exact c5.elim
               · refine sk ?_
                 exact jE (()) (.cons rfl (.cons rfl .nil)) (Fr.refl _ _)
           · rw [htl, prog_rep hca (by omega)] at hpe
             cases hpe
             refine sq ?_
             refine rbo (r := 83) (L' := [(4, _), (5, _)]) (False) (.cons rfl (.cons rfl .nil)) ?_ ?_
             · refine mv rfl rfl (ne' rfl rfl rfl (mv rfl rfl ?_))
               refine gs 74 rfl (fun g2 => ?_) (fun g2 => ?_)
               · exact gN rfl rfl rfl (gN rfl rfl rfl (pkt rfl rfl rfl rfl (mv rfl rfl (gN rfl rfl rfl (gN rfl rfl rfl (gN rfl rfl rfl (gN rfl rfl rfl (pkt rfl rfl rfl rfl (rbe rfl (by first | rfl | (simp_all; done)) (.cons rfl (.cons rfl .nil)))))))))))
               · refine gY rfl (mv rfl rfl (gY rfl (ne' rfl rfl rfl (pkf rfl rfl rfl rfl (mv rfl rfl ?_)))))
                 refine gs 78 rfl (fun g3 => ?_) (fun g3 => ?_)
                 · exact gN rfl rfl rfl (gN rfl rfl rfl (gN rfl rfl rfl (gN rfl rfl rfl (pkt rfl rfl rfl rfl (rbe rfl (by first | rfl | (simp_all; done)) (.cons rfl (.cons rfl .nil)))))))
                 · exact gY rfl (mv rfl rfl (gY rfl (lnS rfl Tryd.underlying45 rfl (gY rfl (mv rfl rfl (gY rfl (ne' rfl rfl rfl (pkf rfl rfl rfl rfl (rbe rfl (by first | rfl | (simp_all; done)) (.cons rfl (.cons rfl .nil)))))))))))
             · refine tn ?_
               refine cd rfl (fun c6 => ?_) (fun c6 => ?_)
               · exact c6.elim
               · refine sk ?_
                 exact jE (()) (.cons rfl (.cons rfl .nil)) (Fr.refl _ _)
         · rintro _j w9 q9
           have z9 := q9.size
           refine kpC [(4, _), (5, _)] (.cons rfl (.cons rfl .nil)) ?_
           refine jn (ι := Unit) [(5, _)] (fun _j => [(17, S (fmtS [ofO x, o]))]) (fun _j w' => Fr [] w9 w') (.cons rfl .nil) ?_ ?_
           · replace hG := hG0.ext ((((((((q1.next q2).next q3).next q4).next q5).next q6).next q7).next q8).next q9)
             replace hb4 := hb4.ext ((((((q3.next q4).next q5).next q6).next q7).next q8).next q9)
             replace hb5 := hb5.ext ((((((q3.next q4).next q5).next q6).next q7).next q8).next q9)
             intro a h
             have qh24 := Fr.refl [] w9
             refine region_held (fun wb w' => Fr [] wb w') hmix ?_; intro w10 hq
             have z10 := hq.size
             replace hG := hG.ext hq
             replace hb4 := hb4.ext hq
             replace hb5 := hb5.ext hq
             replace qh24 := qh24.next hq
             have hsz := hq.size; clear hq; have hC : Fr [] w10 w10 := Fr.refl _ _
             have hG_b := hG
             have hb4_b := hb4
             have hb5_b := hb5
             refine hd_loadBA 0 (by kernel_rfl) (by kernel_rfl) (by kernel_rfl) hC h wn rfl (fun _ hw => hb4_b.ext hw) ag23 rfl rfl ?_; clear h a; intro a h
             refine hd_loadBA 2 (by kernel_rfl) (by kernel_rfl) (by kernel_rfl) hC h wn rfl (fun _ hw => hb5_b.ext hw) ag31 rfl rfl ?_; clear h a; intro a h
             refine hd_one 1 (by kernel_rfl) rfl ?_
             refine st_call h (evs_cons rfl evs_nil) co13 (of_ok x _ hx) rfl ?_; clear h a; rintro _ w11 ⟨rfl, hq⟩ a h
             have z11 := hq.size
             replace hG := hG.ext hq
             replace hb4 := hb4.ext hq
             replace hb5 := hb5.ext hq
             replace qh24 := qh24.next hq
             replace hC := hC.next hq
             clear hq
             refine hd_next hC ?_
             refine hd_one 3 (by kernel_rfl) rfl ?_
             refine st_bslice ([ofO x, o]) h (evs_cons rfl (evs_cons rfl evs_nil)) rfl rfl rfl el45 (Nat.le_of_ble_eq_true rfl) rfl ?_; clear h a; intro g_87 w12 hg ho87 hq hz a h
             have hn__87 : g4 < g_87 := by have := hb4.lt; omega
             have hn__87 : g5 < g_87 := by have := hb5.lt; omega
             have z12 := hq.size
             replace hG := hG.ext hq
             replace hb4 := hb4.ext hq
             replace hb5 := hb5.ext hq
             replace qh24 := qh24.next hq
             replace hC := hC.next hq
             clear hq
             refine hd_next hC ?_
             refine hd_one 4 (by kernel_rfl) rfl ?_
             refine st_call h (evs_cons rfl evs_nil) co22 (format_ok _ [ofO x, o] _ hG ho87.sl (show 2 ≤ 4096 by decide)) rfl ?_; clear h a; rintro _ w13 ⟨rfl, hq⟩ a h
             have z13 := hq.size
             replace hG := hG.ext hq
             replace hb4 := hb4.ext hq
             replace hb5 := hb5.ext hq
             replace qh24 := qh24.next hq
             replace hC := hC.next hq
             replace ho87 := ho87.ext hq
             clear hq
             refine hd_next hC ?_
             refine hd_one 5 (by kernel_rfl) rfl ?_
             refine st_assign h rfl rfl ?_; clear h a; intro a h
             refine hd_next hC ?_
             refine hd_end (by kernel_rfl) ?_
             clear hC hG_b hb4_b hb5_b
             have z13 := qh24.size
             refine bk (h.sub (L' := [(5, _), (17, _)]) (.cons rfl (.cons rfl .nil))) ?_; clear h a
             exact jE (()) (.cons rfl (.cons rfl .nil)) qh24
           · rintro _j w14 q14
             have z14 := q14.size
             refine kpC [(5, _), (17, _)] (.cons rfl (.cons rfl .nil)) ?_
             refine sq ?_
             refine rboF (r := 6) (L' := []) (True) .nil ?_ ?_
             · refine mv rfl rfl (s_eqs rfl rfl rfl ?_)
               replace hb5 := hb5.ext (((((((q3.next q4).next q5).next q6).next q7).next q8).next q9).next q14)
               refine s_loadBA rfl hb5 ag31 rfl ?_
               refine cl (ev1 rfl) co18 (wrong_ok o _ ho) rfl ?_
               rintro _ w15 ⟨rfl, q15⟩
               have z15 := q15.size
               refine ne' rfl rfl rfl (s_eqb rfl rfl Tryd.underlying4 rfl (mv rfl rfl ?_))
               refine gs 95 rfl (fun g4 => ?_) (fun g4 => ?_)
               · refine gY rfl ?_
                 replace hG := hG0.ext ((((((((((q1.next q2).next q3).next q4).next q5).next q6).next q7).next q8).next q9).next q14).next q15)
                 refine cl evs_nil co12 (lives_ok _ hG) rfl ?_
                 rintro _ w16 ⟨rfl, q16⟩
                 have z16 := q16.size
                 exact pkt rfl rfl rfl rfl (asg rfl rfl (rbeF rfl (by first | rfl | exact absurd (decide_eq_decide.2 (fmt_two hca)) (by assumption)) .nil (q15.next q16)))
               · exact gN rfl rfl rfl (pkf rfl rfl rfl rfl (asg rfl rfl (rbeF rfl (by first | rfl | exact absurd (decide_eq_decide.2 (fmt_two hca)) (by assumption)) .nil q15)))
             · intro w17 q17; have z17 := q17.size
               refine tn (rt (r1 Tryd.results7 rfl ?_))
               exact ⟨_, rfl, by first | rfl | simp, ((((((((((q1.next q2).next q3).next q4).next q5).next q6).next q7).next q8).next q9).next q14).next q17)⟩
   · refine sk (tn (rg (mv rfl rfl (mv rfl rfl (s_adds rfl rfl (by first | omega | (have := txt_len (ofO x); simp; omega)) rfl (asg rfl rfl (nl (bn' (tn (rg (mv rfl rfl ?_)))))))))))
     refine s_sub rfl rfl (wi6 (by omega)) rfl (asg rfl rfl (nl ?_))
     exact lpE (j + 1) (.cons rfl (.cons rfl (.cons rfl (.cons rfl (.cons (congrArg (fun z => some (S z)) (show repT tl j ++ tl = repT tl (j + 1) by rw [← repT_succ])) (.cons (congrArg (fun z => some (Value.int .i64 z)) (show (mn : Int) - j - 1 = (mn : Int) - ((j + 1 : Nat) : Int) by omega)) .nil)))))) ⟨q5, by omega⟩ (by omega)
 · exfalso; omega
end Go.Proofs.YtbalocjcbmkecaaDoor
