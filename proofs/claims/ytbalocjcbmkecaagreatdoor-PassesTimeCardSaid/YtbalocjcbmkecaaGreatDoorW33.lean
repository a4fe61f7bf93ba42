/- Walks. -/
import Derived.Test.YtbalocjcbmkecaaGreatDoorRows
import Derived.Test.YtbalocjcbmkecaaGreatDoorW31
import Derived.Test.YtbalocjcbmkecaaGreatDoorXOp
import Derived.Test.YtbalocjcbmkecaaGreatDoorXMap
set_option linter.unusedVariables false
set_option linter.unusedSimpArgs false
namespace Go.Proofs.YtbalocjcbmkecaaGreatDoor
open Go.Lw
theorem co5 : CallOf Tryz.prog 5 := CallOf.mk' Tryz.func5 (by kernel_rfl) (by kernel_rfl)
theorem co6 : CallOf Tryz.prog 6 := CallOf.mk' Tryz.func6 (by kernel_rfl) (by kernel_rfl)
theorem co7 : CallOf Tryz.prog 7 := CallOf.mk' Tryz.func7 (by kernel_rfl) (by kernel_rfl)
theorem co10 : CallOf Tryz.prog 10 := CallOf.mk' Tryz.func10 (by kernel_rfl) (by kernel_rfl)
theorem co13 : CallOf Tryz.prog 13 := CallOf.mk' Tryz.func13 (by kernel_rfl) (by kernel_rfl)
set_option maxHeartbeats 8000000 in
theorem law_time (v : Value) (xs : List MOp) (w0 : World) (hG : Glob w0) (hs : Sl encOX w0 v xs) (hb : ∀ x ∈ xs, x.Bytes) : Rets Tryz.prog 4 #[v] w0 fun r w' => r = .bool true ∧ Fr [] w0 w' := by
 obtain ⟨A, c, rfl, hc, hM, hA⟩ := id hs
 clear hA
 have hsb : ∀ k ∈ blks (Value.slice A xs.length c), xs ≠ [] → k < w0.heap.size := fun k hk hne => hs.blk hne k hk
 obtain ⟨os, hos0⟩ : ∃ os, os = xs.map ofO := ⟨_, rfl⟩
 have hosl : os.length = xs.length := by rw [hos0, List.length_map]
 have hosc : ∀ o ∈ os, chkO o = 0 := by rw [hos0]; exact of_all hb
 have hoc := all_getD hosc
 have hdl := divS_len os
 have hri := rkA_in hosc
 have hrl := rkL_len os
 have hGs := hG.sz
 refine we [(0, .slice A xs.length c)] Tryz.func4 rfl Tryz.ntmps4 rfl (.cons rfl .nil) ?_
 have hG0 := hG
 have hs0 := hs
 refine sr (asg rfl rfl (nn (sq (sr (mv rfl rfl (lnS rfl Tryz.underlying23 rfl (gt' rfl rfl rfl (nn ?_))))))))
 refine cd rfl (fun c0 => ?_) (fun c0 => ?_)
 · refine sr ?_
   refine cl evs_nil co5 (lives10_ok _ hG) rfl ?_
   rintro _ w1 ⟨rfl, q1⟩
   have z1 := q1.size
   refine asg rfl rfl (nn (rt (tr (r1 Tryz.results4 rfl ?_))))
   exact ⟨_, rfl, by first | rfl | simp, q1⟩
 · have hvd : vldS os := ⟨by omega, hosc⟩
   have hps : passS os = divS os := if_pos hvd
   have htl : timeS os = rsF 0 os + spS os (divS os) + countS os := by rw [timeS, if_pos hvd, countS, if_pos hvd, tim_law]
   have hcr := count_rng os
   have htg : 2 * countS os ≤ timeS os := by rw [timeS, if_pos hvd, countS, if_pos hvd]; exact tim_ge os
   refine sk (tn (sr (mv rfl rfl ?_)))
   refine cl (ev1 rfl) co6 (pof2 hos0 _ _ hs hb (by omega)) rfl ?_
   rintro _ w2 ⟨A3, c3, rfl, ho3, q2⟩
   have z2 := q2.size
   have ho30 := ho3
   refine asg rfl rfl (nn (sr (mv rfl rfl ?_)))
   refine cl (ev1 rfl) co7 (racks_ok _ os _ ho3.sl hosc (by omega)) rfl ?_
   rintro _ w3 ⟨g4, rfl, ho4, q3⟩
   have z3 := q3.size
   have ho40 := ho4
   refine asg rfl rfl (nn (sr (asg rfl rfl (nn (sq (sr (asg rfl rfl (nn (bl ?_)))))))))
   refine lpK (ι := Nat) [(3, _), (4, _)] (fun i => [(5, .int .i64 (rsF 0 (os.take i))), (6, .int .i64 (i : Int))]) (fun i w' => Fr [] w3 w' ∧ i ≤ os.length) (fun i => os.length - i) 0 (.cons rfl (.cons rfl (.cons rfl (.cons rfl .nil)))) ⟨Fr.refl _ _, by omega⟩ ?_
   rintro i w4 ⟨q4, hi⟩
   have z4 := q4.size
   refine kpC [(3, _), (4, _), (5, _), (6, _)] (.cons rfl (.cons rfl (.cons rfl (.cons rfl .nil)))) ?_
   have hrs := rs_in hosc i
   refine sq (sr (mv rfl rfl (mv rfl rfl (lnS rfl Tryz.underlying25 rfl (lt' rfl rfl rfl (nn ?_))))))
   refine cd rfl (fun c1 => ?_) (fun c1 => ?_)
   · have hrkg := rkL_get (os := os) (show i < os.length by omega)
     have hrg := chk_rng (hoc i (by omega))
     have hrr := hri i (by omega)
     refine sk (tn (sq (bl (sr (mv rfl rfl (mv rfl rfl ?_))))))
     replace ho3 := ho30.ext (q3.next q4)
     refine s_idxL (p := i) (op0) rfl ho3.sl rfl el25 (by omega) (by omega) (by omega) rfl (fun ad30 hc30 => ?_)
     refine fad rfl fa41_0 rfl (s_loadC rfl (hc30 _ ho3.sl) rfl na35 rfl (eq' rfl rfl rfl (kpL [(3, _), (4, _), (5, _), (6, _), (33, _)] (.cons rfl (.cons rfl (.cons rfl (.cons rfl (.cons rfl .nil))))) (nn ?_))))
     refine cd rfl (fun c2 => ?_) (fun c2 => ?_)
     · refine jn (ι := Unit) [(3, _), (4, _), (5, _), (6, _)] (fun _j => [(7, .int .i64 ((os.getD i op0).r - (rackF 0 (os.take i))))]) (fun _j w' => Fr [] w4 w') (.cons rfl (.cons rfl (.cons rfl (.cons rfl .nil)))) ?_ ?_
       · replace ho4 := ho40.ext q4
         intro a h
         have qh10 := Fr.refl [] w4
         refine region_held (fun wb w' => Fr [] wb w') hmix ?_; intro w5 hq
         have z5 := hq.size
         replace ho3 := ho3.ext hq
         replace ho4 := ho4.ext hq
         replace qh10 := qh10.next hq
         have hsz := hq.size; clear hq; have hC : Fr [] w5 w5 := Fr.refl _ _
         have ho3_b := ho3
         have ho4_b := ho4
         refine hd_move 0 (by kernel_rfl) (by kernel_rfl) (by kernel_rfl) hC h wn rfl rfl rfl ?_; clear h a; intro a h
         refine hd_move 1 (by kernel_rfl) (by kernel_rfl) (by kernel_rfl) hC h wn rfl rfl rfl ?_; clear h a; intro a h
         refine hd_idxL (p := i) (op0) 2 (by kernel_rfl) (by kernel_rfl) (by kernel_rfl) hC h wn rfl ho3.sl rfl el25 (by omega) (by omega) (by omega) rfl rfl ?_; clear h a; intro ad36 hc36 a h
         refine hd_fieldAddr 3 (by kernel_rfl) (by kernel_rfl) (by kernel_rfl) hC h wn rfl fa41_4 rfl rfl ?_; clear h a; intro a h
         refine hd_loadC 4 (by kernel_rfl) (by kernel_rfl) (by kernel_rfl) hC h wn rfl (fun _ hw => hc36 _ (ho3_b.sl.ext hw)) rfl na3 rfl rfl ?_; clear h a; intro a h
         refine hd_move 5 (by kernel_rfl) (by kernel_rfl) (by kernel_rfl) hC h wn rfl rfl rfl ?_; clear h a; intro a h
         refine hd_move 6 (by kernel_rfl) (by kernel_rfl) (by kernel_rfl) hC h wn rfl rfl rfl ?_; clear h a; intro a h
         refine hd_idxL (p := i) (0) 7 (by kernel_rfl) (by kernel_rfl) (by kernel_rfl) hC h wn rfl ho4.sl rfl el27 (by omega) (by omega) (by omega) rfl rfl ?_; clear h a; intro ad41 hc41 a h
         refine hd_loadC0 8 (by kernel_rfl) (by kernel_rfl) (by kernel_rfl) hC h wn rfl (fun _ hw => hc41 _ (ho4_b.sl.ext hw)) na3 rfl rfl ?_; clear h a; intro a h
         refine hd_sub 9 (by kernel_rfl) (by kernel_rfl) (by kernel_rfl) hC h wn rfl rfl (by first | exact IntWalk.i64_in _ (by omega) | rfl) rfl rfl ?_; clear h a; intro a h
         refine hd_one 10 (by kernel_rfl) rfl ?_
         refine st_assign h rfl rfl ?_; clear h a; intro a h
         refine hd_next hC ?_
         refine hd_end (by kernel_rfl) ?_
         clear hC ho3_b ho4_b
         have z5 := qh10.size
         refine bk (h.sub (L' := [(3, _), (4, _), (5, _), (6, _), (7, _)]) (.cons rfl (.cons rfl (.cons rfl (.cons rfl (.cons rfl .nil)))))) ?_; clear h a
         exact jE (()) (.cons rfl (.cons rfl (.cons rfl (.cons rfl (.cons (congrArg (fun z => some (Value.int .i64 ((os.getD i op0).r - z))) (rkL_get (by omega))) .nil))))) qh10
       · rintro _j w6 q6
         have z6 := q6.size
         refine kpC [(3, _), (4, _), (5, _), (6, _), (7, _)] (.cons rfl (.cons rfl (.cons rfl (.cons rfl (.cons rfl .nil))))) ?_
         refine jn (ι := Unit) [(3, _), (4, _), (5, _), (6, _)] (fun _j => [(7, .int .i64 (max ((os.getD i op0).r - (rackF 0 (os.take i))) ((rackF 0 (os.take i)) - (os.getD i op0).r)))]) (fun _j w' => Fr [] w6 w') (.cons rfl (.cons rfl (.cons rfl (.cons rfl .nil)))) ?_ ?_
         · refine sr (mv rfl rfl (lt' rfl rfl rfl (nn ?_)))
           refine cd rfl (fun c3 => ?_) (fun c3 => ?_)
           · refine rg (mv rfl rfl (s_neg rfl (wi6 (by omega)) rfl (asg rfl rfl (nl ?_))))
             exact jE (()) (.cons rfl (.cons rfl (.cons rfl (.cons rfl (.cons (congrArg (fun z => some (Value.int .i64 z)) (by omega)) .nil))))) (Fr.refl _ _)
           · refine sk ?_
             exact jE (()) (.cons rfl (.cons rfl (.cons rfl (.cons rfl (.cons (congrArg (fun z => some (Value.int .i64 z)) (by omega)) .nil))))) (Fr.refl _ _)
         · rintro _j w7 q7
           have z7 := q7.size
           refine kpC [(3, _), (4, _), (5, _), (6, _), (7, _)] (.cons rfl (.cons rfl (.cons rfl (.cons rfl (.cons rfl .nil))))) ?_
           refine rg (mv rfl rfl (mv rfl rfl (s_mul rfl rfl (wi6 (by omega)) rfl (s_add rfl rfl (wi6 (by omega)) rfl (asg rfl rfl (nl (bn' (tn (rg (mv rfl rfl (s_add rfl rfl (wi6 (by omega)) rfl ?_)))))))))))
           refine asg rfl rfl (nl ?_)
           exact lpE (i + 1) (.cons rfl (.cons rfl (.cons (congrArg (fun z => some (Value.int .i64 z)) (by rw [rs_step (by omega)]; first | (rw [if_pos c2]) | (rw [if_neg c2, Int.add_zero]))) (.cons rfl .nil)))) ⟨((q4.next q6).next q7), by omega⟩ (by omega)
     · refine sk (bn' (tn (rg (mv rfl rfl (s_add rfl rfl (wi6 (by omega)) rfl (asg rfl rfl (nl ?_)))))))
       exact lpE (i + 1) (.cons rfl (.cons rfl (.cons (congrArg (fun z => some (Value.int .i64 z)) (by rw [rs_step (by omega)]; first | (rw [if_pos c2]) | (rw [if_neg c2, Int.add_zero]))) (.cons rfl .nil)))) ⟨q4, by omega⟩ (by omega)
   · obtain rfl : i = os.length := by omega
     rw [List.take_length]
     refine ex (te (te (xh (tn (sr (mv rfl rfl ?_))))))
     replace ho3 := ho30.ext (q3.next q4)
     refine cl (ev1 rfl) co8 (passes_at hps _ _ ho3.sl) rfl ?_
     rintro _ w8 ⟨A8, rfl, ho8, q8⟩
     have z8 := q8.size
     have ho80 := ho8
     refine asg rfl rfl (nn (sq (sr (asg rfl rfl (nn (bl ?_))))))
     refine lpK (ι := Nat) [(3, _), (4, _), (8, _)] (fun m => [(5, .int .i64 (rsF 0 os + spS os ((divS os).take m))), (9, .int .i64 (m : Int))]) (fun m w' => Fr [] w8 w' ∧ m ≤ (divS os).length) (fun m => (divS os).length - m) 0 (.cons rfl (.cons rfl (.cons rfl (.cons (congrArg (fun z => some (Value.int .i64 z)) (by simp [spS])) (.cons rfl .nil))))) ⟨Fr.refl _ _, by omega⟩ ?_
     rintro m w9 ⟨q9, hm⟩
     have z9 := q9.size
     refine kpC [(3, _), (4, _), (8, _), (5, _), (9, _)] (.cons rfl (.cons rfl (.cons rfl (.cons rfl (.cons rfl .nil))))) ?_
     have hsp := sp_in os ((divS os).take m)
     rw [List.length_take] at hsp
     have hrs := rs_in hosc os.length
     rw [List.take_length] at hrs
     refine sq (sr (mv rfl rfl (mv rfl rfl (lnS rfl Tryz.underlying29 rfl (lt' rfl rfl rfl (nn ?_))))))
     refine cd rfl (fun c4 => ?_) (fun c4 => ?_)
     · have hdm := divS_mem (show m < (divS os).length by omega)
       have hsl := sl2_len hdm
       refine sk (tn (sq (bl (sr (asg rfl rfl (nn (bl ?_)))))))
       refine lpK (ι := Nat) [(3, _), (4, _), (8, _), (9, _)] (fun kk => [(5, .int .i64 ((rsF 0 os + spS os ((divS os).take m)) + wnM (mmP os ((divS os).getD m (0, 0))) ((kk : Int) - 10))), (10, .int .i64 ((kk : Int) - 10))]) (fun kk w' => Fr [] w9 w' ∧ kk ≤ 70) (fun kk => 70 - kk) 0 (.cons rfl (.cons rfl (.cons rfl (.cons rfl (.cons (congrArg (fun z => some (Value.int .i64 z)) (by rw [show (((0 : Nat) : Int) - 10) = -10 from rfl, wn_lo (fun a b e => (mm_rng os ((divS os).getD m (0, 0)) a b e).1), Int.add_zero])) (.cons rfl .nil)))))) ⟨Fr.refl _ _, by omega⟩ ?_
       rintro kk w10 ⟨q10, hkk⟩
       have z10 := q10.size
       refine kpC [(3, _), (4, _), (8, _), (9, _), (5, _), (10, _)] (.cons rfl (.cons rfl (.cons rfl (.cons rfl (.cons rfl (.cons rfl .nil)))))) ?_
       have hwn := wn_in os ((divS os).getD m (0, 0)) ((kk : Int) - 10)
       refine sq (sr (mv rfl rfl (lt' rfl rfl rfl (nn ?_))))
       refine cd rfl (fun c5 => ?_) (fun c5 => ?_)
       · refine sk (tn (sq (bl (sr (asg rfl rfl (asg rfl rfl (nn (sq (sr (mv rfl rfl (mv rfl rfl ?_)))))))))))
         replace ho8 := ho80.ext (q9.next q10)
         refine s_idxL (p := m) ((0, 0)) rfl ho8.sl rfl el29 (by omega) (by omega) (by omega) rfl (fun ad66 hc66 => ?_)
         refine fad rfl fa32_0 rfl (s_loadC rfl (hc66 _ ho8.sl) rfl na3 rfl (asg rfl rfl (nn (bl ?_))))
         refine lpK (ι := Nat) [(3, _), (4, _), (5, _), (8, _), (9, _), (10, _)] (fun t => [(11, .int .i64 (lfM (mJ os ((divS os).getD m (0, 0)) t) ((kk : Int) - 10))), (12, .int .i64 (rtM (mJ os ((divS os).getD m (0, 0)) t) ((kk : Int) - 10))), (13, .int .i64 ((((divS os).getD m (0, 0)).1 + t : Nat) : Int))]) (fun t w' => Fr [] w10 w' ∧ t ≤ (sl2 os ((divS os).getD m (0, 0))).length) (fun t => (sl2 os ((divS os).getD m (0, 0))).length - t) 0 (.cons rfl (.cons rfl (.cons rfl (.cons rfl (.cons rfl (.cons rfl (.cons rfl (.cons rfl (.cons rfl .nil))))))))) ⟨Fr.refl _ _, by omega⟩ ?_
         rintro t w11 ⟨q11, ht⟩
         have z11 := q11.size
         refine kpC [(3, _), (4, _), (5, _), (8, _), (9, _), (10, _), (11, _), (12, _), (13, _)] (.cons rfl (.cons rfl (.cons rfl (.cons rfl (.cons rfl (.cons rfl (.cons rfl (.cons rfl (.cons rfl .nil))))))))) ?_
         refine sq ?_
         refine jn (ι := Unit) [(3, _), (4, _), (5, _), (8, _), (9, _), (10, _), (11, _), (12, _), (13, _)] (fun _j => [(91, .bool (decide (t < ((divS os).getD m (0, 0)).2)))]) (fun _j w' => Fr [] w11 w') (.cons rfl (.cons rfl (.cons rfl (.cons rfl (.cons rfl (.cons rfl (.cons rfl (.cons rfl (.cons rfl .nil))))))))) ?_ ?_
         · replace ho8 := ho80.ext ((q9.next q10).next q11)
           intro a h
           have qh23 := Fr.refl [] w11
           refine region_held (fun wb w' => Fr [] wb w') hmix ?_; intro w12 hq
           have z12 := hq.size
           replace ho8 := ho8.ext hq
           replace qh23 := qh23.next hq
           have hsz := hq.size; clear hq; have hC : Fr [] w12 w12 := Fr.refl _ _
           have ho8_b := ho8
           refine hd_move 0 (by kernel_rfl) (by kernel_rfl) (by kernel_rfl) hC h wn rfl rfl rfl ?_; clear h a; intro a h
           refine hd_move 1 (by kernel_rfl) (by kernel_rfl) (by kernel_rfl) hC h wn rfl rfl rfl ?_; clear h a; intro a h
           refine hd_move 2 (by kernel_rfl) (by kernel_rfl) (by kernel_rfl) hC h wn rfl rfl rfl ?_; clear h a; intro a h
           refine hd_idxL (p := m) ((0, 0)) 3 (by kernel_rfl) (by kernel_rfl) (by kernel_rfl) hC h wn rfl ho8.sl rfl el29 (by omega) (by omega) (by omega) rfl rfl ?_; clear h a; intro ad72 hc72 a h
           refine hd_fieldAddr 4 (by kernel_rfl) (by kernel_rfl) (by kernel_rfl) hC h wn rfl fa32_0 rfl rfl ?_; clear h a; intro a h
           refine hd_loadC 5 (by kernel_rfl) (by kernel_rfl) (by kernel_rfl) hC h wn rfl (fun _ hw => hc72 _ (ho8_b.sl.ext hw)) rfl na3 rfl rfl ?_; clear h a; intro a h
           refine hd_move 6 (by kernel_rfl) (by kernel_rfl) (by kernel_rfl) hC h wn rfl rfl rfl ?_; clear h a; intro a h
           refine hd_move 7 (by kernel_rfl) (by kernel_rfl) (by kernel_rfl) hC h wn rfl rfl rfl ?_; clear h a; intro a h
           refine hd_idxL (p := m) ((0, 0)) 8 (by kernel_rfl) (by kernel_rfl) (by kernel_rfl) hC h wn rfl ho8.sl rfl el29 (by omega) (by omega) (by omega) rfl rfl ?_; clear h a; intro ad77 hc77 a h
           refine hd_fieldAddr 9 (by kernel_rfl) (by kernel_rfl) (by kernel_rfl) hC h wn rfl fa32_1 rfl rfl ?_; clear h a; intro a h
           refine hd_loadC 10 (by kernel_rfl) (by kernel_rfl) (by kernel_rfl) hC h wn rfl (fun _ hw => hc77 _ (ho8_b.sl.ext hw)) rfl na3 rfl rfl ?_; clear h a; intro a h
           refine hd_add 11 (by kernel_rfl) (by kernel_rfl) (by kernel_rfl) hC h wn rfl rfl (by first | exact IntWalk.i64_in _ (by omega) | rfl) rfl rfl ?_; clear h a; intro a h
           refine hd_lt 12 (by kernel_rfl) (by kernel_rfl) (by kernel_rfl) hC h wn rfl rfl rfl rfl ?_; clear h a; intro a h
           refine hd_move 13 (by kernel_rfl) (by kernel_rfl) (by kernel_rfl) hC h wn rfl rfl rfl ?_; clear h a; intro a h
           first | refine guard_dec (D := 82) h rfl ?_ ?_ | refine guard_ndec (D := 82) h rfl ?_ ?_ | refine guard_any (D := 82) h rfl ?_ ?_
           · clear h; intro g0 h
             refine hd_move 14 (by kernel_rfl) (by kernel_rfl) (by kernel_rfl) hC h (wy rfl) rfl rfl rfl ?_; clear h a; intro a h
             refine hd_move 15 (by kernel_rfl) (by kernel_rfl) (by kernel_rfl) hC h (wy rfl) rfl rfl rfl ?_; clear h a; intro a h
             refine hd_lenS 16 (by kernel_rfl) (by kernel_rfl) (by kernel_rfl) hC h (wy rfl) rfl Tryz.underlying25 rfl rfl ?_; clear h a; intro a h
             refine hd_lt 17 (by kernel_rfl) (by kernel_rfl) (by kernel_rfl) hC h (wy rfl) rfl rfl rfl rfl ?_; clear h a; intro a h
             refine hd_one 18 (by kernel_rfl) rfl ?_
             refine st_pick_t h rfl rfl rfl rfl ?_; clear h a; intro a h
             refine hd_next hC ?_
             refine hd_move 19 (by kernel_rfl) (by kernel_rfl) (by kernel_rfl) hC h wn rfl rfl rfl ?_; clear h a; intro a h
             first | refine guard_dec (D := 88) h rfl ?_ ?_ | refine guard_ndec (D := 88) h rfl ?_ ?_ | refine guard_any (D := 88) h rfl ?_ ?_
             · clear h; intro g1 h
               refine hd_move 20 (by kernel_rfl) (by kernel_rfl) (by kernel_rfl) hC h (wy rfl) rfl rfl rfl ?_; clear h a; intro a h
               refine hd_ge 21 (by kernel_rfl) (by kernel_rfl) (by kernel_rfl) hC h (wy rfl) rfl rfl rfl rfl ?_; clear h a; intro a h
               refine hd_one 22 (by kernel_rfl) rfl ?_
               refine st_pick_t h rfl rfl rfl rfl ?_; clear h a; intro a h
               refine hd_next hC ?_
               refine hd_end (by kernel_rfl) ?_
               clear hC ho8_b
               have z12 := qh23.size
               refine bk (h.sub (L' := [(3, _), (4, _), (5, _), (8, _), (9, _), (10, _), (11, _), (12, _), (13, _), (91, _)]) (.cons rfl (.cons rfl (.cons rfl (.cons rfl (.cons rfl (.cons rfl (.cons rfl (.cons rfl (.cons rfl (.cons rfl .nil))))))))))) ?_; clear h a
               exact jE (()) (.cons rfl (.cons rfl (.cons rfl (.cons rfl (.cons rfl (.cons rfl (.cons rfl (.cons rfl (.cons rfl (.cons (congrArg (fun z => some (Value.bool z)) (by first | exact decide_eq_decide.2 (by omega) | exact (decide_eq_false (by omega)).symm | exact (decide_eq_true (by omega)).symm)) .nil)))))))))) qh23
             · clear h; intro g1 h
               refine hd_gn 20 (by kernel_rfl) (by kernel_rfl) (by kernel_rfl) hC h rfl rfl rfl rfl ?_; clear h a; intro a h
               refine hd_gn 21 (by kernel_rfl) (by kernel_rfl) (by kernel_rfl) hC h rfl rfl rfl rfl ?_; clear h a; intro a h
               refine hd_one 22 (by kernel_rfl) rfl ?_
               refine st_pick_f h rfl rfl rfl rfl ?_; clear h a; intro a h
               refine hd_next hC ?_
               refine hd_end (by kernel_rfl) ?_
               clear hC ho8_b
               have z12 := qh23.size
               refine bk (h.sub (L' := [(3, _), (4, _), (5, _), (8, _), (9, _), (10, _), (11, _), (12, _), (13, _), (91, _)]) (.cons rfl (.cons rfl (.cons rfl (.cons rfl (.cons rfl (.cons rfl (.cons rfl (.cons rfl (.cons rfl (.cons rfl .nil))))))))))) ?_; clear h a
               exact jE (()) (.cons rfl (.cons rfl (.cons rfl (.cons rfl (.cons rfl (.cons rfl (.cons rfl (.cons rfl (.cons rfl (.cons (congrArg (fun z => some (Value.bool z)) (by first | exact decide_eq_decide.2 (by omega) | exact (decide_eq_false (by omega)).symm | exact (decide_eq_true (by omega)).symm)) .nil)))))))))) qh23
           · clear h; intro g0 h
             refine hd_gn 14 (by kernel_rfl) (by kernel_rfl) (by kernel_rfl) hC h rfl rfl rfl rfl ?_; clear h a; intro a h
             refine hd_gn 15 (by kernel_rfl) (by kernel_rfl) (by kernel_rfl) hC h rfl rfl rfl rfl ?_; clear h a; intro a h
             refine hd_gn 16 (by kernel_rfl) (by kernel_rfl) (by kernel_rfl) hC h rfl rfl rfl rfl ?_; clear h a; intro a h
             refine hd_gn 17 (by kernel_rfl) (by kernel_rfl) (by kernel_rfl) hC h rfl rfl rfl rfl ?_; clear h a; intro a h
             refine hd_one 18 (by kernel_rfl) rfl ?_
             refine st_pick_f h rfl rfl rfl rfl ?_; clear h a; intro a h
             refine hd_next hC ?_
             refine hd_move 19 (by kernel_rfl) (by kernel_rfl) (by kernel_rfl) hC h wn rfl rfl rfl ?_; clear h a; intro a h
             refine hd_gn 20 (by kernel_rfl) (by kernel_rfl) (by kernel_rfl) hC h rfl rfl rfl rfl ?_; clear h a; intro a h
             refine hd_gn 21 (by kernel_rfl) (by kernel_rfl) (by kernel_rfl) hC h rfl rfl rfl rfl ?_; clear h a; intro a h
             refine hd_one 22 (by kernel_rfl) rfl ?_
             refine st_pick_f h rfl rfl rfl rfl ?_; clear h a; intro a h
             refine hd_next hC ?_
             refine hd_end (by kernel_rfl) ?_
             clear hC ho8_b
             have z12 := qh23.size
             refine bk (h.sub (L' := [(3, _), (4, _), (5, _), (8, _), (9, _), (10, _), (11, _), (12, _), (13, _), (91, _)]) (.cons rfl (.cons rfl (.cons rfl (.cons rfl (.cons rfl (.cons rfl (.cons rfl (.cons rfl (.cons rfl (.cons rfl .nil))))))))))) ?_; clear h a
             exact jE (()) (.cons rfl (.cons rfl (.cons rfl (.cons rfl (.cons rfl (.cons rfl (.cons rfl (.cons rfl (.cons rfl (.cons (congrArg (fun z => some (Value.bool z)) (by first | exact decide_eq_decide.2 (by omega) | exact (decide_eq_false (by omega)).symm | exact (decide_eq_true (by omega)).symm)) .nil)))))))))) qh23
         · rintro _j w13 q13
           have z13 := q13.size
           refine kpC [(3, _), (4, _), (5, _), (8, _), (9, _), (10, _), (11, _), (12, _), (13, _), (91, _)] (.cons rfl (.cons rfl (.cons rfl (.cons rfl (.cons rfl (.cons rfl (.cons rfl (.cons rfl (.cons rfl (.cons rfl .nil)))))))))) ?_
           refine cd rfl (fun c6 => ?_) (fun c6 => ?_)
           · have hnd := chk_nd (hoc (((divS os).getD m (0, 0)).1 + t) (by omega))
             have hrr := hri (((divS os).getD m (0, 0)).1 + t) (by omega)
             refine sk (tn (sq (bl (sq (sr (mv rfl rfl (mv rfl rfl ?_)))))))
             replace ho3 := ho30.ext ((((((q3.next q4).next q8).next q9).next q10).next q11).next q13)
             refine s_idxL (p := ((divS os).getD m (0, 0)).1 + t) (op0) rfl ho3.sl rfl el25 (by omega) (by omega) (by omega) rfl (fun ad96 hc96 => ?_)
             refine s_loadA rfl (hc96 _ ho3.sl) ag41 rfl ?_
             refine cl (ev1 rfl) co10 (class10_ok (os.getD (((divS os).getD m (0, 0)).1 + t) op0) _) rfl ?_
             rintro _ w14 ⟨rfl, q14⟩
             have z14 := q14.size
             refine eq' rfl rfl rfl (kpL [(3, _), (4, _), (5, _), (8, _), (9, _), (10, _), (11, _), (12, _), (13, _), (99, _)] (.cons rfl (.cons rfl (.cons rfl (.cons rfl (.cons rfl (.cons rfl (.cons rfl (.cons rfl (.cons rfl (.cons rfl .nil)))))))))) (nn ?_))
             refine cd rfl (fun c7 => ?_) (fun c7 => ?_)
             · refine ex (te (xh (tn (rg (mv rfl rfl (s_add rfl rfl (wi6 (by omega)) rfl (asg rfl rfl (nl ?_))))))))
               exact lpE (t + 1) (.cons rfl (.cons rfl (.cons rfl (.cons rfl (.cons rfl (.cons rfl (.cons (congrArg (fun z => some (Value.int .i64 z)) (by first | rw [mJ_n (by omega) c7] | rw [mJ_y (by omega) c7])) (.cons (congrArg (fun z => some (Value.int .i64 z)) (by first | rw [mJ_n (by omega) c7] | (rw [mJ_y (by omega) c7, rt_step, if_pos c9]) | (rw [mJ_y (by omega) c7, rt_step, if_neg c9]))) (.cons (congrArg (fun z => some (Value.int .i64 z)) (by omega)) .nil))))))))) ⟨((q11.next q13).next q14), by omega⟩ (by omega)
             · have hpl := pos_law (hoc (((divS os).getD m (0, 0)).1 + t) (by omega)) (cls_ge c7) hrr
               refine sk (tn ?_)
               refine jn (ι := Unit) [(3, _), (4, _), (5, _), (8, _), (9, _), (10, _), (12, _), (13, _)] (fun _j => [(11, .int .i64 (lfM (some (tmx (mJ os ((divS os).getD m (0, 0)) t) (posS (os.getD (((divS os).getD m (0, 0)).1 + t) op0) (rackF 0 (os.take (((divS os).getD m (0, 0)).1 + t)))))) ((kk : Int) - 10)))]) (fun _j w' => Fr [] w14 w') (.cons rfl (.cons rfl (.cons rfl (.cons rfl (.cons rfl (.cons rfl (.cons rfl (.cons rfl .nil)))))))) ?_ ?_
               · refine jn (ι := Unit) [(3, _), (4, _), (5, _), (8, _), (9, _), (10, _), (11, _), (12, _), (13, _)] (fun _j => [(110, .bool (decide ((posS (os.getD (((divS os).getD m (0, 0)).1 + t) op0) (rackF 0 (os.take (((divS os).getD m (0, 0)).1 + t)))) ≤ ((kk : Int) - 10))))]) (fun _j w' => Fr [] w14 w') (.cons rfl (.cons rfl (.cons rfl (.cons rfl (.cons rfl (.cons rfl (.cons rfl (.cons rfl (.cons rfl .nil))))))))) ?_ ?_
                 · replace ho3 := ho30.ext (((((((q3.next q4).next q8).next q9).next q10).next q11).next q13).next q14)
                   replace ho4 := ho40.ext ((((((q4.next q8).next q9).next q10).next q11).next q13).next q14)
                   intro a h
                   have qh26 := Fr.refl [] w14
                   refine region_held (fun wb w' => Fr [] wb w') hmix ?_; intro w15 hq
                   have z15 := hq.size
                   replace ho3 := ho3.ext hq
                   replace ho4 := ho4.ext hq
                   replace qh26 := qh26.next hq
                   have hsz := hq.size; clear hq; have hC : Fr [] w15 w15 := Fr.refl _ _
                   have ho3_b := ho3
                   have ho4_b := ho4
                   refine hd_move 0 (by kernel_rfl) (by kernel_rfl) (by kernel_rfl) hC h wn rfl rfl rfl ?_; clear h a; intro a h
                   refine hd_move 1 (by kernel_rfl) (by kernel_rfl) (by kernel_rfl) hC h wn rfl rfl rfl ?_; clear h a; intro a h
                   refine hd_idxL (p := ((divS os).getD m (0, 0)).1 + t) (op0) 2 (by kernel_rfl) (by kernel_rfl) (by kernel_rfl) hC h wn rfl ho3.sl rfl el25 (by omega) (by omega) (by omega) rfl rfl ?_; clear h a; intro ad102 hc102 a h
                   refine hd_loadA 3 (by kernel_rfl) (by kernel_rfl) (by kernel_rfl) hC h wn rfl (fun _ hw => hc102 _ (ho3_b.sl.ext hw)) ag41 rfl rfl ?_; clear h a; intro a h
                   refine hd_move 4 (by kernel_rfl) (by kernel_rfl) (by kernel_rfl) hC h wn rfl rfl rfl ?_; clear h a; intro a h
                   refine hd_move 5 (by kernel_rfl) (by kernel_rfl) (by kernel_rfl) hC h wn rfl rfl rfl ?_; clear h a; intro a h
                   refine hd_idxL (p := ((divS os).getD m (0, 0)).1 + t) (0) 6 (by kernel_rfl) (by kernel_rfl) (by kernel_rfl) hC h wn rfl ho4.sl rfl el27 (by omega) (by omega) (by omega) rfl rfl ?_; clear h a; intro ad106 hc106 a h
                   refine hd_loadC0 7 (by kernel_rfl) (by kernel_rfl) (by kernel_rfl) hC h wn rfl (fun _ hw => hc106 _ (ho4_b.sl.ext hw)) na3 rfl rfl ?_; clear h a; intro a h
                   refine hd_move 9 (by kernel_rfl) (by kernel_rfl) (by kernel_rfl) hC h wn rfl rfl rfl ?_; clear h a; intro a h
                   refine hd_one 8 (by kernel_rfl) rfl ?_
                   refine st_call h (evs_cons rfl (evs_cons rfl evs_nil)) co13 (position10_ok (os.getD (((divS os).getD m (0, 0)).1 + t) op0) _ _ (by omega) (by rw [rkL_get (by omega)]; omega)) rfl ?_; clear h a; rintro _ w16 ⟨rfl, hq⟩ a h
                   have z16 := hq.size
                   replace ho3 := ho3.ext hq
                   replace ho4 := ho4.ext hq
                   replace qh26 := qh26.next hq
                   replace hC := hC.next hq
                   clear hq
                   refine hd_next hC ?_
                   refine hd_le 10 (by kernel_rfl) (by kernel_rfl) (by kernel_rfl) hC h wn rfl rfl rfl rfl ?_; clear h a; intro a h
                   refine hd_end (by kernel_rfl) ?_
                   clear hC ho3_b ho4_b
                   have z16 := qh26.size
                   refine bk (h.sub (L' := [(3, _), (4, _), (5, _), (8, _), (9, _), (10, _), (11, _), (12, _), (13, _), (110, _)]) (.cons rfl (.cons rfl (.cons rfl (.cons rfl (.cons rfl (.cons rfl (.cons rfl (.cons rfl (.cons rfl (.cons rfl .nil))))))))))) ?_; clear h a
                   exact jE (()) (.cons rfl (.cons rfl (.cons rfl (.cons rfl (.cons rfl (.cons rfl (.cons rfl (.cons rfl (.cons rfl (.cons (congrArg (fun z => some (Value.bool z)) (by rw [hpl]; exact decide_eq_decide.2 (by rw [rkL_get (by omega)]))) .nil)))))))))) qh26
                 · rintro _j w17 q17
                   have z17 := q17.size
                   refine kpC [(3, _), (4, _), (5, _), (8, _), (9, _), (10, _), (11, _), (12, _), (13, _), (110, _)] (.cons rfl (.cons rfl (.cons rfl (.cons rfl (.cons rfl (.cons rfl (.cons rfl (.cons rfl (.cons rfl (.cons rfl .nil)))))))))) ?_
                   refine cd rfl (fun c8 => ?_) (fun c8 => ?_)
                   · refine rg (asg rfl rfl (nl ?_))
                     exact jE (()) (.cons rfl (.cons rfl (.cons rfl (.cons rfl (.cons rfl (.cons rfl (.cons rfl (.cons rfl (.cons (congrArg (fun z => some (Value.int .i64 z)) (by rw [lf_step]; first | rw [if_pos c8] | rw [if_neg c8])) .nil))))))))) q17
                   · refine sk ?_
                     exact jE (()) (.cons rfl (.cons rfl (.cons rfl (.cons rfl (.cons rfl (.cons rfl (.cons rfl (.cons rfl (.cons (congrArg (fun z => some (Value.int .i64 z)) (by rw [lf_step]; first | rw [if_pos c8] | rw [if_neg c8])) .nil))))))))) q17
               · rintro _j w18 q18
                 have z18 := q18.size
                 refine kpC [(3, _), (4, _), (5, _), (8, _), (9, _), (10, _), (12, _), (13, _), (11, _)] (.cons rfl (.cons rfl (.cons rfl (.cons rfl (.cons rfl (.cons rfl (.cons rfl (.cons rfl (.cons rfl .nil))))))))) ?_
                 refine jn (ι := Unit) [(3, _), (4, _), (5, _), (8, _), (9, _), (10, _), (11, _), (12, _), (13, _)] (fun _j => [(121, .bool (decide (((kk : Int) - 10) ≤ (posS (os.getD (((divS os).getD m (0, 0)).1 + t) op0) (rackF 0 (os.take (((divS os).getD m (0, 0)).1 + t)))))))]) (fun _j w' => Fr [] w18 w') (.cons rfl (.cons rfl (.cons rfl (.cons rfl (.cons rfl (.cons rfl (.cons rfl (.cons rfl (.cons rfl .nil))))))))) ?_ ?_
                 · replace ho3 := ho30.ext ((((((((q3.next q4).next q8).next q9).next q10).next q11).next q13).next q14).next q18)
                   replace ho4 := ho40.ext (((((((q4.next q8).next q9).next q10).next q11).next q13).next q14).next q18)
                   intro a h
                   have qh28 := Fr.refl [] w18
                   refine region_held (fun wb w' => Fr [] wb w') hmix ?_; intro w19 hq
                   have z19 := hq.size
                   replace ho3 := ho3.ext hq
                   replace ho4 := ho4.ext hq
                   replace qh28 := qh28.next hq
                   have hsz := hq.size; clear hq; have hC : Fr [] w19 w19 := Fr.refl _ _
                   have ho3_b := ho3
                   have ho4_b := ho4
                   refine hd_move 0 (by kernel_rfl) (by kernel_rfl) (by kernel_rfl) hC h wn rfl rfl rfl ?_; clear h a; intro a h
                   refine hd_move 1 (by kernel_rfl) (by kernel_rfl) (by kernel_rfl) hC h wn rfl rfl rfl ?_; clear h a; intro a h
                   refine hd_idxL (p := ((divS os).getD m (0, 0)).1 + t) (op0) 2 (by kernel_rfl) (by kernel_rfl) (by kernel_rfl) hC h wn rfl ho3.sl rfl el25 (by omega) (by omega) (by omega) rfl rfl ?_; clear h a; intro ad113 hc113 a h
                   refine hd_loadA 3 (by kernel_rfl) (by kernel_rfl) (by kernel_rfl) hC h wn rfl (fun _ hw => hc113 _ (ho3_b.sl.ext hw)) ag41 rfl rfl ?_; clear h a; intro a h
                   refine hd_move 4 (by kernel_rfl) (by kernel_rfl) (by kernel_rfl) hC h wn rfl rfl rfl ?_; clear h a; intro a h
                   refine hd_move 5 (by kernel_rfl) (by kernel_rfl) (by kernel_rfl) hC h wn rfl rfl rfl ?_; clear h a; intro a h
                   refine hd_idxL (p := ((divS os).getD m (0, 0)).1 + t) (0) 6 (by kernel_rfl) (by kernel_rfl) (by kernel_rfl) hC h wn rfl ho4.sl rfl el27 (by omega) (by omega) (by omega) rfl rfl ?_; clear h a; intro ad117 hc117 a h
                   refine hd_loadC0 7 (by kernel_rfl) (by kernel_rfl) (by kernel_rfl) hC h wn rfl (fun _ hw => hc117 _ (ho4_b.sl.ext hw)) na3 rfl rfl ?_; clear h a; intro a h
                   refine hd_move 9 (by kernel_rfl) (by kernel_rfl) (by kernel_rfl) hC h wn rfl rfl rfl ?_; clear h a; intro a h
                   refine hd_one 8 (by kernel_rfl) rfl ?_
                   refine st_call h (evs_cons rfl (evs_cons rfl evs_nil)) co13 (position10_ok (os.getD (((divS os).getD m (0, 0)).1 + t) op0) _ _ (by omega) (by rw [rkL_get (by omega)]; omega)) rfl ?_; clear h a; rintro _ w20 ⟨rfl, hq⟩ a h
                   have z20 := hq.size
                   replace ho3 := ho3.ext hq
                   replace ho4 := ho4.ext hq
                   replace qh28 := qh28.next hq
                   replace hC := hC.next hq
                   clear hq
                   refine hd_next hC ?_
                   refine hd_ge 10 (by kernel_rfl) (by kernel_rfl) (by kernel_rfl) hC h wn rfl rfl rfl rfl ?_; clear h a; intro a h
                   refine hd_end (by kernel_rfl) ?_
                   clear hC ho3_b ho4_b
                   have z20 := qh28.size
                   refine bk (h.sub (L' := [(3, _), (4, _), (5, _), (8, _), (9, _), (10, _), (11, _), (12, _), (13, _), (121, _)]) (.cons rfl (.cons rfl (.cons rfl (.cons rfl (.cons rfl (.cons rfl (.cons rfl (.cons rfl (.cons rfl (.cons rfl .nil))))))))))) ?_; clear h a
                   exact jE (()) (.cons rfl (.cons rfl (.cons rfl (.cons rfl (.cons rfl (.cons rfl (.cons rfl (.cons rfl (.cons rfl (.cons (congrArg (fun z => some (Value.bool z)) (by rw [hpl]; exact decide_eq_decide.2 (by rw [rkL_get (by omega)]))) .nil)))))))))) qh28
                 · rintro _j w21 q21
                   have z21 := q21.size
                   refine kpC [(3, _), (4, _), (5, _), (8, _), (9, _), (10, _), (11, _), (12, _), (13, _), (121, _)] (.cons rfl (.cons rfl (.cons rfl (.cons rfl (.cons rfl (.cons rfl (.cons rfl (.cons rfl (.cons rfl (.cons rfl .nil)))))))))) ?_
                   refine cd rfl (fun c9 => ?_) (fun c9 => ?_)
                   · refine rg (asg rfl rfl (nl (bn' (tn (rg (mv rfl rfl (s_add rfl rfl (wi6 (by omega)) rfl (asg rfl rfl (nl ?_)))))))))
                     exact lpE (t + 1) (.cons rfl (.cons rfl (.cons rfl (.cons rfl (.cons rfl (.cons rfl (.cons (congrArg (fun z => some (Value.int .i64 z)) (by first | rw [mJ_n (by omega) c7] | rw [mJ_y (by omega) c7])) (.cons (congrArg (fun z => some (Value.int .i64 z)) (by first | rw [mJ_n (by omega) c7] | (rw [mJ_y (by omega) c7, rt_step, if_pos c9]) | (rw [mJ_y (by omega) c7, rt_step, if_neg c9]))) (.cons (congrArg (fun z => some (Value.int .i64 z)) (by omega)) .nil))))))))) ⟨((((q11.next q13).next q14).next q18).next q21), by omega⟩ (by omega)
                   · refine sk (bn' (tn (rg (mv rfl rfl (s_add rfl rfl (wi6 (by omega)) rfl (asg rfl rfl (nl ?_)))))))
                     exact lpE (t + 1) (.cons rfl (.cons rfl (.cons rfl (.cons rfl (.cons rfl (.cons rfl (.cons (congrArg (fun z => some (Value.int .i64 z)) (by first | rw [mJ_n (by omega) c7] | rw [mJ_y (by omega) c7])) (.cons (congrArg (fun z => some (Value.int .i64 z)) (by first | rw [mJ_n (by omega) c7] | (rw [mJ_y (by omega) c7, rt_step, if_pos c9]) | (rw [mJ_y (by omega) c7, rt_step, if_neg c9]))) (.cons (congrArg (fun z => some (Value.int .i64 z)) (by omega)) .nil))))))))) ⟨((((q11.next q13).next q14).next q18).next q21), by omega⟩ (by omega)
           · obtain rfl : t = (sl2 os ((divS os).getD m (0, 0))).length := by omega
             rw [mJ_all]
             have hmu := lfrt_mul (mmP os ((divS os).getD m (0, 0))) ((kk : Int) - 10)
             refine ex (te (te (xh (tn (rg (mv rfl rfl (mv rfl rfl (mv rfl rfl (s_mul rfl rfl (wi6 (by omega)) rfl (s_add rfl rfl (wi6 (by omega)) rfl (asg rfl rfl ?_)))))))))))
             refine kpL [(3, _), (4, _), (5, _), (8, _), (9, _), (10, _)] (.cons rfl (.cons rfl (.cons rfl (.cons rfl (.cons rfl (.cons rfl .nil)))))) (nl (bn' (tn (rg (mv rfl rfl (s_add rfl rfl (wi6 (by omega)) rfl (asg rfl rfl (nl ?_))))))))
             exact lpE (kk + 1) (.cons rfl (.cons rfl (.cons rfl (.cons rfl (.cons (congrArg (fun z => some (Value.int .i64 z)) (by rw [show (((kk + 1 : Nat) : Int) - 10) = ((kk : Int) - 10) + 1 by omega, wn_step (fun a b e => (mm_rng os ((divS os).getD m (0, 0)) a b e).2.1), Int.add_assoc])) (.cons (congrArg (fun z => some (Value.int .i64 z)) (by omega)) .nil)))))) ⟨((q10.next q11).next q13), by omega⟩ (by omega)
       · obtain rfl : kk = 70 := by omega
         refine ex (te (te (xh (bn' (tn (rg (mv rfl rfl (s_add rfl rfl (wi6 (by omega)) rfl (asg rfl rfl (nl ?_))))))))))
         exact lpE (m + 1) (.cons rfl (.cons rfl (.cons rfl (.cons (congrArg (fun z => some (Value.int .i64 z)) (by rw [sp_step (by omega), ← wn_hi (fun a b e => (mm_rng os ((divS os).getD m (0, 0)) a b e).2), Int.add_assoc]; rfl)) (.cons rfl .nil))))) ⟨(q9.next q10), by omega⟩ (by omega)
     · obtain rfl : m = (divS os).length := by omega
       rw [List.take_length]
       rw [List.take_length] at hsp
       refine ex (te (te (xh (tn (sq ?_)))))
       refine rboF (r := 2) (L' := []) (True) .nil ?_ ?_
       · refine mv rfl rfl ?_
         replace ho3 := ho30.ext (((q3.next q4).next q8).next q9)
         refine cl (ev1 rfl) co14 (time_ok _ os _ ho3.sl) rfl ?_
         rintro _ w22 ⟨rfl, q22⟩
         have z22 := q22.size
         refine mv rfl rfl (mv rfl rfl ?_)
         replace ho3 := ho30.ext ((((q3.next q4).next q8).next q9).next q22)
         refine cl (ev1 rfl) co11 (count_ok _ os _ ho3.sl) rfl ?_
         rintro _ w23 ⟨rfl, q23⟩
         have z23 := q23.size
         refine s_add rfl rfl (wi6 (by omega)) rfl (eq' rfl rfl rfl (mv rfl rfl ?_))
         refine gs 134 rfl (fun g2 => ?_) (fun hh => absurd (by omega) hh)
         refine gY rfl (mv rfl rfl (gY rfl ?_))
         replace ho3 := ho30.ext (((((q3.next q4).next q8).next q9).next q22).next q23)
         refine cl (ev1 rfl) co14 (time_ok _ os _ ho3.sl) rfl ?_
         rintro _ w24 ⟨rfl, q24⟩
         have z24 := q24.size
         refine gY rfl (mv rfl rfl (gY rfl ?_))
         replace ho3 := ho30.ext ((((((q3.next q4).next q8).next q9).next q22).next q23).next q24)
         refine cl (ev1 rfl) co11 (count_ok _ os _ ho3.sl) rfl ?_
         rintro _ w25 ⟨rfl, q25⟩
         have z25 := q25.size
         refine gY rfl (s_mul rfl rfl (wi6 (by omega)) rfl (gY rfl (ge' rfl rfl rfl (pkt rfl rfl rfl rfl (mv rfl rfl ?_)))))
         refine gs 142 rfl (fun g3 => ?_) (fun hh => absurd (by omega) hh)
         refine gY rfl ?_
         replace hG := hG0.ext ((((((((q2.next q3).next q4).next q8).next q9).next q22).next q23).next q24).next q25)
         refine cl evs_nil co5 (lives10_ok _ hG) rfl ?_
         rintro _ w26 ⟨rfl, q26⟩
         have z26 := q26.size
         exact pkt rfl rfl rfl rfl (asg rfl rfl (rbeF rfl (by rfl) .nil ((((q22.next q23).next q24).next q25).next q26)))
       · intro w27 q27; have z27 := q27.size
         refine tn (rt (r1 Tryz.results4 rfl ?_))
         exact ⟨_, rfl, by first | rfl | simp, (((((q2.next q3).next q4).next q8).next q9).next q27)⟩
end Go.Proofs.YtbalocjcbmkecaaGreatDoor
