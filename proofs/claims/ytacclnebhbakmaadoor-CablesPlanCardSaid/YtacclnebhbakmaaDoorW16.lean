/- Walks. -/
import Derived.Test.YtacclnebhbakmaaDoorRows
import Derived.Test.YtacclnebhbakmaaDoorW15
import Derived.Test.YtacclnebhbakmaaDoorXOp
import Derived.Test.YtacclnebhbakmaaDoorXMap
import Derived.Test.YtacclnebhbakmaaDoorXWord
set_option linter.unusedVariables false
set_option linter.unusedSimpArgs false
namespace Go.Proofs.YtacclnebhbakmaaDoor
open Go.Lw
theorem co25 : CallOf Tryd.prog 25 := CallOf.mk' Tryd.func25 (by kernel_rfl) (by kernel_rfl)
set_option maxHeartbeats 2000000 in
theorem word_ok (v : Value) (l : List Int) (i a b : Int) (front : Bool) (w0 : World) (hs : Sl Enc.i64 w0 v l) (hl : l.length ≤ 100) : Rets Tryd.prog 12 #[v, .int .i64 i, .int .i64 a, .int .i64 b, .bool front] w0 fun r w' => ∃ vw, r = .tuple #[vw, .int .i64 (errW l i a b)] ∧ Lw.Own Enc.i64 3 w0.heap.size w' vw (wordC l i a b front) ∧ Fr [] w0 w' := by
 obtain ⟨A, c, rfl, hcc, hM, hA⟩ := id hs
 clear hA
 refine we [(0, .slice A l.length c), (1, .int .i64 i), (2, .int .i64 a), (3, .int .i64 b), (4, .bool front)] Tryd.func12 rfl Tryd.ntmps12 rfl (.cons rfl (.cons rfl (.cons rfl (.cons rfl (.cons rfl .nil))))) ?_
 have hs0 := hs
 refine sr (asg rfl rfl (asg rfl rfl (nn (sq (sr (mv rfl rfl (lnS rfl Tryd.underlying26 rfl (mv rfl rfl (nn (bl ?_))))))))))
 refine lpK (ι := Nat) [(0, _), (1, _), (2, _), (3, _), (4, _), (23, _), (24, _)] (fun i_ => [(25, .int .i64 (i_ : Int))]) (fun i_ w' => Fr [] w0 w' ∧ i_ ≤ l.length ∧ ∀ j, j < i_ → 1 ≤ l.getD j 0 ∧ l.getD j 0 ≤ 4) (fun i_ => l.length - i_) 0 (.cons rfl (.cons rfl (.cons rfl (.cons rfl (.cons rfl (.cons rfl (.cons rfl (.cons rfl .nil)))))))) ⟨Fr.refl _ _, ⟨Nat.zero_le _, fun j hj => absurd hj (Nat.not_lt_zero j)⟩⟩ ?_
 rintro i_ w1 ⟨q1, ⟨hi_, hlo_⟩⟩
 have z1 := q1.size
 refine kpC [(0, _), (1, _), (2, _), (3, _), (4, _), (23, _), (24, _), (25, _)] (.cons rfl (.cons rfl (.cons rfl (.cons rfl (.cons rfl (.cons rfl (.cons rfl (.cons rfl .nil)))))))) ?_
 refine sr (lt' rfl rfl rfl (nn (sq ?_)))
 refine cd rfl (fun c0 => ?_) (fun c0 => ?_)
 · refine sk (tn (sq (bl (sr ?_))))
   replace hs := hs0.ext q1
   refine s_idxL (p := i_) (0) rfl hs rfl el26 (by omega) (by omega) (by omega) rfl (fun ad27 hc27 => ?_)
   refine s_loadC0 rfl (hc27 _ hs) na3 rfl (asg rfl rfl (nn (sq ?_)))
   refine rbo (r := 34) (L' := [(0, _), (1, _), (2, _), (3, _), (4, _), (23, _), (24, _), (25, _)]) ((((l.getD i_ 0) < 1) ∨ (4 < (l.getD i_ 0)))) (.cons rfl (.cons rfl (.cons rfl (.cons rfl (.cons rfl (.cons rfl (.cons rfl (.cons rfl .nil)))))))) ?_ ?_
   · refine mv rfl rfl (lt' rfl rfl rfl (mv rfl rfl ?_))
     refine gs 31 rfl (fun g0 => ?_) (fun g0 => ?_)
     · exact gN rfl rfl rfl (gN rfl rfl rfl (pkt rfl rfl rfl rfl (rbe rfl (by first | exact bt (by omega) | exact bf (by omega) | exact bi (by omega) | exact bn (by omega) | (simp_all; done) | (simp_all; omega)) (.cons rfl (.cons rfl (.cons rfl (.cons rfl (.cons rfl (.cons rfl (.cons rfl (.cons rfl .nil)))))))))))
     · exact gY rfl (mv rfl rfl (gY rfl (gt' rfl rfl rfl (pkf rfl rfl rfl rfl (rbe rfl (by first | exact bt (by omega) | exact bf (by omega) | exact bi (by omega) | exact bn (by omega) | (simp_all; done) | (simp_all; omega)) (.cons rfl (.cons rfl (.cons rfl (.cons rfl (.cons rfl (.cons rfl (.cons rfl (.cons rfl .nil)))))))))))))
   · refine tn ?_
     refine cd rfl (fun c1 => ?_) (fun c1 => ?_)
     · have hna : ¬ loopsOk l := fun h => by have := h i_ (by omega); omega
       have hE := errW_1 (i := i) (a := a) (b := b) hna
       have hS : wordC l i a b front = [] := wordC_err (by rw [hE]; decide)
       refine sr (asg rfl rfl (asg rfl rfl (kpL [(10, _), (11, _)] (.cons rfl (.cons rfl .nil)) (nn (rt (rb (tr (tr (rb (tr (r2 Tryd.results12 rfl rfl ?_)))))))))))
       exact ⟨_, rfl, .slice none 0 0, by first | (rw [hE]; done) | (rw [hE, if_neg hnz]), by rw [hS]; exact Own.nil _, q1⟩
     · refine sk (bn' (tn (rg (s_add rfl rfl (wi6 (by omega)) rfl (mv rfl rfl (nl ?_))))))
       exact lpE (i_ + 1) (.cons rfl (.cons rfl (.cons rfl (.cons rfl (.cons rfl (.cons rfl (.cons rfl (.cons rfl .nil)))))))) ⟨q1, ⟨by omega, fun j hj => by
         rcases Nat.lt_or_ge j i_ with h | h
         · exact hlo_ j h
         · have e : j = i_ := by omega
           subst e; omega⟩⟩ (by omega)
 · obtain rfl : i_ = l.length := by omega
   have hlo : loopsOk l := hlo_
   refine ex (te (te (xh (tn (sq (sr (mv rfl rfl (mv rfl rfl ?_))))))))
   refine cl (ev2 rfl rfl) co15 (sizes_ok a b _) rfl ?_
   rintro _ w2 ⟨rfl, q2⟩
   have z2 := q2.size
   refine asg rfl rfl (kpL [(0, _), (1, _), (2, _), (3, _), (4, _), (14, _)] (.cons rfl (.cons rfl (.cons rfl (.cons rfl (.cons rfl (.cons rfl .nil)))))) (nn (sr (mv rfl rfl (ne' rfl rfl rfl (nn ?_))))))
   refine cd rfl (fun c2 => ?_) (fun c2 => ?_)
   · have hnz : ¬ szOk a b := fun h => c2 (if_pos h)
     have hE := errW_2 (i := i) hlo hnz
     have hS : wordC l i a b front = [] := wordC_err (by rw [hE]; decide)
     refine sr (mv rfl rfl (asg rfl rfl (asg rfl rfl (kpL [(10, _), (11, _)] (.cons rfl (.cons rfl .nil)) (nn (rt (tr (r2 Tryd.results12 rfl rfl ?_))))))))
     exact ⟨_, rfl, .slice none 0 0, by first | (rw [hE]; done) | (rw [hE, if_neg hnz]), by rw [hS]; exact Own.nil _, (q1.next q2)⟩
   · have hsz : szOk a b := by
       by_cases h : szOk a b
       · exact h
       · exact absurd (by rw [if_neg h]; decide) c2
     obtain ⟨hz1, hz2, hz3, hz4, hz5⟩ := id hsz
     refine sk (tn (sq (sq ?_)))
     refine rbo (r := 53) (L' := [(0, _), (1, _), (2, _), (3, _), (4, _)]) (((i < 0) ∨ ((((l.length : Int) - a) - b) < i))) (.cons rfl (.cons rfl (.cons rfl (.cons rfl (.cons rfl .nil))))) ?_ ?_
     · refine mv rfl rfl (lt' rfl rfl rfl (mv rfl rfl ?_))
       refine gs 44 rfl (fun g1 => ?_) (fun g1 => ?_)
       · exact gN rfl rfl rfl (gN rfl rfl rfl (gN rfl rfl rfl (gN rfl rfl rfl (gN rfl rfl rfl (gN rfl rfl rfl (gN rfl rfl rfl (gN rfl rfl rfl (pkt rfl rfl rfl rfl (rbe rfl (by first | exact bt (by omega) | exact bf (by omega) | exact bi (by omega) | exact bn (by omega) | (simp_all; done) | (simp_all; omega)) (.cons rfl (.cons rfl (.cons rfl (.cons rfl (.cons rfl .nil))))))))))))))
       · refine gY rfl (mv rfl rfl (gY rfl (mv rfl rfl (gY rfl (lnS rfl Tryd.underlying26 rfl (gY rfl (mv rfl rfl (gY rfl (s_sub rfl rfl (wi6 (by omega)) rfl (gY rfl (mv rfl rfl ?_)))))))))))
         exact gY rfl (s_sub rfl rfl (wi6 (by omega)) rfl (gY rfl (gt' rfl rfl rfl (pkf rfl rfl rfl rfl (rbe rfl (by first | exact bt (by omega) | exact bf (by omega) | exact bi (by omega) | exact bn (by omega) | (simp_all; done) | (simp_all; omega)) (.cons rfl (.cons rfl (.cons rfl (.cons rfl (.cons rfl .nil))))))))))
     · refine tn ?_
       refine cd rfl (fun c3 => ?_) (fun c3 => ?_)
       · have hE := errW_3 hlo hsz c3
         have hS : wordC l i a b front = [] := wordC_err (by rw [hE]; decide)
         refine sr (asg rfl rfl (asg rfl rfl (kpL [(10, _), (11, _)] (.cons rfl (.cons rfl .nil)) (nn (rt (tr (r2 Tryd.results12 rfl rfl ?_)))))))
         exact ⟨_, rfl, .slice none 0 0, by first | (rw [hE]; done) | (rw [hE, if_neg hnz]), by rw [hS]; exact Own.nil _, (q1.next q2)⟩
       · obtain ⟨i', rfl⟩ := Int.eq_ofNat_of_zero_le (show 0 ≤ i by omega)
         obtain ⟨a', rfl⟩ := Int.eq_ofNat_of_zero_le (show 0 ≤ a by omega)
         obtain ⟨b', rfl⟩ := Int.eq_ofNat_of_zero_le (show 0 ≤ b by omega)
         have hE := errW_4 hlo hsz c3
         have hS : wordC l (i' : Int) (a' : Int) (b' : Int) front = wordCN l i' a' b' front := if_pos hE
         obtain ⟨B0, hB0, hB1, hB2⟩ := sum_nat hlo (l' := (l.take i')) (fun z hz => List.mem_of_mem_take hz) (by rw [List.length_take]; omega)
         obtain ⟨L, hL0, hL1, hL2⟩ := sum_nat hlo (l' := ((l.take (i' + a')).drop i')) (fun z hz => List.mem_of_mem_take (List.mem_of_mem_drop hz)) (by rw [List.length_drop, List.length_take]; omega)
         obtain ⟨R, hR0, hR1, hR2⟩ := sum_nat hlo (l' := ((l.take (i' + a' + b')).drop (i' + a'))) (fun z hz => List.mem_of_mem_take (List.mem_of_mem_drop hz)) (by rw [List.length_drop, List.length_take]; omega)
         have hLR : L * R ≤ 400 * 400 := Nat.mul_le_mul hL1 hR1
         have hLR2 : (L : Int) * (R : Int) ≤ 160000 := by rw [← Int.natCast_mul]; omega
         have hLR3 : 0 ≤ (L : Int) * (R : Int) := by rw [← Int.natCast_mul]; omega
         refine sk (tn (sr (asg rfl rfl (nn ?_))))
         refine jn (ι := Unit) [(4, _)] (fun _j => [(16, .int .i64 (B0 : Int)), (17, .int .i64 (L : Int)), (18, .int .i64 (R : Int))]) (fun _j w' => Fr [] w2 w') (.cons rfl .nil) ?_ ?_
         · replace hs := hs0.ext (q1.next q2)
           intro a h
           have qh13 := Fr.refl [] w2
           refine region_held (fun wb w' => Fr [] wb w') hmix ?_; intro w3 hq
           have z3 := hq.size
           replace hs := hs.ext hq
           replace qh13 := qh13.next hq
           have hsz := hq.size; clear hq; have hC : Fr [] w3 w3 := Fr.refl _ _
           have hs_b := hs
           refine hd_move 0 (by kernel_rfl) (by kernel_rfl) (by kernel_rfl) hC h wn rfl rfl rfl ?_; clear h a; intro a h
           refine hd_move 1 (by kernel_rfl) (by kernel_rfl) (by kernel_rfl) hC h wn rfl rfl rfl ?_; clear h a; intro a h
           refine hd_move 2 (by kernel_rfl) (by kernel_rfl) (by kernel_rfl) hC h wn rfl rfl rfl ?_; clear h a; intro a h
           refine hd_sl_h (p := i') 3 (by kernel_rfl) (by kernel_rfl) (by kernel_rfl) hC h wn rfl rfl el26 (by omega) (by omega) (by omega) rfl rfl ?_; clear h a; intro a h
           refine hd_move 5 (by kernel_rfl) (by kernel_rfl) (by kernel_rfl) hC h wn rfl rfl rfl ?_; clear h a; intro a h
           refine hd_move 6 (by kernel_rfl) (by kernel_rfl) (by kernel_rfl) hC h wn rfl rfl rfl ?_; clear h a; intro a h
           refine hd_move 7 (by kernel_rfl) (by kernel_rfl) (by kernel_rfl) hC h wn rfl rfl rfl ?_; clear h a; intro a h
           refine hd_move 8 (by kernel_rfl) (by kernel_rfl) (by kernel_rfl) hC h wn rfl rfl rfl ?_; clear h a; intro a h
           refine hd_move 9 (by kernel_rfl) (by kernel_rfl) (by kernel_rfl) hC h wn rfl rfl rfl ?_; clear h a; intro a h
           refine hd_add 10 (by kernel_rfl) (by kernel_rfl) (by kernel_rfl) hC h wn rfl rfl (by first | exact IntWalk.i64_in _ (by omega) | rfl) rfl rfl ?_; clear h a; intro a h
           refine hd_sl_lh (p := i') (p' := (i' + a')) 11 (by kernel_rfl) (by kernel_rfl) (by kernel_rfl) hC h wn rfl rfl rfl el26 (by omega) (by omega) (by omega) (by omega) (by omega) rfl rfl ?_; clear h a; intro a h
           refine hd_move 13 (by kernel_rfl) (by kernel_rfl) (by kernel_rfl) hC h wn rfl rfl rfl ?_; clear h a; intro a h
           refine hd_move 14 (by kernel_rfl) (by kernel_rfl) (by kernel_rfl) hC h wn rfl rfl rfl ?_; clear h a; intro a h
           refine hd_move 15 (by kernel_rfl) (by kernel_rfl) (by kernel_rfl) hC h wn rfl rfl rfl ?_; clear h a; intro a h
           refine hd_move 16 (by kernel_rfl) (by kernel_rfl) (by kernel_rfl) hC h wn rfl rfl rfl ?_; clear h a; intro a h
           refine hd_add 17 (by kernel_rfl) (by kernel_rfl) (by kernel_rfl) hC h wn rfl rfl (by first | exact IntWalk.i64_in _ (by omega) | rfl) rfl rfl ?_; clear h a; intro a h
           refine hd_move 18 (by kernel_rfl) (by kernel_rfl) (by kernel_rfl) hC h wn rfl rfl rfl ?_; clear h a; intro a h
           refine hd_move 19 (by kernel_rfl) (by kernel_rfl) (by kernel_rfl) hC h wn rfl rfl rfl ?_; clear h a; intro a h
           refine hd_add 20 (by kernel_rfl) (by kernel_rfl) (by kernel_rfl) hC h wn rfl rfl (by first | exact IntWalk.i64_in _ (by omega) | rfl) rfl rfl ?_; clear h a; intro a h
           refine hd_move 21 (by kernel_rfl) (by kernel_rfl) (by kernel_rfl) hC h wn rfl rfl rfl ?_; clear h a; intro a h
           refine hd_add 22 (by kernel_rfl) (by kernel_rfl) (by kernel_rfl) hC h wn rfl rfl (by first | exact IntWalk.i64_in _ (by omega) | rfl) rfl rfl ?_; clear h a; intro a h
           refine hd_sl_lh (p := (i' + a')) (p' := (i' + a' + b')) 23 (by kernel_rfl) (by kernel_rfl) (by kernel_rfl) hC h wn rfl rfl rfl el26 (by omega) (by omega) (by omega) (by omega) (by omega) rfl rfl ?_; clear h a; intro a h
           refine hd_one 4 (by kernel_rfl) rfl ?_
           refine st_callv (us := []) (ws := []) h rfl (evs_cons rfl evs_nil) co25 (sum_ok _ (l.take i') _ (by have := hs.take rfl (m := i') (B := A) (c' := c) (by omega) (by omega) hM (fun _ => rfl); rwa [show (Value.slice A i' c) = .slice A i' c from rfl]) (loops_at hlo (fun z hz => List.mem_of_mem_take hz)) (by simp only [List.length_take, List.length_drop]; omega)) rfl (by intro g e; cases e) ?_; clear h a; rintro _ w4 ⟨rfl, hq⟩ a h
           have z4 := hq.size
           replace hs := hs.ext hq
           replace qh13 := qh13.next hq
           replace hC := hC.next hq
           clear hq
           refine hd_next hC ?_
           refine hd_one 12 (by kernel_rfl) rfl ?_
           refine st_callv (us := []) (ws := []) h rfl (evs_cons rfl evs_nil) co25 (sum_ok _ ((l.take (i' + a')).drop i') _ (hs.cutv (p := i') (p' := i' + a') (by omega) (by omega)) (loops_at hlo (fun z hz => List.mem_of_mem_take (List.mem_of_mem_drop hz))) (by simp only [List.length_take, List.length_drop]; omega)) rfl (by intro g e; cases e) ?_; clear h a; rintro _ w5 ⟨rfl, hq⟩ a h
           have z5 := hq.size
           replace hs := hs.ext hq
           replace qh13 := qh13.next hq
           replace hC := hC.next hq
           clear hq
           refine hd_next hC ?_
           refine hd_one 24 (by kernel_rfl) rfl ?_
           refine st_callv (us := []) (ws := []) h rfl (evs_cons rfl evs_nil) co25 (sum_ok _ ((l.take (i' + a' + b')).drop (i' + a')) _ (hs.cutv (p := i' + a') (p' := i' + a' + b') (by omega) (by omega)) (loops_at hlo (fun z hz => List.mem_of_mem_take (List.mem_of_mem_drop hz))) (by simp only [List.length_take, List.length_drop]; omega)) rfl (by intro g e; cases e) ?_; clear h a; rintro _ w6 ⟨rfl, hq⟩ a h
           have z6 := hq.size
           replace hs := hs.ext hq
           replace qh13 := qh13.next hq
           replace hC := hC.next hq
           clear hq
           refine hd_next hC ?_
           refine hd_one 25 (by kernel_rfl) rfl ?_
           refine st_assign h rfl rfl ?_; clear h a; intro a h
           refine hd_next hC ?_
           refine hd_one 26 (by kernel_rfl) rfl ?_
           refine st_assign h rfl rfl ?_; clear h a; intro a h
           refine hd_next hC ?_
           refine hd_one 27 (by kernel_rfl) rfl ?_
           refine st_assign h rfl rfl ?_; clear h a; intro a h
           refine hd_next hC ?_
           refine hd_end (by kernel_rfl) ?_
           clear hC hs_b
           have z6 := qh13.size
           refine bk (h.sub (L' := [(4, _), (16, _), (17, _), (18, _)]) (.cons rfl (.cons rfl (.cons rfl (.cons rfl .nil))))) ?_; clear h a
           exact jE (()) (.cons rfl (.cons (congrArg (fun z => some (Value.int .i64 z)) hB0) (.cons (congrArg (fun z => some (Value.int .i64 z)) hL0) (.cons (congrArg (fun z => some (Value.int .i64 z)) hR0) .nil)))) qh13
         · rintro _j w7 q7
           have z7 := q7.size
           refine kpC [(4, _), (16, _), (17, _), (18, _)] (.cons rfl (.cons rfl (.cons rfl (.cons rfl .nil)))) ?_
           refine sr (asg rfl rfl (nn ?_))
           refine jn (ι := Unit) [(16, _), (17, _), (18, _)] (fun _j => [(19, .int .i64 (if front = true then (1 : Int) else -1))]) (fun _j w' => Fr [] w7 w') (.cons rfl (.cons rfl (.cons rfl .nil))) ?_ ?_
           · refine sr (mv rfl rfl (nn ?_))
             refine cd rfl (fun c4 => ?_) (fun c4 => ?_)
             · refine rg (asg rfl rfl (nl ?_))
               exact jE (()) (.cons rfl (.cons rfl (.cons rfl (.cons (congrArg (fun z => some (Value.int .i64 z)) (by first | (rw [if_pos c4]) | (rw [if_neg c4]))) .nil)))) (Fr.refl _ _)
             · refine sk ?_
               exact jE (()) (.cons rfl (.cons rfl (.cons rfl (.cons (congrArg (fun z => some (Value.int .i64 z)) (by first | (rw [if_pos c4]) | (rw [if_neg c4]))) .nil)))) (Fr.refl _ _)
           · rintro _j w8 q8
             have z8 := q8.size
             refine kpC [(16, _), (17, _), (18, _), (19, _)] (.cons rfl (.cons rfl (.cons rfl (.cons rfl .nil)))) ?_
             refine sr (mv rfl rfl (mv rfl rfl (s_mul rfl rfl (wi6 (by omega)) rfl ?_)))
             refine s_makeSlice (m := 0) (c := L * R) (0 : Int) rfl rfl el26 zv3 rfl (Nat.zero_le _) (by omega) (by unfold maxLen; omega) rfl (fun g83 w9 hg83 hoW q9 z9 => ?_)
             replace hoW := hoW.low (b' := w0.heap.size) (by omega)
             refine asg rfl rfl (nn (sq (sr (mv rfl rfl (asg rfl rfl (nn (bl ?_)))))))
             refine lpK (ι := Nat × Value) [(16, _), (18, _), (19, _)] (fun p => [(20, p.2), (21, .int .i64 ((L : Int) - (p.1 : Int)))]) (fun p w' => Fr [] w0 w' ∧ p.1 ≤ L ∧ Lw.Own Enc.i64 3 w0.heap.size w' p.2 (wordF B0 L R (if front = true then (1 : Int) else -1) p.1)) (fun p => L - p.1) (0, .slice (some ⟨g83, 0, none⟩) 0 (L * R)) (.cons rfl (.cons rfl (.cons rfl (.cons rfl (.cons (congrArg (fun z => some (Value.int .i64 z)) (by simp)) .nil))))) ⟨((((q1.next q2).next q7).next q8).next q9), ⟨Nat.zero_le _, hoW⟩⟩ ?_
             rintro ⟨m, vW⟩ w10 ⟨q10, ⟨hm, hoW⟩⟩
             simp only at hm hoW
             have z10 := q10.size
             refine kpC [(16, _), (18, _), (19, _), (20, vW), (21, .int .i64 ((L : Int) - (m : Int)))] (.cons rfl (.cons rfl (.cons rfl (.cons rfl (.cons rfl .nil))))) ?_
             refine sq (sr (mv rfl rfl (ge' rfl rfl rfl (nn ?_))))
             refine cd rfl (fun c5 => ?_) (fun c5 => ?_)
             · refine sk (tn (sq (bl (sr (mv rfl rfl (mv rfl rfl (nn (bl ?_))))))))
               refine lpK (ι := Nat × Value) [(16, _), (18, _), (19, _), (21, _), (89, _)] (fun p => [(20, p.2), (90, .int .i64 (p.1 : Int))]) (fun p w' => Fr [] w0 w' ∧ p.1 ≤ R ∧ Lw.Own Enc.i64 3 w0.heap.size w' p.2 ((wordF B0 L R (if front = true then (1 : Int) else -1) m) ++ wrow B0 (if front = true then (1 : Int) else -1) (L - m) p.1)) (fun p => R - p.1) (0, vW) (.cons rfl (.cons rfl (.cons rfl (.cons rfl (.cons rfl (.cons rfl (.cons rfl .nil))))))) ⟨q10, ⟨Nat.zero_le _, by rw [show wrow B0 (if front = true then (1 : Int) else -1) (L - m) 0 = [] from rfl, List.append_nil]; exact hoW⟩⟩ ?_
               rintro ⟨r, vW⟩ w11 ⟨q11, ⟨hr, hoW⟩⟩
               simp only at hr hoW
               have z11 := q11.size
               refine kpC [(16, _), (18, _), (19, _), (21, _), (89, _), (20, vW), (90, .int .i64 (r : Int))] (.cons rfl (.cons rfl (.cons rfl (.cons rfl (.cons rfl (.cons rfl (.cons rfl .nil))))))) ?_
               have hwl := wordF_len B0 L R (if front = true then (1 : Int) else -1) m
               have hmr : m * R ≤ L * R := Nat.mul_le_mul_right _ hm
               refine sr (lt' rfl rfl rfl (nn (sq ?_)))
               refine cd rfl (fun c6 => ?_) (fun c6 => ?_)
               · refine sk (tn (sq (bl (sr (mv rfl rfl (asg rfl rfl (nn (rg (mv rfl rfl (mv rfl rfl (mv rfl rfl ?_)))))))))))
                 refine mv rfl rfl (s_add rfl rfl (wi6 (by omega)) rfl (mv rfl rfl (s_add rfl rfl (wi6 (by omega)) rfl (s_mul rfl rfl (wi6 (by split <;> omega)) rfl (s_bslice ([(if front = true then (1 : Int) else -1) * ((B0 : Int) + ((L : Int) - (m : Int)) + (r : Int))]) (ev1 rfl) rfl rfl rfl el26 (Nat.le_of_ble_eq_true rfl) rfl (fun g101 w12 hg101 ho101 q12 z12 => ?_))))))
                 replace hoW := hoW.ext q12
                 have hoo102 := hoW
                 refine s_append rfl rfl hoW ho101.sl el26 (by unfold maxLen; simp only [List.length_append, List.length_cons, List.length_nil, wrow_len, hwl]; omega) (by simp only [List.length_append, List.length_cons, List.length_nil, wrow_len, hwl]; omega) (by omega) rfl (fun v102 w13 hoW q13 hor102 => ?_)
                 have z13 := q13.size
                 rw [show ((B0 : Int) + ((L : Int) - (m : Int)) + (r : Int)) = ((B0 : Int) + ((L - m : Nat) : Int) + (r : Int)) by omega] at hoW
                 refine asg rfl rfl (kpL [(16, _), (18, _), (19, _), (20, _), (21, _), (89, _), (90, _)] (.cons rfl (.cons rfl (.cons rfl (.cons rfl (.cons rfl (.cons rfl (.cons rfl .nil))))))) (nl (bn' (tn (rg (s_add rfl rfl (wi6 (by omega)) rfl (mv rfl rfl (nl ?_))))))))
                 exact lpE ((r + 1, v102)) (.cons rfl (.cons rfl (.cons rfl (.cons rfl (.cons rfl (.cons rfl (.cons rfl .nil))))))) ⟨((q11.next q12).step q13 (fun k hk hlt => absurd (hoo102.blk k hk).1 (by omega))), ⟨by simp only; omega, by rw [wrow_succ, ← List.append_assoc]; exact hoW⟩⟩ (by simp only; omega)
               · obtain rfl : r = R := by omega
                 refine ex (te (te (xh (bn' (tn (rg (mv rfl rfl (s_sub rfl rfl (wi6 (by omega)) rfl (asg rfl rfl (nl ?_))))))))))
                 exact lpE ((m + 1, vW)) (.cons rfl (.cons rfl (.cons rfl (.cons rfl (.cons (congrArg (fun z => some (Value.int .i64 z)) (show ((L : Int) - (m : Int)) - 1 = (L : Int) - ((m + 1 : Nat) : Int) by omega)) .nil))))) ⟨q11, ⟨by simp only; omega, hoW⟩⟩ (by simp only; omega)
             · obtain rfl : m = L := by omega
               refine ex (te (te (xh (tn (sr (mv rfl rfl (asg rfl rfl (asg rfl rfl (kpL [(10, _), (11, _)] (.cons rfl (.cons rfl .nil)) (nn (rt ?_)))))))))))
               refine r2 Tryd.results12 rfl rfl ?_
               exact ⟨_, rfl, vW, by rw [hE], by rw [hS]; unfold wordCN; rw [← hB2, ← hL2, ← hR2]; exact hoW, q10⟩
end Go.Proofs.YtacclnebhbakmaaDoor
