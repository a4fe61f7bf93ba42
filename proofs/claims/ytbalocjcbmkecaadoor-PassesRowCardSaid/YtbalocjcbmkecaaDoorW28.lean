/- Walks. -/
import Derived.Test.YtbalocjcbmkecaaDoorRows
import Derived.Test.YtbalocjcbmkecaaDoorW24b
import Derived.Test.YtbalocjcbmkecaaDoorXOp
import Derived.Test.YtbalocjcbmkecaaDoorXMap
import Derived.Test.YtbalocjcbmkecaaDoorXRow
set_option linter.unusedVariables false
set_option linter.unusedSimpArgs false
namespace Go.Proofs.YtbalocjcbmkecaaDoor
open Go.Lw
theorem co23 : CallOf Tryd.prog 23 := CallOf.mk' Tryd.func23 (by kernel_rfl) (by kernel_rfl)
theorem shr_in {b : Int} (h : 0 ≤ b ∧ b ≤ 18446744073709551615) (k : Nat) : 0 ≤ b / ((2 ^ k : Nat) : Int) ∧ b / ((2 ^ k : Nat) : Int) ≤ 18446744073709551615 := by
  have h1 : 0 ≤ b / ((2 ^ k : Nat) : Int) := Int.ediv_nonneg h.1 (Int.natCast_nonneg _)
  have h2 : b / ((2 ^ k : Nat) : Int) ≤ b := Int.ediv_le_self _ h.1
  omega
theorem kI_lt {n : Nat} {d : Int} {i : Nat} (h : i < n) : kI n d i < n := by unfold kI; split <;> omega
set_option maxHeartbeats 4000000 in
theorem law_row (ma beds di : Int) (w0 : World) (hG : Glob w0) (hm : 0 ≤ ma ∧ ma ≤ 255) (hbd : 0 ≤ beds ∧ beds ≤ 18446744073709551615) (hdi : 0 ≤ di ∧ di ≤ 255) : Rets Tryd.prog 11 #[.int .u8 ma, .int .u64 beds, .int .u8 di] w0 fun r w' => r = .bool true ∧ Fr [] w0 w' := by
 obtain ⟨n, hn⟩ : ∃ n : Nat, (n : Int) = 1 + ma % 40 := ⟨(1 + ma % 40).toNat, by omega⟩
 obtain ⟨d, hd⟩ : ∃ d, d = di % 2 := ⟨_, rfl⟩
 have hn4 : 1 ≤ n ∧ n ≤ 40 := by omega
 have hd2 : d = 0 ∨ d = 1 := by omega
 obtain ⟨hr1, hr2, hr3, hr4⟩ := row_law (beds := beds) hn4 hd2
 have hGs := hG.sz
 refine we [(0, .int .u8 ma), (1, .int .u64 beds), (2, .int .u8 di)] Tryd.func11 rfl Tryd.ntmps11 rfl (.cons rfl (.cons rfl (.cons rfl .nil))) ?_
 have hG0 := hG
 refine sr (asg rfl rfl (nn (sr (mv rfl rfl (s_rem rfl rfl (by omega) (by first | exact IntWalk.rem_in _ _ (by omega) | rfl) rfl (s_conv rfl (us Tryd.underlying5) Tryd.underlying3 (wi6 (by omega)) rfl ?_))))))
 refine s_add rfl rfl (show IntKind.i64.wrap (1 + ma % 40) = (n : Int) by rw [hn]; exact wi6 (by omega)) rfl ?_
 refine asg rfl rfl (nn (sr (mv rfl rfl ?_)))
 refine s_rem rfl rfl (by omega) (show Int.tmod di 2 = d by rw [hd]; exact IntWalk.rem_in _ _ (by omega)) rfl ?_
 refine asg rfl rfl (nn (sr (asg rfl rfl (nn (sq (sr (asg rfl rfl (nn (bl ?_)))))))))
 refine lpK (ι := Nat × Option Addr × Nat) [(1, _), (7, _), (8, _)] (fun p => [(9, .slice p.2.1 (runL p.1 (rowO n d beds)).length p.2.2), (10, .int .i64 (p.1 : Int))]) (fun p w' => Fr [] w0 w' ∧ p.1 ≤ n ∧ Lw.Own encOp 31 w0.heap.size w' (.slice p.2.1 (runL p.1 (rowO n d beds)).length p.2.2) (runL p.1 (rowO n d beds))) (fun p => n - p.1) (0, none, 0) (.cons rfl (.cons rfl (.cons rfl (.cons rfl (.cons rfl .nil))))) ⟨(Fr.refl _ _), ⟨Nat.zero_le _, Own.nil _⟩⟩ ?_
 rintro ⟨i, A9, c9⟩ w1 ⟨q1, ⟨hi, ho9⟩⟩
 simp only at hi ho9
 have hll : (runL i (rowO n d beds)).length ≤ 120 := by simp only [List.length_append, runL_len]; omega
 have z1 := q1.size
 refine kpC [(1, _), (7, _), (8, _), (9, .slice A9 (runL i (rowO n d beds)).length c9), (10, .int .i64 (i : Int))] (.cons rfl (.cons rfl (.cons rfl (.cons rfl (.cons rfl .nil))))) ?_
 refine sq (sr (mv rfl rfl (mv rfl rfl (lt' rfl rfl rfl (nn ?_)))))
 refine cd rfl (fun c0 => ?_) (fun c0 => ?_)
 · refine sk (tn (sq (bl (sr (mv rfl rfl (asg rfl rfl (nn ?_)))))))
   refine jn (ι := Unit) [(1, _), (7, _), (8, _), (9, _), (10, _)] (fun _j => [(11, .int .i64 ((kI n d i) : Int))]) (fun _j w' => Fr [] w1 w') (.cons rfl (.cons rfl (.cons rfl (.cons rfl (.cons rfl .nil))))) ?_ ?_
   · refine sr (mv rfl rfl (eq' rfl rfl rfl (nn ?_)))
     refine cd rfl (fun c1 => ?_) (fun c1 => ?_)
     · refine rg (mv rfl rfl (s_sub rfl rfl (wi6 (by omega)) rfl (mv rfl rfl (s_sub rfl rfl (wi6 (by omega)) rfl (asg rfl rfl (nl ?_))))))
       exact jE (()) (.cons rfl (.cons rfl (.cons rfl (.cons rfl (.cons rfl (.cons (congrArg (fun z => some (Value.int .i64 z)) (by unfold kI; first | (rw [if_pos c1]; omega) | (rw [if_neg c1]))) .nil)))))) (Fr.refl _ _)
     · refine sk ?_
       exact jE (()) (.cons rfl (.cons rfl (.cons rfl (.cons rfl (.cons rfl (.cons (congrArg (fun z => some (Value.int .i64 z)) (by unfold kI; first | (rw [if_pos c1]; omega) | (rw [if_neg c1]))) .nil)))))) (Fr.refl _ _)
   · rintro _j w2 q2
     have z2 := q2.size
     refine kpC [(1, _), (7, _), (8, _), (9, _), (10, _), (11, _)] (.cons rfl (.cons rfl (.cons rfl (.cons rfl (.cons rfl (.cons rfl .nil)))))) ?_
     have hkl := kI_lt (d := d) (show i < n by omega)
     have hs1 := shr_in hbd (kI n d i)
     have hs2 := shr_in hbd ((kI n d i) + 10)
     refine rg (mv rfl rfl (mv rfl rfl (mv rfl rfl (mv rfl rfl (s_conv rfl (us Tryd.underlying3) Tryd.underlying60 (IntWalk.u64_in _ (by omega)) rfl ?_)))))
     refine s_shr (m := (kI n d i)) rfl rfl (show _ ≤ 64 by omega) rfl rfl ?_
     refine s_and1 rfl rfl hs1 rfl ?_
     refine s_conv rfl (us Tryd.underlying59) Tryd.underlying27 (wi8 (by omega)) rfl (mv rfl rfl (s_add rfl rfl (wi6 (by omega)) rfl (s_lit (cs := [_, _]) (ev2 rfl rfl) bo29 (pok_cons rfl rfl rfl (pok_cons rfl rfl rfl pok_nil)) rfl rfl (mv rfl rfl (mv rfl rfl ?_)))))
     refine s_add rfl rfl (show IntKind.i64.wrap (((kI n d i) : Int) + 10) = (((kI n d i) + 10 : Nat) : Int) by rw [wi6 (by omega)]; omega) rfl ?_
     refine s_conv rfl (us Tryd.underlying3) Tryd.underlying60 (IntWalk.u64_in _ (by omega)) rfl ?_
     refine s_shr (m := (kI n d i) + 10) rfl rfl (show _ ≤ 64 by omega) rfl rfl ?_
     refine s_rem rfl rfl (by omega) (by first | exact IntWalk.rem_in _ _ (by omega) | rfl) rfl (s_conv rfl (us Tryd.underlying59) Tryd.underlying5 (wi8 (by omega)) rfl (s_add rfl rfl (wi8 (by omega)) rfl (s_lit (cs := [_, _, _, _, _, _]) (ev4 rfl rfl rfl rfl) bo31 (pok_cons rfl rfl rfl (pok_cons rfl rfl rfl (pok_cons rfl rfl rfl (pok_cons rfl rfl rfl pok_nil)))) rfl rfl (s_bslice ([rowO n d beds i]) (ev1 rfl) rfl rfl rfl el45 (Nat.le_of_ble_eq_true rfl) rfl (fun g52 w3 hg52 ho52 q3 z3 => ?_)))))
     replace ho9 := ho9.ext (q2.next q3)
     have hoo53 := ho9
     refine s_append rfl rfl ho9 ho52.sl el45 (by unfold maxLen; simp only [List.length_cons, List.length_nil]; omega) (by simp only [List.length_cons, List.length_nil]; omega) (by omega) rfl (fun v53 w4 ho9 q4 hor53 => ?_)
     have z4 := q4.size
     obtain ⟨A8, c8, rfl, hc8⟩ := ho9.sl.form
     refine asg rfl rfl (kpL [(1, _), (7, _), (8, _), (9, _), (10, _)] (.cons rfl (.cons rfl (.cons rfl (.cons rfl (.cons rfl .nil))))) (nl (bn' (tn (rg (mv rfl rfl (s_add rfl rfl (wi6 (by omega)) rfl (asg rfl rfl (nl ?_)))))))))
     exact lpE ((i + 1, A8, c8)) (.cons rfl (.cons rfl (.cons rfl (.cons (congrArg (fun z => some (Value.slice A8 z c8)) (by rw [runL_succ])) (.cons rfl .nil))))) ⟨(((q1.next q2).next q3).step q4 (fun k hk hlt => absurd (hoo53.blk k hk).1 (by omega))), ⟨by simp only; omega, by rw [runL_succ]; exact ho9⟩⟩ (by omega)
 · obtain rfl : n = i := by omega
   refine ex (te (te (xh (tn (sq (sq ?_))))))
   refine rboF (r := 63) (L' := [(7, _), (9, _)]) (False) (.cons rfl (.cons rfl .nil)) ?_ ?_
   · refine mv rfl rfl ?_
     refine cl (ev1 rfl) co24 (count_ok _ (runL n (rowO n d beds)) _ ho9.sl) rfl ?_
     rintro _ w5 ⟨rfl, q5⟩
     have z5 := q5.size
     refine ne' rfl rfl rfl (mv rfl rfl ?_)
     refine gs 57 rfl (fun hh => absurd hh (by rw [hr1]; decide)) (fun g0 => ?_)
     refine gY rfl (mv rfl rfl (gY rfl ?_))
     replace ho9 := ho9.ext q5
     refine cl (ev1 rfl) co25 (time_ok _ (runL n (rowO n d beds)) _ ho9.sl) rfl ?_
     rintro _ w6 ⟨rfl, q6⟩
     have z6 := q6.size
     exact gY rfl (mv rfl rfl (gY rfl (s_add rfl rfl (wi6 (by omega)) rfl (gY rfl (ne' rfl rfl rfl (pkf rfl rfl rfl rfl (rbeF rfl (by rw [hr2]; simp) (.cons rfl (.cons rfl .nil)) (q5.next q6))))))))
   · intro w7 q7; have z7 := q7.size
     refine tn ?_
     refine cd rfl (fun c2 => ?_) (fun c2 => ?_)
     · exact c2.elim
     · refine sk (tn (sq (sr (asg rfl rfl (nn (bl ?_))))))
       replace ho9 := ho9.ext q7
       refine lpK (ι := Nat × Option Addr × Nat) [(7, _)] (fun p => [(9, .slice p.2.1 ((runL n (rowO n d beds)) ++ runL p.1 xfF).length p.2.2), (12, .int .i64 (p.1 : Int))]) (fun p w' => Fr [] w0 w' ∧ p.1 ≤ n ∧ Lw.Own encOp 31 w0.heap.size w' (.slice p.2.1 ((runL n (rowO n d beds)) ++ runL p.1 xfF).length p.2.2) ((runL n (rowO n d beds)) ++ runL p.1 xfF)) (fun p => n - p.1) (0, A9, c9) (.cons rfl (.cons (congrArg (fun z => some (Value.slice A9 z c9)) (by rw [show runL 0 xfF = [] from rfl, List.append_nil])) (.cons rfl .nil))) ⟨(q1.next q7), ⟨Nat.zero_le _, by rw [show runL 0 xfF = [] from rfl, List.append_nil]; exact ho9⟩⟩ ?_
       rintro ⟨i, A9, c9⟩ w8 ⟨q8, ⟨hi, ho9⟩⟩
       simp only at hi ho9
       have hll : ((runL n (rowO n d beds)) ++ runL i xfF).length ≤ 120 := by simp only [List.length_append, runL_len]; omega
       have z8 := q8.size
       refine kpC [(7, _), (9, .slice A9 ((runL n (rowO n d beds)) ++ runL i xfF).length c9), (12, .int .i64 (i : Int))] (.cons rfl (.cons rfl (.cons rfl .nil))) ?_
       refine sq (sr (mv rfl rfl (mv rfl rfl (lt' rfl rfl rfl (nn ?_)))))
       refine cd rfl (fun c3 => ?_) (fun c3 => ?_)
       · refine sk (tn (sq (bl (rg (mv rfl rfl (mv rfl rfl (s_add rfl rfl (wi6 (by omega)) rfl (s_lit (cs := [_, _]) (ev2 rfl rfl) bo29 (pok_cons rfl rfl rfl (pok_cons rfl rfl rfl pok_nil)) rfl rfl (s_lit (cs := [_, _, _, _, _, _]) (ev2 rfl rfl) bo31 (pok_cons rfl rfl rfl (pok_cons rfl rfl rfl pok_nil)) rfl rfl (s_bslice ([xfF i]) (ev1 rfl) rfl rfl rfl el45 (Nat.le_of_ble_eq_true rfl) rfl (fun g74 w9 hg74 ho74 q9 z9 => ?_)))))))))))
         replace ho9 := ho9.ext q9
         have hoo75 := ho9
         refine s_append rfl rfl ho9 ho74.sl el45 (by unfold maxLen; simp only [List.length_cons, List.length_nil]; omega) (by simp only [List.length_cons, List.length_nil]; omega) (by omega) rfl (fun v75 w10 ho9 q10 hor75 => ?_)
         have z10 := q10.size
         obtain ⟨A8, c8, rfl, hc8⟩ := ho9.sl.form
         refine asg rfl rfl (kpL [(7, _), (9, _), (12, _)] (.cons rfl (.cons rfl (.cons rfl .nil))) (nl (bn' (tn (rg (mv rfl rfl (s_add rfl rfl (wi6 (by omega)) rfl (asg rfl rfl (nl ?_)))))))))
         exact lpE ((i + 1, A8, c8)) (.cons rfl (.cons (congrArg (fun z => some (Value.slice A8 z c8)) (by rw [runL_succ, ← List.append_assoc])) (.cons rfl .nil))) ⟨((q8.next q9).step q10 (fun k hk hlt => absurd (hoo75.blk k hk).1 (by omega))), ⟨by simp only; omega, by rw [runL_succ, ← List.append_assoc]; exact ho9⟩⟩ (by omega)
       · obtain rfl : n = i := by omega
         refine ex (te (te (xh (tn (sq (sr (asg rfl rfl (nn (bl ?_)))))))))
         refine lpK (ι := Nat × Option Addr × Nat) [(7, _)] (fun p => [(9, .slice p.2.1 ((runL n (rowO n d beds)) ++ runL n xfF ++ runL p.1 (xfB n)).length p.2.2), (13, .int .i64 (p.1 : Int))]) (fun p w' => Fr [] w0 w' ∧ p.1 ≤ n ∧ Lw.Own encOp 31 w0.heap.size w' (.slice p.2.1 ((runL n (rowO n d beds)) ++ runL n xfF ++ runL p.1 (xfB n)).length p.2.2) ((runL n (rowO n d beds)) ++ runL n xfF ++ runL p.1 (xfB n))) (fun p => n - p.1) (0, A9, c9) (.cons rfl (.cons (congrArg (fun z => some (Value.slice A9 z c9)) (by rw [show runL 0 (xfB n) = [] from rfl, List.append_nil])) (.cons rfl .nil))) ⟨q8, ⟨Nat.zero_le _, by rw [show runL 0 (xfB n) = [] from rfl, List.append_nil]; exact ho9⟩⟩ ?_
         rintro ⟨i, A9, c9⟩ w11 ⟨q11, ⟨hi, ho9⟩⟩
         simp only at hi ho9
         have hll : ((runL n (rowO n d beds)) ++ runL n xfF ++ runL i (xfB n)).length ≤ 120 := by simp only [List.length_append, runL_len]; omega
         have z11 := q11.size
         refine kpC [(7, _), (9, .slice A9 ((runL n (rowO n d beds)) ++ runL n xfF ++ runL i (xfB n)).length c9), (13, .int .i64 (i : Int))] (.cons rfl (.cons rfl (.cons rfl .nil))) ?_
         refine sq (sr (mv rfl rfl (mv rfl rfl (lt' rfl rfl rfl (nn ?_)))))
         refine cd rfl (fun c4 => ?_) (fun c4 => ?_)
         · refine sk (tn (sq (bl (rg (mv rfl rfl (mv rfl rfl (mv rfl rfl (s_sub rfl rfl (wi6 (by omega)) rfl (s_lit (cs := [_, _]) (ev2 rfl rfl) bo29 (pok_cons rfl rfl rfl (pok_cons rfl rfl rfl pok_nil)) rfl rfl (s_lit (cs := [_, _, _, _, _, _]) (ev2 rfl rfl) bo31 (pok_cons rfl rfl rfl (pok_cons rfl rfl rfl pok_nil)) rfl rfl (s_bslice ([xfB n i]) (ev1 rfl) rfl rfl rfl el45 (Nat.le_of_ble_eq_true rfl) rfl (fun g87 w12 hg87 ho87 q12 z12 => ?_))))))))))))
           replace ho9 := ho9.ext q12
           have hoo88 := ho9
           refine s_append rfl rfl ho9 ho87.sl el45 (by unfold maxLen; simp only [List.length_cons, List.length_nil]; omega) (by simp only [List.length_cons, List.length_nil]; omega) (by omega) rfl (fun v88 w13 ho9 q13 hor88 => ?_)
           have z13 := q13.size
           obtain ⟨A8, c8, rfl, hc8⟩ := ho9.sl.form
           refine asg rfl rfl (kpL [(7, _), (9, _), (13, _)] (.cons rfl (.cons rfl (.cons rfl .nil))) (nl (bn' (tn (rg (mv rfl rfl (s_add rfl rfl (wi6 (by omega)) rfl (asg rfl rfl (nl ?_)))))))))
           exact lpE ((i + 1, A8, c8)) (.cons rfl (.cons (congrArg (fun z => some (Value.slice A8 z c8)) (by rw [runL_succ, ← List.append_assoc])) (.cons rfl .nil))) ⟨((q11.next q12).step q13 (fun k hk hlt => absurd (hoo88.blk k hk).1 (by omega))), ⟨by simp only; omega, by rw [runL_succ, ← List.append_assoc]; exact ho9⟩⟩ (by omega)
         · obtain rfl : n = i := by omega
           refine ex (te (te (xh (tn (sq ?_)))))
           refine rboF (r := 6) (L' := []) (True) .nil ?_ ?_
           · refine mv rfl rfl ?_
             refine cl (ev1 rfl) co24 (count_ok _ ((runL n (rowO n d beds)) ++ runL n xfF ++ runL n (xfB n)) _ ho9.sl) rfl ?_
             rintro _ w14 ⟨rfl, q14⟩
             have z14 := q14.size
             refine eq' rfl rfl rfl (mv rfl rfl ?_)
             refine gs 92 rfl (fun g1 => ?_) (fun hh => absurd (by exact hr3) hh)
             refine gY rfl (mv rfl rfl (gY rfl ?_))
             replace ho9 := ho9.ext q14
             refine cl (ev1 rfl) co25 (time_ok _ ((runL n (rowO n d beds)) ++ runL n xfF ++ runL n (xfB n)) _ ho9.sl) rfl ?_
             rintro _ w15 ⟨rfl, q15⟩
             have z15 := q15.size
             refine gY rfl (mv rfl rfl (gY rfl (s_mul rfl rfl (wi6 (by omega)) rfl (gY rfl (s_add rfl rfl (wi6 (by omega)) rfl (gY rfl (eq' rfl rfl rfl (pkt rfl rfl rfl rfl (mv rfl rfl ?_)))))))))
             refine gs 100 rfl (fun g2 => ?_) (fun hh => absurd (by exact hr4) hh)
             refine gY rfl ?_
             replace hG := hG0.ext ((q11.next q14).next q15)
             refine cl evs_nil co23 (lives10_ok _ hG) rfl ?_
             rintro _ w16 ⟨rfl, q16⟩
             have z16 := q16.size
             exact pkt rfl rfl rfl rfl (asg rfl rfl (rbeF rfl (by rfl) .nil ((q14.next q15).next q16)))
           · intro w17 q17; have z17 := q17.size
             refine tn (rt (r1 Tryd.results11 rfl ?_))
             exact ⟨_, rfl, by first | rfl | simp, (q11.next q17)⟩
end Go.Proofs.YtbalocjcbmkecaaDoor
