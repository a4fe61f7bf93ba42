/- Walks. -/
import Derived.Test.YtbalocjcbmkecaaGreatDoorRows
import Derived.Test.YtbalocjcbmkecaaGreatDoorW13b
import Derived.Test.YtbalocjcbmkecaaGreatDoorXOp
import Derived.Test.YtbalocjcbmkecaaGreatDoorXMap
import Derived.Test.YtbalocjcbmkecaaGreatDoorXPass
import Derived.Test.YtbalocjcbmkecaaGreatDoorXSJ
set_option linter.unusedVariables false
set_option linter.unusedSimpArgs false
namespace Go.Proofs.YtbalocjcbmkecaaGreatDoor
open Go.Lw
theorem co20 : CallOf Tryz.prog 20 := CallOf.mk' Tryz.func20 (by kernel_rfl) (by kernel_rfl)
theorem co21 : CallOf Tryz.prog 21 := CallOf.mk' Tryz.func21 (by kernel_rfl) (by kernel_rfl)
theorem co27 : CallOf Tryz.prog 27 := CallOf.mk' Tryz.func27 (by kernel_rfl) (by kernel_rfl)
theorem racked_ok (r : Int) (w0 : World) : Rets Tryz.prog 27 #[.int .i64 r] w0 fun v w' => v = .bool (decide (-4 ≤ r ∧ r ≤ 4)) ∧ Fr [] w0 w' := by
 refine we [(0, .int .i64 r)] Tryz.func27 rfl Tryz.ntmps27 rfl (.cons rfl .nil) ?_
 refine sr (asg rfl rfl (nn (sq ?_)))
 refine rbo (r := 2) (L' := []) (((-4 ≤ r) ∧ (r ≤ 4))) .nil ?_ ?_
 · refine mv rfl rfl (ge' rfl rfl rfl (mv rfl rfl ?_))
   refine gs 5 rfl (fun g0 => ?_) (fun g0 => ?_)
   · exact gY rfl (mv rfl rfl (gY rfl (le' rfl rfl rfl (pkt rfl rfl rfl rfl (asg rfl rfl (rbe rfl (by first | exact bt (by omega) | exact bf (by omega) | exact bi (by omega) | exact bn (by omega) | (simp_all; done) | (simp_all; omega)) .nil))))))
   · exact gN rfl rfl rfl (gN rfl rfl rfl (pkf rfl rfl rfl rfl (asg rfl rfl (rbe rfl (by first | exact bt (by omega) | exact bf (by omega) | exact bi (by omega) | exact bn (by omega) | (simp_all; done) | (simp_all; omega)) .nil))))
 · refine tn (rt (r1 Tryz.results27 rfl ?_))
   exact ⟨_, rfl, rfl, (Fr.refl _ _)⟩
theorem spot_ok (b p r : Int) (w0 : World) (hp : -9223372036854775808 ≤ p ∧ p ≤ 9223372036854775807) : Rets Tryz.prog 21 #[.agg #[.int .u8 b, .int .i64 p], .int .i64 r] w0 fun v w' => v = .int .i64 (spotS b p r) ∧ Fr [] w0 w' := by
 refine we [(0, .agg #[.int .u8 b, .int .i64 p]), (1, .int .i64 r)] Tryz.func21 rfl Tryz.ntmps21 rfl (.cons rfl (.cons rfl .nil)) ?_
 refine sr (bx rfl rfl rfl (fun g2 w1 hg2 hb2 q1 z1 => ?_))
 refine asg rfl rfl (nn (sq (sq ?_)))
 refine rboF (r := 12) (L' := [(1, _), (2, _)]) ((((nchk b p) ≠ 0) ∨ (¬ (-4 ≤ r ∧ r ≤ 4)))) (.cons rfl (.cons rfl .nil)) ?_ ?_
 · refine s_loadBA rfl hb2 ag39 rfl ?_
   refine cl (ev1 rfl) co26 (ncheck_ok _ _ _) rfl ?_
   rintro _ w2 ⟨rfl, q2⟩
   have z2 := q2.size
   refine ne' rfl rfl rfl (mv rfl rfl ?_)
   refine gs 8 rfl (fun g0 => ?_) (fun g0 => ?_)
   · exact gN rfl rfl rfl (gN rfl rfl rfl (gN rfl rfl rfl (pkt rfl rfl rfl rfl (rbeF rfl (by first | exact bt (by omega) | exact bf (by omega) | exact bi (by omega) | exact bn (by omega) | (simp_all; done) | (simp_all; omega)) (.cons rfl (.cons rfl .nil)) q2))))
   · refine gY rfl (mv rfl rfl (gY rfl ?_))
     refine cl (ev1 rfl) co27 (racked_ok _ _) rfl ?_
     rintro _ w3 ⟨rfl, q3⟩
     have z3 := q3.size
     exact gY rfl (nt' rfl rfl (pkf rfl rfl rfl rfl (rbeF rfl (by first | exact bt (by omega) | exact bf (by omega) | exact bi (by omega) | exact bn (by omega) | (simp_all; done) | (simp_all; omega)) (.cons rfl (.cons rfl .nil)) (q2.next q3))))
 · intro w4 q4; have z4 := q4.size
   refine tn ?_
   refine cd rfl (fun c0 => ?_) (fun c0 => ?_)
   · refine sr (asg rfl rfl (nn (rt (tr (r1 Tryz.results21 rfl ?_)))))
     exact ⟨_, rfl, by rw [spotS, if_pos c0], (q1.next q4)⟩
   · have hnc : nchk b p = 0 := Classical.not_not.1 (fun e => c0 (.inl e))
     have hrr : -4 ≤ r ∧ r ≤ 4 := Classical.not_not.1 (fun e => c0 (.inr e))
     have hbp := nchk_iff.1 hnc
     refine sk (tn (sq (sr (fad rfl fa39_0 rfl ?_))))
     replace hb2 := hb2.ext q4
     refine s_loadB rfl hb2 rfl na37 rfl (eq' rfl rfl rfl (nn ?_))
     refine cd rfl (fun c1 => ?_) (fun c1 => ?_)
     · refine sr (fad rfl fa39_1 rfl (s_loadB rfl hb2 rfl na3 rfl (s_mul rfl rfl (wi6 (by omega)) rfl (s_add rfl rfl (wi6 (by omega)) rfl (asg rfl rfl (kpL [(4, _)] (.cons rfl .nil) (nn (rt (tr (r1 Tryz.results21 rfl ?_))))))))))
       exact ⟨_, rfl, by rw [spotS, if_neg c0, if_pos c1], (q1.next q4)⟩
     · refine sk (tn (sr (fad rfl fa39_1 rfl (s_loadB rfl hb2 rfl na3 rfl (mv rfl rfl (s_add rfl rfl (wi6 (by omega)) rfl (s_mul rfl rfl (wi6 (by omega)) rfl (asg rfl rfl (kpL [(4, _)] (.cons rfl .nil) (nn (rt ?_)))))))))))
       refine r1 Tryz.results21 rfl ?_
       exact ⟨_, rfl, by rw [spotS, if_neg c0, if_neg c1], (q1.next q4)⟩
theorem class_ok (o : MOp) (w0 : World) : Rets Tryz.prog 20 #[opV o] w0 fun v w' => v = .int .i64 (clsS o.k) ∧ Fr [] w0 w' := by
 refine we [(0, opV o)] Tryz.func20 rfl Tryz.ntmps20 rfl (.cons rfl .nil) ?_
 refine sr (bx rfl rfl rfl (fun g1 w1 hg1 hb1 q1 z1 => ?_))
 refine asg rfl rfl (nn (sq (sr (fad rfl fa41_0 rfl (s_loadB rfl hb1 rfl na35 rfl (nn (bl (sq (bl (sq (bl ?_)))))))))))
 refine sq (bl (bl (bl (sq (sq (sr (eq' rfl rfl rfl (asg rfl rfl (nn ?_)))))))))
 refine cd rfl (fun c0 => ?_) (fun c0 => ?_)
 · refine ex (te (te (xh (bn' (bn' (tn (sq (sr (asg rfl rfl (nn (rt ?_)))))))))))
   refine tr (rb (tr (rb (tr (rb (tr (r1 Tryz.results20 rfl ?_)))))))
   exact ⟨_, rfl, by rw [clsS, if_pos c0], q1⟩
 · refine sk (tn (sq (sr (eq' rfl rfl rfl (asg rfl rfl (nn ?_))))))
   refine cd rfl (fun c1 => ?_) (fun c1 => ?_)
   · refine ex (te (te (xo rfl (xh (bn' (tn (sq (sr (asg rfl rfl (nn (rt ?_)))))))))))
     refine tr (rb (tr (rb (tr (rb (tr (r1 Tryz.results20 rfl ?_)))))))
     exact ⟨_, rfl, by rw [clsS, if_neg c0, if_pos c1], q1⟩
   · refine sk (tn (sq (sr (eq' rfl rfl rfl (asg rfl rfl (nn ?_))))))
     refine cd rfl (fun c2 => ?_) (fun c2 => ?_)
     · refine ex (te (te (xo rfl (xo rfl (xh (tn (sq (sr (asg rfl rfl (nn (rt ?_)))))))))))
       refine tr (rb (tr (rb (tr (rb (tr (r1 Tryz.results20 rfl ?_)))))))
       exact ⟨_, rfl, by rw [clsS, if_neg c0, if_neg c1, if_pos c2], q1⟩
     · refine sk (tn (sq (sr (eq' rfl rfl rfl (asg rfl rfl (nn ?_))))))
       refine cd rfl (fun c3 => ?_) (fun c3 => ?_)
       · refine ex (te (te (xo rfl (xo rfl (xo rfl (te (xh (tn (sq (sr (asg rfl rfl ?_)))))))))))
         refine nn (rt (tr (rb (tr (rb (tr (r1 Tryz.results20 rfl ?_)))))))
         exact ⟨_, rfl, by rw [clsS, if_neg c0, if_neg c1, if_neg c2, if_pos c3], q1⟩
       · refine sk (tn (sr (eq' rfl rfl rfl (asg rfl rfl (nn ?_)))))
         refine cd rfl (fun c4 => ?_) (fun c4 => ?_)
         · refine ex (te (xo rfl (xo rfl (xo rfl (te (xo rfl (te (xh (tn (sq (sr ?_)))))))))))
           refine asg rfl rfl (nn (rt (tr (rb (tr (r1 Tryz.results20 rfl ?_))))))
           exact ⟨_, rfl, by rw [clsS, if_neg c0, if_neg c1, if_neg c2, if_neg c3, if_pos c4], q1⟩
         · refine sk (tn (ex (xo rfl (xo rfl (xo rfl (te (xo rfl (te (xo rfl (te (xh ?_)))))))))))
           refine tn (sr (asg rfl rfl (nn (rt (r1 Tryz.results20 rfl ?_)))))
           exact ⟨_, rfl, by rw [clsS, if_neg c0, if_neg c1, if_neg c2, if_neg c3, if_neg c4], q1⟩
theorem follows_ok (p o : MOp) (r : Int) (w0 : World) (hp : -9223372036854775808 ≤ p.p ∧ p.p ≤ 9223372036854775807) (ho : -9223372036854775808 ≤ o.p ∧ o.p ≤ 9223372036854775807) : Rets Tryz.prog 25 #[opV p, opV o, .int .i64 r] w0 fun v w' => v = .bool (decide (folS p o r)) ∧ Fr [] w0 w' := by
 refine we [(0, opV p), (1, opV o), (2, .int .i64 r)] Tryz.func25 rfl Tryz.ntmps25 rfl (.cons rfl (.cons rfl (.cons rfl .nil))) ?_
 refine sr (bx rfl rfl rfl (fun g3 w1 hg3 hb3 q1 z1 => ?_))
 refine bx rfl rfl rfl (fun g4 w2 hg4 hb4 q2 z2 => ?_)
 refine asg rfl rfl (nn (sr (s_loadBA rfl hb4 ag41 rfl ?_)))
 refine cl (ev1 rfl) co20 (class_ok o _) rfl ?_
 rintro _ w3 ⟨rfl, q3⟩
 have z3 := q3.size
 refine asg rfl rfl (nn (sq (sr ?_)))
 replace hb3 := hb3.ext (q2.next q3)
 refine s_loadBA rfl hb3 ag41 rfl ?_
 refine cl (ev1 rfl) co20 (class_ok p _) rfl ?_
 rintro _ w4 ⟨rfl, q4⟩
 have z4 := q4.size
 refine mv rfl rfl (ne' rfl rfl rfl (nn ?_))
 refine cd rfl (fun c0 => ?_) (fun c0 => ?_)
 · refine sr (asg rfl rfl (nn (rt (tr (r1 Tryz.results25 rfl ?_)))))
   exact ⟨_, rfl, congrArg Value.bool (by first | (refine decide_eq_decide.2 ?_; unfold folS; (repeat' split) <;> omega) | (refine (decide_eq_false ?_).symm; unfold folS; (repeat' split) <;> omega) | (refine (decide_eq_true ?_).symm; unfold folS; (repeat' split) <;> omega)), (((q1.next q2).next q3).next q4)⟩
 · refine sk (tn (sq (sr (mv rfl rfl (nn (bl (sr (eq' rfl rfl rfl (asg rfl rfl (nn ?_))))))))))
   refine cd rfl (fun c1 => ?_) (fun c1 => ?_)
   · refine jn (ι := Unit) [(3, _), (4, _)] (fun _j => [(8, .int .i64 (spotS p.b p.p r)), (9, .int .i64 (spotS o.b o.p r))]) (fun _j w' => Fr [] w4 w') (.cons rfl (.cons rfl .nil)) ?_ ?_
     · replace hb3 := hb3.ext q4
       replace hb4 := hb4.ext (q3.next q4)
       intro a h
       have qh6 := Fr.refl [] w4
       refine region_held (fun wb w' => Fr [] wb w') hmix ?_; intro w5 hq
       have z5 := hq.size
       replace hb3 := hb3.ext hq
       replace hb4 := hb4.ext hq
       replace qh6 := qh6.next hq
       have hsz := hq.size; clear hq; have hC : Fr [] w5 w5 := Fr.refl _ _
       have hb3_b := hb3
       have hb4_b := hb4
       refine hd_fieldAddr 0 (by kernel_rfl) (by kernel_rfl) (by kernel_rfl) hC h wn rfl fa41_2 rfl rfl ?_; clear h a; intro a h
       refine hd_loadBP (vs := [_, _]) 1 (by kernel_rfl) (by kernel_rfl) (by kernel_rfl) hC h wn rfl (fun _ hw => (hb3_b.ext hw)) ag39 rfl rfl rfl ?_; clear h a; intro a h
       refine hd_move 2 (by kernel_rfl) (by kernel_rfl) (by kernel_rfl) hC h wn rfl rfl rfl ?_; clear h a; intro a h
       refine hd_fieldAddr 4 (by kernel_rfl) (by kernel_rfl) (by kernel_rfl) hC h wn rfl fa41_2 rfl rfl ?_; clear h a; intro a h
       refine hd_loadBP (vs := [_, _]) 5 (by kernel_rfl) (by kernel_rfl) (by kernel_rfl) hC h wn rfl (fun _ hw => (hb4_b.ext hw)) ag39 rfl rfl rfl ?_; clear h a; intro a h
       refine hd_move 6 (by kernel_rfl) (by kernel_rfl) (by kernel_rfl) hC h wn rfl rfl rfl ?_; clear h a; intro a h
       refine hd_one 3 (by kernel_rfl) rfl ?_
       refine st_call h (evs_cons rfl (evs_cons rfl evs_nil)) co21 (spot_ok _ _ _ _ hp) rfl ?_; clear h a; rintro _ w6 ⟨rfl, hq⟩ a h
       have z6 := hq.size
       replace hb3 := hb3.ext hq
       replace hb4 := hb4.ext hq
       replace qh6 := qh6.next hq
       replace hC := hC.next hq
       clear hq
       refine hd_next hC ?_
       refine hd_one 7 (by kernel_rfl) rfl ?_
       refine st_call h (evs_cons rfl (evs_cons rfl evs_nil)) co21 (spot_ok _ _ _ _ ho) rfl ?_; clear h a; rintro _ w7 ⟨rfl, hq⟩ a h
       have z7 := hq.size
       replace hb3 := hb3.ext hq
       replace hb4 := hb4.ext hq
       replace qh6 := qh6.next hq
       replace hC := hC.next hq
       clear hq
       refine hd_next hC ?_
       refine hd_one 8 (by kernel_rfl) rfl ?_
       refine st_assign h rfl rfl ?_; clear h a; intro a h
       refine hd_next hC ?_
       refine hd_one 9 (by kernel_rfl) rfl ?_
       refine st_assign h rfl rfl ?_; clear h a; intro a h
       refine hd_next hC ?_
       refine hd_end (by kernel_rfl) ?_
       clear hC hb3_b hb4_b
       have z7 := qh6.size
       refine bk (h.sub (L' := [(3, _), (4, _), (8, _), (9, _)]) (.cons rfl (.cons rfl (.cons rfl (.cons rfl .nil))))) ?_; clear h a
       exact jE (()) (.cons rfl (.cons rfl (.cons rfl (.cons rfl .nil)))) qh6
     · rintro _j w8 q8
       have z8 := q8.size
       refine kpC [(3, _), (4, _), (8, _), (9, _)] (.cons rfl (.cons rfl (.cons rfl (.cons rfl .nil)))) ?_
       refine sq (sr (fad rfl fa41_1 rfl ?_))
       replace hb4 := hb4.ext ((q3.next q4).next q8)
       refine s_loadB rfl hb4 rfl na36 rfl (eq' rfl rfl rfl (nn ?_))
       refine cd rfl (fun c2 => ?_) (fun c2 => ?_)
       · refine sq ?_
         refine rbo (r := 6) (L' := []) (((p.d = o.d) ∧ ((spotS p.b p.p r) < (spotS o.b o.p r)))) .nil ?_ ?_
         · refine fad rfl fa41_1 rfl ?_
           replace hb3 := hb3.ext (q4.next q8)
           refine s_loadB rfl hb3 rfl na36 rfl (fad rfl fa41_1 rfl (s_loadB rfl hb4 rfl na36 rfl (eq' rfl rfl rfl (mv rfl rfl ?_))))
           refine gs 35 rfl (fun g0 => ?_) (fun g0 => ?_)
           · exact gY rfl (mv rfl rfl (gY rfl (mv rfl rfl (gY rfl (lt' rfl rfl rfl (pkt rfl rfl rfl rfl (asg rfl rfl (rbe rfl (by first | exact bt (by omega) | exact bf (by omega) | exact bi (by omega) | exact bn (by omega) | (simp_all; done) | (simp_all; omega)) .nil))))))))
           · exact gN rfl rfl rfl (gN rfl rfl rfl (gN rfl rfl rfl (pkf rfl rfl rfl rfl (asg rfl rfl (rbe rfl (by first | exact bt (by omega) | exact bf (by omega) | exact bi (by omega) | exact bn (by omega) | (simp_all; done) | (simp_all; omega)) .nil)))))
         · refine tn (rt (tr (rb (tr (r1 Tryz.results25 rfl ?_)))))
           exact ⟨_, rfl, congrArg Value.bool (by first | (refine decide_eq_decide.2 ?_; unfold folS; (repeat' split) <;> omega) | (refine (decide_eq_false ?_).symm; unfold folS; (repeat' split) <;> omega) | (refine (decide_eq_true ?_).symm; unfold folS; (repeat' split) <;> omega)), ((((q1.next q2).next q3).next q4).next q8)⟩
       · refine sk (tn (sq ?_))
         refine rbo (r := 6) (L' := []) (((p.d = o.d) ∧ ((spotS o.b o.p r) < (spotS p.b p.p r)))) .nil ?_ ?_
         · refine fad rfl fa41_1 rfl ?_
           replace hb3 := hb3.ext (q4.next q8)
           refine s_loadB rfl hb3 rfl na36 rfl (fad rfl fa41_1 rfl (s_loadB rfl hb4 rfl na36 rfl (eq' rfl rfl rfl (mv rfl rfl ?_))))
           refine gs 45 rfl (fun g1 => ?_) (fun g1 => ?_)
           · exact gY rfl (mv rfl rfl (gY rfl (mv rfl rfl (gY rfl (gt' rfl rfl rfl (pkt rfl rfl rfl rfl (asg rfl rfl (rbe rfl (by first | exact bt (by omega) | exact bf (by omega) | exact bi (by omega) | exact bn (by omega) | (simp_all; done) | (simp_all; omega)) .nil))))))))
           · exact gN rfl rfl rfl (gN rfl rfl rfl (gN rfl rfl rfl (pkf rfl rfl rfl rfl (asg rfl rfl (rbe rfl (by first | exact bt (by omega) | exact bf (by omega) | exact bi (by omega) | exact bn (by omega) | (simp_all; done) | (simp_all; omega)) .nil)))))
         · refine tn (rt (rb (tr (r1 Tryz.results25 rfl ?_))))
           exact ⟨_, rfl, congrArg Value.bool (by first | (refine decide_eq_decide.2 ?_; unfold folS; (repeat' split) <;> omega) | (refine (decide_eq_false ?_).symm; unfold folS; (repeat' split) <;> omega) | (refine (decide_eq_true ?_).symm; unfold folS; (repeat' split) <;> omega)), ((((q1.next q2).next q3).next q4).next q8)⟩
   · refine sr (eq' rfl rfl rfl (asg rfl rfl (nn ?_)))
     refine cd rfl (fun c3 => ?_) (fun c3 => ?_)
     · refine sr (fad rfl fa41_2 rfl (s_fad2 rfl fa39_0 rfl ?_))
       replace hb3 := hb3.ext q4
       refine s_loadB rfl hb3 rfl na37 rfl (fad rfl fa41_2 rfl (s_fad2 rfl fa39_0 rfl ?_))
       replace hb4 := hb4.ext (q3.next q4)
       refine s_loadB rfl hb4 rfl na37 rfl (eq' rfl rfl rfl (asg rfl rfl (kpL [(6, _)] (.cons rfl .nil) (nn (rt (rb (tr (r1 Tryz.results25 rfl ?_))))))))
       exact ⟨_, rfl, congrArg Value.bool (by first | (refine decide_eq_decide.2 ?_; unfold folS; (repeat' split) <;> omega) | (refine (decide_eq_false ?_).symm; unfold folS; (repeat' split) <;> omega) | (refine (decide_eq_true ?_).symm; unfold folS; (repeat' split) <;> omega)), (((q1.next q2).next q3).next q4)⟩
     · refine sk (bn' (tn (sr (asg rfl rfl (nn (rt (r1 Tryz.results25 rfl ?_)))))))
       exact ⟨_, rfl, congrArg Value.bool (by first | (refine decide_eq_decide.2 ?_; unfold folS; (repeat' split) <;> omega) | (refine (decide_eq_false ?_).symm; unfold folS; (repeat' split) <;> omega) | (refine (decide_eq_true ?_).symm; unfold folS; (repeat' split) <;> omega)), (((q1.next q2).next q3).next q4)⟩
theorem valid_ok (v : Value) (os : List MOp) (w0 : World) (hs : Sl encOp w0 v os) : Rets Tryz.prog 17 #[v] w0 fun r w' => ∃ b : Bool, r = .bool b ∧ (b = true ↔ ((os.length : Int) ≤ 4096 ∧ ∀ o ∈ os, chkO o = 0)) ∧ Fr [] w0 w' := by
 obtain ⟨A, c, rfl, hc, hM, hA⟩ := id hs
 clear hA
 unfold maxLen at hM
 refine we [(0, .slice A os.length c)] Tryz.func17 rfl Tryz.ntmps17 rfl (.cons rfl .nil) ?_
 have hs0 := hs
 refine sr (asg rfl rfl (nn (sq (sr (mv rfl rfl (lnS rfl Tryz.underlying25 rfl (gt' rfl rfl rfl (nn ?_))))))))
 refine cd rfl (fun c0 => ?_) (fun c0 => ?_)
 · refine sr (asg rfl rfl (nn (rt (tr (r1 Tryz.results17 rfl ?_)))))
   exact ⟨_, rfl, false, rfl, ⟨(fun h => by cases h), fun h => absurd h.1 (by omega)⟩, (Fr.refl _ _)⟩
 · refine sk (tn (sq (sr (mv rfl rfl (lnS rfl Tryz.underlying25 rfl (mv rfl rfl (nn (bl ?_))))))))
   refine lpK (ι := Nat) [(8, _), (9, _)] (fun i => [(10, .int .i64 (i : Int))]) (fun i w' => Fr [] w0 w' ∧ i ≤ os.length ∧ ∀ j, j < i → chkO (os.getD j op0) = 0) (fun i => os.length - i) 0 (.cons rfl (.cons rfl (.cons rfl .nil))) ⟨Fr.refl _ _, ⟨by omega, fun j hj => absurd hj (by omega)⟩⟩ ?_
   rintro i w1 ⟨q1, ⟨hi, hck⟩⟩
   have z1 := q1.size
   refine kpC [(8, _), (9, _), (10, _)] (.cons rfl (.cons rfl (.cons rfl .nil))) ?_
   refine sr (lt' rfl rfl rfl (nn (sq ?_)))
   refine cd rfl (fun c1 => ?_) (fun c1 => ?_)
   · refine sk (tn (sq (bl (sr ?_))))
     replace hs := hs0.ext q1
     refine s_idxL (p := i) (op0) rfl hs rfl el25 (by omega) (by omega) (by omega) rfl (fun ad12 hc12 => ?_)
     refine s_loadA rfl (hc12 _ hs) ag41 rfl (al zv41 rfl rfl (fun g4 w2 hg4 hb4 q2 z2 => ?_))
     refine s_storeBA rfl rfl hb4 rfl (by first | (simp [Value.oneCell', S]; done) | exact Enc.one _ _) sz41 (fun w3 hb4 q3 z3 => ?_)
     refine nn (sr (s_loadBA rfl hb4 ag41 rfl ?_))
     refine cl (ev1 rfl) co23 (check_ok (os.getD i op0) _) rfl ?_
     rintro _ w4 ⟨rfl, q4⟩
     have z4 := q4.size
     refine ne' rfl rfl rfl (nn ?_)
     refine cd rfl (fun c2 => ?_) (fun c2 => ?_)
     · refine sr (asg rfl rfl (nn (rt (rb (tr (tr (rb (tr (r1 Tryz.results17 rfl ?_)))))))))
       exact ⟨_, rfl, false, rfl, ⟨(fun h => by cases h), fun h => absurd (h.2 _ (mem_getD (by omega))) c2⟩, (((q1.next q2).step q3 (by first | (simp; done) | (simp; omega))).next q4)⟩
     · refine sk (bn' (tn (rg (s_add rfl rfl (wi6 (by omega)) rfl (mv rfl rfl (nl ?_))))))
       exact lpE (i + 1) (.cons rfl (.cons rfl (.cons rfl .nil))) ⟨(((q1.next q2).step q3 (by first | (simp; done) | (simp; omega))).next q4), ⟨by omega, fun j hj => by rcases Nat.lt_succ_iff_lt_or_eq.1 hj with h | rfl; exact hck j h; exact Classical.not_not.1 c2⟩⟩ (by omega)
   · obtain rfl : i = os.length := by omega
     refine ex (te (te (xh (tn (sr (asg rfl rfl (nn (rt (r1 Tryz.results17 rfl ?_)))))))))
     exact ⟨_, rfl, true, rfl, ⟨fun _ => ⟨by omega, all_of_getD hck⟩, fun _ => rfl⟩, q1⟩
end Go.Proofs.YtbalocjcbmkecaaGreatDoor
