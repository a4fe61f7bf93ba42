/- Walks. -/
import Derived.Test.YtbalocjcbmkecaaDoorRows
import Derived.Test.YtbalocjcbmkecaaDoorW9
import Derived.Test.YtbalocjcbmkecaaDoorXOp
import Derived.Test.YtbalocjcbmkecaaDoorXMap
set_option linter.unusedVariables false
set_option linter.unusedSimpArgs false
namespace Go.Proofs.YtbalocjcbmkecaaDoor
open Go.Lw
theorem co21 : CallOf Tryd.prog 21 := CallOf.mk' Tryd.func21 (by kernel_rfl) (by kernel_rfl)
theorem eqOp : EqOf Tryd.prog 31 opF := by
  intro e f ox oy w
  have hg : ∀ op, (eqGuard op 31 ox oy (opF e) (opF f)).run Tryd.prog w = .ok () w := fun op => run_eqGuard_agg w op 31 ox oy _ _ (by kernel_rfl)
  have h1 : Tryd.prog.stoodInHeld 31 = false := by kernel_rfl
  have h2 : Tryd.prog.stoodInHeld 29 = false := by kernel_rfl
  obtain ⟨k, d, b, p, y, r⟩ := e
  obtain ⟨k', d', b', p', y', r'⟩ := f
  refine ⟨hg _, hg _, ?_, ?_⟩
  · unfold opF opV
    simp [go_sem, h1, h2, Tryd.underlying31, Tryd.underlying29]
    (repeat' split) <;> simp_all
  · unfold opF opV
    simp [go_sem, h1, h2, Tryd.underlying31, Tryd.underlying29]
    (repeat' split) <;> simp_all
theorem lv0 : parseS [105, 110, 32, 51, 32, 108, 101, 102, 116] = (⟨1, 0, 0, 0, 3, 0⟩, 0) := by decide +kernel
theorem lv1 : parseS [114, 97, 99, 107, 32, 45, 50] = (⟨3, 0, 0, 0, 0, -2⟩, 0) := by decide +kernel
theorem lv2 : parseS [107, 110, 105, 116, 32, 114, 105, 103, 104, 116, 32, 102, 52, 32, 51] = (⟨4, 1, 0, 4, 3, 0⟩, 0) := by decide +kernel
theorem lv3 : parseS [120, 102, 101, 114, 32, 98, 49, 50] = (⟨7, 0, 1, 12, 0, 0⟩, 0) := by decide +kernel
theorem lv4 : parseS [111, 117, 116, 32, 54] = (⟨2, 0, 0, 0, 6, 0⟩, 0) := by decide +kernel
def badL : List (List UInt8) := [[114, 97, 99, 107, 32, 53], [114, 97, 99, 107, 32, 45, 48], [107, 110, 105, 116, 32, 102, 52, 32, 51], [105, 110, 32, 48, 55, 32, 108, 101, 102, 116]]
theorem bad_len : ∀ i, i < 4 → (badL.getD i []).length ≤ 1000000 := by decide
theorem bad_all : ∀ i, i < 4 → parseS (badL.getD i []) = (op0, 4) := by decide +kernel
theorem lvp : progS [32, 32, 114, 97, 99, 107, 32, 49, 32, 35, 32, 97, 32, 114, 101, 109, 97, 114, 107, 10, 10, 100, 114, 111, 112, 32, 102, 49] = ([⟨3, 0, 0, 0, 0, 1⟩, ⟨8, 0, 0, 1, 0, 0⟩], 0, 0) := by decide +kernel
theorem lvq : progS [114, 97, 99, 107, 32, 49, 10, 114, 97, 99, 107] = ([], 2, 4) := by decide +kernel
theorem lvA : chkO ⟨3, 0, 0, 0, 0, 5⟩ = 11 := by decide +kernel
theorem lvB : chkO ⟨3, 0, 0, 0, 1, 5⟩ = 1 := by decide +kernel
set_option maxRecDepth 10000 in
theorem lives_ok (w0 : World) (hG : Glob w0) : Rets Tryd.prog 12 #[] w0 fun r w' => r = .bool true ∧ Fr [] w0 w' := by
 have hbd : badL.length = 4 := rfl
 have hGs := hG.sz
 refine we [] Tryd.func12 rfl Tryd.ntmps12 rfl .nil ?_
 refine sr (asg rfl rfl (nn (sr (s_lit (cs := [_, _]) (ev1 rfl) bo29 (pok_cons rfl rfl rfl pok_nil) rfl rfl (al zv29 rfl rfl (fun g1 w1 hg1 hb1 q1 z1 => ?_))))))
 refine s_storeBA rfl rfl hb1 rfl (by first | (simp [Value.oneCell', S]; done) | exact Enc.one _ _) sz29 (fun w2 hb1 q2 z2 => ?_)
 refine nn (sr ?_)
 replace hG := (hG.ext q1).fr q2 (by first | (simp; done) | (simp; omega) | (simp [blks]; done) | (simp [blks]; omega) | (intro k hk hb; simp at hk; subst hk; have := (hG.blk _ hb).2; omega))
 refine cl (ev1 rfl) co14 (parse_ok _ _ hG (by decide)) rfl ?_
 rintro _ w3 ⟨o, e, hpe, rfl, q3⟩
 have z3 := q3.size
 cases hpe.symm.trans lv0
 refine mv rfl rfl (xt rfl rfl rfl (xt rfl rfl rfl (al zv31 rfl rfl (fun g2 w4 hg2 hb2 q4 z4 => ?_))))
 refine s_storeBA rfl rfl hb2 rfl (by first | (simp [Value.oneCell', S]; done) | exact Enc.one _ _) sz31 (fun w5 hb2 q5 z5 => ?_)
 refine asg rfl rfl (nn (sr ?_))
 replace hG := (hG.ext (q3.next q4)).fr q5 (by first | (simp; done) | (simp; omega) | (simp [blks]; done) | (simp [blks]; omega) | (intro k hk hb; simp at hk; subst hk; have := (hG.blk _ hb).2; omega))
 refine cl (ev1 rfl) co14 (parse_ok _ _ hG (by decide)) rfl ?_
 rintro _ w6 ⟨o, e, hpe, rfl, q6⟩
 have z6 := q6.size
 cases hpe.symm.trans lv1
 refine mv rfl rfl (xt rfl rfl rfl (xt rfl rfl rfl (al zv31 rfl rfl (fun g4 w7 hg4 hb4 q7 z7 => ?_))))
 refine s_storeBA rfl rfl hb4 rfl (by first | (simp [Value.oneCell', S]; done) | exact Enc.one _ _) sz31 (fun w8 hb4 q8 z8 => ?_)
 refine asg rfl rfl (nn (sr ?_))
 replace hG := (hG.ext (q6.next q7)).fr q8 (by first | (simp; done) | (simp; omega) | (simp [blks]; done) | (simp [blks]; omega) | (intro k hk hb; simp at hk; subst hk; have := (hG.blk _ hb).2; omega))
 refine cl (ev1 rfl) co14 (parse_ok _ _ hG (by decide)) rfl ?_
 rintro _ w9 ⟨o, e, hpe, rfl, q9⟩
 have z9 := q9.size
 cases hpe.symm.trans lv2
 refine mv rfl rfl (xt rfl rfl rfl (xt rfl rfl rfl (al zv31 rfl rfl (fun g6 w10 hg6 hb6 q10 z10 => ?_))))
 refine s_storeBA rfl rfl hb6 rfl (by first | (simp [Value.oneCell', S]; done) | exact Enc.one _ _) sz31 (fun w11 hb6 q11 z11 => ?_)
 refine asg rfl rfl (nn (sr ?_))
 replace hG := (hG.ext (q9.next q10)).fr q11 (by first | (simp; done) | (simp; omega) | (simp [blks]; done) | (simp [blks]; omega) | (intro k hk hb; simp at hk; subst hk; have := (hG.blk _ hb).2; omega))
 refine cl (ev1 rfl) co14 (parse_ok _ _ hG (by decide)) rfl ?_
 rintro _ w12 ⟨o, e, hpe, rfl, q12⟩
 have z12 := q12.size
 cases hpe.symm.trans lv3
 refine mv rfl rfl (xt rfl rfl rfl (xt rfl rfl rfl (al zv31 rfl rfl (fun g8 w13 hg8 hb8 q13 z13 => ?_))))
 refine s_storeBA rfl rfl hb8 rfl (by first | (simp [Value.oneCell', S]; done) | exact Enc.one _ _) sz31 (fun w14 hb8 q14 z14 => ?_)
 refine asg rfl rfl (nn (sr ?_))
 replace hG := (hG.ext (q12.next q13)).fr q14 (by first | (simp; done) | (simp; omega) | (simp [blks]; done) | (simp [blks]; omega) | (intro k hk hb; simp at hk; subst hk; have := (hG.blk _ hb).2; omega))
 refine cl (ev1 rfl) co14 (parse_ok _ _ hG (by decide)) rfl ?_
 rintro _ w15 ⟨o, e, hpe, rfl, q15⟩
 have z15 := q15.size
 cases hpe.symm.trans lv4
 refine mv rfl rfl (xt rfl rfl rfl (xt rfl rfl rfl (al zv31 rfl rfl (fun g10 w16 hg10 hb10 q16 z16 => ?_))))
 refine s_storeBA rfl rfl hb10 rfl (by first | (simp [Value.oneCell', S]; done) | exact Enc.one _ _) sz31 (fun w17 hb10 q17 z17 => ?_)
 refine asg rfl rfl (nn (sq (sq ?_)))
 refine rbo (r := 85) (L' := []) (False) .nil ?_ ?_
 · replace hb2 := (((((((hb2.ext (q6.next q7)).fr q8 (by first | (simp; done) | (simp; omega) | (simp [blks]; done) | (simp [blks]; omega))).ext (q9.next q10)).fr q11 (by first | (simp; done) | (simp; omega) | (simp [blks]; done) | (simp [blks]; omega))).ext (q12.next q13)).fr q14 (by first | (simp; done) | (simp; omega) | (simp [blks]; done) | (simp [blks]; omega))).ext (q15.next q16)).fr q17 (by first | (simp; done) | (simp; omega) | (simp [blks]; done) | (simp [blks]; omega))
   refine s_loadBA rfl hb2 ag31 rfl (s_lit (cs := [_, _, _, _, _, _]) (ev2 rfl rfl) bo31 (pok_cons rfl rfl rfl (pok_cons rfl rfl rfl pok_nil)) rfl rfl (s_neV (V := opF) (e := ⟨_, _, _, _, _, _⟩) (f := ⟨_, _, _, _, _, _⟩) rfl rfl eqOp rfl (mv rfl rfl ?_)))
   refine gs 44 rfl (fun g0 => ?_) (fun g0 => ?_)
   · refine gN rfl rfl rfl (gN rfl rfl rfl (gN rfl rfl rfl (pkt rfl rfl rfl rfl (mv rfl rfl (gN rfl rfl rfl (gN rfl rfl rfl (gN rfl rfl rfl (gN rfl rfl rfl (pkt rfl rfl rfl rfl (mv rfl rfl (gN rfl rfl rfl ?_)))))))))))
     refine gN rfl rfl rfl (gN rfl rfl rfl (gN rfl rfl rfl (pkt rfl rfl rfl rfl (mv rfl rfl (gN rfl rfl rfl (gN rfl rfl rfl (gN rfl rfl rfl (pkt rfl rfl rfl rfl (mv rfl rfl (gN rfl rfl rfl (gN rfl rfl rfl ?_)))))))))))
     refine pkt rfl rfl rfl rfl (mv rfl rfl (gN rfl rfl rfl (gN rfl rfl rfl (pkt rfl rfl rfl rfl (mv rfl rfl (gN rfl rfl rfl (gN rfl rfl rfl (pkt rfl rfl rfl rfl (mv rfl rfl (gN rfl rfl rfl (gN rfl rfl rfl ?_)))))))))))
     exact pkt rfl rfl rfl rfl (mv rfl rfl (gN rfl rfl rfl (gN rfl rfl rfl (pkt rfl rfl rfl rfl (rbe rfl (by first | rfl | (simp_all; done)) .nil)))))
   · refine gY rfl ?_
     replace hb4 := (((((hb4.ext (q9.next q10)).fr q11 (by first | (simp; done) | (simp; omega) | (simp [blks]; done) | (simp [blks]; omega))).ext (q12.next q13)).fr q14 (by first | (simp; done) | (simp; omega) | (simp [blks]; done) | (simp [blks]; omega))).ext (q15.next q16)).fr q17 (by first | (simp; done) | (simp; omega) | (simp [blks]; done) | (simp [blks]; omega))
     refine s_loadBA rfl hb4 ag31 rfl (gY rfl (s_lit (cs := [_, _, _, _, _, _]) (ev2 rfl rfl) bo31 (pok_cons rfl rfl rfl (pok_cons rfl rfl rfl pok_nil)) rfl rfl (gY rfl (s_neV (V := opF) (e := ⟨_, _, _, _, _, _⟩) (f := ⟨_, _, _, _, _, _⟩) rfl rfl eqOp rfl (pkf rfl rfl rfl rfl (mv rfl rfl ?_))))))
     refine gs 49 rfl (fun g1 => ?_) (fun g1 => ?_)
     · refine gN rfl rfl rfl (gN rfl rfl rfl (gN rfl rfl rfl (gN rfl rfl rfl (pkt rfl rfl rfl rfl (mv rfl rfl (gN rfl rfl rfl (gN rfl rfl rfl (gN rfl rfl rfl (gN rfl rfl rfl (pkt rfl rfl rfl rfl (mv rfl rfl ?_)))))))))))
       refine gN rfl rfl rfl (gN rfl rfl rfl (gN rfl rfl rfl (pkt rfl rfl rfl rfl (mv rfl rfl (gN rfl rfl rfl (gN rfl rfl rfl (pkt rfl rfl rfl rfl (mv rfl rfl (gN rfl rfl rfl (gN rfl rfl rfl (pkt rfl rfl rfl rfl ?_)))))))))))
       refine mv rfl rfl (gN rfl rfl rfl (gN rfl rfl rfl (pkt rfl rfl rfl rfl (mv rfl rfl (gN rfl rfl rfl (gN rfl rfl rfl (pkt rfl rfl rfl rfl (mv rfl rfl (gN rfl rfl rfl (gN rfl rfl rfl (pkt rfl rfl rfl rfl ?_)))))))))))
       exact rbe rfl (by first | rfl | (simp_all; done)) .nil
     · refine gY rfl ?_
       replace hb6 := (((hb6.ext (q12.next q13)).fr q14 (by first | (simp; done) | (simp; omega) | (simp [blks]; done) | (simp [blks]; omega))).ext (q15.next q16)).fr q17 (by first | (simp; done) | (simp; omega) | (simp [blks]; done) | (simp [blks]; omega))
       refine s_loadBA rfl hb6 ag31 rfl (gY rfl ?_)
       replace hb1 := (((((((((hb1.ext (q3.next q4)).fr q5 (by first | (simp; done) | (simp; omega) | (simp [blks]; done) | (simp [blks]; omega))).ext (q6.next q7)).fr q8 (by first | (simp; done) | (simp; omega) | (simp [blks]; done) | (simp [blks]; omega))).ext (q9.next q10)).fr q11 (by first | (simp; done) | (simp; omega) | (simp [blks]; done) | (simp [blks]; omega))).ext (q12.next q13)).fr q14 (by first | (simp; done) | (simp; omega) | (simp [blks]; done) | (simp [blks]; omega))).ext (q15.next q16)).fr q17 (by first | (simp; done) | (simp; omega) | (simp [blks]; done) | (simp [blks]; omega))
       refine s_loadBA rfl hb1 ag29 rfl (gY rfl (s_lit (cs := [_, _, _, _, _, _]) (ev4 rfl rfl rfl rfl) bo31 (pok_cons rfl rfl rfl (pok_cons rfl rfl rfl (pok_cons rfl rfl rfl (pok_cons rfl rfl rfl pok_nil)))) rfl rfl (gY rfl (s_neV (V := opF) (e := ⟨_, _, _, _, _, _⟩) (f := ⟨_, _, _, _, _, _⟩) rfl rfl eqOp rfl (pkf rfl rfl rfl rfl (mv rfl rfl ?_))))))
       refine gs 55 rfl (fun g2 => ?_) (fun g2 => ?_)
       · refine gN rfl rfl rfl (gN rfl rfl rfl (gN rfl rfl rfl (gN rfl rfl rfl (pkt rfl rfl rfl rfl (mv rfl rfl (gN rfl rfl rfl (gN rfl rfl rfl (gN rfl rfl rfl (pkt rfl rfl rfl rfl (mv rfl rfl (gN rfl rfl rfl ?_)))))))))))
         refine gN rfl rfl rfl (pkt rfl rfl rfl rfl (mv rfl rfl (gN rfl rfl rfl (gN rfl rfl rfl (pkt rfl rfl rfl rfl (mv rfl rfl (gN rfl rfl rfl (gN rfl rfl rfl (pkt rfl rfl rfl rfl (mv rfl rfl (gN rfl rfl rfl ?_)))))))))))
         exact gN rfl rfl rfl (pkt rfl rfl rfl rfl (mv rfl rfl (gN rfl rfl rfl (gN rfl rfl rfl (pkt rfl rfl rfl rfl (rbe rfl (by first | rfl | (simp_all; done)) .nil))))))
       · refine gY rfl ?_
         replace hb8 := (hb8.ext (q15.next q16)).fr q17 (by first | (simp; done) | (simp; omega) | (simp [blks]; done) | (simp [blks]; omega))
         refine s_loadBA rfl hb8 ag31 rfl (gY rfl (s_lit (cs := [_, _]) (ev2 rfl rfl) bo29 (pok_cons rfl rfl rfl (pok_cons rfl rfl rfl pok_nil)) rfl rfl (gY rfl (s_lit (cs := [_, _, _, _, _, _]) (ev2 rfl rfl) bo31 (pok_cons rfl rfl rfl (pok_cons rfl rfl rfl pok_nil)) rfl rfl (gY rfl (s_neV (V := opF) (e := ⟨_, _, _, _, _, _⟩) (f := ⟨_, _, _, _, _, _⟩) rfl rfl eqOp rfl (pkf rfl rfl rfl rfl (mv rfl rfl ?_))))))))
         refine gs 61 rfl (fun g3 => ?_) (fun g3 => ?_)
         · refine gN rfl rfl rfl (gN rfl rfl rfl (gN rfl rfl rfl (pkt rfl rfl rfl rfl (mv rfl rfl (gN rfl rfl rfl (gN rfl rfl rfl (pkt rfl rfl rfl rfl (mv rfl rfl (gN rfl rfl rfl (gN rfl rfl rfl (pkt rfl rfl rfl rfl ?_)))))))))))
           refine mv rfl rfl (gN rfl rfl rfl (gN rfl rfl rfl (pkt rfl rfl rfl rfl (mv rfl rfl (gN rfl rfl rfl (gN rfl rfl rfl (pkt rfl rfl rfl rfl (mv rfl rfl (gN rfl rfl rfl (gN rfl rfl rfl (pkt rfl rfl rfl rfl ?_)))))))))))
           exact rbe rfl (by first | rfl | (simp_all; done)) .nil
         · refine gY rfl (s_loadBA rfl hb10 ag31 rfl (gY rfl (s_lit (cs := [_, _, _, _, _, _]) (ev2 rfl rfl) bo31 (pok_cons rfl rfl rfl (pok_cons rfl rfl rfl pok_nil)) rfl rfl (gY rfl (s_neV (V := opF) (e := ⟨_, _, _, _, _, _⟩) (f := ⟨_, _, _, _, _, _⟩) rfl rfl eqOp rfl (pkf rfl rfl rfl rfl (mv rfl rfl ?_)))))))
           refine gs 66 rfl (fun g4 => ?_) (fun g4 => ?_)
           · refine gN rfl rfl rfl (gN rfl rfl rfl (pkt rfl rfl rfl rfl (mv rfl rfl (gN rfl rfl rfl (gN rfl rfl rfl (pkt rfl rfl rfl rfl (mv rfl rfl (gN rfl rfl rfl (gN rfl rfl rfl (pkt rfl rfl rfl rfl (mv rfl rfl ?_)))))))))))
             exact gN rfl rfl rfl (gN rfl rfl rfl (pkt rfl rfl rfl rfl (mv rfl rfl (gN rfl rfl rfl (gN rfl rfl rfl (pkt rfl rfl rfl rfl (rbe rfl (by first | rfl | (simp_all; done)) .nil)))))))
           · refine gY rfl (mv rfl rfl (gY rfl (ne' rfl rfl rfl (pkf rfl rfl rfl rfl (mv rfl rfl ?_)))))
             refine gs 70 rfl (fun g5 => ?_) (fun g5 => ?_)
             · refine gN rfl rfl rfl (gN rfl rfl rfl (pkt rfl rfl rfl rfl (mv rfl rfl (gN rfl rfl rfl (gN rfl rfl rfl (pkt rfl rfl rfl rfl (mv rfl rfl (gN rfl rfl rfl (gN rfl rfl rfl (pkt rfl rfl rfl rfl (mv rfl rfl ?_)))))))))))
               exact gN rfl rfl rfl (gN rfl rfl rfl (pkt rfl rfl rfl rfl (rbe rfl (by first | rfl | (simp_all; done)) .nil)))
             · refine gY rfl (mv rfl rfl (gY rfl (ne' rfl rfl rfl (pkf rfl rfl rfl rfl (mv rfl rfl ?_)))))
               refine gs 74 rfl (fun g6 => ?_) (fun g6 => ?_)
               · exact gN rfl rfl rfl (gN rfl rfl rfl (pkt rfl rfl rfl rfl (mv rfl rfl (gN rfl rfl rfl (gN rfl rfl rfl (pkt rfl rfl rfl rfl (mv rfl rfl (gN rfl rfl rfl (gN rfl rfl rfl (pkt rfl rfl rfl rfl (rbe rfl (by first | rfl | (simp_all; done)) .nil)))))))))))
               · refine gY rfl (mv rfl rfl (gY rfl (ne' rfl rfl rfl (pkf rfl rfl rfl rfl (mv rfl rfl ?_)))))
                 refine gs 78 rfl (fun g7 => ?_) (fun g7 => ?_)
                 · exact gN rfl rfl rfl (gN rfl rfl rfl (pkt rfl rfl rfl rfl (mv rfl rfl (gN rfl rfl rfl (gN rfl rfl rfl (pkt rfl rfl rfl rfl (rbe rfl (by first | rfl | (simp_all; done)) .nil)))))))
                 · refine gY rfl (mv rfl rfl (gY rfl (ne' rfl rfl rfl (pkf rfl rfl rfl rfl (mv rfl rfl ?_)))))
                   refine gs 82 rfl (fun g8 => ?_) (fun g8 => ?_)
                   · exact gN rfl rfl rfl (gN rfl rfl rfl (pkt rfl rfl rfl rfl (rbe rfl (by first | rfl | (simp_all; done)) .nil)))
                   · exact gY rfl (mv rfl rfl (gY rfl (ne' rfl rfl rfl (pkf rfl rfl rfl rfl (rbe rfl (by first | rfl | (simp_all; done)) .nil)))))
 · refine tn ?_
   refine cd rfl (fun c0 => ?_) (fun c0 => ?_)
   · exact c0.elim
   · refine sk (tn (sr (s_bslice (badL) (ev4 rfl rfl rfl rfl) rfl rfl rfl el40 (Nat.le_of_ble_eq_true rfl) rfl (fun g86 w18 hg86 ho86 q18 z18 => ?_))))
     refine asg rfl rfl (nn (sq (sr (asg rfl rfl (nn (bl ?_))))))
     refine lpK (ι := Nat) [(12, _)] (fun i => [(13, .int .i64 (i : Int))]) (fun i w' => Fr [] w18 w' ∧ i ≤ 4) (fun i => 4 - i) 0 (.cons rfl (.cons rfl .nil)) ⟨Fr.refl _ _, by omega⟩ ?_
     rintro i w19 ⟨q19, hi⟩
     have z19 := q19.size
     refine kpC [(12, _), (13, _)] (.cons rfl (.cons rfl .nil)) ?_
     refine sq (sr (mv rfl rfl (mv rfl rfl (lnS rfl Tryd.underlying40 rfl (lt' rfl rfl rfl (nn ?_))))))
     refine cd rfl (fun c1 => ?_) (fun c1 => ?_)
     · refine sk (tn (sq (bl (sr (mv rfl rfl (mv rfl rfl ?_))))))
       replace ho86 := ho86.ext q19
       refine s_idxL (p := i) ([]) rfl ho86.sl rfl el40 (by omega) (by omega) (by omega) rfl (fun ad96 hc96 => ?_)
       refine s_loadC0 rfl (hc96 _ ho86.sl) na9 rfl ?_
       replace hG := ((hG.ext (q15.next q16)).fr q17 (by first | (simp; done) | (simp; omega) | (simp [blks]; done) | (simp [blks]; omega) | (intro k hk hb; simp at hk; subst hk; have := (hG.blk _ hb).2; omega))).ext (q18.next q19)
       refine cl (ev1 rfl) co14 (parse_ok _ _ hG (bad_len i (by omega))) rfl ?_
       rintro _ w20 ⟨o, e, hpe, rfl, q20⟩
       have z20 := q20.size
       cases hpe.symm.trans (bad_all i (by omega))
       refine mv rfl rfl (xt rfl rfl rfl (xt rfl rfl rfl (al zv31 rfl rfl (fun g14 w21 hg14 hb14 q21 z21 => ?_))))
       refine s_storeBA rfl rfl hb14 rfl (by first | (simp [Value.oneCell', S]; done) | exact Enc.one _ _) sz31 (fun w22 hb14 q22 z22 => ?_)
       refine asg rfl rfl (kpL [(12, _), (13, _), (15, _)] (.cons rfl (.cons rfl (.cons rfl .nil))) (nn (sr (mv rfl rfl (ne' rfl rfl rfl (nn ?_))))))
       refine cd rfl (fun c2 => ?_) (fun c2 => ?_)
       · exact absurd rfl c2
       · refine sk (bn' (tn (rg (mv rfl rfl (s_add rfl rfl (wi6 (by omega)) rfl (asg rfl rfl (nl ?_)))))))
         exact lpE (i + 1) (.cons rfl (.cons rfl .nil)) ⟨(((q19.next q20).next q21).step q22 (by first | (simp; done) | (simp; omega))), by omega⟩ (by omega)
     · obtain rfl : i = 4 := by omega
       refine ex (te (te (xh (tn (sr ?_)))))
       replace hG := ((hG.ext (q15.next q16)).fr q17 (by first | (simp; done) | (simp; omega) | (simp [blks]; done) | (simp [blks]; omega) | (intro k hk hb; simp at hk; subst hk; have := (hG.blk _ hb).2; omega))).ext (q18.next q19)
       refine cl (ev1 rfl) co21 (program_ok _ _ hG (by decide)) rfl ?_
       rintro _ w23 ⟨A1, os, n, e, hpe, rfl, hos, q23⟩
       have z23 := q23.size
       cases hpe.symm.trans lvp
       refine mv rfl rfl (xt rfl rfl rfl (xt rfl rfl rfl (xt rfl rfl rfl (asg rfl rfl (asg rfl rfl (asg rfl rfl (kpL [(3, _), (16, _), (17, _)] (.cons rfl (.cons rfl (.cons rfl .nil))) (nn (sr ?_)))))))))
       replace hG := hG.ext q23
       refine cl (ev1 rfl) co21 (program_ok _ _ hG (by decide)) rfl ?_
       rintro _ w24 ⟨A2, os, n, e, hpe, rfl, hos2, q24⟩
       have z24 := q24.size
       cases hpe.symm.trans lvq
       refine mv rfl rfl (xt rfl rfl rfl (xt rfl rfl rfl (xt rfl rfl rfl (asg rfl rfl (asg rfl rfl (asg rfl rfl (nn (sq ?_))))))))
       refine rboF (r := 0) (L' := []) (True) .nil ?_ ?_
       · refine mv rfl rfl (lnS rfl Tryd.underlying45 rfl (eq' rfl rfl rfl (mv rfl rfl ?_)))
         refine gs 116 rfl (fun g9 => ?_) (fun g9 => ?_)
         · refine gY rfl (mv rfl rfl (gY rfl (eq' rfl rfl rfl (pkt rfl rfl rfl rfl (mv rfl rfl ?_)))))
           refine gs 120 rfl (fun g10 => ?_) (fun g10 => ?_)
           · refine gY rfl (mv rfl rfl (gY rfl (eq' rfl rfl rfl (pkt rfl rfl rfl rfl (mv rfl rfl ?_)))))
             refine gs 124 rfl (fun g11 => ?_) (fun g11 => ?_)
             · refine gY rfl (mv rfl rfl (gY rfl (lnS rfl Tryd.underlying45 rfl (gY rfl (eq' rfl rfl rfl (pkt rfl rfl rfl rfl (mv rfl rfl ?_)))))))
               refine gs 129 rfl (fun g12 => ?_) (fun g12 => ?_)
               · refine gY rfl (mv rfl rfl (gY rfl (eq' rfl rfl rfl (pkt rfl rfl rfl rfl (mv rfl rfl ?_)))))
                 refine gs 133 rfl (fun g13 => ?_) (fun g13 => ?_)
                 · refine gY rfl (mv rfl rfl (gY rfl (eq' rfl rfl rfl (pkt rfl rfl rfl rfl (mv rfl rfl ?_)))))
                   refine gs 137 rfl (fun g14 => ?_) (fun g14 => ?_)
                   · refine gY rfl (s_lit (cs := [_, _, _, _, _, _]) (ev2 rfl rfl) bo31 (pok_cons rfl rfl rfl (pok_cons rfl rfl rfl pok_nil)) rfl rfl (gY rfl ?_))
                     refine cl (ev1 rfl) co16 (check_ok ⟨3, 0, 0, 0, 0, 5⟩ _) rfl ?_
                     rintro _ w25 ⟨rfl, q25⟩
                     have z25 := q25.size
                     refine gY rfl (eq' rfl rfl rfl (pkt rfl rfl rfl rfl (mv rfl rfl ?_)))
                     refine gs 142 rfl (fun g15 => ?_) (fun g15 => ?_)
                     · refine gY rfl (s_lit (cs := [_, _, _, _, _, _]) (ev3 rfl rfl rfl) bo31 (pok_cons rfl rfl rfl (pok_cons rfl rfl rfl (pok_cons rfl rfl rfl pok_nil))) rfl rfl (gY rfl ?_))
                       refine cl (ev1 rfl) co16 (check_ok ⟨3, 0, 0, 0, 1, 5⟩ _) rfl ?_
                       rintro _ w26 ⟨rfl, q26⟩
                       have z26 := q26.size
                       exact gY rfl (eq' rfl rfl rfl (pkt rfl rfl rfl rfl (asg rfl rfl (rbeF rfl (by first | rfl | (simp_all [lvA, lvB]; done)) .nil (q25.next q26)))))
                     · exact gN rfl rfl rfl (gN rfl rfl rfl (gN rfl rfl rfl (pkf rfl rfl rfl rfl (asg rfl rfl (rbeF rfl (by first | rfl | (simp_all [lvA, lvB]; done)) .nil q25)))))
                   · exact gN rfl rfl rfl (gN rfl rfl rfl (gN rfl rfl rfl (pkf rfl rfl rfl rfl (mv rfl rfl (gN rfl rfl rfl (gN rfl rfl rfl (gN rfl rfl rfl (pkf rfl rfl rfl rfl (asg rfl rfl (rbeF rfl (by first | rfl | (simp_all [lvA, lvB]; done)) .nil (Fr.refl _ _)))))))))))
                 · refine gN rfl rfl rfl (gN rfl rfl rfl (pkf rfl rfl rfl rfl (mv rfl rfl (gN rfl rfl rfl (gN rfl rfl rfl (gN rfl rfl rfl (pkf rfl rfl rfl rfl (mv rfl rfl (gN rfl rfl rfl (gN rfl rfl rfl (gN rfl rfl rfl ?_)))))))))))
                   exact pkf rfl rfl rfl rfl (asg rfl rfl (rbeF rfl (by first | rfl | (simp_all [lvA, lvB]; done)) .nil (Fr.refl _ _)))
               · refine gN rfl rfl rfl (gN rfl rfl rfl (pkf rfl rfl rfl rfl (mv rfl rfl (gN rfl rfl rfl (gN rfl rfl rfl (pkf rfl rfl rfl rfl (mv rfl rfl (gN rfl rfl rfl (gN rfl rfl rfl (gN rfl rfl rfl (pkf rfl rfl rfl rfl ?_)))))))))))
                 exact mv rfl rfl (gN rfl rfl rfl (gN rfl rfl rfl (gN rfl rfl rfl (pkf rfl rfl rfl rfl (asg rfl rfl (rbeF rfl (by first | rfl | (simp_all [lvA, lvB]; done)) .nil (Fr.refl _ _)))))))
             · refine gN rfl rfl rfl (gN rfl rfl rfl (gN rfl rfl rfl (pkf rfl rfl rfl rfl (mv rfl rfl (gN rfl rfl rfl (gN rfl rfl rfl (pkf rfl rfl rfl rfl (mv rfl rfl (gN rfl rfl rfl (gN rfl rfl rfl (pkf rfl rfl rfl rfl ?_)))))))))))
               exact mv rfl rfl (gN rfl rfl rfl (gN rfl rfl rfl (gN rfl rfl rfl (pkf rfl rfl rfl rfl (mv rfl rfl (gN rfl rfl rfl (gN rfl rfl rfl (gN rfl rfl rfl (pkf rfl rfl rfl rfl (asg rfl rfl (rbeF rfl (by first | rfl | (simp_all [lvA, lvB]; done)) .nil (Fr.refl _ _))))))))))))
           · refine gN rfl rfl rfl (gN rfl rfl rfl (pkf rfl rfl rfl rfl (mv rfl rfl (gN rfl rfl rfl (gN rfl rfl rfl (gN rfl rfl rfl (pkf rfl rfl rfl rfl (mv rfl rfl (gN rfl rfl rfl (gN rfl rfl rfl (pkf rfl rfl rfl rfl ?_)))))))))))
             refine mv rfl rfl (gN rfl rfl rfl (gN rfl rfl rfl (pkf rfl rfl rfl rfl (mv rfl rfl (gN rfl rfl rfl (gN rfl rfl rfl (gN rfl rfl rfl (pkf rfl rfl rfl rfl (mv rfl rfl (gN rfl rfl rfl (gN rfl rfl rfl ?_)))))))))))
             exact gN rfl rfl rfl (pkf rfl rfl rfl rfl (asg rfl rfl (rbeF rfl (by first | rfl | (simp_all [lvA, lvB]; done)) .nil (Fr.refl _ _))))
         · refine gN rfl rfl rfl (gN rfl rfl rfl (pkf rfl rfl rfl rfl (mv rfl rfl (gN rfl rfl rfl (gN rfl rfl rfl (pkf rfl rfl rfl rfl (mv rfl rfl (gN rfl rfl rfl (gN rfl rfl rfl (gN rfl rfl rfl (pkf rfl rfl rfl rfl ?_)))))))))))
           refine mv rfl rfl (gN rfl rfl rfl (gN rfl rfl rfl (pkf rfl rfl rfl rfl (mv rfl rfl (gN rfl rfl rfl (gN rfl rfl rfl (pkf rfl rfl rfl rfl (mv rfl rfl (gN rfl rfl rfl (gN rfl rfl rfl (gN rfl rfl rfl ?_)))))))))))
           exact pkf rfl rfl rfl rfl (mv rfl rfl (gN rfl rfl rfl (gN rfl rfl rfl (gN rfl rfl rfl (pkf rfl rfl rfl rfl (asg rfl rfl (rbeF rfl (by first | rfl | (simp_all [lvA, lvB]; done)) .nil (Fr.refl _ _))))))))
       · intro w27 q27; have z27 := q27.size
         refine tn (rt (r1 Tryd.results12 rfl ?_))
         exact ⟨_, rfl, rfl, (((((((((((((((((((((q1.step q2 (by first | (simp; done) | (simp; omega))).next q3).next q4).step q5 (by first | (simp; done) | (simp; omega))).next q6).next q7).step q8 (by first | (simp; done) | (simp; omega))).next q9).next q10).step q11 (by first | (simp; done) | (simp; omega))).next q12).next q13).step q14 (by first | (simp; done) | (simp; omega))).next q15).next q16).step q17 (by first | (simp; done) | (simp; omega))).next q18).next q19).next q23).next q24).next q27)⟩
end Go.Proofs.YtbalocjcbmkecaaDoor
