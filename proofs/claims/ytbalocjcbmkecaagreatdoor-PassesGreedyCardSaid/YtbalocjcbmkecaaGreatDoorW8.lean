/- Walks. -/
import Derived.Test.YtbalocjcbmkecaaGreatDoorRows
import Derived.Test.YtbalocjcbmkecaaGreatDoorW7
import Derived.Test.YtbalocjcbmkecaaGreatDoorXOp
import Derived.Test.YtbalocjcbmkecaaGreatDoorXMap
set_option linter.unusedVariables false
set_option linter.unusedSimpArgs false
namespace Go.Proofs.YtbalocjcbmkecaaGreatDoor
open Go.Lw
theorem co28 : CallOf Tryz.prog 28 := CallOf.mk' Tryz.func28 (by kernel_rfl) (by kernel_rfl)
theorem co42 : CallOf Tryz.prog 42 := CallOf.mk' Tryz.func42 (by kernel_rfl) (by kernel_rfl)
theorem co43 : CallOf Tryz.prog 43 := CallOf.mk' Tryz.func43 (by kernel_rfl) (by kernel_rfl)
theorem parse_ok (l : List UInt8) (w0 : World) (hG : Glob w0) (hl : l.length ≤ 1000000) : Rets Tryz.prog 31 #[S l] w0 fun r w' => ∃ o e, parseS l = (o, e) ∧ r = .tuple #[opV o, .int .i64 e] ∧ Fr [] w0 w' := by
 have hGs := hG.sz
 refine we [(0, S l)] Tryz.func31 rfl Tryz.ntmps31 rfl (.cons rfl .nil) ?_
 refine sr (al zv41 rfl rfl (fun g2 w1 hg2 hb2 q1 z1 => ?_))
 refine asg rfl rfl (nn (sr (mv rfl rfl ?_)))
 replace hG := hG.ext q1
 refine cl (ev2 rfl rfl) co28 (split_ok _ _ _ hG (by omega) (by decide)) rfl ?_
 rintro v6 w2 ⟨ho6, q2⟩
 have z2 := q2.size
 replace hG := hG.ext q2
 refine cl (ev1 rfl) co42 (guess_ok _ _ _ hG ho6.sl (split_pos _ _) (fun i => Nat.le_trans (split_len _ _ i) hl)) rfl ?_
 rintro _ w3 ⟨rfl, q3⟩
 have z3 := q3.size
 refine al zv41 rfl rfl (fun g4 w4 hg4 hb4 q4 z4 => ?_)
 refine s_storeBA rfl rfl hb4 rfl (by first | (simp [Value.oneCell', S]; done) | exact Enc.one _ _) sz41 (fun w5 hb4 q5 z5 => ?_)
 refine nn (sq (sq ?_))
 refine rboF (r := 16) (L' := [(2, _), (4, _)]) ((((chkO (guessS (Lib.split l [32]))) ≠ 0) ∨ ((txtO (guessS (Lib.split l [32]))) ≠ l))) (.cons rfl (.cons rfl .nil)) ?_ ?_
 · refine s_loadBA rfl hb4 ag41 rfl ?_
   refine cl (ev1 rfl) co23 (check_ok (guessS (Lib.split l [32])) _) rfl ?_
   rintro _ w6 ⟨rfl, q6⟩
   have z6 := q6.size
   refine ne' rfl rfl rfl (mv rfl rfl ?_)
   refine gs 11 rfl (fun g0 => ?_) (fun g0 => ?_)
   · exact gN rfl rfl rfl (gN rfl rfl rfl (gN rfl rfl rfl (gN rfl rfl rfl (pkt rfl rfl rfl rfl (rbeF rfl (by first | exact bt (by omega) | exact bf (by omega) | exact bi (by omega) | exact bn (by omega) | (simp_all; done) | (simp_all; omega)) (.cons rfl (.cons rfl .nil)) q6)))))
   · refine gY rfl ?_
     replace hb4 := hb4.ext q6
     refine s_loadBA rfl hb4 ag41 rfl (gY rfl ?_)
     replace hG := ((hG.ext (q3.next q4)).fr q5 (by first | (simp; done) | (simp; omega) | (simp [blks]; done) | (simp [blks]; omega) | (intro k hk hb; simp at hk; subst hk; have := (hG.blk _ hb).2; omega))).ext q6
     refine cl (ev1 rfl) co43 (text_ok (guessS (Lib.split l [32])) _ hG) rfl ?_
     rintro _ w7 ⟨rfl, q7⟩
     have z7 := q7.size
     exact gY rfl (mv rfl rfl (gY rfl (s_nes rfl rfl rfl (pkf rfl rfl rfl rfl (rbeF rfl (by first | exact bt (by omega) | exact bf (by omega) | exact bi (by omega) | exact bn (by omega) | (simp_all; done) | (simp_all; omega)) (.cons rfl (.cons rfl .nil)) (q6.next q7))))))
 · intro w8 q8; have z8 := q8.size
   refine tn ?_
   refine cd rfl (fun c0 => ?_) (fun c0 => ?_)
   · refine sr (s_lit (cs := [_, _, _, _, _, _]) evs_nil bo41 pok_nil rfl rfl ?_)
     replace hb2 := ((hb2.ext ((q2.next q3).next q4)).fr q5 (by first | (simp; done) | (simp; omega) | (simp [blks]; done) | (simp [blks]; omega))).ext q8
     refine s_storeBA rfl rfl hb2 rfl (by first | (simp [Value.oneCell', S]; done) | exact Enc.one _ _) sz41 (fun w9 hb2 q9 z9 => ?_)
     refine asg rfl rfl (nn (rt (tr (rCT Tryz.results31 rfl hb2 ag41 rfl ?_))))
     exact ⟨_, rfl, op0, 4, by rw [parseS, if_pos c0], rfl, ((((((q1.next q2).next q3).next q4).step q5 (by first | (simp; done) | (simp; omega))).next q8).step q9 (by first | (simp; done) | (simp; omega)))⟩
   · refine sk (tn (sr ?_))
     replace hb4 := hb4.ext q8
     refine s_loadBA rfl hb4 ag41 rfl ?_
     replace hb2 := ((hb2.ext ((q2.next q3).next q4)).fr q5 (by first | (simp; done) | (simp; omega) | (simp [blks]; done) | (simp [blks]; omega))).ext q8
     refine s_storeBA rfl rfl hb2 rfl (by first | (simp [Value.oneCell', S]; done) | exact Enc.one _ _) sz41 (fun w10 hb2 q10 z10 => ?_)
     refine asg rfl rfl (nn (rt (rCT Tryz.results31 rfl hb2 ag41 rfl ?_)))
     exact ⟨_, rfl, (guessS (Lib.split l [32])), 0, by rw [parseS, if_neg c0], rfl, ((((((q1.next q2).next q3).next q4).step q5 (by first | (simp; done) | (simp; omega))).next q8).step q10 (by first | (simp; done) | (simp; omega)))⟩
end Go.Proofs.YtbalocjcbmkecaaGreatDoor
