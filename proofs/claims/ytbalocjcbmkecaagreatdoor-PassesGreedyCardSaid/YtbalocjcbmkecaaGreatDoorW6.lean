/- Walks. -/
import Derived.Test.YtbalocjcbmkecaaGreatDoorRows
import Derived.Test.YtbalocjcbmkecaaGreatDoorW5
import Derived.Test.YtbalocjcbmkecaaGreatDoorXOp
import Derived.Test.YtbalocjcbmkecaaGreatDoorXMap
set_option linter.unusedVariables false
set_option linter.unusedSimpArgs false
namespace Go.Proofs.YtbalocjcbmkecaaGreatDoor
open Go.Lw
theorem el111 : ElemOf Tryz.prog 111 5 Enc.b 1 := ElemOf.mk' (z := (.int .u8 0)) Tryz.underlying111 (by kernel_rfl) rfl
theorem sz37 : SizeOf Tryz.prog 37 1 := fun _ => by kernel_rfl
theorem nparse_ok (l : List UInt8) (w0 : World) (hG : Glob w0) (hl : l.length ≤ 1000000) : Rets Tryz.prog 55 #[S l] w0 fun v w' => ∃ e, v = .tuple #[.agg #[.int .u8 (parN l).1, .int .i64 (parN l).2], e] ∧ Fr [] w0 w' := by
 have hGs := hG.sz
 refine we [(0, S l)] Tryz.func55 rfl Tryz.ntmps55 rfl (.cons rfl .nil) ?_
 refine sr (al zv39 rfl rfl (fun g2 w1 hg2 hb2 q1 z1 => ?_))
 refine asg rfl rfl (nn (sq (sq ?_)))
 refine rbo (r := 14) (L' := [(0, _), (2, _)]) ((((l.length : Int) < 2) ∨ (3 < (l.length : Int)))) (.cons rfl (.cons rfl .nil)) ?_ ?_
 · refine mv rfl rfl (ln rfl Tryz.underlying9 rfl (lt' rfl rfl rfl (mv rfl rfl ?_)))
   refine gs 10 rfl (fun g0 => ?_) (fun g0 => ?_)
   · exact gN rfl rfl rfl (gN rfl rfl rfl (gN rfl rfl rfl (pkt rfl rfl rfl rfl (rbe rfl (by first | exact bt (by omega) | exact bf (by omega) | exact bi (by omega) | exact bn (by omega) | (simp_all; done) | (simp_all; omega)) (.cons rfl (.cons rfl .nil))))))
   · exact gY rfl (mv rfl rfl (gY rfl (ln rfl Tryz.underlying9 rfl (gY rfl (gt' rfl rfl rfl (pkf rfl rfl rfl rfl (rbe rfl (by first | exact bt (by omega) | exact bf (by omega) | exact bi (by omega) | exact bn (by omega) | (simp_all; done) | (simp_all; omega)) (.cons rfl (.cons rfl .nil)))))))))
 · refine tn ?_
   refine cd rfl (fun c0 => ?_) (fun c0 => ?_)
   · refine sr (s_lit (cs := [_, _]) evs_nil bo39 pok_nil rfl rfl (s_storeBA rfl rfl hb2 rfl (by first | (simp [Value.oneCell', S]; done) | exact Enc.one _ _) sz39 (fun w2 hb2 q2 z2 => ?_)))
     refine asg rfl rfl (nn (rt (tr (rCT Tryz.results55 rfl hb2 ag39 rfl ?_))))
     exact ⟨_, rfl, _, by rw [show parN l = (0, 0) from by rw [parN, if_pos c0]], (q1.step q2 (by first | (simp; done) | (simp; omega)))⟩
   · refine sk (tn (sr (s_lit (cs := [_, _]) evs_nil bo39 pok_nil rfl rfl (al zv39 rfl rfl (fun g4 w3 hg4 hb4 q3 z3 => ?_)))))
     refine s_storeBA rfl rfl hb4 rfl (by first | (simp [Value.oneCell', S]; done) | exact Enc.one _ _) sz39 (fun w4 hb4 q4 z4 => ?_)
     refine nn ?_
     refine jn (ι := Int) [(0, _), (2, _), (4, _)] (fun b => []) (fun b w' => Fr [g4] w4 w' ∧ parB l = some b ∧ (b = 0 ∨ b = 1) ∧ Blk w' g4 39 [.int .u8 b, .int .i64 0]) (.cons rfl (.cons rfl (.cons rfl .nil))) ?_ ?_
     · refine sr (mv rfl rfl (s_index (p := 0) rfl rfl Tryz.underlying9 (by omega) (by omega) rfl rfl (fun hy18 => ?_)))
       refine nn (bl (sr (eq' rfl rfl rfl (asg rfl rfl (nn ?_)))))
       refine cd rfl (fun c1 => ?_) (fun c1 => ?_)
       · refine rg (fad rfl fa39_0 rfl (s_storeB rfl rfl hb4 rfl rfl rfl sz37 (fun w5 hb4 q5 z5 => ?_)))
         replace hb4 : Blk w5 g4 _ [_, _] := hb4
         refine nl (bn' ?_)
         exact jE (_) (.cons rfl (.cons rfl (.cons rfl .nil))) ⟨((Fr.refl [g4] _).step q5 (by first | (simp; done) | (simp; omega))), ⟨by rw [parB, if_pos c1], by omega, hb4⟩⟩
       · skip
         refine sr (eq' rfl rfl rfl (asg rfl rfl (nn ?_)))
         refine cd rfl (fun c2 => ?_) (fun c2 => ?_)
         · refine rg (fad rfl fa39_0 rfl (s_storeB rfl rfl hb4 rfl rfl rfl sz37 (fun w6 hb4 q6 z6 => ?_)))
           replace hb4 : Blk w6 g4 _ [_, _] := hb4
           refine nl (bn' ?_)
           exact jE (_) (.cons rfl (.cons rfl (.cons rfl .nil))) ⟨((Fr.refl [g4] _).step q6 (by first | (simp; done) | (simp; omega))), ⟨by rw [parB, if_neg c1, if_pos c2], by omega, hb4⟩⟩
         · refine sr (s_lit (cs := [_, _]) evs_nil bo39 pok_nil rfl rfl ?_)
           replace hb2 := (hb2.ext q3).fr q4 (by first | (simp; done) | (simp; omega) | (simp [blks]; done) | (simp [blks]; omega))
           refine s_storeBA rfl rfl hb2 rfl (by first | (simp [Value.oneCell', S]; done) | exact Enc.one _ _) sz39 (fun w7 hb2 q7 z7 => ?_)
           refine asg rfl rfl (nn (rt (rb (tr (rCT Tryz.results55 rfl hb2 ag39 rfl ?_)))))
           exact ⟨_, rfl, _, by rw [show parN l = (0, 0) from by rw [parN, if_neg c0, show parB l = none from by rw [parB, if_neg c1, if_neg c2]]], (((q1.next q3).step q4 (by first | (simp; done) | (simp; omega))).step q7 (by first | (simp; done) | (simp; omega)))⟩
     · rintro b w8 ⟨q8, ⟨hpb, hb01, hb4⟩⟩
       have z8 := q8.size
       have lt_hb4 := hb4.lt
       refine kpC [(0, _), (2, _), (4, _)] (.cons rfl (.cons rfl (.cons rfl .nil))) ?_
       have hdl : (l.drop 1).length = l.length - 1 := List.length_drop
       refine sq (sr (mv rfl rfl (s_ss_l (p := 1) rfl rfl Tryz.underlying9 (by omega) (by omega) rfl rfl (s_s2b rfl Tryz.underlying9 Tryz.underlying111 Tryz.underlying5 (by unfold maxLen; simp; omega) rfl (fun g28 c28 w9 hg28 hs28 q9 z9 => ?_)))))
       refine lnS rfl Tryz.underlying111 rfl (mv rfl rfl (nn (bl ?_)))
       replace hb4 := hb4.ext q9
       refine lpK (ι := Nat) [(0, _), (2, _), (4, _), (28, _), (29, _)] (fun i => [(30, .int .i64 (i : Int))]) (fun i w' => Fr [g4] w9 w' ∧ i ≤ (l.drop 1).length ∧ ((l.drop 1).take i).all isDg = true ∧ Blk w' g4 39 [.int .u8 b, .int .i64 (dgVal ((l.drop 1).take i))]) (fun i => (l.drop 1).length - i) 0 (.cons rfl (.cons rfl (.cons rfl (.cons rfl (.cons rfl (.cons rfl .nil)))))) ⟨Fr.refl _ _, ⟨by omega, rfl, hb4⟩⟩ ?_
       rintro i w10 ⟨q10, ⟨hi, hall, hb4⟩⟩
       have z10 := q10.size
       have lt_hb4 := hb4.lt
       refine kpC [(0, _), (2, _), (4, _), (28, _), (29, _), (30, _)] (.cons rfl (.cons rfl (.cons rfl (.cons rfl (.cons rfl (.cons rfl .nil)))))) ?_
       refine sr (lt' rfl rfl rfl (nn (sq ?_)))
       refine cd rfl (fun c3 => ?_) (fun c3 => ?_)
       · have hy6 := byte_rng ((l.drop 1).getD i 0)
         refine sk (tn (sq (bl (sr ?_))))
         replace hs28 := hs28.fr q10 (by first | (simp; done) | (simp; omega) | (simp [blks]; done) | (simp [blks]; omega))
         refine s_idxL (p := i) (0) rfl hs28 rfl el111 (by omega) (by omega) (by omega) rfl (fun ad32 hc32 => ?_)
         refine s_loadC0 rfl (hc32 _ hs28) na5 rfl (asg rfl rfl (nn (sq (sq ?_))))
         refine rbo (r := 39) (L' := [(0, _), (2, _), (4, _), (6, _), (28, _), (29, _), (30, _)]) ((((((l.drop 1).getD i 0).toNat : Int) < 48) ∨ (57 < (((l.drop 1).getD i 0).toNat : Int)))) (.cons rfl (.cons rfl (.cons rfl (.cons rfl (.cons rfl (.cons rfl (.cons rfl .nil))))))) ?_ ?_
         · refine mv rfl rfl (lt' rfl rfl rfl (mv rfl rfl ?_))
           refine gs 36 rfl (fun g1 => ?_) (fun g1 => ?_)
           · exact gN rfl rfl rfl (gN rfl rfl rfl (pkt rfl rfl rfl rfl (rbe rfl (by first | exact bt (by omega) | exact bf (by omega) | exact bi (by omega) | exact bn (by omega) | (simp_all; done) | (simp_all; omega)) (.cons rfl (.cons rfl (.cons rfl (.cons rfl (.cons rfl (.cons rfl (.cons rfl .nil))))))))))
           · exact gY rfl (mv rfl rfl (gY rfl (gt' rfl rfl rfl (pkf rfl rfl rfl rfl (rbe rfl (by first | exact bt (by omega) | exact bf (by omega) | exact bi (by omega) | exact bn (by omega) | (simp_all; done) | (simp_all; omega)) (.cons rfl (.cons rfl (.cons rfl (.cons rfl (.cons rfl (.cons rfl (.cons rfl .nil))))))))))))
         · refine tn ?_
           refine cd rfl (fun c4 => ?_) (fun c4 => ?_)
           · refine sr (s_lit (cs := [_, _]) evs_nil bo39 pok_nil rfl rfl ?_)
             replace hb2 := ((((hb2.ext q3).fr q4 (by first | (simp; done) | (simp; omega) | (simp [blks]; done) | (simp [blks]; omega))).fr q8 (by first | (simp; done) | (simp; omega) | (simp [blks]; done) | (simp [blks]; omega))).ext q9).fr q10 (by first | (simp; done) | (simp; omega) | (simp [blks]; done) | (simp [blks]; omega))
             refine s_storeBA rfl rfl hb2 rfl (by first | (simp [Value.oneCell', S]; done) | exact Enc.one _ _) sz39 (fun w11 hb2 q11 z11 => ?_)
             refine asg rfl rfl (kpL [(2, _), (3, _)] (.cons rfl (.cons rfl .nil)) (nn (rt (tr (rb (tr (tr (rb (tr (rCT Tryz.results55 rfl hb2 ag39 rfl ?_))))))))))
             exact ⟨_, rfl, _, by rw [show parN l = (0, 0) from by rw [parN, if_neg c0, hpb]; simp only; rw [if_pos (all_not _ i (by omega) (by omega))]], ((((((q1.next q3).step q4 (by first | (simp; done) | (simp; omega))).step q8 (by first | (simp; done) | (simp; omega))).next q9).step q10 (by first | (simp; done) | (simp; omega))).step q11 (by first | (simp; done) | (simp; omega)))⟩
           · have hdv := dgVal_rng hall (by simp; omega)
             refine sk (tn (rg (fad rfl fa39_1 rfl (s_loadB rfl hb4 rfl na3 rfl (s_mul rfl rfl (wi6 (by omega)) rfl (mv rfl rfl (s_sub rfl rfl (wi8 (by omega)) rfl (s_conv rfl (us Tryz.underlying5) Tryz.underlying3 (wi6 (by omega)) rfl (s_add rfl rfl (wi6 (by omega)) rfl (fad rfl fa39_1 rfl (s_storeB rfl rfl hb4 rfl rfl rfl sz3 (fun w12 hb4 q12 z12 => ?_))))))))))))
             replace hb4 : Blk w12 g4 _ [_, _] := hb4
             refine kpL [(0, _), (2, _), (4, _), (28, _), (29, _), (30, _)] (.cons rfl (.cons rfl (.cons rfl (.cons rfl (.cons rfl (.cons rfl .nil)))))) (nl (bn' (tn (rg (s_add rfl rfl (wi6 (by omega)) rfl (mv rfl rfl (nl ?_)))))))
             exact lpE (i + 1) (.cons rfl (.cons rfl (.cons rfl (.cons rfl (.cons rfl (.cons rfl .nil)))))) ⟨(((Fr.refl [g4] _).step q10 (by first | (simp; done) | (simp; omega))).step q12 (by first | (simp; done) | (simp; omega))), ⟨by omega, all_take _ _ (by omega) hall (by omega), by rw [dgVal_snoc _ _ (by omega)]; exact hb4⟩⟩ (by omega)
       · obtain rfl : i = (l.drop 1).length := by omega
         rw [List.take_length] at hall hb4
         have hdv := dgVal_rng hall (by omega)
         refine ex (te (te (xh (tn (sq (sr (s_loadBA rfl hb4 ag39 rfl ?_)))))))
         replace hG := ((((hG.ext (q1.next q3)).fr q4 (by first | (simp; done) | (simp; omega) | (simp [blks]; done) | (simp [blks]; omega) | (intro k hk hb; simp at hk; subst hk; have := (hG.blk _ hb).2; omega))).fr q8 (by first | (simp; done) | (simp; omega) | (simp [blks]; done) | (simp [blks]; omega) | (intro k hk hb; simp at hk; subst hk; have := (hG.blk _ hb).2; omega))).ext q9).fr q10 (by first | (simp; done) | (simp; omega) | (simp [blks]; done) | (simp [blks]; omega) | (intro k hk hb; simp at hk; subst hk; have := (hG.blk _ hb).2; omega))
         refine cl (ev1 rfl) co57 (ntext_ok _ _ _ hG) rfl ?_
         rintro _ w13 ⟨rfl, q13⟩
         have z13 := q13.size
         refine mv rfl rfl (s_nes rfl rfl rfl (kpL [(2, _), (4, _), (53, _)] (.cons rfl (.cons rfl (.cons rfl .nil))) (nn ?_)))
         refine cd rfl (fun c5 => ?_) (fun c5 => ?_)
         · refine sr (s_lit (cs := [_, _]) evs_nil bo39 pok_nil rfl rfl ?_)
           replace hb2 := (((((hb2.ext q3).fr q4 (by first | (simp; done) | (simp; omega) | (simp [blks]; done) | (simp [blks]; omega))).fr q8 (by first | (simp; done) | (simp; omega) | (simp [blks]; done) | (simp [blks]; omega))).ext q9).fr q10 (by first | (simp; done) | (simp; omega) | (simp [blks]; done) | (simp [blks]; omega))).ext q13
           refine s_storeBA rfl rfl hb2 rfl (by first | (simp [Value.oneCell', S]; done) | exact Enc.one _ _) sz39 (fun w14 hb2 q14 z14 => ?_)
           refine asg rfl rfl (nn (rt (tr (rCT Tryz.results55 rfl hb2 ag39 rfl ?_))))
           exact ⟨_, rfl, _, by rw [show parN l = (0, 0) from by rw [parN, if_neg c0, hpb]; simp only; rw [if_neg (by rw [hall]; exact fun e => Bool.noConfusion e), if_pos c5]], (((((((q1.next q3).step q4 (by first | (simp; done) | (simp; omega))).step q8 (by first | (simp; done) | (simp; omega))).next q9).step q10 (by first | (simp; done) | (simp; omega))).next q13).step q14 (by first | (simp; done) | (simp; omega)))⟩
         · refine sk (tn (sr ?_))
           replace hb4 := hb4.ext q13
           refine s_loadBA rfl hb4 ag39 rfl ?_
           replace hb2 := (((((hb2.ext q3).fr q4 (by first | (simp; done) | (simp; omega) | (simp [blks]; done) | (simp [blks]; omega))).fr q8 (by first | (simp; done) | (simp; omega) | (simp [blks]; done) | (simp [blks]; omega))).ext q9).fr q10 (by first | (simp; done) | (simp; omega) | (simp [blks]; done) | (simp [blks]; omega))).ext q13
           refine s_storeBA rfl rfl hb2 rfl (by first | (simp [Value.oneCell', S]; done) | exact Enc.one _ _) sz39 (fun w15 hb2 q15 z15 => ?_)
           refine asg rfl rfl (nn (rt (rCT Tryz.results55 rfl hb2 ag39 rfl ?_)))
           exact ⟨_, rfl, _, by rw [show parN l = (b, dgVal (l.drop 1)) from by rw [parN, if_neg c0, hpb]; simp only; rw [if_neg (by rw [hall]; exact fun e => Bool.noConfusion e), if_neg c5]], (((((((q1.next q3).step q4 (by first | (simp; done) | (simp; omega))).step q8 (by first | (simp; done) | (simp; omega))).next q9).step q10 (by first | (simp; done) | (simp; omega))).next q13).step q15 (by first | (simp; done) | (simp; omega)))⟩
end Go.Proofs.YtbalocjcbmkecaaGreatDoor
