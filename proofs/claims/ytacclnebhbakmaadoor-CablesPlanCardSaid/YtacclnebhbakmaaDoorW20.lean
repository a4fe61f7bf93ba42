/- Walks. -/
import Derived.Test.YtacclnebhbakmaaDoorRows
import Derived.Test.YtacclnebhbakmaaDoorW19
import Derived.Test.YtacclnebhbakmaaDoorXOp
import Derived.Test.YtacclnebhbakmaaDoorXMap
set_option linter.unusedVariables false
set_option linter.unusedSimpArgs false
namespace Go.Proofs.YtacclnebhbakmaaDoor
open Go.Lw
theorem ag25 : AggOf Tryd.prog 25 5 := ⟨fun _ => by kernel_rfl, fun _ => by kernel_rfl⟩
theorem co5 : CallOf Tryd.prog 5 := CallOf.mk' Tryd.func5 (by kernel_rfl) (by kernel_rfl)
theorem co6 : CallOf Tryd.prog 6 := CallOf.mk' Tryd.func6 (by kernel_rfl) (by kernel_rfl)
theorem co7 : CallOf Tryd.prog 7 := CallOf.mk' Tryd.func7 (by kernel_rfl) (by kernel_rfl)
theorem fa25_4 : FieldAt Tryd.prog 25 4 4 := fun _ _ => by kernel_rfl
set_option maxHeartbeats 4000000 in
theorem law_plan (v : Value) (xs : List (Int × Int × Int)) (yI yA yB : Int) (fr : Bool) (w0 : World) (hG : Glob w0) (hs : Sl (Enc.tri .u8) w0 v xs) (hb : ∀ y ∈ xs, (0 ≤ y.1 ∧ y.1 ≤ 255) ∧ (0 ≤ y.2.1 ∧ y.2.1 ≤ 255) ∧ (0 ≤ y.2.2 ∧ y.2.2 ≤ 255)) (hyI : 0 ≤ yI ∧ yI ≤ 255) (hyA : 0 ≤ yA ∧ yA ≤ 255) (hyB : 0 ≤ yB ∧ yB ≤ 255) : Rets Tryd.prog 3 #[.agg #[v, .int .u8 yI, .int .u8 yA, .int .u8 yB, .bool fr]] w0 fun r w' => r = .bool true ∧ Fr [] w0 w' := by
 have hGs := hG.sz
 refine we [(0, .agg #[v, .int .u8 yI, .int .u8 yA, .int .u8 yB, .bool fr])] Tryd.func3 rfl Tryd.ntmps3 rfl (.cons rfl .nil) ?_
 have hs0 := hs
 have hG0 := hG
 refine sr (bx rfl rfl rfl (fun g1 w1 hg1 hb1 q1 z1 => ?_))
 refine asg rfl rfl (nn (sr (s_loadBA rfl hb1 ag25 rfl ?_)))
 replace hs := hs0.ext q1
 refine cl (ev1 rfl) co5 (xof_ok v xs yI yA yB fr _ hs hb hyI hyA hyB) rfl ?_
 rintro _ w2 ⟨v1, v2, i', a', b', is', f, rfl, hoF, hof, q2⟩
 have z2 := q2.size
 obtain ⟨AF, cF, rfl, hcF⟩ := hoF.sl.form
 refine mv rfl rfl (xt rfl rfl rfl (xt rfl rfl rfl (xt rfl rfl rfl (xt rfl rfl rfl (xt rfl rfl rfl (xt rfl rfl rfl (asg rfl rfl (asg rfl rfl (asg rfl rfl (asg rfl rfl (asg rfl rfl ?_)))))))))))
 refine asg rfl rfl (kpL [(1, _), (3, _), (5, _), (6, _), (7, _), (8, _)] (.cons rfl (.cons rfl (.cons rfl (.cons rfl (.cons rfl (.cons rfl .nil)))))) (nn (sq (sq ?_))))
 refine rboF (r := 54) (L' := [(1, _), (3, _), (5, _), (6, _), (7, _)]) (¬ (is' = true ∧ fitS f i' a' b' fr)) (.cons rfl (.cons rfl (.cons rfl (.cons rfl (.cons rfl .nil))))) ?_ ?_
 · refine mv rfl rfl (nt' rfl rfl (mv rfl rfl ?_))
   refine gs 45 rfl (fun g0 => ?_) (fun g0 => ?_)
   · exact gN rfl rfl rfl (gN rfl rfl rfl (gN rfl rfl rfl (gN rfl rfl rfl (gN rfl rfl rfl (gN rfl rfl rfl (gN rfl rfl rfl (gN rfl rfl rfl (pkt rfl rfl rfl rfl (rbeF rfl (by first | exact bn ⟨fun h e => h e.2, fun h e => h ⟨by assumption, e⟩⟩ | exact bt (fun e => by simp_all)) (.cons rfl (.cons rfl (.cons rfl (.cons rfl (.cons rfl .nil))))) (Fr.refl _ _))))))))))
   · refine gY rfl (mv rfl rfl (gY rfl (mv rfl rfl (gY rfl (mv rfl rfl (gY rfl (mv rfl rfl (gY rfl (fad rfl fa25_4 rfl (gY rfl ?_))))))))))
     replace hb1 := hb1.ext q2
     refine s_loadB rfl hb1 rfl na4 rfl (gY rfl ?_)
     have hit : is' = true := by cases is' with | false => exact absurd rfl (by assumption) | true => rfl
     obtain ⟨hasc, hz, hil, hfl8⟩ := hof hit
     refine cl (evs_cons rfl (evs_cons rfl (evs_cons rfl (evs_cons rfl (evs_cons rfl evs_nil))))) co6 (fits28_ok _ f i' a' b' fr _ hoF.sl hasc hz hil) rfl ?_
     rintro _ w3 ⟨rfl, q3⟩
     have z3 := q3.size
     exact gY rfl (nt' rfl rfl (pkf rfl rfl rfl rfl (rbeF rfl (by first | exact bn ⟨fun h e => h e.2, fun h e => h ⟨by assumption, e⟩⟩ | exact bt (fun e => by simp_all)) (.cons rfl (.cons rfl (.cons rfl (.cons rfl (.cons rfl .nil))))) q3)))
 · intro w4 q4; have z4 := q4.size
   refine tn ?_
   refine cd rfl (fun c0 => ?_) (fun c0 => ?_)
   · refine sr ?_
     replace hG := hG0.ext ((q1.next q2).next q4)
     refine cl evs_nil co7 (lives_ok _ hG) rfl ?_
     rintro _ w5 ⟨rfl, q5⟩
     have z5 := q5.size
     refine asg rfl rfl (kpL [(2, _)] (.cons rfl .nil) (nn (rt (tr (r1 Tryd.results3 rfl ?_)))))
     exact ⟨_, rfl, rfl, (((q1.next q2).next q4).next q5)⟩
   · obtain ⟨hit, hfit⟩ := Classical.not_not.1 c0
     obtain ⟨hasc, hz, hil, hfl8⟩ := hof hit
     have hl40 := hasc.len
     have hra := room_asc hasc hz hil hfit
     have hE : errC f i' a' b' fr = 0 := errC_5 hasc (by unfold szOk; omega) (by omega) (by simpa using hfit)
     have hS : crossS f i' a' b' fr = crossN f i' a' b' fr := (if_pos hE).trans (by simp)
     have hls1 := shift_len hasc hra.1 (roomS_len hil)
     have hls2 := shift_len hra.2 hasc (by rw [behS_len hil])
     have hla := acr_len (front := fr) hl40 hil
     have hlc : (crossN f i' a' b' fr).length ≤ 1000000 := by unfold crossN xfers; simp only [List.length_append, List.length_map, List.length_cons, List.length_nil]; omega
     have hi0 := hasc i' (by omega)
     have hq0 := hasc (i' + a' + b' - 1) (by omega)
     refine sk (tn (sr (mv rfl rfl (mv rfl rfl (mv rfl rfl (mv rfl rfl (fad rfl fa25_4 rfl ?_)))))))
     replace hb1 := hb1.ext (q2.next q4)
     refine s_loadB rfl hb1 rfl na4 rfl ?_
     replace hoF := hoF.ext q4
     refine cl (evs_cons rfl (evs_cons rfl (evs_cons rfl (evs_cons rfl (evs_cons rfl evs_nil))))) co8 (cross_ok _ f i' a' b' fr _ hoF.sl) rfl ?_
     rintro _ w6 ⟨AX, rfl, hoX, q6⟩
     have z6 := q6.size
     refine mv rfl rfl (xt rfl rfl rfl (xt rfl rfl rfl (asg rfl rfl (asg rfl rfl ?_))))
     replace hb1 := hb1.ext q6
     replace hoF := hoF.ext q6
     replace hG := hG0.ext (((q1.next q2).next q4).next q6)
     obtain ⟨NT, hNT⟩ : ∃ n, n = w6.heap.size := ⟨_, rfl⟩
     have hb10 := hb1
     have hoF0 := hoF
     have hoX0 := hoX
     have hG0 := hG
     refine kpL [(1, _), (3, _), (5, _), (6, _), (7, _), (9, _), (10, _)] (.cons rfl (.cons rfl (.cons rfl (.cons rfl (.cons rfl (.cons rfl (.cons rfl .nil))))))) (nn (sr (s_bslice (([] : List Int)) evs_nil rfl rfl rfl el26 (Nat.le_of_ble_eq_true rfl) rfl (fun g66 w7 hg66 ho66 q7 z7 => ?_))))
     refine mv rfl rfl ?_
     replace hoF := hoF0.ext q7
     have hoo68 := ho66
     refine s_append rfl rfl ho66 hoF.sl el26 (by unfold maxLen; simp only [List.length_nil]; omega) (by simp only [List.length_nil]; omega) (by omega) rfl (fun v68 w8 hoT q8 hor68 => ?_)
     have z8 := q8.size
     rw [List.nil_append] at hoT
     rcases hoT with ⟨_, e⟩ | ⟨gT, cT, cur, rfl, hgT, rA⟩
     · exact absurd (congrArg List.length e) (by simp only [List.length_nil]; omega)
     have hoT : Lw.Own Enc.i64 3 NT w8 (.slice (some ⟨gT, 0, none⟩) f.length cT) (f) := .inr ⟨gT, cT, cur, rfl, by omega, rA⟩
     have hcT := rA.2.1
     clear rA
     have hgT2 := (hoT.blk gT (by simp [blks])).2
     have hMT := hoT.sl.len_le
     unfold maxLen at hMT
     refine asg rfl rfl (nn (sr (mv rfl rfl (mv rfl rfl (s_add rfl rfl (wi6 (by omega)) rfl (asg rfl rfl (nn (sr (mv rfl rfl (mv rfl rfl (mv rfl rfl ?_)))))))))))
     refine s_add rfl rfl (wi6 (by omega)) rfl (asg rfl rfl (asg rfl rfl (nn ?_)))
     refine jn (ι := Unit) [(1, _), (3, _), (5, _), (6, _), (7, _), (9, _), (10, _), (11, _)] (fun _j => [(12, .int .i64 (byC a' b' fr)), (13, .int .i64 ((firC i' a' fr) : Int)), (14, .int .i64 ((lasC i' a' b' fr) : Int))]) (fun _j w' => Fr [gT] w8 w' ∧ Lw.Own Enc.i64 3 NT w' (.slice (some ⟨gT, 0, none⟩) f.length cT) ((roomS f i' a' b' fr))) (.cons rfl (.cons rfl (.cons rfl (.cons rfl (.cons rfl (.cons rfl (.cons rfl (.cons rfl .nil)))))))) ?_ ?_
     · refine sr (fad rfl fa25_4 rfl ?_)
       replace hb1 := hb10.ext (q7.step q8 (fun k hk hlt => absurd (hoo68.blk k hk).1 (by omega)))
       refine s_loadB rfl hb1 rfl na4 rfl (nn ?_)
       refine cd rfl (fun c1 => ?_) (fun c1 => ?_)
       · subst c1
         refine sr (mv rfl rfl (mv rfl rfl (mv rfl rfl (s_add rfl rfl (wi6 (by omega)) rfl (mv rfl rfl (s_add rfl rfl (wi6 (by omega)) rfl (s_sub rfl rfl (wi6 (by omega)) rfl ?_)))))))
         replace hoF := hoF0.ext (q7.step q8 (fun k hk hlt => absurd (hoo68.blk k hk).1 (by omega)))
         refine s_idxL (p := (i' + a' + b' - 1)) (0) rfl hoF.sl rfl el26 (by omega) (by omega) (by omega) rfl (fun ad85 hc85 => ?_)
         refine s_loadC0 rfl (hc85 _ hoF.sl) na3 rfl (asg rfl rfl (kpL [(1, _), (3, _), (5, _), (6, _), (7, _), (9, _), (10, _), (11, _), (12, _), (15, _)] (.cons rfl (.cons rfl (.cons rfl (.cons rfl (.cons rfl (.cons rfl (.cons rfl (.cons rfl (.cons rfl (.cons rfl .nil)))))))))) (nn (sq (sr (asg rfl rfl (nn (bl ?_))))))))
         refine lpK (ι := Nat) [(1, _), (3, _), (5, _), (6, _), (7, _), (9, _), (10, _), (11, _), (12, _), (15, _)] (fun k => [(16, .int .i64 (k : Int))]) (fun k w' => Fr [gT] w8 w' ∧ k ≤ a' + b' ∧ Lw.Own Enc.i64 3 NT w' (.slice (some ⟨gT, 0, none⟩) f.length cT) (fillL f (i' + a' + b' - k) (run ((f.getD (i' + a' + b' - 1) 0) - (k : Int) + 1) k))) (fun k => a' + b' - k) 0 (.cons rfl (.cons rfl (.cons rfl (.cons rfl (.cons rfl (.cons rfl (.cons rfl (.cons rfl (.cons rfl (.cons rfl (.cons rfl .nil))))))))))) ⟨Fr.refl _ _, ⟨Nat.zero_le _, by rw [show run ((f.getD (i' + a' + b' - 1) 0) - ((0 : Nat) : Int) + 1) 0 = [] from rfl, fill_nil]; exact hoT⟩⟩ ?_
         rintro k w9 ⟨q9, ⟨hk, hoT⟩⟩
         have z9 := q9.size
         refine kpC [(1, _), (3, _), (5, _), (6, _), (7, _), (9, _), (10, _), (11, _), (12, _), (15, _), (16, _)] (.cons rfl (.cons rfl (.cons rfl (.cons rfl (.cons rfl (.cons rfl (.cons rfl (.cons rfl (.cons rfl (.cons rfl (.cons rfl .nil))))))))))) ?_
         have hfl : (fillL f (i' + a' + b' - k) (run ((f.getD (i' + a' + b' - 1) 0) - (k : Int) + 1) k)).length = f.length := fill_len (by rw [run_len]; omega)
         refine sq (sr (mv rfl rfl (mv rfl rfl (mv rfl rfl (s_add rfl rfl (wi6 (by omega)) rfl (lt' rfl rfl rfl (nn ?_)))))))
         refine cd rfl (fun c2 => ?_) (fun c2 => ?_)
         · refine sk (tn (sq (bl (rg (mv rfl rfl (mv rfl rfl (mv rfl rfl (s_add rfl rfl (wi6 (by omega)) rfl (mv rfl rfl (s_add rfl rfl (wi6 (by omega)) rfl (s_sub rfl rfl (wi6 (by omega)) rfl ?_)))))))))))
           refine mv rfl rfl (s_sub rfl rfl (wi6 (by omega)) rfl (mv rfl rfl (mv rfl rfl (s_sub rfl rfl (wi6 (by omega)) rfl ?_))))
           refine s_ixs (p := (i' + a' + b' - 1 - k)) (_) rfl hoT rfl rfl (by intro e; cases e) el26 sz3 rfl (by omega) (by rw [hfl]; omega) (by omega) rfl rfl (fun w10 hoT q10 z10 => ?_)
           rw [there_set (by omega) hil] at hoT
           replace q10 : Fr [gT] _ _ := q10
           refine kpL [(1, _), (3, _), (5, _), (6, _), (7, _), (9, _), (10, _), (11, _), (12, _), (15, _), (16, _)] (.cons rfl (.cons rfl (.cons rfl (.cons rfl (.cons rfl (.cons rfl (.cons rfl (.cons rfl (.cons rfl (.cons rfl (.cons rfl .nil))))))))))) (nl (bn' (tn (rg (mv rfl rfl (s_add rfl rfl (wi6 (by omega)) rfl (asg rfl rfl (nl ?_))))))))
           exact lpE (k + 1) (.cons rfl (.cons rfl (.cons rfl (.cons rfl (.cons rfl (.cons rfl (.cons rfl (.cons rfl (.cons rfl (.cons rfl (.cons rfl .nil))))))))))) ⟨(((Fr.refl [gT] _).step q9 (by first | (simp; done) | (simp; omega))).step q10 (by first | (simp; done) | (simp; omega))), ⟨by omega, hoT⟩⟩ (by omega)
         · obtain rfl : k = a' + b' := by omega
           rw [show i' + a' + b' - (a' + b') = i' by omega, show (f.getD (i' + a' + b' - 1) 0) - ((a' + b' : Nat) : Int) + 1 = (f.getD (i' + a' + b' - 1) 0) - (a' : Int) - (b' : Int) + 1 by omega, ← room_zero_t hil] at hoT
           refine ex (te (te (xh (tn (sr (mv rfl rfl (mv rfl rfl (s_sub rfl rfl (wi6 (by omega)) rfl (mv rfl rfl (s_mul rfl rfl (wi6 (by omega)) rfl (s_sub rfl rfl (wi6 (by omega)) rfl ?_)))))))))))
           refine asg rfl rfl (kpL [(1, _), (3, _), (5, _), (6, _), (7, _), (9, _), (10, _), (11, _), (12, _), (17, _)] (.cons rfl (.cons rfl (.cons rfl (.cons rfl (.cons rfl (.cons rfl (.cons rfl (.cons rfl (.cons rfl (.cons rfl .nil)))))))))) (nn (sq (sr (mv rfl rfl (s_sub rfl rfl (wi6 (by omega)) rfl (asg rfl rfl (nn (bl ?_)))))))))
           refine lpK (ι := Nat) [(1, _), (3, _), (5, _), (6, _), (7, _), (9, _), (10, _), (11, _), (12, _)] (fun m => [(17, .int .i64 (frL f (firstR f i' a' b' true) i' m)), (18, .int .i64 ((i' : Int) - 1 - (m : Int)))]) (fun m w' => Fr [gT] w9 w' ∧ m ≤ i' ∧ Lw.Own Enc.i64 3 NT w' (.slice (some ⟨gT, 0, none⟩) f.length cT) (roomF f i' a' b' true m)) (fun m => i' - m) 0 (.cons rfl (.cons rfl (.cons rfl (.cons rfl (.cons rfl (.cons rfl (.cons rfl (.cons rfl (.cons rfl (.cons rfl (.cons (congrArg (fun z => some (Value.int .i64 z)) (by omega)) .nil))))))))))) ⟨Fr.refl _ _, ⟨Nat.zero_le _, hoT⟩⟩ ?_
           rintro m w11 ⟨q11, ⟨hm, hoT⟩⟩
           have z11 := q11.size
           refine kpC [(1, _), (3, _), (5, _), (6, _), (7, _), (9, _), (10, _), (11, _), (12, _), (17, _), (18, _)] (.cons rfl (.cons rfl (.cons rfl (.cons rfl (.cons rfl (.cons rfl (.cons rfl (.cons rfl (.cons rfl (.cons rfl (.cons rfl .nil))))))))))) ?_
           refine sq (sr (mv rfl rfl (ge' rfl rfl rfl (nn ?_))))
           refine cd rfl (fun c3 => ?_) (fun c3 => ?_)
           · have hm' : m < i' := by omega
             have hfb := frb_t hasc (m := m) hz hil (by omega)
             have hbk := hasc (i' - 1 - m) (by omega)
             have hat := roomL_at (l := f) (a := a') (b := b') hil hm'
             have hnew := roomL_new (l := f) (a := a') (b := b') hil hm'
             have hfl : (roomF f i' a' b' true m).length = f.length := roomF_len hil (by simp only [if_true]; omega)
             have hfl3 : (roomF f i' a' b' true (m + 1)).length = f.length := roomF_len hil (by simp only [if_true]; omega)
             refine sk (tn (sq (bl (sr (mv rfl rfl (mv rfl rfl (mv rfl rfl (mv rfl rfl (s_idxL (p := (i' - 1 - m)) (0) rfl hoT.sl rfl el26 (by omega) (by omega) (by omega) rfl (fun ad123 hc123 => ?_))))))))))
             refine s_loadC0 rfl (hc123 _ hoT.sl) na3 rfl (mv rfl rfl (s_min rfl rfl rfl ?_))
             refine s_ixs (p := (i' - 1 - m)) (_) rfl hoT rfl rfl (by intro e; cases e) el26 sz3 rfl (by omega) (by rw [hfl]; omega) (by omega) rfl rfl (fun w12 hoT q12 z12 => ?_)
             rw [roomL_at hil (by omega), roomL_set hil (by omega)] at hoT
             replace q12 : Fr [gT] _ _ := q12
             refine kpL [(1, _), (3, _), (5, _), (6, _), (7, _), (9, _), (10, _), (11, _), (12, _), (18, _)] (.cons rfl (.cons rfl (.cons rfl (.cons rfl (.cons rfl (.cons rfl (.cons rfl (.cons rfl (.cons rfl (.cons rfl .nil)))))))))) (nn (rg (mv rfl rfl (mv rfl rfl (s_idxL (p := (i' - 1 - m)) (0) rfl hoT.sl rfl el26 (by omega) (by omega) (by omega) rfl (fun ad130 hc130 => ?_))))))
             refine s_loadC0 rfl (hc130 _ hoT.sl) na3 rfl (s_sub rfl rfl (wi6 (by omega)) rfl (asg rfl rfl (nl (bn' (tn (rg (mv rfl rfl (s_sub rfl rfl (wi6 (by omega)) rfl (asg rfl rfl (nl ?_))))))))))
             exact lpE (m + 1) (.cons rfl (.cons rfl (.cons rfl (.cons rfl (.cons rfl (.cons rfl (.cons rfl (.cons rfl (.cons rfl (.cons (congrArg (fun z => some (Value.int .i64 z)) (by rw [hnew, frL_succ (by omega) (by omega)])) (.cons (congrArg (fun z => some (Value.int .i64 z)) (by omega)) .nil))))))))))) ⟨(((Fr.refl [gT] _).step q11 (by first | (simp; done) | (simp; omega))).step q12 (by first | (simp; done) | (simp; omega))), ⟨by omega, hoT⟩⟩ (by omega)
           · obtain rfl : i' = m := by omega
             replace hoT : Lw.Own Enc.i64 3 NT w11 (.slice (some ⟨gT, 0, none⟩) f.length cT) (roomS f i' a' b' true) := hoT
             refine ex (te (te (xh (tn (sr (mv rfl rfl (s_neg rfl (wi6 (by omega)) rfl (asg rfl rfl (nn (rg (mv rfl rfl ?_)))))))))))
             refine mv rfl rfl (s_add rfl rfl (wi6 (by omega)) rfl (mv rfl rfl (mv rfl rfl (s_add rfl rfl (wi6 (by omega)) rfl (mv rfl rfl (s_add rfl rfl (wi6 (by omega)) rfl (asg rfl rfl (asg rfl rfl (kpL [(1, _), (3, _), (5, _), (6, _), (7, _), (9, _), (10, _), (11, _), (12, _), (13, _), (14, _)] (.cons rfl (.cons rfl (.cons rfl (.cons rfl (.cons rfl (.cons rfl (.cons rfl (.cons rfl (.cons rfl (.cons rfl (.cons rfl .nil))))))))))) (nl ?_))))))))))
             exact jE (()) (.cons rfl (.cons rfl (.cons rfl (.cons rfl (.cons rfl (.cons rfl (.cons rfl (.cons rfl (.cons (congrArg (fun z => some (Value.int .i64 z)) (by first | rfl | (simp [firC, lasC]; done) | (simp [firC, lasC]; omega))) (.cons (congrArg (fun z => some (Value.int .i64 z)) (by first | rfl | (simp [firC, lasC]; done) | (simp [firC, lasC]; omega))) (.cons (congrArg (fun z => some (Value.int .i64 z)) (by first | rfl | (simp [firC, lasC]; done) | (simp [firC, lasC]; omega))) .nil))))))))))) ⟨(((Fr.refl [gT] _).step q9 (by first | (simp; done) | (simp; omega))).step q11 (by first | (simp; done) | (simp; omega))), hoT⟩
       · obtain rfl : fr = false := by simpa using c1
         refine sq (sr (asg rfl rfl (nn (bl ?_))))
         refine lpK (ι := Nat) [(1, _), (3, _), (5, _), (6, _), (7, _), (9, _), (10, _), (11, _), (12, _), (13, _), (14, _)] (fun k => [(19, .int .i64 (k : Int))]) (fun k w' => Fr [gT] w8 w' ∧ k ≤ a' + b' ∧ Lw.Own Enc.i64 3 NT w' (.slice (some ⟨gT, 0, none⟩) f.length cT) (fillL f i' (run (f.getD i' 0) k))) (fun k => a' + b' - k) 0 (.cons rfl (.cons rfl (.cons rfl (.cons rfl (.cons rfl (.cons rfl (.cons rfl (.cons rfl (.cons rfl (.cons rfl (.cons rfl (.cons rfl .nil)))))))))))) ⟨Fr.refl _ _, ⟨Nat.zero_le _, by rw [show run (f.getD i' 0) 0 = [] from rfl, fill_nil]; exact hoT⟩⟩ ?_
         rintro k w13 ⟨q13, ⟨hk, hoT⟩⟩
         have z13 := q13.size
         refine kpC [(1, _), (3, _), (5, _), (6, _), (7, _), (9, _), (10, _), (11, _), (12, _), (13, _), (14, _), (19, _)] (.cons rfl (.cons rfl (.cons rfl (.cons rfl (.cons rfl (.cons rfl (.cons rfl (.cons rfl (.cons rfl (.cons rfl (.cons rfl (.cons rfl .nil)))))))))))) ?_
         have hfl : (fillL f i' (run (f.getD i' 0) k)).length = f.length := fill_len (by rw [run_len]; omega)
         refine sq (sr (mv rfl rfl (mv rfl rfl (mv rfl rfl (s_add rfl rfl (wi6 (by omega)) rfl (lt' rfl rfl rfl (nn ?_)))))))
         refine cd rfl (fun c4 => ?_) (fun c4 => ?_)
         · refine sk (tn (sq (bl (rg (mv rfl rfl (mv rfl rfl (mv rfl rfl (s_add rfl rfl (wi6 (by omega)) rfl (mv rfl rfl (mv rfl rfl ?_))))))))))
           replace hoF := hoF0.ext ((q7.step q8 (fun k hk hlt => absurd (hoo68.blk k hk).1 (by omega))).step q13 (by first | (simp; done) | (simp; omega)))
           refine s_idxL (p := i') (0) rfl hoF.sl rfl el26 (by omega) (by omega) (by omega) rfl (fun ad156 hc156 => ?_)
           refine s_loadC0 rfl (hc156 _ hoF.sl) na3 rfl (mv rfl rfl (s_add rfl rfl (wi6 (by omega)) rfl ?_))
           refine s_ixs (p := (i' + k)) (_) rfl hoT rfl rfl (by intro e; cases e) el26 sz3 rfl (by omega) (by rw [hfl]; omega) (by omega) rfl rfl (fun w14 hoT q14 z14 => ?_)
           rw [run_set (by omega) (by omega)] at hoT
           replace q14 : Fr [gT] _ _ := q14
           refine kpL [(1, _), (3, _), (5, _), (6, _), (7, _), (9, _), (10, _), (11, _), (12, _), (13, _), (14, _), (19, _)] (.cons rfl (.cons rfl (.cons rfl (.cons rfl (.cons rfl (.cons rfl (.cons rfl (.cons rfl (.cons rfl (.cons rfl (.cons rfl (.cons rfl .nil)))))))))))) (nl (bn' (tn (rg (mv rfl rfl (s_add rfl rfl (wi6 (by omega)) rfl (asg rfl rfl (nl ?_))))))))
           exact lpE (k + 1) (.cons rfl (.cons rfl (.cons rfl (.cons rfl (.cons rfl (.cons rfl (.cons rfl (.cons rfl (.cons rfl (.cons rfl (.cons rfl (.cons rfl .nil)))))))))))) ⟨(((Fr.refl [gT] _).step q13 (by first | (simp; done) | (simp; omega))).step q14 (by first | (simp; done) | (simp; omega))), ⟨by omega, hoT⟩⟩ (by omega)
         · obtain rfl : k = a' + b' := by omega
           rw [← room_zero_f hil] at hoT
           refine ex (te (te (xh (tn (sr (mv rfl rfl (mv rfl rfl ?_)))))))
           replace hoF := hoF0.ext ((q7.step q8 (fun k hk hlt => absurd (hoo68.blk k hk).1 (by omega))).step q13 (by first | (simp; done) | (simp; omega)))
           refine s_idxL (p := i') (0) rfl hoF.sl rfl el26 (by omega) (by omega) (by omega) rfl (fun ad163 hc163 => ?_)
           refine s_loadC0 rfl (hc163 _ hoF.sl) na3 rfl (mv rfl rfl (s_mul rfl rfl (wi6 (by omega)) rfl (s_add rfl rfl (wi6 (by omega)) rfl (mv rfl rfl (s_add rfl rfl (wi6 (by omega)) rfl (asg rfl rfl (kpL [(1, _), (3, _), (5, _), (6, _), (7, _), (9, _), (10, _), (11, _), (12, _), (13, _), (14, _), (20, _)] (.cons rfl (.cons rfl (.cons rfl (.cons rfl (.cons rfl (.cons rfl (.cons rfl (.cons rfl (.cons rfl (.cons rfl (.cons rfl (.cons rfl .nil)))))))))))) (nn (sr (mv rfl rfl (mv rfl rfl ?_)))))))))))
           refine s_add rfl rfl (wi6 (by omega)) rfl (mv rfl rfl (s_add rfl rfl (wi6 (by omega)) rfl (asg rfl rfl (nn (bl ?_)))))
           refine lpK (ι := Nat) [(1, _), (3, _), (5, _), (6, _), (7, _), (9, _), (10, _), (11, _), (12, _), (13, _), (14, _)] (fun m => [(20, .int .i64 (frR f (firstR f i' a' b' false) (i' + a' + b') m)), (21, .int .i64 ((i' : Int) + (a' : Int) + (b' : Int) + (m : Int)))]) (fun m w' => Fr [gT] w13 w' ∧ i' + a' + b' + m ≤ f.length ∧ Lw.Own Enc.i64 3 NT w' (.slice (some ⟨gT, 0, none⟩) f.length cT) (roomF f i' a' b' false m)) (fun m => f.length - m) 0 (.cons rfl (.cons rfl (.cons rfl (.cons rfl (.cons rfl (.cons rfl (.cons rfl (.cons rfl (.cons rfl (.cons rfl (.cons rfl (.cons rfl (.cons (congrArg (fun z => some (Value.int .i64 z)) (by omega)) .nil))))))))))))) ⟨Fr.refl _ _, ⟨by omega, hoT⟩⟩ ?_
           rintro m w15 ⟨q15, ⟨hm, hoT⟩⟩
           have z15 := q15.size
           refine kpC [(1, _), (3, _), (5, _), (6, _), (7, _), (9, _), (10, _), (11, _), (12, _), (13, _), (14, _), (20, _), (21, _)] (.cons rfl (.cons rfl (.cons rfl (.cons rfl (.cons rfl (.cons rfl (.cons rfl (.cons rfl (.cons rfl (.cons rfl (.cons rfl (.cons rfl (.cons rfl .nil))))))))))))) ?_
           refine sq (sr (mv rfl rfl (mv rfl rfl (lnS rfl Tryd.underlying26 rfl (lt' rfl rfl rfl (nn ?_))))))
           refine cd rfl (fun c5 => ?_) (fun c5 => ?_)
           · have hfb := frb_f hasc (m := m) hz hil (by omega)
             have hbk := hasc (i' + a' + b' + m) (by omega)
             have hat := roomR_at (l := f) (i := i') (a := a') (b := b') (m := m) (by omega)
             have hnew := roomR_new (l := f) (i := i') (a := a') (b := b') (m := m) (by omega)
             have hfl : (roomF f i' a' b' false m).length = f.length := roomF_len hil (by simp only [Bool.false_eq_true, if_false]; omega)
             have hfl3 : (roomF f i' a' b' false (m + 1)).length = f.length := roomF_len hil (by simp only [Bool.false_eq_true, if_false]; omega)
             refine sk (tn (sq (bl (sr (mv rfl rfl (mv rfl rfl (mv rfl rfl (mv rfl rfl (s_idxL (p := (i' + a' + b' + m)) (0) rfl hoT.sl rfl el26 (by omega) (by omega) (by omega) rfl (fun ad185 hc185 => ?_))))))))))
             refine s_loadC0 rfl (hc185 _ hoT.sl) na3 rfl (mv rfl rfl (s_max rfl rfl rfl ?_))
             refine s_ixs (p := (i' + a' + b' + m)) (_) rfl hoT rfl rfl (by intro e; cases e) el26 sz3 rfl (by omega) (by rw [hfl]; omega) (by omega) rfl rfl (fun w16 hoT q16 z16 => ?_)
             rw [roomR_at (by omega), roomR_set (by omega)] at hoT
             replace q16 : Fr [gT] _ _ := q16
             refine kpL [(1, _), (3, _), (5, _), (6, _), (7, _), (9, _), (10, _), (11, _), (12, _), (13, _), (14, _), (21, _)] (.cons rfl (.cons rfl (.cons rfl (.cons rfl (.cons rfl (.cons rfl (.cons rfl (.cons rfl (.cons rfl (.cons rfl (.cons rfl (.cons rfl .nil)))))))))))) (nn (rg (mv rfl rfl (mv rfl rfl (s_idxL (p := (i' + a' + b' + m)) (0) rfl hoT.sl rfl el26 (by omega) (by omega) (by omega) rfl (fun ad192 hc192 => ?_))))))
             refine s_loadC0 rfl (hc192 _ hoT.sl) na3 rfl (s_add rfl rfl (wi6 (by omega)) rfl (asg rfl rfl (nl (bn' (tn (rg (mv rfl rfl (s_add rfl rfl (wi6 (by omega)) rfl (asg rfl rfl (nl ?_))))))))))
             exact lpE (m + 1) (.cons rfl (.cons rfl (.cons rfl (.cons rfl (.cons rfl (.cons rfl (.cons rfl (.cons rfl (.cons rfl (.cons rfl (.cons rfl (.cons (congrArg (fun z => some (Value.int .i64 z)) (by rw [hnew, frR_succ (by omega)])) (.cons (congrArg (fun z => some (Value.int .i64 z)) (by omega)) .nil))))))))))))) ⟨(((Fr.refl [gT] _).step q15 (by first | (simp; done) | (simp; omega))).step q16 (by first | (simp; done) | (simp; omega))), ⟨by omega, hoT⟩⟩ (by omega)
           · obtain rfl : m = f.length - (i' + a' + b') := by omega
             replace hoT : Lw.Own Enc.i64 3 NT w15 (.slice (some ⟨gT, 0, none⟩) f.length cT) (roomS f i' a' b' false) := hoT
             refine ex (te (te (xh ?_)))
             exact jE (()) (.cons rfl (.cons rfl (.cons rfl (.cons rfl (.cons rfl (.cons rfl (.cons rfl (.cons rfl (.cons (congrArg (fun z => some (Value.int .i64 z)) (by first | rfl | (simp [firC, lasC]; done) | (simp [firC, lasC]; omega))) (.cons (congrArg (fun z => some (Value.int .i64 z)) (by first | rfl | (simp [firC, lasC]; done) | (simp [firC, lasC]; omega))) (.cons (congrArg (fun z => some (Value.int .i64 z)) (by first | rfl | (simp [firC, lasC]; done) | (simp [firC, lasC]; omega))) .nil))))))))))) ⟨(((Fr.refl [gT] _).step q13 (by first | (simp; done) | (simp; omega))).step q15 (by first | (simp; done) | (simp; omega))), hoT⟩
     · rintro _j w17 ⟨q17, hoT⟩
       have z17 := q17.size
       refine kpC [(1, _), (3, _), (5, _), (6, _), (7, _), (9, _), (10, _), (11, _), (12, _), (13, _), (14, _)] (.cons rfl (.cons rfl (.cons rfl (.cons rfl (.cons rfl (.cons rfl (.cons rfl (.cons rfl (.cons rfl (.cons rfl (.cons rfl .nil))))))))))) ?_
       have hrl := roomS_len (front := fr) hil
       have hfl1 : (firC i' a' fr) ≤ (lasC i' a' b' fr) := by unfold firC lasC; split <;> omega
       have hfl2 : (lasC i' a' b' fr) ≤ f.length := by unfold lasC; split <;> omega
       refine sr (mv rfl rfl (mv rfl rfl ?_))
       replace hoF := hoF0.ext ((q7.step q8 (fun k hk hlt => absurd (hoo68.blk k hk).1 (by omega))).step q17 (by first | (simp; done) | (simp; omega)))
       refine cl (ev2 rfl rfl) co9 (shift_ok _ _ f (roomS f i' a' b' fr) _ hoF.sl hoT.sl hasc hra.1 (roomS_len hil)) rfl ?_
       rintro _ w18 ⟨AS1, rfl, hoS1, q18⟩
       have z18 := q18.size
       refine mv rfl rfl (xt rfl rfl rfl (xt rfl rfl rfl (asg rfl rfl (asg rfl rfl ?_))))
       replace hb1 := hb10.ext (((q7.step q8 (fun k hk hlt => absurd (hoo68.blk k hk).1 (by omega))).step q17 (by first | (simp; done) | (simp; omega))).next q18)
       replace hoF := hoF0.ext (((q7.step q8 (fun k hk hlt => absurd (hoo68.blk k hk).1 (by omega))).step q17 (by first | (simp; done) | (simp; omega))).next q18)
       replace hoX := hoX0.ext (((q7.step q8 (fun k hk hlt => absurd (hoo68.blk k hk).1 (by omega))).step q17 (by first | (simp; done) | (simp; omega))).next q18)
       replace hG := hG0.ext (((q7.step q8 (fun k hk hlt => absurd (hoo68.blk k hk).1 (by omega))).step q17 (by first | (simp; done) | (simp; omega))).next q18)
       replace hoT := hoT.ext q18
       obtain ⟨NM, hNM⟩ : ∃ n, n = w18.heap.size := ⟨_, rfl⟩
       have hb10 := hb1
       have hoF0 := hoF
       have hoX0 := hoX
       have hG0 := hG
       have hoT0 := hoT
       have hoS10 := hoS1
       refine kpL [(1, _), (3, _), (5, _), (6, _), (7, _), (9, _), (10, _), (11, _), (12, _), (13, _), (14, _), (22, _), (23, _)] (.cons rfl (.cons rfl (.cons rfl (.cons rfl (.cons rfl (.cons rfl (.cons rfl (.cons rfl (.cons rfl (.cons rfl (.cons rfl (.cons rfl (.cons rfl .nil))))))))))))) (nn (sr (asg rfl rfl (nn (sq (sr (mv rfl rfl (asg rfl rfl (nn (bl ?_))))))))))
       refine lpK (ι := Nat × Value) [(1, _), (3, _), (5, _), (6, _), (7, _), (9, _), (10, _), (11, _), (12, _), (13, _), (14, _), (22, _), (23, _)] (fun p => [(24, p.2), (25, .int .i64 (p.1 : Int))]) (fun p w' => Fr [] w18 w' ∧ ((firC i' a' fr) ≤ p.1 ∧ p.1 ≤ (lasC i' a' b' fr)) ∧ Lw.Own encOp 42 NM w' p.2 (xfers 0 (((roomS f i' a' b' fr).take p.1).drop (firC i' a' fr)))) (fun p => (lasC i' a' b' fr) - p.1) ((firC i' a' fr), .slice none 0 0) (.cons rfl (.cons rfl (.cons rfl (.cons rfl (.cons rfl (.cons rfl (.cons rfl (.cons rfl (.cons rfl (.cons rfl (.cons rfl (.cons rfl (.cons rfl (.cons rfl (.cons rfl .nil))))))))))))))) ⟨(Fr.refl _ _), ⟨⟨Nat.le_refl _, hfl1⟩, by rw [xf_nil]; exact Own.nil _⟩⟩ ?_
       rintro ⟨k, vM⟩ w19 ⟨q19, ⟨hk, hoM⟩⟩
       simp only at hk hoM
       have z19 := q19.size
       refine kpC [(1, _), (3, _), (5, _), (6, _), (7, _), (9, _), (10, _), (11, _), (12, _), (13, _), (14, _), (22, _), (23, _), (24, vM), (25, .int .i64 (k : Int))] (.cons rfl (.cons rfl (.cons rfl (.cons rfl (.cons rfl (.cons rfl (.cons rfl (.cons rfl (.cons rfl (.cons rfl (.cons rfl (.cons rfl (.cons rfl (.cons rfl (.cons rfl .nil))))))))))))))) ?_
       refine sq (sr (mv rfl rfl (mv rfl rfl (lt' rfl rfl rfl (nn ?_)))))
       refine cd rfl (fun c6 => ?_) (fun c6 => ?_)
       · have hrk := room_bd hra.1 hil (k := k) (by omega)
         refine sk (tn (sq (bl (rg (mv rfl rfl (mv rfl rfl (mv rfl rfl ?_)))))))
         replace hoT := hoT0.ext q19
         refine s_idxL (p := k) (0) rfl hoT.sl rfl el26 (by omega) (by omega) (by omega) rfl (fun ad210 hc210 => ?_)
         refine s_loadC0 rfl (hc210 _ hoT.sl) na3 rfl (s_lit (cs := [_, _]) (ev1 rfl) bo39 (pok_cons rfl rfl rfl pok_nil) rfl rfl (s_lit (cs := [_, _, _, _, _, _]) (ev2 rfl rfl) bo42 (pok_cons rfl rfl rfl (pok_cons rfl rfl rfl pok_nil)) rfl rfl (s_bslice ([xferO 0 ((roomS f i' a' b' fr).getD k 0)]) (ev1 rfl) rfl rfl rfl el31 (Nat.le_of_ble_eq_true rfl) rfl (fun g214 w20 hg214 ho214 q20 z20 => ?_))))
         replace hoM := hoM.ext q20
         have hoo215 := hoM
         refine s_append rfl rfl hoM ho214.sl el31 (by unfold maxLen; simp only [xfers, List.length_append, List.length_map, List.length_drop, List.length_take, List.length_cons, List.length_nil, run_len]; omega) (by simp only [xfers, List.length_append, List.length_map, List.length_drop, List.length_take, List.length_cons, List.length_nil, run_len]; omega) (by omega) rfl (fun v215 w21 hoM q21 hor215 => ?_)
         have z21 := q21.size
         refine asg rfl rfl (kpL [(1, _), (3, _), (5, _), (6, _), (7, _), (9, _), (10, _), (11, _), (12, _), (13, _), (14, _), (22, _), (23, _), (24, _), (25, _)] (.cons rfl (.cons rfl (.cons rfl (.cons rfl (.cons rfl (.cons rfl (.cons rfl (.cons rfl (.cons rfl (.cons rfl (.cons rfl (.cons rfl (.cons rfl (.cons rfl (.cons rfl .nil))))))))))))))) (nl (bn' (tn (rg (mv rfl rfl (s_add rfl rfl (wi6 (by omega)) rfl (asg rfl rfl (nl ?_)))))))))
         exact lpE ((k + 1, v215)) (.cons rfl (.cons rfl (.cons rfl (.cons rfl (.cons rfl (.cons rfl (.cons rfl (.cons rfl (.cons rfl (.cons rfl (.cons rfl (.cons rfl (.cons rfl (.cons rfl (.cons rfl .nil))))))))))))))) ⟨((q19.next q20).step q21 (fun k hk hlt => absurd (hoo215.blk k hk).1 (by omega))), ⟨by simp only; omega, by rw [xf_snoc 0 (by omega) (by omega)]; exact hoM⟩⟩ (by simp only; omega)
       · obtain rfl : k = (lasC i' a' b' fr) := by omega
         rw [← acr_eq] at hoM
         refine ex (te (te (xh (tn (sr (mv rfl rfl (mv rfl rfl (s_lit (cs := [_, _, _, _, _, _]) (ev2 rfl rfl) bo42 (pok_cons rfl rfl rfl (pok_cons rfl rfl rfl pok_nil)) rfl rfl (s_bslice ([rackO (byC a' b' fr)]) (ev1 rfl) rfl rfl rfl el31 (Nat.le_of_ble_eq_true rfl) rfl (fun g219 w22 hg219 ho219 q22 z22 => ?_))))))))))
         replace hoM := hoM.ext q22
         have hoo220 := hoM
         refine s_append rfl rfl hoM ho219.sl el31 (by unfold maxLen; simp only [xfers, List.length_append, List.length_map, List.length_drop, List.length_take, List.length_cons, List.length_nil, run_len]; omega) (by simp only [xfers, List.length_append, List.length_map, List.length_drop, List.length_take, List.length_cons, List.length_nil, run_len]; omega) (by omega) rfl (fun v220 w23 hoM q23 hor220 => ?_)
         have z23 := q23.size
         obtain ⟨A220, c220, rfl, _⟩ := hoM.sl.form
         refine asg rfl rfl (kpL [(1, _), (3, _), (5, _), (6, _), (7, _), (9, _), (10, _), (11, _), (12, _), (13, _), (14, _), (22, _), (23, _), (24, _)] (.cons rfl (.cons rfl (.cons rfl (.cons rfl (.cons rfl (.cons rfl (.cons rfl (.cons rfl (.cons rfl (.cons rfl (.cons rfl (.cons rfl (.cons rfl (.cons rfl .nil)))))))))))))) (nn (sq (sr (mv rfl rfl (asg rfl rfl (nn (bl ?_))))))))
         refine lpK (ι := Nat × Value) [(1, _), (3, _), (5, _), (6, _), (7, _), (9, _), (10, _), (11, _), (12, _), (14, _), (22, _), (23, _)] (fun p => [(24, p.2), (26, .int .i64 (p.1 : Int))]) (fun p w' => Fr [] w18 w' ∧ ((firC i' a' fr) ≤ p.1 ∧ p.1 ≤ (lasC i' a' b' fr)) ∧ Lw.Own encOp 42 NM w' p.2 (xfers 0 (acrS f i' a' b' fr) ++ [rackO (byC a' b' fr)] ++ xfers 1 (((roomS f i' a' b' fr).take p.1).drop (firC i' a' fr)))) (fun p => (lasC i' a' b' fr) - p.1) ((firC i' a' fr), _) (.cons rfl (.cons rfl (.cons rfl (.cons rfl (.cons rfl (.cons rfl (.cons rfl (.cons rfl (.cons rfl (.cons rfl (.cons rfl (.cons rfl (.cons rfl (.cons rfl .nil)))))))))))))) ⟨((q19.next q22).step q23 (fun k hk hlt => absurd (hoo220.blk k hk).1 (by omega))), ⟨⟨Nat.le_refl _, hfl1⟩, by rw [xf_nil, List.append_nil]; exact hoM⟩⟩ ?_
         rintro ⟨k, vM⟩ w24 ⟨q24, ⟨hk, hoM⟩⟩
         simp only at hk hoM
         have z24 := q24.size
         refine kpC [(1, _), (3, _), (5, _), (6, _), (7, _), (9, _), (10, _), (11, _), (12, _), (14, _), (22, _), (23, _), (24, vM), (26, .int .i64 (k : Int))] (.cons rfl (.cons rfl (.cons rfl (.cons rfl (.cons rfl (.cons rfl (.cons rfl (.cons rfl (.cons rfl (.cons rfl (.cons rfl (.cons rfl (.cons rfl (.cons rfl .nil)))))))))))))) ?_
         refine sq (sr (mv rfl rfl (mv rfl rfl (lt' rfl rfl rfl (nn ?_)))))
         refine cd rfl (fun c7 => ?_) (fun c7 => ?_)
         · have hrk := room_bd hra.1 hil (k := k) (by omega)
           refine sk (tn (sq (bl (rg (mv rfl rfl (mv rfl rfl (mv rfl rfl ?_)))))))
           replace hoT := hoT0.ext q24
           refine s_idxL (p := k) (0) rfl hoT.sl rfl el26 (by omega) (by omega) (by omega) rfl (fun ad230 hc230 => ?_)
           refine s_loadC0 rfl (hc230 _ hoT.sl) na3 rfl (s_lit (cs := [_, _]) (ev2 rfl rfl) bo39 (pok_cons rfl rfl rfl (pok_cons rfl rfl rfl pok_nil)) rfl rfl (s_lit (cs := [_, _, _, _, _, _]) (ev2 rfl rfl) bo42 (pok_cons rfl rfl rfl (pok_cons rfl rfl rfl pok_nil)) rfl rfl (s_bslice ([xferO 1 ((roomS f i' a' b' fr).getD k 0)]) (ev1 rfl) rfl rfl rfl el31 (Nat.le_of_ble_eq_true rfl) rfl (fun g234 w25 hg234 ho234 q25 z25 => ?_))))
           replace hoM := hoM.ext q25
           have hoo235 := hoM
           refine s_append rfl rfl hoM ho234.sl el31 (by unfold maxLen; simp only [xfers, List.length_append, List.length_map, List.length_drop, List.length_take, List.length_cons, List.length_nil, run_len]; omega) (by simp only [xfers, List.length_append, List.length_map, List.length_drop, List.length_take, List.length_cons, List.length_nil, run_len]; omega) (by omega) rfl (fun v235 w26 hoM q26 hor235 => ?_)
           have z26 := q26.size
           refine asg rfl rfl (kpL [(1, _), (3, _), (5, _), (6, _), (7, _), (9, _), (10, _), (11, _), (12, _), (14, _), (22, _), (23, _), (24, _), (26, _)] (.cons rfl (.cons rfl (.cons rfl (.cons rfl (.cons rfl (.cons rfl (.cons rfl (.cons rfl (.cons rfl (.cons rfl (.cons rfl (.cons rfl (.cons rfl (.cons rfl .nil)))))))))))))) (nl (bn' (tn (rg (mv rfl rfl (s_add rfl rfl (wi6 (by omega)) rfl (asg rfl rfl (nl ?_)))))))))
           exact lpE ((k + 1, v235)) (.cons rfl (.cons rfl (.cons rfl (.cons rfl (.cons rfl (.cons rfl (.cons rfl (.cons rfl (.cons rfl (.cons rfl (.cons rfl (.cons rfl (.cons rfl (.cons rfl .nil)))))))))))))) ⟨((q24.next q25).step q26 (fun k hk hlt => absurd (hoo235.blk k hk).1 (by omega))), ⟨by simp only; omega, by rw [xf_snoc 1 (by omega) (by omega), ← List.append_assoc]; exact hoM⟩⟩ (by simp only; omega)
         · obtain rfl : k = (lasC i' a' b' fr) := by omega
           rw [← acr_eq] at hoM
           refine ex (te (te (xh (tn (sr (mv rfl rfl (s_lit (cs := [_, _, _, _, _, _]) (ev1 rfl) bo42 (pok_cons rfl rfl rfl pok_nil) rfl rfl (s_bslice ([rackO 0]) (ev1 rfl) rfl rfl rfl el31 (Nat.le_of_ble_eq_true rfl) rfl (fun g238 w27 hg238 ho238 q27 z27 => ?_)))))))))
           replace hoM := hoM.ext q27
           have hoo239 := hoM
           refine s_append rfl rfl hoM ho238.sl el31 (by unfold maxLen; simp only [xfers, List.length_append, List.length_map, List.length_drop, List.length_take, List.length_cons, List.length_nil, run_len]; omega) (by simp only [xfers, List.length_append, List.length_map, List.length_drop, List.length_take, List.length_cons, List.length_nil, run_len]; omega) (by omega) rfl (fun v239 w28 hoM q28 hor239 => ?_)
           have z28 := q28.size
           obtain ⟨A239, c239, rfl, _⟩ := hoM.sl.form
           refine asg rfl rfl ?_
           replace hb1 := hb10.ext ((q24.next q27).step q28 (fun k hk hlt => absurd (hoo239.blk k hk).1 (by omega)))
           replace hoF := hoF0.ext ((q24.next q27).step q28 (fun k hk hlt => absurd (hoo239.blk k hk).1 (by omega)))
           replace hoX := hoX0.ext ((q24.next q27).step q28 (fun k hk hlt => absurd (hoo239.blk k hk).1 (by omega)))
           replace hG := hG0.ext ((q24.next q27).step q28 (fun k hk hlt => absurd (hoo239.blk k hk).1 (by omega)))
           replace hoT := hoT0.ext ((q24.next q27).step q28 (fun k hk hlt => absurd (hoo239.blk k hk).1 (by omega)))
           replace hoS1 := hoS10.ext ((q24.next q27).step q28 (fun k hk hlt => absurd (hoo239.blk k hk).1 (by omega)))
           obtain ⟨NB, hNB⟩ : ∃ n, n = w28.heap.size := ⟨_, rfl⟩
           have hb10 := hb1
           have hoF0 := hoF
           have hoX0 := hoX
           have hG0 := hG
           have hoT0 := hoT
           have hoS10 := hoS1
           have hoM0 := hoM
           refine kpL [(1, _), (3, _), (5, _), (6, _), (7, _), (9, _), (10, _), (11, _), (12, _), (22, _), (23, _), (24, _)] (.cons rfl (.cons rfl (.cons rfl (.cons rfl (.cons rfl (.cons rfl (.cons rfl (.cons rfl (.cons rfl (.cons rfl (.cons rfl (.cons rfl .nil)))))))))))) (nn (sr (asg rfl rfl (nn (sq (sr (asg rfl rfl (nn (bl ?_)))))))))
           refine lpK (ι := Nat × Value) [(1, _), (3, _), (5, _), (6, _), (7, _), (9, _), (10, _), (11, _), (12, _), (22, _), (23, _), (24, _)] (fun p => [(27, p.2), (28, .int .i64 (p.1 : Int))]) (fun p w' => Fr [] w28 w' ∧ p.1 ≤ i' ∧ Lw.Own Enc.i64 3 NB w' p.2 ((roomS f i' a' b' fr).take p.1)) (fun p => i' - p.1) (0, .slice none 0 0) (.cons rfl (.cons rfl (.cons rfl (.cons rfl (.cons rfl (.cons rfl (.cons rfl (.cons rfl (.cons rfl (.cons rfl (.cons rfl (.cons rfl (.cons rfl (.cons rfl .nil)))))))))))))) ⟨(Fr.refl _ _), ⟨Nat.zero_le _, Own.nil _⟩⟩ ?_
           rintro ⟨k, vB⟩ w29 ⟨q29, ⟨hk, hoB⟩⟩
           simp only at hk hoB
           have z29 := q29.size
           refine kpC [(1, _), (3, _), (5, _), (6, _), (7, _), (9, _), (10, _), (11, _), (12, _), (22, _), (23, _), (24, _), (27, vB), (28, .int .i64 (k : Int))] (.cons rfl (.cons rfl (.cons rfl (.cons rfl (.cons rfl (.cons rfl (.cons rfl (.cons rfl (.cons rfl (.cons rfl (.cons rfl (.cons rfl (.cons rfl (.cons rfl .nil)))))))))))))) ?_
           refine sq (sr (mv rfl rfl (mv rfl rfl (lt' rfl rfl rfl (nn ?_)))))
           refine cd rfl (fun c8 => ?_) (fun c8 => ?_)
           · refine sk (tn (sq (bl (rg (mv rfl rfl (mv rfl rfl (mv rfl rfl ?_)))))))
             replace hoT := hoT0.ext q29
             refine s_idxL (p := k) (0) rfl hoT.sl rfl el26 (by omega) (by omega) (by omega) rfl (fun ad248 hc248 => ?_)
             refine s_loadC0 rfl (hc248 _ hoT.sl) na3 rfl (s_bslice ([(roomS f i' a' b' fr).getD k 0]) (ev1 rfl) rfl rfl rfl el26 (Nat.le_of_ble_eq_true rfl) rfl (fun g250 w30 hg250 ho250 q30 z30 => ?_))
             replace hoB := hoB.ext q30
             have hoo251 := hoB
             refine s_append rfl rfl hoB ho250.sl el26 (by unfold maxLen; simp only [xfers, List.length_append, List.length_map, List.length_drop, List.length_take, List.length_cons, List.length_nil, run_len]; omega) (by simp only [xfers, List.length_append, List.length_map, List.length_drop, List.length_take, List.length_cons, List.length_nil, run_len]; omega) (by omega) rfl (fun v251 w31 hoB q31 hor251 => ?_)
             have z31 := q31.size
             obtain ⟨A251, c251, rfl, _⟩ := hoB.sl.form
             refine asg rfl rfl (kpL [(1, _), (3, _), (5, _), (6, _), (7, _), (9, _), (10, _), (11, _), (12, _), (22, _), (23, _), (24, _), (27, _), (28, _)] (.cons rfl (.cons rfl (.cons rfl (.cons rfl (.cons rfl (.cons rfl (.cons rfl (.cons rfl (.cons rfl (.cons rfl (.cons rfl (.cons rfl (.cons rfl (.cons rfl .nil)))))))))))))) (nl (bn' (tn (rg (mv rfl rfl (s_add rfl rfl (wi6 (by omega)) rfl (asg rfl rfl (nl ?_)))))))))
             exact lpE ((k + 1, _)) (.cons rfl (.cons rfl (.cons rfl (.cons rfl (.cons rfl (.cons rfl (.cons rfl (.cons rfl (.cons rfl (.cons rfl (.cons rfl (.cons rfl (.cons rfl (.cons rfl .nil)))))))))))))) ⟨((q29.next q30).step q31 (fun k hk hlt => absurd (hoo251.blk k hk).1 (by omega))), ⟨by simp only; omega, by rw [take_succ_getD (roomS f i' a' b' fr) k (by omega)]; exact hoB⟩⟩ (by simp only; omega)
           · obtain rfl : i' = k := by omega
             refine ex (te (te (xh (tn (sq (sr (mv rfl rfl (mv rfl rfl (s_add rfl rfl (wi6 (by omega)) rfl (asg rfl rfl (nn ?_)))))))))))
             refine bl ?_
             refine lpK (ι := Nat × Value) [(1, _), (3, _), (5, _), (6, _), (7, _), (9, _), (10, _), (11, _), (12, _), (22, _), (23, _), (24, _)] (fun p => [(27, p.2), (29, .int .i64 ((i' : Int) + (a' : Int) + (p.1 : Int)))]) (fun p w' => Fr [] w28 w' ∧ p.1 ≤ b' ∧ Lw.Own Enc.i64 3 NB w' p.2 ((roomS f i' a' b' fr).take i' ++ run (behP f i' a' b' fr) p.1)) (fun p => b' - p.1) (0, _) (.cons rfl (.cons rfl (.cons rfl (.cons rfl (.cons rfl (.cons rfl (.cons rfl (.cons rfl (.cons rfl (.cons rfl (.cons rfl (.cons rfl (.cons rfl (.cons (congrArg (fun z => some (Value.int .i64 z)) (by simp)) .nil)))))))))))))) ⟨q29, ⟨Nat.zero_le _, by rw [show run (behP f i' a' b' fr) 0 = [] from rfl, List.append_nil]; exact hoB⟩⟩ ?_
             rintro ⟨m, vB⟩ w32 ⟨q32, ⟨hm, hoB⟩⟩
             simp only at hm hoB
             have z32 := q32.size
             refine kpC [(1, _), (3, _), (5, _), (6, _), (7, _), (9, _), (10, _), (11, _), (12, _), (22, _), (23, _), (24, _), (27, vB), (29, .int .i64 ((i' : Int) + (a' : Int) + (m : Int)))] (.cons rfl (.cons rfl (.cons rfl (.cons rfl (.cons rfl (.cons rfl (.cons rfl (.cons rfl (.cons rfl (.cons rfl (.cons rfl (.cons rfl (.cons rfl (.cons rfl .nil)))))))))))))) ?_
             refine sq (sr (mv rfl rfl (mv rfl rfl (mv rfl rfl (s_add rfl rfl (wi6 (by omega)) rfl (mv rfl rfl (s_add rfl rfl (wi6 (by omega)) rfl (lt' rfl rfl rfl (kpL [(1, _), (3, _), (5, _), (6, _), (7, _), (9, _), (10, _), (11, _), (12, _), (22, _), (23, _), (24, _), (27, _), (29, _), (261, _)] (.cons rfl (.cons rfl (.cons rfl (.cons rfl (.cons rfl (.cons rfl (.cons rfl (.cons rfl (.cons rfl (.cons rfl (.cons rfl (.cons rfl (.cons rfl (.cons rfl (.cons rfl .nil))))))))))))))) (nn ?_))))))))))
             refine cd rfl (fun c9 => ?_) (fun c9 => ?_)
             · have hrk := room_bd hra.1 hil (k := i' + a' + m) (by omega)
               have hbl : ((roomS f i' a' b' fr).take i' ++ run (behP f i' a' b' fr) m ++ [(roomS f i' a' b' fr).getD (i' + a' + m) 0]).length = ((roomS f i' a' b' fr).take i' ++ run (behP f i' a' b' fr) m).length + 1 := by rw [List.length_append, List.length_singleton]
               have hbl2 : ((roomS f i' a' b' fr).take i' ++ run (behP f i' a' b' fr) m).length ≤ 100 := by simp only [List.length_append, List.length_take, run_len]; omega
               have hgl := getD_last (xs := (roomS f i' a' b' fr).take i' ++ run (behP f i' a' b' fr) m) ((roomS f i' a' b' fr).getD (i' + a' + m) 0)
               have hby : -8 ≤ byC a' b' fr ∧ byC a' b' fr ≤ 8 := by unfold byC; split <;> omega
               refine sk (tn (sq (bl (sr (mv rfl rfl (mv rfl rfl (mv rfl rfl ?_)))))))
               replace hoT := hoT0.ext q32
               refine s_idxL (p := (i' + a' + m)) (0) rfl hoT.sl rfl el26 (by omega) (by omega) (by omega) rfl (fun ad267 hc267 => ?_)
               refine s_loadC0 rfl (hc267 _ hoT.sl) na3 rfl (s_bslice ([(roomS f i' a' b' fr).getD (i' + a' + m) 0]) (ev1 rfl) rfl rfl rfl el26 (Nat.le_of_ble_eq_true rfl) rfl (fun g269 w33 hg269 ho269 q33 z33 => ?_))
               replace hoB := hoB.ext q33
               have hoo270 := hoB
               refine s_append rfl rfl hoB ho269.sl el26 (by unfold maxLen; simp only [xfers, List.length_append, List.length_map, List.length_drop, List.length_take, List.length_cons, List.length_nil, run_len]; omega) (by simp only [xfers, List.length_append, List.length_map, List.length_drop, List.length_take, List.length_cons, List.length_nil, run_len]; omega) (by omega) rfl (fun v270 w34 hoB q34 hor270 => ?_)
               have z34 := q34.size
               obtain ⟨A270, c270, rfl, _⟩ := hoB.sl.form
               refine asg rfl rfl (kpL [(1, _), (3, _), (5, _), (6, _), (7, _), (9, _), (10, _), (11, _), (12, _), (22, _), (23, _), (24, _), (27, _), (29, _)] (.cons rfl (.cons rfl (.cons rfl (.cons rfl (.cons rfl (.cons rfl (.cons rfl (.cons rfl (.cons rfl (.cons rfl (.cons rfl (.cons rfl (.cons rfl (.cons rfl .nil)))))))))))))) (nn (sr (fad rfl fa25_4 rfl ?_))))
               replace hb1 := hb10.ext ((q32.next q33).step q34 (fun k hk hlt => absurd (hoo270.blk k hk).1 (by omega)))
               refine s_loadB rfl hb1 rfl na4 rfl (nn ?_)
               refine cd rfl (fun c10 => ?_) (fun c10 => ?_)
               · refine rg (mv rfl rfl (mv rfl rfl (lnS rfl Tryd.underlying26 rfl (s_sub rfl rfl (wi6 (by omega)) rfl (s_idxL (p := ((roomS f i' a' b' fr).take i' ++ run (behP f i' a' b' fr) m).length) (0) rfl hoB.sl rfl el26 (by omega) (by omega) (by omega) rfl (fun ad277 hc277 => ?_))))))
                 refine s_loadC0 rfl (hc277 _ hoB.sl) na3 rfl (mv rfl rfl (s_add rfl rfl (wi6 (by omega)) rfl ?_))
                 have hoBo := hoB
                 refine s_ixs (p := ((roomS f i' a' b' fr).take i' ++ run (behP f i' a' b' fr) m).length) (_) rfl hoB rfl rfl (by intro e; cases e) el26 sz3 rfl (by omega) (by rw [hbl]; omega) (by omega) rfl rfl (fun w35 hoB q35 z35 => ?_)
                 rw [getD_last, set_last] at hoB
                 refine kpL [(1, _), (3, _), (5, _), (6, _), (7, _), (9, _), (10, _), (11, _), (12, _), (22, _), (23, _), (24, _), (27, _), (29, _)] (.cons rfl (.cons rfl (.cons rfl (.cons rfl (.cons rfl (.cons rfl (.cons rfl (.cons rfl (.cons rfl (.cons rfl (.cons rfl (.cons rfl (.cons rfl (.cons rfl .nil)))))))))))))) (nl (bn' (tn (rg (mv rfl rfl (s_add rfl rfl (wi6 (by omega)) rfl (asg rfl rfl (nl ?_))))))))
                 exact lpE ((m + 1, _)) (.cons rfl (.cons rfl (.cons rfl (.cons rfl (.cons rfl (.cons rfl (.cons rfl (.cons rfl (.cons rfl (.cons rfl (.cons rfl (.cons rfl (.cons rfl (.cons (congrArg (fun z => some (Value.int .i64 z)) (by simp only; omega)) .nil)))))))))))))) ⟨(((q32.next q33).step q34 (fun k hk hlt => absurd (hoo270.blk k hk).1 (by omega))).step q35 (fun k hk hlt => absurd (hoBo.blk k hk).1 (by omega))), ⟨by simp only; omega, by first | (rw [run_succ, ← List.append_assoc, ← right_T c10 hil (by omega)]; exact hoB) | (rw [run_succ, ← List.append_assoc, ← right_F c10 hil (by omega)]; exact hoB)⟩⟩ (by simp only; omega)
               · refine sk (bn' (tn (rg (mv rfl rfl (s_add rfl rfl (wi6 (by omega)) rfl (asg rfl rfl (nl ?_)))))))
                 exact lpE ((m + 1, _)) (.cons rfl (.cons rfl (.cons rfl (.cons rfl (.cons rfl (.cons rfl (.cons rfl (.cons rfl (.cons rfl (.cons rfl (.cons rfl (.cons rfl (.cons rfl (.cons (congrArg (fun z => some (Value.int .i64 z)) (by simp only; omega)) .nil)))))))))))))) ⟨((q32.next q33).step q34 (fun k hk hlt => absurd (hoo270.blk k hk).1 (by omega))), ⟨by simp only; omega, by first | (rw [run_succ, ← List.append_assoc, ← right_T c10 hil (by omega)]; exact hoB) | (rw [run_succ, ← List.append_assoc, ← right_F c10 hil (by omega)]; exact hoB)⟩⟩ (by simp only; omega)
             · obtain rfl : b' = m := by omega
               refine ex (te (te (xh (tn (sq (sr (mv rfl rfl (asg rfl rfl (nn (bl ?_))))))))))
               refine lpK (ι := Nat × Value) [(1, _), (3, _), (5, _), (6, _), (7, _), (9, _), (10, _), (11, _), (12, _), (22, _), (23, _), (24, _)] (fun p => [(27, p.2), (30, .int .i64 ((i' : Int) + (p.1 : Int)))]) (fun p w' => Fr [] w28 w' ∧ p.1 ≤ a' ∧ Lw.Own Enc.i64 3 NB w' p.2 ((roomS f i' a' b' fr).take i' ++ run (behP f i' a' b' fr) (b' + p.1))) (fun p => a' - p.1) (0, vB) (.cons rfl (.cons rfl (.cons rfl (.cons rfl (.cons rfl (.cons rfl (.cons rfl (.cons rfl (.cons rfl (.cons rfl (.cons rfl (.cons rfl (.cons rfl (.cons (congrArg (fun z => some (Value.int .i64 z)) (by simp)) .nil)))))))))))))) ⟨q32, ⟨Nat.zero_le _, hoB⟩⟩ ?_
               rintro ⟨m, vB⟩ w36 ⟨q36, ⟨hm, hoB⟩⟩
               simp only at hm hoB
               have z36 := q36.size
               refine kpC [(1, _), (3, _), (5, _), (6, _), (7, _), (9, _), (10, _), (11, _), (12, _), (22, _), (23, _), (24, _), (27, vB), (30, .int .i64 ((i' : Int) + (m : Int)))] (.cons rfl (.cons rfl (.cons rfl (.cons rfl (.cons rfl (.cons rfl (.cons rfl (.cons rfl (.cons rfl (.cons rfl (.cons rfl (.cons rfl (.cons rfl (.cons rfl .nil)))))))))))))) ?_
               refine sq (sr (mv rfl rfl (mv rfl rfl (mv rfl rfl (s_add rfl rfl (wi6 (by omega)) rfl (lt' rfl rfl rfl (nn ?_)))))))
               refine cd rfl (fun c11 => ?_) (fun c11 => ?_)
               · have hrk := room_bd hra.1 hil (k := i' + m) (by omega)
                 have hbl : ((roomS f i' a' b' fr).take i' ++ run (behP f i' a' b' fr) (b' + m) ++ [(roomS f i' a' b' fr).getD (i' + m) 0]).length = ((roomS f i' a' b' fr).take i' ++ run (behP f i' a' b' fr) (b' + m)).length + 1 := by rw [List.length_append, List.length_singleton]
                 have hbl2 : ((roomS f i' a' b' fr).take i' ++ run (behP f i' a' b' fr) (b' + m)).length ≤ 100 := by simp only [List.length_append, List.length_take, run_len]; omega
                 have hgl := getD_last (xs := (roomS f i' a' b' fr).take i' ++ run (behP f i' a' b' fr) (b' + m)) ((roomS f i' a' b' fr).getD (i' + m) 0)
                 have hby : -8 ≤ byC a' b' fr ∧ byC a' b' fr ≤ 8 := by unfold byC; split <;> omega
                 refine sk (tn (sq (bl (sr (mv rfl rfl (mv rfl rfl (mv rfl rfl ?_)))))))
                 replace hoT := hoT0.ext q36
                 refine s_idxL (p := (i' + m)) (0) rfl hoT.sl rfl el26 (by omega) (by omega) (by omega) rfl (fun ad293 hc293 => ?_)
                 refine s_loadC0 rfl (hc293 _ hoT.sl) na3 rfl (s_bslice ([(roomS f i' a' b' fr).getD (i' + m) 0]) (ev1 rfl) rfl rfl rfl el26 (Nat.le_of_ble_eq_true rfl) rfl (fun g295 w37 hg295 ho295 q37 z37 => ?_))
                 replace hoB := hoB.ext q37
                 have hoo296 := hoB
                 refine s_append rfl rfl hoB ho295.sl el26 (by unfold maxLen; simp only [xfers, List.length_append, List.length_map, List.length_drop, List.length_take, List.length_cons, List.length_nil, run_len]; omega) (by simp only [xfers, List.length_append, List.length_map, List.length_drop, List.length_take, List.length_cons, List.length_nil, run_len]; omega) (by omega) rfl (fun v296 w38 hoB q38 hor296 => ?_)
                 have z38 := q38.size
                 obtain ⟨A296, c296, rfl, _⟩ := hoB.sl.form
                 refine asg rfl rfl (kpL [(1, _), (3, _), (5, _), (6, _), (7, _), (9, _), (10, _), (11, _), (12, _), (22, _), (23, _), (24, _), (27, _), (30, _)] (.cons rfl (.cons rfl (.cons rfl (.cons rfl (.cons rfl (.cons rfl (.cons rfl (.cons rfl (.cons rfl (.cons rfl (.cons rfl (.cons rfl (.cons rfl (.cons rfl .nil)))))))))))))) (nn (sr (fad rfl fa25_4 rfl ?_))))
                 replace hb1 := hb10.ext ((q36.next q37).step q38 (fun k hk hlt => absurd (hoo296.blk k hk).1 (by omega)))
                 refine s_loadB rfl hb1 rfl na4 rfl (nt' rfl rfl (nn ?_))
                 refine cd rfl (fun c12 => ?_) (fun c12 => ?_)
                 · have hnf : ¬ fr = true := by simpa using c12
                   refine rg (mv rfl rfl (mv rfl rfl (lnS rfl Tryd.underlying26 rfl (s_sub rfl rfl (wi6 (by omega)) rfl (s_idxL (p := ((roomS f i' a' b' fr).take i' ++ run (behP f i' a' b' fr) (b' + m)).length) (0) rfl hoB.sl rfl el26 (by omega) (by omega) (by omega) rfl (fun ad304 hc304 => ?_))))))
                   refine s_loadC0 rfl (hc304 _ hoB.sl) na3 rfl (mv rfl rfl (s_add rfl rfl (wi6 (by omega)) rfl ?_))
                   have hoBo := hoB
                   refine s_ixs (p := ((roomS f i' a' b' fr).take i' ++ run (behP f i' a' b' fr) (b' + m)).length) (_) rfl hoB rfl rfl (by intro e; cases e) el26 sz3 rfl (by omega) (by rw [hbl]; omega) (by omega) rfl rfl (fun w39 hoB q39 z39 => ?_)
                   rw [getD_last, set_last] at hoB
                   refine kpL [(1, _), (3, _), (5, _), (6, _), (7, _), (9, _), (10, _), (11, _), (12, _), (22, _), (23, _), (24, _), (27, _), (30, _)] (.cons rfl (.cons rfl (.cons rfl (.cons rfl (.cons rfl (.cons rfl (.cons rfl (.cons rfl (.cons rfl (.cons rfl (.cons rfl (.cons rfl (.cons rfl (.cons rfl .nil)))))))))))))) (nl (bn' (tn (rg (mv rfl rfl (s_add rfl rfl (wi6 (by omega)) rfl (asg rfl rfl (nl ?_))))))))
                   exact lpE ((m + 1, _)) (.cons rfl (.cons rfl (.cons rfl (.cons rfl (.cons rfl (.cons rfl (.cons rfl (.cons rfl (.cons rfl (.cons rfl (.cons rfl (.cons rfl (.cons rfl (.cons (congrArg (fun z => some (Value.int .i64 z)) (by simp only; omega)) .nil)))))))))))))) ⟨(((q36.next q37).step q38 (fun k hk hlt => absurd (hoo296.blk k hk).1 (by omega))).step q39 (fun k hk hlt => absurd (hoBo.blk k hk).1 (by omega))), ⟨by simp only; omega, by first | (rw [← Nat.add_assoc, run_succ, ← List.append_assoc, ← left_T hif hil (by omega)]; exact hoB) | (rw [← Nat.add_assoc, run_succ, ← List.append_assoc, ← left_F hnf hil (by omega)]; exact hoB)⟩⟩ (by simp only; omega)
                 · have hif : fr = true := by simpa using c12
                   refine sk (bn' (tn (rg (mv rfl rfl (s_add rfl rfl (wi6 (by omega)) rfl (asg rfl rfl (nl ?_)))))))
                   exact lpE ((m + 1, _)) (.cons rfl (.cons rfl (.cons rfl (.cons rfl (.cons rfl (.cons rfl (.cons rfl (.cons rfl (.cons rfl (.cons rfl (.cons rfl (.cons rfl (.cons rfl (.cons (congrArg (fun z => some (Value.int .i64 z)) (by simp only; omega)) .nil)))))))))))))) ⟨((q36.next q37).step q38 (fun k hk hlt => absurd (hoo296.blk k hk).1 (by omega))), ⟨by simp only; omega, by first | (rw [← Nat.add_assoc, run_succ, ← List.append_assoc, ← left_T hif hil (by omega)]; exact hoB) | (rw [← Nat.add_assoc, run_succ, ← List.append_assoc, ← left_F hnf hil (by omega)]; exact hoB)⟩⟩ (by simp only; omega)
               · obtain rfl : a' = m := by omega
                 refine ex (te (te (xh (tn (sr (mv rfl rfl (mv rfl rfl (mv rfl rfl (mv rfl rfl (s_add rfl rfl (wi6 (by omega)) rfl (mv rfl rfl ?_)))))))))))
                 refine s_add rfl rfl (wi6 (by omega)) rfl (s_sl_l (p := (i' + a' + b')) rfl rfl el26 (by omega) (by omega) (by omega) rfl ?_)
                 replace hoT := hoT0.ext q36
                 have hoo317 := hoB
                 refine s_append rfl rfl hoB (show Sl Enc.i64 w36 _ ((roomS f i' a' b' fr).drop (i' + a' + b')) from by have h := hoT.sl.cutv (p := i' + a' + b') (p' := f.length) (by omega) (by rw [hrl]; exact Nat.le_refl _); rwa [List.take_of_length_le (by rw [hrl]; exact Nat.le_refl _)] at h) el26 (by unfold maxLen; simp only [xfers, List.length_append, List.length_map, List.length_drop, List.length_take, List.length_cons, List.length_nil, run_len]; omega) (by simp only [xfers, List.length_append, List.length_map, List.length_drop, List.length_take, List.length_cons, List.length_nil, run_len]; omega) (by omega) rfl (fun v317 w40 hoB q40 hor317 => ?_)
                 have z40 := q40.size
                 rw [Nat.add_comm b' a', ← beh_split] at hoB
                 obtain ⟨A317, c317, rfl, _⟩ := hoB.sl.form
                 refine asg rfl rfl (kpL [(3, _), (9, _), (10, _), (22, _), (23, _), (24, _), (27, _)] (.cons rfl (.cons rfl (.cons rfl (.cons rfl (.cons rfl (.cons rfl (.cons rfl .nil))))))) (nn (sr (mv rfl rfl (mv rfl rfl ?_)))))
                 replace hoF := hoF0.ext (q36.step q40 (fun k hk hlt => absurd (hoo317.blk k hk).1 (by omega)))
                 refine cl (ev2 rfl rfl) co9 (shift_ok _ _ (behS f i' a' b' fr) f _ hoB.sl hoF.sl hra.2 hasc (by rw [behS_len hil])) rfl ?_
                 rintro _ w41 ⟨AS2, rfl, hoS2, q41⟩
                 have z41 := q41.size
                 refine mv rfl rfl (xt rfl rfl rfl (xt rfl rfl rfl (asg rfl rfl (asg rfl rfl ?_))))
                 replace hoX := hoX0.ext ((q36.step q40 (fun k hk hlt => absurd (hoo317.blk k hk).1 (by omega))).next q41)
                 replace hG := hG0.ext ((q36.step q40 (fun k hk hlt => absurd (hoo317.blk k hk).1 (by omega))).next q41)
                 replace hoS1 := hoS10.ext ((q36.step q40 (fun k hk hlt => absurd (hoo317.blk k hk).1 (by omega))).next q41)
                 replace hoM := hoM0.ext ((q36.step q40 (fun k hk hlt => absurd (hoo317.blk k hk).1 (by omega))).next q41)
                 obtain ⟨NL, hNL⟩ : ∃ n, n = w41.heap.size := ⟨_, rfl⟩
                 have hoX0 := hoX
                 have hG0 := hG
                 have hoS10 := hoS1
                 have hoM0 := hoM
                 have hoS20 := hoS2
                 refine kpL [(9, _), (10, _), (22, _), (23, _), (24, _), (31, _), (32, _)] (.cons rfl (.cons rfl (.cons rfl (.cons rfl (.cons rfl (.cons rfl (.cons rfl .nil))))))) (nn (sr (s_bslice (([] : List MOp)) evs_nil rfl rfl rfl el31 (Nat.le_of_ble_eq_true rfl) rfl (fun g324 w42 hg324 ho324 q42 z42 => ?_))))
                 refine mv rfl rfl ?_
                 replace hoS1 := hoS10.ext q42
                 have hoo326 := ho324
                 refine s_append rfl rfl ho324 hoS1.sl el31 (by unfold maxLen; simp only [List.length_nil]; omega) (by simp only [List.length_nil]; omega) (by omega) rfl (fun v326 w43 hoL q43 hor326 => ?_)
                 have z43 := q43.size
                 rw [List.nil_append] at hoL
                 refine mv rfl rfl ?_
                 replace hoM := hoM0.ext (q42.step q43 (fun k hk hlt => absurd (hoo326.blk k hk).1 (by omega)))
                 have hoo328 := hoL
                 refine s_append rfl rfl hoL hoM.sl el31 (by unfold maxLen; simp only [xfers, List.length_append, List.length_map, List.length_drop, List.length_take, List.length_cons, List.length_nil, run_len]; omega) (by simp only [xfers, List.length_append, List.length_map, List.length_drop, List.length_take, List.length_cons, List.length_nil, run_len]; omega) (by omega) rfl (fun v328 w44 hoL q44 hor328 => ?_)
                 have z44 := q44.size
                 refine mv rfl rfl ?_
                 replace hoS2 := hoS20.ext ((q42.step q43 (fun k hk hlt => absurd (hoo326.blk k hk).1 (by omega))).step q44 (fun k hk hlt => absurd (hoo328.blk k hk).1 (by omega)))
                 have hoo330 := hoL
                 refine s_append rfl rfl hoL hoS2.sl el31 (by unfold maxLen; simp only [xfers, List.length_append, List.length_map, List.length_drop, List.length_take, List.length_cons, List.length_nil, run_len]; omega) (by simp only [xfers, List.length_append, List.length_map, List.length_drop, List.length_take, List.length_cons, List.length_nil, run_len]; omega) (by omega) rfl (fun v330 w45 hoL q45 hor330 => ?_)
                 have z45 := q45.size
                 have hAll : crossS f i' a' b' fr = shiftS f (roomS f i' a' b' fr) ++ (xfers 0 (acrS f i' a' b' fr) ++ [rackO (byC a' b' fr)] ++ xfers 1 (acrS f i' a' b' fr) ++ [rackO 0]) ++ shiftS (behS f i' a' b' fr) f := by rw [hS]; unfold crossN; simp only [List.append_assoc]
                 obtain ⟨A330, c330, rfl, _⟩ := hoL.sl.form
                 refine asg rfl rfl (kpL [(9, _), (10, _), (23, _), (32, _), (33, _)] (.cons rfl (.cons rfl (.cons rfl (.cons rfl (.cons rfl .nil))))) (nn (sq ?_)))
                 refine rboF (r := 2) (L' := []) (True) .nil ?_ ?_
                 · refine mv rfl rfl (eq' rfl rfl rfl (mv rfl rfl ?_))
                   refine gs 333 rfl (fun g1 => ?_) (fun hh => absurd (by exact hE) hh)
                   refine gY rfl (mv rfl rfl (gY rfl (eq' rfl rfl rfl (pkt rfl rfl rfl rfl (mv rfl rfl ?_)))))
                   refine gs 337 rfl (fun g2 => ?_) (fun hh => absurd (by rfl) hh)
                   refine gY rfl (mv rfl rfl (gY rfl (eq' rfl rfl rfl (pkt rfl rfl rfl rfl (mv rfl rfl ?_)))))
                   refine gs 341 rfl (fun g3 => ?_) (fun hh => absurd (by rfl) hh)
                   refine gY rfl (mv rfl rfl (gY rfl ?_))
                   replace hG := hG0.ext (((q42.step q43 (fun k hk hlt => absurd (hoo326.blk k hk).1 (by omega))).step q44 (fun k hk hlt => absurd (hoo328.blk k hk).1 (by omega))).step q45 (fun k hk hlt => absurd (hoo330.blk k hk).1 (by omega)))
                   replace hoX := hoX0.ext (((q42.step q43 (fun k hk hlt => absurd (hoo326.blk k hk).1 (by omega))).step q44 (fun k hk hlt => absurd (hoo328.blk k hk).1 (by omega))).step q45 (fun k hk hlt => absurd (hoo330.blk k hk).1 (by omega)))
                   refine cl (ev1 rfl) co10 (text28_ok _ (crossS f i' a' b' fr) _ hG hoX.sl (by rw [hS]; omega)) rfl ?_
                   rintro _ w46 ⟨rfl, q46⟩
                   have z46 := q46.size
                   refine gY rfl (mv rfl rfl (gY rfl ?_))
                   replace hG := hG0.ext ((((q42.step q43 (fun k hk hlt => absurd (hoo326.blk k hk).1 (by omega))).step q44 (fun k hk hlt => absurd (hoo328.blk k hk).1 (by omega))).step q45 (fun k hk hlt => absurd (hoo330.blk k hk).1 (by omega))).next q46)
                   replace hoL := hoL.ext q46
                   refine cl (ev1 rfl) co10 (text28_ok _ _ _ hG hoL.sl (by rw [← hAll, hS]; omega)) rfl ?_
                   rintro _ w47 ⟨rfl, q47⟩
                   have z47 := q47.size
                   refine gY rfl (s_eqs rfl rfl rfl (pkt rfl rfl rfl rfl (mv rfl rfl ?_)))
                   refine gs 348 rfl (fun g4 => ?_) (fun hh => absurd (by exact congrArg textS hAll) hh)
                   refine gY rfl ?_
                   replace hG := hG0.ext (((((q42.step q43 (fun k hk hlt => absurd (hoo326.blk k hk).1 (by omega))).step q44 (fun k hk hlt => absurd (hoo328.blk k hk).1 (by omega))).step q45 (fun k hk hlt => absurd (hoo330.blk k hk).1 (by omega))).next q46).next q47)
                   refine cl evs_nil co7 (lives_ok _ hG) rfl ?_
                   rintro _ w48 ⟨rfl, q48⟩
                   have z48 := q48.size
                   exact pkt rfl rfl rfl rfl (asg rfl rfl (rbeF rfl (by rfl) .nil ((q46.next q47).next q48)))
                 · intro w49 q49; have z49 := q49.size
                   refine tn (rt (r1 Tryd.results3 rfl ?_))
                   exact ⟨_, rfl, rfl, ((((((((((((((((((q1.next q2).next q4).next q6).next q7).step q8 (fun k hk hlt => absurd (hoo68.blk k hk).1 (by omega))).step q17 (by first | (simp; done) | (simp; omega))).next q18).next q24).next q27).step q28 (fun k hk hlt => absurd (hoo239.blk k hk).1 (by omega))).next q36).step q40 (fun k hk hlt => absurd (hoo317.blk k hk).1 (by omega))).next q41).next q42).step q43 (fun k hk hlt => absurd (hoo326.blk k hk).1 (by omega))).step q44 (fun k hk hlt => absurd (hoo328.blk k hk).1 (by omega))).step q45 (fun k hk hlt => absurd (hoo330.blk k hk).1 (by omega))).next q49)⟩
end Go.Proofs.YtacclnebhbakmaaDoor
