/- Walks. -/
import Derived.Test.YtbalocjcbmkecaaGreatDoorRows
import Derived.Test.YtbalocjcbmkecaaGreatDoorW24b
import Derived.Test.YtbalocjcbmkecaaGreatDoorXOp
import Derived.Test.YtbalocjcbmkecaaGreatDoorXMap
import Derived.Test.YtbalocjcbmkecaaGreatDoorXPas
set_option linter.unusedVariables false
set_option linter.unusedSimpArgs false
namespace Go.Proofs.YtbalocjcbmkecaaGreatDoor
open Go.Lw
theorem el27 : ElemOf Tryz.prog 27 3 Enc.i64 8 := ElemOf.mk' (z := (.int .i64 0)) Tryz.underlying27 (by kernel_rfl) rfl
theorem class10_ok (o : MOp) (w0 : World) : Rets Tryz.prog 10 #[opV o] w0 fun v w' => v = .int .i64 (clsS o.k) ∧ Fr [] w0 w' := by
 refine we [(0, opV o)] Tryz.func10 rfl Tryz.ntmps10 rfl (.cons rfl .nil) ?_
 refine sr (bx rfl rfl rfl (fun g1 w1 hg1 hb1 q1 z1 => ?_))
 refine asg rfl rfl (nn (sq (sr (fad rfl fa41_0 rfl (s_loadB rfl hb1 rfl na35 rfl (nn (bl (sq (sr (eq' rfl rfl rfl (asg rfl rfl ?_)))))))))))
 refine nn ?_
 refine cd rfl (fun c0 => ?_) (fun c0 => ?_)
 · refine sk (tn ?_)
   refine cd rfl (fun c2 => ?_) (fun c2 => ?_)
   · refine sr (asg rfl rfl (nn (rt (rb (tr (r1 Tryz.results10 rfl ?_))))))
     exact ⟨_, rfl, by unfold clsS; (repeat' split) <;> first | rfl | (exfalso; omega) | (simp_all; done), q1⟩
   · refine sr (eq' rfl rfl rfl (asg rfl rfl (nn ?_)))
     refine cd rfl (fun c3 => ?_) (fun c3 => ?_)
     · refine sr (asg rfl rfl (nn (rt (rb (tr (r1 Tryz.results10 rfl ?_))))))
       exact ⟨_, rfl, by unfold clsS; (repeat' split) <;> first | rfl | (exfalso; omega) | (simp_all; done), q1⟩
     · refine sr (eq' rfl rfl rfl (asg rfl rfl (nn ?_)))
       refine cd rfl (fun c4 => ?_) (fun c4 => ?_)
       · refine sr (asg rfl rfl (nn (rt (rb (tr (r1 Tryz.results10 rfl ?_))))))
         exact ⟨_, rfl, by unfold clsS; (repeat' split) <;> first | rfl | (exfalso; omega) | (simp_all; done), q1⟩
       · refine sk (bn' (tn (sr (asg rfl rfl (nn (rt (r1 Tryz.results10 rfl ?_)))))))
         exact ⟨_, rfl, by unfold clsS; (repeat' split) <;> first | rfl | (exfalso; omega) | (simp_all; done), q1⟩
 · refine sr (eq' rfl rfl rfl (asg rfl rfl (nn ?_)))
   refine cd rfl (fun c1 => ?_) (fun c1 => ?_)
   · refine sk (tn ?_)
     refine cd rfl (fun c2 => ?_) (fun c2 => ?_)
     · refine sr (asg rfl rfl (nn (rt (rb (tr (r1 Tryz.results10 rfl ?_))))))
       exact ⟨_, rfl, by unfold clsS; (repeat' split) <;> first | rfl | (exfalso; omega) | (simp_all; done), q1⟩
     · refine sr (eq' rfl rfl rfl (asg rfl rfl (nn ?_)))
       refine cd rfl (fun c3 => ?_) (fun c3 => ?_)
       · refine sr (asg rfl rfl (nn (rt (rb (tr (r1 Tryz.results10 rfl ?_))))))
         exact ⟨_, rfl, by unfold clsS; (repeat' split) <;> first | rfl | (exfalso; omega) | (simp_all; done), q1⟩
       · refine sr (eq' rfl rfl rfl (asg rfl rfl (nn ?_)))
         refine cd rfl (fun c4 => ?_) (fun c4 => ?_)
         · refine sr (asg rfl rfl (nn (rt (rb (tr (r1 Tryz.results10 rfl ?_))))))
           exact ⟨_, rfl, by unfold clsS; (repeat' split) <;> first | rfl | (exfalso; omega) | (simp_all; done), q1⟩
         · refine sk (bn' (tn (sr (asg rfl rfl (nn (rt (r1 Tryz.results10 rfl ?_)))))))
           exact ⟨_, rfl, by unfold clsS; (repeat' split) <;> first | rfl | (exfalso; omega) | (simp_all; done), q1⟩
   · refine rg (eq' rfl rfl rfl (asg rfl rfl (nl (tn ?_))))
     refine cd rfl (fun c2 => ?_) (fun c2 => ?_)
     · refine sr (asg rfl rfl (nn (rt (rb (tr (r1 Tryz.results10 rfl ?_))))))
       exact ⟨_, rfl, by unfold clsS; (repeat' split) <;> first | rfl | (exfalso; omega) | (simp_all; done), q1⟩
     · refine sr (eq' rfl rfl rfl (asg rfl rfl (nn ?_)))
       refine cd rfl (fun c3 => ?_) (fun c3 => ?_)
       · refine sr (asg rfl rfl (nn (rt (rb (tr (r1 Tryz.results10 rfl ?_))))))
         exact ⟨_, rfl, by unfold clsS; (repeat' split) <;> first | rfl | (exfalso; omega) | (simp_all; done), q1⟩
       · refine sr (eq' rfl rfl rfl (asg rfl rfl (nn ?_)))
         refine cd rfl (fun c4 => ?_) (fun c4 => ?_)
         · refine sr (asg rfl rfl (nn (rt (rb (tr (r1 Tryz.results10 rfl ?_))))))
           exact ⟨_, rfl, by unfold clsS; (repeat' split) <;> first | rfl | (exfalso; omega) | (simp_all; done), q1⟩
         · refine sk (bn' (tn (sr (asg rfl rfl (nn (rt (r1 Tryz.results10 rfl ?_)))))))
           exact ⟨_, rfl, by unfold clsS; (repeat' split) <;> first | rfl | (exfalso; omega) | (simp_all; done), q1⟩
theorem spot10_ok (o : MOp) (r : Int) (w0 : World) (hp : -1000000 ≤ o.p ∧ o.p ≤ 1000000) (hr : -1000000 ≤ r ∧ r ≤ 1000000) : Rets Tryz.prog 19 #[opV o, .int .i64 r] w0 fun v w' => v = .int .i64 (spL o r) ∧ Fr [] w0 w' := by
 refine we [(0, opV o), (1, .int .i64 r)] Tryz.func19 rfl Tryz.ntmps19 rfl (.cons rfl (.cons rfl .nil)) ?_
 refine sr (bx rfl rfl rfl (fun g2 w1 hg2 hb2 q1 z1 => ?_))
 refine asg rfl rfl (nn (sq (sr (fad rfl fa41_2 rfl (s_fad2 rfl fa39_0 rfl (s_loadB rfl hb2 rfl na37 rfl (eq' rfl rfl rfl (nn ?_))))))))
 refine cd rfl (fun c0 => ?_) (fun c0 => ?_)
 · refine sr (fad rfl fa41_2 rfl (s_fad2 rfl fa39_1 rfl (s_loadB rfl hb2 rfl na3 rfl (mv rfl rfl (s_add rfl rfl (wi6 (by omega)) rfl (s_mul rfl rfl (wi6 (by omega)) rfl (asg rfl rfl (kpL [(4, _)] (.cons rfl .nil) (nn (rt (tr ?_)))))))))))
   refine r1 Tryz.results19 rfl ?_
   exact ⟨_, rfl, by rw [spL, if_pos c0], q1⟩
 · refine sk (tn (sr (fad rfl fa41_2 rfl (s_fad2 rfl fa39_1 rfl (s_loadB rfl hb2 rfl na3 rfl (s_mul rfl rfl (wi6 (by omega)) rfl (s_add rfl rfl (wi6 (by omega)) rfl (asg rfl rfl (kpL [(4, _)] (.cons rfl .nil) (nn (rt ?_)))))))))))
   refine r1 Tryz.results19 rfl ?_
   exact ⟨_, rfl, by rw [spL, if_neg c0], q1⟩
theorem position10_ok (o : MOp) (r : Int) (w0 : World) (hp : -1000000 ≤ o.p ∧ o.p ≤ 1000000) (hr : -1000000 ≤ r ∧ r ≤ 1000000) : Rets Tryz.prog 13 #[opV o, .int .i64 r] w0 fun v w' => v = .int .i64 (if o.b = 1 then o.p + r else o.p) ∧ Fr [] w0 w' := by
 refine we [(0, opV o), (1, .int .i64 r)] Tryz.func13 rfl Tryz.ntmps13 rfl (.cons rfl (.cons rfl .nil)) ?_
 refine sr (bx rfl rfl rfl (fun g2 w1 hg2 hb2 q1 z1 => ?_))
 refine asg rfl rfl (nn (sq (sr (fad rfl fa41_2 rfl (s_fad2 rfl fa39_0 rfl (s_loadB rfl hb2 rfl na37 rfl (eq' rfl rfl rfl (nn ?_))))))))
 refine cd rfl (fun c0 => ?_) (fun c0 => ?_)
 · refine sr (fad rfl fa41_2 rfl (s_fad2 rfl fa39_1 rfl (s_loadB rfl hb2 rfl na3 rfl (mv rfl rfl (s_add rfl rfl (wi6 (by omega)) rfl (asg rfl rfl (kpL [(4, _)] (.cons rfl .nil) (nn (rt (tr (r1 Tryz.results13 rfl ?_)))))))))))
   exact ⟨_, rfl, by rw [if_pos c0], q1⟩
 · refine sk (tn (sr (fad rfl fa41_2 rfl (s_fad2 rfl fa39_1 rfl (s_loadB rfl hb2 rfl na3 rfl (asg rfl rfl (kpL [(4, _)] (.cons rfl .nil) (nn (rt (r1 Tryz.results13 rfl ?_))))))))))
   exact ⟨_, rfl, by rw [if_neg c0], q1⟩
theorem racks_ok (v : Value) (os : List MOp) (w0 : World) (hs : Sl encOp w0 v os) (hc : ∀ o ∈ os, chkO o = 0) (hl : os.length ≤ 1000) : Rets Tryz.prog 7 #[v] w0 fun r w' => ∃ g, r = .slice (some ⟨g, 0, none⟩) os.length os.length ∧ Lw.Own Enc.i64 3 w0.heap.size w' r (rkL os) ∧ Fr [] w0 w' := by
 obtain ⟨A, c, rfl, hcc, hM, hA⟩ := id hs
 clear hA
 have hoc := all_getD hc
 refine we [(0, .slice A os.length c)] Tryz.func7 rfl Tryz.ntmps7 rfl (.cons rfl .nil) ?_
 have hs0 := hs
 refine sr (asg rfl rfl (nn (sr (mv rfl rfl (lnS rfl Tryz.underlying25 rfl ?_)))))
 refine s_makeSlice (m := os.length) (c := os.length) (0 : Int) rfl rfl el27 zv3 rfl (Nat.le_refl _) (by omega) (by unfold maxLen; omega) rfl (fun g8 w1 hg8 ho q1 z1 => ?_)
 replace ho : Lw.Own Enc.i64 3 g8 w1 (.slice (some ⟨g8, 0, none⟩) os.length os.length) (tabR (rkA os) os.length 0) := by rw [tabR_zero]; exact ho
 refine asg rfl rfl (nn (sr (asg rfl rfl (nn (sq (sr (asg rfl rfl (nn (bl ?_)))))))))
 refine lpK (ι := Nat) [(0, _), (3, _)] (fun i => [(4, .int .i64 (rackF 0 (os.take i))), (5, .int .i64 (i : Int))]) (fun i w' => Fr [g8] w1 w' ∧ i ≤ os.length ∧ Lw.Own Enc.i64 3 g8 w' (.slice (some ⟨g8, 0, none⟩) os.length os.length) (tabR (rkA os) os.length i)) (fun i => os.length - i) 0 (.cons rfl (.cons rfl (.cons rfl (.cons rfl .nil)))) ⟨Fr.refl _ _, ⟨by omega, ho⟩⟩ ?_
 rintro i w2 ⟨q2, ⟨hi, ho⟩⟩
 have z2 := q2.size
 refine kpC [(0, _), (3, _), (4, _), (5, _)] (.cons rfl (.cons rfl (.cons rfl (.cons rfl .nil)))) ?_
 refine sq (sr (mv rfl rfl (mv rfl rfl (lnS rfl Tryz.underlying25 rfl (lt' rfl rfl rfl (nn ?_))))))
 refine cd rfl (fun c0 => ?_) (fun c0 => ?_)
 · refine sk (tn (sq (bl (sr (mv rfl rfl (mv rfl rfl (mv rfl rfl ?_)))))))
   refine s_ixs (p := i) ((rackF 0 (os.take i))) rfl ho rfl rfl (by intro e; cases e) el27 sz3 rfl (by omega) (by rw [tabR_len (by omega)]; omega) (by omega) rfl rfl (fun w3 ho q3 z3 => ?_)
   replace ho := (show (tabR (rkA os) os.length i).set i (rackF 0 (os.take i)) = tabR (rkA os) os.length (i + 1) from tabR_set (f := rkA os) (by omega)) ▸ ho
   replace q3 : Fr [g8] _ _ := q3
   refine nn (sr (mv rfl rfl (mv rfl rfl ?_)))
   replace hs := hs0.ext ((q1.step q2 (by first | (simp; done) | (simp; omega))).step q3 (by first | (simp; done) | (simp; omega)))
   refine s_idxL (p := i) (op0) rfl hs rfl el25 (by omega) (by omega) (by omega) rfl (fun ad21 hc21 => ?_)
   refine fad rfl fa41_0 rfl (s_loadC rfl (hc21 _ hs) rfl na35 rfl (eq' rfl rfl rfl (nn ?_)))
   refine cd rfl (fun c1 => ?_) (fun c1 => ?_)
   · refine rg (mv rfl rfl (mv rfl rfl (s_idxL (p := i) (op0) rfl hs rfl el25 (by omega) (by omega) (by omega) rfl (fun ad27 hc27 => ?_))))
     refine fad rfl fa41_4 rfl (s_loadC rfl (hc27 _ hs) rfl na3 rfl (asg rfl rfl (kpL [(0, _), (3, _), (4, _), (5, _)] (.cons rfl (.cons rfl (.cons rfl (.cons rfl .nil)))) (nl (bn' (tn (rg (mv rfl rfl (s_add rfl rfl (wi6 (by omega)) rfl (asg rfl rfl (nl ?_)))))))))))
     exact lpE (i + 1) (.cons rfl (.cons rfl (.cons (congrArg (fun z => some (Value.int .i64 z)) (by rw [rack_step (PI.drop (show i < os.length by omega))]; first | (rw [rkN, if_pos c1]) | (rw [rkN, if_neg c1]))) (.cons rfl .nil)))) ⟨(((Fr.refl [g8] _).step q2 (by first | (simp; done) | (simp; omega))).step q3 (by first | (simp; done) | (simp; omega))), ⟨by omega, ho⟩⟩ (by omega)
   · refine sk (bn' (tn (rg (mv rfl rfl (s_add rfl rfl (wi6 (by omega)) rfl (asg rfl rfl (nl ?_)))))))
     exact lpE (i + 1) (.cons rfl (.cons rfl (.cons (congrArg (fun z => some (Value.int .i64 z)) (by rw [rack_step (PI.drop (show i < os.length by omega))]; first | (rw [rkN, if_pos c1]) | (rw [rkN, if_neg c1]))) (.cons rfl .nil)))) ⟨(((Fr.refl [g8] _).step q2 (by first | (simp; done) | (simp; omega))).step q3 (by first | (simp; done) | (simp; omega))), ⟨by omega, ho⟩⟩ (by omega)
 · obtain rfl : i = os.length := by omega
   rw [tabR_all] at ho
   refine ex (te (te (xh (tn (sr (mv rfl rfl (asg rfl rfl (kpL [(2, _)] (.cons rfl .nil) (nn (rt (r1 Tryz.results7 rfl ?_)))))))))))
   exact ⟨_, rfl, g8, rfl, ho.low (by omega), (q1.step q2 (by first | (simp; done) | (simp; omega)))⟩
end Go.Proofs.YtbalocjcbmkecaaGreatDoor
