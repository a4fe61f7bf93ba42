/- Walks. -/
import Derived.Test.YtacclnebhbakmaaDoorRows
import Derived.Test.YtacclnebhbakmaaDoorW17
import Derived.Test.YtacclnebhbakmaaDoorXOp
import Derived.Test.YtacclnebhbakmaaDoorXMap
import Derived.Test.YtacclnebhbakmaaDoorXPlan
import Derived.Test.YtacclnebhbakmaaDoorXOpenA
set_option linter.unusedVariables false
set_option linter.unusedSimpArgs false
namespace Go.Proofs.YtacclnebhbakmaaDoor
open Go.Lw
theorem co13 : CallOf Tryd.prog 13 := CallOf.mk' Tryd.func13 (by kernel_rfl) (by kernel_rfl)
theorem el23 : ElemOf Tryd.prog 23 70 (Enc.tri .u8) 3 := ElemOf.mk' (z := (.agg #[.int .u8 0, .int .u8 0, .int .u8 0])) Tryd.underlying23 (by kernel_rfl) rfl
theorem fa25_0 : FieldAt Tryd.prog 25 0 0 := fun _ _ => by kernel_rfl
theorem fa25_1 : FieldAt Tryd.prog 25 1 1 := fun _ _ => by kernel_rfl
theorem fa25_2 : FieldAt Tryd.prog 25 2 2 := fun _ _ => by kernel_rfl
theorem fa25_3 : FieldAt Tryd.prog 25 3 3 := fun _ _ => by kernel_rfl
theorem na23 : NotAgg Tryd.prog 23 := fun _ => by kernel_rfl
theorem sz5 : SizeOf Tryd.prog 5 1 := fun _ => by kernel_rfl
set_option maxHeartbeats 2000000 in
theorem sof_ok (v : Value) (xs : List (Int × Int × Int)) (w0 : World) (hs : Sl (Enc.tri .u8) w0 v xs) (hb : ∀ y ∈ xs, (0 ≤ y.1 ∧ y.1 ≤ 255) ∧ (0 ≤ y.2.1 ∧ y.2.1 ≤ 255) ∧ (0 ≤ y.2.2 ∧ y.2.2 ≤ 255)) : Rets Tryd.prog 13 #[v, .bool false] w0 fun r w' => ∃ v7 v8 v9 f g h, r = .tuple #[v7, v8, v9] ∧ Lw.Own Enc.i64 3 w0.heap.size w' v7 f ∧ Lw.Own Enc.i64 3 w0.heap.size w' v8 g ∧ Lw.Own Enc.i64 3 w0.heap.size w' v9 h ∧ Asc f ∧ f.length ≤ 8 ∧ Fr [] w0 w' := by
 obtain ⟨A, c, rfl, hcc, hM, hA⟩ := id hs
 clear hA
 unfold maxLen at hM
 have hat : ∀ j, j < xs.length → (0 ≤ (xs.getD j (0, 0, 0)).1 ∧ (xs.getD j (0, 0, 0)).1 ≤ 255) ∧ (0 ≤ (xs.getD j (0, 0, 0)).2.1 ∧ (xs.getD j (0, 0, 0)).2.1 ≤ 255) ∧ (0 ≤ (xs.getD j (0, 0, 0)).2.2 ∧ (xs.getD j (0, 0, 0)).2.2 ≤ 255) := fun j hj => hb _ (by rw [← getD_at xs j hj]; exact List.getElem_mem _)
 refine we [(0, .slice A xs.length c), (1, .bool false)] Tryd.func13 rfl Tryd.ntmps13 rfl (.cons rfl (.cons rfl .nil)) ?_
 have hs0 := hs
 refine sr (asg rfl rfl (asg rfl rfl (asg rfl rfl (nn (sr (asg rfl rfl (asg rfl rfl (asg rfl rfl (nn (sr (asg rfl rfl ?_)))))))))))
 refine asg rfl rfl (asg rfl rfl (nn (sq (sr (asg rfl rfl (nn (bl ?_)))))))
 refine lpK (ι := Nat × Int × Int × Int × Value × Value × Value × List Int × List Int × List Int) [(0, _), (1, _)] (fun p => [(7, p.2.2.2.2.1), (8, p.2.2.2.2.2.1), (9, p.2.2.2.2.2.2.1), (10, .int .i64 p.2.1), (11, .int .i64 p.2.2.1), (12, .int .i64 p.2.2.2.1), (13, .int .i64 (p.1 : Int))]) (fun p w' => Fr [] w0 w' ∧ (p.1 ≤ 8 ∧ (0 ≤ p.2.1 ∧ p.2.1 ≤ 40) ∧ (0 ≤ p.2.2.1 ∧ p.2.2.1 ≤ 40) ∧ (0 ≤ p.2.2.2.1 ∧ p.2.2.2.1 ≤ 2)) ∧ (Asc p.2.2.2.2.2.2.2.1 ∧ (∀ j, j < (p.2.2.2.2.2.2.2.1).length → (p.2.2.2.2.2.2.2.1).getD j 0 ≤ p.2.1) ∧ (p.2.2.2.2.2.2.2.1).length ≤ p.1 ∧ (p.2.2.2.2.2.2.2.2.1).length ≤ p.1 ∧ (p.2.2.2.2.2.2.2.2.2).length ≤ p.1) ∧ Lw.Own Enc.i64 3 w0.heap.size w' p.2.2.2.2.1 (p.2.2.2.2.2.2.2.1) ∧ Lw.Own Enc.i64 3 w0.heap.size w' p.2.2.2.2.2.1 (p.2.2.2.2.2.2.2.2.1) ∧ Lw.Own Enc.i64 3 w0.heap.size w' p.2.2.2.2.2.2.1 (p.2.2.2.2.2.2.2.2.2) ∧ (∀ k ∈ blks (p.2.2.2.2.1), k ∉ blks (p.2.2.2.2.2.1)) ∧ (∀ k ∈ blks (p.2.2.2.2.1), k ∉ blks (p.2.2.2.2.2.2.1)) ∧ (∀ k ∈ blks (p.2.2.2.2.2.1), k ∉ blks (p.2.2.2.2.2.2.1))) (fun p => 8 - p.1) (0, 0, 0, 0, .slice none 0 0, .slice none 0 0, .slice none 0 0, [], [], []) (.cons rfl (.cons rfl (.cons rfl (.cons rfl (.cons rfl (.cons rfl (.cons rfl (.cons rfl (.cons rfl .nil))))))))) ⟨(Fr.refl _ _), ⟨⟨by decide, by decide, by decide, by decide⟩, ⟨fun j hj => absurd hj (Nat.not_lt_zero j), fun j hj => absurd hj (Nat.not_lt_zero j), Nat.le_refl _, Nat.le_refl _, Nat.le_refl _⟩, Own.nil _, Own.nil _, Own.nil _, by simp [blks], by simp [blks], by simp [blks]⟩⟩ ?_
 rintro ⟨i, aa, bb, st, v7, v8, v9, f, g, h⟩ w1 ⟨q1, ⟨⟨hi, haa, hbb, hst⟩, ⟨hasc, hle, hfl, hgl, hhl⟩, hoF, hoG, hoH, hd1, hd2, hd3⟩⟩
 simp only at hi haa hbb hst hasc hle hfl hgl hhl hoF hoG hoH hd1 hd2 hd3
 have z1 := q1.size
 refine kpC [(0, _), (1, _), (7, v7), (8, v8), (9, v9), (10, .int .i64 aa), (11, .int .i64 bb), (12, .int .i64 st), (13, .int .i64 (i : Int))] (.cons rfl (.cons rfl (.cons rfl (.cons rfl (.cons rfl (.cons rfl (.cons rfl (.cons rfl (.cons rfl .nil))))))))) ?_
 refine sq (sq ?_)
 refine rbo (r := 23) (L' := [(0, _), (1, _), (7, _), (8, _), (9, _), (10, _), (11, _), (12, _), (13, _)]) (((i : Int) < (xs.length : Int)) ∧ ((i : Int) < 8)) (.cons rfl (.cons rfl (.cons rfl (.cons rfl (.cons rfl (.cons rfl (.cons rfl (.cons rfl (.cons rfl .nil))))))))) ?_ ?_
 · refine mv rfl rfl (mv rfl rfl (lnS rfl Tryd.underlying23 rfl (lt' rfl rfl rfl (mv rfl rfl ?_))))
   refine gs 20 rfl (fun g0 => ?_) (fun g0 => ?_)
   · exact gY rfl (mv rfl rfl (gY rfl (lt' rfl rfl rfl (pkt rfl rfl rfl rfl (rbe rfl (by first | exact bt (by omega) | exact bf (by omega) | exact bi (by omega) | exact bn (by omega) | (simp_all; done) | (simp_all; omega)) (.cons rfl (.cons rfl (.cons rfl (.cons rfl (.cons rfl (.cons rfl (.cons rfl (.cons rfl (.cons rfl .nil))))))))))))))
   · exact gN rfl rfl rfl (gN rfl rfl rfl (pkf rfl rfl rfl rfl (rbe rfl (by first | exact bt (by omega) | exact bf (by omega) | exact bi (by omega) | exact bn (by omega) | (simp_all; done) | (simp_all; omega)) (.cons rfl (.cons rfl (.cons rfl (.cons rfl (.cons rfl (.cons rfl (.cons rfl (.cons rfl (.cons rfl .nil))))))))))))
 · refine tn ?_
   refine cd rfl (fun c0 => ?_) (fun c0 => ?_)
   · have hxi := hat i (by omega)
     refine sk (tn (sq (bl (sr (mv rfl rfl (s_add rfl rfl (wi6 (by omega)) rfl (mv rfl rfl (mv rfl rfl ?_))))))))
     replace hs := hs0.ext q1
     refine s_idxL (p := i) ((0, 0, 0)) rfl hs rfl el23 (by omega) (by omega) (by omega) rfl (fun ad30 hc30 => ?_)
     refine s_idxA rfl rfl Tryd.underlying70 sz5 (by omega) (by omega) rfl (s_loadC rfl (hc30 _ hs) rfl na5 rfl (s_rem rfl rfl (by omega) (by first | exact IntWalk.rem_in _ _ (by omega) | rfl) rfl (s_conv rfl (us Tryd.underlying5) Tryd.underlying3 (wi6 (by omega)) rfl (s_add rfl rfl (wi6 (by omega)) rfl (asg rfl rfl (kpL [(0, _), (1, _), (7, _), (8, _), (9, _), (10, _), (11, _), (12, _), (13, _)] (.cons rfl (.cons rfl (.cons rfl (.cons rfl (.cons rfl (.cons rfl (.cons rfl (.cons rfl (.cons rfl .nil))))))))) (nn (sr (mv rfl rfl (mv rfl rfl (s_idxL (p := i) ((0, 0, 0)) rfl hs rfl el23 (by omega) (by omega) (by omega) rfl (fun ad38 hc38 => ?_))))))))))))
     refine s_idxA rfl rfl Tryd.underlying70 sz5 (by omega) (by omega) rfl (s_loadC rfl (hc38 _ hs) rfl na5 rfl (s_rem rfl rfl (by omega) (by first | exact IntWalk.rem_in _ _ (by omega) | rfl) rfl (s_conv rfl (us Tryd.underlying5) Tryd.underlying3 (wi6 (by omega)) rfl (s_add rfl rfl (wi6 (by omega)) rfl (asg rfl rfl (kpL [(0, _), (1, _), (7, _), (8, _), (9, _), (10, _), (11, _), (12, _), (13, _), (14, _)] (.cons rfl (.cons rfl (.cons rfl (.cons rfl (.cons rfl (.cons rfl (.cons rfl (.cons rfl (.cons rfl (.cons rfl .nil)))))))))) (nn (sr (mv rfl rfl (mv rfl rfl (s_idxL (p := i) ((0, 0, 0)) rfl hs rfl el23 (by omega) (by omega) (by omega) rfl (fun ad46 hc46 => ?_))))))))))))
     refine s_idxA rfl rfl Tryd.underlying70 sz5 (by omega) (by omega) rfl (s_loadC rfl (hc46 _ hs) rfl na5 rfl (s_rem rfl rfl (by omega) (by first | exact IntWalk.rem_in _ _ (by omega) | rfl) rfl (s_conv rfl (us Tryd.underlying5) Tryd.underlying3 (wi6 (by omega)) rfl (asg rfl rfl (kpL [(0, _), (1, _), (7, _), (8, _), (9, _), (10, _), (11, _), (12, _), (13, _), (14, _), (15, _)] (.cons rfl (.cons rfl (.cons rfl (.cons rfl (.cons rfl (.cons rfl (.cons rfl (.cons rfl (.cons rfl (.cons rfl (.cons rfl .nil))))))))))) (nn (sq (sq ?_))))))))
     refine rbo (r := 66) (L' := [(0, _), (1, _), (7, _), (8, _), (9, _), (10, _), (11, _), (12, _), (13, _), (14, _), (15, _)]) (True) (.cons rfl (.cons rfl (.cons rfl (.cons rfl (.cons rfl (.cons rfl (.cons rfl (.cons rfl (.cons rfl (.cons rfl (.cons rfl .nil))))))))))) ?_ ?_
     · refine mv rfl rfl (eq' rfl rfl rfl (mv rfl rfl ?_))
       refine gs 53 rfl (fun g1 => ?_) (fun g1 => ?_)
       · refine gN rfl rfl rfl (gN rfl rfl rfl (pkt rfl rfl rfl rfl (mv rfl rfl (gN rfl rfl rfl (gN rfl rfl rfl (gN rfl rfl rfl (gS rfl rfl rfl (gS rfl rfl rfl (gS rfl rfl rfl (gS rfl rfl rfl (gN rfl rfl rfl ?_)))))))))))
         exact pkt rfl rfl rfl rfl (rbe rfl (by first | rfl | (simp; done)) (.cons rfl (.cons rfl (.cons rfl (.cons rfl (.cons rfl (.cons rfl (.cons rfl (.cons rfl (.cons rfl (.cons rfl (.cons rfl .nil))))))))))))
       · refine gY rfl (mv rfl rfl (gY rfl (nt' rfl rfl (pkf rfl rfl rfl rfl (mv rfl rfl ?_)))))
         refine gs 57 rfl (fun g2 => ?_) (fun hh => absurd (by rfl) hh)
         exact gN rfl rfl rfl (gN rfl rfl rfl (gN rfl rfl rfl (gS rfl rfl rfl (gS rfl rfl rfl (gS rfl rfl rfl (gS rfl rfl rfl (gN rfl rfl rfl (pkt rfl rfl rfl rfl (rbe rfl (by first | rfl | (simp; done)) (.cons rfl (.cons rfl (.cons rfl (.cons rfl (.cons rfl (.cons rfl (.cons rfl (.cons rfl (.cons rfl (.cons rfl (.cons rfl .nil))))))))))))))))))))
     · refine tn ?_
       refine cd rfl (fun c1 => ?_) (fun c1 => ?_)
       · refine rg (mv rfl rfl (s_add rfl rfl (wi6 (by omega)) rfl (asg rfl rfl (nl (tn (sq (sr (mv rfl rfl (gt' rfl rfl rfl (nn ?_))))))))))
         refine cd rfl (fun c2 => ?_) (fun c2 => ?_)
         · refine rg (asg rfl rfl (nl (tn (sr (mv rfl rfl (mv rfl rfl (s_add rfl rfl (wi6 (by omega)) rfl (asg rfl rfl (nn (sr (mv rfl rfl ?_)))))))))))
           refine mv rfl rfl (s_add rfl rfl (wi6 (by omega)) rfl (asg rfl rfl (nn (sq (sq ?_)))))
           refine rbo (r := 82) (L' := [(0, _), (1, _), (7, _), (8, _), (9, _), (10, _), (11, _), (12, _), (13, _), (14, _)]) (40 < (aa + 1 + (xs.getD i (0, 0, 0)).1 % 6) ∨ 40 < (bb + ((xs.getD i (0, 0, 0)).2.2 % 6 + 1))) (.cons rfl (.cons rfl (.cons rfl (.cons rfl (.cons rfl (.cons rfl (.cons rfl (.cons rfl (.cons rfl (.cons rfl .nil)))))))))) ?_ ?_
           · refine mv rfl rfl (gt' rfl rfl rfl (mv rfl rfl ?_))
             refine gs 79 rfl (fun g3 => ?_) (fun g3 => ?_)
             · exact gN rfl rfl rfl (gN rfl rfl rfl (pkt rfl rfl rfl rfl (rbe rfl (by first | exact bt (by omega) | exact bf (by omega) | exact bi (by omega) | exact bn (by omega) | (simp_all; done) | (simp_all; omega)) (.cons rfl (.cons rfl (.cons rfl (.cons rfl (.cons rfl (.cons rfl (.cons rfl (.cons rfl (.cons rfl (.cons rfl .nil)))))))))))))
             · exact gY rfl (mv rfl rfl (gY rfl (gt' rfl rfl rfl (pkf rfl rfl rfl rfl (rbe rfl (by first | exact bt (by omega) | exact bf (by omega) | exact bi (by omega) | exact bn (by omega) | (simp_all; done) | (simp_all; omega)) (.cons rfl (.cons rfl (.cons rfl (.cons rfl (.cons rfl (.cons rfl (.cons rfl (.cons rfl (.cons rfl (.cons rfl .nil)))))))))))))))
           · refine tn ?_
             refine cd rfl (fun c3 => ?_) (fun c3 => ?_)
             · refine ex (te (xo rfl (te (te (xh (tn (sr (mv rfl rfl (mv rfl rfl (mv rfl rfl (asg rfl rfl ?_)))))))))))
               refine asg rfl rfl (asg rfl rfl (kpL [(4, _), (5, _), (6, _)] (.cons rfl (.cons rfl (.cons rfl .nil))) (nn (rt (r3 Tryd.results13 rfl rfl rfl ?_)))))
               exact ⟨_, rfl, v7, v8, v9, f, g, h, rfl, hoF, hoG, hoH, hasc, by omega, q1⟩
             · refine sk (tn (sr (mv rfl rfl (mv rfl rfl (s_bslice ([(aa + 1 + (xs.getD i (0, 0, 0)).1 % 6)]) (ev1 rfl) rfl rfl rfl el26 (Nat.le_of_ble_eq_true rfl) rfl (fun g85 w2 hg85 ho85 q2 z2 => ?_))))))
               replace hoG := hoG.ext q2
               replace hoH := hoH.ext q2
               replace hoF := hoF.ext q2
               have hoo86 := hoF
               refine s_append rfl rfl hoF ho85.sl el26 (by unfold maxLen; simp only [List.length_cons, List.length_nil]; omega) (by simp only [List.length_cons, List.length_nil]; omega) (by omega) rfl (fun v86 w3 hoF q3 hor86 => ?_)
               have hd1b := app_dis hor86 hd1 (fun k hk => (hoG.blk k hk).2)
               have hd2b := app_dis hor86 hd2 (fun k hk => (hoH.blk k hk).2)
               have z3 := q3.size
               replace hoG := hoG.fr q3 (fun k hk hb => hd1 k hk hb)
               replace hoH := hoH.fr q3 (fun k hk hb => hd2 k hk hb)
               refine asg rfl rfl (nn (sr (mv rfl rfl (mv rfl rfl (s_bslice ([(1 + (xs.getD i (0, 0, 0)).2.1 % 2)]) (ev1 rfl) rfl rfl rfl el26 (Nat.le_of_ble_eq_true rfl) rfl (fun g89 w4 hg89 ho89 q4 z4 => ?_))))))
               replace hoF := hoF.ext q4
               replace hoH := hoH.ext q4
               replace hoG := hoG.ext q4
               have hoo90 := hoG
               refine s_append rfl rfl hoG ho89.sl el26 (by unfold maxLen; simp only [List.length_cons, List.length_nil]; omega) (by simp only [List.length_cons, List.length_nil]; omega) (by omega) rfl (fun v90 w5 hoG q5 hor90 => ?_)
               have hd1c := app_dis hor90 (fun k hk hb => hd1b k hb hk) (fun k hk => (hoF.blk k hk).2)
               have hd3b := app_dis hor90 hd3 (fun k hk => (hoH.blk k hk).2)
               have z5 := q5.size
               replace hoF := hoF.fr q5 (fun k hk hb => hd1b k hb hk)
               replace hoH := hoH.fr q5 (fun k hk hb => hd3 k hk hb)
               refine asg rfl rfl (nn (rg (mv rfl rfl (mv rfl rfl (s_bslice ([(bb + ((xs.getD i (0, 0, 0)).2.2 % 6 + 1))]) (ev1 rfl) rfl rfl rfl el26 (Nat.le_of_ble_eq_true rfl) rfl (fun g93 w6 hg93 ho93 q6 z6 => ?_))))))
               replace hoF := hoF.ext q6
               replace hoG := hoG.ext q6
               replace hoH := hoH.ext q6
               have hoo94 := hoH
               refine s_append rfl rfl hoH ho93.sl el26 (by unfold maxLen; simp only [List.length_cons, List.length_nil]; omega) (by simp only [List.length_cons, List.length_nil]; omega) (by omega) rfl (fun v94 w7 hoH q7 hor94 => ?_)
               have hd2c := app_dis hor94 (fun k hk hb => hd2b k hb hk) (fun k hk => (hoF.blk k hk).2)
               have hd3c := app_dis hor94 (fun k hk hb => hd3b k hb hk) (fun k hk => (hoG.blk k hk).2)
               have z7 := q7.size
               replace hoF := hoF.fr q7 (fun k hk hb => hd2b k hb hk)
               replace hoG := hoG.fr q7 (fun k hk hb => hd3b k hb hk)
               refine asg rfl rfl (nl (bn' (tn (rg (mv rfl rfl (s_add rfl rfl (wi6 (by omega)) rfl (asg rfl rfl (nl ?_))))))))
               exact lpE ((i + 1, (aa + 1 + (xs.getD i (0, 0, 0)).1 % 6), (bb + ((xs.getD i (0, 0, 0)).2.2 % 6 + 1)), 0 + (1 + (xs.getD i (0, 0, 0)).2.1 % 2), v86, v90, v94, f ++ [(aa + 1 + (xs.getD i (0, 0, 0)).1 % 6)], g ++ [(1 + (xs.getD i (0, 0, 0)).2.1 % 2)], h ++ [(bb + ((xs.getD i (0, 0, 0)).2.2 % 6 + 1))])) (.cons rfl (.cons rfl (.cons rfl (.cons rfl (.cons rfl (.cons rfl (.cons rfl (.cons rfl (.cons rfl .nil))))))))) ⟨((((((q1.next q2).step q3 (fun k hk hlt => absurd (hoo86.blk k hk).1 (by omega))).next q4).step q5 (fun k hk hlt => absurd (hoo90.blk k hk).1 (by omega))).next q6).step q7 (fun k hk hlt => absurd (hoo94.blk k hk).1 (by omega))), ⟨⟨by simp only; omega, by simp only; omega, by simp only; omega, by simp only; omega⟩, ⟨asc_snoc hasc (by omega) (fun j hj => by have := hle j hj; omega), fun j hj => by
                 simp only [List.length_append, List.length_singleton] at hj ⊢
                 rcases Nat.lt_or_ge j f.length with e | e
                 · have := hle j e; simp only [List.getD] at this ⊢; rw [List.getElem?_append_left e]; omega
                 · have e2 : j = f.length := by omega
                   subst e2; rw [getD_last]; exact Int.le_refl _, by simp only [List.length_append, List.length_singleton]; omega, by simp only [List.length_append, List.length_singleton]; omega, by simp only [List.length_append, List.length_singleton]; omega⟩, hoF, hoG, hoH, fun k hk hb => hd1c k hb hk, fun k hk hb => hd2c k hb hk, fun k hk hb => hd3c k hb hk⟩⟩ (by simp only; omega)
         · exact absurd (by omega) c2
       · exact absurd trivial c1
   · refine ex (te (te (xh (tn (sr (mv rfl rfl (mv rfl rfl (mv rfl rfl (asg rfl rfl (asg rfl rfl (asg rfl rfl ?_)))))))))))
     refine kpL [(4, _), (5, _), (6, _)] (.cons rfl (.cons rfl (.cons rfl .nil))) (nn (rt (r3 Tryd.results13 rfl rfl rfl ?_)))
     exact ⟨_, rfl, v7, v8, v9, f, g, h, rfl, hoF, hoG, hoH, hasc, by omega, q1⟩
theorem r6 {P : Program} {n : Nat} {L : List (Nat × Value)} {w : World} {R : Ending → World → Prop} {fn : Func} {t0 t1 t2 t3 t4 t5 : Nat} {x0 x1 x2 x3 x4 x5 : Value} (hr : fn.results = #[.tmp t0, .tmp t1, .tmp t2, .tmp t3, .tmp t4, .tmp t5]) (e0 : Lw.look L t0 = some x0) (e1 : Lw.look L t1 = some x1) (e2 : Lw.look L t2 = some x2) (e3 : Lw.look L t3 = some x3) (e4 : Lw.look L t4 = some x4) (e5 : Lw.look L t5 = some x5) (k : R (.returned (.tuple #[x0, x1, x2, x3, x4, x5])) w) : EW (bodyPost P fn R) .ret n [] w L := fun a h =>
  bodyPost_ret (v := .tuple #[x0, x1, x2, x3, x4, x5]) (by
    have h0 := h.at_ t0 x0 e0; have h1 := h.at_ t1 x1 e1; have h2 := h.at_ t2 x2 e2; have h3 := h.at_ t3 x3 e3; have h4 := h.at_ t4 x4 e4; have h5 := h.at_ t5 x5 e5
    simp only [Array.getD_eq_getD_getElem?] at h0 h1 h2 h3 h4 h5
    simp [results, hr, h0, h1, h2, h3, h4, h5]) h.dfr k
set_option maxHeartbeats 2000000 in
theorem xof_ok (v : Value) (xs : List (Int × Int × Int)) (yI yA yB : Int) (fr : Bool) (w0 : World) (hs : Sl (Enc.tri .u8) w0 v xs) (hb : ∀ y ∈ xs, (0 ≤ y.1 ∧ y.1 ≤ 255) ∧ (0 ≤ y.2.1 ∧ y.2.1 ≤ 255) ∧ (0 ≤ y.2.2 ∧ y.2.2 ≤ 255)) (hyI : 0 ≤ yI ∧ yI ≤ 255) (hyA : 0 ≤ yA ∧ yA ≤ 255) (hyB : 0 ≤ yB ∧ yB ≤ 255) : Rets Tryd.prog 5 #[.agg #[v, .int .u8 yI, .int .u8 yA, .int .u8 yB, .bool fr]] w0 fun r w' => ∃ v1 v2, ∃ i' a' b' : Nat, ∃ is' f, r = .tuple #[v1, v2, .int .i64 (i' : Int), .int .i64 (a' : Int), .int .i64 (b' : Int), .bool is'] ∧ Lw.Own Enc.i64 3 w0.heap.size w' v1 f ∧ (is' = true → Asc f ∧ (1 ≤ a' ∧ 1 ≤ b' ∧ a' + b' ≤ 4) ∧ i' + a' + b' ≤ f.length ∧ f.length ≤ 8) ∧ Fr [] w0 w' := by
 obtain ⟨a', ha'⟩ : ∃ a' : Nat, 1 + yA % 3 = (a' : Int) := ⟨(1 + yA % 3).toNat, by omega⟩
 have hm1 := Int.emod_nonneg yB (show 4 - (a' : Int) ≠ 0 by omega)
 have hm2 := Int.emod_lt_of_pos yB (show 0 < 4 - (a' : Int) by omega)
 obtain ⟨b', hb'⟩ : ∃ b' : Nat, 1 + yB % (4 - (a' : Int)) = (b' : Int) := ⟨(1 + yB % (4 - (a' : Int))).toNat, (Int.toNat_of_nonneg (by omega)).symm⟩
 refine we [(0, .agg #[v, .int .u8 yI, .int .u8 yA, .int .u8 yB, .bool fr])] Tryd.func5 rfl Tryd.ntmps5 rfl (.cons rfl .nil) ?_
 have hs0 := hs
 refine sr (bx rfl rfl rfl (fun g1 w1 hg1 hb1 q1 z1 => ?_))
 refine asg rfl rfl (asg rfl rfl (asg rfl rfl (asg rfl rfl (asg rfl rfl (asg rfl rfl (kpL [(1, _)] (.cons rfl .nil) (nn (sr (fad rfl fa25_0 rfl (s_loadB rfl hb1 rfl na23 rfl ?_))))))))))
 replace hs := hs0.ext q1
 refine cl (ev2 rfl rfl) co13 (sof_ok _ xs _ hs hb) rfl ?_
 rintro _ w2 ⟨v7, v8, v9, f, g0', h0', rfl, hoF, hoG, hoH, hasc, hfl, q2⟩
 have z2 := q2.size
 obtain ⟨AF, cF, rfl, hcF⟩ := hoF.sl.form
 refine mv rfl rfl (xt rfl rfl rfl (xt rfl rfl rfl (xt rfl rfl rfl (asg rfl rfl (asg rfl rfl (asg rfl rfl (kpL [(1, _), (8, _), (9, _)] (.cons rfl (.cons rfl (.cons rfl .nil))) (nn ?_))))))))
 refine jn (ι := Unit) [(1, _), (8, _), (9, _)] (fun _j => [(11, .int .i64 (a' : Int))]) (fun _j w' => Fr [] w2 w') (.cons rfl (.cons rfl (.cons rfl .nil))) ?_ ?_
 · refine rg (fad rfl fa25_2 rfl ?_)
   replace hb1 := hb1.ext q2
   refine s_loadB rfl hb1 rfl na5 rfl (s_rem rfl rfl (by omega) (by first | exact IntWalk.rem_in _ _ (by omega) | rfl) rfl (s_conv rfl (us Tryd.underlying5) Tryd.underlying3 (wi6 (by omega)) rfl (s_add rfl rfl (wi6 (by omega)) rfl (asg rfl rfl (nl ?_)))))
   exact jE (()) (.cons rfl (.cons rfl (.cons rfl (.cons (congrArg (fun z => some (Value.int .i64 z)) ha') .nil)))) (Fr.refl _ _)
 · rintro _j w3 q3
   have z3 := q3.size
   refine kpC [(1, _), (8, _), (9, _), (11, _)] (.cons rfl (.cons rfl (.cons rfl (.cons rfl .nil)))) ?_
   refine jn (ι := Unit) [(1, _), (8, _), (9, _), (11, _)] (fun _j => [(12, .int .i64 (b' : Int))]) (fun _j w' => Fr [] w3 w') (.cons rfl (.cons rfl (.cons rfl (.cons rfl .nil)))) ?_ ?_
   · refine rg (fad rfl fa25_3 rfl ?_)
     replace hb1 := hb1.ext (q2.next q3)
     refine s_loadB rfl hb1 rfl na5 rfl (s_conv rfl (us Tryd.underlying5) Tryd.underlying3 (wi6 (by omega)) rfl (mv rfl rfl (s_sub rfl rfl (wi6 (by omega)) rfl (s_rem rfl rfl (by omega) (by first | exact IntWalk.rem_in _ _ (by omega) | rfl) rfl (s_add rfl rfl (wi6 (by omega)) rfl (asg rfl rfl (kpL [(1, _), (8, _), (9, _), (11, _), (12, _)] (.cons rfl (.cons rfl (.cons rfl (.cons rfl (.cons rfl .nil))))) (nl ?_))))))))
     exact jE (()) (.cons rfl (.cons rfl (.cons rfl (.cons rfl (.cons (congrArg (fun z => some (Value.int .i64 z)) hb') .nil))))) (Fr.refl _ _)
   · rintro _j w4 q4
     have z4 := q4.size
     refine kpC [(1, _), (8, _), (9, _), (11, _), (12, _)] (.cons rfl (.cons rfl (.cons rfl (.cons rfl (.cons rfl .nil))))) ?_
     refine sq (sr (mv rfl rfl (lnS rfl Tryd.underlying26 rfl (mv rfl rfl (mv rfl rfl (s_add rfl rfl (wi6 (by omega)) rfl (lt' rfl rfl rfl (nn ?_))))))))
     refine cd rfl (fun c0 => ?_) (fun c0 => ?_)
     · refine sr (asg rfl rfl (asg rfl rfl (asg rfl rfl (asg rfl rfl (asg rfl rfl (asg rfl rfl (kpL [(2, _), (3, _), (4, _), (5, _), (6, _), (7, _)] (.cons rfl (.cons rfl (.cons rfl (.cons rfl (.cons rfl (.cons rfl .nil)))))) (nn (rt (tr (r6 Tryd.results5 rfl rfl rfl rfl rfl rfl ?_)))))))))))
       exact ⟨_, rfl, .slice none 0 0, .slice none 0 0, 0, 0, 0, false, [], rfl, Own.nil _, (fun h => by cases h), (((q1.next q2).next q3).next q4)⟩
     · have hm3 := Int.emod_nonneg yI (show (f.length : Int) - (a' : Int) - (b' : Int) + 1 ≠ 0 by omega)
       have hm4 := Int.emod_lt_of_pos yI (show 0 < (f.length : Int) - (a' : Int) - (b' : Int) + 1 by omega)
       obtain ⟨i', hi'⟩ : ∃ i' : Nat, yI % ((f.length : Int) - (a' : Int) - (b' : Int) + 1) = (i' : Int) := ⟨(yI % ((f.length : Int) - (a' : Int) - (b' : Int) + 1)).toNat, (Int.toNat_of_nonneg hm3).symm⟩
       refine sk (tn ?_)
       refine jn (ι := Unit) [] (fun _j => [(2, .slice AF f.length cF), (3, v8), (4, .int .i64 (i' : Int)), (5, .int .i64 (a' : Int)), (6, .int .i64 (b' : Int)), (7, .bool true)]) (fun _j w' => Fr [] w4 w') .nil ?_ ?_
       · replace hb1 := hb1.ext ((q2.next q3).next q4)
         intro a h
         have qh6 := Fr.refl [] w4
         refine region_held (fun wb w' => Fr [] wb w') hmix ?_; intro w5 hq
         have z5 := hq.size
         replace hb1 := hb1.ext hq
         replace qh6 := qh6.next hq
         have hsz := hq.size; clear hq; have hC : Fr [] w5 w5 := Fr.refl _ _
         have hb1_b := hb1
         refine hd_move 0 (by kernel_rfl) (by kernel_rfl) (by kernel_rfl) hC h wn rfl rfl rfl ?_; clear h a; intro a h
         refine hd_move 1 (by kernel_rfl) (by kernel_rfl) (by kernel_rfl) hC h wn rfl rfl rfl ?_; clear h a; intro a h
         refine hd_fieldAddr 2 (by kernel_rfl) (by kernel_rfl) (by kernel_rfl) hC h wn rfl fa25_1 rfl rfl ?_; clear h a; intro a h
         refine hd_loadB 3 (by kernel_rfl) (by kernel_rfl) (by kernel_rfl) hC h wn rfl (fun _ hw => hb1_b.ext hw) rfl na5 rfl rfl ?_; clear h a; intro a h
         refine hd_conv 4 (by kernel_rfl) (by kernel_rfl) (by kernel_rfl) hC h wn rfl (by rw [Tryd.underlying5]; rfl) Tryd.underlying3 (by first | exact IntWalk.i64_in _ (by omega) | rfl) rfl rfl ?_; clear h a; intro a h
         refine hd_move 5 (by kernel_rfl) (by kernel_rfl) (by kernel_rfl) hC h wn rfl rfl rfl ?_; clear h a; intro a h
         refine hd_lenS 6 (by kernel_rfl) (by kernel_rfl) (by kernel_rfl) hC h wn rfl Tryd.underlying26 rfl rfl ?_; clear h a; intro a h
         refine hd_move 7 (by kernel_rfl) (by kernel_rfl) (by kernel_rfl) hC h wn rfl rfl rfl ?_; clear h a; intro a h
         refine hd_sub 8 (by kernel_rfl) (by kernel_rfl) (by kernel_rfl) hC h wn rfl rfl (by first | exact IntWalk.i64_in _ (by omega) | rfl) rfl rfl ?_; clear h a; intro a h
         refine hd_move 9 (by kernel_rfl) (by kernel_rfl) (by kernel_rfl) hC h wn rfl rfl rfl ?_; clear h a; intro a h
         refine hd_sub 10 (by kernel_rfl) (by kernel_rfl) (by kernel_rfl) hC h wn rfl rfl (by first | exact IntWalk.i64_in _ (by omega) | rfl) rfl rfl ?_; clear h a; intro a h
         refine hd_add 11 (by kernel_rfl) (by kernel_rfl) (by kernel_rfl) hC h wn rfl rfl (by first | exact IntWalk.i64_in _ (by omega) | rfl) rfl rfl ?_; clear h a; intro a h
         refine hd_rem 12 (by kernel_rfl) (by kernel_rfl) (by kernel_rfl) hC h wn rfl rfl (by omega) (by first | exact IntWalk.rem_in _ _ (by omega) | rfl) rfl rfl ?_; clear h a; intro a h
         refine hd_move 13 (by kernel_rfl) (by kernel_rfl) (by kernel_rfl) hC h wn rfl rfl rfl ?_; clear h a; intro a h
         refine hd_move 14 (by kernel_rfl) (by kernel_rfl) (by kernel_rfl) hC h wn rfl rfl rfl ?_; clear h a; intro a h
         refine hd_one 15 (by kernel_rfl) rfl ?_
         refine st_assign h rfl rfl ?_; clear h a; intro a h
         refine hd_next hC ?_
         refine hd_one 16 (by kernel_rfl) rfl ?_
         refine st_assign h rfl rfl ?_; clear h a; intro a h
         refine hd_next hC ?_
         refine hd_one 17 (by kernel_rfl) rfl ?_
         refine st_assign h rfl rfl ?_; clear h a; intro a h
         refine hd_next hC ?_
         refine hd_one 18 (by kernel_rfl) rfl ?_
         refine st_assign h rfl rfl ?_; clear h a; intro a h
         refine hd_next hC ?_
         refine hd_one 19 (by kernel_rfl) rfl ?_
         refine st_assign h rfl rfl ?_; clear h a; intro a h
         refine hd_next hC ?_
         refine hd_one 20 (by kernel_rfl) rfl ?_
         refine st_assign h rfl rfl ?_; clear h a; intro a h
         refine hd_next hC ?_
         refine hd_end (by kernel_rfl) ?_
         clear hC hb1_b
         have z5 := qh6.size
         refine bk (h.sub (L' := [(2, _), (3, _), (4, _), (5, _), (6, _), (7, _)]) (.cons rfl (.cons rfl (.cons rfl (.cons rfl (.cons rfl (.cons rfl .nil))))))) ?_; clear h a
         exact jE (()) (.cons rfl (.cons rfl (.cons (congrArg (fun z => some (Value.int .i64 z)) hi') (.cons rfl (.cons rfl (.cons rfl .nil)))))) qh6
       · rintro _j w6 q6
         have z6 := q6.size
         refine kpC [(2, _), (3, _), (4, _), (5, _), (6, _), (7, _)] (.cons rfl (.cons rfl (.cons rfl (.cons rfl (.cons rfl (.cons rfl .nil)))))) ?_
         refine rt (r6 Tryd.results5 rfl rfl rfl rfl rfl rfl ?_)
         replace hoF := hoF.ext ((q3.next q4).next q6)
         exact ⟨_, rfl, _, _, i', a', b', true, f, rfl, hoF.low (by omega), (fun _ => ⟨hasc, ⟨by omega, by omega, by omega⟩, by omega, hfl⟩), ((((q1.next q2).next q3).next q4).next q6)⟩
end Go.Proofs.YtacclnebhbakmaaDoor
