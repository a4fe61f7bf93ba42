/- Walks. -/
import Derived.Test.YtacclnebhbakmaaDoorRows
import Derived.Test.YtacclnebhbakmaaDoorW14
import Derived.Test.YtacclnebhbakmaaDoorXOp
import Derived.Test.YtacclnebhbakmaaDoorXMap
set_option linter.unusedVariables false
set_option linter.unusedSimpArgs false
namespace Go.Proofs.YtacclnebhbakmaaDoor
open Go.Lw
theorem co9 : CallOf Tryd.prog 9 := CallOf.mk' Tryd.func9 (by kernel_rfl) (by kernel_rfl)
theorem co15 : CallOf Tryd.prog 15 := CallOf.mk' Tryd.func15 (by kernel_rfl) (by kernel_rfl)
theorem co16 : CallOf Tryd.prog 16 := CallOf.mk' Tryd.func16 (by kernel_rfl) (by kernel_rfl)
theorem co17 : CallOf Tryd.prog 17 := CallOf.mk' Tryd.func17 (by kernel_rfl) (by kernel_rfl)
theorem co18 : CallOf Tryd.prog 18 := CallOf.mk' Tryd.func18 (by kernel_rfl) (by kernel_rfl)
theorem fa56_2 : FieldAt Tryd.prog 56 2 2 := fun _ _ => by kernel_rfl
theorem zv31 (w : World) : (zeroValue 31).run Tryd.prog w = .ok (.slice none 0 0) w := by kernel_rfl
theorem coCh (front : Bool) : CallOf Tryd.prog (if front = true then 17 else 16) := by
  cases front
  · exact co16
  · exact co17
theorem choose_ok (v : Value) (l : List Int) (i a b : Nat) (front : Bool) (w0 : World) (hs : Sl Enc.i64 w0 v l) (ha : Asc l) (hz : 1 ≤ a ∧ 1 ≤ b ∧ a + b ≤ 4) (hil : i + a + b ≤ l.length) : Rets Tryd.prog (if front = true then 17 else 16) #[v, .int .i64 (i : Int), .int .i64 (a : Int), .int .i64 (b : Int)] w0 fun r w' => ∃ vr va vb, r = .tuple #[.agg #[vr, va, .int .i64 (byC a b front), vb], .bool (decide (fitS l i a b front))] ∧ Lw.Own Enc.i64 3 w0.heap.size w' vr (roomS l i a b front) ∧ Lw.Own Enc.i64 3 w0.heap.size w' va (acrS l i a b front) ∧ Lw.Own Enc.i64 3 w0.heap.size w' vb (behS l i a b front) ∧ Fr [] w0 w' := by
  cases front
  · exact lbehind_ok v l i a b w0 hs ha hz hil
  · exact lfront_ok v l i a b w0 hs ha hz hil
theorem crossS_err {l : List Int} {i a b : Int} {front : Bool} (h : errC l i a b front ≠ 0) : crossS l i a b front = [] := if_neg h
theorem errC_1 {l : List Int} {i a b : Int} {front : Bool} (h : ¬ Asc l) : errC l i a b front = 1 := if_pos h
theorem errC_2 {l : List Int} {i a b : Int} {front : Bool} (h : Asc l) (h2 : ¬ szOk a b) : errC l i a b front = 1 := by rw [errC, if_neg (fun e => e h), if_pos h2]
theorem errC_3 {l : List Int} {i a b : Int} {front : Bool} (h : Asc l) (h2 : szOk a b) (h3 : i < 0 ∨ (l.length : Int) - a - b < i) : errC l i a b front = 5 := by rw [errC, if_neg (fun e => e h), if_neg (fun e => e h2), if_pos h3]
theorem errC_4 {l : List Int} {i a b : Int} {front : Bool} (h : Asc l) (h2 : szOk a b) (h3 : ¬ (i < 0 ∨ (l.length : Int) - a - b < i)) (h4 : ¬ fitS l i.toNat a.toNat b.toNat front) : errC l i a b front = 15 := by rw [errC, if_neg (fun e => e h), if_neg (fun e => e h2), if_neg h3, if_neg h4]
theorem errC_5 {l : List Int} {i a b : Int} {front : Bool} (h : Asc l) (h2 : szOk a b) (h3 : ¬ (i < 0 ∨ (l.length : Int) - a - b < i)) (h4 : fitS l i.toNat a.toNat b.toNat front) : errC l i a b front = 0 := by rw [errC, if_neg (fun e => e h), if_neg (fun e => e h2), if_neg h3, if_pos h4]
set_option maxHeartbeats 2000000 in
theorem cross_ok (v : Value) (l : List Int) (i a b : Int) (front : Bool) (w0 : World) (hs : Sl Enc.i64 w0 v l) : Rets Tryd.prog 8 #[v, .int .i64 i, .int .i64 a, .int .i64 b, .bool front] w0 fun r w' => ∃ A, r = .tuple #[.slice A (crossS l i a b front).length (crossS l i a b front).length, .int .i64 (errC l i a b front)] ∧ Lw.Own encOp 42 w0.heap.size w' (.slice A (crossS l i a b front).length (crossS l i a b front).length) (crossS l i a b front) ∧ Fr [] w0 w' := by
 obtain ⟨A, c, rfl, hcc, hM, hA⟩ := id hs
 clear hA
 unfold maxLen at hM
 refine we [(0, .slice A l.length c), (1, .int .i64 i), (2, .int .i64 a), (3, .int .i64 b), (4, .bool front)] Tryd.func8 rfl Tryd.ntmps8 rfl (.cons rfl (.cons rfl (.cons rfl (.cons rfl (.cons rfl .nil))))) ?_
 have hs0 := hs
 refine sr (asg rfl rfl (asg rfl rfl (nn (sq (sr (mv rfl rfl ?_))))))
 refine cl (ev1 rfl) co11 (shchk_ok _ l _ hs) rfl ?_
 rintro _ w1 ⟨rfl, q1⟩
 have z1 := q1.size
 refine asg rfl rfl (nn (sr (mv rfl rfl (ne' rfl rfl rfl (nn ?_)))))
 refine cd rfl (fun c0 => ?_) (fun c0 => ?_)
 · have hna : ¬ Asc l := fun h => c0 (if_pos h)
   have hE := errC_1 (i := i) (a := a) (b := b) (front := front) hna
   have hS : crossS l i a b front = [] := crossS_err (by rw [hE]; decide)
   refine sr (mv rfl rfl (asg rfl rfl (asg rfl rfl (kpL [(10, _), (11, _)] (.cons rfl (.cons rfl .nil)) (nn (rt (tr (r2 Tryd.results8 rfl rfl ?_))))))))
   exact ⟨_, rfl, none, by rw [hE, hS]; first | rfl | (rw [if_neg hna]; rfl) | (rw [if_neg hnz]; rfl), by rw [hS]; exact Own.nil _, q1⟩
 · have hasc : Asc l := by
     by_cases h : Asc l
     · exact h
     · exact absurd (by rw [if_neg h]; decide) c0
   have hl4 := hasc.len
   refine sk (tn (sq (sr (mv rfl rfl (mv rfl rfl ?_)))))
   refine cl (ev2 rfl rfl) co15 (sizes_ok a b _) rfl ?_
   rintro _ w2 ⟨rfl, q2⟩
   have z2 := q2.size
   refine asg rfl rfl (nn (sr (mv rfl rfl (ne' rfl rfl rfl (nn ?_)))))
   refine cd rfl (fun c1 => ?_) (fun c1 => ?_)
   · have hnz : ¬ szOk a b := fun h => c1 (if_pos h)
     have hE := errC_2 (i := i) (front := front) hasc hnz
     have hS : crossS l i a b front = [] := crossS_err (by rw [hE]; decide)
     refine sr (mv rfl rfl (asg rfl rfl (asg rfl rfl (kpL [(10, _), (11, _)] (.cons rfl (.cons rfl .nil)) (nn (rt (tr (r2 Tryd.results8 rfl rfl ?_))))))))
     exact ⟨_, rfl, none, by rw [hE, hS]; first | rfl | (rw [if_neg hna]; rfl) | (rw [if_neg hnz]; rfl), by rw [hS]; exact Own.nil _, (q1.next q2)⟩
   · have hsz : szOk a b := by
       by_cases h : szOk a b
       · exact h
       · exact absurd (by rw [if_neg h]; decide) c1
     obtain ⟨hz1, hz2, hz3, hz4, hz5⟩ := id hsz
     refine sk (tn (sq (sq ?_)))
     refine rbo (r := 43) (L' := [(0, _), (1, _), (2, _), (3, _), (4, _)]) (((i < 0) ∨ ((((l.length : Int) - a) - b) < i))) (.cons rfl (.cons rfl (.cons rfl (.cons rfl (.cons rfl .nil))))) ?_ ?_
     · refine mv rfl rfl (lt' rfl rfl rfl (mv rfl rfl ?_))
       refine gs 34 rfl (fun g0 => ?_) (fun g0 => ?_)
       · exact gN rfl rfl rfl (gN rfl rfl rfl (gN rfl rfl rfl (gN rfl rfl rfl (gN rfl rfl rfl (gN rfl rfl rfl (gN rfl rfl rfl (gN rfl rfl rfl (pkt rfl rfl rfl rfl (rbe rfl (by first | exact bt (by omega) | exact bf (by omega) | exact bi (by omega) | exact bn (by omega) | (simp_all; done) | (simp_all; omega)) (.cons rfl (.cons rfl (.cons rfl (.cons rfl (.cons rfl .nil))))))))))))))
       · refine gY rfl (mv rfl rfl (gY rfl (mv rfl rfl (gY rfl (lnS rfl Tryd.underlying26 rfl (gY rfl (mv rfl rfl (gY rfl (s_sub rfl rfl (wi6 (by omega)) rfl (gY rfl (mv rfl rfl ?_)))))))))))
         exact gY rfl (s_sub rfl rfl (wi6 (by omega)) rfl (gY rfl (gt' rfl rfl rfl (pkf rfl rfl rfl rfl (rbe rfl (by first | exact bt (by omega) | exact bf (by omega) | exact bi (by omega) | exact bn (by omega) | (simp_all; done) | (simp_all; omega)) (.cons rfl (.cons rfl (.cons rfl (.cons rfl (.cons rfl .nil))))))))))
     · refine tn ?_
       refine cd rfl (fun c2 => ?_) (fun c2 => ?_)
       · have hE := errC_3 (front := front) hasc hsz c2
         have hS : crossS l i a b front = [] := crossS_err (by rw [hE]; decide)
         refine sr (asg rfl rfl (asg rfl rfl (kpL [(10, _), (11, _)] (.cons rfl (.cons rfl .nil)) (nn (rt (tr (r2 Tryd.results8 rfl rfl ?_)))))))
         exact ⟨_, rfl, none, by rw [hE, hS]; first | rfl | (rw [if_neg hna]; rfl) | (rw [if_neg hnz]; rfl), by rw [hS]; exact Own.nil _, (q1.next q2)⟩
       · obtain ⟨i', rfl⟩ := Int.eq_ofNat_of_zero_le (show 0 ≤ i by omega)
         obtain ⟨a', rfl⟩ := Int.eq_ofNat_of_zero_le (show 0 ≤ a by omega)
         obtain ⟨b', rfl⟩ := Int.eq_ofNat_of_zero_le (show 0 ≤ b by omega)
         have hz : 1 ≤ a' ∧ 1 ≤ b' ∧ a' + b' ≤ 4 := by omega
         have hil : i' + a' + b' ≤ l.length := by omega
         refine sk (tn (sr (asg rfl rfl (nn ?_))))
         refine jn (ι := Unit) [(0, _), (1, _), (2, _), (3, _)] (fun _j => [(14, .func (.func (if front = true then 17 else 16)) #[] #[])]) (fun _j w' => Fr [] w2 w') (.cons rfl (.cons rfl (.cons rfl (.cons rfl .nil)))) ?_ ?_
         · refine sr (mv rfl rfl (nn ?_))
           refine cd rfl (fun c3 => ?_) (fun c3 => ?_)
           · refine rg (asg rfl rfl (nl ?_))
             exact jE (()) (.cons rfl (.cons rfl (.cons rfl (.cons rfl (.cons (by first | (rw [if_pos c3]; rfl) | (rw [if_neg c3]; rfl)) .nil))))) (Fr.refl _ _)
           · refine sk ?_
             exact jE (()) (.cons rfl (.cons rfl (.cons rfl (.cons rfl (.cons (by first | (rw [if_pos c3]; rfl) | (rw [if_neg c3]; rfl)) .nil))))) (Fr.refl _ _)
         · rintro _j w3 q3
           have z3 := q3.size
           refine kpC [(0, _), (1, _), (2, _), (3, _), (14, _)] (.cons rfl (.cons rfl (.cons rfl (.cons rfl (.cons rfl .nil))))) ?_
           refine sr (mv rfl rfl (mv rfl rfl (mv rfl rfl (mv rfl rfl (mv rfl rfl ?_)))))
           replace hs := hs0.ext ((q1.next q2).next q3)
           refine clv (us := []) (ws := []) rfl (ev4 rfl rfl rfl rfl) (coCh front) (choose_ok _ l i' a' b' front _ hs hasc hz hil) rfl (by intro g e; cases e) ?_
           rintro _ w4 ⟨vr, va, vb, rfl, hoR, hoA, hoB, q4⟩
           have z4 := q4.size
           obtain ⟨AR, cR, rfl, _⟩ := hoR.sl.form
           obtain ⟨AA, cA, rfl, _⟩ := hoA.sl.form
           obtain ⟨AB, cB, rfl, _⟩ := hoB.sl.form
           refine mv rfl rfl (xt rfl rfl rfl (xt rfl rfl rfl (al zv56 rfl rfl (fun g15 w5 hg15 hb15 q5 z5 => ?_))))
           refine s_storeBA rfl rfl hb15 rfl (by first | (simp [Value.oneCell', S]; done) | exact Enc.one _ _) sz56 (fun w6 hb15 q6 z6 => ?_)
           refine asg rfl rfl (kpL [(0, _), (15, _), (16, _)] (.cons rfl (.cons rfl (.cons rfl .nil))) (nn (sq (sr (mv rfl rfl (nt' rfl rfl (nn ?_)))))))
           refine cd rfl (fun c4 => ?_) (fun c4 => ?_)
           · have hE := errC_4 (front := front) hasc hsz c2 (by simpa using c4)
             have hS : crossS l (i' : Int) (a' : Int) (b' : Int) front = [] := crossS_err (by rw [hE]; decide)
             refine sr (asg rfl rfl (asg rfl rfl (nn (rt (tr (r2 Tryd.results8 rfl rfl ?_))))))
             exact ⟨_, rfl, none, by rw [hE, hS]; first | rfl | (rw [if_neg hna]; rfl) | (rw [if_neg hnz]; rfl), by rw [hS]; exact Own.nil _, (((((q1.next q2).next q3).next q4).next q5).step q6 (by first | (simp; done) | (simp; omega)))⟩
           · have hfit : fitS l i' a' b' front := Classical.not_not.1 c4
             have hra := room_asc hasc hz hil hfit
             have hE := errC_5 (front := front) hasc hsz c2 (by simpa using hfit)
             have hS : crossS l (i' : Int) (a' : Int) (b' : Int) front = crossN l i' a' b' front := if_pos hE
             have hla := acr_len (front := front) hl4 hil
             have hls1 := shift_len hasc hra.1 (roomS_len hil)
             have hls2 := shift_len hra.2 hasc (by rw [behS_len hil])
             refine sk (tn (sr (mv rfl rfl (fad rfl fa56_0 rfl (s_loadB rfl hb15 rfl na26 rfl ?_)))))
             replace hoA := (hoA.ext q5).fr q6 (by first | (simp; done) | (simp; omega) | (simp [blks]; done) | (simp [blks]; omega) | (intro k hk hb; simp at hk; subst hk; have := (hoA.blk _ hb).2; omega))
             replace hs := hs0.ext (((((q1.next q2).next q3).next q4).next q5).step q6 (by first | (simp; done) | (simp; omega)))
             replace hoB := (hoB.ext q5).fr q6 (by first | (simp; done) | (simp; omega) | (simp [blks]; done) | (simp [blks]; omega) | (intro k hk hb; simp at hk; subst hk; have := (hoB.blk _ hb).2; omega))
             obtain ⟨N, hN⟩ : ∃ N, N = w6.heap.size := ⟨_, rfl⟩
             have hAN : ∀ k ∈ blks (Value.slice AA (acrS l i' a' b' front).length cA), k < N := fun k hk => by have := (hoA.blk k hk).2; omega
             have hs0 := hs
             have hb150 := hb15
             have hoA0 := hoA
             have hoB0 := hoB
             replace hoR := (hoR.ext q5).fr q6 (by first | (simp; done) | (simp; omega) | (simp [blks]; done) | (simp [blks]; omega) | (intro k hk hb; simp at hk; subst hk; have := (hoR.blk _ hb).2; omega))
             refine cl (ev2 rfl rfl) co9 (shift_ok _ _ l (roomS l i' a' b' front) _ hs hoR.sl hasc hra.1 (roomS_len hil)) rfl ?_
             rintro _ w7 ⟨A17, rfl, hoO, q7⟩
             have z7 := q7.size
             rw [← hN] at hoO
             have hnO : w0.heap.size ≤ N := by omega
             clear hnO
             refine mv rfl rfl (xt rfl rfl rfl (xt rfl rfl rfl (al zv31 rfl rfl (fun g17 w8 hg17 hb17 q8 z8 => ?_))))
             refine s_storeB0 rfl rfl hb17 rfl rfl sz31 (fun w9 hb17 q9 z9 => ?_)
             refine asg rfl rfl (kpL [(0, _), (15, _), (17, _), (18, _)] (.cons rfl (.cons rfl (.cons rfl (.cons rfl .nil)))) (nn (sq (sr (mv rfl rfl (ne' rfl rfl rfl (nn ?_)))))))
             refine cd rfl (fun c5 => ?_) (fun c5 => ?_)
             · exact absurd rfl c5
             · refine sk (tn (sr (s_makeFunc evs_nil (ev2 rfl rfl) rfl (asg rfl rfl (nn (sr (mv rfl rfl ?_)))))))
               replace hoO := (hoO.ext q8).fr q9 (by first | (simp; done) | (simp; omega) | (simp [blks]; done) | (simp [blks]; omega) | (intro k hk hb; simp at hk; subst hk; have := (hoO.blk _ hb).2; omega))
               have hoP1 := hoO
               replace hb15 := hb150.ext ((q7.next q8).step q9 (by first | (simp; done) | (simp; omega)))
               replace hoA := hoA0.ext ((q7.next q8).step q9 (by first | (simp; done) | (simp; omega)))
               refine clv (us := []) (ws := [.pointer (some ⟨g15, 0, none⟩), .pointer (some ⟨g17, 0, none⟩)]) rfl (ev1 rfl) co18 (xfers_ok 0 (byC a' b' front) g15 g17 N _ _ _ _ (acrS l i' a' b' front) _ _ hb15 hoA.sl hb17 hoP1 (by omega) (fun k hk => ⟨by have := hAN k hk; omega, by have := hAN k hk; omega, fun hb => by have := hAN k hk; have := (hoP1.blk k hb).1; omega⟩) (by first | omega | (simp only [List.length_append, List.length_cons, List.length_nil, xfers, List.length_map]; omega))) rfl (by intro g e; cases e) ?_
               rintro v1001 w10 ⟨vO1, hb17, hoO, hv1, q10⟩
               have z10 := q10.size
               have hnO1 := hoO.neB hb17 (by decide)
               refine nn (sr (s_loadB0 rfl hb17 na31 rfl (fad rfl fa56_2 rfl ?_)))
               replace hb15 := hb150.ext (((q7.next q8).step q9 (by first | (simp; done) | (simp; omega))).step q10 (fun k hk hlt => by exfalso; rcases List.mem_cons.1 hk with e | e; omega; have := (hoP1.blk k e).1; omega))
               refine s_loadB rfl hb15 rfl na3 rfl (s_lit (cs := [_, _, _, _, _, _]) (ev2 rfl rfl) bo42 (pok_cons rfl rfl rfl (pok_cons rfl rfl rfl pok_nil)) rfl rfl (s_bslice ([rackO (byC a' b' front)]) (ev1 rfl) rfl rfl rfl el31 (Nat.le_of_ble_eq_true rfl) rfl (fun g72 w11 hg72 ho72 q11 z11 => ?_)))
               replace hb17 := hb17.ext q11
               replace hoO := hoO.ext q11
               have hoo73 := hoO
               refine s_append rfl rfl hoO ho72.sl el31 (by unfold maxLen; simp only [List.length_append, List.length_cons, List.length_nil, xfers, List.length_map]; omega) (by simp only [List.length_append, List.length_cons, List.length_nil, xfers, List.length_map]; omega) (by omega) rfl (fun v73 w12 hoO q12 hor73 => ?_)
               have z12 := q12.size
               replace hb17 := hb17.fr q12 (hoo73.neB hb17 (by decide))
               have hnO : g17 ∉ blks v73 := hoO.neB hb17 (by decide)
               obtain ⟨A73, c73, rfl, _⟩ := hoO.sl.form
               refine s_storeB0 rfl rfl hb17 rfl rfl sz31 (fun w13 hb17 q13 z13 => ?_)
               refine kpL [(0, _), (15, _), (17, _), (19, _)] (.cons rfl (.cons rfl (.cons rfl (.cons rfl .nil)))) (nn (sr (mv rfl rfl ?_)))
               replace hoO := hoO.fr q13 (by intro k hk hb; simp at hk; subst hk; exact hnO hb)
               have hoP2 := hoO
               replace hb15 := hb150.ext ((((((q7.next q8).step q9 (by first | (simp; done) | (simp; omega))).step q10 (fun k hk hlt => by exfalso; rcases List.mem_cons.1 hk with e | e; omega; have := (hoP1.blk k e).1; omega)).next q11).step q12 (fun k hk hlt => absurd (hoo73.blk k hk).1 (by omega))).step q13 (by first | (simp; done) | (simp; omega)))
               replace hoA := hoA0.ext ((((((q7.next q8).step q9 (by first | (simp; done) | (simp; omega))).step q10 (fun k hk hlt => by exfalso; rcases List.mem_cons.1 hk with e | e; omega; have := (hoP1.blk k e).1; omega)).next q11).step q12 (fun k hk hlt => absurd (hoo73.blk k hk).1 (by omega))).step q13 (by first | (simp; done) | (simp; omega)))
               refine clv (us := []) (ws := [.pointer (some ⟨g15, 0, none⟩), .pointer (some ⟨g17, 0, none⟩)]) rfl (ev1 rfl) co18 (xfers_ok 1 (byC a' b' front) g15 g17 N _ _ _ _ (acrS l i' a' b' front) _ _ hb15 hoA.sl hb17 hoP2 (by omega) (fun k hk => ⟨by have := hAN k hk; omega, by have := hAN k hk; omega, fun hb => by have := hAN k hk; have := (hoP2.blk k hb).1; omega⟩) (by first | omega | (simp only [List.length_append, List.length_cons, List.length_nil, xfers, List.length_map]; omega))) rfl (by intro g e; cases e) ?_
               rintro v1002 w14 ⟨vO2, hb17, hoO, hv2, q14⟩
               have z14 := q14.size
               have hnO2 := hoO.neB hb17 (by decide)
               refine nn (sr (s_loadB0 rfl hb17 na31 rfl (s_lit (cs := [_, _, _, _, _, _]) (ev1 rfl) bo42 (pok_cons rfl rfl rfl pok_nil) rfl rfl (s_bslice ([rackO 0]) (ev1 rfl) rfl rfl rfl el31 (Nat.le_of_ble_eq_true rfl) rfl (fun g78 w15 hg78 ho78 q15 z15 => ?_)))))
               replace hb17 := hb17.ext q15
               replace hoO := hoO.ext q15
               have hoo79 := hoO
               refine s_append rfl rfl hoO ho78.sl el31 (by unfold maxLen; simp only [List.length_append, List.length_cons, List.length_nil, xfers, List.length_map]; omega) (by simp only [List.length_append, List.length_cons, List.length_nil, xfers, List.length_map]; omega) (by omega) rfl (fun v79 w16 hoO q16 hor79 => ?_)
               have z16 := q16.size
               replace hb17 := hb17.fr q16 (hoo79.neB hb17 (by decide))
               have hnO : g17 ∉ blks v79 := hoO.neB hb17 (by decide)
               obtain ⟨A79, c79, rfl, _⟩ := hoO.sl.form
               refine s_storeB0 rfl rfl hb17 rfl rfl sz31 (fun w17 hb17 q17 z17 => ?_)
               refine nn (sr (fad rfl fa56_3 rfl ?_))
               replace hb15 := hb150.ext ((((((((((q7.next q8).step q9 (by first | (simp; done) | (simp; omega))).step q10 (fun k hk hlt => by exfalso; rcases List.mem_cons.1 hk with e | e; omega; have := (hoP1.blk k e).1; omega)).next q11).step q12 (fun k hk hlt => absurd (hoo73.blk k hk).1 (by omega))).step q13 (by first | (simp; done) | (simp; omega))).step q14 (fun k hk hlt => by exfalso; rcases List.mem_cons.1 hk with e | e; omega; have := (hoP2.blk k e).1; omega)).next q15).step q16 (fun k hk hlt => absurd (hoo79.blk k hk).1 (by omega))).step q17 (by first | (simp; done) | (simp; omega)))
               refine s_loadB rfl hb15 rfl na26 rfl (mv rfl rfl ?_)
               replace hoB := hoB0.ext ((((((((((q7.next q8).step q9 (by first | (simp; done) | (simp; omega))).step q10 (fun k hk hlt => by exfalso; rcases List.mem_cons.1 hk with e | e; omega; have := (hoP1.blk k e).1; omega)).next q11).step q12 (fun k hk hlt => absurd (hoo73.blk k hk).1 (by omega))).step q13 (by first | (simp; done) | (simp; omega))).step q14 (fun k hk hlt => by exfalso; rcases List.mem_cons.1 hk with e | e; omega; have := (hoP2.blk k e).1; omega)).next q15).step q16 (fun k hk hlt => absurd (hoo79.blk k hk).1 (by omega))).step q17 (by first | (simp; done) | (simp; omega)))
               replace hs := hs0.ext ((((((((((q7.next q8).step q9 (by first | (simp; done) | (simp; omega))).step q10 (fun k hk hlt => by exfalso; rcases List.mem_cons.1 hk with e | e; omega; have := (hoP1.blk k e).1; omega)).next q11).step q12 (fun k hk hlt => absurd (hoo73.blk k hk).1 (by omega))).step q13 (by first | (simp; done) | (simp; omega))).step q14 (fun k hk hlt => by exfalso; rcases List.mem_cons.1 hk with e | e; omega; have := (hoP2.blk k e).1; omega)).next q15).step q16 (fun k hk hlt => absurd (hoo79.blk k hk).1 (by omega))).step q17 (by first | (simp; done) | (simp; omega)))
               refine cl (ev2 rfl rfl) co9 (shift_ok _ _ (behS l i' a' b' front) l _ hoB.sl hs hra.2 hasc (by rw [behS_len hil])) rfl ?_
               rintro _ w18 ⟨A20, rfl, hoH, q18⟩
               have z18 := q18.size
               refine mv rfl rfl (xt rfl rfl rfl (xt rfl rfl rfl (asg rfl rfl (asg rfl rfl (kpL [(17, _), (18, _), (20, _)] (.cons rfl (.cons rfl (.cons rfl .nil))) (nn (sq (sr (mv rfl rfl (ne' rfl rfl rfl (nn ?_)))))))))))
               refine cd rfl (fun c6 => ?_) (fun c6 => ?_)
               · exact absurd rfl c6
               · refine sk (tn (sr ?_))
                 replace hb17 := hb17.ext q18
                 refine s_loadB0 rfl hb17 na31 rfl (mv rfl rfl ?_)
                 replace hoO := (hoO.fr q17 (by intro k hk hb; simp at hk; subst hk; exact hnO hb)).ext q18
                 have hoo91 := hoO
                 refine s_append rfl rfl hoO hoH.sl el31 (by unfold maxLen; simp only [List.length_append, List.length_cons, List.length_nil, xfers, List.length_map]; omega) (by simp only [List.length_append, List.length_cons, List.length_nil, xfers, List.length_map]; omega) (by omega) rfl (fun v91 w19 hoO q19 hor91 => ?_)
                 have z19 := q19.size
                 obtain ⟨A91, c91, rfl, hc91⟩ := hoO.sl.form
                 refine cl (ev1 rfl) co19 (clip_ok _ _ _ _ hc91) rfl ?_
                 rintro _ _ ⟨rfl, rfl⟩
                 refine asg rfl rfl (asg rfl rfl (kpL [(10, _), (11, _)] (.cons rfl (.cons rfl .nil)) (nn (rt (r2 Tryd.results8 rfl rfl ?_)))))
                 exact ⟨_, rfl, A91, by rw [hE, hS]; rfl, by rw [hS]; have := (hoO.take rfl (Nat.le_refl _) hc91 (Nat.le_refl _)).low (b' := w0.heap.size) (by omega); rw [List.take_length] at this; exact this, ((((((((((((((((((q1.next q2).next q3).next q4).next q5).step q6 (by first | (simp; done) | (simp; omega))).next q7).next q8).step q9 (by first | (simp; done) | (simp; omega))).step q10 (fun k hk hlt => by exfalso; rcases List.mem_cons.1 hk with e | e; omega; have := (hoP1.blk k e).1; omega)).next q11).step q12 (fun k hk hlt => absurd (hoo73.blk k hk).1 (by omega))).step q13 (by first | (simp; done) | (simp; omega))).step q14 (fun k hk hlt => by exfalso; rcases List.mem_cons.1 hk with e | e; omega; have := (hoP2.blk k e).1; omega)).next q15).step q16 (fun k hk hlt => absurd (hoo79.blk k hk).1 (by omega))).step q17 (by first | (simp; done) | (simp; omega))).next q18).step q19 (fun k hk hlt => absurd (hoo91.blk k hk).1 (by omega)))⟩
end Go.Proofs.YtacclnebhbakmaaDoor
