/- Texts of the proof, joined: V18 XSz XFld V19 XMirG V20 V21 V22 -/
import Derived.Test.YthehggmdcmpjeaaDoorRows
import Derived.Test.YthehggmdcmpjeaaDoorM5
set_option linter.unusedVariables false
set_option linter.unusedSimpArgs false
namespace Go.Proofs.YthehggmdcmpjeaaDoor
open Go.Lw Go.G14
theorem ag93 : AggOf Tryd.prog 93 8 := ⟨fun _ => by kernel_rfl, fun _ => by kernel_rfl⟩
theorem ag95 : AggOf Tryd.prog 95 12 := ⟨fun _ => by kernel_rfl, fun _ => by kernel_rfl⟩
theorem co38 : CallOf Tryd.prog 38 := CallOf.mk' Tryd.func38 (by kernel_rfl) (by kernel_rfl)
theorem el41 : ElemOf Tryd.prog 41 95 encQd 112 := ElemOf.mk' (z := (.agg #[(.int .u8 0), (.int .u8 0), (.int .u8 0), (.slice none 0 0), (.int .u8 0), (.slice none 0 0), (.int .u8 0), (.slice none 0 0), (.int .u8 0), (.int .u8 0), (.int .u8 0), (.int .u8 0)])) Tryd.underlying41 (by kernel_rfl) rfl
theorem fa43_0 : FieldAt Tryd.prog 43 0 0 := fun _ _ => by kernel_rfl
theorem fa43_1 : FieldAt Tryd.prog 43 1 1 := fun _ _ => by kernel_rfl
theorem fa95_0 : FieldAt Tryd.prog 95 0 0 := fun _ _ => by kernel_rfl
theorem fa95_1 : FieldAt Tryd.prog 95 1 8 := fun _ _ => by kernel_rfl
theorem fa95_2 : FieldAt Tryd.prog 95 2 9 := fun _ _ => by kernel_rfl
theorem fa95_3 : FieldAt Tryd.prog 95 3 10 := fun _ _ => by kernel_rfl
theorem fa95_4 : FieldAt Tryd.prog 95 4 11 := fun _ _ => by kernel_rfl
theorem na41 : NotAgg Tryd.prog 41 := fun _ => by kernel_rfl
theorem sz22 : SizeOf Tryd.prog 22 1 := fun _ => by kernel_rfl
theorem sz95 : SizeOf Tryd.prog 95 12 := fun _ => by kernel_rfl
theorem zv95 (w : World) : (zeroValue 95).run Tryd.prog w = .ok (.agg #[(.int .u8 0), (.int .u8 0), (.int .u8 0), (.slice none 0 0), (.int .u8 0), (.slice none 0 0), (.int .u8 0), (.slice none 0 0), (.int .u8 0), (.int .u8 0), (.int .u8 0), (.int .u8 0)]) w := by kernel_rfl
set_option maxHeartbeats 4000000 in
theorem gof_ok (B : SV → List UInt8) (H : SV → List SV) (hB : B (none, 0, 0) = []) (hH : H (none, 0, 0) = []) (nb : Int) (v : Value) (ys : List QD) (w0 : World) (hnb : 0 ≤ nb ∧ nb ≤ 255) (hs : Sl encQd w0 v ys) (hqy : QsAtF B H w0 ys) : Rets Tryd.prog 16 #[.agg #[.int .u8 nb, v]] w0 fun r w' => ∃ V qs, r = .agg #[S (nmF nb), V] ∧ Lw.Own encPq 51 w0.heap.size w' V qs ∧ PcsO 61 100 w0.heap.size w' qs ∧ pcs qs = garF B H ys (manyG ys) ∧ Fr [] w0 w' := by
 obtain ⟨A, c, rfl, hcc, hM, hA⟩ := id hs
 clear hA
 unfold maxLen at hM
 have hmgy : manyG ys = max 1 (min 4 ys.length) := rfl
 have hlit : ([97, 98, 99, 100, 101, 102, 103, 104, 105, 106, 107, 108, 109, 110, 111, 112] : List UInt8).length = 16 := rfl
 have hofn : ofN.length = 4 := rfl
 refine we [(0, .agg #[.int .u8 nb, .slice A ys.length c])] Tryd.func16 rfl Tryd.ntmps16 rfl (.cons rfl .nil) ?_
 have hs0 := hs
 have hqy0 := hqy
 refine sr (bx rfl rfl rfl (fun g1 w1 hg1 hb1 q1 z1 => ?_))
 refine al zv24 rfl rfl (fun g2 w2 hg2 hb2 q2 z2 => ?_)
 refine nn (sr (fad rfl fa43_0 rfl ?_))
 replace hb1 := hb1.ext q2
 refine s_loadB rfl hb1 rfl na5 rfl (s_rem rfl rfl (by omega) (by first | exact IntWalk.rem_in _ _ (by omega) | rfl) rfl (s_add rfl rfl (wi8 (by omega)) rfl (s_ss_h rfl rfl Tryd.underlying9 (by omega) (by omega) nat_of rfl (s_lit (cs := [_, _]) (ev1 rfl) bo24 (pok_cons rfl rfl rfl pok_nil) rfl rfl ?_))))
 refine al zv24 rfl rfl (fun g3 w3 hg3 hb3 q3 z3 => ?_)
 refine s_storeBA rfl rfl hb3 rfl (by first | (simp [Value.oneCell', S]; done) | exact Enc.one _ _) sz24 (fun w4 hb3 q4 z4 => ?_)
 refine kpL [(1, _), (2, _), (3, _)] (.cons rfl (.cons rfl (.cons rfl .nil))) (nn (sq (sr (asg rfl rfl (nn (bl ?_))))))
 replace hb1 := (hb1.ext q3).fr q4 (by first | (simp; done) | (simp; omega) | (simp [blks]; done) | (simp [blks]; omega))
 replace hb2 := (hb2.ext q3).fr q4 (by first | (simp; done) | (simp; omega) | (simp [blks]; done) | (simp [blks]; omega))
 refine lpK (ι := Nat × Value × List PQ) [(1, _), (2, _), (3, _)] (fun p => [(4, .int .i64 (p.1 : Int))]) (fun p w' => Fr [] w0 w' ∧ (p.1 ≤ 4 ∧ p.2.2.length = p.1) ∧ Blk w' g1 43 [.int .u8 nb, .slice A ys.length c] ∧ Blk w' g2 24 [S [], .slice none 0 0] ∧ Blk w' g3 24 [S ((([97, 98, 99, 100, 101, 102, 103, 104, 105, 106, 107, 108, 109, 110, 111, 112] : List UInt8)).take (1 + (nb % 16)).toNat), p.2.1] ∧ Lw.Own encPq 51 (g3 + 1) w' p.2.1 p.2.2 ∧ PcsO 61 100 (g3 + 1) w' p.2.2 ∧ (p.1 ≤ manyG ys ∧ pcs p.2.2 = garF B H ys p.1)) (fun p => 4 - p.1) (0, .slice none 0 0, []) (.cons rfl (.cons rfl (.cons rfl (.cons rfl .nil)))) ⟨(((q1.next q2).next q3).step q4 (by first | (simp; done) | (simp; omega))), ⟨⟨Nat.zero_le _, rfl⟩, hb1, hb2, hb3, Own.nil _, PcsO.nil, Nat.zero_le _, rfl⟩⟩ ?_
 rintro ⟨i, vP, qs⟩ w5 ⟨q5, ⟨⟨hi, hpl⟩, hb1, hb2, hb3, hoP, hpo, hil, hgf⟩⟩
 simp only at hi hpl hb1 hb2 hb3 hoP hpo hil hgf
 have z5 := q5.size
 have lt_hb1 := hb1.lt
 have lt_hb2 := hb2.lt
 have lt_hb3 := hb3.lt
 refine kpC [(1, _), (2, _), (3, _), (4, .int .i64 (i : Int))] (.cons rfl (.cons rfl (.cons rfl (.cons rfl .nil)))) ?_
 refine sq (sq ?_)
 refine rbo (r := 24) (L' := [(1, _), (2, _), (3, _), (4, _)]) (((((i : Int) < (ys.length : Int)) ∧ ((i : Int) < 4)) ∨ ((i : Int) = 0))) (.cons rfl (.cons rfl (.cons rfl (.cons rfl .nil)))) ?_ ?_
 · refine mv rfl rfl (fad rfl fa43_1 rfl (s_loadB rfl hb1 rfl na41 rfl (lnS rfl Tryd.underlying41 rfl (lt' rfl rfl rfl (mv rfl rfl ?_)))))
   refine gs 17 rfl (fun g0 => ?_) (fun g0 => ?_)
   · refine gY rfl (mv rfl rfl (gY rfl (lt' rfl rfl rfl (pkt rfl rfl rfl rfl (mv rfl rfl ?_)))))
     refine gs 21 rfl (fun g1 => ?_) (fun g1 => ?_)
     · exact gN rfl rfl rfl (gN rfl rfl rfl (pkt rfl rfl rfl rfl (rbe rfl (by first | exact bt (by omega) | exact bf (by omega) | exact bi (by omega) | exact bn (by omega) | (simp_all; done) | (simp_all; omega)) (.cons rfl (.cons rfl (.cons rfl (.cons rfl .nil)))))))
     · exact gY rfl (mv rfl rfl (gY rfl (eq' rfl rfl rfl (pkf rfl rfl rfl rfl (rbe rfl (by first | exact bt (by omega) | exact bf (by omega) | exact bi (by omega) | exact bn (by omega) | (simp_all; done) | (simp_all; omega)) (.cons rfl (.cons rfl (.cons rfl (.cons rfl .nil)))))))))
   · exact gN rfl rfl rfl (gN rfl rfl rfl (pkf rfl rfl rfl rfl (mv rfl rfl (gY rfl (mv rfl rfl (gY rfl (eq' rfl rfl rfl (pkf rfl rfl rfl rfl (rbe rfl (by first | exact bt (by omega) | exact bf (by omega) | exact bi (by omega) | exact bn (by omega) | (simp_all; done) | (simp_all; omega)) (.cons rfl (.cons rfl (.cons rfl (.cons rfl .nil)))))))))))))
 · refine tn ?_
   refine cd rfl (fun c0 => ?_) (fun c0 => ?_)
   · refine sk (tn (sq (bl (sr (al zv95 rfl rfl (fun g5 w6 hg5 hb5 q6 z6 => ?_))))))
     have hz5 := hb5
     refine nn ?_
     refine jn (ι := QD) [(1, _), (2, _), (3, _), (4, _), (5, _)] (fun qd => []) (fun qd w' => Fr [g5] w6 w' ∧ Blk w' g5 95 [.int .u8 qd.ht, .int .u8 qd.ed, .int .u8 qd.lw, slv qd.l, .int .u8 qd.tw, slv qd.t, .int .u8 qd.rw, slv qd.r, .int .u8 qd.ba, .int .u8 qd.st, .int .u8 qd.up, .int .u8 qd.ct] ∧ QAtF B H w' qd ∧ qd = ys.getD i qd0 ∧ ((0 ≤ qd.ba ∧ qd.ba ≤ 255) ∧ (0 ≤ qd.st ∧ qd.st ≤ 255) ∧ (0 ≤ qd.up ∧ qd.up ≤ 255) ∧ (0 ≤ qd.ct ∧ qd.ct ≤ 255))) (.cons rfl (.cons rfl (.cons rfl (.cons rfl (.cons rfl .nil))))) ?_ ?_
     · refine sr (mv rfl rfl (fad rfl fa43_1 rfl ?_))
       replace hb1 := hb1.ext q6
       refine s_loadB rfl hb1 rfl na41 rfl (lnS rfl Tryd.underlying41 rfl (lt' rfl rfl rfl (nn ?_)))
       refine cd rfl (fun c1 => ?_) (fun c1 => ?_)
       · refine rg (fad rfl fa43_1 rfl (s_loadB rfl hb1 rfl na41 rfl (mv rfl rfl ?_)))
         replace hs := hs0.ext (q5.next q6)
         refine s_idxL (qd0) rfl hs rfl el41 (by omega) (by omega) nat_of rfl (fun ad35 hc35 => ?_)
         refine s_loadA rfl (hc35 _ hs) ag95 rfl (s_storeBA rfl rfl hb5 rfl (by first | (simp [Value.oneCell', S]; done) | exact Enc.one _ _) sz95 (fun w7 hb5 q7 z7 => ?_))
         refine kpL [(1, _), (2, _), (3, _), (4, _), (5, _)] (.cons rfl (.cons rfl (.cons rfl (.cons rfl (.cons rfl .nil))))) (nl ?_)
         replace hqy := hqy0.ext ((q5.next q6).step q7 (by first | (simp; done) | (simp; omega)))
         exact jE ((ys.getD i qd0)) (.cons rfl (.cons rfl (.cons rfl (.cons rfl (.cons rfl .nil))))) ⟨((Fr.refl [g5] _).step q7 (by first | (simp; done) | (simp; omega))), ⟨hb5, hqy _ (getD_memS (by omega)), rfl, (hqy _ (getD_memS (by omega))).rg.2.2.2.2.2⟩⟩
       · refine sk ?_
         exact jE (qd0) (.cons rfl (.cons rfl (.cons rfl (.cons rfl (.cons rfl .nil))))) ⟨(Fr.refl _ _), ⟨hb5, QAtF.zero hH _, (getD_out (by omega)).symm, by simp [qd0]⟩⟩
     · rintro qd w8 ⟨q8, ⟨hb5, hqd, hqe, hrg⟩⟩
       have z8 := q8.size
       have lt_hb5 := hb5.lt
       have hqd0 := hqd
       refine kpC [(1, _), (2, _), (3, _), (4, _), (5, _)] (.cons rfl (.cons rfl (.cons rfl (.cons rfl (.cons rfl .nil))))) ?_
       replace hb1 := (hb1.ext q6).fr q8 (by first | (simp; done) | (simp; omega) | (simp [blks]; done) | (simp [blks]; omega))
       replace hb2 := (hb2.ext q6).fr q8 (by first | (simp; done) | (simp; omega) | (simp [blks]; done) | (simp [blks]; omega))
       replace hb3 := (hb3.ext q6).fr q8 (by first | (simp; done) | (simp; omega) | (simp [blks]; done) | (simp [blks]; omega))
       replace hoP := (hoP.ext q6).fr q8 (by intro k hk hb; simp at hk; subst hk; have := hoP.blk _ hb; omega)
       replace hpo := (hpo.ext q6).fr q8 (by intro k hk; simp at hk; subst hk; first | exact .inl (by omega) | exact .inr ⟨_, _, hz5, by decide, by decide⟩)
       intro a h
       refine region_heldP (some 30) (fun wb w' => Fr [] wb w') hmix ?_; intro w9 hq
       have z9 := hq.size
       replace hb1 := hb1.ext hq
       replace hb2 := hb2.ext hq
       replace hb3 := hb3.ext hq
       replace hoP := hoP.ext hq
       replace hpo := hpo.ext hq
       replace hb5 := hb5.ext hq
       replace hqd := hqd.ext hq
       have q9 := hq
       clear hq; have hC : Fr [] w9 w9 := Fr.refl _ _
       have hb1_b := hb1
       have hb2_b := hb2
       have hb3_b := hb3
       have hoP_b := hoP
       have hpo_b := hpo
       have hb5_b := hb5
       have hqd_b := hqd
       refine hd_fieldAddr 0 (by kernel_rfl) (by kernel_rfl) (by kernel_rfl) hC h wn rfl fa24_1 rfl rfl ?_; clear h a; intro a h
       refine hd_loadB 1 (by kernel_rfl) (by kernel_rfl) (by kernel_rfl) hC h wn rfl (fun _ hw => hb3_b.ext hw) rfl na22 rfl rfl ?_; clear h a; intro a h
       refine hd_move 3 (by kernel_rfl) (by kernel_rfl) (by kernel_rfl) hC h wn rfl rfl rfl ?_; clear h a; intro a h
       refine hd_fieldAddr 6 (by kernel_rfl) (by kernel_rfl) (by kernel_rfl) hC h wn rfl fa95_0 rfl rfl ?_; clear h a; intro a h
       refine hd_loadBP (vs := [_, _, _, _, _, _, _, _]) 7 (by kernel_rfl) (by kernel_rfl) (by kernel_rfl) hC h wn rfl (fun _ hw => (hb5_b.ext hw)) ag93 rfl rfl rfl ?_; clear h a; intro a h
       refine hd_fieldAddr 9 (by kernel_rfl) (by kernel_rfl) (by kernel_rfl) hC h wn rfl fa95_1 rfl rfl ?_; clear h a; intro a h
       refine hd_loadB 10 (by kernel_rfl) (by kernel_rfl) (by kernel_rfl) hC h wn rfl (fun _ hw => hb5_b.ext hw) rfl na5 rfl rfl ?_; clear h a; intro a h
       refine hd_rem 11 (by kernel_rfl) (by kernel_rfl) (by kernel_rfl) hC h wn rfl rfl (by omega) (by first | exact IntWalk.rem_in _ _ (by omega) | rfl) rfl rfl ?_; clear h a; intro a h
       refine hd_conv 12 (by kernel_rfl) (by kernel_rfl) (by kernel_rfl) hC h wn rfl (by rw [Tryd.underlying5]; rfl) Tryd.underlying3 (by first | exact IntWalk.i64_in _ (by omega) | rfl) rfl rfl ?_; clear h a; intro a h
       refine hd_add 13 (by kernel_rfl) (by kernel_rfl) (by kernel_rfl) hC h wn rfl rfl (by first | exact IntWalk.i64_in _ (by omega) | rfl) rfl rfl ?_; clear h a; intro a h
       refine hd_fieldAddr 14 (by kernel_rfl) (by kernel_rfl) (by kernel_rfl) hC h wn rfl fa95_2 rfl rfl ?_; clear h a; intro a h
       refine hd_loadB 15 (by kernel_rfl) (by kernel_rfl) (by kernel_rfl) hC h wn rfl (fun _ hw => hb5_b.ext hw) rfl na5 rfl rfl ?_; clear h a; intro a h
       refine hd_rem 16 (by kernel_rfl) (by kernel_rfl) (by kernel_rfl) hC h wn rfl rfl (by omega) (by first | exact IntWalk.rem_in _ _ (by omega) | rfl) rfl rfl ?_; clear h a; intro a h
       refine hd_conv 17 (by kernel_rfl) (by kernel_rfl) (by kernel_rfl) hC h wn rfl (by rw [Tryd.underlying5]; rfl) Tryd.underlying3 (by first | exact IntWalk.i64_in _ (by omega) | rfl) rfl rfl ?_; clear h a; intro a h
       refine hd_fieldAddr 18 (by kernel_rfl) (by kernel_rfl) (by kernel_rfl) hC h wn rfl fa95_3 rfl rfl ?_; clear h a; intro a h
       refine hd_loadB 19 (by kernel_rfl) (by kernel_rfl) (by kernel_rfl) hC h wn rfl (fun _ hw => hb5_b.ext hw) rfl na5 rfl rfl ?_; clear h a; intro a h
       refine hd_rem 20 (by kernel_rfl) (by kernel_rfl) (by kernel_rfl) hC h wn rfl rfl (by omega) (by first | exact IntWalk.rem_in _ _ (by omega) | rfl) rfl rfl ?_; clear h a; intro a h
       refine hd_conv 21 (by kernel_rfl) (by kernel_rfl) (by kernel_rfl) hC h wn rfl (by rw [Tryd.underlying5]; rfl) Tryd.underlying3 (by first | exact IntWalk.i64_in _ (by omega) | rfl) rfl rfl ?_; clear h a; intro a h
       refine hd_add 22 (by kernel_rfl) (by kernel_rfl) (by kernel_rfl) hC h wn rfl rfl (by first | exact IntWalk.i64_in _ (by omega) | rfl) rfl rfl ?_; clear h a; intro a h
       refine hd_fieldAddr 23 (by kernel_rfl) (by kernel_rfl) (by kernel_rfl) hC h wn rfl fa95_4 rfl rfl ?_; clear h a; intro a h
       refine hd_loadB 24 (by kernel_rfl) (by kernel_rfl) (by kernel_rfl) hC h wn rfl (fun _ hw => hb5_b.ext hw) rfl na5 rfl rfl ?_; clear h a; intro a h
       refine hd_rem 25 (by kernel_rfl) (by kernel_rfl) (by kernel_rfl) hC h wn rfl rfl (by omega) (by first | exact IntWalk.rem_in _ _ (by omega) | rfl) rfl rfl ?_; clear h a; intro a h
       refine hd_conv 26 (by kernel_rfl) (by kernel_rfl) (by kernel_rfl) hC h wn rfl (by rw [Tryd.underlying5]; rfl) Tryd.underlying3 (by first | exact IntWalk.i64_in _ (by omega) | rfl) rfl rfl ?_; clear h a; intro a h
       refine hd_add 27 (by kernel_rfl) (by kernel_rfl) (by kernel_rfl) hC h wn rfl rfl (by first | exact IntWalk.i64_in _ (by omega) | rfl) rfl rfl ?_; clear h a; intro a h
       refine hd_two 2 8 (by kernel_rfl) rfl rfl ?_ ?_
       · refine id ?_
         refine st_bslice (ofN) h (evs_cons rfl (evs_cons rfl (evs_cons rfl (evs_cons rfl evs_nil)))) rfl rfl rfl el96 (Nat.le_of_ble_eq_true rfl) rfl ?_; clear h a; intro g_39 w10 hg ho39 hq hz a h
         have hn__39 : g1 < g_39 := by have := hb1.lt; omega
         have hn__39 : g2 < g_39 := by have := hb2.lt; omega
         have hn__39 : g3 < g_39 := by have := hb3.lt; omega
         have hn__39 : g5 < g_39 := by have := hb5.lt; omega
         have z10 := hq.size
         replace hb1 := hb1.ext hq
         replace hb2 := hb2.ext hq
         replace hb3 := hb3.ext hq
         replace hoP := hoP.ext hq
         replace hpo := hpo.ext hq
         replace hb5 := hb5.ext hq
         replace hqd := hqd.ext hq
         replace hC := hC.next hq
         have q10 := hq
         clear hq
         refine hd_next hC ?_
         refine hd_two 4 8 (by kernel_rfl) rfl rfl ?_ ?_
         · refine id ?_
           refine st_idxL (p := i) ([]) h rfl ho39.sl rfl el96 (by omega) (by omega) (by omega) rfl ?_; clear h a; intro ad41 hc41 a h
           refine hd_next hC ?_
           refine hd_two 5 8 (by kernel_rfl) rfl rfl ?_ ?_
           · refine id ?_
             refine st_loadC0 h rfl (hc41 _ ho39.sl) na9 rfl ?_; clear h a; intro a h
             refine hd_next hC ?_
             refine hd_one 8 (by kernel_rfl) rfl ?_
             refine st_call h (evs_cons rfl evs_nil) co38 (mof_ok B H hB qd _ hqd) rfl ?_; clear h a; rintro _ w11 ⟨ml, mt, mr, mm, rfl, hM, hmm, hq⟩ a h
             have z11 := hq.size
             replace hb1 := hb1.ext hq
             replace hb2 := hb2.ext hq
             replace hb3 := hb3.ext hq
             replace hoP := hoP.ext hq
             replace hpo := hpo.ext hq
             replace hb5 := hb5.ext hq
             replace hqd := hqd.ext hq
             replace ho39 := ho39.ext hq
             replace hC := hC.next hq
             have q11 := hq
             clear hq
             refine hd_next hC ?_
             refine hd_lit (cs := [_, _, _, _, _, _, _, _]) 28 (by kernel_rfl) (by kernel_rfl) (by kernel_rfl) hC h wn (evs_cons rfl (evs_cons rfl (evs_cons rfl (evs_cons rfl (evs_cons rfl (evs_cons rfl evs_nil)))))) bo51 (pok_cons rfl rfl rfl (pok_cons rfl rfl rfl (pok_cons rfl rfl rfl (pok_cons rfl rfl rfl (pok_cons rfl rfl rfl (pok_cons rfl rfl rfl pok_nil)))))) rfl rfl rfl ?_; clear h a; intro a h
             refine hd_one 29 (by kernel_rfl) rfl ?_
             refine st_bslice ([(⟨⟨ofN.getD i [], mm, 1 + qd.ba % 4, qd.st % 5, 1 + qd.up % 5, 1 + qd.ct % 9⟩, ml, mt, mr⟩ : PQ)]) h (evs_cons rfl evs_nil) rfl rfl rfl el22 (Nat.le_of_ble_eq_true rfl) rfl ?_; clear h a; intro g_66 w12 hg ho66 hq hz a h
             have hn__66 : g1 < g_66 := by have := hb1.lt; omega
             have hn__66 : g2 < g_66 := by have := hb2.lt; omega
             have hn__66 : g3 < g_66 := by have := hb3.lt; omega
             have hn__66 : g5 < g_66 := by have := hb5.lt; omega
             have z12 := hq.size
             replace hb1 := hb1.ext hq
             replace hb2 := hb2.ext hq
             replace hb3 := hb3.ext hq
             replace hoP := hoP.ext hq
             replace hpo := hpo.ext hq
             replace hb5 := hb5.ext hq
             replace hqd := hqd.ext hq
             replace ho39 := ho39.ext hq
             replace hM := hM.ext hq
             replace hC := hC.next hq
             have q12 := hq
             clear hq
             refine hd_next hC ?_
             refine hd_one 30 (by kernel_rfl) rfl ?_
             have hoo67 := hoP
             refine st_append h rfl rfl hoP ho66.sl el22 (by unfold maxLen; simp only [List.length_cons, List.length_nil]; omega) (by simp only [List.length_cons, List.length_nil]; omega) (by omega) rfl ?_; clear h a; intro v67 w13 hoP hq hor67 a h
             replace hpo := (hpo.snoc (q := (⟨⟨ofN.getD i [], mm, 1 + qd.ba % 4, qd.st % 5, 1 + qd.up % 5, 1 + qd.ct % 9⟩, ml, mt, mr⟩ : PQ)) (hM.low (by omega)))
             obtain ⟨AP, cP, rfl, _⟩ := hoP.sl.form
             have z13 := hq.size
             replace hb1 := hb1.fr hq (fun hk => by have := (hoo67.blk _ hk).1; omega)
             replace hb2 := hb2.fr hq (fun hk => by have := (hoo67.blk _ hk).1; omega)
             replace hb3 := hb3.fr hq (fun hk => by have := (hoo67.blk _ hk).1; omega)
             replace hpo := hpo.fr hq (own_apart hoo67 (by decide) (by decide))
             have q13 := hq
             clear hq
             refine hd_past (by kernel_rfl) ?_
             refine hd_one 31 (by kernel_rfl) rfl ?_
             refine st_fieldAddr h rfl fa24_1 rfl ?_; clear h a; intro a h
             refine hd_past (by kernel_rfl) ?_
             refine hd_one 32 (by kernel_rfl) rfl ?_
             refine st_storeB h rfl rfl hb3 rfl rfl rfl sz22 ?_; clear h a; intro w14 hbn hq hz a h
             have z14 := hq.size
             replace hb1 := hb1.fr hq (by first | (simp; done) | (simp; omega) | (simp [blks]; done) | (simp [blks]; omega))
             replace hb2 := hb2.fr hq (by first | (simp; done) | (simp; omega) | (simp [blks]; done) | (simp [blks]; omega))
             replace hpo := hpo.fr hq (by intro k hk; simp at hk; subst hk; first | exact .inl (by omega) | exact .inr ⟨_, _, hz5, by decide, by decide⟩)
             replace hoP := hoP.fr hq (by intro k hk hb; simp at hk; subst hk; have := hoP.blk _ hb; omega)
             have q14 := hq
             clear hb3 hq hz; have hb3 : Blk w14 g3 _ [_, _] := hbn; clear hbn
             refine hd_past (by kernel_rfl) ?_
             refine hd_end (by kernel_rfl) ?_
             clear hC hb1_b hb2_b hb3_b hoP_b hpo_b hb5_b hqd_b
             refine bk (h.sub (L' := [(1, _), (2, _), (3, _), (4, _)]) (.cons rfl (.cons rfl (.cons rfl (.cons rfl .nil))))) ?_; clear h a
             refine bn' (tn (rg (mv rfl rfl (s_add rfl rfl (wi6 (by omega)) rfl (asg rfl rfl (nl ?_))))))
             exact lpE ((i + 1, _, qs ++ [(⟨⟨ofN.getD i [], mm, 1 + qd.ba % 4, qd.st % 5, 1 + qd.up % 5, 1 + qd.ct % 9⟩, ml, mt, mr⟩ : PQ)])) (.cons rfl (.cons rfl (.cons rfl (.cons rfl .nil)))) ⟨((((((((q5.next q6).step q8 (by first | (simp; done) | (simp; omega))).next q9).next q10).next q11).next q12).step q13 (fun k hk hlt => absurd (hoo67.blk k hk).1 (by omega))).step q14 (by first | (simp; done) | (simp; omega))), ⟨⟨by simp only; omega, by simp only [List.length_append, List.length_cons, List.length_nil]; omega⟩, hb1, hb2, hb3, hoP, hpo, (by simp only; omega), (by simp only [pcs, List.map_append] at hgf ⊢; rw [hgf, garF_succ, hmm, hqe]; rfl)⟩⟩ (by simp only; omega)
           · refine id ?_
             refine st_call h (evs_cons rfl evs_nil) co38 (mof_ok B H hB qd _ hqd) rfl ?_; clear h a; rintro _ w15 ⟨ml, mt, mr, mm, rfl, hM, hmm, hq⟩ a h
             have z15 := hq.size
             replace hb1 := hb1.ext hq
             replace hb2 := hb2.ext hq
             replace hb3 := hb3.ext hq
             replace hoP := hoP.ext hq
             replace hpo := hpo.ext hq
             replace hb5 := hb5.ext hq
             replace hqd := hqd.ext hq
             replace ho39 := ho39.ext hq
             replace hC := hC.next hq
             have q15 := hq
             clear hq
             refine hd_next hC ?_
             refine hd_one 5 (by kernel_rfl) rfl ?_
             refine st_loadC0 h rfl (hc41 _ ho39.sl) na9 rfl ?_; clear h a; intro a h
             refine hd_next hC ?_
             refine hd_lit (cs := [_, _, _, _, _, _, _, _]) 28 (by kernel_rfl) (by kernel_rfl) (by kernel_rfl) hC h wn (evs_cons rfl (evs_cons rfl (evs_cons rfl (evs_cons rfl (evs_cons rfl (evs_cons rfl evs_nil)))))) bo51 (pok_cons rfl rfl rfl (pok_cons rfl rfl rfl (pok_cons rfl rfl rfl (pok_cons rfl rfl rfl (pok_cons rfl rfl rfl (pok_cons rfl rfl rfl pok_nil)))))) rfl rfl rfl ?_; clear h a; intro a h
             refine hd_one 29 (by kernel_rfl) rfl ?_
             refine st_bslice ([(⟨⟨ofN.getD i [], mm, 1 + qd.ba % 4, qd.st % 5, 1 + qd.up % 5, 1 + qd.ct % 9⟩, ml, mt, mr⟩ : PQ)]) h (evs_cons rfl evs_nil) rfl rfl rfl el22 (Nat.le_of_ble_eq_true rfl) rfl ?_; clear h a; intro g_66 w16 hg ho66 hq hz a h
             have hn__66 : g1 < g_66 := by have := hb1.lt; omega
             have hn__66 : g2 < g_66 := by have := hb2.lt; omega
             have hn__66 : g3 < g_66 := by have := hb3.lt; omega
             have hn__66 : g5 < g_66 := by have := hb5.lt; omega
             have z16 := hq.size
             replace hb1 := hb1.ext hq
             replace hb2 := hb2.ext hq
             replace hb3 := hb3.ext hq
             replace hoP := hoP.ext hq
             replace hpo := hpo.ext hq
             replace hb5 := hb5.ext hq
             replace hqd := hqd.ext hq
             replace ho39 := ho39.ext hq
             replace hM := hM.ext hq
             replace hC := hC.next hq
             have q16 := hq
             clear hq
             refine hd_next hC ?_
             refine hd_one 30 (by kernel_rfl) rfl ?_
             have hoo67 := hoP
             refine st_append h rfl rfl hoP ho66.sl el22 (by unfold maxLen; simp only [List.length_cons, List.length_nil]; omega) (by simp only [List.length_cons, List.length_nil]; omega) (by omega) rfl ?_; clear h a; intro v67 w17 hoP hq hor67 a h
             replace hpo := (hpo.snoc (q := (⟨⟨ofN.getD i [], mm, 1 + qd.ba % 4, qd.st % 5, 1 + qd.up % 5, 1 + qd.ct % 9⟩, ml, mt, mr⟩ : PQ)) (hM.low (by omega)))
             obtain ⟨AP, cP, rfl, _⟩ := hoP.sl.form
             have z17 := hq.size
             replace hb1 := hb1.fr hq (fun hk => by have := (hoo67.blk _ hk).1; omega)
             replace hb2 := hb2.fr hq (fun hk => by have := (hoo67.blk _ hk).1; omega)
             replace hb3 := hb3.fr hq (fun hk => by have := (hoo67.blk _ hk).1; omega)
             replace hpo := hpo.fr hq (own_apart hoo67 (by decide) (by decide))
             have q17 := hq
             clear hq
             refine hd_past (by kernel_rfl) ?_
             refine hd_one 31 (by kernel_rfl) rfl ?_
             refine st_fieldAddr h rfl fa24_1 rfl ?_; clear h a; intro a h
             refine hd_past (by kernel_rfl) ?_
             refine hd_one 32 (by kernel_rfl) rfl ?_
             refine st_storeB h rfl rfl hb3 rfl rfl rfl sz22 ?_; clear h a; intro w18 hbn hq hz a h
             have z18 := hq.size
             replace hb1 := hb1.fr hq (by first | (simp; done) | (simp; omega) | (simp [blks]; done) | (simp [blks]; omega))
             replace hb2 := hb2.fr hq (by first | (simp; done) | (simp; omega) | (simp [blks]; done) | (simp [blks]; omega))
             replace hpo := hpo.fr hq (by intro k hk; simp at hk; subst hk; first | exact .inl (by omega) | exact .inr ⟨_, _, hz5, by decide, by decide⟩)
             replace hoP := hoP.fr hq (by intro k hk hb; simp at hk; subst hk; have := hoP.blk _ hb; omega)
             have q18 := hq
             clear hb3 hq hz; have hb3 : Blk w18 g3 _ [_, _] := hbn; clear hbn
             refine hd_past (by kernel_rfl) ?_
             refine hd_end (by kernel_rfl) ?_
             clear hC hb1_b hb2_b hb3_b hoP_b hpo_b hb5_b hqd_b
             refine bk (h.sub (L' := [(1, _), (2, _), (3, _), (4, _)]) (.cons rfl (.cons rfl (.cons rfl (.cons rfl .nil))))) ?_; clear h a
             refine bn' (tn (rg (mv rfl rfl (s_add rfl rfl (wi6 (by omega)) rfl (asg rfl rfl (nl ?_))))))
             exact lpE ((i + 1, _, qs ++ [(⟨⟨ofN.getD i [], mm, 1 + qd.ba % 4, qd.st % 5, 1 + qd.up % 5, 1 + qd.ct % 9⟩, ml, mt, mr⟩ : PQ)])) (.cons rfl (.cons rfl (.cons rfl (.cons rfl .nil)))) ⟨((((((((q5.next q6).step q8 (by first | (simp; done) | (simp; omega))).next q9).next q10).next q15).next q16).step q17 (fun k hk hlt => absurd (hoo67.blk k hk).1 (by omega))).step q18 (by first | (simp; done) | (simp; omega))), ⟨⟨by simp only; omega, by simp only [List.length_append, List.length_cons, List.length_nil]; omega⟩, hb1, hb2, hb3, hoP, hpo, (by simp only; omega), (by simp only [pcs, List.map_append] at hgf ⊢; rw [hgf, garF_succ, hmm, hqe]; rfl)⟩⟩ (by simp only; omega)
         · refine id ?_
           refine st_call h (evs_cons rfl evs_nil) co38 (mof_ok B H hB qd _ hqd) rfl ?_; clear h a; rintro _ w19 ⟨ml, mt, mr, mm, rfl, hM, hmm, hq⟩ a h
           have z19 := hq.size
           replace hb1 := hb1.ext hq
           replace hb2 := hb2.ext hq
           replace hb3 := hb3.ext hq
           replace hoP := hoP.ext hq
           replace hpo := hpo.ext hq
           replace hb5 := hb5.ext hq
           replace hqd := hqd.ext hq
           replace ho39 := ho39.ext hq
           replace hC := hC.next hq
           have q19 := hq
           clear hq
           refine hd_next hC ?_
           refine hd_one 4 (by kernel_rfl) rfl ?_
           refine st_idxL (p := i) ([]) h rfl ho39.sl rfl el96 (by omega) (by omega) (by omega) rfl ?_; clear h a; intro ad41 hc41 a h
           refine hd_next hC ?_
           refine hd_one 5 (by kernel_rfl) rfl ?_
           refine st_loadC0 h rfl (hc41 _ ho39.sl) na9 rfl ?_; clear h a; intro a h
           refine hd_next hC ?_
           refine hd_lit (cs := [_, _, _, _, _, _, _, _]) 28 (by kernel_rfl) (by kernel_rfl) (by kernel_rfl) hC h wn (evs_cons rfl (evs_cons rfl (evs_cons rfl (evs_cons rfl (evs_cons rfl (evs_cons rfl evs_nil)))))) bo51 (pok_cons rfl rfl rfl (pok_cons rfl rfl rfl (pok_cons rfl rfl rfl (pok_cons rfl rfl rfl (pok_cons rfl rfl rfl (pok_cons rfl rfl rfl pok_nil)))))) rfl rfl rfl ?_; clear h a; intro a h
           refine hd_one 29 (by kernel_rfl) rfl ?_
           refine st_bslice ([(⟨⟨ofN.getD i [], mm, 1 + qd.ba % 4, qd.st % 5, 1 + qd.up % 5, 1 + qd.ct % 9⟩, ml, mt, mr⟩ : PQ)]) h (evs_cons rfl evs_nil) rfl rfl rfl el22 (Nat.le_of_ble_eq_true rfl) rfl ?_; clear h a; intro g_66 w20 hg ho66 hq hz a h
           have hn__66 : g1 < g_66 := by have := hb1.lt; omega
           have hn__66 : g2 < g_66 := by have := hb2.lt; omega
           have hn__66 : g3 < g_66 := by have := hb3.lt; omega
           have hn__66 : g5 < g_66 := by have := hb5.lt; omega
           have z20 := hq.size
           replace hb1 := hb1.ext hq
           replace hb2 := hb2.ext hq
           replace hb3 := hb3.ext hq
           replace hoP := hoP.ext hq
           replace hpo := hpo.ext hq
           replace hb5 := hb5.ext hq
           replace hqd := hqd.ext hq
           replace ho39 := ho39.ext hq
           replace hM := hM.ext hq
           replace hC := hC.next hq
           have q20 := hq
           clear hq
           refine hd_next hC ?_
           refine hd_one 30 (by kernel_rfl) rfl ?_
           have hoo67 := hoP
           refine st_append h rfl rfl hoP ho66.sl el22 (by unfold maxLen; simp only [List.length_cons, List.length_nil]; omega) (by simp only [List.length_cons, List.length_nil]; omega) (by omega) rfl ?_; clear h a; intro v67 w21 hoP hq hor67 a h
           replace hpo := (hpo.snoc (q := (⟨⟨ofN.getD i [], mm, 1 + qd.ba % 4, qd.st % 5, 1 + qd.up % 5, 1 + qd.ct % 9⟩, ml, mt, mr⟩ : PQ)) (hM.low (by omega)))
           obtain ⟨AP, cP, rfl, _⟩ := hoP.sl.form
           have z21 := hq.size
           replace hb1 := hb1.fr hq (fun hk => by have := (hoo67.blk _ hk).1; omega)
           replace hb2 := hb2.fr hq (fun hk => by have := (hoo67.blk _ hk).1; omega)
           replace hb3 := hb3.fr hq (fun hk => by have := (hoo67.blk _ hk).1; omega)
           replace hpo := hpo.fr hq (own_apart hoo67 (by decide) (by decide))
           have q21 := hq
           clear hq
           refine hd_past (by kernel_rfl) ?_
           refine hd_one 31 (by kernel_rfl) rfl ?_
           refine st_fieldAddr h rfl fa24_1 rfl ?_; clear h a; intro a h
           refine hd_past (by kernel_rfl) ?_
           refine hd_one 32 (by kernel_rfl) rfl ?_
           refine st_storeB h rfl rfl hb3 rfl rfl rfl sz22 ?_; clear h a; intro w22 hbn hq hz a h
           have z22 := hq.size
           replace hb1 := hb1.fr hq (by first | (simp; done) | (simp; omega) | (simp [blks]; done) | (simp [blks]; omega))
           replace hb2 := hb2.fr hq (by first | (simp; done) | (simp; omega) | (simp [blks]; done) | (simp [blks]; omega))
           replace hpo := hpo.fr hq (by intro k hk; simp at hk; subst hk; first | exact .inl (by omega) | exact .inr ⟨_, _, hz5, by decide, by decide⟩)
           replace hoP := hoP.fr hq (by intro k hk hb; simp at hk; subst hk; have := hoP.blk _ hb; omega)
           have q22 := hq
           clear hb3 hq hz; have hb3 : Blk w22 g3 _ [_, _] := hbn; clear hbn
           refine hd_past (by kernel_rfl) ?_
           refine hd_end (by kernel_rfl) ?_
           clear hC hb1_b hb2_b hb3_b hoP_b hpo_b hb5_b hqd_b
           refine bk (h.sub (L' := [(1, _), (2, _), (3, _), (4, _)]) (.cons rfl (.cons rfl (.cons rfl (.cons rfl .nil))))) ?_; clear h a
           refine bn' (tn (rg (mv rfl rfl (s_add rfl rfl (wi6 (by omega)) rfl (asg rfl rfl (nl ?_))))))
           exact lpE ((i + 1, _, qs ++ [(⟨⟨ofN.getD i [], mm, 1 + qd.ba % 4, qd.st % 5, 1 + qd.up % 5, 1 + qd.ct % 9⟩, ml, mt, mr⟩ : PQ)])) (.cons rfl (.cons rfl (.cons rfl (.cons rfl .nil)))) ⟨((((((((q5.next q6).step q8 (by first | (simp; done) | (simp; omega))).next q9).next q10).next q19).next q20).step q21 (fun k hk hlt => absurd (hoo67.blk k hk).1 (by omega))).step q22 (by first | (simp; done) | (simp; omega))), ⟨⟨by simp only; omega, by simp only [List.length_append, List.length_cons, List.length_nil]; omega⟩, hb1, hb2, hb3, hoP, hpo, (by simp only; omega), (by simp only [pcs, List.map_append] at hgf ⊢; rw [hgf, garF_succ, hmm, hqe]; rfl)⟩⟩ (by simp only; omega)
       · refine id ?_
         refine st_call h (evs_cons rfl evs_nil) co38 (mof_ok B H hB qd _ hqd) rfl ?_; clear h a; rintro _ w23 ⟨ml, mt, mr, mm, rfl, hM, hmm, hq⟩ a h
         have z23 := hq.size
         replace hb1 := hb1.ext hq
         replace hb2 := hb2.ext hq
         replace hb3 := hb3.ext hq
         replace hoP := hoP.ext hq
         replace hpo := hpo.ext hq
         replace hb5 := hb5.ext hq
         replace hqd := hqd.ext hq
         replace hC := hC.next hq
         have q23 := hq
         clear hq
         refine hd_next hC ?_
         refine hd_one 2 (by kernel_rfl) rfl ?_
         refine st_bslice (ofN) h (evs_cons rfl (evs_cons rfl (evs_cons rfl (evs_cons rfl evs_nil)))) rfl rfl rfl el96 (Nat.le_of_ble_eq_true rfl) rfl ?_; clear h a; intro g_39 w24 hg ho39 hq hz a h
         have hn__39 : g1 < g_39 := by have := hb1.lt; omega
         have hn__39 : g2 < g_39 := by have := hb2.lt; omega
         have hn__39 : g3 < g_39 := by have := hb3.lt; omega
         have hn__39 : g5 < g_39 := by have := hb5.lt; omega
         have z24 := hq.size
         replace hb1 := hb1.ext hq
         replace hb2 := hb2.ext hq
         replace hb3 := hb3.ext hq
         replace hoP := hoP.ext hq
         replace hpo := hpo.ext hq
         replace hb5 := hb5.ext hq
         replace hqd := hqd.ext hq
         replace hM := hM.ext hq
         replace hC := hC.next hq
         have q24 := hq
         clear hq
         refine hd_next hC ?_
         refine hd_one 4 (by kernel_rfl) rfl ?_
         refine st_idxL (p := i) ([]) h rfl ho39.sl rfl el96 (by omega) (by omega) (by omega) rfl ?_; clear h a; intro ad41 hc41 a h
         refine hd_next hC ?_
         refine hd_one 5 (by kernel_rfl) rfl ?_
         refine st_loadC0 h rfl (hc41 _ ho39.sl) na9 rfl ?_; clear h a; intro a h
         refine hd_next hC ?_
         refine hd_lit (cs := [_, _, _, _, _, _, _, _]) 28 (by kernel_rfl) (by kernel_rfl) (by kernel_rfl) hC h wn (evs_cons rfl (evs_cons rfl (evs_cons rfl (evs_cons rfl (evs_cons rfl (evs_cons rfl evs_nil)))))) bo51 (pok_cons rfl rfl rfl (pok_cons rfl rfl rfl (pok_cons rfl rfl rfl (pok_cons rfl rfl rfl (pok_cons rfl rfl rfl (pok_cons rfl rfl rfl pok_nil)))))) rfl rfl rfl ?_; clear h a; intro a h
         refine hd_one 29 (by kernel_rfl) rfl ?_
         refine st_bslice ([(⟨⟨ofN.getD i [], mm, 1 + qd.ba % 4, qd.st % 5, 1 + qd.up % 5, 1 + qd.ct % 9⟩, ml, mt, mr⟩ : PQ)]) h (evs_cons rfl evs_nil) rfl rfl rfl el22 (Nat.le_of_ble_eq_true rfl) rfl ?_; clear h a; intro g_66 w25 hg ho66 hq hz a h
         have hn__66 : g1 < g_66 := by have := hb1.lt; omega
         have hn__66 : g2 < g_66 := by have := hb2.lt; omega
         have hn__66 : g3 < g_66 := by have := hb3.lt; omega
         have hn__66 : g5 < g_66 := by have := hb5.lt; omega
         have z25 := hq.size
         replace hb1 := hb1.ext hq
         replace hb2 := hb2.ext hq
         replace hb3 := hb3.ext hq
         replace hoP := hoP.ext hq
         replace hpo := hpo.ext hq
         replace hb5 := hb5.ext hq
         replace hqd := hqd.ext hq
         replace hM := hM.ext hq
         replace ho39 := ho39.ext hq
         replace hC := hC.next hq
         have q25 := hq
         clear hq
         refine hd_next hC ?_
         refine hd_one 30 (by kernel_rfl) rfl ?_
         have hoo67 := hoP
         refine st_append h rfl rfl hoP ho66.sl el22 (by unfold maxLen; simp only [List.length_cons, List.length_nil]; omega) (by simp only [List.length_cons, List.length_nil]; omega) (by omega) rfl ?_; clear h a; intro v67 w26 hoP hq hor67 a h
         replace hpo := (hpo.snoc (q := (⟨⟨ofN.getD i [], mm, 1 + qd.ba % 4, qd.st % 5, 1 + qd.up % 5, 1 + qd.ct % 9⟩, ml, mt, mr⟩ : PQ)) (hM.low (by omega)))
         obtain ⟨AP, cP, rfl, _⟩ := hoP.sl.form
         have z26 := hq.size
         replace hb1 := hb1.fr hq (fun hk => by have := (hoo67.blk _ hk).1; omega)
         replace hb2 := hb2.fr hq (fun hk => by have := (hoo67.blk _ hk).1; omega)
         replace hb3 := hb3.fr hq (fun hk => by have := (hoo67.blk _ hk).1; omega)
         replace hpo := hpo.fr hq (own_apart hoo67 (by decide) (by decide))
         have q26 := hq
         clear hq
         refine hd_past (by kernel_rfl) ?_
         refine hd_one 31 (by kernel_rfl) rfl ?_
         refine st_fieldAddr h rfl fa24_1 rfl ?_; clear h a; intro a h
         refine hd_past (by kernel_rfl) ?_
         refine hd_one 32 (by kernel_rfl) rfl ?_
         refine st_storeB h rfl rfl hb3 rfl rfl rfl sz22 ?_; clear h a; intro w27 hbn hq hz a h
         have z27 := hq.size
         replace hb1 := hb1.fr hq (by first | (simp; done) | (simp; omega) | (simp [blks]; done) | (simp [blks]; omega))
         replace hb2 := hb2.fr hq (by first | (simp; done) | (simp; omega) | (simp [blks]; done) | (simp [blks]; omega))
         replace hpo := hpo.fr hq (by intro k hk; simp at hk; subst hk; first | exact .inl (by omega) | exact .inr ⟨_, _, hz5, by decide, by decide⟩)
         replace hoP := hoP.fr hq (by intro k hk hb; simp at hk; subst hk; have := hoP.blk _ hb; omega)
         have q27 := hq
         clear hb3 hq hz; have hb3 : Blk w27 g3 _ [_, _] := hbn; clear hbn
         refine hd_past (by kernel_rfl) ?_
         refine hd_end (by kernel_rfl) ?_
         clear hC hb1_b hb2_b hb3_b hoP_b hpo_b hb5_b hqd_b
         refine bk (h.sub (L' := [(1, _), (2, _), (3, _), (4, _)]) (.cons rfl (.cons rfl (.cons rfl (.cons rfl .nil))))) ?_; clear h a
         refine bn' (tn (rg (mv rfl rfl (s_add rfl rfl (wi6 (by omega)) rfl (asg rfl rfl (nl ?_))))))
         exact lpE ((i + 1, _, qs ++ [(⟨⟨ofN.getD i [], mm, 1 + qd.ba % 4, qd.st % 5, 1 + qd.up % 5, 1 + qd.ct % 9⟩, ml, mt, mr⟩ : PQ)])) (.cons rfl (.cons rfl (.cons rfl (.cons rfl .nil)))) ⟨((((((((q5.next q6).step q8 (by first | (simp; done) | (simp; omega))).next q9).next q23).next q24).next q25).step q26 (fun k hk hlt => absurd (hoo67.blk k hk).1 (by omega))).step q27 (by first | (simp; done) | (simp; omega))), ⟨⟨by simp only; omega, by simp only [List.length_append, List.length_cons, List.length_nil]; omega⟩, hb1, hb2, hb3, hoP, hpo, (by simp only; omega), (by simp only [pcs, List.map_append] at hgf ⊢; rw [hgf, garF_succ, hmm, hqe]; rfl)⟩⟩ (by simp only; omega)
   · obtain ⟨AP, cP, rfl, _⟩ := hoP.sl.form
     refine ex (te (te (xh (tn (sr (s_loadBA rfl hb3 ag24 rfl ?_))))))
     refine s_storeBA (vs := [S ((([97, 98, 99, 100, 101, 102, 103, 104, 105, 106, 107, 108, 109, 110, 111, 112] : List UInt8)).take (1 + (nb % 16)).toNat), .slice AP qs.length cP]) rfl rfl hb2 rfl (by simp [Value.oneCell', S]) sz24 (fun w28 hb2 q28 z28 => ?_)
     refine nn (rt (rC Tryd.results16 rfl hb2 ag24  ?_))
     replace hoP := hoP.fr q28 (by intro k hk hb; simp at hk; subst hk; have := hoP.blk _ hb; omega)
     replace hpo := hpo.fr q28 (by intro k hk; simp at hk; subst hk; first | exact .inl (by omega) | exact .inr ⟨_, _, hz5, by decide, by decide⟩)
     exact ⟨_, rfl, _, qs, rfl, hoP.low (by omega), hpo.low (by omega), (by have : i = manyG ys := (by omega); rw [hgf, this]), (q5.step q28 (by first | (simp; done) | (simp; omega)))⟩
end Go.Proofs.YthehggmdcmpjeaaDoor
namespace Go.G14
open Go.Lw
def z0 (q : PQ) : PQ := ⟨⟨q.p.nm, q.p.mot, q.p.ba, 0, q.p.up, q.p.ct⟩, q.l, q.t, q.r⟩
end Go.G14
namespace Go.Lw
open Go.RowKit
section
variable {P : Program} {a : Act} {n : Nat} {L : List (Nat × Value)} {ds : List Nat} {w : World} {Q : Exit → Act → World → Prop} {ops : Array Oper} {rest : List Oper} {d : Nat} {ty t T : TypeId} {pos : String} {after : Array Edge} {x y : Operand} {v : Value}
end
end Go.Lw
namespace Go.Proofs.YthehggmdcmpjeaaDoor
open Go.Lw Go.G14
theorem ag43 : AggOf Tryd.prog 43 2 := ⟨fun _ => by kernel_rfl, fun _ => by kernel_rfl⟩
theorem co16 : CallOf Tryd.prog 16 := CallOf.mk' Tryd.func16 (by kernel_rfl) (by kernel_rfl)
end Go.Proofs.YthehggmdcmpjeaaDoor
namespace Go.G14
open Go.Lw
def mirTo (r : List Stitch) (j : Nat) : List Stitch := List.replicate (r.length - j) zeroS ++ ((r.take j).map mirS).reverse
theorem mirTo_zero (r : List Stitch) : mirTo r 0 = List.replicate r.length zeroS := by simp [mirTo]
theorem mirTo_all (r : List Stitch) : mirTo r r.length = mirR r := by simp [mirTo, mirR]
theorem mirTo_len {r : List Stitch} {j : Nat} (h : j ≤ r.length) : (mirTo r j).length = r.length := by simp [mirTo]; omega
theorem mirTo_set {r : List Stitch} {j : Nat} (h : j < r.length) : (mirTo r j).set (r.length - 1 - j) (mirS (r.getD j zeroS)) = mirTo r (j + 1) := by
  unfold mirTo
  rw [List.set_append, if_pos (by simp; omega), show r.length - j = (r.length - (j + 1)) + 1 by omega, show r.length - 1 - j = (List.replicate (r.length - (j + 1)) zeroS).length by simp; omega]
  have e : r.getD j zeroS = r[j] := by simp [List.getD, List.getElem?_eq_getElem h]
  have e2 : (r.take (j + 1)).map mirS = (r.take j).map mirS ++ [mirS r[j]] := by
    have e3 : r.take (j + 1) = r.take j ++ [r[j]] := by rw [List.take_add_one, List.getElem?_eq_getElem h]; rfl
    rw [e3, List.map_append]; rfl
  rw [List.replicate_succ', List.set_append, if_neg (by omega), Nat.sub_self, List.set_cons_zero, e, e2, List.reverse_append]
  simp
theorem mirC_snd {rs : List RQ} {c : RowL} (h : rs.map Prod.snd = c) : rs.map (fun q => mirR q.2) = mirC c := by
  rw [← h, mirC, List.map_map]; rfl
theorem gd_mid {α : Type} {l : List α} {x d : α} {m : List α} {i : Nat} (h : l.length = i) : ((l ++ [x]) ++ m).getD i d = x := by
  subst h
  rw [List.getD, List.getElem?_append_left (by simp), List.getElem?_append_right (Nat.le_refl _)]; simp
theorem rng_mir {c : RowL} (h : rowsR c) : rowsR (mirC c) := fun r hr s hs => by
  obtain ⟨r', hr', rfl⟩ := List.mem_map.1 hr
  rw [mirR, List.mem_reverse] at hs
  obtain ⟨s', hs', rfl⟩ := List.mem_map.1 hs
  rw [mirS_k, mirS_y]
  exact h r' hr' s' hs'
/-- Charts of a moderate size. -/
def boundC (c : RowL) : Prop := c.length ≤ 100 ∧ ∀ r ∈ c, r.length ≤ 100
def boundM (m : Mot) : Prop := boundC m.L ∧ boundC m.T ∧ boundC m.R
theorem bound_mir {c : RowL} (h : boundC c) : boundC (mirC c) := ⟨by rw [mirC_len]; exact h.1, fun r hr => by
  obtain ⟨r', hr', rfl⟩ := List.mem_map.1 hr
  rw [mirR_len]; exact h.2 r' hr'⟩
theorem boundm_mir {m : Mot} (h : boundM m) : boundM (mirM m) := ⟨bound_mir h.2.2, bound_mir h.2.1, bound_mir h.1⟩
theorem chG_len (wd : Int) (css : List (List UInt8)) : ∀ n, (chG wd css n).2.length = n
  | 0 => rfl
  | n + 1 => by rw [chG, List.length_append, chG_len wd css n]; rfl
theorem chF_len (wd : Int) (css : List (List UInt8)) : (chartF wd css).length ≤ 10 := by
  rw [chartF, chG_len]; unfold manyF; split <;> omega
theorem bound_F {B : SV → List UInt8} {wd : Int} {hs : List SV} {n : Nat} (h : goodM (blkF B wd hs n)) : boundC (blkF B wd hs n) := ⟨by have := chF_len (wd % 4) ((hs.take (min n hs.length) ++ List.replicate (n - min n hs.length) (none, 0, 0)).map B); unfold blkF; omega, fun r hr => by have := (h r hr).2.2; omega⟩
theorem bound_nil : boundC [] := ⟨by simp, fun r hr => by cases hr⟩
theorem boundm_F {B : SV → List UInt8} {H : SV → List SV} {q : QD} (hL : goodM (motF B H q).L) (hT : goodM (motF B H q).T) (hR : goodM (motF B H q).R) : boundM (motF B H q) := by
  unfold motF at hL hT hR ⊢
  simp only at hL hT hR
  refine ⟨?_, bound_F hT, ?_⟩
  · show boundC (if _ then _ else _)
    split
    · rename_i h; rw [if_pos h] at hL; exact bound_F hL
    · exact bound_nil
  · show boundC (if _ then _ else _)
    split
    · rename_i h; rw [if_pos h] at hR; exact bound_F hR
    · exact bound_nil
/-- Blocks of a motif that are the call's own. -/
structure MotX (R0 T0 N : Nat) (w : World) (X Y Z : Value) (m : Mot) : Prop where
  L : OwR R0 T0 N w X m.L
  T : OwR R0 T0 N w Y m.T
  R : OwR R0 T0 N w Z m.R
  gL : rowsR m.L
  gT : rowsR m.T
  gR : rowsR m.R
section
variable {R0 T0 N M : Nat} {w w' : World} {X Y Z : Value} {m : Mot} {S : List Nat}
theorem MotX.fr (h : MotX R0 T0 N w X Y Z m) (hf : Fr S w w') (hS : ∀ k ∈ S, k < N) : MotX R0 T0 N w' X Y Z m := ⟨h.L.fr hf hS, h.T.fr hf hS, h.R.fr hf hS, h.gL, h.gT, h.gR⟩
theorem MotX.ext (h : MotX R0 T0 N w X Y Z m) (hf : Fr [] w w') : MotX R0 T0 N w' X Y Z m := h.fr hf (by simp)
theorem MotX.low (h : MotX R0 T0 N w X Y Z m) (hM : M ≤ N) : MotX R0 T0 M w X Y Z m := ⟨h.L.low hM, h.T.low hM, h.R.low hM, h.gL, h.gT, h.gR⟩
theorem MotX.at {l t r : SV} (h : MotX R0 T0 N w (slv l) (slv t) (slv r) m) : MotAt w m l t r := ⟨h.L.sll, h.T.sll, h.R.sll, h.gL, h.gT, h.gR⟩
end
def PcsX (R0 T0 N : Nat) (w : World) (qs : List PQ) : Prop := ∀ q ∈ qs, MotX R0 T0 N w (slv q.l) (slv q.t) (slv q.r) q.p.mot
section
variable {R0 T0 N M : Nat} {w w' : World} {qs : List PQ} {S : List Nat}
theorem PcsX.fr (h : PcsX R0 T0 N w qs) (hf : Fr S w w') (hS : ∀ k ∈ S, k < N) : PcsX R0 T0 N w' qs := fun q hq => (h q hq).fr hf hS
theorem PcsX.ext (h : PcsX R0 T0 N w qs) (hf : Fr [] w w') : PcsX R0 T0 N w' qs := fun q hq => (h q hq).ext hf
theorem PcsX.low (h : PcsX R0 T0 N w qs) (hM : M ≤ N) : PcsX R0 T0 M w qs := fun q hq => (h q hq).low hM
theorem PcsX.nil : PcsX R0 T0 N w [] := fun q hq => by cases hq
theorem PcsX.snoc {q : PQ} (h : PcsX R0 T0 N w qs) (hq : MotX R0 T0 N w (slv q.l) (slv q.t) (slv q.r) q.p.mot) : PcsX R0 T0 N w (qs ++ [q]) := fun x hx => by
  rcases List.mem_append.1 hx with hx | hx
  · exact h x hx
  · rw [List.mem_singleton.1 hx]; exact hq
theorem PcsX.q (h : PcsX R0 T0 N w qs) : PcsQ w qs := fun q hq => (h q hq).at
end
theorem bound_of {R0 T0 N : Nat} {w : World} {B : SV → List UInt8} {H : SV → List SV} {ys : List QD} {qs : List PQ} {n : Nat} (h : PcsO R0 T0 N w qs) (e : pcs qs = garF B H ys n) : ∀ q ∈ qs, boundM q.p.mot := fun q hq => by
  have hp : q.p ∈ pcs qs := List.mem_map.2 ⟨q, hq, rfl⟩
  rw [e] at hp
  obtain ⟨j, -, hj⟩ := List.mem_map.1 hp
  have g := h q hq
  have em : q.p.mot = motF B H (ys.getD j qd0) := by rw [← hj]; rfl
  have a1 := g.gL; have a2 := g.gT; have a3 := g.gR
  rw [em] at a1 a2 a3 ⊢
  exact boundm_F a1 a2 a3
theorem bound_mirs {qs qm : List PQ} (h : ∀ q ∈ qs, boundM q.p.mot) (e : pcs qm = (pcs qs).map mirP) : ∀ q ∈ qm, boundM q.p.mot := fun q hq => by
  have hp : q.p ∈ pcs qm := List.mem_map.2 ⟨q, hq, rfl⟩
  rw [e] at hp
  obtain ⟨p, hp, h2⟩ := List.mem_map.1 hp
  obtain ⟨x, hx, rfl⟩ := List.mem_map.1 hp
  rw [← h2]; exact boundm_mir (h x hx)
end Go.G14
namespace Go.Proofs.YthehggmdcmpjeaaDoor
open Go.Lw Go.G14
theorem co40 : CallOf Tryd.prog 40 := CallOf.mk' Tryd.func40 (by kernel_rfl) (by kernel_rfl)
theorem smir_ok (s : Stitch) (w0 : World) : Rets Tryd.prog 40 #[stV s] w0 fun r w' => r = stV (mirS s) ∧ Fr [] w0 w' := by
 refine we [(0, .agg #[.int .u8 s.k, .int .u8 s.y, .int .i64 s.a, .int .i64 s.b, .bool s.f])] Tryd.func40 rfl Tryd.ntmps40 rfl (.cons rfl .nil) ?_
 refine sr (bx rfl rfl rfl (fun g1 w1 hg1 hb1 q1 z1 => ?_))
 refine al zv100 rfl rfl (fun g2 w2 hg2 hb2 q2 z2 => ?_)
 refine nn (sq (sr (fad rfl fa100_0 rfl ?_)))
 replace hb1 := hb1.ext q2
 refine s_loadB rfl hb1 rfl na87 rfl (eq' rfl rfl rfl (nn ?_))
 refine cd rfl (fun c0 => ?_) (fun c0 => ?_)
 · refine rg (fad rfl fa100_3 rfl (s_loadB rfl hb1 rfl na3 rfl (fad rfl fa100_2 rfl (s_loadB rfl hb1 rfl na3 rfl (fad rfl fa100_4 rfl (s_loadB rfl hb1 rfl na4 rfl (nt' rfl rfl (fad rfl fa100_2 rfl (s_storeB rfl rfl hb1 rfl rfl rfl sz3 (fun w3 hb1 q3 z3 => ?_))))))))))
   replace hb1 : Blk w3 g1 _ [_, _, _, _, _] := hb1
   refine fad rfl fa100_3 rfl (s_storeB rfl rfl hb1 rfl rfl rfl sz3 (fun w4 hb1 q4 z4 => ?_))
   replace hb1 : Blk w4 g1 _ [_, _, _, _, _] := hb1
   refine fad rfl fa100_4 rfl (s_storeB rfl rfl hb1 rfl rfl rfl sz4 (fun w5 hb1 q5 z5 => ?_))
   replace hb1 : Blk w5 g1 _ [_, _, _, _, _] := hb1
   refine kpL [(1, _), (2, _)] (.cons rfl (.cons rfl .nil)) (nl (tn (sr (s_loadBA rfl hb1 ag100 rfl ?_))))
   replace hb2 := ((hb2.fr q3 (by first | (simp; done) | (simp; omega) | (simp [blks]; done) | (simp [blks]; omega))).fr q4 (by first | (simp; done) | (simp; omega) | (simp [blks]; done) | (simp [blks]; omega))).fr q5 (by first | (simp; done) | (simp; omega) | (simp [blks]; done) | (simp [blks]; omega))
   refine s_storeBA (vs := [_, _, _, _, _]) rfl rfl hb2 (by rfl) (by first | (simp [Value.oneCell', S]; done) | exact Enc.one _ _) sz100 (fun w6 hb2 q6 z6 => ?_)
   refine nn (rt (rC Tryd.results40 rfl hb2 ag100  ?_))
   exact ⟨_, rfl, by first | (rw [mirS, if_pos c0]; rfl) | (rw [mirS, if_neg c0]; rfl), (((((q1.next q2).step q3 (by first | (simp; done) | (simp; omega))).step q4 (by first | (simp; done) | (simp; omega))).step q5 (by first | (simp; done) | (simp; omega))).step q6 (by first | (simp; done) | (simp; omega)))⟩
 · refine sk (tn (sr (s_loadBA rfl hb1 ag100 rfl (s_storeBA (vs := [_, _, _, _, _]) rfl rfl hb2 (by rfl) (by first | (simp [Value.oneCell', S]; done) | exact Enc.one _ _) sz100 (fun w7 hb2 q7 z7 => ?_)))))
   refine nn (rt (rC Tryd.results40 rfl hb2 ag100  ?_))
   exact ⟨_, rfl, by first | (rw [mirS, if_pos c0]; rfl) | (rw [mirS, if_neg c0]; rfl), ((q1.next q2).step q7 (by first | (simp; done) | (simp; omega)))⟩
set_option maxHeartbeats 2000000 in
theorem cmir_ok (v : Value) (c : RowL) (w0 : World) (hs : Sll encSt w0 v c) (hB : boundC c) : Rets Tryd.prog 20 #[.agg #[v]] w0 fun r w' => ∃ X, r = .agg #[X] ∧ OwR 61 100 w0.heap.size w' X (mirC c) ∧ Fr [] w0 w' := by
 obtain ⟨rs, hrs, hqr, hrm⟩ := Sll.opn hs
 have hrc : rs.length = c.length := by rw [← hrm, List.length_map]
 have hc32 := hB.1
 obtain ⟨A, cp, rfl, hcc, hM, hA⟩ := id hrs
 clear hA
 unfold maxLen at hM
 refine we [(0, .agg #[.slice A rs.length cp])] Tryd.func20 rfl Tryd.ntmps20 rfl (.cons rfl .nil) ?_
 have hrs0 := hrs
 have hqr0 := hqr
 refine sr (bx rfl rfl rfl (fun g1 w1 hg1 hb1 q1 z1 => ?_))
 refine al zv47 rfl rfl (fun g2 w2 hg2 hb2 q2 z2 => ?_)
 refine nn (sr (fad rfl fa47_0 rfl ?_))
 replace hb1 := hb1.ext q2
 refine s_loadB rfl hb1 rfl na45 rfl (lnS rfl Tryd.underlying45 rfl ?_)
 refine s_makeSlice (m := rs.length) (c := rs.length) (rq0) rfl rfl er45 zv61 rfl (Nat.le_refl _) (by omega) (by unfold maxLen; omega) rfl (fun g11 w3 hg11 hoR q3 z3 => ?_)
 refine s_lit (cs := [_]) (ev1 rfl) bo47 (pok_cons rfl rfl rfl pok_nil) rfl rfl ?_
 refine al zv47 rfl rfl (fun g3 w4 hg3 hb3 q4 z4 => ?_)
 refine s_storeBA (vs := [_]) rfl rfl hb3 (by rfl) (by first | (simp [Value.oneCell', S]; done) | exact Enc.one _ _) sz47 (fun w5 hb3 q5 z5 => ?_)
 refine nn (sq (sr (fad rfl fa47_0 rfl ?_)))
 replace hb1 := (hb1.ext (q3.next q4)).fr q5 (by first | (simp; done) | (simp; omega) | (simp [blks]; done) | (simp [blks]; omega))
 refine s_loadB rfl hb1 rfl na45 rfl (lnS rfl Tryd.underlying45 rfl (mv rfl rfl (nn (bl ?_))))
 replace hb2 := (hb2.ext (q3.next q4)).fr q5 (by first | (simp; done) | (simp; omega) | (simp [blks]; done) | (simp [blks]; omega))
 replace hoR := (hoR.ext q4).fr q5 (by first | (simp; done) | (simp; omega) | (simp [blks]; done) | (simp [blks]; omega) | (intro k hk hb; simp at hk; subst hk; have := hoR.blk _ hb; omega))
 refine lpK (ι := Nat × List RQ) [(2, _), (3, _), (14, _), (15, _)] (fun p => [(16, .int .i64 (p.1 : Int))]) (fun p w' => Fr [] w0 w' ∧ (p.1 ≤ rs.length ∧ p.2.length = p.1) ∧ p.2.map Prod.snd = (rs.take p.1).map (fun q => mirR q.2) ∧ Blk w' g2 47 [.slice none 0 0] ∧ Blk w' g3 47 [(.slice (some ⟨g11, 0, none⟩) rs.length rs.length)] ∧ Lw.Own encRq 61 g11 w' (.slice (some ⟨g11, 0, none⟩) rs.length rs.length) (p.2 ++ List.replicate (rs.length - p.1) rq0) ∧ RwO 100 (g11 + 1) w' p.2) (fun p => rs.length - p.1) (0, []) (.cons rfl (.cons rfl (.cons rfl (.cons rfl (.cons rfl .nil))))) ⟨((((q1.next q2).next q3).next q4).step q5 (by first | (simp; done) | (simp; omega))), ⟨⟨Nat.zero_le _, rfl⟩, rfl, hb2, hb3, hoR, RwO.nil⟩⟩ ?_
 rintro ⟨i, dn⟩ w6 ⟨q6, ⟨⟨hi, hdl⟩, hdm, hb2, hb3, hoR, hwr⟩⟩
 simp only at hi hdl hdm hb2 hb3 hoR hwr
 have z6 := q6.size
 have lt_hb2 := hb2.lt
 have lt_hb3 := hb3.lt
 have hwr0 := hwr
 refine kpC [(2, _), (3, _), (14, _), (15, _), (16, .int .i64 (i : Int))] (.cons rfl (.cons rfl (.cons rfl (.cons rfl (.cons rfl .nil))))) ?_
 refine sr (lt' rfl rfl rfl (nn (sq ?_)))
 refine cd rfl (fun c0 => ?_) (fun c0 => ?_)
 · replace hqr := hqr0.ext q6
   have hrl := sl_len (hqr (rs.getD i rq0) (getD_memS (by omega)))
   have hrM := (hqr (rs.getD i rq0) (getD_memS (by omega))).len_le
   unfold maxLen at hrM
   have hr32 := hB.2 _ (by rw [← hrm]; exact mem_snd (d := rq0) (show i < rs.length by omega))
   refine sk (tn (sq (bl (sr (mv rfl rfl ?_)))))
   replace hrs := hrs0.ext q6
   refine s_idxL (rq0) rfl hrs rfl er45 (by omega) (by omega) nat_of rfl (fun ad19 hc19 => ?_)
   refine s_loadC0 rfl (hc19 _ hrs) na61 rfl (asg rfl rfl (asg rfl rfl (nn (sq ?_))))
   intro a h
   refine region_heldP (some 7) (fun wb w' => Fr [] wb w') hmix ?_; intro w7 hq
   have z7 := hq.size
   replace hb2 := hb2.ext hq
   replace hb3 := hb3.ext hq
   replace hoR := hoR.ext hq
   have q7 := hq
   clear hq; have hC : Fr [] w7 w7 := Fr.refl _ _
   have hb2_b := hb2
   have hb3_b := hb3
   have hoR_b := hoR
   refine hd_fieldAddr 0 (by kernel_rfl) (by kernel_rfl) (by kernel_rfl) hC h wn rfl fa47_0 rfl rfl ?_; clear h a; intro a h
   refine hd_loadB 1 (by kernel_rfl) (by kernel_rfl) (by kernel_rfl) hC h wn rfl (fun _ hw => hb3_b.ext hw) rfl na45 rfl rfl ?_; clear h a; intro a h
   refine hd_move 2 (by kernel_rfl) (by kernel_rfl) (by kernel_rfl) hC h wn rfl rfl rfl ?_; clear h a; intro a h
   refine hd_move 3 (by kernel_rfl) (by kernel_rfl) (by kernel_rfl) hC h wn rfl rfl rfl ?_; clear h a; intro a h
   refine hd_lenS 4 (by kernel_rfl) (by kernel_rfl) (by kernel_rfl) hC h wn rfl Tryd.underlying61 rfl rfl ?_; clear h a; intro a h
   refine hd_one 5 (by kernel_rfl) rfl ?_
   refine st_makeSlice (m := (rs.getD i rq0).1.2.1) (c := (rs.getD i rq0).1.2.1) (zeroS) h rfl rfl el61 zv100 rfl (Nat.le_refl _) (by omega) (by unfold maxLen; omega) rfl ?_; clear h a; intro g26 w8 hg26 hoI hq _hz a h
   have z8 := hq.size
   replace hb2 := hb2.ext hq
   replace hb3 := hb3.ext hq
   replace hoR := hoR.ext hq
   replace hC := hC.next hq
   have q8 := hq
   have hl26 : g11 < g26 := by omega
   have hzg26 := _hz
   clear hq _hz
   refine hd_next hC ?_
   refine hd_idxS 6 (by kernel_rfl) (by kernel_rfl) (by kernel_rfl) hC (p := i) h wn rfl rfl er45 (by omega) (by omega) (by omega) rfl rfl ?_; clear h a; intro a h
   refine hd_one 7 (by kernel_rfl) rfl ?_
   refine st_storeO (i := i) ((((some ⟨g26, 0, none⟩, (rs.getD i rq0).1.2.1, (rs.getD i rq0).1.2.1), mirR (rs.getD i rq0).2) : RQ)) h rfl rfl hoR (by simp only [List.length_append, List.length_replicate]; omega) rfl sz61 ?_; clear h a; intro w9 ho_2 hq _hz a h
   rw [show rs.length - i = (rs.length - (i + 1)) + 1 by omega, ← hdl, set_at, hdl] at ho_2
   have z9 := hq.size
   replace hb2 := hb2.fr hq (by first | (simp; done) | (simp; omega) | (simp [blks]; done) | (simp [blks]; omega))
   replace hb3 := hb3.fr hq (by first | (simp; done) | (simp; omega) | (simp [blks]; done) | (simp [blks]; omega))
   replace hoI := hoI.fr hq (by first | (simp; done) | (simp; omega) | (simp [blks]; done) | (simp [blks]; omega))
   have q9 := hq
   clear hq _hz hoR; have hoR := ho_2; clear ho_2
   refine hd_past (by kernel_rfl) ?_
   refine hd_end (by kernel_rfl) ?_
   clear hC hb2_b hb3_b hoR_b
   refine bk (h.sub (L' := [(2, _), (3, _), (4, _), (5, _), (14, _), (15, _), (16, _)]) (.cons rfl (.cons rfl (.cons rfl (.cons rfl (.cons rfl (.cons rfl (.cons rfl .nil)))))))) ?_; clear h a
   refine tn (sr (mv rfl rfl (lnS rfl Tryd.underlying61 rfl (mv rfl rfl (nn (bl ?_))))))
   refine lpK (ι := Nat) [(2, _), (3, _), (4, _), (5, _), (14, _), (15, _), (16, _), (28, _), (29, _)] (fun j => [(30, .int .i64 (j : Int))]) (fun j w' => Fr [g11] w6 w' ∧ j ≤ (rs.getD i rq0).1.2.1 ∧ Blk w' g2 47 [.slice none 0 0] ∧ Blk w' g3 47 [(.slice (some ⟨g11, 0, none⟩) rs.length rs.length)] ∧ Lw.Own encRq 61 g11 w' (.slice (some ⟨g11, 0, none⟩) rs.length rs.length) ((dn ++ [(((some ⟨g26, 0, none⟩, (rs.getD i rq0).1.2.1, (rs.getD i rq0).1.2.1), mirR (rs.getD i rq0).2) : RQ)]) ++ List.replicate (rs.length - (i + 1)) rq0) ∧ Lw.Own encSt 100 g26 w' (.slice (some ⟨g26, 0, none⟩) (rs.getD i rq0).1.2.1 (rs.getD i rq0).1.2.1) (mirTo (rs.getD i rq0).2 j)) (fun j => (rs.getD i rq0).1.2.1 - j) 0 (.cons rfl (.cons rfl (.cons rfl (.cons rfl (.cons rfl (.cons rfl (.cons rfl (.cons rfl (.cons rfl (.cons rfl .nil)))))))))) ⟨((((Fr.refl [g11] _).next q7).next q8).step q9 (by first | (simp; done) | (simp; omega))), ⟨Nat.zero_le _, ⟨hb2, hb3, hoR, by rw [mirTo_zero, ← hrl]; exact hoI⟩⟩⟩ ?_
   rintro j w10 ⟨q10, ⟨hj, ⟨hb2, hb3, hoR, hoI⟩⟩⟩
   have z10 := q10.size
   have lt_hb2 := hb2.lt
   have lt_hb3 := hb3.lt
   refine kpC [(2, _), (3, _), (4, _), (5, _), (14, _), (15, _), (16, _), (28, _), (29, _), (30, _)] (.cons rfl (.cons rfl (.cons rfl (.cons rfl (.cons rfl (.cons rfl (.cons rfl (.cons rfl (.cons rfl (.cons rfl .nil)))))))))) ?_
   have hge : ((dn ++ [(((some ⟨g26, 0, none⟩, (rs.getD i rq0).1.2.1, (rs.getD i rq0).1.2.1), mirR (rs.getD i rq0).2) : RQ)]) ++ List.replicate (rs.length - (i + 1)) rq0).getD i rq0 = (((some ⟨g26, 0, none⟩, (rs.getD i rq0).1.2.1, (rs.getD i rq0).1.2.1), mirR (rs.getD i rq0).2) : RQ) := gd_mid hdl
   have hgl : ((dn ++ [(((some ⟨g26, 0, none⟩, (rs.getD i rq0).1.2.1, (rs.getD i rq0).1.2.1), mirR (rs.getD i rq0).2) : RQ)]) ++ List.replicate (rs.length - (i + 1)) rq0).length = rs.length := by simp only [List.length_append, List.length_cons, List.length_nil, List.length_replicate]; omega
   have hlI := (hoI.blk g26 (by simp [blks])).2
   have hlR := (hoR.blk g11 (by simp [blks])).2
   refine sr (lt' rfl rfl rfl (nn (sq ?_)))
   refine cd rfl (fun c1 => ?_) (fun c1 => ?_)
   · refine sk (tn (sq (bl (sr (mv rfl rfl ?_)))))
     replace hqr := hqr0.ext (q6.step q10 (by first | (simp; done) | (simp; omega)))
     refine s_idxL (zeroS) rfl (hqr (rs.getD i rq0) (getD_memS (by omega))) rfl el61 (by omega) (by omega) nat_of rfl (fun ad33 hc33 => ?_)
     refine s_loadA rfl (hc33 _ (hqr (rs.getD i rq0) (getD_memS (by omega)))) ag100 rfl (al zv100 rfl rfl (fun g7 w11 hg7 hb7 q11 z11 => ?_))
     refine asg rfl rfl (s_storeBA (vs := [_, _, _, _, _]) rfl rfl hb7 (by rfl) (by first | (simp [Value.oneCell', S]; done) | exact Enc.one _ _) sz100 (fun w12 hb7 q12 z12 => ?_))
     refine nn ?_
     replace hb2 := (hb2.ext q11).fr q12 (by first | (simp; done) | (simp; omega) | (simp [blks]; done) | (simp [blks]; omega))
     replace hb3 := (hb3.ext q11).fr q12 (by first | (simp; done) | (simp; omega) | (simp [blks]; done) | (simp [blks]; omega))
     replace hoR := (hoR.ext q11).fr q12 (by first | (simp; done) | (simp; omega) | (simp [blks]; done) | (simp [blks]; omega) | (intro k hk hb; simp at hk; subst hk; have := hoR.blk _ hb; omega))
     replace hoI := (hoI.ext q11).fr q12 (by first | (simp; done) | (simp; omega) | (simp [blks]; done) | (simp [blks]; omega) | (intro k hk hb; simp at hk; subst hk; have := hoI.blk _ hb; omega))
     intro a h
     refine region_heldP (some 13) (fun wb w' => Fr [] wb w') hmix ?_; intro w13 hq
     have z13 := hq.size
     replace hb2 := hb2.ext hq
     replace hb3 := hb3.ext hq
     replace hoR := hoR.ext hq
     replace hoI := hoI.ext hq
     replace hb7 := hb7.ext hq
     have q13 := hq
     clear hq; have hC : Fr [] w13 w13 := Fr.refl _ _
     have hb2_b := hb2
     have hb3_b := hb3
     have hoR_b := hoR
     have hoI_b := hoI
     have hb7_b := hb7
     refine hd_fieldAddr 0 (by kernel_rfl) (by kernel_rfl) (by kernel_rfl) hC h wn rfl fa47_0 rfl rfl ?_; clear h a; intro a h
     refine hd_loadB 1 (by kernel_rfl) (by kernel_rfl) (by kernel_rfl) hC h wn rfl (fun _ hw => hb3_b.ext hw) rfl na45 rfl rfl ?_; clear h a; intro a h
     refine hd_move 2 (by kernel_rfl) (by kernel_rfl) (by kernel_rfl) hC h wn rfl rfl rfl ?_; clear h a; intro a h
     refine hd_idxL (p := i) (rq0) 3 (by kernel_rfl) (by kernel_rfl) (by kernel_rfl) hC h wn rfl hoR.sl rfl er45 (by omega) (by omega) (by omega) rfl rfl ?_; clear h a; intro ad38 hc38 a h
     refine hd_loadC0 4 (by kernel_rfl) (by kernel_rfl) (by kernel_rfl) hC h wn rfl (fun _ hw => hc38 _ (hoR_b.sl.ext hw)) na61 rfl rfl ?_; clear h a; intro a h
     refine hd_move 5 (by kernel_rfl) (by kernel_rfl) (by kernel_rfl) hC h wn rfl rfl rfl ?_; clear h a; intro a h
     refine hd_lenS 6 (by kernel_rfl) (by kernel_rfl) (by kernel_rfl) hC h wn rfl Tryd.underlying61 rfl rfl ?_; clear h a; intro a h
     refine hd_sub 7 (by kernel_rfl) (by kernel_rfl) (by kernel_rfl) hC h wn rfl rfl (by first | exact IntWalk.i64_in _ (by omega) | rfl) rfl rfl ?_; clear h a; intro a h
     refine hd_move 8 (by kernel_rfl) (by kernel_rfl) (by kernel_rfl) hC h wn rfl rfl rfl ?_; clear h a; intro a h
     refine hd_sub 9 (by kernel_rfl) (by kernel_rfl) (by kernel_rfl) hC h wn rfl rfl (by first | exact IntWalk.i64_in _ (by omega) | rfl) rfl rfl ?_; clear h a; intro a h
     refine hd_loadBA 10 (by kernel_rfl) (by kernel_rfl) (by kernel_rfl) hC h wn rfl (fun _ hw => hb7_b.ext hw) ag100 rfl rfl ?_; clear h a; intro a h
     refine hd_one 11 (by kernel_rfl) rfl ?_
     refine st_call h (evs_cons rfl evs_nil) co40 (smir_ok ((rs.getD i rq0).2.getD j zeroS) _) rfl ?_; clear h a; rintro _ w14 ⟨rfl, hq⟩ a h
     have z14 := hq.size
     replace hb2 := hb2.ext hq
     replace hb3 := hb3.ext hq
     replace hoR := hoR.ext hq
     replace hoI := hoI.ext hq
     replace hb7 := hb7.ext hq
     replace hC := hC.next hq
     have q14 := hq
     clear hq
     refine hd_next hC ?_
     refine hd_idxS 12 (by kernel_rfl) (by kernel_rfl) (by kernel_rfl) hC (p := (rs.getD i rq0).1.2.1 - 1 - j) h wn (show ev _ _ = some (.slice (some ⟨g26, 0, none⟩) ((rs.getD i rq0).1.2.1) ((rs.getD i rq0).1.2.1)) by rw [hge]; rfl) rfl el61 (by omega) (by omega) (by omega) rfl rfl ?_; clear h a; intro a h
     refine hd_one 13 (by kernel_rfl) rfl ?_
     refine st_storeO (i := (rs.getD i rq0).1.2.1 - 1 - j) (mirS ((rs.getD i rq0).2.getD j zeroS)) h rfl rfl hoI (by rw [mirTo_len (by omega)]; omega) rfl sz100 ?_; clear h a; intro w15 ho_2 hq _hz a h
     rw [hrl, mirTo_set (by omega)] at ho_2
     rw [← hrl] at ho_2
     have z15 := hq.size
     replace hb2 := hb2.fr hq (by first | (simp; done) | (simp; omega) | (simp [blks]; done) | (simp [blks]; omega))
     replace hb3 := hb3.fr hq (by first | (simp; done) | (simp; omega) | (simp [blks]; done) | (simp [blks]; omega))
     replace hoR := hoR.fr hq (by first | (simp; done) | (simp; omega) | (simp [blks]; done) | (simp [blks]; omega))
     replace hb7 := hb7.fr hq (by first | (simp; done) | (simp; omega) | (simp [blks]; done) | (simp [blks]; omega))
     have q15 := hq
     clear hq _hz hoI; have hoI := ho_2; clear ho_2
     refine hd_past (by kernel_rfl) ?_
     refine hd_end (by kernel_rfl) ?_
     clear hC hb2_b hb3_b hoR_b hoI_b hb7_b
     refine bk (h.sub (L' := [(2, _), (3, _), (4, _), (5, _), (14, _), (15, _), (16, _), (28, _), (29, _), (30, _)]) (.cons rfl (.cons rfl (.cons rfl (.cons rfl (.cons rfl (.cons rfl (.cons rfl (.cons rfl (.cons rfl (.cons rfl .nil))))))))))) ?_; clear h a
     refine bn' (tn (rg (s_add rfl rfl (wi6 (by omega)) rfl (mv rfl rfl (nl ?_)))))
     exact lpE (j + 1) (.cons rfl (.cons rfl (.cons rfl (.cons rfl (.cons rfl (.cons rfl (.cons rfl (.cons rfl (.cons rfl (.cons rfl .nil)))))))))) ⟨(((((((Fr.refl [g11] _).step q10 (by first | (simp; done) | (simp; omega))).next q11).step q12 (by first | (simp; done) | (simp; omega))).next q13).next q14).step q15 (by first | (simp; done) | (simp; omega))), ⟨by omega, ⟨hb2, hb3, hoR, hoI⟩⟩⟩ (by omega)
   · obtain rfl : j = (rs.getD i rq0).1.2.1 := by omega
     refine ex (te (te (xh (bn' (tn (rg (s_add rfl rfl (wi6 (by omega)) rfl (mv rfl rfl (kpL [(2, _), (3, _), (14, _), (15, _), (16, _)] (.cons rfl (.cons rfl (.cons rfl (.cons rfl (.cons rfl .nil))))) (nl ?_))))))))))
     replace hwr := hwr0.fr ((Fr.refl [g11, g2] _).step q10 (by first | (simp; done) | (simp; omega))) (by intro k hk; simp at hk; omega)
     exact lpE ((i + 1, dn ++ [(((some ⟨g26, 0, none⟩, (rs.getD i rq0).1.2.1, (rs.getD i rq0).1.2.1), mirR (rs.getD i rq0).2) : RQ)])) (.cons rfl (.cons rfl (.cons rfl (.cons rfl (.cons rfl .nil))))) ⟨(q6.step q10 (by first | (simp; done) | (simp; omega))), ⟨⟨by simp only; omega, by simp only [List.length_append, List.length_singleton]; omega⟩, by simp only [List.map_append, List.map_singleton]; rw [hdm, take_map _ rs i rq0 (by omega)], hb2, hb3, hoR, hwr.snoc (q := (((some ⟨g26, 0, none⟩, (rs.getD i rq0).1.2.1, (rs.getD i rq0).1.2.1), mirR (rs.getD i rq0).2) : RQ)) (by rw [hrl, mirTo_all] at hoI; rw [← hrl] at hoI; exact hoI.low (by omega))⟩⟩ (by simp only; omega)
 · obtain rfl : i = rs.length := by omega
   rw [Nat.sub_self, List.replicate_zero, List.append_nil] at hoR
   rw [List.take_length, mirC_snd hrm] at hdm
   refine ex (te (te (xh (tn (sr (s_loadBA rfl hb3 ag47 rfl (s_storeBA (vs := [_]) rfl rfl hb2 (by rfl) (by first | (simp [Value.oneCell', S]; done) | exact Enc.one _ _) sz47 (fun w16 hb2 q16 z16 => ?_))))))))
   refine kpL [(2, _)] (.cons rfl .nil) (nn (rt (rC Tryd.results20 rfl hb2 ag47  ?_)))
   replace hoR := hoR.fr q16 (by first | (simp; done) | (simp; omega) | (simp [blks]; done) | (simp [blks]; omega) | (intro k hk hb; simp at hk; subst hk; have := hoR.blk _ hb; omega))
   replace hwr := hwr0.fr ((Fr.refl [g11, g2] _).step q16 (by first | (simp; done) | (simp; omega))) (by intro k hk; simp at hk; omega)
   exact ⟨_, rfl, _, rfl, ⟨dn, by rw [← hdl] at hoR ⊢; exact hoR.low (by omega), hwr.low (by omega), hdm⟩, (q6.step q16 (by first | (simp; done) | (simp; omega)))⟩
end Go.Proofs.YthehggmdcmpjeaaDoor
namespace Go.Proofs.YthehggmdcmpjeaaDoor
open Go.Lw Go.G14
theorem co20 : CallOf Tryd.prog 20 := CallOf.mk' Tryd.func20 (by kernel_rfl) (by kernel_rfl)
theorem co39 : CallOf Tryd.prog 39 := CallOf.mk' Tryd.func39 (by kernel_rfl) (by kernel_rfl)
set_option maxHeartbeats 1000000 in
theorem mmir_ok (m : Mot) (l t r : SV) (w0 : World) (hm : MotAt w0 m l t r) (hB : boundM m) : Rets Tryd.prog 39 #[.agg #[.slice l.1 l.2.1 l.2.2, .slice t.1 t.2.1 t.2.2, .slice r.1 r.2.1 r.2.2]] w0 fun v w' => ∃ l' t' r', v = .agg #[slv l', slv t', slv r'] ∧ MotX 61 100 w0.heap.size w' (slv l') (slv t') (slv r') (mirM m) ∧ Fr [] w0 w' := by
 obtain ⟨hl1, hl2, hl3⟩ := hm.len
 refine we [(0, .agg #[.slice l.1 l.2.1 l.2.2, .slice t.1 t.2.1 t.2.2, .slice r.1 r.2.1 r.2.2])] Tryd.func39 rfl Tryd.ntmps39 rfl (.cons rfl .nil) ?_
 have hm0 := hm
 refine sr (bx rfl rfl rfl (fun g1 w1 hg1 hb1 q1 z1 => ?_))
 refine al zv49 rfl rfl (fun g2 w2 hg2 hb2 q2 z2 => ?_)
 refine nn (sq ?_)
 replace hm := hm0.ext (q1.next q2)
 replace hb1 := hb1.ext q2
 intro a h
 refine region_heldP (some 10) (fun wb w' => Fr [] wb w') hmix ?_; intro w3 hq
 have z3 := hq.size
 replace hm := hm.ext hq
 replace hb1 := hb1.ext hq
 replace hb2 := hb2.ext hq
 have q3 := hq
 clear hq; have hC : Fr [] w3 w3 := Fr.refl _ _
 have hm_b := hm
 have hb1_b := hb1
 have hb2_b := hb2
 refine hd_fieldAddr 0 (by kernel_rfl) (by kernel_rfl) (by kernel_rfl) hC h wn rfl fa49_2 rfl rfl ?_; clear h a; intro a h
 refine hd_loadBP (vs := [_]) 1 (by kernel_rfl) (by kernel_rfl) (by kernel_rfl) hC h wn rfl (fun _ hw => (hb1_b.ext hw)) ag47 rfl rfl rfl ?_; clear h a; intro a h
 refine hd_fieldAddr 3 (by kernel_rfl) (by kernel_rfl) (by kernel_rfl) hC h wn rfl fa49_1 rfl rfl ?_; clear h a; intro a h
 refine hd_loadBP (vs := [_]) 4 (by kernel_rfl) (by kernel_rfl) (by kernel_rfl) hC h wn rfl (fun _ hw => (hb1_b.ext hw)) ag47 rfl rfl rfl ?_; clear h a; intro a h
 refine hd_fieldAddr 6 (by kernel_rfl) (by kernel_rfl) (by kernel_rfl) hC h wn rfl fa49_0 rfl rfl ?_; clear h a; intro a h
 refine hd_loadBP (vs := [_]) 7 (by kernel_rfl) (by kernel_rfl) (by kernel_rfl) hC h wn rfl (fun _ hw => (hb1_b.ext hw)) ag47 rfl rfl rfl ?_; clear h a; intro a h
 refine hd_one 2 (by kernel_rfl) rfl ?_
 refine st_call h (evs_cons rfl evs_nil) co20 (cmir_ok _ m.R _ hm.R hB.2.2) rfl ?_; clear h a; rintro _ w4 ⟨X5, rfl, hX, hq⟩ a h
 have z4 := hq.size
 replace hm := hm.ext hq
 replace hb1 := hb1.ext hq
 replace hb2 := hb2.ext hq
 replace hC := hC.next hq
 have q4 := hq
 obtain ⟨AX, cX, rfl, _⟩ := hX.form
 refine hd_next hC ?_
 refine hd_one 5 (by kernel_rfl) rfl ?_
 refine st_call h (evs_cons rfl evs_nil) co20 (cmir_ok _ m.T _ hm.T hB.2.1) rfl ?_; clear h a; rintro _ w5 ⟨Y8, rfl, hY, hq⟩ a h
 have z5 := hq.size
 replace hm := hm.ext hq
 replace hb1 := hb1.ext hq
 replace hb2 := hb2.ext hq
 replace hX := hX.ext hq
 replace hC := hC.next hq
 have q5 := hq
 obtain ⟨AY, cY, rfl, _⟩ := hY.form
 refine hd_next hC ?_
 refine hd_one 8 (by kernel_rfl) rfl ?_
 refine st_call h (evs_cons rfl evs_nil) co20 (cmir_ok _ m.L _ hm.L hB.1) rfl ?_; clear h a; rintro _ w6 ⟨Z11, rfl, hZ, hq⟩ a h
 have z6 := hq.size
 replace hm := hm.ext hq
 replace hb1 := hb1.ext hq
 replace hb2 := hb2.ext hq
 replace hX := hX.ext hq
 replace hY := hY.ext hq
 replace hC := hC.next hq
 have q6 := hq
 obtain ⟨AZ, cZ, rfl, _⟩ := hZ.form
 refine hd_next hC ?_
 refine hd_lit (cs := [_, _, _]) 9 (by kernel_rfl) (by kernel_rfl) (by kernel_rfl) hC h wn (evs_cons rfl (evs_cons rfl (evs_cons rfl evs_nil))) bo49 (pok_cons rfl rfl rfl (pok_cons rfl rfl rfl (pok_cons rfl rfl rfl pok_nil))) rfl rfl rfl ?_; clear h a; intro a h
 refine hd_one 10 (by kernel_rfl) rfl ?_
 refine st_storeBA h rfl rfl hb2 rfl (by first | (simp [Value.oneCell', S]; done) | exact Enc.one _ _) sz49 ?_; clear h a; intro w7 hbn hq hz a h
 have z7 := hq.size
 replace hb1 := hb1.fr hq (by first | (simp; done) | (simp; omega) | (simp [blks]; done) | (simp [blks]; omega))
 replace hX := hX.fr hq (by first | (simp; done) | (simp; omega) | (simp [blks]; done) | (simp [blks]; omega))
 replace hY := hY.fr hq (by first | (simp; done) | (simp; omega) | (simp [blks]; done) | (simp [blks]; omega))
 replace hZ := hZ.fr hq (by first | (simp; done) | (simp; omega) | (simp [blks]; done) | (simp [blks]; omega))
 have q7 := hq
 clear hb2 hq hz; have hb2 : Blk w7 g2 _ [_, _, _] := hbn; clear hbn
 refine hd_past (by kernel_rfl) ?_
 refine hd_end (by kernel_rfl) ?_
 clear hC hm_b hb1_b hb2_b
 refine bk (h.sub (L' := [(2, _)]) (.cons rfl .nil)) ?_; clear h a
 refine tn (rt (rC Tryd.results39 rfl hb2 ag49  ?_))
 replace hm := hm0.ext ((((((q1.next q2).next q3).next q4).next q5).next q6).step q7 (by first | (simp; done) | (simp; omega)))
 exact ⟨_, rfl, (AX, (mirC m.R).length, cX), (AY, (mirC m.T).length, cY), (AZ, (mirC m.L).length, cZ), rfl, ⟨hX.low (by omega), hY.low (by omega), hZ.low (by omega), rng_mir hm.gR, rng_mir hm.gT, rng_mir hm.gL⟩, ((((((q1.next q2).next q3).next q4).next q5).next q6).step q7 (by first | (simp; done) | (simp; omega)))⟩
theorem onc3 (a b c : SV) : ∀ u ∈ [slv a, slv b, slv c], u.oneCell' = true := by intro u h; simp [slv] at h; rcases h with rfl | rfl | rfl <;> rfl
set_option maxHeartbeats 1000000 in
theorem gmir_ok (nm : List UInt8) (v : Value) (qs : List PQ) (w0 : World) (hs : Sl encPq w0 v qs) (hq : PcsQ w0 qs) (h8 : qs.length ≤ 8) (hB : ∀ q ∈ qs, boundM q.p.mot) : Rets Tryd.prog 17 #[.agg #[S nm, v]] w0 fun r w' => ∃ V qm, r = .agg #[S nm, V] ∧ Lw.Own encPq 51 w0.heap.size w' V qm ∧ PcsX 61 100 w0.heap.size w' qm ∧ pcs qm = (pcs qs).map mirP ∧ Fr [] w0 w' := by
 obtain ⟨A, c, rfl, hcc, hM, hA⟩ := id hs
 clear hA
 unfold maxLen at hM
 refine we [(0, .agg #[S nm, .slice A qs.length c])] Tryd.func17 rfl Tryd.ntmps17 rfl (.cons rfl .nil) ?_
 have hs0 := hs
 have hq0 := hq
 refine sr (bx rfl rfl rfl (fun g1 w1 hg1 hb1 q1 z1 => ?_))
 refine al zv24 rfl rfl (fun g2 w2 hg2 hb2 q2 z2 => ?_)
 refine nn ?_
 refine jn (ι := Nat × Nat) [(1, _), (2, _)] (fun p => [(3, .pointer (some ⟨p.1, 0, none⟩))]) (fun p w' => Fr [] w2 w' ∧ (w0.heap.size ≤ p.2 ∧ g2 < p.1 ∧ g2 < p.2 ∧ p.1 ≠ p.2) ∧ Blk w' g1 24 [S nm, .slice A qs.length c] ∧ Blk w' g2 24 [S [], .slice none 0 0] ∧ Blk w' p.1 24 [S nm, .slice (some ⟨p.2, 0, none⟩) qs.length qs.length] ∧ Lw.Own encPq 51 p.2 w' (.slice (some ⟨p.2, 0, none⟩) qs.length qs.length) (List.replicate qs.length pq0)) (.cons rfl (.cons rfl .nil)) ?_ ?_
 · replace hb1 := hb1.ext q2
   intro a h
   refine region_heldP (some 8) (fun wb w' => Fr [] wb w') hmix ?_; intro w3 hq
   have z3 := hq.size
   replace hb1 := hb1.ext hq
   replace hb2 := hb2.ext hq
   have q3 := hq
   clear hq; have hC : Fr [] w3 w3 := Fr.refl _ _
   have hb1_b := hb1
   have hb2_b := hb2
   refine hd_fieldAddr 0 (by kernel_rfl) (by kernel_rfl) (by kernel_rfl) hC h wn rfl fa24_0 rfl rfl ?_; clear h a; intro a h
   refine hd_loadB 1 (by kernel_rfl) (by kernel_rfl) (by kernel_rfl) hC h wn rfl (fun _ hw => hb1_b.ext hw) rfl na9 rfl rfl ?_; clear h a; intro a h
   refine hd_fieldAddr 2 (by kernel_rfl) (by kernel_rfl) (by kernel_rfl) hC h wn rfl fa24_1 rfl rfl ?_; clear h a; intro a h
   refine hd_loadB 3 (by kernel_rfl) (by kernel_rfl) (by kernel_rfl) hC h wn rfl (fun _ hw => hb1_b.ext hw) rfl na22 rfl rfl ?_; clear h a; intro a h
   refine hd_lenS 4 (by kernel_rfl) (by kernel_rfl) (by kernel_rfl) hC h wn rfl Tryd.underlying22 rfl rfl ?_; clear h a; intro a h
   refine hd_two 5 7 (by kernel_rfl) rfl rfl ?_ ?_
   · refine id ?_
     refine st_makeSlice (m := qs.length) (c := qs.length) (pq0) h rfl rfl el22 zv51 rfl (Nat.le_refl _) (by omega) (by unfold maxLen; omega) rfl ?_; clear h a; intro g11 w4 hg11 hoM hq _hz a h
     have z4 := hq.size
     replace hb1 := hb1.ext hq
     replace hb2 := hb2.ext hq
     replace hC := hC.next hq
     have q4 := hq
     have hzg11 := _hz
     clear hq _hz
     refine hd_next hC ?_
     refine hd_lit (cs := [_, _]) 6 (by kernel_rfl) (by kernel_rfl) (by kernel_rfl) hC h wn (evs_cons rfl (evs_cons rfl evs_nil)) bo24 (pok_cons rfl rfl rfl (pok_cons rfl rfl rfl pok_nil)) rfl rfl rfl ?_; clear h a; intro a h
     refine hd_one 7 (by kernel_rfl) rfl ?_
     refine st_alloc h zv24 rfl rfl ?_; clear h a; intro w5 hb3 hq hz a h
     obtain ⟨g_3, hg⟩ : ∃ g, g = w4.heap.size := ⟨_, rfl⟩; rw [← hg] at hb3 h hz
     have hn__3 : g1 < g_3 := by have := hb1.lt; omega
     have hn__3 : g2 < g_3 := by have := hb2.lt; omega
     have z5 := hq.size
     replace hb1 := hb1.ext hq
     replace hb2 := hb2.ext hq
     replace hoM := hoM.ext hq
     replace hC := hC.next hq
     have q5 := hq
     clear hq
     refine hd_next hC ?_
     refine hd_one 8 (by kernel_rfl) rfl ?_
     refine st_storeBA h rfl rfl hb3 rfl (by first | (simp [Value.oneCell', S]; done) | exact Enc.one _ _ | exact onc3 _ _ _) sz24 ?_; clear h a; intro w6 hbn hq hz a h
     have z6 := hq.size
     replace hb1 := hb1.fr hq (by first | (simp; done) | (simp; omega) | (simp [blks]; done) | (simp [blks]; omega))
     replace hb2 := hb2.fr hq (by first | (simp; done) | (simp; omega) | (simp [blks]; done) | (simp [blks]; omega))
     replace hoM := hoM.fr hq (by first | (simp; done) | (simp; omega) | (simp [blks]; done) | (simp [blks]; omega))
     have q6 := hq
     clear hb3 hq hz; have hb3 : Blk w6 g_3 _ [_, _] := hbn; clear hbn
     refine hd_past (by kernel_rfl) ?_
     refine hd_end (by kernel_rfl) ?_
     clear hC hb1_b hb2_b
     refine bk (h.sub (L' := [(1, _), (2, _), (3, _)]) (.cons rfl (.cons rfl (.cons rfl .nil)))) ?_; clear h a
     exact jE ((g_3, g11)) (.cons rfl (.cons rfl (.cons rfl .nil))) ⟨(((q3.next q4).next q5).step q6 (by first | (simp; done) | (simp; omega))), ⟨⟨by simp only; omega, by simp only; omega, by simp only; omega, by simp only; omega⟩, hb1, hb2, hb3, hoM⟩⟩
   · refine id ?_
     refine st_alloc h zv24 rfl rfl ?_; clear h a; intro w7 hb3 hq hz a h
     obtain ⟨g_3, hg⟩ : ∃ g, g = w3.heap.size := ⟨_, rfl⟩; rw [← hg] at hb3 h hz
     have hn__3 : g1 < g_3 := by have := hb1.lt; omega
     have hn__3 : g2 < g_3 := by have := hb2.lt; omega
     have z7 := hq.size
     replace hb1 := hb1.ext hq
     replace hb2 := hb2.ext hq
     replace hC := hC.next hq
     have q7 := hq
     clear hq
     refine hd_next hC ?_
     refine hd_one 5 (by kernel_rfl) rfl ?_
     refine st_makeSlice (m := qs.length) (c := qs.length) (pq0) h rfl rfl el22 zv51 rfl (Nat.le_refl _) (by omega) (by unfold maxLen; omega) rfl ?_; clear h a; intro g11 w8 hg11 hoM hq _hz a h
     have z8 := hq.size
     replace hb1 := hb1.ext hq
     replace hb2 := hb2.ext hq
     replace hb3 := hb3.ext hq
     replace hC := hC.next hq
     have q8 := hq
     have hzg11 := _hz
     clear hq _hz
     refine hd_next hC ?_
     refine hd_lit (cs := [_, _]) 6 (by kernel_rfl) (by kernel_rfl) (by kernel_rfl) hC h wn (evs_cons rfl (evs_cons rfl evs_nil)) bo24 (pok_cons rfl rfl rfl (pok_cons rfl rfl rfl pok_nil)) rfl rfl rfl ?_; clear h a; intro a h
     refine hd_one 8 (by kernel_rfl) rfl ?_
     refine st_storeBA h rfl rfl hb3 rfl (by first | (simp [Value.oneCell', S]; done) | exact Enc.one _ _ | exact onc3 _ _ _) sz24 ?_; clear h a; intro w9 hbn hq hz a h
     have z9 := hq.size
     replace hb1 := hb1.fr hq (by first | (simp; done) | (simp; omega) | (simp [blks]; done) | (simp [blks]; omega))
     replace hb2 := hb2.fr hq (by first | (simp; done) | (simp; omega) | (simp [blks]; done) | (simp [blks]; omega))
     replace hoM := hoM.fr hq (by first | (simp; done) | (simp; omega) | (simp [blks]; done) | (simp [blks]; omega))
     have q9 := hq
     clear hb3 hq hz; have hb3 : Blk w9 g_3 _ [_, _] := hbn; clear hbn
     refine hd_past (by kernel_rfl) ?_
     refine hd_end (by kernel_rfl) ?_
     clear hC hb1_b hb2_b
     refine bk (h.sub (L' := [(1, _), (2, _), (3, _)]) (.cons rfl (.cons rfl (.cons rfl .nil)))) ?_; clear h a
     exact jE ((g_3, g11)) (.cons rfl (.cons rfl (.cons rfl .nil))) ⟨(((q3.next q7).next q8).step q9 (by first | (simp; done) | (simp; omega))), ⟨⟨by simp only; omega, by simp only; omega, by simp only; omega, by simp only; omega⟩, hb1, hb2, hb3, hoM⟩⟩
 · rintro ⟨g3, g11⟩ w10 ⟨q10, ⟨⟨hgw, hg23, hg211, hg311⟩, hb1, hb2, hb3, hoM⟩⟩
   have z10 := q10.size
   have lt_hb1 := hb1.lt
   have lt_hb2 := hb2.lt
   have lt_hb3 := hb3.lt
   refine kpC [(1, _), (2, _), (3, _)] (.cons rfl (.cons rfl (.cons rfl .nil))) ?_
   refine sq (sr (fad rfl fa24_1 rfl (s_loadB rfl hb1 rfl na22 rfl (lnS rfl Tryd.underlying22 rfl (mv rfl rfl (nn (bl ?_)))))))
   refine lpK (ι := Nat × List PQ) [(2, _), (3, _), (14, _), (15, _)] (fun p => [(16, .int .i64 (p.1 : Int))]) (fun p w' => Fr [] w0 w' ∧ (p.1 ≤ qs.length ∧ p.2.length = p.1) ∧ p.2.map PQ.p = (qs.take p.1).map (fun q => mirP q.p) ∧ Blk w' g2 24 [S [], .slice none 0 0] ∧ Blk w' g3 24 [S nm, (.slice (some ⟨g11, 0, none⟩) qs.length qs.length)] ∧ Lw.Own encPq 51 g11 w' (.slice (some ⟨g11, 0, none⟩) qs.length qs.length) (p.2 ++ List.replicate (qs.length - p.1) pq0) ∧ PcsX 61 100 (g11 + 1) w' p.2) (fun p => qs.length - p.1) (0, []) (.cons rfl (.cons rfl (.cons rfl (.cons rfl (.cons rfl .nil))))) ⟨((q1.next q2).next q10), ⟨⟨Nat.zero_le _, rfl⟩, rfl, hb2, hb3, hoM, PcsX.nil⟩⟩ ?_
   rintro ⟨i, dn⟩ w11 ⟨q11, ⟨⟨hi, hdl⟩, hdm, hb2, hb3, hoM, hpx⟩⟩
   simp only at hi hdl hdm hb2 hb3 hoM hpx
   have z11 := q11.size
   have lt_hb2 := hb2.lt
   have lt_hb3 := hb3.lt
   have hpx0 := hpx
   refine kpC [(2, _), (3, _), (14, _), (15, _), (16, .int .i64 (i : Int))] (.cons rfl (.cons rfl (.cons rfl (.cons rfl (.cons rfl .nil))))) ?_
   have hlM := (hoM.blk g11 (by simp [blks])).2
   refine sr (lt' rfl rfl rfl (nn (sq ?_)))
   refine cd rfl (fun c0 => ?_) (fun c0 => ?_)
   · refine sk (tn (sq (bl (sr (mv rfl rfl ?_)))))
     replace hs := hs0.ext q11
     refine s_idxL (pq0) rfl hs rfl el22 (by omega) (by omega) nat_of rfl (fun ad19 hc19 => ?_)
     refine s_loadA rfl (hc19 _ hs) ag51 rfl (al zv51 rfl rfl (fun g5 w12 hg5 hb5 q12 z12 => ?_))
     refine asg rfl rfl (s_storeBA (vs := [_, _, _, _, _, _, _, _]) rfl rfl hb5 (by rfl) (by first | (simp [Value.oneCell', S]; done) | exact Enc.one _ _ | exact onc3 _ _ _) sz51 (fun w13 hb5 q13 z13 => ?_))
     refine nn (sr (fad rfl fa51_1 rfl (s_loadBP (vs := [_, _, _]) rfl hb5 ag49 rfl rfl ?_)))
     replace hq := hq0.ext ((q11.next q12).step q13 (by first | (simp; done) | (simp; omega)))
     refine cl (ev1 rfl) co39 (mmir_ok (qs.getD i pq0).p.mot _ _ _ _ (hq.at (by omega)) (hB _ (getD_memS (by omega)))) rfl ?_
     rintro _ w14 ⟨l2, t2, r2, rfl, hX, q14⟩
     have z14 := q14.size
     have hX0 := hX
     refine fad rfl fa51_1 rfl ?_
     replace hb5 := hb5.ext q14
     refine s_storeBP (cs' := [_, _, _, _, _, _, _, _]) rfl rfl hb5 rfl (by first | (simp [Value.oneCell', S]; done) | exact Enc.one _ _ | exact onc3 _ _ _) sz49 rfl (fun w15 hb5 q15 z15 => ?_)
     refine nn (rg (fad rfl fa24_1 rfl ?_))
     replace hb3 := (((hb3.ext q12).fr q13 (by first | (simp; done) | (simp; omega) | (simp [blks]; done) | (simp [blks]; omega))).ext q14).fr q15 (by first | (simp; done) | (simp; omega) | (simp [blks]; done) | (simp [blks]; omega))
     refine s_loadB rfl hb3 rfl na22 rfl (mv rfl rfl (s_loadBA rfl hb5 ag51 rfl ?_))
     replace hoM := (((hoM.ext q12).fr q13 (by first | (simp; done) | (simp; omega) | (simp [blks]; done) | (simp [blks]; omega) | (intro k hk hb; simp at hk; subst hk; have := hoM.blk _ hb; omega))).ext q14).fr q15 (by first | (simp; done) | (simp; omega) | (simp [blks]; done) | (simp [blks]; omega) | (intro k hk hb; simp at hk; subst hk; have := hoM.blk _ hb; omega))
     refine s_ixs (p := i) ((⟨mirP (qs.getD i pq0).p, l2, t2, r2⟩ : PQ)) rfl hoM rfl rfl (by intro e; cases e) el22 sz51 rfl (by omega) (by first | omega | (simp only [List.length_append, List.length_replicate, List.length_cons, List.length_nil]; omega)) (by omega) rfl rfl (fun w16 hoM q16 z16 => ?_)
     replace q16 : Fr [g11] _ _ := q16
     rw [show qs.length - i = (qs.length - (i + 1)) + 1 by omega, ← hdl, set_at, hdl] at hoM
     refine kpL [(2, _), (3, _), (14, _), (15, _), (16, _)] (.cons rfl (.cons rfl (.cons rfl (.cons rfl (.cons rfl .nil))))) (nl (bn' (tn (rg (s_add rfl rfl (wi6 (by omega)) rfl (mv rfl rfl (nl ?_)))))))
     replace hb2 := ((((hb2.ext q12).fr q13 (by first | (simp; done) | (simp; omega) | (simp [blks]; done) | (simp [blks]; omega))).ext q14).fr q15 (by first | (simp; done) | (simp; omega) | (simp [blks]; done) | (simp [blks]; omega))).fr q16 (by first | (simp; done) | (simp; omega) | (simp [blks]; done) | (simp [blks]; omega))
     replace hb3 := hb3.fr q16 (by first | (simp; done) | (simp; omega) | (simp [blks]; done) | (simp [blks]; omega))
     replace hpx := hpx0.fr ((((((Fr.refl [g11, g2] _).next q12).step q13 (by first | (simp; done) | (simp; omega))).next q14).step q15 (by first | (simp; done) | (simp; omega))).step q16 (by first | (simp; done) | (simp; omega))) (by intro k hk; simp at hk; omega)
     replace hX := hX0.fr (((Fr.refl [g5, g11] _).step q15 (by first | (simp; done) | (simp; omega))).step q16 (by first | (simp; done) | (simp; omega))) (by intro k hk; simp at hk; omega)
     exact lpE ((i + 1, dn ++ [(⟨mirP (qs.getD i pq0).p, l2, t2, r2⟩ : PQ)])) (.cons rfl (.cons rfl (.cons rfl (.cons rfl (.cons rfl .nil))))) ⟨(((((q11.next q12).step q13 (by first | (simp; done) | (simp; omega))).next q14).step q15 (by first | (simp; done) | (simp; omega))).step q16 (by first | (simp; done) | (simp; omega))), ⟨⟨by simp only; omega, by simp only [List.length_append, List.length_singleton]; omega⟩, by simp only [List.map_append, List.map_singleton]; rw [hdm, take_map _ qs i pq0 (by omega)], hb2, hb3, hoM, hpx.snoc (q := (⟨mirP (qs.getD i pq0).p, l2, t2, r2⟩ : PQ)) (hX.low (by omega))⟩⟩ (by simp only; omega)
   · obtain rfl : i = qs.length := by omega
     rw [Nat.sub_self, List.replicate_zero, List.append_nil] at hoM
     rw [List.take_length] at hdm
     refine ex (te (te (xh (tn (sr (s_loadBA rfl hb3 ag24 rfl (s_storeBA (vs := [_, _]) rfl rfl hb2 (by rfl) (by first | (simp [Value.oneCell', S]; done) | exact Enc.one _ _ | exact onc3 _ _ _) sz24 (fun w17 hb2 q17 z17 => ?_))))))))
     refine kpL [(2, _)] (.cons rfl .nil) (nn (rt (rC Tryd.results17 rfl hb2 ag24  ?_)))
     replace hoM := hoM.fr q17 (by first | (simp; done) | (simp; omega) | (simp [blks]; done) | (simp [blks]; omega) | (intro k hk hb; simp at hk; subst hk; have := hoM.blk _ hb; omega))
     replace hpx := hpx0.fr ((Fr.refl [g11, g2] _).step q17 (by first | (simp; done) | (simp; omega))) (by intro k hk; simp at hk; omega)
     exact ⟨_, rfl, _, dn, rfl, hoM.low (by omega), hpx.low (by omega), (by rw [show pcs dn = dn.map PQ.p from rfl, hdm, show pcs qs = qs.map PQ.p from rfl, List.map_map]; rfl), (q11.step q17 (by first | (simp; done) | (simp; omega)))⟩
theorem pcs_p {qs qx : List PQ} (h : pcs qs = pcs qx) (i : Nat) : (qs.getD i pq0).p = (qx.getD i pq0).p := by rw [← pcs_get, ← pcs_get, h]
theorem pcs_ln {qs qx : List PQ} (h : pcs qs = pcs qx) : qx.length = qs.length := by rw [← pcs_len, ← h, pcs_len]
def ndL (nm : List UInt8) (ps : List Pc) (size : Int) : List Int := if makeE nm ps size = 0 then needL ps size else []
theorem gneeds2_ok (nm : List UInt8) (v : Value) (qs : List PQ) (size : Int) (w0 : World) (hs : Sl encPq w0 v qs) (hq : PcsQ w0 qs) : Rets Tryd.prog 9 #[.agg #[S nm, v], .int .i64 size] w0 fun r w' => ∃ V, r = .tuple #[V, .int .i64 (makeE nm (pcs qs) size)] ∧ Lw.Own Enc.i64 67 w0.heap.size w' V (ndL nm (pcs qs) size) ∧ Fr [] w0 w' := by
  refine (gneeds_ok nm v qs size w0 hs hq).mono ?_
  rintro r w' ⟨V, rfl, h1, h2, h3⟩
  by_cases e : makeE nm (pcs qs) size = 0
  · obtain ⟨-, h4⟩ := h2 e
    exact ⟨V, rfl, by rw [ndL, if_pos e]; exact h4, h3⟩
  · obtain rfl := h1 e
    exact ⟨_, rfl, by rw [ndL, if_neg e]; exact Own.nil _, h3⟩
set_option maxHeartbeats 2000000 in
theorem gdiff_ok (nm : List UInt8) (u v : Value) (qs qx : List PQ) (w0 : World) (hs : Sl encPq w0 u qs) (ht : Sl encPq w0 v qx) (hQ : PcsQ w0 qs) (hX : PcsQ w0 qx) (he : pcs qs = pcs qx) : Rets Tryd.prog 18 #[.agg #[S nm, u], .agg #[S nm, v]] w0 fun r w' => r = .int .i64 0 ∧ Fr [] w0 w' := by
 obtain ⟨A, c, rfl, hcc, hM, hA⟩ := id hs
 clear hA
 unfold maxLen at hM
 obtain ⟨A2, c2_, rfl, hcc2, hM2, hA2⟩ := id ht
 clear hA2
 unfold maxLen at hM2
 have hln := pcs_ln he
 refine we [(0, .agg #[S nm, .slice A qs.length c]), (1, .agg #[S nm, .slice A2 qx.length c2_])] Tryd.func18 rfl Tryd.ntmps18 rfl (.cons rfl (.cons rfl .nil)) ?_
 have hs0 := hs
 have ht0 := ht
 have hQ0 := hQ
 have hX0 := hX
 refine sr (bx rfl rfl rfl (fun g2 w1 hg2 hb2 q1 z1 => ?_))
 refine bx rfl rfl rfl (fun g3 w2 hg3 hb3 q2 z2 => ?_)
 refine asg rfl rfl (nn (sq (sq ?_)))
 refine rbo (r := 21) (L' := [(2, _), (3, _)]) (((nm ≠ nm) ∨ ((qs.length : Int) ≠ (qx.length : Int)))) (.cons rfl (.cons rfl .nil)) ?_ ?_
 · refine fad rfl fa24_0 rfl ?_
   replace hb2 := hb2.ext q2
   refine s_loadB rfl hb2 rfl na9 rfl (fad rfl fa24_0 rfl (s_loadB rfl hb3 rfl na9 rfl (s_nes rfl rfl rfl (mv rfl rfl ?_))))
   refine gs 13 rfl (fun g0 => ?_) (fun g0 => ?_)
   · exact gN rfl rfl rfl (gN rfl rfl rfl (gN rfl rfl rfl (gN rfl rfl rfl (gN rfl rfl rfl (gN rfl rfl rfl (gN rfl rfl rfl (pkt rfl rfl rfl rfl (rbe rfl (by first | exact bt (by omega) | exact bf (by omega) | exact bi (by omega) | exact bn (by omega) | (simp_all; done) | (simp_all; omega)) (.cons rfl (.cons rfl .nil))))))))))
   · refine gY rfl (fad rfl fa24_1 rfl (gY rfl (s_loadB rfl hb2 rfl na22 rfl (gY rfl (lnS rfl Tryd.underlying22 rfl (gY rfl (fad rfl fa24_1 rfl (gY rfl (s_loadB rfl hb3 rfl na22 rfl (gY rfl (lnS rfl Tryd.underlying22 rfl ?_)))))))))))
     exact gY rfl (ne' rfl rfl rfl (pkf rfl rfl rfl rfl (rbe rfl (by first | exact bt (by omega) | exact bf (by omega) | exact bi (by omega) | exact bn (by omega) | (simp_all; done) | (simp_all; omega)) (.cons rfl (.cons rfl .nil)))))
 · refine tn ?_
   refine cd rfl (fun c0 => ?_) (fun c0 => ?_)
   · exfalso; rcases c0 with h | h
     · exact h rfl
     · omega
   · refine sk (tn (sq (sr (asg rfl rfl (nn (bl ?_))))))
     refine lpK (ι := Nat) [(2, _), (3, _)] (fun i => [(5, .int .i64 (i : Int))]) (fun i w' => Fr [] w2 w' ∧ i ≤ qs.length) (fun i => qs.length - i) 0 (.cons rfl (.cons rfl (.cons rfl .nil))) ⟨Fr.refl _ _, Nat.zero_le _⟩ ?_
     rintro i w3 ⟨q3, hi⟩
     have z3 := q3.size
     refine kpC [(2, _), (3, _), (5, _)] (.cons rfl (.cons rfl (.cons rfl .nil))) ?_
     refine sq (sr (mv rfl rfl (fad rfl fa24_1 rfl ?_)))
     replace hb2 := hb2.ext (q2.next q3)
     refine s_loadB rfl hb2 rfl na22 rfl (lnS rfl Tryd.underlying22 rfl (lt' rfl rfl rfl (nn ?_)))
     refine cd rfl (fun c1 => ?_) (fun c1 => ?_)
     · have hpi := pcs_p he i
       refine sk (tn (sq (bl ?_)))
       refine jn (ι := Nat × Nat) [(2, _), (3, _), (5, _)] (fun p => [(6, .pointer (some ⟨p.1, 0, none⟩)), (7, .pointer (some ⟨p.2, 0, none⟩))]) (fun p w' => Fr [] w3 w' ∧ Blk w' p.1 51 [S (qs.getD i pq0).p.nm, .slice (qs.getD i pq0).l.1 (qs.getD i pq0).l.2.1 (qs.getD i pq0).l.2.2, .slice (qs.getD i pq0).t.1 (qs.getD i pq0).t.2.1 (qs.getD i pq0).t.2.2, .slice (qs.getD i pq0).r.1 (qs.getD i pq0).r.2.1 (qs.getD i pq0).r.2.2, .int .i64 (qs.getD i pq0).p.ba, .int .i64 (qs.getD i pq0).p.st, .int .i64 (qs.getD i pq0).p.up, .int .i64 (qs.getD i pq0).p.ct] ∧ Blk w' p.2 51 [S (qx.getD i pq0).p.nm, .slice (qx.getD i pq0).l.1 (qx.getD i pq0).l.2.1 (qx.getD i pq0).l.2.2, .slice (qx.getD i pq0).t.1 (qx.getD i pq0).t.2.1 (qx.getD i pq0).t.2.2, .slice (qx.getD i pq0).r.1 (qx.getD i pq0).r.2.1 (qx.getD i pq0).r.2.2, .int .i64 (qx.getD i pq0).p.ba, .int .i64 (qx.getD i pq0).p.st, .int .i64 (qx.getD i pq0).p.up, .int .i64 (qx.getD i pq0).p.ct]) (.cons rfl (.cons rfl (.cons rfl .nil))) ?_ ?_
       · replace hs := hs0.ext ((q1.next q2).next q3)
         replace ht := ht0.ext ((q1.next q2).next q3)
         replace hb3 := hb3.ext q3
         intro a h
         refine region_heldP (some 13) (fun wb w' => Fr [] wb w') hmix ?_; intro w4 hq
         have z4 := hq.size
         replace hs := hs.ext hq
         replace ht := ht.ext hq
         replace hb2 := hb2.ext hq
         replace hb3 := hb3.ext hq
         have q4 := hq
         clear hq; have hC : Fr [] w4 w4 := Fr.refl _ _
         have hs_b := hs
         have ht_b := ht
         have hb2_b := hb2
         have hb3_b := hb3
         refine hd_fieldAddr 0 (by kernel_rfl) (by kernel_rfl) (by kernel_rfl) hC h wn rfl fa24_1 rfl rfl ?_; clear h a; intro a h
         refine hd_loadB 1 (by kernel_rfl) (by kernel_rfl) (by kernel_rfl) hC h wn rfl (fun _ hw => hb2_b.ext hw) rfl na22 rfl rfl ?_; clear h a; intro a h
         refine hd_move 2 (by kernel_rfl) (by kernel_rfl) (by kernel_rfl) hC h wn rfl rfl rfl ?_; clear h a; intro a h
         refine hd_idxL (pq0) 3 (by kernel_rfl) (by kernel_rfl) (by kernel_rfl) hC h wn rfl hs rfl el22 (by omega) (by omega) rfl rfl rfl ?_; clear h a; intro ad32 hc32 a h
         refine hd_loadA 4 (by kernel_rfl) (by kernel_rfl) (by kernel_rfl) hC h wn rfl (fun _ hw => hc32 _ (hs_b.ext hw)) ag51 rfl rfl ?_; clear h a; intro a h
         refine hd_fieldAddr 5 (by kernel_rfl) (by kernel_rfl) (by kernel_rfl) hC h wn rfl fa24_1 rfl rfl ?_; clear h a; intro a h
         refine hd_loadB 6 (by kernel_rfl) (by kernel_rfl) (by kernel_rfl) hC h wn rfl (fun _ hw => hb3_b.ext hw) rfl na22 rfl rfl ?_; clear h a; intro a h
         refine hd_move 7 (by kernel_rfl) (by kernel_rfl) (by kernel_rfl) hC h wn rfl rfl rfl ?_; clear h a; intro a h
         refine hd_idxL (pq0) 8 (by kernel_rfl) (by kernel_rfl) (by kernel_rfl) hC h wn rfl ht rfl el22 (by omega) (by omega) rfl rfl rfl ?_; clear h a; intro ad37 hc37 a h
         refine hd_loadA 9 (by kernel_rfl) (by kernel_rfl) (by kernel_rfl) hC h wn rfl (fun _ hw => hc37 _ (ht_b.ext hw)) ag51 rfl rfl ?_; clear h a; intro a h
         refine hd_two 10 11 (by kernel_rfl) rfl rfl ?_ ?_
         · refine id ?_
           refine st_alloc h zv51 rfl rfl ?_; clear h a; intro w5 hb6 hq hz a h
           obtain ⟨g_6, hg⟩ : ∃ g, g = w4.heap.size := ⟨_, rfl⟩; rw [← hg] at hb6 h hz
           have hn__6 : g2 < g_6 := by have := hb2.lt; omega
           have hn__6 : g3 < g_6 := by have := hb3.lt; omega
           have z5 := hq.size
           replace hs := hs.ext hq
           replace ht := ht.ext hq
           replace hb2 := hb2.ext hq
           replace hb3 := hb3.ext hq
           replace hC := hC.next hq
           have q5 := hq
           clear hq
           refine hd_next hC ?_
           refine hd_one 11 (by kernel_rfl) rfl ?_
           refine st_alloc h zv51 rfl rfl ?_; clear h a; intro w6 hb7 hq hz a h
           obtain ⟨g_7, hg⟩ : ∃ g, g = w5.heap.size := ⟨_, rfl⟩; rw [← hg] at hb7 h hz
           have hn__7 : g2 < g_7 := by have := hb2.lt; omega
           have hn__7 : g3 < g_7 := by have := hb3.lt; omega
           have hn_6_7 : g_6 < g_7 := by have := hb6.lt; omega
           have z6 := hq.size
           replace hs := hs.ext hq
           replace ht := ht.ext hq
           replace hb2 := hb2.ext hq
           replace hb3 := hb3.ext hq
           replace hb6 := hb6.ext hq
           replace hC := hC.next hq
           have q6 := hq
           clear hq
           refine hd_next hC ?_
           refine hd_one 12 (by kernel_rfl) rfl ?_
           refine st_storeBA h rfl rfl hb6 rfl (by first | (simp [Value.oneCell', S]; done) | exact Enc.one _ _) sz51 ?_; clear h a; intro w7 hbn hq hz a h
           have z7 := hq.size
           replace hb2 := hb2.fr hq (by first | (simp; done) | (simp; omega) | (simp [blks]; done) | (simp [blks]; omega))
           replace hb3 := hb3.fr hq (by first | (simp; done) | (simp; omega) | (simp [blks]; done) | (simp [blks]; omega))
           replace hb7 := hb7.fr hq (by first | (simp; done) | (simp; omega) | (simp [blks]; done) | (simp [blks]; omega))
           replace hC := hC.step hq (by first | (simp; done) | (simp; omega))
           have q7 := hq
           clear hb6 hq hz; have hb6 : Blk w7 g_6 _ [_, _, _, _, _, _, _, _] := hbn; clear hbn
           refine hd_next hC ?_
           refine hd_one 13 (by kernel_rfl) rfl ?_
           refine st_storeBA h rfl rfl hb7 rfl (by first | (simp [Value.oneCell', S]; done) | exact Enc.one _ _) sz51 ?_; clear h a; intro w8 hbn hq hz a h
           have z8 := hq.size
           replace hb2 := hb2.fr hq (by first | (simp; done) | (simp; omega) | (simp [blks]; done) | (simp [blks]; omega))
           replace hb3 := hb3.fr hq (by first | (simp; done) | (simp; omega) | (simp [blks]; done) | (simp [blks]; omega))
           replace hb6 := hb6.fr hq (by first | (simp; done) | (simp; omega) | (simp [blks]; done) | (simp [blks]; omega))
           have q8 := hq
           clear hb7 hq hz; have hb7 : Blk w8 g_7 _ [_, _, _, _, _, _, _, _] := hbn; clear hbn
           refine hd_past (by kernel_rfl) ?_
           refine hd_end (by kernel_rfl) ?_
           clear hC hs_b ht_b hb2_b hb3_b
           refine bk (h.sub (L' := [(2, _), (3, _), (5, _), (6, _), (7, _)]) (.cons rfl (.cons rfl (.cons rfl (.cons rfl (.cons rfl .nil)))))) ?_; clear h a
           exact jE ((g_6, g_7)) (.cons rfl (.cons rfl (.cons rfl (.cons rfl (.cons rfl .nil))))) ⟨((((q4.next q5).next q6).step q7 (by first | (simp; done) | (simp; omega))).step q8 (by first | (simp; done) | (simp; omega))), ⟨hb6, hb7⟩⟩
         · refine id ?_
           refine st_alloc h zv51 rfl rfl ?_; clear h a; intro w9 hb7 hq hz a h
           obtain ⟨g_7, hg⟩ : ∃ g, g = w4.heap.size := ⟨_, rfl⟩; rw [← hg] at hb7 h hz
           have hn__7 : g2 < g_7 := by have := hb2.lt; omega
           have hn__7 : g3 < g_7 := by have := hb3.lt; omega
           have z9 := hq.size
           replace hs := hs.ext hq
           replace ht := ht.ext hq
           replace hb2 := hb2.ext hq
           replace hb3 := hb3.ext hq
           replace hC := hC.next hq
           have q9 := hq
           clear hq
           refine hd_next hC ?_
           refine hd_one 10 (by kernel_rfl) rfl ?_
           refine st_alloc h zv51 rfl rfl ?_; clear h a; intro w10 hb6 hq hz a h
           obtain ⟨g_6, hg⟩ : ∃ g, g = w9.heap.size := ⟨_, rfl⟩; rw [← hg] at hb6 h hz
           have hn__6 : g2 < g_6 := by have := hb2.lt; omega
           have hn__6 : g3 < g_6 := by have := hb3.lt; omega
           have hn_7_6 : g_7 < g_6 := by have := hb7.lt; omega
           have z10 := hq.size
           replace hs := hs.ext hq
           replace ht := ht.ext hq
           replace hb2 := hb2.ext hq
           replace hb3 := hb3.ext hq
           replace hb7 := hb7.ext hq
           replace hC := hC.next hq
           have q10 := hq
           clear hq
           refine hd_next hC ?_
           refine hd_one 12 (by kernel_rfl) rfl ?_
           refine st_storeBA h rfl rfl hb6 rfl (by first | (simp [Value.oneCell', S]; done) | exact Enc.one _ _) sz51 ?_; clear h a; intro w11 hbn hq hz a h
           have z11 := hq.size
           replace hb2 := hb2.fr hq (by first | (simp; done) | (simp; omega) | (simp [blks]; done) | (simp [blks]; omega))
           replace hb3 := hb3.fr hq (by first | (simp; done) | (simp; omega) | (simp [blks]; done) | (simp [blks]; omega))
           replace hb7 := hb7.fr hq (by first | (simp; done) | (simp; omega) | (simp [blks]; done) | (simp [blks]; omega))
           replace hC := hC.step hq (by first | (simp; done) | (simp; omega))
           have q11 := hq
           clear hb6 hq hz; have hb6 : Blk w11 g_6 _ [_, _, _, _, _, _, _, _] := hbn; clear hbn
           refine hd_next hC ?_
           refine hd_one 13 (by kernel_rfl) rfl ?_
           refine st_storeBA h rfl rfl hb7 rfl (by first | (simp [Value.oneCell', S]; done) | exact Enc.one _ _) sz51 ?_; clear h a; intro w12 hbn hq hz a h
           have z12 := hq.size
           replace hb2 := hb2.fr hq (by first | (simp; done) | (simp; omega) | (simp [blks]; done) | (simp [blks]; omega))
           replace hb3 := hb3.fr hq (by first | (simp; done) | (simp; omega) | (simp [blks]; done) | (simp [blks]; omega))
           replace hb6 := hb6.fr hq (by first | (simp; done) | (simp; omega) | (simp [blks]; done) | (simp [blks]; omega))
           have q12 := hq
           clear hb7 hq hz; have hb7 : Blk w12 g_7 _ [_, _, _, _, _, _, _, _] := hbn; clear hbn
           refine hd_past (by kernel_rfl) ?_
           refine hd_end (by kernel_rfl) ?_
           clear hC hs_b ht_b hb2_b hb3_b
           refine bk (h.sub (L' := [(2, _), (3, _), (5, _), (6, _), (7, _)]) (.cons rfl (.cons rfl (.cons rfl (.cons rfl (.cons rfl .nil)))))) ?_; clear h a
           exact jE ((g_6, g_7)) (.cons rfl (.cons rfl (.cons rfl (.cons rfl (.cons rfl .nil))))) ⟨((((q4.next q9).next q10).step q11 (by first | (simp; done) | (simp; omega))).step q12 (by first | (simp; done) | (simp; omega))), ⟨hb6, hb7⟩⟩
       · rintro ⟨g6, g7⟩ w13 ⟨q13, ⟨hb6, hb7⟩⟩
         have z13 := q13.size
         have lt_hb6 := hb6.lt
         have lt_hb7 := hb7.lt
         refine kpC [(2, _), (3, _), (5, _), (6, _), (7, _)] (.cons rfl (.cons rfl (.cons rfl (.cons rfl (.cons rfl .nil))))) ?_
         refine sq ?_
         replace hQ := hQ0.ext (((q1.next q2).next q3).next q13)
         replace hX := hX0.ext (((q1.next q2).next q3).next q13)
         intro a h
         refine region_heldP none (fun wb w' => Fr [] wb w') hmix ?_; intro w14 hq
         have z14 := hq.size
         replace hQ := hQ.ext hq
         replace hX := hX.ext hq
         replace hb6 := hb6.ext hq
         replace hb7 := hb7.ext hq
         have q14 := hq
         clear hq; have hC : Fr [] w14 w14 := Fr.refl _ _
         have hQ_b := hQ
         have hX_b := hX
         have hb6_b := hb6
         have hb7_b := hb7
         refine hd_fieldAddr 0 (by kernel_rfl) (by kernel_rfl) (by kernel_rfl) hC h wn rfl fa51_0 rfl rfl ?_; clear h a; intro a h
         refine hd_loadB 1 (by kernel_rfl) (by kernel_rfl) (by kernel_rfl) hC h wn rfl (fun _ hw => hb6_b.ext hw) rfl na9 rfl rfl ?_; clear h a; intro a h
         refine hd_fieldAddr 2 (by kernel_rfl) (by kernel_rfl) (by kernel_rfl) hC h wn rfl fa51_0 rfl rfl ?_; clear h a; intro a h
         refine hd_loadB 3 (by kernel_rfl) (by kernel_rfl) (by kernel_rfl) hC h wn rfl (fun _ hw => hb7_b.ext hw) rfl na9 rfl rfl ?_; clear h a; intro a h
         refine hd_nes 4 (by kernel_rfl) (by kernel_rfl) (by kernel_rfl) hC h wn rfl rfl rfl rfl ?_; clear h a; intro a h
         refine hd_move 5 (by kernel_rfl) (by kernel_rfl) (by kernel_rfl) hC h wn rfl rfl rfl ?_; clear h a; intro a h
         refine guard_dec (D := 44) h rfl (fun hh => absurd hh (by exact fun e => e (by rw [hpi]))) ?_
         clear h; intro g1 h
         refine hd_fieldAddr 6 (by kernel_rfl) (by kernel_rfl) (by kernel_rfl) hC h (wy rfl) rfl fa51_2 rfl rfl ?_; clear h a; intro a h
         refine hd_loadB 7 (by kernel_rfl) (by kernel_rfl) (by kernel_rfl) hC h (wy rfl) rfl (fun _ hw => hb6_b.ext hw) rfl na3 rfl rfl ?_; clear h a; intro a h
         refine hd_fieldAddr 8 (by kernel_rfl) (by kernel_rfl) (by kernel_rfl) hC h (wy rfl) rfl fa51_2 rfl rfl ?_; clear h a; intro a h
         refine hd_loadB 9 (by kernel_rfl) (by kernel_rfl) (by kernel_rfl) hC h (wy rfl) rfl (fun _ hw => hb7_b.ext hw) rfl na3 rfl rfl ?_; clear h a; intro a h
         refine hd_ne 10 (by kernel_rfl) (by kernel_rfl) (by kernel_rfl) hC h (wy rfl) rfl rfl rfl rfl ?_; clear h a; intro a h
         refine hd_one 11 (by kernel_rfl) rfl ?_
         refine st_pick_f h rfl rfl rfl rfl ?_; clear h a; intro a h
         refine hd_next hC ?_
         refine hd_move 12 (by kernel_rfl) (by kernel_rfl) (by kernel_rfl) hC h wn rfl rfl rfl ?_; clear h a; intro a h
         refine guard_dec (D := 51) h rfl (fun hh => absurd hh (by exact fun e => e (by rw [hpi]))) ?_
         clear h; intro g2 h
         refine hd_fieldAddr 13 (by kernel_rfl) (by kernel_rfl) (by kernel_rfl) hC h (wy rfl) rfl fa51_3 rfl rfl ?_; clear h a; intro a h
         refine hd_loadB 14 (by kernel_rfl) (by kernel_rfl) (by kernel_rfl) hC h (wy rfl) rfl (fun _ hw => hb6_b.ext hw) rfl na3 rfl rfl ?_; clear h a; intro a h
         refine hd_fieldAddr 15 (by kernel_rfl) (by kernel_rfl) (by kernel_rfl) hC h (wy rfl) rfl fa51_3 rfl rfl ?_; clear h a; intro a h
         refine hd_loadB 16 (by kernel_rfl) (by kernel_rfl) (by kernel_rfl) hC h (wy rfl) rfl (fun _ hw => hb7_b.ext hw) rfl na3 rfl rfl ?_; clear h a; intro a h
         refine hd_ne 17 (by kernel_rfl) (by kernel_rfl) (by kernel_rfl) hC h (wy rfl) rfl rfl rfl rfl ?_; clear h a; intro a h
         refine hd_one 18 (by kernel_rfl) rfl ?_
         refine st_pick_f h rfl rfl rfl rfl ?_; clear h a; intro a h
         refine hd_next hC ?_
         refine hd_move 19 (by kernel_rfl) (by kernel_rfl) (by kernel_rfl) hC h wn rfl rfl rfl ?_; clear h a; intro a h
         refine guard_dec (D := 58) h rfl (fun hh => absurd hh (by exact fun e => e (by rw [hpi]))) ?_
         clear h; intro g3 h
         refine hd_fieldAddr 20 (by kernel_rfl) (by kernel_rfl) (by kernel_rfl) hC h (wy rfl) rfl fa51_4 rfl rfl ?_; clear h a; intro a h
         refine hd_loadB 21 (by kernel_rfl) (by kernel_rfl) (by kernel_rfl) hC h (wy rfl) rfl (fun _ hw => hb6_b.ext hw) rfl na3 rfl rfl ?_; clear h a; intro a h
         refine hd_fieldAddr 22 (by kernel_rfl) (by kernel_rfl) (by kernel_rfl) hC h (wy rfl) rfl fa51_4 rfl rfl ?_; clear h a; intro a h
         refine hd_loadB 23 (by kernel_rfl) (by kernel_rfl) (by kernel_rfl) hC h (wy rfl) rfl (fun _ hw => hb7_b.ext hw) rfl na3 rfl rfl ?_; clear h a; intro a h
         refine hd_ne 24 (by kernel_rfl) (by kernel_rfl) (by kernel_rfl) hC h (wy rfl) rfl rfl rfl rfl ?_; clear h a; intro a h
         refine hd_one 25 (by kernel_rfl) rfl ?_
         refine st_pick_f h rfl rfl rfl rfl ?_; clear h a; intro a h
         refine hd_next hC ?_
         refine hd_move 26 (by kernel_rfl) (by kernel_rfl) (by kernel_rfl) hC h wn rfl rfl rfl ?_; clear h a; intro a h
         refine guard_dec (D := 65) h rfl (fun hh => absurd hh (by exact fun e => e (by rw [hpi]))) ?_
         clear h; intro g4 h
         refine hd_fieldAddr 27 (by kernel_rfl) (by kernel_rfl) (by kernel_rfl) hC h (wy rfl) rfl fa51_5 rfl rfl ?_; clear h a; intro a h
         refine hd_loadB 28 (by kernel_rfl) (by kernel_rfl) (by kernel_rfl) hC h (wy rfl) rfl (fun _ hw => hb6_b.ext hw) rfl na3 rfl rfl ?_; clear h a; intro a h
         refine hd_fieldAddr 29 (by kernel_rfl) (by kernel_rfl) (by kernel_rfl) hC h (wy rfl) rfl fa51_5 rfl rfl ?_; clear h a; intro a h
         refine hd_loadB 30 (by kernel_rfl) (by kernel_rfl) (by kernel_rfl) hC h (wy rfl) rfl (fun _ hw => hb7_b.ext hw) rfl na3 rfl rfl ?_; clear h a; intro a h
         refine hd_ne 31 (by kernel_rfl) (by kernel_rfl) (by kernel_rfl) hC h (wy rfl) rfl rfl rfl rfl ?_; clear h a; intro a h
         refine hd_one 32 (by kernel_rfl) rfl ?_
         refine st_pick_f h rfl rfl rfl rfl ?_; clear h a; intro a h
         refine hd_next hC ?_
         refine hd_move 33 (by kernel_rfl) (by kernel_rfl) (by kernel_rfl) hC h wn rfl rfl rfl ?_; clear h a; intro a h
         refine guard_dec (D := 72) h rfl (fun hh => absurd hh (by exact fun e => e (by rw [hpi]))) ?_
         clear h; intro g5 h
         refine hd_fieldAddr 34 (by kernel_rfl) (by kernel_rfl) (by kernel_rfl) hC h (wy rfl) rfl fa51_1 rfl rfl ?_; clear h a; intro a h
         refine hd_fad2 35 (by kernel_rfl) (by kernel_rfl) (by kernel_rfl) hC h (wy rfl) rfl fa49_0 rfl rfl ?_; clear h a; intro a h
         refine hd_loadBP (vs := [_]) 36 (by kernel_rfl) (by kernel_rfl) (by kernel_rfl) hC h (wy rfl) rfl (fun _ hw => (hb6_b.ext hw)) ag47 rfl rfl rfl ?_; clear h a; intro a h
         refine hd_fieldAddr 37 (by kernel_rfl) (by kernel_rfl) (by kernel_rfl) hC h (wy rfl) rfl fa51_1 rfl rfl ?_; clear h a; intro a h
         refine hd_fad2 38 (by kernel_rfl) (by kernel_rfl) (by kernel_rfl) hC h (wy rfl) rfl fa49_0 rfl rfl ?_; clear h a; intro a h
         refine hd_loadBP (vs := [_]) 39 (by kernel_rfl) (by kernel_rfl) (by kernel_rfl) hC h (wy rfl) rfl (fun _ hw => (hb7_b.ext hw)) ag47 rfl rfl rfl ?_; clear h a; intro a h
         refine hd_fieldAddr 41 (by kernel_rfl) (by kernel_rfl) (by kernel_rfl) hC h (wy rfl) rfl fa51_1 rfl rfl ?_; clear h a; intro a h
         refine hd_fad2 42 (by kernel_rfl) (by kernel_rfl) (by kernel_rfl) hC h (wy rfl) rfl fa49_1 rfl rfl ?_; clear h a; intro a h
         refine hd_loadBP (vs := [_]) 43 (by kernel_rfl) (by kernel_rfl) (by kernel_rfl) hC h (wy rfl) rfl (fun _ hw => (hb6_b.ext hw)) ag47 rfl rfl rfl ?_; clear h a; intro a h
         refine hd_fieldAddr 44 (by kernel_rfl) (by kernel_rfl) (by kernel_rfl) hC h (wy rfl) rfl fa51_1 rfl rfl ?_; clear h a; intro a h
         refine hd_fad2 45 (by kernel_rfl) (by kernel_rfl) (by kernel_rfl) hC h (wy rfl) rfl fa49_1 rfl rfl ?_; clear h a; intro a h
         refine hd_loadBP (vs := [_]) 46 (by kernel_rfl) (by kernel_rfl) (by kernel_rfl) hC h (wy rfl) rfl (fun _ hw => (hb7_b.ext hw)) ag47 rfl rfl rfl ?_; clear h a; intro a h
         refine hd_fieldAddr 49 (by kernel_rfl) (by kernel_rfl) (by kernel_rfl) hC h (wy rfl) rfl fa51_1 rfl rfl ?_; clear h a; intro a h
         refine hd_fad2 50 (by kernel_rfl) (by kernel_rfl) (by kernel_rfl) hC h (wy rfl) rfl fa49_2 rfl rfl ?_; clear h a; intro a h
         refine hd_loadBP (vs := [_]) 51 (by kernel_rfl) (by kernel_rfl) (by kernel_rfl) hC h (wy rfl) rfl (fun _ hw => (hb6_b.ext hw)) ag47 rfl rfl rfl ?_; clear h a; intro a h
         refine hd_fieldAddr 52 (by kernel_rfl) (by kernel_rfl) (by kernel_rfl) hC h (wy rfl) rfl fa51_1 rfl rfl ?_; clear h a; intro a h
         refine hd_fad2 53 (by kernel_rfl) (by kernel_rfl) (by kernel_rfl) hC h (wy rfl) rfl fa49_2 rfl rfl ?_; clear h a; intro a h
         refine hd_loadBP (vs := [_]) 54 (by kernel_rfl) (by kernel_rfl) (by kernel_rfl) hC h (wy rfl) rfl (fun _ hw => (hb7_b.ext hw)) ag47 rfl rfl rfl ?_; clear h a; intro a h
         refine hd_one 40 (by kernel_rfl) rfl ?_
         refine gd_yes h rfl rfl rfl rfl rfl rfl ?_
         refine st_call h (evs_cons rfl (evs_cons rfl evs_nil)) co19 (differ2_ok _ _ (qs.getD i pq0).p.mot.L (qx.getD i pq0).p.mot.L _ (hQ.at (show i < qs.length by omega)).L (hX.at (show i < qx.length by omega)).L) rfl ?_; clear h a; rintro _ w15 ⟨rfl, hq⟩ a h
         have z15 := hq.size
         replace hQ := hQ.ext hq
         replace hX := hX.ext hq
         replace hb6 := hb6.ext hq
         replace hb7 := hb7.ext hq
         replace hC := hC.next hq
         have q15 := hq
         rw [if_pos (by rw [hpi])] at h
         refine hd_next hC ?_
         refine hd_one 47 (by kernel_rfl) rfl ?_
         refine gd_yes h rfl rfl rfl rfl rfl rfl ?_
         refine st_call h (evs_cons rfl (evs_cons rfl evs_nil)) co19 (differ2_ok _ _ (qs.getD i pq0).p.mot.T (qx.getD i pq0).p.mot.T _ (hQ.at (show i < qs.length by omega)).T (hX.at (show i < qx.length by omega)).T) rfl ?_; clear h a; rintro _ w16 ⟨rfl, hq⟩ a h
         have z16 := hq.size
         replace hQ := hQ.ext hq
         replace hX := hX.ext hq
         replace hb6 := hb6.ext hq
         replace hb7 := hb7.ext hq
         replace hC := hC.next hq
         have q16 := hq
         rw [if_pos (by rw [hpi])] at h
         refine hd_next hC ?_
         refine hd_add 48 (by kernel_rfl) (by kernel_rfl) (by kernel_rfl) hC h (wy rfl) rfl rfl (by first | exact IntWalk.i64_in _ (by omega) | rfl) rfl rfl ?_; clear h a; intro a h
         refine hd_one 55 (by kernel_rfl) rfl ?_
         refine gd_yes h rfl rfl rfl rfl rfl rfl ?_
         refine st_call h (evs_cons rfl (evs_cons rfl evs_nil)) co19 (differ2_ok _ _ (qs.getD i pq0).p.mot.R (qx.getD i pq0).p.mot.R _ (hQ.at (show i < qs.length by omega)).R (hX.at (show i < qx.length by omega)).R) rfl ?_; clear h a; rintro _ w17 ⟨rfl, hq⟩ a h
         have z17 := hq.size
         replace hQ := hQ.ext hq
         replace hX := hX.ext hq
         replace hb6 := hb6.ext hq
         replace hb7 := hb7.ext hq
         replace hC := hC.next hq
         have q17 := hq
         rw [if_pos (by rw [hpi])] at h
         refine hd_next hC ?_
         refine hd_add 56 (by kernel_rfl) (by kernel_rfl) (by kernel_rfl) hC h (wy rfl) rfl rfl (by first | exact IntWalk.i64_in _ (by omega) | rfl) rfl rfl ?_; clear h a; intro a h
         refine hd_ne 57 (by kernel_rfl) (by kernel_rfl) (by kernel_rfl) hC h (wy rfl) rfl rfl rfl rfl ?_; clear h a; intro a h
         refine hd_one 58 (by kernel_rfl) rfl ?_
         refine st_pick_f h rfl rfl rfl rfl ?_; clear h a; intro a h
         refine hd_next hC ?_
         refine hd_end (by kernel_rfl) ?_
         clear hC hQ_b hX_b hb6_b hb7_b
         refine bk (h.sub (L' := [(2, _), (3, _), (5, _), (97, _)]) (.cons rfl (.cons rfl (.cons rfl (.cons rfl .nil))))) ?_; clear h a
         refine tn ?_
         refine cd rfl (fun c2 => ?_) (fun c2 => ?_)
         · exact absurd c2 (by simp)
         · refine sk (bn' (tn (rg (mv rfl rfl (s_add rfl rfl (wi6 (by omega)) rfl (asg rfl rfl (nl ?_)))))))
           exact lpE (i + 1) (.cons rfl (.cons rfl (.cons rfl .nil))) ⟨(((((q3.next q13).next q14).next q15).next q16).next q17), by omega⟩ (by omega)
     · obtain rfl : i = qs.length := by omega
       refine ex (te (te (xh (tn (sr (asg rfl rfl (nn (rt (r1 Tryd.results18 rfl ?_)))))))))
       exact ⟨_, rfl, rfl, ((q1.next q2).next q3)⟩
end Go.Proofs.YthehggmdcmpjeaaDoor
namespace Go.Proofs.YthehggmdcmpjeaaDoor
open Go.Lw Go.G14
theorem co17 : CallOf Tryd.prog 17 := CallOf.mk' Tryd.func17 (by kernel_rfl) (by kernel_rfl)
theorem co18 : CallOf Tryd.prog 18 := CallOf.mk' Tryd.func18 (by kernel_rfl) (by kernel_rfl)
theorem mir_pcs {qs : List PQ} {i : Nat} (h : i < qs.length) : ((pcs qs).map mirP).getD i pc0 = mirP (qs.getD i pq0).p := by
  rw [map_getD mirP (pcs qs) i pc0 pc0 (by rw [pcs_len]; exact h), pcs_get]
theorem chart_bound {nm : List UInt8} {qs : List PQ} {size : Int} (h : makeE nm (pcs qs) size = 0) {i : Nat} (hi : i < qs.length) : boundC (chartP size (qs.getD i pq0).p) := by
  have hp : (qs.getD i pq0).p ∈ pcs qs := List.mem_map.2 ⟨_, getD_memS hi, rfl⟩
  obtain ⟨hg, h0, h9, hc⟩ := make_of h
  have hst := charts_of hc _ hp
  have hm := (gar_of hg).2.2.2.2.1 _ hp
  have hr := (gar_of hg).2.2.2.1 _ hp
  have ht := tiles_rng (size := size) hr h0 h9
  have hu := right_of hr
  have hl : largeB (chartP size (qs.getD i pq0).p) = false := by
    cases e : largeB (chartP size (qs.getD i pq0).p)
    · rfl
    · have := stk_large hm (show ¬ (tiles (qs.getD i pq0).p size < 1 ∨ (qs.getD i pq0).p.up < 1) by omega) e
      omega
  have h4 := large_of hl
  exact ⟨by have := h4.1; omega, fun r hr => by have := h4.2 r hr; omega⟩
set_option maxHeartbeats 4000000 in
theorem law_mirror (nb : Int) (v : Value) (ys : List QD) (w0 : World) (hnb : 0 ≤ nb ∧ nb ≤ 255) (hs : Sl encQd w0 v ys) (hqy : QsAt w0 ys) (hy : Sym w0) : Rets Tryd.prog 5 #[.agg #[.int .u8 nb, v]] w0 fun r w' => r = .bool true ∧ Fr [] w0 w' := by
 obtain ⟨B, H, hB, hH, hqF⟩ := mean_at hqy
 obtain ⟨A, c, rfl, hcc, hM, hA⟩ := id hs
 clear hA
 unfold maxLen at hM
 refine we [(0, .agg #[.int .u8 nb, .slice A ys.length c])] Tryd.func5 rfl Tryd.ntmps5 rfl (.cons rfl .nil) ?_
 have hs0 := hs
 have hqF0 := hqF
 have hy0 := hy
 refine sr (bx rfl rfl rfl (fun g1 w1 hg1 hb1 q1 z1 => ?_))
 refine asg rfl rfl (nn (sr (s_loadBA rfl hb1 ag43 rfl ?_)))
 replace hs := hs0.ext q1
 replace hqF := hqF0.ext q1
 refine cl (ev1 rfl) co16 (gof_ok B H hB hH nb _ ys _ hnb hs hqF) rfl ?_
 rintro _ w2 ⟨V, qs, rfl, hoG, hpo, he1, q2⟩
 have z2 := q2.size
 have hoG0 := hoG
 have hpo0 := hpo
 obtain ⟨AG, cG, rfl, _⟩ := hoG.sl.form
 obtain ⟨nm, hnm⟩ : ∃ n, n = nmF nb := ⟨_, rfl⟩
 rw [← hnm]
 have hgb := bound_of hpo he1
 have hgl : qs.length ≤ 8 := by have e := congrArg List.length he1; rw [pcs_len, garF, List.length_map, List.length_range] at e; unfold manyG at e; omega
 refine al zv24 rfl rfl (fun g3 w3 hg3 hb3 q3 z3 => ?_)
 refine s_storeBA rfl rfl hb3 rfl (by first | (simp [Value.oneCell', S]; done) | exact Enc.one _ _) sz24 (fun w4 hb3 q4 z4 => ?_)
 refine nn (sr (s_loadBA rfl hb3 ag24 rfl ?_))
 replace hoG := hoG0.ext (q3.step q4 (by first | (simp; done) | (simp; omega)))
 replace hpo := hpo0.ext (q3.step q4 (by first | (simp; done) | (simp; omega)))
 refine cl (ev1 rfl) co17 (gmir_ok nm _ qs _ hoG.sl hpo.q hgl hgb) rfl ?_
 rintro _ w5 ⟨V2, qm, rfl, hoM, hpx, he2, q5⟩
 have z5 := q5.size
 have hoM0 := hoM
 have hpx0 := hpx
 obtain ⟨AM, cM, rfl, _⟩ := hoM.sl.form
 have hmb := bound_mirs hgb he2
 have hml : qm.length = qs.length := by have e := congrArg List.length he2; rw [pcs_len, List.length_map, pcs_len] at e; exact e
 refine al zv24 rfl rfl (fun g4 w6 hg4 hb4 q6 z6 => ?_)
 refine s_storeBA rfl rfl hb4 rfl (by first | (simp [Value.oneCell', S]; done) | exact Enc.one _ _) sz24 (fun w7 hb4 q7 z7 => ?_)
 refine nn (sq (sq ?_))
 replace hs := hs0.ext ((((((q1.next q2).next q3).step q4 (by first | (simp; done) | (simp; omega))).next q5).next q6).step q7 (by first | (simp; done) | (simp; omega)))
 replace hqF := hqF0.ext ((((((q1.next q2).next q3).step q4 (by first | (simp; done) | (simp; omega))).next q5).next q6).step q7 (by first | (simp; done) | (simp; omega)))
 replace hb1 := (((hb1.ext (q2.next q3)).fr q4 (by first | (simp; done) | (simp; omega) | (simp [blks]; done) | (simp [blks]; omega))).ext (q5.next q6)).fr q7 (by first | (simp; done) | (simp; omega) | (simp [blks]; done) | (simp [blks]; omega))
 replace hoG := hoG0.ext ((((q3.step q4 (by first | (simp; done) | (simp; omega))).next q5).next q6).step q7 (by first | (simp; done) | (simp; omega)))
 replace hpo := hpo0.ext ((((q3.step q4 (by first | (simp; done) | (simp; omega))).next q5).next q6).step q7 (by first | (simp; done) | (simp; omega)))
 replace hb3 := (hb3.ext (q5.next q6)).fr q7 (by first | (simp; done) | (simp; omega) | (simp [blks]; done) | (simp [blks]; omega))
 replace hoM := hoM0.ext (q6.step q7 (by first | (simp; done) | (simp; omega)))
 replace hpx := hpx0.ext (q6.step q7 (by first | (simp; done) | (simp; omega)))
 intro a h
 refine region_heldP none (fun wb w' => Fr [] wb w') hmix ?_; intro w8 hq
 have z8 := hq.size
 replace hs := hs.ext hq
 replace hqF := hqF.ext hq
 replace hb1 := hb1.ext hq
 replace hoG := hoG.ext hq
 replace hpo := hpo.ext hq
 replace hb3 := hb3.ext hq
 replace hoM := hoM.ext hq
 replace hpx := hpx.ext hq
 replace hb4 := hb4.ext hq
 have q8 := hq
 clear hq; have hC : Fr [] w8 w8 := Fr.refl _ _
 have hs_b := hs
 have hqF_b := hqF
 have hb1_b := hb1
 have hoG_b := hoG
 have hpo_b := hpo
 have hb3_b := hb3
 have hoM_b := hoM
 have hpx_b := hpx
 have hb4_b := hb4
 refine hd_fieldAddr 0 (by kernel_rfl) (by kernel_rfl) (by kernel_rfl) hC h wn rfl fa24_1 rfl rfl ?_; clear h a; intro a h
 refine hd_loadB 1 (by kernel_rfl) (by kernel_rfl) (by kernel_rfl) hC h wn rfl (fun _ hw => hb4_b.ext hw) rfl na22 rfl rfl ?_; clear h a; intro a h
 refine hd_lenS 2 (by kernel_rfl) (by kernel_rfl) (by kernel_rfl) hC h wn rfl Tryd.underlying22 rfl rfl ?_; clear h a; intro a h
 refine hd_fieldAddr 3 (by kernel_rfl) (by kernel_rfl) (by kernel_rfl) hC h wn rfl fa24_1 rfl rfl ?_; clear h a; intro a h
 refine hd_loadB 4 (by kernel_rfl) (by kernel_rfl) (by kernel_rfl) hC h wn rfl (fun _ hw => hb3_b.ext hw) rfl na22 rfl rfl ?_; clear h a; intro a h
 refine hd_lenS 5 (by kernel_rfl) (by kernel_rfl) (by kernel_rfl) hC h wn rfl Tryd.underlying22 rfl rfl ?_; clear h a; intro a h
 refine hd_ne 6 (by kernel_rfl) (by kernel_rfl) (by kernel_rfl) hC h wn rfl rfl rfl rfl ?_; clear h a; intro a h
 refine hd_move 7 (by kernel_rfl) (by kernel_rfl) (by kernel_rfl) hC h wn rfl rfl rfl ?_; clear h a; intro a h
 refine guard_dec (D := 27) h rfl (fun hh => absurd hh (by exact fun e => e (by omega))) ?_
 clear h; intro g0 h
 refine hd_loadBA 8 (by kernel_rfl) (by kernel_rfl) (by kernel_rfl) hC h (wy rfl) rfl (fun _ hw => hb4_b.ext hw) ag24 rfl rfl ?_; clear h a; intro a h
 refine hd_loadBA 10 (by kernel_rfl) (by kernel_rfl) (by kernel_rfl) hC h (wy rfl) rfl (fun _ hw => hb3_b.ext hw) ag24 rfl rfl ?_; clear h a; intro a h
 refine hd_one 9 (by kernel_rfl) rfl ?_
 refine gd_yes h rfl rfl rfl rfl rfl rfl ?_
 refine st_call h (evs_cons rfl evs_nil) co17 (gmir_ok nm _ qm _ hoM.sl hpx.q (by omega) hmb) rfl ?_; clear h a; rintro _ w9 ⟨V3, qz, rfl, ho3, hp3, he3, hq⟩ a h
 have z9 := hq.size
 replace hs := hs.ext hq
 replace hqF := hqF.ext hq
 replace hb1 := hb1.ext hq
 replace hoG := hoG.ext hq
 replace hpo := hpo.ext hq
 replace hb3 := hb3.ext hq
 replace hoM := hoM.ext hq
 replace hpx := hpx.ext hq
 replace hb4 := hb4.ext hq
 replace hC := hC.next hq
 have q9 := hq
 clear hq
 refine hd_next hC ?_
 refine hd_one 11 (by kernel_rfl) rfl ?_
 refine gd_yes h rfl rfl rfl rfl rfl rfl ?_
 refine st_call h (evs_cons rfl (evs_cons rfl evs_nil)) co18 (gdiff_ok nm _ _ qz qs _ ho3.sl hoG.sl hp3.q hpo.q (by rw [he3, he2, List.map_map]; exact (List.map_congr_left fun p _ => mirP_mir p).trans (List.map_id' _))) rfl ?_; clear h a; rintro _ w10 ⟨rfl, hq⟩ a h
 have z10 := hq.size
 replace hs := hs.ext hq
 replace hqF := hqF.ext hq
 replace hb1 := hb1.ext hq
 replace hoG := hoG.ext hq
 replace hpo := hpo.ext hq
 replace hb3 := hb3.ext hq
 replace hoM := hoM.ext hq
 replace hpx := hpx.ext hq
 replace hb4 := hb4.ext hq
 replace ho3 := ho3.ext hq
 replace hp3 := hp3.ext hq
 replace hC := hC.next hq
 have q10 := hq
 clear hq
 refine hd_next hC ?_
 refine hd_ne 12 (by kernel_rfl) (by kernel_rfl) (by kernel_rfl) hC h (wy rfl) rfl rfl rfl rfl ?_; clear h a; intro a h
 refine hd_one 13 (by kernel_rfl) rfl ?_
 refine st_pick_f h rfl rfl rfl rfl ?_; clear h a; intro a h
 refine hd_next hC ?_
 refine hd_move 14 (by kernel_rfl) (by kernel_rfl) (by kernel_rfl) hC h wn rfl rfl rfl ?_; clear h a; intro a h
 refine guard_dec (D := 34) h rfl (fun hh => absurd hh (by exact fun e => e rfl)) ?_
 clear h; intro g1 h
 refine hd_loadBA 15 (by kernel_rfl) (by kernel_rfl) (by kernel_rfl) hC h (wy rfl) rfl (fun _ hw => hb3_b.ext hw) ag24 rfl rfl ?_; clear h a; intro a h
 refine hd_loadBA 16 (by kernel_rfl) (by kernel_rfl) (by kernel_rfl) hC h (wy rfl) rfl (fun _ hw => hb1_b.ext hw) ag43 rfl rfl ?_; clear h a; intro a h
 refine hd_one 17 (by kernel_rfl) rfl ?_
 refine gd_yes h rfl rfl rfl rfl rfl rfl ?_
 refine st_call h (evs_cons rfl evs_nil) co16 (gof_ok B H hB hH nb _ ys _ hnb hs hqF) rfl ?_; clear h a; rintro _ w11 ⟨V5, qw, rfl, ho5, hp5, he5, hq⟩ a h
 have z11 := hq.size
 replace hs := hs.ext hq
 replace hqF := hqF.ext hq
 replace hb1 := hb1.ext hq
 replace hoG := hoG.ext hq
 replace hpo := hpo.ext hq
 replace hb3 := hb3.ext hq
 replace hoM := hoM.ext hq
 replace hpx := hpx.ext hq
 replace hb4 := hb4.ext hq
 replace ho3 := ho3.ext hq
 replace hp3 := hp3.ext hq
 replace hC := hC.next hq
 have q11 := hq
 rw [← hnm] at h
 refine hd_next hC ?_
 refine hd_one 18 (by kernel_rfl) rfl ?_
 refine gd_yes h rfl rfl rfl rfl rfl rfl ?_
 refine st_call h (evs_cons rfl (evs_cons rfl evs_nil)) co18 (gdiff_ok nm _ _ qs qw _ hoG.sl ho5.sl hpo.q hp5.q (he1.trans he5.symm)) rfl ?_; clear h a; rintro _ w12 ⟨rfl, hq⟩ a h
 have z12 := hq.size
 replace hs := hs.ext hq
 replace hqF := hqF.ext hq
 replace hb1 := hb1.ext hq
 replace hoG := hoG.ext hq
 replace hpo := hpo.ext hq
 replace hb3 := hb3.ext hq
 replace hoM := hoM.ext hq
 replace hpx := hpx.ext hq
 replace hb4 := hb4.ext hq
 replace ho3 := ho3.ext hq
 replace hp3 := hp3.ext hq
 replace ho5 := ho5.ext hq
 replace hp5 := hp5.ext hq
 replace hC := hC.next hq
 have q12 := hq
 clear hq
 refine hd_next hC ?_
 refine hd_ne 19 (by kernel_rfl) (by kernel_rfl) (by kernel_rfl) hC h (wy rfl) rfl rfl rfl rfl ?_; clear h a; intro a h
 refine hd_one 20 (by kernel_rfl) rfl ?_
 refine st_pick_f h rfl rfl rfl rfl ?_; clear h a; intro a h
 refine hd_next hC ?_
 refine hd_end (by kernel_rfl) ?_
 clear hC hs_b hqF_b hb1_b hoG_b hpo_b hb3_b hoM_b hpx_b hb4_b
 refine bk (h.sub (L' := [(3, _), (4, _), (40, _)]) (.cons rfl (.cons rfl (.cons rfl .nil)))) ?_; clear h a
 refine tn ?_
 refine cd rfl (fun c0 => ?_) (fun c0 => ?_)
 · exact absurd c0 (by simp)
 · refine sk (tn (sq (sr (asg rfl rfl (nn (bl ?_))))))
   refine lpK (ι := Nat) [(3, _), (4, _)] (fun size => [(5, .int .i64 (size : Int))]) (fun size w' => Fr [] w12 w' ∧ size ≤ 10) (fun size => 10 - size) 0 (.cons rfl (.cons rfl (.cons rfl .nil))) ⟨Fr.refl _ _, Nat.zero_le _⟩ ?_
   rintro size w13 ⟨q13, hsz⟩
   have z13 := q13.size
   refine kpC [(3, _), (4, _), (5, _)] (.cons rfl (.cons rfl (.cons rfl .nil))) ?_
   refine sq (sr (mv rfl rfl (le' rfl rfl rfl (nn ?_))))
   refine cd rfl (fun c1 => ?_) (fun c1 => ?_)
   · refine sk (tn (sq (bl (sr ?_))))
     replace hb3 := hb3.ext q13
     refine s_loadBA rfl hb3 ag24 rfl (mv rfl rfl ?_)
     replace hoG := hoG0.ext ((((((((((q3.step q4 (by first | (simp; done) | (simp; omega))).next q5).next q6).step q7 (by first | (simp; done) | (simp; omega))).next q8).next q9).next q10).next q11).next q12).next q13)
     replace hpo := hpo0.ext ((((((((((q3.step q4 (by first | (simp; done) | (simp; omega))).next q5).next q6).step q7 (by first | (simp; done) | (simp; omega))).next q8).next q9).next q10).next q11).next q12).next q13)
     refine cl (ev2 rfl rfl) co8 (gmake_ok nm _ qs (size : Int) _ hoG.sl hpo.q) rfl ?_
     rintro _ w14 ⟨VA, ia, rfl, hoA, hioA, hna, hta, q14⟩
     have z14 := q14.size
     have hoA0 := hoA
     have hioA0 := hioA
     obtain ⟨AA, cA, rfl, _⟩ := hoA.sl.form
     have hiM := hoA.sl.len_le
     unfold maxLen at hiM
     refine mv rfl rfl (xt rfl rfl rfl (xt rfl rfl rfl (asg rfl rfl (asg rfl rfl (kpL [(3, _), (4, _), (5, _), (6, _), (7, _)] (.cons rfl (.cons rfl (.cons rfl (.cons rfl (.cons rfl .nil))))) (nn (sr ?_)))))))
     replace hb4 := hb4.ext (q13.next q14)
     refine s_loadBA rfl hb4 ag24 rfl (mv rfl rfl ?_)
     replace hoM := hoM0.ext ((((((((q6.step q7 (by first | (simp; done) | (simp; omega))).next q8).next q9).next q10).next q11).next q12).next q13).next q14)
     replace hpx := hpx0.ext ((((((((q6.step q7 (by first | (simp; done) | (simp; omega))).next q8).next q9).next q10).next q11).next q12).next q13).next q14)
     refine cl (ev2 rfl rfl) co8 (gmake_ok nm _ qm (size : Int) _ hoM.sl hpx.q) rfl ?_
     rintro _ w15 ⟨VB, ib, rfl, hoB, hioB, hnb_, htb, q15⟩
     have z15 := q15.size
     have hoB0 := hoB
     have hioB0 := hioB
     obtain ⟨AB, cB, rfl, _⟩ := hoB.sl.form
     have hme : makeE nm (pcs qm) (size : Int) = (makeE nm (pcs qs) (size : Int)) := by rw [he2, mir_makeE]
     rw [hme]
     have hil : ib.length = ia.length := by
       by_cases e : (makeE nm (pcs qs) (size : Int)) = 0
       · have h1 := (hta e).2.1
         have h2 := (htb (hme ▸ e)).2.1
         omega
       · rw [(hna e).2, (hnb_ (fun h => e (hme ▸ h))).2]
     refine mv rfl rfl (xt rfl rfl rfl (xt rfl rfl rfl (asg rfl rfl (asg rfl rfl (kpL [(3, _), (4, _), (5, _), (6, _), (7, _), (8, _), (9, _)] (.cons rfl (.cons rfl (.cons rfl (.cons rfl (.cons rfl (.cons rfl (.cons rfl .nil))))))) (nn (sr ?_)))))))
     replace hb3 := hb3.ext (q14.next q15)
     refine s_loadBA rfl hb3 ag24 rfl (mv rfl rfl ?_)
     replace hoG := hoG0.ext ((((((((((((q3.step q4 (by first | (simp; done) | (simp; omega))).next q5).next q6).step q7 (by first | (simp; done) | (simp; omega))).next q8).next q9).next q10).next q11).next q12).next q13).next q14).next q15)
     replace hpo := hpo0.ext ((((((((((((q3.step q4 (by first | (simp; done) | (simp; omega))).next q5).next q6).step q7 (by first | (simp; done) | (simp; omega))).next q8).next q9).next q10).next q11).next q12).next q13).next q14).next q15)
     refine cl (ev2 rfl rfl) co9 (gneeds2_ok nm _ qs (size : Int) _ hoG.sl hpo.q) rfl ?_
     rintro _ w16 ⟨VP, rfl, hoP_, q16⟩
     have z16 := q16.size
     have hoP_0 := hoP_
     obtain ⟨AP, cP, rfl, _⟩ := hoP_.sl.form
     have hpM := hoP_.sl.len_le
     unfold maxLen at hpM
     refine mv rfl rfl (xt rfl rfl rfl (xt rfl rfl rfl (asg rfl rfl (asg rfl rfl (kpL [(3, _), (4, _), (5, _), (6, _), (7, _), (8, _), (9, _), (10, _)] (.cons rfl (.cons rfl (.cons rfl (.cons rfl (.cons rfl (.cons rfl (.cons rfl (.cons rfl .nil)))))))) (nn (sr ?_)))))))
     replace hb4 := hb4.ext (q15.next q16)
     refine s_loadBA rfl hb4 ag24 rfl (mv rfl rfl ?_)
     replace hoM := hoM0.ext ((((((((((q6.step q7 (by first | (simp; done) | (simp; omega))).next q8).next q9).next q10).next q11).next q12).next q13).next q14).next q15).next q16)
     replace hpx := hpx0.ext ((((((((((q6.step q7 (by first | (simp; done) | (simp; omega))).next q8).next q9).next q10).next q11).next q12).next q13).next q14).next q15).next q16)
     refine cl (ev2 rfl rfl) co9 (gneeds2_ok nm _ qm (size : Int) _ hoM.sl hpx.q) rfl ?_
     rintro _ w17 ⟨VQ, rfl, hoQ_, q17⟩
     have z17 := q17.size
     have hoQ_0 := hoQ_
     rw [hme]
     rw [show ndL nm (pcs qm) (size : Int) = (ndL nm (pcs qs) (size : Int)) by unfold ndL; rw [hme, he2, mir_needL]] at hoQ_
     have hoQ_0 := hoQ_
     obtain ⟨AQ, cQ, rfl, _⟩ := hoQ_.sl.form
     refine mv rfl rfl (xt rfl rfl rfl (xt rfl rfl rfl (asg rfl rfl (asg rfl rfl (kpL [(3, _), (4, _), (5, _), (6, _), (7, _), (8, _), (9, _), (10, _), (12, _)] (.cons rfl (.cons rfl (.cons rfl (.cons rfl (.cons rfl (.cons rfl (.cons rfl (.cons rfl (.cons rfl .nil))))))))) (nn (sq (sq ?_))))))))
     refine rbo (r := 85) (L' := [(3, _), (4, _), (5, _), (6, _), (8, _), (10, _), (12, _)]) (((((makeE nm (pcs qs) (size : Int)) ≠ (makeE nm (pcs qs) (size : Int))) ∨ ((ia.length : Int) ≠ (ib.length : Int))) ∨ (((ndL nm (pcs qs) (size : Int)).length : Int) ≠ ((ndL nm (pcs qs) (size : Int)).length : Int)))) (.cons rfl (.cons rfl (.cons rfl (.cons rfl (.cons rfl (.cons rfl (.cons rfl .nil))))))) ?_ ?_
     · refine mv rfl rfl (mv rfl rfl (ne' rfl rfl rfl (mv rfl rfl ?_)))
       refine gs 72 rfl (fun g2 => ?_) (fun g2 => ?_)
       · refine gN rfl rfl rfl (gN rfl rfl rfl (gN rfl rfl rfl (gN rfl rfl rfl (gN rfl rfl rfl (pkt rfl rfl rfl rfl (mv rfl rfl (gN rfl rfl rfl (gN rfl rfl rfl (gN rfl rfl rfl (gN rfl rfl rfl (gN rfl rfl rfl ?_)))))))))))
         exact pkt rfl rfl rfl rfl (rbe rfl (by first | exact bt (by omega) | exact bf (by omega) | exact bi (by omega) | exact bn (by omega) | (simp_all; done) | (simp_all; omega)) (.cons rfl (.cons rfl (.cons rfl (.cons rfl (.cons rfl (.cons rfl (.cons rfl .nil))))))))
       · refine gY rfl (mv rfl rfl (gY rfl (lnS rfl Tryd.underlying26 rfl (gY rfl (mv rfl rfl (gY rfl (lnS rfl Tryd.underlying26 rfl (gY rfl (ne' rfl rfl rfl (pkf rfl rfl rfl rfl (mv rfl rfl ?_)))))))))))
         refine gs 79 rfl (fun g3 => ?_) (fun g3 => ?_)
         · exact gN rfl rfl rfl (gN rfl rfl rfl (gN rfl rfl rfl (gN rfl rfl rfl (gN rfl rfl rfl (pkt rfl rfl rfl rfl (rbe rfl (by first | exact bt (by omega) | exact bf (by omega) | exact bi (by omega) | exact bn (by omega) | (simp_all; done) | (simp_all; omega)) (.cons rfl (.cons rfl (.cons rfl (.cons rfl (.cons rfl (.cons rfl (.cons rfl .nil)))))))))))))
         · exact gY rfl (mv rfl rfl (gY rfl (lnS rfl Tryd.underlying30 rfl (gY rfl (mv rfl rfl (gY rfl (lnS rfl Tryd.underlying30 rfl (gY rfl (ne' rfl rfl rfl (pkf rfl rfl rfl rfl (rbe rfl (by first | exact bt (by omega) | exact bf (by omega) | exact bi (by omega) | exact bn (by omega) | (simp_all; done) | (simp_all; omega)) (.cons rfl (.cons rfl (.cons rfl (.cons rfl (.cons rfl (.cons rfl (.cons rfl .nil))))))))))))))))))
     · refine tn ?_
       refine cd rfl (fun c2 => ?_) (fun c2 => ?_)
       · exfalso; rcases c2 with (h | h) | h
         · exact h rfl
         · exact h (by omega)
         · exact h rfl
       · refine sk (tn (sq (sr (asg rfl rfl (nn (bl ?_))))))
         refine lpK (ι := Nat) [(3, _), (4, _), (5, _), (6, _), (8, _), (10, _), (12, _)] (fun i => [(14, .int .i64 (i : Int))]) (fun i w' => Fr [] w17 w' ∧ i ≤ ia.length) (fun i => ia.length - i) 0 (.cons rfl (.cons rfl (.cons rfl (.cons rfl (.cons rfl (.cons rfl (.cons rfl (.cons rfl .nil)))))))) ⟨Fr.refl _ _, Nat.zero_le _⟩ ?_
         rintro i w18 ⟨q18, hi⟩
         have z18 := q18.size
         refine kpC [(3, _), (4, _), (5, _), (6, _), (8, _), (10, _), (12, _), (14, _)] (.cons rfl (.cons rfl (.cons rfl (.cons rfl (.cons rfl (.cons rfl (.cons rfl (.cons rfl .nil)))))))) ?_
         refine sq (sr (mv rfl rfl (mv rfl rfl (lnS rfl Tryd.underlying26 rfl (lt' rfl rfl rfl (nn ?_))))))
         refine cd rfl (fun c3 => ?_) (fun c3 => ?_)
         · have hi_ : i < ia.length := by omega
           have hz : (makeE nm (pcs qs) (size : Int)) = 0 := Classical.not_not.1 fun e => by have := (hna e).2; rw [this] at hi_; simp at hi_
           obtain ⟨a1, a2, a3⟩ := (hta hz).2.2 i (by have := (hta hz).2.1; omega)
           obtain ⟨b1, b2, b3⟩ := (htb (hme ▸ hz)).2.2 i (by have := (hta hz).2.1; omega)
           have hpm := pcs_get qm i
           rw [he2, mir_pcs (by have := (hta hz).2.1; omega)] at hpm
           rw [← hpm] at b1 b2 b3
           have hrA : (mirC (ia.getD i iq0).rows) = (ib.getD i iq0).rows := by rw [a3, b3, mir_chartP]
           have hcb : boundC (ia.getD i iq0).rows := by rw [a3]; exact chart_bound hz (by have := (hta hz).2.1; omega)
           refine sk (tn (sq (bl (sq ?_))))
           replace hoA := hoA0.ext (((q15.next q16).next q17).next q18)
           replace hioA := hioA0.ext (((q15.next q16).next q17).next q18)
           replace hoB := hoB0.ext ((q16.next q17).next q18)
           replace hioB := hioB0.ext ((q16.next q17).next q18)
           intro a h
           refine region_heldP none (fun wb w' => Fr [] wb w') hmix ?_; intro w19 hq
           have z19 := hq.size
           replace hoA := hoA.ext hq
           replace hioA := hioA.ext hq
           replace hoB := hoB.ext hq
           replace hioB := hioB.ext hq
           have q19 := hq
           clear hq; have hC : Fr [] w19 w19 := Fr.refl _ _
           have hoA_b := hoA
           have hioA_b := hioA
           have hoB_b := hoB
           have hioB_b := hioB
           refine hd_move 0 (by kernel_rfl) (by kernel_rfl) (by kernel_rfl) hC h wn rfl rfl rfl ?_; clear h a; intro a h
           refine hd_move 1 (by kernel_rfl) (by kernel_rfl) (by kernel_rfl) hC h wn rfl rfl rfl ?_; clear h a; intro a h
           refine hd_idxL (p := i) (iq0) 2 (by kernel_rfl) (by kernel_rfl) (by kernel_rfl) hC h wn rfl hoA.sl rfl el26 (by omega) (by omega) (by omega) rfl rfl ?_; clear h a; intro ad94 hc94 a h
           refine hd_fieldAddr 3 (by kernel_rfl) (by kernel_rfl) (by kernel_rfl) hC h wn rfl fa56_0 rfl rfl ?_; clear h a; intro a h
           refine hd_loadC 4 (by kernel_rfl) (by kernel_rfl) (by kernel_rfl) hC h wn rfl (fun _ hw => hc94 _ (hoA_b.sl.ext hw)) rfl na9 rfl rfl ?_; clear h a; intro a h
           refine hd_move 5 (by kernel_rfl) (by kernel_rfl) (by kernel_rfl) hC h wn rfl rfl rfl ?_; clear h a; intro a h
           refine hd_move 6 (by kernel_rfl) (by kernel_rfl) (by kernel_rfl) hC h wn rfl rfl rfl ?_; clear h a; intro a h
           refine hd_idxL (p := i) (iq0) 7 (by kernel_rfl) (by kernel_rfl) (by kernel_rfl) hC h wn rfl hoB.sl rfl el26 (by omega) (by omega) (by omega) rfl rfl ?_; clear h a; intro ad99 hc99 a h
           refine hd_fieldAddr 8 (by kernel_rfl) (by kernel_rfl) (by kernel_rfl) hC h wn rfl fa56_0 rfl rfl ?_; clear h a; intro a h
           refine hd_loadC 9 (by kernel_rfl) (by kernel_rfl) (by kernel_rfl) hC h wn rfl (fun _ hw => hc99 _ (hoB_b.sl.ext hw)) rfl na9 rfl rfl ?_; clear h a; intro a h
           refine hd_nes 10 (by kernel_rfl) (by kernel_rfl) (by kernel_rfl) hC h wn rfl rfl rfl rfl ?_; clear h a; intro a h
           refine hd_move 11 (by kernel_rfl) (by kernel_rfl) (by kernel_rfl) hC h wn rfl rfl rfl ?_; clear h a; intro a h
           refine guard_dec (D := 103) h rfl (fun hh => absurd hh (by exact fun e => e (by rw [a1, b1]; rfl))) ?_
           clear h; intro g4 h
           refine hd_move 12 (by kernel_rfl) (by kernel_rfl) (by kernel_rfl) hC h (wy rfl) rfl rfl rfl ?_; clear h a; intro a h
           refine hd_move 13 (by kernel_rfl) (by kernel_rfl) (by kernel_rfl) hC h (wy rfl) rfl rfl rfl ?_; clear h a; intro a h
           refine hd_idxL (p := i) (iq0) 14 (by kernel_rfl) (by kernel_rfl) (by kernel_rfl) hC h (wy rfl) rfl hoA.sl rfl el26 (by omega) (by omega) (by omega) rfl rfl ?_; clear h a; intro ad106 hc106 a h
           refine hd_fieldAddr 15 (by kernel_rfl) (by kernel_rfl) (by kernel_rfl) hC h (wy rfl) rfl fa56_2 rfl rfl ?_; clear h a; intro a h
           refine hd_loadC 16 (by kernel_rfl) (by kernel_rfl) (by kernel_rfl) hC h (wy rfl) rfl (fun _ hw => hc106 _ (hoA_b.sl.ext hw)) rfl na3 rfl rfl ?_; clear h a; intro a h
           refine hd_move 17 (by kernel_rfl) (by kernel_rfl) (by kernel_rfl) hC h (wy rfl) rfl rfl rfl ?_; clear h a; intro a h
           refine hd_move 18 (by kernel_rfl) (by kernel_rfl) (by kernel_rfl) hC h (wy rfl) rfl rfl rfl ?_; clear h a; intro a h
           refine hd_idxL (p := i) (iq0) 19 (by kernel_rfl) (by kernel_rfl) (by kernel_rfl) hC h (wy rfl) rfl hoB.sl rfl el26 (by omega) (by omega) (by omega) rfl rfl ?_; clear h a; intro ad111 hc111 a h
           refine hd_fieldAddr 20 (by kernel_rfl) (by kernel_rfl) (by kernel_rfl) hC h (wy rfl) rfl fa56_2 rfl rfl ?_; clear h a; intro a h
           refine hd_loadC 21 (by kernel_rfl) (by kernel_rfl) (by kernel_rfl) hC h (wy rfl) rfl (fun _ hw => hc111 _ (hoB_b.sl.ext hw)) rfl na3 rfl rfl ?_; clear h a; intro a h
           refine hd_ne 22 (by kernel_rfl) (by kernel_rfl) (by kernel_rfl) hC h (wy rfl) rfl rfl rfl rfl ?_; clear h a; intro a h
           refine hd_one 23 (by kernel_rfl) rfl ?_
           refine st_pick_f h rfl rfl rfl rfl ?_; clear h a; intro a h
           refine hd_next hC ?_
           refine hd_move 24 (by kernel_rfl) (by kernel_rfl) (by kernel_rfl) hC h wn rfl rfl rfl ?_; clear h a; intro a h
           refine guard_dec (D := 116) h rfl (fun hh => absurd hh (by exact fun e => e (by rw [a2, b2]; rfl))) ?_
           clear h; intro g5 h
           refine hd_move 25 (by kernel_rfl) (by kernel_rfl) (by kernel_rfl) hC h (wy rfl) rfl rfl rfl ?_; clear h a; intro a h
           refine hd_move 26 (by kernel_rfl) (by kernel_rfl) (by kernel_rfl) hC h (wy rfl) rfl rfl rfl ?_; clear h a; intro a h
           refine hd_idxL (p := i) (iq0) 27 (by kernel_rfl) (by kernel_rfl) (by kernel_rfl) hC h (wy rfl) rfl hoA.sl rfl el26 (by omega) (by omega) (by omega) rfl rfl ?_; clear h a; intro ad119 hc119 a h
           refine hd_fieldAddr 28 (by kernel_rfl) (by kernel_rfl) (by kernel_rfl) hC h (wy rfl) rfl fa56_1 rfl rfl ?_; clear h a; intro a h
           refine hd_loadA 29 (by kernel_rfl) (by kernel_rfl) (by kernel_rfl) hC h (wy rfl) rfl (fun _ hw => cells_part (vs := [_]) (hc119 _ (hoA_b.sl.ext hw)) rfl) ag47 rfl rfl ?_; clear h a; intro a h
           refine hd_move 31 (by kernel_rfl) (by kernel_rfl) (by kernel_rfl) hC h (wy rfl) rfl rfl rfl ?_; clear h a; intro a h
           refine hd_move 32 (by kernel_rfl) (by kernel_rfl) (by kernel_rfl) hC h (wy rfl) rfl rfl rfl ?_; clear h a; intro a h
           refine hd_idxL (p := i) (iq0) 33 (by kernel_rfl) (by kernel_rfl) (by kernel_rfl) hC h (wy rfl) rfl hoB.sl rfl el26 (by omega) (by omega) (by omega) rfl rfl ?_; clear h a; intro ad125 hc125 a h
           refine hd_fieldAddr 34 (by kernel_rfl) (by kernel_rfl) (by kernel_rfl) hC h (wy rfl) rfl fa56_1 rfl rfl ?_; clear h a; intro a h
           refine hd_loadA 35 (by kernel_rfl) (by kernel_rfl) (by kernel_rfl) hC h (wy rfl) rfl (fun _ hw => cells_part (vs := [_]) (hc125 _ (hoB_b.sl.ext hw)) rfl) ag47 rfl rfl ?_; clear h a; intro a h
           refine hd_one 30 (by kernel_rfl) rfl ?_
           refine gd_yes h rfl rfl rfl rfl rfl rfl ?_
           refine st_call h (evs_cons rfl evs_nil) co20 (cmir_ok _ (ia.getD i iq0).rows _ (hioA _ (getD_memS (by omega))).sll hcb) rfl ?_; clear h a; rintro _ w20 ⟨XM, rfl, hXM, hq⟩ a h
           have z20 := hq.size
           replace hoA := hoA.ext hq
           replace hioA := hioA.ext hq
           replace hoB := hoB.ext hq
           replace hioB := hioB.ext hq
           replace hC := hC.next hq
           have q20 := hq
           clear hq
           refine hd_next hC ?_
           refine hd_one 36 (by kernel_rfl) rfl ?_
           refine gd_yes h rfl rfl rfl rfl rfl rfl ?_
           refine st_call h (evs_cons rfl (evs_cons rfl evs_nil)) co19 (differ2_ok _ _ (mirC (ia.getD i iq0).rows) (ib.getD i iq0).rows _ hXM.sll (hioB _ (getD_memS (by omega))).sll) rfl ?_; clear h a; rintro _ w21 ⟨rfl, hq⟩ a h
           have z21 := hq.size
           replace hoA := hoA.ext hq
           replace hioA := hioA.ext hq
           replace hoB := hoB.ext hq
           replace hioB := hioB.ext hq
           replace hXM := hXM.ext hq
           replace hC := hC.next hq
           have q21 := hq
           rw [if_pos hrA] at h
           refine hd_next hC ?_
           refine hd_ne 37 (by kernel_rfl) (by kernel_rfl) (by kernel_rfl) hC h (wy rfl) rfl rfl rfl rfl ?_; clear h a; intro a h
           refine hd_one 38 (by kernel_rfl) rfl ?_
           refine st_pick_f h rfl rfl rfl rfl ?_; clear h a; intro a h
           refine hd_next hC ?_
           refine hd_end (by kernel_rfl) ?_
           clear hC hoA_b hioA_b hoB_b hioB_b
           refine bk (h.sub (L' := [(3, _), (4, _), (5, _), (6, _), (8, _), (10, _), (12, _), (14, _), (130, _)]) (.cons rfl (.cons rfl (.cons rfl (.cons rfl (.cons rfl (.cons rfl (.cons rfl (.cons rfl (.cons rfl .nil)))))))))) ?_; clear h a
           refine tn ?_
           refine cd rfl (fun c4 => ?_) (fun c4 => ?_)
           · exact absurd c4 (by simp)
           · refine sk (bn' (tn (rg (mv rfl rfl (s_add rfl rfl (wi6 (by omega)) rfl (asg rfl rfl (nl ?_)))))))
             exact lpE (i + 1) (.cons rfl (.cons rfl (.cons rfl (.cons rfl (.cons rfl (.cons rfl (.cons rfl (.cons rfl .nil)))))))) ⟨(((q18.next q19).next q20).next q21), by omega⟩ (by omega)
         · obtain rfl : i = ia.length := by omega
           refine ex (te (te (xh (tn (sr (asg rfl rfl (nn (bl ?_))))))))
           refine lpK (ι := Nat) [(3, _), (4, _), (5, _), (10, _), (12, _)] (fun y => [(15, .int .i64 (y : Int))]) (fun y w' => Fr [] w18 w' ∧ y ≤ (ndL nm (pcs qs) (size : Int)).length) (fun y => (ndL nm (pcs qs) (size : Int)).length - y) 0 (.cons rfl (.cons rfl (.cons rfl (.cons rfl (.cons rfl (.cons rfl .nil)))))) ⟨Fr.refl _ _, Nat.zero_le _⟩ ?_
           rintro y w22 ⟨q22, hy⟩
           have z22 := q22.size
           refine kpC [(3, _), (4, _), (5, _), (10, _), (12, _), (15, _)] (.cons rfl (.cons rfl (.cons rfl (.cons rfl (.cons rfl (.cons rfl .nil)))))) ?_
           refine sq (sr (mv rfl rfl (mv rfl rfl (lnS rfl Tryd.underlying30 rfl (lt' rfl rfl rfl (nn ?_))))))
           refine cd rfl (fun c5 => ?_) (fun c5 => ?_)
           · refine sk (tn (sq (bl (sq ?_))))
             replace hs := hs0.ext ((((((((((((((((((q1.next q2).next q3).step q4 (by first | (simp; done) | (simp; omega))).next q5).next q6).step q7 (by first | (simp; done) | (simp; omega))).next q8).next q9).next q10).next q11).next q12).next q13).next q14).next q15).next q16).next q17).next q18).next q22)
             replace hqF := hqF0.ext ((((((((((((((((((q1.next q2).next q3).step q4 (by first | (simp; done) | (simp; omega))).next q5).next q6).step q7 (by first | (simp; done) | (simp; omega))).next q8).next q9).next q10).next q11).next q12).next q13).next q14).next q15).next q16).next q17).next q18).next q22)
             replace hy := hy0.ext ((((((((((((((((((q1.next q2).next q3).step q4 (by first | (simp; done) | (simp; omega))).next q5).next q6).step q7 (by first | (simp; done) | (simp; omega))).next q8).next q9).next q10).next q11).next q12).next q13).next q14).next q15).next q16).next q17).next q18).next q22)
             replace hb1 := hb1.ext ((((((q13.next q14).next q15).next q16).next q17).next q18).next q22)
             replace hoG := hoG0.ext ((((((((((((((((q3.step q4 (by first | (simp; done) | (simp; omega))).next q5).next q6).step q7 (by first | (simp; done) | (simp; omega))).next q8).next q9).next q10).next q11).next q12).next q13).next q14).next q15).next q16).next q17).next q18).next q22)
             replace hpo := hpo0.ext ((((((((((((((((q3.step q4 (by first | (simp; done) | (simp; omega))).next q5).next q6).step q7 (by first | (simp; done) | (simp; omega))).next q8).next q9).next q10).next q11).next q12).next q13).next q14).next q15).next q16).next q17).next q18).next q22)
             replace hb3 := hb3.ext (((q16.next q17).next q18).next q22)
             replace hoM := hoM0.ext (((((((((((((q6.step q7 (by first | (simp; done) | (simp; omega))).next q8).next q9).next q10).next q11).next q12).next q13).next q14).next q15).next q16).next q17).next q18).next q22)
             replace hpx := hpx0.ext (((((((((((((q6.step q7 (by first | (simp; done) | (simp; omega))).next q8).next q9).next q10).next q11).next q12).next q13).next q14).next q15).next q16).next q17).next q18).next q22)
             replace hb4 := hb4.ext ((q17.next q18).next q22)
             replace ho3 := ho3.ext ((((((q13.next q14).next q15).next q16).next q17).next q18).next q22)
             replace hp3 := hp3.ext ((((((q13.next q14).next q15).next q16).next q17).next q18).next q22)
             replace ho5 := ho5.ext ((((((q13.next q14).next q15).next q16).next q17).next q18).next q22)
             replace hp5 := hp5.ext ((((((q13.next q14).next q15).next q16).next q17).next q18).next q22)
             replace hoA := hoA0.ext ((((q15.next q16).next q17).next q18).next q22)
             replace hioA := hioA0.ext ((((q15.next q16).next q17).next q18).next q22)
             replace hoB := hoB0.ext (((q16.next q17).next q18).next q22)
             replace hioB := hioB0.ext (((q16.next q17).next q18).next q22)
             replace hoP_ := hoP_0.ext ((q17.next q18).next q22)
             replace hoQ_ := hoQ_0.ext (q18.next q22)
             intro a h
             refine region_quiet hmix (by kernel_rfl) ?_
             refine qt_move h rfl rfl ?_; clear h a; intro a h
             refine qt_move h rfl rfl ?_; clear h a; intro a h
             refine qt_idxL (p := y) (0) h rfl hoP_.sl rfl el30 (by omega) (by omega) (by omega) rfl ?_; clear h a; intro ad139 hc139 a h
             refine qt_loadC0 h rfl (fun _ hw => hc139 _ (hoP_.sl.ext hw)) na3 rfl ?_; clear h a; intro a h
             refine qt_move h rfl rfl ?_; clear h a; intro a h
             refine qt_move h rfl rfl ?_; clear h a; intro a h
             refine qt_idxL (p := y) (0) h rfl hoQ_.sl rfl el30 (by omega) (by omega) (by omega) rfl ?_; clear h a; intro ad143 hc143 a h
             refine qt_loadC0 h rfl (fun _ hw => hc143 _ (hoQ_.sl.ext hw)) na3 rfl ?_; clear h a; intro a h
             refine qt_ne h rfl rfl rfl ?_; clear h a; intro a h
             refine wpQuiet_nil ?_
             intro w23 q23
             have z23 := q23.size
             refine bk (h.sub (L' := [(3, _), (4, _), (5, _), (10, _), (12, _), (15, _), (145, _)]) (.cons rfl (.cons rfl (.cons rfl (.cons rfl (.cons rfl (.cons rfl (.cons rfl .nil)))))))) ?_; clear h a
             refine tn ?_
             refine cd rfl (fun c6 => ?_) (fun c6 => ?_)
             · exact absurd rfl c6
             · refine sk (bn' (tn (rg (mv rfl rfl (s_add rfl rfl (wi6 (by omega)) rfl (asg rfl rfl (nl ?_)))))))
               exact lpE (y + 1) (.cons rfl (.cons rfl (.cons rfl (.cons rfl (.cons rfl (.cons rfl .nil)))))) ⟨(q22.next q23), by omega⟩ (by omega)
           · obtain rfl : y = (ndL nm (pcs qs) (size : Int)).length := by omega
             refine ex (te (te (xh (bn' (tn (rg (mv rfl rfl (s_add rfl rfl (wi6 (by omega)) rfl (asg rfl rfl (kpL [(3, _), (4, _), (5, _)] (.cons rfl (.cons rfl (.cons rfl .nil))) (nl ?_)))))))))))
             exact lpE (size + 1) (.cons rfl (.cons rfl (.cons rfl .nil))) ⟨((((((q13.next q14).next q15).next q16).next q17).next q18).next q22), by omega⟩ (by omega)
   · obtain rfl : size = 10 := by omega
     refine ex (te (te (xh (tn (sr ?_)))))
     replace hy := hy0.ext ((((((((((((q1.next q2).next q3).step q4 (by first | (simp; done) | (simp; omega))).next q5).next q6).step q7 (by first | (simp; done) | (simp; omega))).next q8).next q9).next q10).next q11).next q12).next q13)
     refine cl evs_nil co14 (lives22_ok _ hy) rfl ?_
     rintro _ w24 ⟨rfl, q24⟩
     have z24 := q24.size
     refine asg rfl rfl (nn (rt (r1 Tryd.results5 rfl ?_)))
     exact ⟨_, rfl, rfl, (((((((((((((q1.next q2).next q3).step q4 (by first | (simp; done) | (simp; omega))).next q5).next q6).step q7 (by first | (simp; done) | (simp; omega))).next q8).next q9).next q10).next q11).next q12).next q13).next q24)⟩
end Go.Proofs.YthehggmdcmpjeaaDoor
