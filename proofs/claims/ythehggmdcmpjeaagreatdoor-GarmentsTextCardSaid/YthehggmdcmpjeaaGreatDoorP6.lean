/- Texts of the proof, joined. -/
import Derived.Test.YthehggmdcmpjeaaGreatDoorRows
import Derived.Lib.ItoaNum
import Derived.Lib.Join
import Derived.Lib.AtoiAll
import Derived.Lib.Split
import Derived.Lib.TrimByte
import Derived.Lib.IndexMore
import Derived.Lib.CountLaws
import Derived.ScopeJumps
import Derived.Lib.LaidTab
import Derived.LaidSub
import Derived.Test.YthehggmdcmpjeaaGreatDoorCards
import Derived.Test.YthehggmdcmpjeaaGreatDoorTie
import Derived.ChangeMaps5
import Derived.Test.YthehggmdcmpjeaaGreatDoorP5
set_option linter.unusedVariables false
set_option linter.unusedSimpArgs false
namespace Go.Proofs.YthehggmdcmpjeaaGreatDoor
open Go.Lw Go.G14
theorem ag74 : AggOf Tryz.prog 74 8 := ⟨fun _ => by kernel_rfl, fun _ => by kernel_rfl⟩
theorem ag77 : AggOf Tryz.prog 77 12 := ⟨fun _ => by kernel_rfl, fun _ => by kernel_rfl⟩
theorem co22 : CallOf Tryz.prog 22 := mkC Tryz.func22
theorem el22 : ElemOf Tryz.prog 22 77 encQd 112 := ElemOf.mk' (z := (.agg #[(.int .u8 0), (.int .u8 0), (.int .u8 0), (.slice none 0 0), (.int .u8 0), (.slice none 0 0), (.int .u8 0), (.slice none 0 0), (.int .u8 0), (.int .u8 0), (.int .u8 0), (.int .u8 0)])) Tryz.underlying22 (by kernel_rfl) rfl
theorem fa24_0 : FieldAt Tryz.prog 24 0 0 := fun _ _ => by kernel_rfl
theorem fa24_1 : FieldAt Tryz.prog 24 1 1 := fun _ _ => by kernel_rfl
theorem fa77_0 : FieldAt Tryz.prog 77 0 0 := fun _ _ => by kernel_rfl
theorem fa77_1 : FieldAt Tryz.prog 77 1 8 := fun _ _ => by kernel_rfl
theorem fa77_2 : FieldAt Tryz.prog 77 2 9 := fun _ _ => by kernel_rfl
theorem fa77_3 : FieldAt Tryz.prog 77 3 10 := fun _ _ => by kernel_rfl
theorem fa77_4 : FieldAt Tryz.prog 77 4 11 := fun _ _ => by kernel_rfl
theorem na22 : NotAgg Tryz.prog 22 := fun _ => by kernel_rfl
theorem sz25 : SizeOf Tryz.prog 25 1 := fun _ => by kernel_rfl
theorem sz77 : SizeOf Tryz.prog 77 12 := fun _ => by kernel_rfl
theorem zv77 (w : World) : (zeroValue 77).run Tryz.prog w = .ok (.agg #[(.int .u8 0), (.int .u8 0), (.int .u8 0), (.slice none 0 0), (.int .u8 0), (.slice none 0 0), (.int .u8 0), (.slice none 0 0), (.int .u8 0), (.int .u8 0), (.int .u8 0), (.int .u8 0)]) w := by kernel_rfl
set_option maxHeartbeats 4000000 in
theorem gof_ok (B : SV → List UInt8) (H : SV → List SV) (hB : B (none, 0, 0) = []) (hH : H (none, 0, 0) = []) (nb : Int) (v : Value) (ys : List QD) (w0 : World) (hnb : 0 ≤ nb ∧ nb ≤ 255) (hs : Sl encQd w0 v ys) (hqy : QsAtF B H w0 ys) : Rets Tryz.prog 7 #[.agg #[.int .u8 nb, v]] w0 fun r w' => ∃ V qs, r = .agg #[S (nmF nb), V] ∧ Lw.Own encPq 48 w0.heap.size w' V qs ∧ PcsO 88 91 w0.heap.size w' qs ∧ pcs qs = garF B H ys (manyG ys) ∧ Fr [] w0 w' := by
 obtain ⟨A, c, rfl, hcc, hM, hA⟩ := id hs
 clear hA
 unfold maxLen at hM
 have hmgy : manyG ys = max 1 (min 4 ys.length) := rfl
 have hlit : ([97, 98, 99, 100, 101, 102, 103, 104, 105, 106, 107, 108, 109, 110, 111, 112] : List UInt8).length = 16 := rfl
 have hofn : ofN.length = 4 := rfl
 refine we [(0, .agg #[.int .u8 nb, .slice A ys.length c])] Tryz.func7 rfl Tryz.ntmps7 rfl (.cons rfl .nil) ?_
 have hs0 := hs
 have hqy0 := hqy
 refine sr (bx rfl rfl rfl (fun g1 w1 hg1 hb1 q1 z1 => ?_))
 refine al zv27 rfl rfl (fun g2 w2 hg2 hb2 q2 z2 => ?_)
 refine nn (sr (fad rfl fa24_0 ?_))
 replace hb1 := hb1.ext q2
 refine s_loadB rfl hb1 rfl na5 (s_rem rfl rfl (by first | exact IntWalk.rem_in _ _ (by omega) | rfl) (s_add rfl rfl (wi8 (by omega)) (s_ss_h rfl rfl Tryz.underlying9 nat_of rfl (s_lit (cs := [_, _]) (ev1 rfl) bo27 (pok_cons rfl rfl rfl pok_nil) rfl ?_))))
 refine al zv27 rfl rfl (fun g3 w3 hg3 hb3 q3 z3 => ?_)
 refine s_storeBA rfl rfl hb3 rfl sz27 (fun w4 hb3 q4 z4 => ?_)
 refine kpL [(1, _), (2, _), (3, _)] (.c3 rfl rfl rfl) (nn (sq (sr (asg rfl (nn (bl ?_))))))
 replace hb1 := (hb1.ext q3).fr q4 (by simp[blks]<;>omega)
 replace hb2 := (hb2.ext q3).fr q4 (by simp[blks]<;>omega)
 refine lpK (ι := Nat × Value × List PQ) [(1, _), (2, _), (3, _)] (fun p => [(4, .int .i64 (p.1 : Int))]) (fun p w' => Fr [] w0 w' ∧ (p.1 ≤ 4 ∧ p.2.2.length = p.1) ∧ Blk w' g1 24 [.int .u8 nb, .slice A ys.length c] ∧ Blk w' g2 27 [S [], .slice none 0 0] ∧ Blk w' g3 27 [S ((([97, 98, 99, 100, 101, 102, 103, 104, 105, 106, 107, 108, 109, 110, 111, 112] : List UInt8)).take (1 + (nb % 16)).toNat), p.2.1] ∧ Lw.Own encPq 48 (g3 + 1) w' p.2.1 p.2.2 ∧ PcsO 88 91 (g3 + 1) w' p.2.2 ∧ (p.1 ≤ manyG ys ∧ pcs p.2.2 = garF B H ys p.1)) (fun p => 4 - p.1) (0, .slice none 0 0, []) (.c4 rfl rfl rfl rfl) ⟨(q1.z3 q2 q3 q4), ⟨⟨Nat.zero_le _, rfl⟩, hb1, hb2, hb3, Own.nil _, PcsO.nil, Nat.zero_le _, rfl⟩⟩ ?_
 rintro ⟨i, vP, qs⟩ w5 ⟨q5, ⟨⟨hi, hpl⟩, hb1, hb2, hb3, hoP, hpo, hil, hgf⟩⟩
 simp only at hi hpl hb1 hb2 hb3 hoP hpo hil hgf
 have z5 := q5.size
 have lt_hb1 := hb1.lt
 have lt_hb2 := hb2.lt
 have lt_hb3 := hb3.lt
 refine kpC [(1, _), (2, _), (3, _), (4, .int .i64 (i : Int))] (.c4 rfl rfl rfl rfl) ?_
 refine sq (sq ?_)
 refine rbo (r := 24) (L' := [(1, _), (2, _), (3, _), (4, _)]) (((((i : Int) < (ys.length : Int)) ∧ ((i : Int) < 4)) ∨ ((i : Int) = 0))) (.c4 rfl rfl rfl rfl) ?_ ?_
 ·refine mv rfl (fad rfl fa24_1 (s_loadB rfl hb1 rfl na22 (lnS rfl Tryz.underlying22 (lt' rfl rfl (mv rfl ?_)))))
  refine gs 17 rfl (fun g0 => ?_) (fun g0 => ?_)
  ·refine gY rfl (mv rfl (gY rfl (lt' rfl rfl (pkt rfl rfl (mv rfl ?_)))))
   refine gs 21 rfl (fun g1 => ?_) (fun g1 => ?_)
   ·exact gN rfl rfl rfl (gN rfl rfl rfl (pkt rfl rfl (rbe rfl (.c4 rfl rfl rfl rfl))))
   exact gY rfl (mv rfl (gY rfl (eq' rfl rfl (pkf rfl rfl (rbe rfl (.c4 rfl rfl rfl rfl))))))
  exact gN rfl rfl rfl (gN rfl rfl rfl (pkf rfl rfl (mv rfl (gY rfl (mv rfl (gY rfl (eq' rfl rfl (pkf rfl rfl (rbe rfl (.c4 rfl rfl rfl rfl))))))))))
 refine tn ?_
 refine cd rfl (fun c0 => ?_) (fun c0 => ?_)
 ·refine sk (tn (sq (bl (sr (al zv77 rfl rfl (fun g5 w6 hg5 hb5 q6 z6 => ?_))))))
  have hz5 := hb5
  refine nn ?_
  refine jn (ι := QD) [(1, _), (2, _), (3, _), (4, _), (5, _)] (fun qd => []) (fun qd w' => Fr [g5] w6 w' ∧ Blk w' g5 77 [.int .u8 qd.ht, .int .u8 qd.ed, .int .u8 qd.lw, slv qd.l, .int .u8 qd.tw, slv qd.t, .int .u8 qd.rw, slv qd.r, .int .u8 qd.ba, .int .u8 qd.st, .int .u8 qd.up, .int .u8 qd.ct] ∧ QAtF B H w' qd ∧ qd = ys.getD i qd0 ∧ ((0 ≤ qd.ba ∧ qd.ba ≤ 255) ∧ (0 ≤ qd.st ∧ qd.st ≤ 255) ∧ (0 ≤ qd.up ∧ qd.up ≤ 255) ∧ (0 ≤ qd.ct ∧ qd.ct ≤ 255))) (.c5 rfl rfl rfl rfl rfl) ?_ ?_
  ·refine sr (mv rfl (fad rfl fa24_1 ?_))
   replace hb1 := hb1.ext q6
   refine s_loadB rfl hb1 rfl na22 (lnS rfl Tryz.underlying22 (lt' rfl rfl (nn ?_)))
   refine cd rfl (fun c1 => ?_) (fun c1 => ?_)
   ·refine rg (fad rfl fa24_1 (s_loadB rfl hb1 rfl na22 (mv rfl ?_)))
    replace hs := hs0.ext (q5.n1 q6)
    refine s_idxL (qd0) rfl hs rfl el22 nat_of (fun ad35 hc35 => ?_)
    refine s_loadA rfl (hc35 _ hs) ag77 (s_storeBA rfl rfl hb5 rfl sz77 (fun w7 hb5 q7 z7 => ?_))
    refine kpL [(1, _), (2, _), (3, _), (4, _), (5, _)] (.c5 rfl rfl rfl rfl rfl) (nl ?_)
    replace hqy := hqy0.ext (q5.z2 q6 q7)
    exact jE ((ys.getD i qd0)) (.c5 rfl rfl rfl rfl rfl) ⟨((Fr.refl [g5] _).z1 q7), ⟨hb5, hqy _ (getD_memS (by omega)), rfl, (hqy _ (getD_memS (by omega))).rg.2.2.2.2.2⟩⟩
   refine sk ?_
   exact jE (qd0) (.c5 rfl rfl rfl rfl rfl) ⟨(Fr.refl _ _), ⟨hb5, QAtF.zero hH _, (getD_out (by omega)).symm, by simp [qd0]⟩⟩
  rintro qd w8 ⟨q8, ⟨hb5, hqd, hqe, hrg⟩⟩
  have z8 := q8.size
  have lt_hb5 := hb5.lt
  have hqd0 := hqd
  refine kpC [(1, _), (2, _), (3, _), (4, _), (5, _)] (.c5 rfl rfl rfl rfl rfl) ?_
  replace hb1 := (hb1.ext q6).fr q8 (by simp[blks]<;>omega)
  replace hb2 := (hb2.ext q6).fr q8 (by simp[blks]<;>omega)
  replace hb3 := (hb3.ext q6).fr q8 (by simp[blks]<;>omega)
  replace hoP := (hoP.ext q6).fr q8 (by intro k hk hb; simp at hk; subst hk; have := hoP.blk _ hb; omega)
  replace hpo := (hpo.ext q6).fr q8 (by intro k hk; simp at hk; subst hk; first | exact .inl (by omega) | exact .inr ⟨_, _, hz5, by decide, by decide⟩)
  intro a h
  refine region_heldP (some 30) (fun wb w' => Fr [] wb w') hmix ?_; intro w9 hq
  have z9 := hq.size
  replace hb1 := hb1.ext hq
  replace hb2 := hb2.ext hq
  replace hb3 := hb3.ext hq
  replace hoP := hoP.ext hq
  replace hpo := hpo.ext hq
  replace hb5 := hb5.ext hq
  replace hqd := hqd.ext hq
  have q9 := hq
  clear hq; have hC : Fr [] w9 w9 := Fr.refl _ _
  have hb1_b := hb1
  have hb2_b := hb2
  have hb3_b := hb3
  have hoP_b := hoP
  have hpo_b := hpo
  have hb5_b := hb5
  have hqd_b := hqd
  refine hd_fieldAddr 0 hC h wn rfl fa27_1 rfl ?_; clear h a; intro a h
  refine hd_loadB 1 hC h wn rfl (fun _ hw => hb3_b.ext hw) rfl na25 rfl ?_; clear h a; intro a h
  refine hd_move 3 hC h wn rfl rfl ?_; clear h a; intro a h
  refine hd_fieldAddr 6 hC h wn rfl fa77_0 rfl ?_; clear h a; intro a h
  refine hd_loadBP (vs := [_, _, _, _, _, _, _, _]) 7 hC h wn rfl (fun _ hw => (hb5_b.ext hw)) ag74 rfl rfl ?_; clear h a; intro a h
  refine hd_fieldAddr 9 hC h wn rfl fa77_1 rfl ?_; clear h a; intro a h
  refine hd_loadB 10 hC h wn rfl (fun _ hw => hb5_b.ext hw) rfl na5 rfl ?_; clear h a; intro a h
  refine hd_rem 11 hC h wn rfl rfl (by first | exact IntWalk.rem_in _ _ (by omega) | rfl) rfl rfl ?_; clear h a; intro a h
  refine hd_conv 12 hC h wn rfl (by rw [Tryz.underlying5]; rfl) Tryz.underlying3 (by first | exact i6 (by omega) | rfl) rfl rfl ?_; clear h a; intro a h
  refine hd_add 13 hC h wn rfl rfl (by first | exact i6 (by omega) | rfl) rfl ?_; clear h a; intro a h
  refine hd_fieldAddr 14 hC h wn rfl fa77_2 rfl ?_; clear h a; intro a h
  refine hd_loadB 15 hC h wn rfl (fun _ hw => hb5_b.ext hw) rfl na5 rfl ?_; clear h a; intro a h
  refine hd_rem 16 hC h wn rfl rfl (by first | exact IntWalk.rem_in _ _ (by omega) | rfl) rfl rfl ?_; clear h a; intro a h
  refine hd_conv 17 hC h wn rfl (by rw [Tryz.underlying5]; rfl) Tryz.underlying3 (by first | exact i6 (by omega) | rfl) rfl rfl ?_; clear h a; intro a h
  refine hd_fieldAddr 18 hC h wn rfl fa77_3 rfl ?_; clear h a; intro a h
  refine hd_loadB 19 hC h wn rfl (fun _ hw => hb5_b.ext hw) rfl na5 rfl ?_; clear h a; intro a h
  refine hd_rem 20 hC h wn rfl rfl (by first | exact IntWalk.rem_in _ _ (by omega) | rfl) rfl rfl ?_; clear h a; intro a h
  refine hd_conv 21 hC h wn rfl (by rw [Tryz.underlying5]; rfl) Tryz.underlying3 (by first | exact i6 (by omega) | rfl) rfl rfl ?_; clear h a; intro a h
  refine hd_add 22 hC h wn rfl rfl (by first | exact i6 (by omega) | rfl) rfl ?_; clear h a; intro a h
  refine hd_fieldAddr 23 hC h wn rfl fa77_4 rfl ?_; clear h a; intro a h
  refine hd_loadB 24 hC h wn rfl (fun _ hw => hb5_b.ext hw) rfl na5 rfl ?_; clear h a; intro a h
  refine hd_rem 25 hC h wn rfl rfl (by first | exact IntWalk.rem_in _ _ (by omega) | rfl) rfl rfl ?_; clear h a; intro a h
  refine hd_conv 26 hC h wn rfl (by rw [Tryz.underlying5]; rfl) Tryz.underlying3 (by first | exact i6 (by omega) | rfl) rfl rfl ?_; clear h a; intro a h
  refine hd_add 27 hC h wn rfl rfl (by first | exact i6 (by omega) | rfl) rfl ?_; clear h a; intro a h
  refine hd_two 2 8 (by kernel_rfl) rfl rfl ?_ ?_
  ·refine st_bslice (ofN) h (evs_cons rfl (evs_cons rfl (evs_cons rfl (evs_cons rfl evs_nil)))) rfl rfl rfl el67 (Nat.le_of_ble_eq_true rfl) ?_; clear h a; intro g_39 w10 hg ho39 hq hz a h
   have hn__39 : g1 < g_39 := by have := hb1.lt; omega
   have hn__39 : g2 < g_39 := by have := hb2.lt; omega
   have hn__39 : g3 < g_39 := by have := hb3.lt; omega
   have hn__39 : g5 < g_39 := by have := hb5.lt; omega
   have z10 := hq.size
   replace hb1 := hb1.ext hq
   replace hb2 := hb2.ext hq
   replace hb3 := hb3.ext hq
   replace hoP := hoP.ext hq
   replace hpo := hpo.ext hq
   replace hb5 := hb5.ext hq
   replace hqd := hqd.ext hq
   replace hC := hC.next hq
   have q10 := hq
   clear hq
   refine hd_next hC ?_
   refine hd_two 4 8 (by kernel_rfl) rfl rfl ?_ ?_
   ·refine st_idxL (p := i) ([]) h rfl ho39.sl rfl el67 (by omega) (by omega) (by omega) rfl ?_; clear h a; intro ad41 hc41 a h
    refine hd_next hC ?_
    refine hd_two 5 8 (by kernel_rfl) rfl rfl ?_ ?_
    ·refine st_loadC0 h rfl (hc41 _ ho39.sl) na9 rfl ?_; clear h a; intro a h
     refine hd_next hC ?_
     refine hd_one 8 rfl ?_
     refine st_call h (evs_cons rfl evs_nil) co22 (mof_ok B H hB qd _ hqd) ?_; clear h a; rintro _ w11 ⟨ml, mt, mr, mm, rfl, hM, hmm, hq⟩ a h
     have z11 := hq.size
     replace hb1 := hb1.ext hq
     replace hb2 := hb2.ext hq
     replace hb3 := hb3.ext hq
     replace hoP := hoP.ext hq
     replace hpo := hpo.ext hq
     replace hb5 := hb5.ext hq
     replace hqd := hqd.ext hq
     replace ho39 := ho39.ext hq
     replace hC := hC.next hq
     have q11 := hq
     clear hq
     refine hd_next hC ?_
     refine hd_lit (cs := [_, _, _, _, _, _, _, _]) 28 hC h wn (evs_cons rfl (evs_cons rfl (evs_cons rfl (evs_cons rfl (evs_cons rfl (evs_cons rfl evs_nil)))))) bo48 (pok_cons rfl rfl rfl (pok_cons rfl rfl rfl (pok_cons rfl rfl rfl (pok_cons rfl rfl rfl (pok_cons rfl rfl rfl (pok_cons rfl rfl rfl pok_nil)))))) rfl rfl ?_; clear h a; intro a h
     refine hd_one 29 rfl ?_
     refine st_bslice ([(⟨⟨ofN.getD i [], mm, 1 + qd.ba % 4, qd.st % 5, 1 + qd.up % 5, 1 + qd.ct % 9⟩, ml, mt, mr⟩ : PQ)]) h (evs_cons rfl evs_nil) rfl rfl rfl el25 (Nat.le_of_ble_eq_true rfl) ?_; clear h a; intro g_66 w12 hg ho66 hq hz a h
     have hn__66 : g1 < g_66 := by have := hb1.lt; omega
     have hn__66 : g2 < g_66 := by have := hb2.lt; omega
     have hn__66 : g3 < g_66 := by have := hb3.lt; omega
     have hn__66 : g5 < g_66 := by have := hb5.lt; omega
     have z12 := hq.size
     replace hb1 := hb1.ext hq
     replace hb2 := hb2.ext hq
     replace hb3 := hb3.ext hq
     replace hoP := hoP.ext hq
     replace hpo := hpo.ext hq
     replace hb5 := hb5.ext hq
     replace hqd := hqd.ext hq
     replace ho39 := ho39.ext hq
     replace hM := hM.ext hq
     replace hC := hC.next hq
     have q12 := hq
     clear hq
     refine hd_next hC ?_
     refine hd_one 30 rfl ?_
     have hoo67 := hoP
     refine st_append h rfl rfl hoP ho66.sl el25 (by unfold maxLen; simp only [List.length_cons, List.length_nil]; omega) (by simp only [List.length_cons, List.length_nil]; omega) (by omega) ?_; clear h a; intro v67 w13 hoP hq hor67 a h
     replace hpo := (hpo.snoc (q := (⟨⟨ofN.getD i [], mm, 1 + qd.ba % 4, qd.st % 5, 1 + qd.up % 5, 1 + qd.ct % 9⟩, ml, mt, mr⟩ : PQ)) (hM.low (by omega)))
     obtain ⟨AP, cP, rfl, _⟩ := hoP.sl.form
     have z13 := hq.size
     replace hb1 := hb1.fr hq (fun hk => by have := (hoo67.blk _ hk).1; omega)
     replace hb2 := hb2.fr hq (fun hk => by have := (hoo67.blk _ hk).1; omega)
     replace hb3 := hb3.fr hq (fun hk => by have := (hoo67.blk _ hk).1; omega)
     replace hpo := hpo.fr hq (own_apart hoo67 (by decide) (by decide))
     have q13 := hq
     clear hq
     refine hd_past ?_
     refine hd_one 31 rfl ?_
     refine st_fieldAddr h rfl fa27_1 rfl ?_; clear h a; intro a h
     refine hd_past ?_
     refine hd_one 32 rfl ?_
     refine st_storeB h rfl rfl hb3 rfl rfl rfl sz25 ?_; clear h a; intro w14 hbn hq hz a h
     have z14 := hq.size
     replace hb1 := hb1.fr hq (by simp[blks]<;>omega)
     replace hb2 := hb2.fr hq (by simp[blks]<;>omega)
     replace hpo := hpo.fr hq (by intro k hk; simp at hk; subst hk; first | exact .inl (by omega) | exact .inr ⟨_, _, hz5, by decide, by decide⟩)
     replace hoP := hoP.fr hq (by intro k hk hb; simp at hk; subst hk; have := hoP.blk _ hb; omega)
     have q14 := hq
     clear hb3 hq hz; have hb3 : Blk w14 g3 _ [_, _] := hbn; clear hbn
     refine hd_past ?_
     refine hd_end ?_
     clear hC hb1_b hb2_b hb3_b hoP_b hpo_b hb5_b hqd_b
     refine bk (h.sub (L' := [(1, _), (2, _), (3, _), (4, _)]) (.c4 rfl rfl rfl rfl)) ?_; clear h a
     refine bn' (tn (rg (mv rfl (s_add rfl rfl (wi6 (by omega)) (asg rfl (nl ?_))))))
     exact lpE ((i + 1, _, qs ++ [(⟨⟨ofN.getD i [], mm, 1 + qd.ba % 4, qd.st % 5, 1 + qd.up % 5, 1 + qd.ct % 9⟩, ml, mt, mr⟩ : PQ)])) (.c4 rfl rfl rfl rfl) ⟨(((q5.z6 q6 q8 q9 q10 q11 q12).step q13 (fun k hk hlt => absurd (hoo67.blk k hk).1 (by omega))).z1 q14), ⟨⟨by simp only; omega, by simp only [List.length_append, List.length_cons, List.length_nil]; omega⟩, hb1, hb2, hb3, hoP, hpo, (by simp only; omega), (by simp only [pcs, List.map_append] at hgf ⊢; rw [hgf, garF_succ, hmm, hqe]; rfl)⟩⟩ (by simp only; omega)
    refine st_call h (evs_cons rfl evs_nil) co22 (mof_ok B H hB qd _ hqd) ?_; clear h a; rintro _ w15 ⟨ml, mt, mr, mm, rfl, hM, hmm, hq⟩ a h
    have z15 := hq.size
    replace hb1 := hb1.ext hq
    replace hb2 := hb2.ext hq
    replace hb3 := hb3.ext hq
    replace hoP := hoP.ext hq
    replace hpo := hpo.ext hq
    replace hb5 := hb5.ext hq
    replace hqd := hqd.ext hq
    replace ho39 := ho39.ext hq
    replace hC := hC.next hq
    have q15 := hq
    clear hq
    refine hd_next hC ?_
    refine hd_one 5 rfl ?_
    refine st_loadC0 h rfl (hc41 _ ho39.sl) na9 rfl ?_; clear h a; intro a h
    refine hd_next hC ?_
    refine hd_lit (cs := [_, _, _, _, _, _, _, _]) 28 hC h wn (evs_cons rfl (evs_cons rfl (evs_cons rfl (evs_cons rfl (evs_cons rfl (evs_cons rfl evs_nil)))))) bo48 (pok_cons rfl rfl rfl (pok_cons rfl rfl rfl (pok_cons rfl rfl rfl (pok_cons rfl rfl rfl (pok_cons rfl rfl rfl (pok_cons rfl rfl rfl pok_nil)))))) rfl rfl ?_; clear h a; intro a h
    refine hd_one 29 rfl ?_
    refine st_bslice ([(⟨⟨ofN.getD i [], mm, 1 + qd.ba % 4, qd.st % 5, 1 + qd.up % 5, 1 + qd.ct % 9⟩, ml, mt, mr⟩ : PQ)]) h (evs_cons rfl evs_nil) rfl rfl rfl el25 (Nat.le_of_ble_eq_true rfl) ?_; clear h a; intro g_66 w16 hg ho66 hq hz a h
    have hn__66 : g1 < g_66 := by have := hb1.lt; omega
    have hn__66 : g2 < g_66 := by have := hb2.lt; omega
    have hn__66 : g3 < g_66 := by have := hb3.lt; omega
    have hn__66 : g5 < g_66 := by have := hb5.lt; omega
    have z16 := hq.size
    replace hb1 := hb1.ext hq
    replace hb2 := hb2.ext hq
    replace hb3 := hb3.ext hq
    replace hoP := hoP.ext hq
    replace hpo := hpo.ext hq
    replace hb5 := hb5.ext hq
    replace hqd := hqd.ext hq
    replace ho39 := ho39.ext hq
    replace hM := hM.ext hq
    replace hC := hC.next hq
    have q16 := hq
    clear hq
    refine hd_next hC ?_
    refine hd_one 30 rfl ?_
    have hoo67 := hoP
    refine st_append h rfl rfl hoP ho66.sl el25 (by unfold maxLen; simp only [List.length_cons, List.length_nil]; omega) (by simp only [List.length_cons, List.length_nil]; omega) (by omega) ?_; clear h a; intro v67 w17 hoP hq hor67 a h
    replace hpo := (hpo.snoc (q := (⟨⟨ofN.getD i [], mm, 1 + qd.ba % 4, qd.st % 5, 1 + qd.up % 5, 1 + qd.ct % 9⟩, ml, mt, mr⟩ : PQ)) (hM.low (by omega)))
    obtain ⟨AP, cP, rfl, _⟩ := hoP.sl.form
    have z17 := hq.size
    replace hb1 := hb1.fr hq (fun hk => by have := (hoo67.blk _ hk).1; omega)
    replace hb2 := hb2.fr hq (fun hk => by have := (hoo67.blk _ hk).1; omega)
    replace hb3 := hb3.fr hq (fun hk => by have := (hoo67.blk _ hk).1; omega)
    replace hpo := hpo.fr hq (own_apart hoo67 (by decide) (by decide))
    have q17 := hq
    clear hq
    refine hd_past ?_
    refine hd_one 31 rfl ?_
    refine st_fieldAddr h rfl fa27_1 rfl ?_; clear h a; intro a h
    refine hd_past ?_
    refine hd_one 32 rfl ?_
    refine st_storeB h rfl rfl hb3 rfl rfl rfl sz25 ?_; clear h a; intro w18 hbn hq hz a h
    have z18 := hq.size
    replace hb1 := hb1.fr hq (by simp[blks]<;>omega)
    replace hb2 := hb2.fr hq (by simp[blks]<;>omega)
    replace hpo := hpo.fr hq (by intro k hk; simp at hk; subst hk; first | exact .inl (by omega) | exact .inr ⟨_, _, hz5, by decide, by decide⟩)
    replace hoP := hoP.fr hq (by intro k hk hb; simp at hk; subst hk; have := hoP.blk _ hb; omega)
    have q18 := hq
    clear hb3 hq hz; have hb3 : Blk w18 g3 _ [_, _] := hbn; clear hbn
    refine hd_past ?_
    refine hd_end ?_
    clear hC hb1_b hb2_b hb3_b hoP_b hpo_b hb5_b hqd_b
    refine bk (h.sub (L' := [(1, _), (2, _), (3, _), (4, _)]) (.c4 rfl rfl rfl rfl)) ?_; clear h a
    refine bn' (tn (rg (mv rfl (s_add rfl rfl (wi6 (by omega)) (asg rfl (nl ?_))))))
    exact lpE ((i + 1, _, qs ++ [(⟨⟨ofN.getD i [], mm, 1 + qd.ba % 4, qd.st % 5, 1 + qd.up % 5, 1 + qd.ct % 9⟩, ml, mt, mr⟩ : PQ)])) (.c4 rfl rfl rfl rfl) ⟨(((q5.z6 q6 q8 q9 q10 q15 q16).step q17 (fun k hk hlt => absurd (hoo67.blk k hk).1 (by omega))).z1 q18), ⟨⟨by simp only; omega, by simp only [List.length_append, List.length_cons, List.length_nil]; omega⟩, hb1, hb2, hb3, hoP, hpo, (by simp only; omega), (by simp only [pcs, List.map_append] at hgf ⊢; rw [hgf, garF_succ, hmm, hqe]; rfl)⟩⟩ (by simp only; omega)
   refine st_call h (evs_cons rfl evs_nil) co22 (mof_ok B H hB qd _ hqd) ?_; clear h a; rintro _ w19 ⟨ml, mt, mr, mm, rfl, hM, hmm, hq⟩ a h
   have z19 := hq.size
   replace hb1 := hb1.ext hq
   replace hb2 := hb2.ext hq
   replace hb3 := hb3.ext hq
   replace hoP := hoP.ext hq
   replace hpo := hpo.ext hq
   replace hb5 := hb5.ext hq
   replace hqd := hqd.ext hq
   replace ho39 := ho39.ext hq
   replace hC := hC.next hq
   have q19 := hq
   clear hq
   refine hd_next hC ?_
   refine hd_one 4 rfl ?_
   refine st_idxL (p := i) ([]) h rfl ho39.sl rfl el67 (by omega) (by omega) (by omega) rfl ?_; clear h a; intro ad41 hc41 a h
   refine hd_next hC ?_
   refine hd_one 5 rfl ?_
   refine st_loadC0 h rfl (hc41 _ ho39.sl) na9 rfl ?_; clear h a; intro a h
   refine hd_next hC ?_
   refine hd_lit (cs := [_, _, _, _, _, _, _, _]) 28 hC h wn (evs_cons rfl (evs_cons rfl (evs_cons rfl (evs_cons rfl (evs_cons rfl (evs_cons rfl evs_nil)))))) bo48 (pok_cons rfl rfl rfl (pok_cons rfl rfl rfl (pok_cons rfl rfl rfl (pok_cons rfl rfl rfl (pok_cons rfl rfl rfl (pok_cons rfl rfl rfl pok_nil)))))) rfl rfl ?_; clear h a; intro a h
   refine hd_one 29 rfl ?_
   refine st_bslice ([(⟨⟨ofN.getD i [], mm, 1 + qd.ba % 4, qd.st % 5, 1 + qd.up % 5, 1 + qd.ct % 9⟩, ml, mt, mr⟩ : PQ)]) h (evs_cons rfl evs_nil) rfl rfl rfl el25 (Nat.le_of_ble_eq_true rfl) ?_; clear h a; intro g_66 w20 hg ho66 hq hz a h
   have hn__66 : g1 < g_66 := by have := hb1.lt; omega
   have hn__66 : g2 < g_66 := by have := hb2.lt; omega
   have hn__66 : g3 < g_66 := by have := hb3.lt; omega
   have hn__66 : g5 < g_66 := by have := hb5.lt; omega
   have z20 := hq.size
   replace hb1 := hb1.ext hq
   replace hb2 := hb2.ext hq
   replace hb3 := hb3.ext hq
   replace hoP := hoP.ext hq
   replace hpo := hpo.ext hq
   replace hb5 := hb5.ext hq
   replace hqd := hqd.ext hq
   replace ho39 := ho39.ext hq
   replace hM := hM.ext hq
   replace hC := hC.next hq
   have q20 := hq
   clear hq
   refine hd_next hC ?_
   refine hd_one 30 rfl ?_
   have hoo67 := hoP
   refine st_append h rfl rfl hoP ho66.sl el25 (by unfold maxLen; simp only [List.length_cons, List.length_nil]; omega) (by simp only [List.length_cons, List.length_nil]; omega) (by omega) ?_; clear h a; intro v67 w21 hoP hq hor67 a h
   replace hpo := (hpo.snoc (q := (⟨⟨ofN.getD i [], mm, 1 + qd.ba % 4, qd.st % 5, 1 + qd.up % 5, 1 + qd.ct % 9⟩, ml, mt, mr⟩ : PQ)) (hM.low (by omega)))
   obtain ⟨AP, cP, rfl, _⟩ := hoP.sl.form
   have z21 := hq.size
   replace hb1 := hb1.fr hq (fun hk => by have := (hoo67.blk _ hk).1; omega)
   replace hb2 := hb2.fr hq (fun hk => by have := (hoo67.blk _ hk).1; omega)
   replace hb3 := hb3.fr hq (fun hk => by have := (hoo67.blk _ hk).1; omega)
   replace hpo := hpo.fr hq (own_apart hoo67 (by decide) (by decide))
   have q21 := hq
   clear hq
   refine hd_past ?_
   refine hd_one 31 rfl ?_
   refine st_fieldAddr h rfl fa27_1 rfl ?_; clear h a; intro a h
   refine hd_past ?_
   refine hd_one 32 rfl ?_
   refine st_storeB h rfl rfl hb3 rfl rfl rfl sz25 ?_; clear h a; intro w22 hbn hq hz a h
   have z22 := hq.size
   replace hb1 := hb1.fr hq (by simp[blks]<;>omega)
   replace hb2 := hb2.fr hq (by simp[blks]<;>omega)
   replace hpo := hpo.fr hq (by intro k hk; simp at hk; subst hk; first | exact .inl (by omega) | exact .inr ⟨_, _, hz5, by decide, by decide⟩)
   replace hoP := hoP.fr hq (by intro k hk hb; simp at hk; subst hk; have := hoP.blk _ hb; omega)
   have q22 := hq
   clear hb3 hq hz; have hb3 : Blk w22 g3 _ [_, _] := hbn; clear hbn
   refine hd_past ?_
   refine hd_end ?_
   clear hC hb1_b hb2_b hb3_b hoP_b hpo_b hb5_b hqd_b
   refine bk (h.sub (L' := [(1, _), (2, _), (3, _), (4, _)]) (.c4 rfl rfl rfl rfl)) ?_; clear h a
   refine bn' (tn (rg (mv rfl (s_add rfl rfl (wi6 (by omega)) (asg rfl (nl ?_))))))
   exact lpE ((i + 1, _, qs ++ [(⟨⟨ofN.getD i [], mm, 1 + qd.ba % 4, qd.st % 5, 1 + qd.up % 5, 1 + qd.ct % 9⟩, ml, mt, mr⟩ : PQ)])) (.c4 rfl rfl rfl rfl) ⟨(((q5.z6 q6 q8 q9 q10 q19 q20).step q21 (fun k hk hlt => absurd (hoo67.blk k hk).1 (by omega))).z1 q22), ⟨⟨by simp only; omega, by simp only [List.length_append, List.length_cons, List.length_nil]; omega⟩, hb1, hb2, hb3, hoP, hpo, (by simp only; omega), (by simp only [pcs, List.map_append] at hgf ⊢; rw [hgf, garF_succ, hmm, hqe]; rfl)⟩⟩ (by simp only; omega)
  refine st_call h (evs_cons rfl evs_nil) co22 (mof_ok B H hB qd _ hqd) ?_; clear h a; rintro _ w23 ⟨ml, mt, mr, mm, rfl, hM, hmm, hq⟩ a h
  have z23 := hq.size
  replace hb1 := hb1.ext hq
  replace hb2 := hb2.ext hq
  replace hb3 := hb3.ext hq
  replace hoP := hoP.ext hq
  replace hpo := hpo.ext hq
  replace hb5 := hb5.ext hq
  replace hqd := hqd.ext hq
  replace hC := hC.next hq
  have q23 := hq
  clear hq
  refine hd_next hC ?_
  refine hd_one 2 rfl ?_
  refine st_bslice (ofN) h (evs_cons rfl (evs_cons rfl (evs_cons rfl (evs_cons rfl evs_nil)))) rfl rfl rfl el67 (Nat.le_of_ble_eq_true rfl) ?_; clear h a; intro g_39 w24 hg ho39 hq hz a h
  have hn__39 : g1 < g_39 := by have := hb1.lt; omega
  have hn__39 : g2 < g_39 := by have := hb2.lt; omega
  have hn__39 : g3 < g_39 := by have := hb3.lt; omega
  have hn__39 : g5 < g_39 := by have := hb5.lt; omega
  have z24 := hq.size
  replace hb1 := hb1.ext hq
  replace hb2 := hb2.ext hq
  replace hb3 := hb3.ext hq
  replace hoP := hoP.ext hq
  replace hpo := hpo.ext hq
  replace hb5 := hb5.ext hq
  replace hqd := hqd.ext hq
  replace hM := hM.ext hq
  replace hC := hC.next hq
  have q24 := hq
  clear hq
  refine hd_next hC ?_
  refine hd_one 4 rfl ?_
  refine st_idxL (p := i) ([]) h rfl ho39.sl rfl el67 (by omega) (by omega) (by omega) rfl ?_; clear h a; intro ad41 hc41 a h
  refine hd_next hC ?_
  refine hd_one 5 rfl ?_
  refine st_loadC0 h rfl (hc41 _ ho39.sl) na9 rfl ?_; clear h a; intro a h
  refine hd_next hC ?_
  refine hd_lit (cs := [_, _, _, _, _, _, _, _]) 28 hC h wn (evs_cons rfl (evs_cons rfl (evs_cons rfl (evs_cons rfl (evs_cons rfl (evs_cons rfl evs_nil)))))) bo48 (pok_cons rfl rfl rfl (pok_cons rfl rfl rfl (pok_cons rfl rfl rfl (pok_cons rfl rfl rfl (pok_cons rfl rfl rfl (pok_cons rfl rfl rfl pok_nil)))))) rfl rfl ?_; clear h a; intro a h
  refine hd_one 29 rfl ?_
  refine st_bslice ([(⟨⟨ofN.getD i [], mm, 1 + qd.ba % 4, qd.st % 5, 1 + qd.up % 5, 1 + qd.ct % 9⟩, ml, mt, mr⟩ : PQ)]) h (evs_cons rfl evs_nil) rfl rfl rfl el25 (Nat.le_of_ble_eq_true rfl) ?_; clear h a; intro g_66 w25 hg ho66 hq hz a h
  have hn__66 : g1 < g_66 := by have := hb1.lt; omega
  have hn__66 : g2 < g_66 := by have := hb2.lt; omega
  have hn__66 : g3 < g_66 := by have := hb3.lt; omega
  have hn__66 : g5 < g_66 := by have := hb5.lt; omega
  have z25 := hq.size
  replace hb1 := hb1.ext hq
  replace hb2 := hb2.ext hq
  replace hb3 := hb3.ext hq
  replace hoP := hoP.ext hq
  replace hpo := hpo.ext hq
  replace hb5 := hb5.ext hq
  replace hqd := hqd.ext hq
  replace hM := hM.ext hq
  replace ho39 := ho39.ext hq
  replace hC := hC.next hq
  have q25 := hq
  clear hq
  refine hd_next hC ?_
  refine hd_one 30 rfl ?_
  have hoo67 := hoP
  refine st_append h rfl rfl hoP ho66.sl el25 (by unfold maxLen; simp only [List.length_cons, List.length_nil]; omega) (by simp only [List.length_cons, List.length_nil]; omega) (by omega) ?_; clear h a; intro v67 w26 hoP hq hor67 a h
  replace hpo := (hpo.snoc (q := (⟨⟨ofN.getD i [], mm, 1 + qd.ba % 4, qd.st % 5, 1 + qd.up % 5, 1 + qd.ct % 9⟩, ml, mt, mr⟩ : PQ)) (hM.low (by omega)))
  obtain ⟨AP, cP, rfl, _⟩ := hoP.sl.form
  have z26 := hq.size
  replace hb1 := hb1.fr hq (fun hk => by have := (hoo67.blk _ hk).1; omega)
  replace hb2 := hb2.fr hq (fun hk => by have := (hoo67.blk _ hk).1; omega)
  replace hb3 := hb3.fr hq (fun hk => by have := (hoo67.blk _ hk).1; omega)
  replace hpo := hpo.fr hq (own_apart hoo67 (by decide) (by decide))
  have q26 := hq
  clear hq
  refine hd_past ?_
  refine hd_one 31 rfl ?_
  refine st_fieldAddr h rfl fa27_1 rfl ?_; clear h a; intro a h
  refine hd_past ?_
  refine hd_one 32 rfl ?_
  refine st_storeB h rfl rfl hb3 rfl rfl rfl sz25 ?_; clear h a; intro w27 hbn hq hz a h
  have z27 := hq.size
  replace hb1 := hb1.fr hq (by simp[blks]<;>omega)
  replace hb2 := hb2.fr hq (by simp[blks]<;>omega)
  replace hpo := hpo.fr hq (by intro k hk; simp at hk; subst hk; first | exact .inl (by omega) | exact .inr ⟨_, _, hz5, by decide, by decide⟩)
  replace hoP := hoP.fr hq (by intro k hk hb; simp at hk; subst hk; have := hoP.blk _ hb; omega)
  have q27 := hq
  clear hb3 hq hz; have hb3 : Blk w27 g3 _ [_, _] := hbn; clear hbn
  refine hd_past ?_
  refine hd_end ?_
  clear hC hb1_b hb2_b hb3_b hoP_b hpo_b hb5_b hqd_b
  refine bk (h.sub (L' := [(1, _), (2, _), (3, _), (4, _)]) (.c4 rfl rfl rfl rfl)) ?_; clear h a
  refine bn' (tn (rg (mv rfl (s_add rfl rfl (wi6 (by omega)) (asg rfl (nl ?_))))))
  exact lpE ((i + 1, _, qs ++ [(⟨⟨ofN.getD i [], mm, 1 + qd.ba % 4, qd.st % 5, 1 + qd.up % 5, 1 + qd.ct % 9⟩, ml, mt, mr⟩ : PQ)])) (.c4 rfl rfl rfl rfl) ⟨(((q5.z6 q6 q8 q9 q23 q24 q25).step q26 (fun k hk hlt => absurd (hoo67.blk k hk).1 (by omega))).z1 q27), ⟨⟨by simp only; omega, by simp only [List.length_append, List.length_cons, List.length_nil]; omega⟩, hb1, hb2, hb3, hoP, hpo, (by simp only; omega), (by simp only [pcs, List.map_append] at hgf ⊢; rw [hgf, garF_succ, hmm, hqe]; rfl)⟩⟩ (by simp only; omega)
 obtain ⟨AP, cP, rfl, _⟩ := hoP.sl.form
 refine ex (te (te (xh (tn (sr (s_loadBA rfl hb3 ag27 ?_))))))
 refine s_storeBA (vs := [S ((([97, 98, 99, 100, 101, 102, 103, 104, 105, 106, 107, 108, 109, 110, 111, 112] : List UInt8)).take (1 + (nb % 16)).toNat), .slice AP qs.length cP]) rfl rfl hb2 rfl sz27 (fun w28 hb2 q28 z28 => ?_) (h1 := (by simp [Value.oneCell', S]))
 refine nn (rt (rC Tryz.results7 rfl hb2 ag27  ?_))
 replace hoP := hoP.fr q28 (by intro k hk hb; simp at hk; subst hk; have := hoP.blk _ hb; omega)
 replace hpo := hpo.fr q28 (by intro k hk; simp at hk; subst hk; first | exact .inl (by omega) | exact .inr ⟨_, _, hz5, by decide, by decide⟩)
 exact ⟨_, rfl, _, qs, rfl, hoP.low (by omega), hpo.low (by omega), (by have : i = manyG ys := (by omega); rw [hgf, this]), (q5.z1 q28)⟩
end Go.Proofs.YthehggmdcmpjeaaGreatDoor
namespace Go.G14
open Go.Lw
def z0 (q : PQ) : PQ := ⟨⟨q.p.nm, q.p.mot, q.p.ba, 0, q.p.up, q.p.ct⟩, q.l, q.t, q.r⟩
end Go.G14
namespace Go.Lw
open Go.RowKit
section
variable {P : Program} {a : Act} {n : Nat} {L : List (Nat × Value)} {ds : List Nat} {w : World} {Q : Exit → Act → World → Prop} {ops : Array Oper} {rest : List Oper} {d : Nat} {ty t T : TypeId} {pos : String} {after : Array Edge} {x y : Operand} {v : Value}
end
end Go.Lw
namespace Go.Proofs.YthehggmdcmpjeaaGreatDoor
open Go.Lw Go.G14
theorem ag24 : AggOf Tryz.prog 24 2 := ⟨fun _ => by kernel_rfl, fun _ => by kernel_rfl⟩
theorem co7 : CallOf Tryz.prog 7 := mkC Tryz.func7
end Go.Proofs.YthehggmdcmpjeaaGreatDoor
namespace Go.G14
open Go.Lw
theorem chG_len (wd : Int) (css : List (List UInt8)) : ∀ n, (chG wd css n).2.length = n
 | 0 => rfl
 | n + 1 => by rw [chG, List.length_append, chG_len wd css n]; rfl
structure MotX (R0 T0 N : Nat) (w : World) (X Y Z : Value) (m : Mot) : Prop where
  L : OwR R0 T0 N w X m.L
  T : OwR R0 T0 N w Y m.T
  R : OwR R0 T0 N w Z m.R
  gL : rowsR m.L
  gT : rowsR m.T
  gR : rowsR m.R
section
variable {R0 T0 N M : Nat} {w w' : World} {X Y Z : Value} {m : Mot} {S : List Nat}
theorem MotX.fr (h : MotX R0 T0 N w X Y Z m) (hf : Fr S w w') (hS : ∀ k ∈ S, k < N) : MotX R0 T0 N w' X Y Z m := ⟨h.L.fr hf hS, h.T.fr hf hS, h.R.fr hf hS, h.gL, h.gT, h.gR⟩
theorem MotX.ext (h : MotX R0 T0 N w X Y Z m) (hf : Fr [] w w') : MotX R0 T0 N w' X Y Z m := h.fr hf (by simp)
theorem MotX.low (h : MotX R0 T0 N w X Y Z m) (hM : M ≤ N) : MotX R0 T0 M w X Y Z m := ⟨h.L.low hM, h.T.low hM, h.R.low hM, h.gL, h.gT, h.gR⟩
theorem MotX.at {l t r : SV} (h : MotX R0 T0 N w (slv l) (slv t) (slv r) m) : MotAt w m l t r := ⟨h.L.sll, h.T.sll, h.R.sll, h.gL, h.gT, h.gR⟩
end
def PcsX (R0 T0 N : Nat) (w : World) (qs : List PQ) : Prop := ∀ q ∈ qs, MotX R0 T0 N w (slv q.l) (slv q.t) (slv q.r) q.p.mot
section
variable {R0 T0 N M : Nat} {w w' : World} {qs : List PQ} {S : List Nat}
theorem PcsX.fr (h : PcsX R0 T0 N w qs) (hf : Fr S w w') (hS : ∀ k ∈ S, k < N) : PcsX R0 T0 N w' qs := fun q hq => (h q hq).fr hf hS
theorem PcsX.ext (h : PcsX R0 T0 N w qs) (hf : Fr [] w w') : PcsX R0 T0 N w' qs := fun q hq => (h q hq).ext hf
theorem PcsX.low (h : PcsX R0 T0 N w qs) (hM : M ≤ N) : PcsX R0 T0 M w qs := fun q hq => (h q hq).low hM
theorem PcsX.nil : PcsX R0 T0 N w [] := fun q hq => by cases hq
theorem PcsX.snoc {q : PQ} (h : PcsX R0 T0 N w qs) (hq : MotX R0 T0 N w (slv q.l) (slv q.t) (slv q.r) q.p.mot) : PcsX R0 T0 N w (qs ++ [q]) := fun x hx => by
 rcases List.mem_append.1 hx with hx | hx
 ·exact h x hx
 rw [List.mem_singleton.1 hx]; exact hq
theorem PcsX.q (h : PcsX R0 T0 N w qs) : PcsQ w qs := fun q hq => (h q hq).at
end
end Go.G14
namespace Go.Proofs.YthehggmdcmpjeaaGreatDoor
open Go.Lw Go.G14
end Go.Proofs.YthehggmdcmpjeaaGreatDoor
namespace Go.Proofs.YthehggmdcmpjeaaGreatDoor
open Go.Lw Go.G14
theorem pcs_p {qs qx : List PQ} (h : pcs qs = pcs qx) (i : Nat) : (qs.getD i pq0).p = (qx.getD i pq0).p := by rw [← pcs_get, ← pcs_get, h]
theorem pcs_ln {qs qx : List PQ} (h : pcs qs = pcs qx) : qx.length = qs.length := by rw [← pcs_len, ← h, pcs_len]
set_option maxHeartbeats 2000000 in
theorem gdiff_ok (nm : List UInt8) (u v : Value) (qs qx : List PQ) (w0 : World) (hs : Sl encPq w0 u qs) (ht : Sl encPq w0 v qx) (hQ : PcsQ w0 qs) (hX : PcsQ w0 qx) (he : pcs qs = pcs qx) : Rets Tryz.prog 17 #[.agg #[S nm, u], .agg #[S nm, v]] w0 fun r w' => r = .int .i64 0 ∧ Fr [] w0 w' := by
 obtain ⟨A, c, rfl, hcc, hM, hA⟩ := id hs
 clear hA
 unfold maxLen at hM
 obtain ⟨A2, c2_, rfl, hcc2, hM2, hA2⟩ := id ht
 clear hA2
 unfold maxLen at hM2
 have hln := pcs_ln he
 refine we [(0, .agg #[S nm, .slice A qs.length c]), (1, .agg #[S nm, .slice A2 qx.length c2_])] Tryz.func17 rfl Tryz.ntmps17 rfl (.c2 rfl rfl) ?_
 have hs0 := hs
 have ht0 := ht
 have hQ0 := hQ
 have hX0 := hX
 refine sr (bx rfl rfl rfl (fun g2 w1 hg2 hb2 q1 z1 => ?_))
 refine bx rfl rfl rfl (fun g3 w2 hg3 hb3 q2 z2 => ?_)
 refine asg rfl (nn (sq (sq ?_)))
 refine rbo (r := 21) (L' := [(2, _), (3, _)]) (((nm ≠ nm) ∨ ((qs.length : Int) ≠ (qx.length : Int)))) (.c2 rfl rfl) ?_ ?_
 ·refine fad rfl fa27_0 ?_
  replace hb2 := hb2.ext q2
  refine s_loadB rfl hb2 rfl na9 (fad rfl fa27_0 (s_loadB rfl hb3 rfl na9 (s_nes rfl rfl (mv rfl ?_))))
  refine gs 13 rfl (fun g0 => ?_) (fun g0 => ?_)
  ·exact gN rfl rfl rfl (gN rfl rfl rfl (gN rfl rfl rfl (gN rfl rfl rfl (gN rfl rfl rfl (gN rfl rfl rfl (gN rfl rfl rfl (pkt rfl rfl (rbe rfl (.c2 rfl rfl)))))))))
  refine gY rfl (fad rfl fa27_1 (gY rfl (s_loadB rfl hb2 rfl na25 (gY rfl (lnS rfl Tryz.underlying25 (gY rfl (fad rfl fa27_1 (gY rfl (s_loadB rfl hb3 rfl na25 (gY rfl (lnS rfl Tryz.underlying25 ?_)))))))))))
  exact gY rfl (ne' rfl rfl (pkf rfl rfl (rbe rfl (.c2 rfl rfl))))
 refine tn ?_
 refine cd rfl (fun c0 => ?_) (fun c0 => ?_)
 ·exfalso; rcases c0 with h | h
  ·exact h rfl
  omega
 refine sk (tn (sq (sr (asg rfl (nn (bl ?_))))))
 refine lpK (ι := Nat) [(2, _), (3, _)] (fun i => [(5, .int .i64 (i : Int))]) (fun i w' => Fr [] w2 w' ∧ i ≤ qs.length) (fun i => qs.length - i) 0 (.c3 rfl rfl rfl) ⟨Fr.refl _ _, Nat.zero_le _⟩ ?_
 rintro i w3 ⟨q3, hi⟩
 have z3 := q3.size
 refine kpC [(2, _), (3, _), (5, _)] (.c3 rfl rfl rfl) ?_
 refine sq (sr (mv rfl (fad rfl fa27_1 ?_)))
 replace hb2 := hb2.ext (q2.n1 q3)
 refine s_loadB rfl hb2 rfl na25 (lnS rfl Tryz.underlying25 (lt' rfl rfl (nn ?_)))
 refine cd rfl (fun c1 => ?_) (fun c1 => ?_)
 ·have hpi := pcs_p he i
  refine sk (tn (sq (bl ?_)))
  refine jn (ι := Nat × Nat) [(2, _), (3, _), (5, _)] (fun p => [(6, .pointer (some ⟨p.1, 0, none⟩)), (7, .pointer (some ⟨p.2, 0, none⟩))]) (fun p w' => Fr [] w3 w' ∧ Blk w' p.1 48 [S (qs.getD i pq0).p.nm, .slice (qs.getD i pq0).l.1 (qs.getD i pq0).l.2.1 (qs.getD i pq0).l.2.2, .slice (qs.getD i pq0).t.1 (qs.getD i pq0).t.2.1 (qs.getD i pq0).t.2.2, .slice (qs.getD i pq0).r.1 (qs.getD i pq0).r.2.1 (qs.getD i pq0).r.2.2, .int .i64 (qs.getD i pq0).p.ba, .int .i64 (qs.getD i pq0).p.st, .int .i64 (qs.getD i pq0).p.up, .int .i64 (qs.getD i pq0).p.ct] ∧ Blk w' p.2 48 [S (qx.getD i pq0).p.nm, .slice (qx.getD i pq0).l.1 (qx.getD i pq0).l.2.1 (qx.getD i pq0).l.2.2, .slice (qx.getD i pq0).t.1 (qx.getD i pq0).t.2.1 (qx.getD i pq0).t.2.2, .slice (qx.getD i pq0).r.1 (qx.getD i pq0).r.2.1 (qx.getD i pq0).r.2.2, .int .i64 (qx.getD i pq0).p.ba, .int .i64 (qx.getD i pq0).p.st, .int .i64 (qx.getD i pq0).p.up, .int .i64 (qx.getD i pq0).p.ct]) (.c3 rfl rfl rfl) ?_ ?_
  ·replace hs := hs0.ext (q1.n2 q2 q3)
   replace ht := ht0.ext (q1.n2 q2 q3)
   replace hb3 := hb3.ext q3
   intro a h
   refine region_heldP (some 13) (fun wb w' => Fr [] wb w') hmix ?_; intro w4 hq
   have z4 := hq.size
   replace hs := hs.ext hq
   replace ht := ht.ext hq
   replace hb2 := hb2.ext hq
   replace hb3 := hb3.ext hq
   have q4 := hq
   clear hq; have hC : Fr [] w4 w4 := Fr.refl _ _
   have hs_b := hs
   have ht_b := ht
   have hb2_b := hb2
   have hb3_b := hb3
   refine hd_fieldAddr 0 hC h wn rfl fa27_1 rfl ?_; clear h a; intro a h
   refine hd_loadB 1 hC h wn rfl (fun _ hw => hb2_b.ext hw) rfl na25 rfl ?_; clear h a; intro a h
   refine hd_move 2 hC h wn rfl rfl ?_; clear h a; intro a h
   refine hd_idxL (pq0) 3 hC h wn rfl hs rfl el25 rfl ?_ (hp := rfl); clear h a; intro ad32 hc32 a h
   refine hd_loadA 4 hC h wn rfl (fun _ hw => hc32 _ (hs_b.ext hw)) ag48 rfl rfl ?_; clear h a; intro a h
   refine hd_fieldAddr 5 hC h wn rfl fa27_1 rfl ?_; clear h a; intro a h
   refine hd_loadB 6 hC h wn rfl (fun _ hw => hb3_b.ext hw) rfl na25 rfl ?_; clear h a; intro a h
   refine hd_move 7 hC h wn rfl rfl ?_; clear h a; intro a h
   refine hd_idxL (pq0) 8 hC h wn rfl ht rfl el25 rfl ?_ (hp := rfl); clear h a; intro ad37 hc37 a h
   refine hd_loadA 9 hC h wn rfl (fun _ hw => hc37 _ (ht_b.ext hw)) ag48 rfl rfl ?_; clear h a; intro a h
   refine hd_two 10 11 (by kernel_rfl) rfl rfl ?_ ?_
   ·refine st_alloc h zv48 rfl ?_; clear h a; intro w5 hb6 hq hz a h
    obtain ⟨g_6, hg⟩ : ∃ g, g = w4.heap.size := ⟨_, rfl⟩; rw [← hg] at hb6 h hz
    have hn__6 : g2 < g_6 := by have := hb2.lt; omega
    have hn__6 : g3 < g_6 := by have := hb3.lt; omega
    have z5 := hq.size
    replace hs := hs.ext hq
    replace ht := ht.ext hq
    replace hb2 := hb2.ext hq
    replace hb3 := hb3.ext hq
    replace hC := hC.next hq
    have q5 := hq
    clear hq
    refine hd_next hC ?_
    refine hd_one 11 rfl ?_
    refine st_alloc h zv48 rfl ?_; clear h a; intro w6 hb7 hq hz a h
    obtain ⟨g_7, hg⟩ : ∃ g, g = w5.heap.size := ⟨_, rfl⟩; rw [← hg] at hb7 h hz
    have hn__7 : g2 < g_7 := by have := hb2.lt; omega
    have hn__7 : g3 < g_7 := by have := hb3.lt; omega
    have hn_6_7 : g_6 < g_7 := by have := hb6.lt; omega
    have z6 := hq.size
    replace hs := hs.ext hq
    replace ht := ht.ext hq
    replace hb2 := hb2.ext hq
    replace hb3 := hb3.ext hq
    replace hb6 := hb6.ext hq
    replace hC := hC.next hq
    have q6 := hq
    clear hq
    refine hd_next hC ?_
    refine hd_one 12 rfl ?_
    refine st_storeBA h rfl rfl hb6 rfl sz48 ?_; clear h a; intro w7 hbn hq hz a h
    have z7 := hq.size
    replace hb2 := hb2.fr hq (by simp[blks]<;>omega)
    replace hb3 := hb3.fr hq (by simp[blks]<;>omega)
    replace hb7 := hb7.fr hq (by simp[blks]<;>omega)
    replace hC := hC.sp hq
    have q7 := hq
    clear hb6 hq hz; have hb6 : Blk w7 g_6 _ [_, _, _, _, _, _, _, _] := hbn; clear hbn
    refine hd_next hC ?_
    refine hd_one 13 rfl ?_
    refine st_storeBA h rfl rfl hb7 rfl sz48 ?_; clear h a; intro w8 hbn hq hz a h
    have z8 := hq.size
    replace hb2 := hb2.fr hq (by simp[blks]<;>omega)
    replace hb3 := hb3.fr hq (by simp[blks]<;>omega)
    replace hb6 := hb6.fr hq (by simp[blks]<;>omega)
    have q8 := hq
    clear hb7 hq hz; have hb7 : Blk w8 g_7 _ [_, _, _, _, _, _, _, _] := hbn; clear hbn
    refine hd_past ?_
    refine hd_end ?_
    clear hC hs_b ht_b hb2_b hb3_b
    refine bk (h.sub (L' := [(2, _), (3, _), (5, _), (6, _), (7, _)]) (.c5 rfl rfl rfl rfl rfl)) ?_; clear h a
    exact jE ((g_6, g_7)) (.c5 rfl rfl rfl rfl rfl) ⟨(q4.z4 q5 q6 q7 q8), ⟨hb6, hb7⟩⟩
   refine st_alloc h zv48 rfl ?_; clear h a; intro w9 hb7 hq hz a h
   obtain ⟨g_7, hg⟩ : ∃ g, g = w4.heap.size := ⟨_, rfl⟩; rw [← hg] at hb7 h hz
   have hn__7 : g2 < g_7 := by have := hb2.lt; omega
   have hn__7 : g3 < g_7 := by have := hb3.lt; omega
   have z9 := hq.size
   replace hs := hs.ext hq
   replace ht := ht.ext hq
   replace hb2 := hb2.ext hq
   replace hb3 := hb3.ext hq
   replace hC := hC.next hq
   have q9 := hq
   clear hq
   refine hd_next hC ?_
   refine hd_one 10 rfl ?_
   refine st_alloc h zv48 rfl ?_; clear h a; intro w10 hb6 hq hz a h
   obtain ⟨g_6, hg⟩ : ∃ g, g = w9.heap.size := ⟨_, rfl⟩; rw [← hg] at hb6 h hz
   have hn__6 : g2 < g_6 := by have := hb2.lt; omega
   have hn__6 : g3 < g_6 := by have := hb3.lt; omega
   have hn_7_6 : g_7 < g_6 := by have := hb7.lt; omega
   have z10 := hq.size
   replace hs := hs.ext hq
   replace ht := ht.ext hq
   replace hb2 := hb2.ext hq
   replace hb3 := hb3.ext hq
   replace hb7 := hb7.ext hq
   replace hC := hC.next hq
   have q10 := hq
   clear hq
   refine hd_next hC ?_
   refine hd_one 12 rfl ?_
   refine st_storeBA h rfl rfl hb6 rfl sz48 ?_; clear h a; intro w11 hbn hq hz a h
   have z11 := hq.size
   replace hb2 := hb2.fr hq (by simp[blks]<;>omega)
   replace hb3 := hb3.fr hq (by simp[blks]<;>omega)
   replace hb7 := hb7.fr hq (by simp[blks]<;>omega)
   replace hC := hC.sp hq
   have q11 := hq
   clear hb6 hq hz; have hb6 : Blk w11 g_6 _ [_, _, _, _, _, _, _, _] := hbn; clear hbn
   refine hd_next hC ?_
   refine hd_one 13 rfl ?_
   refine st_storeBA h rfl rfl hb7 rfl sz48 ?_; clear h a; intro w12 hbn hq hz a h
   have z12 := hq.size
   replace hb2 := hb2.fr hq (by simp[blks]<;>omega)
   replace hb3 := hb3.fr hq (by simp[blks]<;>omega)
   replace hb6 := hb6.fr hq (by simp[blks]<;>omega)
   have q12 := hq
   clear hb7 hq hz; have hb7 : Blk w12 g_7 _ [_, _, _, _, _, _, _, _] := hbn; clear hbn
   refine hd_past ?_
   refine hd_end ?_
   clear hC hs_b ht_b hb2_b hb3_b
   refine bk (h.sub (L' := [(2, _), (3, _), (5, _), (6, _), (7, _)]) (.c5 rfl rfl rfl rfl rfl)) ?_; clear h a
   exact jE ((g_6, g_7)) (.c5 rfl rfl rfl rfl rfl) ⟨(q4.z4 q9 q10 q11 q12), ⟨hb6, hb7⟩⟩
  rintro ⟨g6, g7⟩ w13 ⟨q13, ⟨hb6, hb7⟩⟩
  have z13 := q13.size
  have lt_hb6 := hb6.lt
  have lt_hb7 := hb7.lt
  refine kpC [(2, _), (3, _), (5, _), (6, _), (7, _)] (.c5 rfl rfl rfl rfl rfl) ?_
  refine sq ?_
  replace hQ := hQ0.ext (q1.n3 q2 q3 q13)
  replace hX := hX0.ext (q1.n3 q2 q3 q13)
  intro a h
  refine region_heldP none (fun wb w' => Fr [] wb w') hmix ?_; intro w14 hq
  have z14 := hq.size
  replace hQ := hQ.ext hq
  replace hX := hX.ext hq
  replace hb6 := hb6.ext hq
  replace hb7 := hb7.ext hq
  have q14 := hq
  clear hq; have hC : Fr [] w14 w14 := Fr.refl _ _
  have hQ_b := hQ
  have hX_b := hX
  have hb6_b := hb6
  have hb7_b := hb7
  refine hd_fieldAddr 0 hC h wn rfl fa48_0 rfl ?_; clear h a; intro a h
  refine hd_loadB 1 hC h wn rfl (fun _ hw => hb6_b.ext hw) rfl na9 rfl ?_; clear h a; intro a h
  refine hd_fieldAddr 2 hC h wn rfl fa48_0 rfl ?_; clear h a; intro a h
  refine hd_loadB 3 hC h wn rfl (fun _ hw => hb7_b.ext hw) rfl na9 rfl ?_; clear h a; intro a h
  refine hd_nes 4 hC h wn rfl rfl rfl rfl ?_; clear h a; intro a h
  refine hd_move 5 hC h wn rfl rfl ?_; clear h a; intro a h
  refine guard_dec (D := 44) h rfl (fun hh => absurd hh (by exact fun e => e (by rw [hpi]))) ?_
  clear h; intro g1 h
  refine hd_fieldAddr 6 hC h (wy rfl) rfl fa48_2 rfl ?_; clear h a; intro a h
  refine hd_loadB 7 hC h (wy rfl) rfl (fun _ hw => hb6_b.ext hw) rfl na3 rfl ?_; clear h a; intro a h
  refine hd_fieldAddr 8 hC h (wy rfl) rfl fa48_2 rfl ?_; clear h a; intro a h
  refine hd_loadB 9 hC h (wy rfl) rfl (fun _ hw => hb7_b.ext hw) rfl na3 rfl ?_; clear h a; intro a h
  refine hd_ne 10 hC h (wy rfl) rfl rfl rfl ?_; clear h a; intro a h
  refine hd_one 11 rfl ?_
  refine st_pick_f h rfl rfl ?_; clear h a; intro a h
  refine hd_next hC ?_
  refine hd_move 12 hC h wn rfl rfl ?_; clear h a; intro a h
  refine guard_dec (D := 51) h rfl (fun hh => absurd hh (by exact fun e => e (by rw [hpi]))) ?_
  clear h; intro g2 h
  refine hd_fieldAddr 13 hC h (wy rfl) rfl fa48_3 rfl ?_; clear h a; intro a h
  refine hd_loadB 14 hC h (wy rfl) rfl (fun _ hw => hb6_b.ext hw) rfl na3 rfl ?_; clear h a; intro a h
  refine hd_fieldAddr 15 hC h (wy rfl) rfl fa48_3 rfl ?_; clear h a; intro a h
  refine hd_loadB 16 hC h (wy rfl) rfl (fun _ hw => hb7_b.ext hw) rfl na3 rfl ?_; clear h a; intro a h
  refine hd_ne 17 hC h (wy rfl) rfl rfl rfl ?_; clear h a; intro a h
  refine hd_one 18 rfl ?_
  refine st_pick_f h rfl rfl ?_; clear h a; intro a h
  refine hd_next hC ?_
  refine hd_move 19 hC h wn rfl rfl ?_; clear h a; intro a h
  refine guard_dec (D := 58) h rfl (fun hh => absurd hh (by exact fun e => e (by rw [hpi]))) ?_
  clear h; intro g3 h
  refine hd_fieldAddr 20 hC h (wy rfl) rfl fa48_4 rfl ?_; clear h a; intro a h
  refine hd_loadB 21 hC h (wy rfl) rfl (fun _ hw => hb6_b.ext hw) rfl na3 rfl ?_; clear h a; intro a h
  refine hd_fieldAddr 22 hC h (wy rfl) rfl fa48_4 rfl ?_; clear h a; intro a h
  refine hd_loadB 23 hC h (wy rfl) rfl (fun _ hw => hb7_b.ext hw) rfl na3 rfl ?_; clear h a; intro a h
  refine hd_ne 24 hC h (wy rfl) rfl rfl rfl ?_; clear h a; intro a h
  refine hd_one 25 rfl ?_
  refine st_pick_f h rfl rfl ?_; clear h a; intro a h
  refine hd_next hC ?_
  refine hd_move 26 hC h wn rfl rfl ?_; clear h a; intro a h
  refine guard_dec (D := 65) h rfl (fun hh => absurd hh (by exact fun e => e (by rw [hpi]))) ?_
  clear h; intro g4 h
  refine hd_fieldAddr 27 hC h (wy rfl) rfl fa48_5 rfl ?_; clear h a; intro a h
  refine hd_loadB 28 hC h (wy rfl) rfl (fun _ hw => hb6_b.ext hw) rfl na3 rfl ?_; clear h a; intro a h
  refine hd_fieldAddr 29 hC h (wy rfl) rfl fa48_5 rfl ?_; clear h a; intro a h
  refine hd_loadB 30 hC h (wy rfl) rfl (fun _ hw => hb7_b.ext hw) rfl na3 rfl ?_; clear h a; intro a h
  refine hd_ne 31 hC h (wy rfl) rfl rfl rfl ?_; clear h a; intro a h
  refine hd_one 32 rfl ?_
  refine st_pick_f h rfl rfl ?_; clear h a; intro a h
  refine hd_next hC ?_
  refine hd_move 33 hC h wn rfl rfl ?_; clear h a; intro a h
  refine guard_dec (D := 72) h rfl (fun hh => absurd hh (by exact fun e => e (by rw [hpi]))) ?_
  clear h; intro g5 h
  refine hd_fieldAddr 34 hC h (wy rfl) rfl fa48_1 rfl ?_; clear h a; intro a h
  refine hd_fad2 35 hC h (wy rfl) rfl fa46_0 rfl rfl ?_; clear h a; intro a h
  refine hd_loadBP (vs := [_]) 36 hC h (wy rfl) rfl (fun _ hw => (hb6_b.ext hw)) ag42 rfl rfl ?_; clear h a; intro a h
  refine hd_fieldAddr 37 hC h (wy rfl) rfl fa48_1 rfl ?_; clear h a; intro a h
  refine hd_fad2 38 hC h (wy rfl) rfl fa46_0 rfl rfl ?_; clear h a; intro a h
  refine hd_loadBP (vs := [_]) 39 hC h (wy rfl) rfl (fun _ hw => (hb7_b.ext hw)) ag42 rfl rfl ?_; clear h a; intro a h
  refine hd_fieldAddr 41 hC h (wy rfl) rfl fa48_1 rfl ?_; clear h a; intro a h
  refine hd_fad2 42 hC h (wy rfl) rfl fa46_1 rfl rfl ?_; clear h a; intro a h
  refine hd_loadBP (vs := [_]) 43 hC h (wy rfl) rfl (fun _ hw => (hb6_b.ext hw)) ag42 rfl rfl ?_; clear h a; intro a h
  refine hd_fieldAddr 44 hC h (wy rfl) rfl fa48_1 rfl ?_; clear h a; intro a h
  refine hd_fad2 45 hC h (wy rfl) rfl fa46_1 rfl rfl ?_; clear h a; intro a h
  refine hd_loadBP (vs := [_]) 46 hC h (wy rfl) rfl (fun _ hw => (hb7_b.ext hw)) ag42 rfl rfl ?_; clear h a; intro a h
  refine hd_fieldAddr 49 hC h (wy rfl) rfl fa48_1 rfl ?_; clear h a; intro a h
  refine hd_fad2 50 hC h (wy rfl) rfl fa46_2 rfl rfl ?_; clear h a; intro a h
  refine hd_loadBP (vs := [_]) 51 hC h (wy rfl) rfl (fun _ hw => (hb6_b.ext hw)) ag42 rfl rfl ?_; clear h a; intro a h
  refine hd_fieldAddr 52 hC h (wy rfl) rfl fa48_1 rfl ?_; clear h a; intro a h
  refine hd_fad2 53 hC h (wy rfl) rfl fa46_2 rfl rfl ?_; clear h a; intro a h
  refine hd_loadBP (vs := [_]) 54 hC h (wy rfl) rfl (fun _ hw => (hb7_b.ext hw)) ag42 rfl rfl ?_; clear h a; intro a h
  refine hd_one 40 rfl ?_
  refine gd_yes h rfl rfl rfl rfl rfl rfl ?_
  refine st_call h (evs_cons rfl (evs_cons rfl evs_nil)) co11 (differ2_ok _ _ (qs.getD i pq0).p.mot.L (qx.getD i pq0).p.mot.L _ (hQ.at (show i < qs.length by omega)).L (hX.at (show i < qx.length by omega)).L) ?_; clear h a; rintro _ w15 ⟨rfl, hq⟩ a h
  have z15 := hq.size
  replace hQ := hQ.ext hq
  replace hX := hX.ext hq
  replace hb6 := hb6.ext hq
  replace hb7 := hb7.ext hq
  replace hC := hC.next hq
  have q15 := hq
  rw [if_pos (by rw [hpi])] at h
  refine hd_next hC ?_
  refine hd_one 47 rfl ?_
  refine gd_yes h rfl rfl rfl rfl rfl rfl ?_
  refine st_call h (evs_cons rfl (evs_cons rfl evs_nil)) co11 (differ2_ok _ _ (qs.getD i pq0).p.mot.T (qx.getD i pq0).p.mot.T _ (hQ.at (show i < qs.length by omega)).T (hX.at (show i < qx.length by omega)).T) ?_; clear h a; rintro _ w16 ⟨rfl, hq⟩ a h
  have z16 := hq.size
  replace hQ := hQ.ext hq
  replace hX := hX.ext hq
  replace hb6 := hb6.ext hq
  replace hb7 := hb7.ext hq
  replace hC := hC.next hq
  have q16 := hq
  rw [if_pos (by rw [hpi])] at h
  refine hd_next hC ?_
  refine hd_add 48 hC h (wy rfl) rfl rfl (by first | exact i6 (by omega) | rfl) rfl ?_; clear h a; intro a h
  refine hd_one 55 rfl ?_
  refine gd_yes h rfl rfl rfl rfl rfl rfl ?_
  refine st_call h (evs_cons rfl (evs_cons rfl evs_nil)) co11 (differ2_ok _ _ (qs.getD i pq0).p.mot.R (qx.getD i pq0).p.mot.R _ (hQ.at (show i < qs.length by omega)).R (hX.at (show i < qx.length by omega)).R) ?_; clear h a; rintro _ w17 ⟨rfl, hq⟩ a h
  have z17 := hq.size
  replace hQ := hQ.ext hq
  replace hX := hX.ext hq
  replace hb6 := hb6.ext hq
  replace hb7 := hb7.ext hq
  replace hC := hC.next hq
  have q17 := hq
  rw [if_pos (by rw [hpi])] at h
  refine hd_next hC ?_
  refine hd_add 56 hC h (wy rfl) rfl rfl (by first | exact i6 (by omega) | rfl) rfl ?_; clear h a; intro a h
  refine hd_ne 57 hC h (wy rfl) rfl rfl rfl ?_; clear h a; intro a h
  refine hd_one 58 rfl ?_
  refine st_pick_f h rfl rfl ?_; clear h a; intro a h
  refine hd_next hC ?_
  refine hd_end ?_
  clear hC hQ_b hX_b hb6_b hb7_b
  refine bk (h.sub (L' := [(2, _), (3, _), (5, _), (97, _)]) (.c4 rfl rfl rfl rfl)) ?_; clear h a
  refine tn ?_
  refine cd rfl (fun c2 => ?_) (fun c2 => ?_)
  ·exact absurd c2 (by simp)
  refine sk (bn' (tn (rg (mv rfl (s_add rfl rfl (wi6 (by omega)) (asg rfl (nl ?_)))))))
  exact lpE (i + 1) (.c3 rfl rfl rfl) ⟨(q3.n5 q13 q14 q15 q16 q17), by omega⟩ (by omega)
 obtain rfl : i = qs.length := by omega
 refine ex (te (te (xh (tn (sr (asg rfl (nn (rt (r1 Tryz.results17 rfl ?_)))))))))
 exact ⟨_, rfl, rfl, (q1.n2 q2 q3)⟩
end Go.Proofs.YthehggmdcmpjeaaGreatDoor
namespace Go.Proofs.YthehggmdcmpjeaaGreatDoor
open Go.Lw Go.G14
theorem co17 : CallOf Tryz.prog 17 := mkC Tryz.func17
end Go.Proofs.YthehggmdcmpjeaaGreatDoor
namespace Go.Lw
open Go.RowKit
structure MOp where
  k : Int
  d : Int
  b : Int
  p : Int
  y : Int
  r : Int
theorem MOp.ext' {a c : MOp} (h : a.k = c.k ∧ a.d = c.d ∧ a.b = c.b ∧ a.p = c.p ∧ a.y = c.y ∧ a.r = c.r) : a = c := by
 obtain ⟨h1, h2, h3, h4, h5, h6⟩ := h; cases a; cases c; simp only at *; subst h1 h2 h3 h4 h5 h6; rfl
instance : DecidableEq MOp := fun a c =>
  if h : a.k = c.k ∧ a.d = c.d ∧ a.b = c.b ∧ a.p = c.p ∧ a.y = c.y ∧ a.r = c.r then isTrue (MOp.ext' h)
  else isFalse (fun e => h (by subst e; exact ⟨rfl, rfl, rfl, rfl, rfl, rfl⟩))
def op0 : MOp := ⟨0, 0, 0, 0, 0, 0⟩
def nchk (b p : Int) : Int := if b ≠ 0 ∧ b ≠ 1 then 1 else if p < 1 ∨ 40 < p then 1 else 0
abbrev F4 := Bool × Bool × Bool × Bool
def f40 : F4 := (false, false, false, false)
def usesS (k : Int) : Option F4 :=
  if k = 8 then some (false, true, false, false) else if k = 7 then some (false, true, false, false) else if k = 6 then some (true, true, true, false)
  else if k = 5 then some (true, true, true, false) else if k = 4 then some (true, true, true, false) else if k = 3 then some (false, false, false, true)
  else if k = 2 then some (false, false, true, false) else if k = 1 then some (true, false, true, false) else none
abbrev pl1 (f : F4) (o : MOp) : Prop := (f.1 = true ∧ o.d ≠ 0) ∧ o.d ≠ 1 ∨ ¬ f.1 = true ∧ o.d ≠ 0
abbrev pl2 (f : F4) (o : MOp) : Prop := f.2.1 = true ∧ nchk o.b o.p ≠ 0 ∨ ¬ f.2.1 = true ∧ ¬ (o.b = 0 ∧ o.p = 0)
abbrev pl3 (f : F4) (o : MOp) : Prop := f.2.2.1 = true ∧ (o.y < 1 ∨ 6 < o.y) ∨ ¬ f.2.2.1 = true ∧ o.y ≠ 0
abbrev pl4 (f : F4) (o : MOp) : Prop := f.2.2.2 = true ∨ o.r = 0
def plainF (f : F4) (o : MOp) : Prop := ¬ pl1 f o ∧ ¬ pl2 f o ∧ ¬ pl3 f o ∧ pl4 f o
instance (f : F4) (o : MOp) : Decidable (plainF f o) := by unfold plainF; infer_instance
def plainS (o : MOp) : Prop := (usesS o.k).isSome = true ∧ plainF ((usesS o.k).getD f40) o
instance (o : MOp) : Decidable (plainS o) := by unfold plainS; infer_instance
def chkO (o : MOp) : Int := if ¬ plainS o then 1 else if o.r < -4 ∨ 4 < o.r then 11 else 0
def dig1 (n : Nat) : UInt8 := UInt8.ofNat (48 + n)
def dec0 (n : Nat) : List UInt8 := if n < 10 then [dig1 n] else [dig1 (n / 10), dig1 (n % 10)]
def dec2 (n : Int) : List UInt8 := if n < 0 then 45 :: dec0 n.natAbs else dec0 n.toNat
def wordsL : List (List UInt8) := [[], [105, 110], [111, 117, 116], [114, 97, 99, 107], [107, 110, 105, 116], [116, 117, 99, 107], [109, 105, 115, 115], [120, 102, 101, 114], [100, 114, 111, 112]]
def dirsL : List (List UInt8) := [[108, 101, 102, 116], [114, 105, 103, 104, 116]]
def wordS (k : Int) : List UInt8 := wordsL.getD k.toNat []
def dirS (d : Int) : List UInt8 := dirsL.getD d.toNat []
def txtN (b p : Int) : List UInt8 := if nchk b p ≠ 0 then [] else if b = 0 then [102] ++ dec2 p else [98] ++ dec2 p
def tailO (o : MOp) : List (List UInt8) :=
  if o.k = 1 then [dec2 o.y, dirS o.d] else if o.k = 2 then [dec2 o.y] else if o.k = 3 then [dec2 o.r]
  else if (o.k = 4 ∨ o.k = 5) ∨ o.k = 6 then [dirS o.d, txtN o.b o.p, dec2 o.y] else if o.k = 7 ∨ o.k = 8 then [txtN o.b o.p] else []
def txtO (o : MOp) : List UInt8 := if chkO o ≠ 0 then [] else Lib.join (wordS o.k :: tailO o) [32]
def isDg (c : UInt8) : Bool := decide (48 ≤ (c.toNat : Int) ∧ (c.toNat : Int) ≤ 57)
def dgStep (n : Int) (c : UInt8) : Int := 10 * n + ((c.toNat : Int) - 48)
def dgVal (l : List UInt8) : Int := l.foldl dgStep 0
def parB (l : List UInt8) : Option Int := if ((l.getD 0 0).toNat : Int) = 102 then some 0 else if ((l.getD 0 0).toNat : Int) = 98 then some 1 else none
def parN (l : List UInt8) : Int × Int :=
  if (l.length : Int) < 2 ∨ 3 < (l.length : Int) then (0, 0) else
  match parB l with
  | none => (0, 0)
  | some b => if (l.drop 1).all isDg = false then (0, 0) else if txtN b (dgVal (l.drop 1)) ≠ l then (0, 0) else (b, dgVal (l.drop 1))
def numS (l : List UInt8) : Int := match Lib.atoiAll l with | .ok v => v | _ => 0
def dirQ (l : List UInt8) : Int := if l = [114, 105, 103, 104, 116] then 1 else 0
def kindF (w : List UInt8) : Nat → Int
  | 0 => 0
  | i + 1 => if wordsL.getD i [] = w then (i : Int) else kindF w i
def kindS (w : List UInt8) : Int := kindF w 9
def fD (k : Int) : Bool := ((usesS k).getD f40).1
def fN (k : Int) : Bool := ((usesS k).getD f40).2.1
def guessK (k : Int) (ws : List (List UInt8)) : MOp :=
  if k = 1 ∧ (ws.length : Int) = 3 then ⟨k, dirQ (ws.getD 2 []), 0, 0, numS (ws.getD 1 []) % 256, 0⟩
  else if k = 2 ∧ (ws.length : Int) = 2 then ⟨k, 0, 0, 0, numS (ws.getD 1 []) % 256, 0⟩
  else if k = 3 ∧ (ws.length : Int) = 2 then ⟨k, 0, 0, 0, 0, numS (ws.getD 1 [])⟩
  else if fD k = true ∧ (ws.length : Int) = 4 then ⟨k, dirQ (ws.getD 1 []), (parN (ws.getD 2 [])).1, (parN (ws.getD 2 [])).2, numS (ws.getD 3 []) % 256, 0⟩
  else if fN k = true ∧ (ws.length : Int) = 2 then ⟨k, 0, (parN (ws.getD 1 [])).1, (parN (ws.getD 1 [])).2, 0, 0⟩
  else ⟨k, 0, 0, 0, 0, 0⟩
def guessS (ws : List (List UInt8)) : MOp := guessK (kindS (ws.getD 0 [])) ws
def parseS (l : List UInt8) : MOp × Int :=
  if chkO (guessS (Lib.split l [32])) ≠ 0 ∨ txtO (guessS (Lib.split l [32])) ≠ l then (op0, 4) else (guessS (Lib.split l [32]), 0)
theorem splitK_len (sep : List UInt8) : ∀ (k : Nat) (l x : List UInt8), x ∈ Lib.splitK sep 0 k l → x.length ≤ l.length
 | 0, l, x, h => by simp [Lib.splitK] at h; rw [h]; exact Nat.le_refl _
 | k + 1, l, x, h => by
  unfold Lib.splitK at h
  split at h
  ·simp at h; rw [h]; exact Nat.le_refl _
  rw [List.mem_cons] at h
  rcases h with rfl | h
  ·simp; omega
  have := splitK_len sep k _ x h
  simp at this; omega
theorem split_len (l sep : List UInt8) (i : Nat) : ((Lib.split l sep).getD i []).length ≤ l.length := by
 rw [List.getD]
 cases e : (Lib.split l sep)[i]? with
 | none => simp
 | some y => exact splitK_len sep _ l y (List.mem_of_getElem? e)
end Go.Lw
namespace Go.Lw
theorem ix_none {c : UInt8} : ∀ {l : List UInt8}, c ∉ l → Lib.index l [c] = -1
 | [], _ => by simp [Lib.index]
 | b :: l, h => by
  have hb : ¬ c = b := fun e => h (by rw [e]; simp)
  have hl : c ∉ l := fun e => h (by simp [e])
  rw [Lib.index, ix_none hl]
  simp [List.isPrefixOf, hb]
theorem ix_app {c : UInt8} (y : List UInt8) : ∀ {x : List UInt8}, c ∉ x → Lib.index (x ++ c :: y) [c] = x.length
 | [], _ => by simp [Lib.index, List.isPrefixOf]
 | b :: x, h => by
  have hb : ¬ c = b := fun e => h (by rw [e]; simp)
  have hl : c ∉ x := fun e => h (by simp [e])
  rw [List.cons_append, Lib.index, ix_app y hl]
  simp only [List.isPrefixOf, beq_eq_false_iff_ne.2 hb, Bool.false_and, Bool.false_eq_true, if_false]
  rw [if_neg (by simp <;> omega)]; simp
theorem cnt {c : UInt8} : ∀ (f : Nat) (s : List UInt8), s.length < f → Lib.countFrom [c] f s = s.count c
 | 0, s, h => by omega
 | f + 1, s, h => by
  rw [Lib.countFrom]
  by_cases hm : c ∈ s
  ·obtain ⟨x, y, rfl, hx⟩ := List.eq_append_cons_of_mem hm
   rw [ix_app y hx, if_neg (by simp <;> omega)]
   have e : (x ++ c :: y).drop ((x.length : Int).toNat + [c].length) = y := by
    rw [Int.toNat_natCast, show x ++ c :: y = (x ++ [c]) ++ y by simp, show x.length + [c].length = (x ++ [c]).length by simp, List.drop_left]
   rw [e, cnt f y (by simp at h; omega)]
   simp [List.count_eq_zero.2 hx]; omega
  rw [ix_none hm, if_pos (by decide), List.count_eq_zero.2 hm]
theorem cnt' (c : UInt8) (s : List UInt8) : Lib.count s [c] = s.count c := cnt _ _ (Nat.lt_succ_self _)
theorem split_app {c : UInt8} (y : List UInt8) {x : List UInt8} (hx : c ∉ x) : Lib.split (x ++ c :: y) [c] = x :: Lib.split y [c] := by
 unfold Lib.split
 rw [cnt', cnt', List.count_append, List.count_cons_self, List.count_eq_zero.2 hx, Nat.zero_add, Lib.splitK, ix_app y hx, if_neg (by simp <;> omega)]
 have e : (x ++ c :: y).drop ((x.length : Int).toNat + [c].length) = y := by
  rw [Int.toNat_natCast, show x ++ c :: y = (x ++ [c]) ++ y by simp, show x.length + [c].length = (x ++ [c]).length by simp, List.drop_left]
 rw [e]; simp
theorem split_one {c : UInt8} {x : List UInt8} (hx : c ∉ x) : Lib.split x [c] = [x] := by
 unfold Lib.split
 rw [cnt', List.count_eq_zero.2 hx]; rfl
end Go.Lw
namespace Go.G14
open Go.Lw
def numW (w : List UInt8) : Option Int :=
  if w = [] ∨ (1 < w.length ∧ w.getD 0 0 = 48) then none
  else if w.all isDig = false then none
  else match Lib.atoiAll w with
    | .ok v => some v
    | _ => none
def numsW : List (List UInt8) → Option (List Int)
  | [] => some []
  | w :: ws => match numW w with
    | none => none
    | some n => match numsW ws with
      | none => none
      | some ns => some (n :: ns)
def pieceW (l : List UInt8) : Option Pc :=
  if (Lib.split l [32]).length ≠ 5 then none else
  match numsW ((Lib.split l [32]).drop 1) with
  | none => none
  | some ns => some ⟨(Lib.split l [32]).getD 0 [], ⟨[], [], []⟩, ns.getD 1 0, ns.getD 2 0, ns.getD 3 0, ns.getD 0 0⟩
def rowW (t : List UInt8) : Option (List Stitch) := if t = [45] then some [] else if (expandS t).2 = 0 then some (expandS t).1 else none
def blockF : List (List UInt8) → Option RowL
  | [] => some []
  | t :: ts => match rowW t with
    | none => none
    | some r => match blockF ts with
      | none => none
      | some rs => some (r :: rs)
def blockW (l : List UInt8) : Option RowL := blockF (Lib.split l [32, 124, 32])
def headW (w l : List UInt8) : Option (List UInt8) := if w ++ [32] <+: l then some (l.drop (w.length + 1)) else none
def setL (p : Pc) (c : RowL) : Pc := ⟨p.nm, ⟨c, p.mot.T, p.mot.R⟩, p.ba, p.st, p.up, p.ct⟩
def setT (p : Pc) (c : RowL) : Pc := ⟨p.nm, ⟨p.mot.L, c, p.mot.R⟩, p.ba, p.st, p.up, p.ct⟩
def setR (p : Pc) (c : RowL) : Pc := ⟨p.nm, ⟨p.mot.L, p.mot.T, c⟩, p.ba, p.st, p.up, p.ct⟩
inductive Ph where
  | gar | next
  | left (p : Pc) | tile (p : Pc) | right (p : Pc)
abbrev GSt := List UInt8 × List Pc × Ph
def garStep (l : List UInt8) : Option GSt := match headW wGarment l with
  | none => none
  | some b => if 32 ∈ b then none else some (b, [], .next)
def nextStep (nm : List UInt8) (ps : List Pc) (l : List UInt8) : Option GSt := match headW wPiece l with
  | none => none
  | some b => match pieceW b with
    | none => none
    | some p => some (nm, ps, .left p)
def tileStep (nm : List UInt8) (ps : List Pc) (p : Pc) (l : List UInt8) : Option GSt := match headW wTile l with
  | none => none
  | some b => match blockW b with
    | none => none
    | some c => some (nm, ps, .right (setT p c))
def leftStep (nm : List UInt8) (ps : List Pc) (p : Pc) (l : List UInt8) : Option GSt := match headW wLeft l with
  | none => tileStep nm ps p l
  | some b => match blockW b with
    | none => none
    | some c => some (nm, ps, .tile (setL p c))
def rightStep (nm : List UInt8) (ps : List Pc) (p : Pc) (l : List UInt8) : Option GSt := match headW wRight l with
  | none => nextStep nm (ps ++ [p]) l
  | some b => match blockW b with
    | none => none
    | some c => some (nm, ps ++ [setR p c], .next)
def stepG : GSt → List UInt8 → Option GSt
  | (_, _, .gar), l => garStep l
  | (nm, ps, .next), l => nextStep nm ps l
  | (nm, ps, .left p), l => leftStep nm ps p l
  | (nm, ps, .tile p), l => tileStep nm ps p l
  | (nm, ps, .right p), l => rightStep nm ps p l
def doneG : GSt → Option (List UInt8 × List Pc)
  | (nm, ps, .next) => if ps = [] then none else some (nm, ps)
  | (nm, ps, .right p) => some (nm, ps ++ [p])
  | _ => none
def readF : Nat → List UInt8 → Int → GSt → Option (List UInt8 × List Pc) × Int
  | 0, _, n, _ => (none, n + 1)
  | f + 1, s, n, st =>
    if s = [] then (match doneG st with | none => (none, n + 1) | some r => (some r, 0))
    else if (Lib.cut s [10]).2.2 = false then (none, n + 1)
    else match stepG st (Lib.cut s [10]).1 with
      | none => (none, n + 1)
      | some st' => readF f (Lib.cut s [10]).2.1 (n + 1) st'
def readG (s : List UInt8) : Option (List UInt8 × List Pc) × Int := readF (s.length + 1) s 0 ([], [], .gar)
def stepsG : GSt → List (List UInt8) → Option GSt
  | st, [] => some st
  | st, l :: ls => match stepG st l with
    | none => none
    | some st' => stepsG st' ls
def linesG (ls : List (List UInt8)) : List UInt8 := (ls.map fun l => l ++ [10]).flatten
theorem cut_ln {l s : List UInt8} (h : (10 : UInt8) ∉ l) : Lib.cut (l ++ 10 :: s) [10] = (l, s, true) := by
 unfold Lib.cut
 rw [ix_app s h, if_pos (by omega)]
 simp only [Int.toNat_natCast, List.take_left, Prod.mk.injEq, true_and, and_true]
 rw [List.drop_append, List.drop_of_length_le (by simp), List.nil_append]
 simp
theorem read_lines : ∀ (ls : List (List UInt8)) (f : Nat) (t : List UInt8) (n : Int) (st st' : GSt), (∀ l ∈ ls, (10 : UInt8) ∉ l) → stepsG st ls = some st' → readF (f + ls.length) (linesG ls ++ t) n st = readF f t (n + ls.length) st'
 | [], f, t, n, st, st', _, h => by cases h; simp [linesG]
 | l :: ls, f, t, n, st, st', hl, h => by
  have e : linesG (l :: ls) ++ t = l ++ 10 :: (linesG ls ++ t) := by simp [linesG]
  rw [e, show f + (l :: ls).length = (f + ls.length) + 1 by simp; omega, readF, if_neg (by simp), cut_ln (hl l (by simp)), if_neg (by simp)]
  rw [stepsG] at h
  cases hs : stepG st l with
  | none => rw [hs] at h; cases h
  | some s1 =>
   rw [hs] at h
   simp only
   rw [read_lines ls f t (n + 1) s1 st' (fun q hq => hl q (by simp [hq])) h]
   congr 1
   rw [List.length_cons]; omega
theorem read_late : ∀ (f : Nat) (s : List UInt8) (n : Int) (st : GSt), (readF f s n st).1 = none → n + 1 ≤ (readF f s n st).2
 | 0, s, n, st, _ => Int.le_refl _
 | f + 1, s, n, st, h => by
  rw [readF] at h ⊢
  split
  ·split
   ·exact Int.le_refl _
   rename_i h1 _ _ h2; rw [if_pos h1, h2] at h; cases h
  rename_i h1
  rw [if_neg h1] at h
  split
  ·exact Int.le_refl _
  rename_i h2
  rw [if_neg h2] at h
  split
  ·exact Int.le_refl _
  rename_i st' h3
  rw [h3] at h
  have := read_late f _ (n + 1) st' h
  omega
end Go.G14
namespace Go.G14
open Go.Lw
theorem ixb_none : ∀ {l : List UInt8}, (124 : UInt8) ∉ l → Lib.index l [32, 124, 32] = -1
 | [], _ => by simp [Lib.index]
 | b :: l, h => by
  have hl : (124 : UInt8) ∉ l := fun e => h (by simp [e])
  rw [Lib.index, ixb_none hl]
  have : List.isPrefixOf [32, 124, 32] (b :: l) = false := by
   cases l with
   | nil => simp [List.isPrefixOf]
   | cons c l =>
    have hc : ¬ (124 : UInt8) = c := fun e => hl (by simp [e])
    simp [List.isPrefixOf, hc]
  simp [this]
theorem ixb_app (y : List UInt8) : ∀ {x : List UInt8}, (124 : UInt8) ∉ x → Lib.index (x ++ 32 :: 124 :: 32 :: y) [32, 124, 32] = x.length
 | [], _ => by simp [Lib.index, List.isPrefixOf]
 | b :: x, h => by
  have hl : (124 : UInt8) ∉ x := fun e => h (by simp [e])
  rw [List.cons_append, Lib.index, ixb_app y hl]
  have : List.isPrefixOf [32, 124, 32] (b :: (x ++ 32 :: 124 :: 32 :: y)) = false := by
   cases x with
   | nil => simp [List.isPrefixOf]
   | cons c x =>
    have hc : ¬ (124 : UInt8) = c := fun e => hl (by simp [e])
    simp [List.isPrefixOf, hc]
  simp only [this, Bool.false_eq_true, if_false]
  rw [if_neg (by simp <;> omega)]; simp
theorem splitb_app (y : List UInt8) {x : List UInt8} (hx : (124 : UInt8) ∉ x) : Lib.split (x ++ 32 :: 124 :: 32 :: y) [32, 124, 32] = x :: Lib.split y [32, 124, 32] := by
 have e : (x ++ 32 :: 124 :: 32 :: y).drop (x.length + ([32, 124, 32] : List UInt8).length) = y := by
  rw [show x ++ 32 :: 124 :: 32 :: y = (x ++ [32, 124, 32]) ++ y by simp, List.drop_left' (by simp)]
 unfold Lib.split
 rw [Lib.count_hit (by simp) (ixb_app y hx), e, Nat.add_comm, Lib.splitK, ixb_app y hx, if_neg (by simp <;> omega), Int.toNat_natCast, e]
 simp
theorem splitb_one {x : List UInt8} (hx : (124 : UInt8) ∉ x) : Lib.split x [32, 124, 32] = [x] := by
 unfold Lib.split
 rw [Lib.count_miss (ixb_none hx)]; rfl
theorem splitb_join : ∀ {ts : List (List UInt8)}, ts ≠ [] → (∀ t ∈ ts, (124 : UInt8) ∉ t) → Lib.split (Lib.join ts [32, 124, 32]) [32, 124, 32] = ts
 | [], h, _ => absurd rfl h
 | [t], _, h => by rw [jn1, splitb_one (h t (by simp))]
 | t :: u :: ts, _, h => by
  rw [jn2, show t ++ [32, 124, 32] ++ Lib.join (u :: ts) [32, 124, 32] = t ++ 32 :: 124 :: 32 :: Lib.join (u :: ts) [32, 124, 32] by simp, splitb_app _ (h t (by simp)), splitb_join (by simp) (fun x hx => h x (by simp [hx]))]
def plainD (c : UInt8) : Bool := decide (c ≠ 124 ∧ c ≠ 10)
def textD (x : Stitch) : Bool := decide (checkS x = 0 → (textS x).all plainD = true)
theorem plaind_facts : ∀ k, k < 9 → ∀ y, y < 7 → ∀ a, a < 4 → ∀ b, b < 4 → textD ⟨((k : Nat) : Int), ((y : Nat) : Int), ((a : Nat) : Int), ((b : Nat) : Int), false⟩ = true ∧ textD ⟨((k : Nat) : Int), ((y : Nat) : Int), ((a : Nat) : Int), ((b : Nat) : Int), true⟩ = true := by
 decide +kernel
theorem plaind_text {x : Stitch} (h : checkS x = 0) : (textS x).all plainD = true := by
 obtain ⟨k, y, a, b, f⟩ := x
 have hr := check_rng h
 simp only at hr
 have ha : 0 ≤ a ∧ a < 4 ∧ 0 ≤ b ∧ b < 4 := by
  by_cases c : k = 8
  ·have := hr.2.2.2.2.2 c; omega
  have := hr.2.2.2.2.1 c; omega
 obtain ⟨k', rfl⟩ : ∃ n : Nat, k = (n : Int) := ⟨k.toNat, by omega⟩
 obtain ⟨y', rfl⟩ : ∃ n : Nat, y = (n : Int) := ⟨y.toNat, by omega⟩
 obtain ⟨a', rfl⟩ : ∃ n : Nat, a = (n : Int) := ⟨a.toNat, by omega⟩
 obtain ⟨b', rfl⟩ : ∃ n : Nat, b = (n : Int) := ⟨b.toNat, by omega⟩
 have hb := plaind_facts k' (by omega) y' (by omega) a' (by omega) b' (by omega)
 cases f with
 | false => exact of_decide_eq_true hb.1 h
 | true => exact of_decide_eq_true hb.2 h
theorem plaind_itoa : ∀ n, n < 32 → (itoaS n).all plainD = true := by decide +kernel
theorem plaind_txt {tg : Bool} {t : List UInt8} {xs : List Stitch} (h : Txt tg t xs) : t.all plainD = true := by
 induction h with
 | leaf h => exact plaind_text h
 | @rep t xs n _ h2 h16 ih => rw [repT]; simp [ih, plaind_itoa n (by omega), plainD]
 | one _ ih => exact ih
 | cons _ _ ih1 ih2 => simp [ih1, ih2, plainD]
theorem rowT_plain {r : List Stitch} (h : r.all okB = true) (h16 : r.length ≤ 16) : ∀ c ∈ rowT r, c ≠ 124 ∧ c ≠ 10 := fun c hc => by
 by_cases h0 : r.length = 0
 ·rw [rowT_0 h0] at hc; simp at hc; subst hc; decide
 rw [rowT_1 h0] at hc
 have := List.all_eq_true.1 (plaind_txt (short_ok h (by omega) h16).1) c hc
 simpa [plainD] using this
theorem rowW_T {r : List Stitch} (h : r.all okB = true) (h16 : r.length ≤ 16) : rowW (rowT r) = some r := by
 by_cases h0 : r.length = 0
 ·rw [rowT_0 h0, rowW, if_pos rfl, List.length_eq_zero_iff.1 h0]
 have hb := short_back h (by omega) h16
 rw [rowT_1 h0, rowW, if_neg (fun e => by rw [e] at hb; have e2 : (expandS [45]).2 ≠ 0 := (by decide +kernel); exact e2 (congrArg Prod.snd hb)), hb, if_pos rfl]
theorem blockF_T : ∀ {c : RowL}, (∀ r ∈ c, r.all okB = true ∧ r.length ≤ 16) → blockF (c.map rowT) = some c
 | [], _ => rfl
 | r :: c, h => by
  rw [List.map_cons, blockF, rowW_T (h r (by simp)).1 (h r (by simp)).2]
  simp only
  rw [blockF_T (fun x hx => h x (by simp [hx]))]
def rowsOk (c : RowL) : Prop := ∀ r ∈ c, r.all okB = true ∧ r.length ≤ 16
theorem rowsOk_of {c : RowL} (h1 : largeB c = false) (h2 : goodB c = true) : rowsOk c := fun r hr => ⟨List.all_eq_true.1 h2 r hr, (large_of h1).2 r hr⟩
theorem blockW_T {c : RowL} (h0 : ¬ c.length = 0) (h : rowsOk c) : blockW (barsT c) = some c := by
 rw [blockW, barsT, splitb_join (fun e => h0 (by have := congrArg List.length e; simpa using this)) (fun t ht => by
  obtain ⟨r, hr, rfl⟩ := List.mem_map.1 ht
  exact fun hc => (rowT_plain (h r hr).1 (h r hr).2 _ hc).1 rfl), blockF_T h]
theorem join_mem {sep : List UInt8} : ∀ {ts : List (List UInt8)} {c : UInt8}, c ∈ Lib.join ts sep → c ∈ sep ∨ ∃ t ∈ ts, c ∈ t
 | [], c, h => by rw [jn0] at h; cases h
 | [t], c, h => by rw [jn1] at h; exact .inr ⟨t, by simp, h⟩
 | t :: u :: ts, c, h => by
  rw [jn2, List.mem_append, List.mem_append] at h
  rcases h with (h | h) | h
  ·exact .inr ⟨t, by simp, h⟩
  ·exact .inl h
  rcases join_mem h with h | ⟨x, hx, h⟩
  ·exact .inl h
  exact .inr ⟨x, by simp only [List.mem_cons] at hx ⊢; exact .inr hx, h⟩
theorem bars_plain {c : RowL} (h : rowsOk c) : (10 : UInt8) ∉ barsT c := fun hc => by
 rcases join_mem hc with hc | ⟨t, ht, hc⟩
 ·simp at hc
 obtain ⟨r, hr, rfl⟩ := List.mem_map.1 ht
 exact (rowT_plain (h r hr).1 (h r hr).2 _ hc).2 rfl
theorem num_back : ∀ n, n < 100 → numW (itoaS n) = some (n : Int) ∧ (32 : UInt8) ∉ itoaS n ∧ (10 : UInt8) ∉ itoaS n := by decide +kernel
theorem numT_back {n : Int} (h : 0 ≤ n ∧ n < 100) : numW (numT n) = some n ∧ (32 : UInt8) ∉ numT n ∧ (10 : UInt8) ∉ numT n := by
 have := num_back n.toNat (by omega)
 rw [show ((n.toNat : Nat) : Int) = n by omega] at this
 exact this
theorem name_no {s : List UInt8} (h : nameB s = true) : (32 : UInt8) ∉ s ∧ (10 : UInt8) ∉ s := by
 have h2 : s.all lower = true := by rw [nameB, Bool.and_eq_true] at h; exact h.2
 constructor
 ·intro hc; have := List.all_eq_true.1 h2 _ hc; revert this; decide
 intro hc; have := List.all_eq_true.1 h2 _ hc; revert this; decide
theorem head_yes (w b : List UInt8) : headW w (w ++ [32] ++ b) = some b := by
 rw [headW, if_pos ⟨b, rfl⟩, List.drop_left' (by simp)]
theorem head_no {a c : UInt8} {w l : List UInt8} (h : a ≠ c) : headW (a :: w) (c :: l) = none := by
 rw [headW, if_neg]
 rintro ⟨t, ht⟩
 simp at ht
 exact h ht.1
def numsL (p : Pc) : List UInt8 := p.nm ++ 32 :: (numT p.ct ++ 32 :: (numT p.ba ++ 32 :: (numT p.st ++ 32 :: numT p.up)))
def headLn (p : Pc) : List UInt8 := wPiece ++ [32] ++ numsL p
theorem headT_ln (p : Pc) : headT p = headLn p ++ [10] := by simp [headT, headLn, numsL]
theorem piece_back {p : Pc} (h : rightB p = true) : pieceW (numsL p) = some ⟨p.nm, ⟨[], [], []⟩, p.ba, p.st, p.up, p.ct⟩ := by
 obtain ⟨hn, hr⟩ := right_of h
 have n1 := numT_back (n := p.ct) (by omega)
 have n2 := numT_back (n := p.ba) (by omega)
 have n3 := numT_back (n := p.st) (by omega)
 have n4 := numT_back (n := p.up) (by omega)
 have e : Lib.split (numsL p) [32] = [p.nm, numT p.ct, numT p.ba, numT p.st, numT p.up] := by
  rw [numsL, split_app _ (name_no hn).1, split_app _ n1.2.1, split_app _ n2.2.1, split_app _ n3.2.1, split_one n4.2.1]
 rw [pieceW, e, if_neg (by simp)]
 simp [numsW, n1.1, n2.1, n3.1, n4.1, List.getD]
def linesP (p : Pc) : List (List UInt8) := headLn p :: ((if p.mot.L.length = 0 then [] else [wLeft ++ [32] ++ barsT p.mot.L]) ++ ([wTile ++ [32] ++ barsT p.mot.T] ++ (if p.mot.R.length = 0 then [] else [wRight ++ [32] ++ barsT p.mot.R])))
def linesA (nm : List UInt8) (ps : List Pc) : List (List UInt8) := (wGarment ++ [32] ++ nm) :: ps.flatMap linesP
theorem linesG_app (a b : List (List UInt8)) : linesG (a ++ b) = linesG a ++ linesG b := by simp [linesG]
theorem linesG_cons (a : List UInt8) (b : List (List UInt8)) : linesG (a :: b) = a ++ [10] ++ linesG b := by simp [linesG]
theorem rowsT_ln (w : List UInt8) (c : RowL) : linesG (if c.length = 0 then [] else [w ++ [32] ++ barsT c]) = rowsT w c := by
 rw [rowsT]; split <;> simp [linesG]
theorem pieceT_ln {p : Pc} (h : ¬ p.mot.T.length = 0) : linesG (linesP p) = pieceT p := by
 have e : linesG [wTile ++ [32] ++ barsT p.mot.T] = rowsT wTile p.mot.T := by rw [← rowsT_ln, if_neg h]
 rw [linesP, linesG_cons, linesG_app, linesG_app, rowsT_ln, rowsT_ln, e, pieceT, headT_ln]
 simp
theorem textG_ln {nm : List UInt8} : ∀ {ps : List Pc}, (∀ p ∈ ps, ¬ p.mot.T.length = 0) → linesG (linesA nm ps) = textG nm ps := fun {ps} h => by
 have e : ∀ ps : List Pc, (∀ p ∈ ps, ¬ p.mot.T.length = 0) → linesG (ps.flatMap linesP) = (ps.map pieceT).flatten := by
  intro ps
  induction ps with
  | nil => intro _; simp [linesG]
  | cons p ps ih => intro h; rw [List.flatMap_cons, linesG_app, pieceT_ln (h p (by simp)), ih (fun q hq => h q (by simp [hq]))]; simp
 rw [linesA, linesG_cons, e ps h, textG]
theorem stepsG_app : ∀ (a b : List (List UInt8)) (st : GSt), stepsG st (a ++ b) = (stepsG st a).bind fun s => stepsG s b
 | [], b, st => rfl
 | l :: a, b, st => by
  rw [List.cons_append, stepsG, stepsG]
  cases stepG st l with
  | none => rfl
  | some s => exact stepsG_app a b s
theorem stepG_gar (nm : List UInt8) (ps : List Pc) (l : List UInt8) : stepG (nm, ps, .gar) l = garStep l := rfl
theorem stepG_next (nm : List UInt8) (ps : List Pc) (l : List UInt8) : stepG (nm, ps, .next) l = nextStep nm ps l := rfl
theorem stepG_left (nm : List UInt8) (ps : List Pc) (p : Pc) (l : List UInt8) : stepG (nm, ps, .left p) l = leftStep nm ps p l := rfl
theorem stepG_tile (nm : List UInt8) (ps : List Pc) (p : Pc) (l : List UInt8) : stepG (nm, ps, .tile p) l = tileStep nm ps p l := rfl
theorem stepG_right (nm : List UInt8) (ps : List Pc) (p : Pc) (l : List UInt8) : stepG (nm, ps, .right p) l = rightStep nm ps p l := rfl
def Whole (nm : List UInt8) (ps : List Pc) (st : GSt) : Prop := st = (nm, ps, .next) ∨ ∃ qs p, st = (nm, qs, .right p) ∧ ps = qs ++ [p]
theorem whole_step {nm : List UInt8} {ps : List Pc} {st : GSt} (h : Whole nm ps st) (p : Pc) : stepG st (headLn p) = nextStep nm ps (headLn p) := by
 rcases h with rfl | ⟨qs, q, rfl, rfl⟩
 ·rfl
 rw [stepG_right, rightStep, show headLn p = 112 :: ([105, 101, 99, 101, 32] ++ numsL p) from rfl, show wRight = 114 :: [105, 103, 104, 116] from rfl, head_no (by decide)]
theorem whole_done {nm : List UInt8} {ps : List Pc} {st : GSt} (h : Whole nm ps st) (h0 : ps ≠ []) : doneG st = some (nm, ps) := by
 rcases h with rfl | ⟨qs, q, rfl, rfl⟩
 ·rw [doneG, if_neg h0]
 rfl
def PcOk (p : Pc) : Prop := rightB p = true ∧ rowsOk p.mot.L ∧ rowsOk p.mot.T ∧ rowsOk p.mot.R ∧ ¬ p.mot.T.length = 0
theorem steps_piece {nm : List UInt8} {ps : List Pc} {st : GSt} (h : Whole nm ps st) {p : Pc} (hp : PcOk p) : ∃ st', stepsG st (linesP p) = some st' ∧ Whole nm (ps ++ [p]) st' := by
 obtain ⟨h1, hL, hT, hR, h0⟩ := hp
 have s1 : stepG st (headLn p) = some (nm, ps, .left ⟨p.nm, ⟨[], [], []⟩, p.ba, p.st, p.up, p.ct⟩) := by
  rw [whole_step h, nextStep, headLn, head_yes]; simp only; rw [piece_back h1]
 have tl : ∀ c, (wTile ++ [32] ++ barsT c : List UInt8) = 116 :: ([105, 108, 101, 32] ++ barsT c) := fun c => rfl
 rw [linesP, stepsG, s1]
 simp only
 -- the left edge
 have s2 : ∃ st2, stepsG (nm, ps, .left ⟨p.nm, ⟨[], [], []⟩, p.ba, p.st, p.up, p.ct⟩) (if p.mot.L.length = 0 then [] else [wLeft ++ [32] ++ barsT p.mot.L]) = some st2 ∧ stepG st2 (wTile ++ [32] ++ barsT p.mot.T) = some (nm, ps, .right ⟨p.nm, ⟨p.mot.L, p.mot.T, []⟩, p.ba, p.st, p.up, p.ct⟩) := by
  by_cases hl : p.mot.L.length = 0
  ·refine ⟨_, by rw [if_pos hl]; rfl, ?_⟩
   rw [stepG_left, leftStep, tl, show wLeft = 108 :: [101, 102, 116] from rfl, head_no (by decide), ← tl]
   simp only
   rw [tileStep, head_yes]; simp only; rw [blockW_T h0 hT]
   simp [setT, List.length_eq_zero_iff.1 hl]
  refine ⟨(nm, ps, .tile (setL ⟨p.nm, ⟨[], [], []⟩, p.ba, p.st, p.up, p.ct⟩ p.mot.L)), ?_, ?_⟩
  ·rw [if_neg hl, stepsG]
   have : stepG (nm, ps, .left ⟨p.nm, ⟨[], [], []⟩, p.ba, p.st, p.up, p.ct⟩) (wLeft ++ [32] ++ barsT p.mot.L) = some (nm, ps, .tile (setL ⟨p.nm, ⟨[], [], []⟩, p.ba, p.st, p.up, p.ct⟩ p.mot.L)) := by
    rw [stepG_left, leftStep, head_yes]; simp only; rw [blockW_T hl hL]
   rw [this]; rfl
  rw [stepG_tile, tileStep, head_yes]; simp only; rw [blockW_T h0 hT]; rfl
 obtain ⟨st2, e1, e2⟩ := s2
 rw [stepsG_app, e1, Option.bind_some, stepsG_app]
 have e3 : stepsG st2 [wTile ++ [32] ++ barsT p.mot.T] = some (nm, ps, .right ⟨p.nm, ⟨p.mot.L, p.mot.T, []⟩, p.ba, p.st, p.up, p.ct⟩) := by rw [stepsG, e2]; rfl
 rw [e3, Option.bind_some]
 by_cases hr : p.mot.R.length = 0
 ·rw [if_pos hr]
  refine ⟨_, rfl, .inr ⟨ps, _, rfl, ?_⟩⟩
  rw [show ([] : RowL) = p.mot.R from (List.length_eq_zero_iff.1 hr).symm]
 refine ⟨(nm, ps ++ [p], .next), ?_, .inl rfl⟩
 rw [if_neg hr, stepsG]
 have : stepG (nm, ps, .right ⟨p.nm, ⟨p.mot.L, p.mot.T, []⟩, p.ba, p.st, p.up, p.ct⟩) (wRight ++ [32] ++ barsT p.mot.R) = some (nm, ps ++ [p], .next) := by
  rw [stepG_right, rightStep, head_yes]; simp only; rw [blockW_T hr hR]; rfl
 rw [this]; rfl
theorem steps_pieces {nm : List UInt8} : ∀ (qs ps : List Pc) (st : GSt), Whole nm ps st → (∀ p ∈ qs, PcOk p) → ∃ st', stepsG st (qs.flatMap linesP) = some st' ∧ Whole nm (ps ++ qs) st'
 | [], ps, st, h, _ => ⟨st, rfl, by rwa [List.append_nil]⟩
 | q :: qs, ps, st, h, hq => by
  obtain ⟨s1, e1, w1⟩ := steps_piece h (hq q (by simp))
  obtain ⟨s2, e2, w2⟩ := steps_pieces qs (ps ++ [q]) s1 w1 (fun x hx => hq x (by simp [hx]))
  refine ⟨s2, ?_, by simpa using w2⟩
  rw [List.flatMap_cons, stepsG_app, e1, Option.bind_some, e2]
theorem gar_ok {nm : List UInt8} {ps : List Pc} (h : garE nm ps = 0) : nameB nm = true ∧ ps ≠ [] ∧ ∀ p ∈ ps, PcOk p := by
 have hga := gar_of h
 refine ⟨hga.2.2.1, fun e => by rw [e] at hga; simp at hga, fun p hp => ?_⟩
 have hm := mot_of (hga.2.2.2.2.1 p hp)
 exact ⟨hga.2.2.2.1 p hp, rowsOk_of hm.1 hm.2.2.2.2.2.1, rowsOk_of hm.2.1 hm.2.2.2.2.2.2.1, rowsOk_of hm.2.2.1 hm.2.2.2.2.2.2.2.1, by have := (mot_tile (hga.2.2.2.2.1 p hp)).1; omega⟩
theorem steps_text {nm : List UInt8} {ps : List Pc} (h : garE nm ps = 0) : ∃ st', stepsG ([], [], .gar) (linesA nm ps) = some st' ∧ Whole nm ps st' := by
 obtain ⟨h1, -, h3⟩ := gar_ok h
 obtain ⟨s2, e2, w2⟩ := steps_pieces ps [] (nm, [], .next) (.inl rfl) h3
 refine ⟨s2, ?_, by simpa using w2⟩
 have : stepG ([], [], .gar) (wGarment ++ [32] ++ nm) = some (nm, [], .next) := by
  rw [stepG_gar, garStep, head_yes]; simp only; rw [if_neg (name_no h1).1]
 rw [linesA, stepsG, this]; exact e2
theorem lines_no {nm : List UInt8} {ps : List Pc} (h : garE nm ps = 0) : ∀ l ∈ linesA nm ps, (10 : UInt8) ∉ l := by
 obtain ⟨h1, -, h3⟩ := gar_ok h
 intro l hl
 have hw : ∀ w ∈ [wGarment, wPiece, wLeft, wTile, wRight], (10 : UInt8) ∉ w := by decide
 rw [linesA, List.mem_cons] at hl
 rcases hl with rfl | hl
 ·simp only [List.mem_append, List.mem_singleton, not_or]
  exact ⟨⟨hw _ (by simp), by decide⟩, (name_no h1).2⟩
 obtain ⟨p, hp, hl⟩ := List.mem_flatMap.1 hl
 obtain ⟨g1, gL, gT, gR, -⟩ := h3 p hp
 have bar : ∀ w ∈ [wGarment, wPiece, wLeft, wTile, wRight], ∀ c, rowsOk c → (10 : UInt8) ∉ w ++ [32] ++ barsT c := fun w hm c hc => by
  simp only [List.mem_append, List.mem_singleton, not_or]
  exact ⟨⟨hw _ hm, by decide⟩, bars_plain hc⟩
 rw [linesP, List.mem_cons] at hl
 rcases hl with rfl | hl
 ·obtain ⟨hn, hr⟩ := right_of g1
  have n1 := numT_back (n := p.ct) (by omega)
  have n2 := numT_back (n := p.ba) (by omega)
  have n3 := numT_back (n := p.st) (by omega)
  have n4 := numT_back (n := p.up) (by omega)
  simp only [headLn, numsL, List.mem_append, List.mem_cons, List.not_mem_nil, or_false, not_or]
  exact ⟨⟨hw _ (by simp), by decide⟩, (name_no hn).2, by decide, n1.2.2, by decide, n2.2.2, by decide, n3.2.2, by decide, n4.2.2⟩
 simp only [List.mem_append] at hl
 rcases hl with hl | hl | hl
 ·split at hl
  ·cases hl
  rw [List.mem_singleton.1 hl]; exact bar _ (by simp) _ gL
 ·rw [List.mem_singleton.1 hl]; exact bar _ (by simp) _ gT
 split at hl
 ·cases hl
 rw [List.mem_singleton.1 hl]; exact bar _ (by simp) _ gR
theorem lines_len (ls : List (List UInt8)) : ls.length ≤ (linesG ls).length := by
 induction ls with
 | nil => simp
 | cons l ls ih => rw [linesG_cons]; simp; omega
theorem tiles_of {nm : List UInt8} {ps : List Pc} (h : garE nm ps = 0) : ∀ p ∈ ps, ¬ p.mot.T.length = 0 := fun p hp => ((gar_ok h).2.2 p hp).2.2.2.2
theorem read_text {nm : List UInt8} {ps : List Pc} (h : garE nm ps = 0) : readG (textG nm ps) = (some (nm, ps), 0) := by
 obtain ⟨st, e, w⟩ := steps_text h
 have hl := lines_len (linesA nm ps)
 rw [← textG_ln (tiles_of h), readG, show (linesG (linesA nm ps)).length + 1 = ((linesG (linesA nm ps)).length + 1 - (linesA nm ps).length - 1 + 1) + (linesA nm ps).length by omega]
 have := read_lines (linesA nm ps) ((linesG (linesA nm ps)).length + 1 - (linesA nm ps).length - 1 + 1) [] 0 _ st (lines_no h) e
 rw [List.append_nil] at this
 rw [this, readF, if_pos rfl, whole_done w (gar_ok h).2.1]
theorem read_behind {nm : List UInt8} {ps : List Pc} (h : garE nm ps = 0) (k : Nat) (hk : k ≤ (linesA nm ps).length) (t : List UInt8) (hw : (readG (linesG ((linesA nm ps).take k) ++ t)).1 = none) : (k : Int) + 1 ≤ (readG (linesG ((linesA nm ps).take k) ++ t)).2 := by
 obtain ⟨st, e, -⟩ := steps_text h
 have e' : ∃ st', stepsG ([], [], .gar) ((linesA nm ps).take k) = some st' := by
  rw [← List.take_append_drop k (linesA nm ps), stepsG_app] at e
  cases hs : stepsG ([], [], .gar) ((linesA nm ps).take k) with
  | none => rw [hs] at e; cases e
  | some s => exact ⟨s, rfl⟩
 obtain ⟨st', e'⟩ := e'
 have hl := lines_len ((linesA nm ps).take k)
 have hlt : ((linesA nm ps).take k).length = k := by rw [List.length_take]; omega
 have hf : (linesG ((linesA nm ps).take k) ++ t).length + 1 = ((linesG ((linesA nm ps).take k) ++ t).length + 1 - k) + ((linesA nm ps).take k).length := by
  rw [hlt]; rw [hlt] at hl; rw [List.length_append]; omega
 rw [readG, hf, read_lines _ _ t 0 _ st' (fun l hl => lines_no h l (List.mem_of_mem_take hl)) e'] at hw ⊢
 have := read_late _ _ _ _ hw
 rw [hlt] at this ⊢
 omega
end Go.G14
namespace Go.G14
open Go.Lw
def lookW (w s : List UInt8) : Option (List UInt8) := if (Lib.cut s [10]).2.2 = true then headW w (Lib.cut s [10]).1 else none
def Rem (s0 s : List UInt8) (n : Nat) (st : GSt) : Prop := ∃ f, s.length < f ∧ readF f s (n : Int) st = readG s0
theorem cut_len2 (s : List UInt8) : (Lib.cut s [10]).2.1.length ≤ s.length ∧ (Lib.cut s [10]).1.length ≤ s.length := by
 unfold Lib.cut; split <;> simp <;> omega
theorem cut_less {s : List UInt8} (h : (Lib.cut s [10]).2.2 = true) : (Lib.cut s [10]).2.1.length + 1 ≤ s.length := by
 unfold Lib.cut at h ⊢
 split at h
 ·rename_i h0
  rw [if_pos h0]
  have := Lib.index_room s [10] h0
  simp at this ⊢
  omega
 cases h
theorem cut_ne {s : List UInt8} (h : (Lib.cut s [10]).2.2 = true) : s ≠ [] := fun e => by have := cut_less h; rw [e] at this; simp at this
theorem look_ended {w s b : List UInt8} (h : lookW w s = some b) : (Lib.cut s [10]).2.2 = true ∧ headW w (Lib.cut s [10]).1 = some b := by
 unfold lookW at h; split at h
 ·exact ⟨by assumption, h⟩
 cases h
theorem head_len {w l b : List UInt8} (h : headW w l = some b) : b.length ≤ l.length := by
 unfold headW at h; split at h
 ·cases h; simp
 cases h
theorem look_len {w s b : List UInt8} (h : lookW w s = some b) : b.length ≤ s.length := by
 have h1 := look_ended h
 have h2 := head_len h1.2
 have := (cut_len2 s).2
 omega
theorem rem_init (s : List UInt8) : Rem s s 0 ([], [], .gar) := ⟨_, Nat.lt_succ_self _, rfl⟩
section
variable {s0 s : List UInt8} {n : Nat} {st st' : GSt}
theorem rem_step (h : Rem s0 s n st) (he : (Lib.cut s [10]).2.2 = true) (hs : stepG st (Lib.cut s [10]).1 = some st') : Rem s0 (Lib.cut s [10]).2.1 (n + 1) st' := by
 obtain ⟨f, hf, e⟩ := h
 obtain ⟨f, rfl⟩ : ∃ k, f = k + 1 := ⟨f - 1, by omega⟩
 rw [readF, if_neg (cut_ne he), if_neg (by rw [he]; decide), hs] at e
 have := cut_less he
 exact ⟨f, by omega, e⟩
theorem rem_bad (h : Rem s0 s n st) (he : (Lib.cut s [10]).2.2 = true) (hs : stepG st (Lib.cut s [10]).1 = none) : readG s0 = (none, (n : Int) + 1) := by
 obtain ⟨f, hf, e⟩ := h
 obtain ⟨f, rfl⟩ : ∃ k, f = k + 1 := ⟨f - 1, by omega⟩
 rw [readF, if_neg (cut_ne he), if_neg (by rw [he]; decide), hs] at e
 exact e.symm
theorem rem_end (h : Rem s0 s n st) (he : (Lib.cut s [10]).2.2 = false) (hd : s = [] → doneG st = none) : readG s0 = (none, (n : Int) + 1) := by
 obtain ⟨f, hf, e⟩ := h
 obtain ⟨f, rfl⟩ : ∃ k, f = k + 1 := ⟨f - 1, by omega⟩
 rw [readF] at e
 by_cases c : s = []
 ·rw [if_pos c, hd c] at e; exact e.symm
 rw [if_neg c, if_pos he] at e; exact e.symm
theorem rem_turn (h : Rem s0 s n st) (h1 : (Lib.cut s [10]).2.2 = true → stepG st (Lib.cut s [10]).1 = stepG st' (Lib.cut s [10]).1) (h2 : doneG st = doneG st') : Rem s0 s n st' := by
 obtain ⟨f, hf, e⟩ := h
 obtain ⟨f, rfl⟩ : ∃ k, f = k + 1 := ⟨f - 1, by omega⟩
 refine ⟨f + 1, hf, ?_⟩
 rw [← e, readF, readF, h2]
 split
 ·rfl
 split
 ·rfl
 rename_i c; rw [h1 (by cases hh : (Lib.cut s [10]).2.2; exact absurd hh c; rfl)]
theorem look_no {w : List UInt8} (h : lookW w s = none) : (Lib.cut s [10]).2.2 = false ∨ (Lib.cut s [10]).2.2 = true ∧ headW w (Lib.cut s [10]).1 = none := by
 unfold lookW at h; split at h
 ·exact .inr ⟨by assumption, h⟩
 rename_i c; exact .inl (by cases hh : (Lib.cut s [10]).2.2; rfl; exact absurd hh c)
variable {nm b : List UInt8} {ps : List Pc} {p q : Pc} {c : RowL}
theorem gar_yes (h : Rem s0 s n ([], [], .gar)) (hl : lookW wGarment s = some b) (hb : (32 : UInt8) ∉ b) : Rem s0 (Lib.cut s [10]).2.1 (n + 1) (b, [], .next) := by
 obtain ⟨h1, h2⟩ := look_ended hl
 exact rem_step h h1 (by rw [stepG_gar, garStep, h2]; simp only; rw [if_neg hb])
theorem gar_no (h : Rem s0 s n ([], [], .gar)) (hl : lookW wGarment s = none ∨ ∃ b, lookW wGarment s = some b ∧ (32 : UInt8) ∈ b) : readG s0 = (none, (n : Int) + 1) := by
 rcases hl with hl | ⟨b, hl, hb⟩
 ·rcases look_no hl with h1 | ⟨h1, h2⟩
  ·exact rem_end h h1 (fun _ => rfl)
  exact rem_bad h h1 (by rw [stepG_gar, garStep, h2])
 obtain ⟨h1, h2⟩ := look_ended hl
 exact rem_bad h h1 (by rw [stepG_gar, garStep, h2]; simp only; rw [if_pos hb])
theorem nx_done (h : Rem s0 [] n (nm, ps, .next)) (h0 : ps ≠ []) : readG s0 = (some (nm, ps), 0) := by
 obtain ⟨f, hf, e⟩ := h
 obtain ⟨f, rfl⟩ : ∃ k, f = k + 1 := ⟨f - 1, by simp at hf; omega⟩
 rw [readF, if_pos rfl, doneG, if_neg h0] at e
 exact e.symm
theorem nx_no (h : Rem s0 s n (nm, ps, .next)) (hd : ¬ (s = [] ∧ ps ≠ [])) (hl : lookW wPiece s = none ∨ ∃ b, lookW wPiece s = some b ∧ pieceW b = none) : readG s0 = (none, (n : Int) + 1) := by
 rcases hl with hl | ⟨b, hl, hb⟩
 ·rcases look_no hl with h1 | ⟨h1, h2⟩
  ·exact rem_end h h1 (fun e => by rw [doneG, if_pos (Classical.not_not.1 fun h => hd ⟨e, h⟩)])
  exact rem_bad h h1 (by rw [stepG_next, nextStep, h2])
 obtain ⟨h1, h2⟩ := look_ended hl
 exact rem_bad h h1 (by rw [stepG_next, nextStep, h2]; simp only; rw [hb])
theorem nx_yes (h : Rem s0 s n (nm, ps, .next)) (hl : lookW wPiece s = some b) (hp : pieceW b = some p) : Rem s0 (Lib.cut s [10]).2.1 (n + 1) (nm, ps, .left p) := by
 obtain ⟨h1, h2⟩ := look_ended hl
 exact rem_step h h1 (by rw [stepG_next, nextStep, h2]; simp only; rw [hp])
theorem lf_skip (h : Rem s0 s n (nm, ps, .left p)) (hl : lookW wLeft s = none) : Rem s0 s n (nm, ps, .tile p) := by
 refine rem_turn h (fun he => ?_) rfl
 rcases look_no hl with h1 | ⟨h1, h2⟩
 ·rw [h1] at he; cases he
 rw [stepG_left, leftStep, h2, stepG_tile]
theorem lf_no (h : Rem s0 s n (nm, ps, .left p)) (hl : lookW wLeft s = some b) (hb : blockW b = none) : readG s0 = (none, (n : Int) + 1) := by
 obtain ⟨h1, h2⟩ := look_ended hl
 exact rem_bad h h1 (by rw [stepG_left, leftStep, h2]; simp only; rw [hb])
theorem lf_yes (h : Rem s0 s n (nm, ps, .left p)) (hl : lookW wLeft s = some b) (hb : blockW b = some c) : Rem s0 (Lib.cut s [10]).2.1 (n + 1) (nm, ps, .tile (setL p c)) := by
 obtain ⟨h1, h2⟩ := look_ended hl
 exact rem_step h h1 (by rw [stepG_left, leftStep, h2]; simp only; rw [hb])
theorem tl_no (h : Rem s0 s n (nm, ps, .tile p)) (hl : lookW wTile s = none ∨ ∃ b, lookW wTile s = some b ∧ blockW b = none) : readG s0 = (none, (n : Int) + 1) := by
 rcases hl with hl | ⟨b, hl, hb⟩
 ·rcases look_no hl with h1 | ⟨h1, h2⟩
  ·exact rem_end h h1 (fun _ => rfl)
  exact rem_bad h h1 (by rw [stepG_tile, tileStep, h2])
 obtain ⟨h1, h2⟩ := look_ended hl
 exact rem_bad h h1 (by rw [stepG_tile, tileStep, h2]; simp only; rw [hb])
theorem tl_yes (h : Rem s0 s n (nm, ps, .tile p)) (hl : lookW wTile s = some b) (hb : blockW b = some c) : Rem s0 (Lib.cut s [10]).2.1 (n + 1) (nm, ps, .right (setT p c)) := by
 obtain ⟨h1, h2⟩ := look_ended hl
 exact rem_step h h1 (by rw [stepG_tile, tileStep, h2]; simp only; rw [hb])
theorem rt_skip (h : Rem s0 s n (nm, ps, .right p)) (hl : lookW wRight s = none) : Rem s0 s n (nm, ps ++ [p], .next) := by
 refine rem_turn h (fun he => ?_) (by rw [doneG, doneG, if_neg (by simp)])
 rcases look_no hl with h1 | ⟨h1, h2⟩
 ·rw [h1] at he; cases he
 rw [stepG_right, rightStep, h2, stepG_next]
theorem rt_no (h : Rem s0 s n (nm, ps, .right p)) (hl : lookW wRight s = some b) (hb : blockW b = none) : readG s0 = (none, (n : Int) + 1) := by
 obtain ⟨h1, h2⟩ := look_ended hl
 exact rem_bad h h1 (by rw [stepG_right, rightStep, h2]; simp only; rw [hb])
theorem rt_yes (h : Rem s0 s n (nm, ps, .right p)) (hl : lookW wRight s = some b) (hb : blockW b = some c) : Rem s0 (Lib.cut s [10]).2.1 (n + 1) (nm, ps ++ [setR p c], .next) := by
 obtain ⟨h1, h2⟩ := look_ended hl
 exact rem_step h h1 (by rw [stepG_right, rightStep, h2]; simp only; rw [hb])
end
inductive RdT where
  | wrong | pieces | tile | whole
def RdT.lab : RdT → Nat
  | .wrong => 0
  | .pieces => 1
  | .tile => 2
  | .whole => 3
structure RdD where
  g4 : Nat
  g5 : Nat
  g8 : Nat
  s : List UInt8
  n : Nat
  nm : List UInt8
  V : Value
  qs : List PQ
  q : PQ
def RdL (s0 : List UInt8) (t : RdT) (s : List UInt8) (n : Nat) (nm : List UInt8) (ps : List Pc) (p : Pc) : Prop := match t with
  | .wrong => readG s0 = (none, (n : Int) + 1)
  | .pieces => Rem s0 s n (nm, ps, .next)
  | .tile => Rem s0 s n (nm, ps, .tile p)
  | .whole => Rem s0 s n (nm, ps ++ [p], .next)
def RdT.mu : RdT → Nat
  | .wrong => 0
  | .pieces => 1
  | .whole => 2
  | .tile => 3
def rdMu (j : RdT × RdD) : Nat := 4 * j.2.s.length + j.1.mu
def ReadR (s0 nm : List UInt8) (qs : List PQ) (n : Int) : Prop := (readG s0 = (some (nm, pcs qs), 0) ∧ n = 0) ∨ ((readG s0).1 = none ∧ n = (readG s0).2 ∧ 1 ≤ n ∧ nm = [] ∧ qs = [])
theorem readR_bad {s0 : List UInt8} {n : Nat} (h : readG s0 = (none, (n : Int) + 1)) : ReadR s0 [] [] ((n : Int) + 1) := .inr ⟨by rw [h], by rw [h], by omega, rfl, rfl⟩
theorem dig_of {l : List UInt8} {i : Nat} (h : i ≤ l.length) (ha : (l.take i).all isDig = true) (h2 : i < l.length) (hc : 48 ≤ (dec8 l i).1 ∧ (dec8 l i).1 ≤ 57) : (l.take (i + 1)).all isDig = true ∧ (dec8 l i).2 = 1 := by
 have hb : (l.getD i 0).toNat < 128 := by
  rcases Nat.lt_or_ge (l.getD i 0).toNat 128 with h | h
  ·exact h
  have := dec_high (l := l) (p := i) (by omega); omega
 rw [dec_low hb] at hc ⊢
 refine ⟨?_, rfl⟩
 rw [List.take_add_one, List.all_append, ha, List.getElem?_eq_getElem h2]
 have e : l.getD i 0 = l[i] := by rw [List.getD, List.getElem?_eq_getElem h2]; rfl
 rw [e] at hc
 simp [isDig]; omega
theorem dig_no {l : List UInt8} {i : Nat} (h2 : i < l.length) (hc : ¬ (48 ≤ (dec8 l i).1 ∧ (dec8 l i).1 ≤ 57)) : l.all isDig = false := by
 rw [Bool.eq_false_iff]
 intro e
 have h3 := List.all_eq_true.1 e (l.getD i 0) (by rw [List.getD, List.getElem?_eq_getElem h2]; exact List.getElem_mem h2)
 simp only [isDig, decide_eq_true_eq] at h3
 rw [dec_low (by omega)] at hc
 exact hc (by omega)
end Go.G14
namespace Go.G14
open Go.Lw
theorem splitK_le (sep : List UInt8) : ∀ (k : Nat) (l : List UInt8), (Lib.splitK sep 0 k l).length ≤ k + 1
 | 0, l => by simp [Lib.splitK]
 | k + 1, l => by
  unfold Lib.splitK; split
  ·simp
  have := splitK_le sep k (l.drop ((Lib.index l sep).toNat + sep.length)); simp; omega
theorem split_le (l sep : List UInt8) : (Lib.split l sep).length ≤ l.length + 2 := by
 have h1 := splitK_le sep (Lib.count l sep) l
 have h2 := Lib.count_le l sep
 unfold Lib.split; omega
theorem sp_len (l : List UInt8) (i : Nat) : (((Lib.split l [32]).drop 1).getD i []).length ≤ l.length := by
 have := split_len l [32] (i + 1)
 rwa [show ((Lib.split l [32]).drop 1).getD i [] = (Lib.split l [32]).getD (i + 1) [] by simp [List.getD, List.getElem?_drop, Nat.add_comm]]
theorem nums_all2 : ∀ {ws : List (List UInt8)} {ns : List Int}, ws.map numW = ns.map some → numsW ws = some ns
 | [], [], _ => rfl
 | [], _ :: _, h => by simp at h
 | _ :: _, [], h => by simp at h
 | w :: ws, n :: ns, h => by
  simp only [List.map_cons, List.cons.injEq] at h
  rw [numsW, h.1]; simp only; rw [nums_all2 h.2]
theorem nums_bad : ∀ {ws : List (List UInt8)} {i : Nat}, i < ws.length → numW (ws.getD i []) = none → numsW ws = none
 | [], i, h, _ => by simp at h
 | w :: ws, 0, _, h => by rw [numsW, show numW w = none from h]
 | w :: ws, i + 1, hi, h => by
  rw [numsW]
  have := nums_bad (ws := ws) (i := i) (by simpa using hi) h
  cases numW w with
  | none => rfl
  | some n => simp only [this]
theorem piece_a {l : List UInt8} (h : (Lib.split l [32]).length ≠ 5) : pieceW l = none := if_pos h
theorem piece_b {l : List UInt8} (h : (Lib.split l [32]).length = 5) {i : Nat} (hi : i < 4) (hn : numW (((Lib.split l [32]).drop 1).getD i []) = none) : pieceW l = none := by
 rw [pieceW, if_neg (by omega), nums_bad (i := i) (by rw [List.length_drop]; omega) hn]
theorem piece_c {l : List UInt8} {ns : List Int} (h : (Lib.split l [32]).length = 5) (hn : (((Lib.split l [32]).drop 1).take 4).map numW = ns.map some) : pieceW l = some ⟨(Lib.split l [32]).getD 0 [], ⟨[], [], []⟩, ns.getD 1 0, ns.getD 2 0, ns.getD 3 0, ns.getD 0 0⟩ := by
 rw [List.take_of_length_le (by rw [List.length_drop]; omega)] at hn
 rw [pieceW, if_neg (by omega), nums_all2 hn]
theorem take_mapS {α β : Type} (f : α → β) (l : List α) (i : Nat) (d : α) {xs : List β} {x : β} (h : i < l.length) (hx : (l.take i).map f = xs) (hf : f (l.getD i d) = x) : (l.take (i + 1)).map f = xs ++ [x] := by
 subst hx; subst hf
 rw [List.take_add_one, List.getElem?_eq_getElem h, List.map_append]
 simp [List.getD, List.getElem?_eq_getElem h]
theorem iv_at {l : List Int} {k : Nat} (h : k < l.length) : (ivs l)[k]? = some (.int .i64 (l.getD k 0)) := by
 simp [ivs, List.getElem?_map, List.getElem?_eq_getElem h, List.getD]
theorem iv_lt {l : List Int} {k : Nat} (h : k < l.length) : Nat.blt k (ivs l).length = true := by
 simp [ivs, h]
theorem iv_set {ns : List Int} {m : Nat} (n : Int) : (ivs (ns ++ List.replicate (m + 1) 0)).set ns.length (.int .i64 n) = ivs ((ns ++ [n]) ++ List.replicate m 0) := by
 rw [← set_at ns m 0 n]
 simp only [ivs, List.map_set]
theorem blk_all : ∀ {ts : List (List UInt8)} {c : RowL}, ts.map rowW = c.map some → blockF ts = some c
 | [], [], _ => rfl
 | [], _ :: _, h => by simp at h
 | _ :: _, [], h => by simp at h
 | w :: ws, n :: ns, h => by
  simp only [List.map_cons, List.cons.injEq] at h
  rw [blockF, h.1]; simp only; rw [blk_all h.2]
theorem blk_bad : ∀ {ts : List (List UInt8)} {i : Nat}, i < ts.length → rowW (ts.getD i []) = none → blockF ts = none
 | [], i, h, _ => by simp at h
 | w :: ws, 0, _, h => by rw [blockF, show rowW w = none from h]
 | w :: ws, i + 1, hi, h => by
  rw [blockF]
  have := blk_bad (ts := ws) (i := i) (by simpa using hi) h
  cases rowW w with
  | none => rfl
  | some n => simp only [this]
theorem rowW_dash {t : List UInt8} (h : t = [45]) : rowW t = some [] := if_pos h
theorem rowW_ok {t : List UInt8} (h : ¬ t = [45]) (h2 : (expandS t).2 = 0) : rowW t = some (expandS t).1 := by rw [rowW, if_neg h, if_pos h2]
theorem rowW_no {t : List UInt8} (h : ¬ t = [45]) (h2 : ¬ (expandS t).2 = 0) : rowW t = none := by rw [rowW, if_neg h, if_neg h2]
theorem exp_rng {t : List UInt8} (h2 : (expandS t).2 = 0) : ∀ s ∈ (expandS t).1, 0 ≤ s.k ∧ 0 ≤ s.y := fun s hs => by
 have h := (expand_sound (l := t) (xs := (expandS t).1) (Prod.ext rfl h2)).1.ok.2
 have := check_rng ((okB_iff s).1 (List.all_eq_true.1 h s hs))
 omega
theorem rng_snoc {c : RowL} {r : List Stitch} (h : rowsR c) (hr : ∀ s ∈ r, 0 ≤ s.k ∧ 0 ≤ s.y) : rowsR (c ++ [r]) := fun x hx => by
 rcases List.mem_append.1 hx with hx | hx
 ·exact h x hx
 rw [List.mem_singleton.1 hx]; exact hr
theorem rng_nil : rowsR [] := fun r hr => by cases hr
def MotZ (R0 T0 N : Nat) (w : World) (X Y Z : Value) (m : Mot) : Prop := MotX R0 T0 N w X Y Z m
def PcsZ (R0 T0 N : Nat) (w : World) (qs : List PQ) : Prop := PcsX R0 T0 N w qs
section
variable {R0 T0 N : Nat} {w w' : World} {X Y Z : Value} {m : Mot} {qs : List PQ} {S : List Nat}
theorem MotZ.fr (h : MotZ R0 T0 N w X Y Z m) (hf : Fr S w w') (hS : Apart R0 T0 N w S) : MotZ R0 T0 N w' X Y Z m := ⟨h.L.fap hf hS, h.T.fap hf hS, h.R.fap hf hS, h.gL, h.gT, h.gR⟩
theorem MotZ.ext (h : MotZ R0 T0 N w X Y Z m) (hf : Fr [] w w') : MotZ R0 T0 N w' X Y Z m := MotX.ext h hf
theorem MotZ.nil {w : World} : MotZ R0 T0 N w (.slice none 0 0) (.slice none 0 0) (.slice none 0 0) ⟨[], [], []⟩ := ⟨OwR.nil w, OwR.nil w, OwR.nil w, rng_nil, rng_nil, rng_nil⟩
theorem PcsZ.fr (h : PcsZ R0 T0 N w qs) (hf : Fr S w w') (hS : Apart R0 T0 N w S) : PcsZ R0 T0 N w' qs := fun q hq => MotZ.fr (h q hq) hf hS
theorem PcsZ.ext (h : PcsZ R0 T0 N w qs) (hf : Fr [] w w') : PcsZ R0 T0 N w' qs := PcsX.ext h hf
theorem PcsZ.nil {w : World} : PcsZ R0 T0 N w [] := PcsX.nil
theorem PcsZ.snoc {q : PQ} (h : PcsZ R0 T0 N w qs) (hq : MotZ R0 T0 N w (slv q.l) (slv q.t) (slv q.r) q.p.mot) : PcsZ R0 T0 N w (qs ++ [q]) := PcsX.snoc h hq
end
abbrev pq1 (p : Pc) : PQ := ⟨p, sv0, sv0, sv0⟩
abbrev pqL (p : Pc) (c : RowL) (A : Option Addr) (k : Nat) : PQ := ⟨setL p c, (A, c.length, k), sv0, sv0⟩
abbrev pqT (q : PQ) (c : RowL) (A : Option Addr) (k : Nat) : PQ := ⟨setT q.p c, q.l, (A, c.length, k), q.r⟩
abbrev pqR (q : PQ) (c : RowL) (A : Option Addr) (k : Nat) : PQ := ⟨setR q.p c, q.l, q.t, (A, c.length, k)⟩
theorem apl {R0 T0 N g : Nat} {w : World} (h : g < N) : Apart R0 T0 N w [g] := fun k hk => by rw [List.mem_singleton] at hk; exact .inl (by omega)
theorem nfl {α : Type} {E : Enc α} {T base g : Nat} {w : World} {v : Value} {ys : List α} (h : Lw.Own E T base w v ys) (hg : g < base) : ∀ k ∈ [g], k ∉ blks v := fun k hk hb => by rw [List.mem_singleton] at hk; have := (h.blk k hb).1; omega
def RdB (s0 : List UInt8) (t : RdT) (s : List UInt8) (n : Nat) (nm : List UInt8) (ps : List Pc) (p : Pc) : Prop := RdL s0 t s n nm ps p ∧ n + s.length ≤ s0.length ∧ (match t with
  | .wrong => True
  | .pieces => ps.length + 1 ≤ n
  | _ => ps.length + 2 ≤ n)
theorem pcs_snoc (qs : List PQ) (q : PQ) : pcs (qs ++ [q]) = pcs qs ++ [q.p] := by simp [pcs]
end Go.G14
namespace Go.Lw
def Jumps (J : Nat → Act → World → Prop) (Q : Exit → Act → World → Prop) : Exit → Act → World → Prop
  | .goto l, a, w => J l a w
  | e, a, w => Q e a w
section
variable {P : Program} {a : Act} {w : World} {Q : Exit → Act → World → Prop}
theorem scope_labels {c : Code} (J : Nat → Act → World → Prop) (μ : Nat → Act → World → Nat) (first : c.wp P (Jumps J Q) a w)
    (pass : ∀ l a w, J l a w → ∃ rest, findLabel c l = some rest ∧ rest.wp P (Jumps (fun l' a' w' => J l' a' w' ∧ μ l' a' w' < μ l a w) Q) a w) : (Code.scope c).wp P Q a w := by
  intro b k cs
  have key : ∀ n l a w, μ l a w = n → J l a w → ∃ rest, findLabel c l = some rest ∧ ∃ e a' w', Q e a' w' ∧ Arrives P (lone (b.at a (.code rest :: .inScope c :: k)) cs w) b k cs e a' w' := by
    intro n
    induction n using Nat.strongRecOn with
    | _ n ih =>
      intro l a w hn hJ
      obtain ⟨rest, hf, hw⟩ := pass l a w hJ
      refine ⟨rest, hf, ?_⟩
      obtain ⟨e, a₁, w₁, hq, harr⟩ := hw b (.inScope c :: k) cs
      cases e with
      | normal => exact ⟨.normal, a₁, w₁, hq, Steps.trans harr (.one step_inScope)⟩
      | exit id => exact ⟨.exit id, a₁, w₁, hq, fun k' hk => harr k' (by simp [exitTo, hk])⟩
      | goto l' =>
        obtain ⟨hJ', hlt⟩ := hq
        obtain ⟨rest', hf', e₂, a₂, w₂, hq₂, harr₂⟩ := ih _ (by omega) l' a₁ w₁ rfl hJ'
        exact ⟨e₂, a₂, w₂, hq₂, .of_steps (harr _ (by simp [gotoIn, hf'])) harr₂⟩
      | ret => exact ⟨_, a₁, w₁, hq, harr⟩
      | panic ch => exact ⟨_, a₁, w₁, hq, harr⟩
      | outgrown => exact ⟨_, a₁, w₁, hq, harr⟩
  obtain ⟨e, a₁, w₁, hq, harr⟩ := first b (.inScope c :: k) cs
  cases e with
  | normal => exact ⟨.normal, a₁, w₁, hq, .head step_scope (Steps.trans harr (.one step_inScope))⟩
  | exit id => exact ⟨.exit id, a₁, w₁, hq, fun k' hk => .head step_scope (harr k' (by simp [exitTo, hk]))⟩
  | goto l' =>
    obtain ⟨rest', hf', e₂, a₂, w₂, hq₂, harr₂⟩ := key _ l' a₁ w₁ rfl hq
    exact ⟨e₂, a₂, w₂, hq₂, .of_steps (.head step_scope (harr _ (by simp [gotoIn, hf']))) harr₂⟩
  | ret => exact ⟨_, a₁, w₁, hq, .of_steps (.one step_scope) harr⟩
  | panic ch => exact ⟨_, a₁, w₁, hq, .of_steps (.one step_scope) harr⟩
  | outgrown => exact ⟨_, a₁, w₁, hq, .of_steps (.one step_scope) harr⟩
end
section
variable {P : Program} {n : Nat} {L : List (Nat × Value)} {ds : List Nat} {w : World} {Q : Exit → Act → World → Prop} {c : Code}
def JL {ι : Type} (n : Nat) (ds : List Nat) (lab : ι → Nat) (M : ι → List (Nat × Value)) (I : ι → World → Prop) (m : ι → Prop) (l : Nat) (a : Act) (w : World) : Prop := ∃ j, lab j = l ∧ AgM ds a n (M j) ∧ I j w ∧ m j
theorem least_of {p : Nat → Prop} (h : ∃ m, p m) : ∃ m, p m ∧ ∀ k, p k → m ≤ k := by
 obtain ⟨m, hm⟩ := h
 induction m using Nat.strongRecOn with
 | _ m ih =>
  by_cases c : ∃ k, k < m ∧ p k
  ·obtain ⟨k, h1, h2⟩ := c; exact ih k h1 h2
  exact ⟨m, hm, fun k hk => Nat.not_lt.1 fun e => c ⟨k, e, hk⟩⟩
open Classical in
noncomputable def muL {ι : Type} (n : Nat) (ds : List Nat) (lab : ι → Nat) (M : ι → List (Nat × Value)) (I : ι → World → Prop) (μ : ι → Nat) (l : Nat) (a : Act) (w : World) : Nat :=
  if h : ∃ m, ∃ j, lab j = l ∧ AgM ds a n (M j) ∧ I j w ∧ μ j = m then Classical.choose (least_of h) else 0
theorem muL_le {ι : Type} {lab : ι → Nat} {M : ι → List (Nat × Value)} {I : ι → World → Prop} {μ : ι → Nat} {l : Nat} {a : Act} {w : World} {j : ι} (h1 : lab j = l) (h2 : AgM ds a n (M j)) (h3 : I j w) : muL n ds lab M I μ l a w ≤ μ j := by
 have h : ∃ m, ∃ j, lab j = l ∧ AgM ds a n (M j) ∧ I j w ∧ μ j = m := ⟨_, j, h1, h2, h3, rfl⟩
 rw [muL, dif_pos h]
 exact (Classical.choose_spec (least_of h)).2 _ ⟨j, h1, h2, h3, rfl⟩
theorem muL_get {ι : Type} {lab : ι → Nat} {M : ι → List (Nat × Value)} {I : ι → World → Prop} {μ : ι → Nat} {l : Nat} {a : Act} {w : World} {j : ι} (h1 : lab j = l) (h2 : AgM ds a n (M j)) (h3 : I j w) : ∃ i, lab i = l ∧ AgM ds a n (M i) ∧ I i w ∧ μ i = muL n ds lab M I μ l a w := by
 have h : ∃ m, ∃ j, lab j = l ∧ AgM ds a n (M j) ∧ I j w ∧ μ j = m := ⟨_, j, h1, h2, h3, rfl⟩
 rw [muL, dif_pos h]
 exact (Classical.choose_spec (least_of h)).1
theorem scL {ι : Type} (lab : ι → Nat) (M : ι → List (Nat × Value)) (I : ι → World → Prop) (μ : ι → Nat)
    (first : CW P (Jumps (JL n ds lab M I fun _ => True) Q) c n ds w L) (pass : ∀ j w, I j w → ∃ r, findLabel c (lab j) = some r ∧ CW P (Jumps (JL n ds lab M I fun i => μ i < μ j) Q) r n ds w (M j)) : CW P Q (.scope c) n ds w L := fun a ha => by
  refine scope_labels (JL n ds lab M I fun _ => True) (muL n ds lab M I μ) (first a ha) ?_
  rintro l a w ⟨j, h1, h2, h3, -⟩
  obtain ⟨i, i1, i2, i3, i4⟩ := muL_get (μ := μ) h1 h2 h3
  obtain ⟨r, r1, r2⟩ := pass i w i3
  refine ⟨r, by rw [← i1]; exact r1, wp_mono (r2 a i2) ?_⟩
  rintro e a' w' h
  cases e with
  | goto l' =>
    obtain ⟨k, k1, k2, k3, k4⟩ := h
    exact ⟨⟨k, k1, k2, k3, trivial⟩, Nat.lt_of_le_of_lt (muL_le k1 k2 k3) (by rw [← i4]; exact k4)⟩
  | _ => exact h
theorem gt {l : Nat} (h : EW Q (.goto l) n ds w L) : CW P Q (.goto l) n ds w L := fun a ha => wp_goto (h a ha)
theorem gtt {l : Nat} {K : Act → World → Prop} (h : EW Q (.goto l) n ds w L) : EW (Exit.then K Q) (.goto l) n ds w L := h
theorem gtl {ι : Type} {lab : ι → Nat} {M : ι → List (Nat × Value)} {I : ι → World → Prop} {m : ι → Prop} (j : ι) (hs : Sub (M j) L) (hI : I j w) (hm : m j) : EW (Jumps (JL n ds lab M I m) Q) (.goto (lab j)) n ds w L := fun a h => ⟨j, rfl, h.sub hs, hI, hm⟩
theorem gjr {J : Nat → Act → World → Prop} (h : EW Q .ret n ds w L) : EW (Jumps J Q) .ret n ds w L := h
end
end Go.Lw
namespace Go.Proofs.YthehggmdcmpjeaaGreatDoor
open Go.Lw Go.G14
theorem co100 : CallOf Tryz.prog 100 := mkC Tryz.func100
theorem co101 : CallOf Tryz.prog 101 := mkC Tryz.func101
theorem co121 : CallOf Tryz.prog 121 := mkC Tryz.func121
theorem co124 : CallOf Tryz.prog 124 := mkC Tryz.func124
theorem fa155_0 : FieldAt Tryz.prog 155 0 0 := fun _ _ => by kernel_rfl
theorem fa155_1 : FieldAt Tryz.prog 155 1 1 := fun _ _ => by kernel_rfl
structure GlobZ (w : World) : Prop where
  sy : Sym w
  ml : IntAt 0 w
  es : ∃ te pe, w.cell? ⟨3, 0, none⟩ = some (.iface te pe)
  er : ∃ te pe, w.cell? ⟨4, 0, none⟩ = some (.iface te pe)
  sz : 9 ≤ w.heap.size
theorem GlobZ.fr {w w' : World} {S : List Nat} (h : GlobZ w) (hf : Fr S w w') (hS : ∀ k ∈ S, 9 ≤ k) : GlobZ w' := by
 have hn : ∀ g, g < 9 → g ∉ S := fun g hg e => by have := hS g e; omega
 exact ⟨h.sy.fr hf (hn _ (by decide)), h.ml.fr hf (hn _ (by decide)), let ⟨a, b, e⟩ := h.es; ⟨a, b, hf.cell e (hn _ (by decide))⟩, let ⟨a, b, e⟩ := h.er; ⟨a, b, hf.cell e (hn _ (by decide))⟩, Nat.le_trans h.sz hf.size⟩
theorem GlobZ.ext {w w' : World} (h : GlobZ w) (hf : Fr [] w w') : GlobZ w' := h.fr hf (by simp)
theorem bytes_fr (w : World) (t : ByteArray) : Fr [] w (Lib.bytesWorld w 5 t) := Fr.of_below (Lib.bytesWorld_below w 5 t)
theorem atoiz_ok (l : List UInt8) (w0 : World) (hG : GlobZ w0) (hl : l.length ≤ 1000000) : Rets Tryz.prog 124 #[S l] w0 fun r w' => ∃ n e, ∃ b : Bool, r = .tuple #[.int .i64 n, e] ∧ (e = .nilIface ∧ b = false ∨ (∃ t p, e = .iface t p) ∧ b = true) ∧ (b = false → Lib.atoiAll l = .ok n) ∧ (b = true → ∀ v, Lib.atoiAll l ≠ .ok v) ∧ Fr [] w0 w' := by
 have hs : (⟨l.toArray⟩ : ByteArray).size = l.length := by simp [ByteArray.size]
 rcases h : Lib.atoiAll l with v | _ | _
 ·refine Calls.mono (Tryz.strconv_Atoi_ok ⟨l.toArray⟩ (by omega) v (by simpa using h) w0) ?_
  rintro e w' ⟨rfl, hw⟩
  refine ⟨_, rfl, v, .nilIface, false, rfl, .inl ⟨rfl, rfl⟩, fun _ => rfl, (fun e => by cases e), ?_⟩
  rcases hw with rfl | ⟨t, rfl⟩
  ·exact Fr.refl _ _
  exact bytes_fr w0 t
 ·obtain ⟨te, pe, he⟩ := hG.es
  refine Calls.mono (Tryz.strconv_Atoi_syntax ⟨l.toArray⟩ (by omega) (show Lib.atoiAll l = Lib.atoiAll [] from h) _ w0 he (.inr ⟨_, _, rfl⟩)) ?_
  rintro e w' ⟨N, rfl, _, _, hb⟩
  exact ⟨_, rfl, _, _, true, rfl, .inr ⟨⟨_, _, rfl⟩, rfl⟩, (fun e => by cases e), (fun _ v e => by cases e), Fr.of_below hb⟩
 obtain ⟨te, pe, he⟩ := hG.er
 refine Calls.mono (Tryz.strconv_Atoi_range ⟨l.toArray⟩ (by omega) (by simpa using h) _ w0 he (.inr ⟨_, _, rfl⟩)) ?_
 rintro e w' ⟨N, rfl, _, _, hb⟩
 exact ⟨_, rfl, _, _, true, rfl, .inr ⟨⟨_, _, rfl⟩, rfl⟩, (fun e => by cases e), (fun _ v e => by cases e), Fr.of_below hb⟩
theorem splitz_ok (l sep : List UInt8) (w0 : World) (hG : GlobZ w0) (hl : l.length < 4294967281) (h1 : 1 ≤ sep.length) : Rets Tryz.prog 103 #[S l, S sep] w0 fun r w' => Lw.Own Enc.str 9 w0.heap.size w' r (Lib.split l sep) ∧ Fr [] w0 w' := by
 obtain ⟨k, hk⟩ := hG.ml
 have hs : (⟨l.toArray⟩ : ByteArray).size = l.length := by simp [ByteArray.size]
 have hs2 : (⟨sep.toArray⟩ : ByteArray).size = sep.length := by simp [ByteArray.size]
 refine Calls.mono (Tryz.strings_Split ⟨l.toArray⟩ ⟨sep.toArray⟩ k w0 (by omega) hk (by omega)) ?_
 rintro e w' ⟨rfl, rfl⟩
 have hd := Lib.splitB_data ⟨sep.toArray⟩ 0 (Lib.countB ⟨l.toArray⟩ ⟨sep.toArray⟩) ⟨l.toArray⟩
 have hc : Lib.countB ⟨l.toArray⟩ ⟨sep.toArray⟩ = Lib.count l sep := by simp [Lib.countB]
 have hn := Lib.splitB_all ⟨sep.toArray⟩ (by omega) 0 _ ⟨l.toArray⟩ rfl
 have hcl := Lib.countB_le ⟨sep.toArray⟩ (by omega) _ ⟨l.toArray⟩ (Nat.le_refl _)
 rw [hs] at hcl
 have he : Lib.split l sep = (Lib.splitB ⟨sep.toArray⟩ 0 (Lib.countB ⟨l.toArray⟩ ⟨sep.toArray⟩) ⟨l.toArray⟩).map (·.data.toList) := by rw [hd, hc]; rfl
 have hz : ∀ zs : List ByteArray, zs.map Value.string = (zs.map (·.data.toList)).flatMap Enc.str.enc := fun zs => by
  induction zs with
  | nil => rfl
  | cons z zs ih => rw [List.map_cons, List.map_cons, List.flatMap_cons, ← ih]; rfl
 refine ⟨_, rfl, .inr ⟨w0.heap.size, Lib.countB ⟨l.toArray⟩ ⟨sep.toArray⟩ + 1, _, by rw [he, List.length_map, hn], Nat.le_refl _, heap_alloc_new w0 _, by rw [he, List.length_map, hn]; exact Nat.le_refl _, by unfold maxLen; omega, ?_, ?_⟩, Fr.alloc [] w0 _⟩
 ·rw [show Enc.str.sz = 1 from rfl, Nat.mul_one, List.size_toArray, List.length_map, hn]; exact Nat.le_refl _
 rw [he, List.length_map, hn, show Enc.str.sz = 1 from rfl, Nat.mul_one, ← hz]
 exact List.take_of_length_le (by rw [List.length_map, hn]; exact Nat.le_refl _)
theorem cutz_ok (l m : List UInt8) (w0 : World) (hG : GlobZ w0) (hl : l.length < 4294967281) : Rets Tryz.prog 100 #[S l, S m] w0 fun v w' => v = .tuple #[S (Lib.cut l m).1, S (Lib.cut l m).2.1, .bool (Lib.cut l m).2.2] ∧ Fr [] w0 w' := by
 obtain ⟨k, hk⟩ := hG.ml
 refine Calls.mono (Tryz.strings_Cut ⟨l.toArray⟩ ⟨m.toArray⟩ k w0 (by simpa [ByteArray.size] using hl) hk) ?_
 rintro e w' ⟨rfl, n, rfl⟩
 exact ⟨_, rfl, rfl, Fr.drewN _ _ _⟩
theorem contains_iff (l : List UInt8) (c : UInt8) : Lib.contains l [c] = decide (c ∈ l) := by
 unfold Lib.contains
 by_cases h : c ∈ l
 ·obtain ⟨x, y, rfl, hx⟩ := List.eq_append_cons_of_mem h
  rw [ix_app y hx]; simp
 rw [ix_none h]; simp [h]
theorem contz_ok (l : List UInt8) (c : UInt8) (w0 : World) (hG : GlobZ w0) (hl : l.length < 4294967281) : Rets Tryz.prog 67 #[S l, S [c]] w0 fun v w' => v = .bool (decide (c ∈ l)) ∧ Fr [] w0 w' := by
 obtain ⟨k, hk⟩ := hG.ml
 refine Calls.mono (Tryz.strings_Contains ⟨l.toArray⟩ ⟨#[c]⟩ k w0 (by simpa [ByteArray.size] using hl) hk) ?_
 rintro e w' ⟨rfl, rfl⟩
 exact ⟨_, rfl, congrArg Value.bool (contains_iff l c), Fr.refl _ _⟩
theorem cutp0_ok (l m : List UInt8) (w0 : World) : Rets Tryz.prog 121 #[S l, S m] w0 fun v w' => v = .tuple #[S (if m <+: l then l.drop m.length else l), .bool (decide (m <+: l))] ∧ Fr [] w0 w' := by
 refine we [(0, S l), (1, S m)] Tryz.func121 rfl Tryz.ntmps121 rfl (.c2 rfl rfl) ?_
 refine sr (asg rfl (asg rfl (nn (sq (sr (mv rfl (mv rfl ?_)))))))
 refine cl (ev2 rfl rfl) co137 (pref0_ok _ _ _) rfl ?_
 rintro _ _ ⟨rfl, rfl⟩
 refine nt' rfl (nn ?_)
 refine cd rfl (fun c0 => ?_) (fun c0 => ?_)
 ·have c0' : ¬ (m <+: l) := (by simpa using c0)
  refine sr (mv rfl (asg rfl (asg rfl (nn (rt (tr (r2 Tryz.results121 rfl rfl ?_)))))))
  exact ⟨_, rfl, by rw [if_neg c0', decide_eq_false c0'], (Fr.refl _ _)⟩
 have c0' : m <+: l := (by simpa using c0)
 have hle := c0'.length_le
 refine sk (tn (sr (mv rfl (mv rfl (ln rfl Tryz.underlying9 (s_ss_l (p := m.length) rfl rfl Tryz.underlying9 (by omega) rfl (asg rfl (asg rfl (kpL [(4, _), (5, _)] (.c2 rfl rfl) (nn (rt ?_)))))))))))
 refine r2 Tryz.results121 rfl rfl ?_
 exact ⟨_, rfl, by rw [if_pos c0', decide_eq_true c0'], (Fr.refl _ _)⟩
theorem cutp_ok (l m : List UInt8) (w0 : World) : Rets Tryz.prog 101 #[S l, S m] w0 fun v w' => v = .tuple #[S (if m <+: l then l.drop m.length else l), .bool (decide (m <+: l))] ∧ Fr [] w0 w' := by
 refine we [(0, S l), (1, S m)] Tryz.func101 rfl Tryz.ntmps101 rfl (.c2 rfl rfl) ?_
 refine sr (asg rfl (asg rfl (nn (sr (mv rfl (mv rfl ?_))))))
 refine cl (ev2 rfl rfl) co121 (cutp0_ok _ _ _) rfl ?_
 rintro _ w1 ⟨rfl, q1⟩
 have z1 := q1.size
 refine xt rfl rfl (xt rfl rfl (asg rfl (asg rfl (kpL [(4, _), (5, _)] (.c2 rfl rfl) (nn (rt (r2 Tryz.results101 rfl rfl ?_)))))))
 exact ⟨_, rfl, rfl, q1⟩
theorem look_ok (g n : Nat) (s w : List UInt8) (w0 : World) (hb : Blk w0 g 155 [S s, .int .i64 (n : Int)]) (hG : GlobZ w0) (hs : s.length ≤ 1000000) (hw : w.length ≤ 7) : Rets Tryz.prog 66 #[.pointer (some ⟨g, 0, none⟩), S w] w0 fun r w' => ∃ b, ∃ ok : Bool, r = .tuple #[S b, .bool ok] ∧ (ok = true → lookW w s = some b) ∧ (ok = false → lookW w s = none) ∧ Fr [] w0 w' := by
 have hGs := hG.sz
 refine we [(0, .pointer (some ⟨g, 0, none⟩)), (1, S w)] Tryz.func66 rfl Tryz.ntmps66 rfl (.c2 rfl rfl) ?_
 have hG0 := hG
 refine sr (asg rfl (asg rfl (nn (sr (mv rfl (nlc rfl (fad rfl fa155_0 (s_loadB rfl hb rfl na9 ?_))))))))
 refine cl (ev2 rfl rfl) co100 (cutz_ok _ _ _ hG (by omega)) rfl ?_
 rintro _ w1 ⟨rfl, q1⟩
 have z1 := q1.size
 refine mv rfl (xt rfl rfl (xt rfl rfl (xt rfl rfl (asg rfl (asg rfl (asg rfl (kpL [(1, _), (6, _), (8, _)] (.c3 rfl rfl rfl) (nn (sr (mv rfl (mv rfl ?_)))))))))))
 refine s_adds rfl rfl ?_
 refine cl (ev2 rfl rfl) co101 (cutp_ok _ _ _) rfl ?_
 rintro _ w2 ⟨rfl, q2⟩
 have z2 := q2.size
 refine mv rfl (xt rfl rfl (xt rfl rfl (asg rfl (asg rfl (kpL [(8, _), (9, _), (10, _)] (.c3 rfl rfl rfl) (nn (sr (mv rfl (mv rfl (mv rfl ?_))))))))))
 refine gs 29 rfl (fun g0 => ?_) (fun g0 => ?_)
 ·refine gY rfl (mv rfl (pkt rfl rfl (asg rfl (asg rfl (kpL [(4, _), (5, _)] (.c2 rfl rfl) (nn (rt (r2 Tryz.results66 rfl rfl ?_))))))))
  first | exact ⟨_, rfl, _, _, rfl, (fun e => by have e2 := of_decide_eq_true e; rw [lookW, if_pos g0, headW, if_pos e2, if_pos e2]; simp), (fun e => by have e2 := of_decide_eq_false e; rw [lookW, if_pos g0, headW, if_neg e2]), (q1.n1 q2)⟩ | exact ⟨_, rfl, _, _, rfl, (fun e => by cases e), (fun _ => by rw [lookW, if_neg g0]), (q1.n1 q2)⟩
 refine gN rfl rfl rfl (pkf rfl rfl (asg rfl (asg rfl (kpL [(4, _), (5, _)] (.c2 rfl rfl) (nn (rt (r2 Tryz.results66 rfl rfl ?_)))))))
 first | exact ⟨_, rfl, _, _, rfl, (fun e => by have e2 := of_decide_eq_true e; rw [lookW, if_pos g0, headW, if_pos e2, if_pos e2]; simp), (fun e => by have e2 := of_decide_eq_false e; rw [lookW, if_pos g0, headW, if_neg e2]), (q1.n1 q2)⟩ | exact ⟨_, rfl, _, _, rfl, (fun e => by cases e), (fun _ => by rw [lookW, if_neg g0]), (q1.n1 q2)⟩
theorem pass_ok (g n : Nat) (s : List UInt8) (w0 : World) (hb : Blk w0 g 155 [S s, .int .i64 (n : Int)]) (hG : GlobZ w0) (hs : s.length ≤ 1000000) (hn : n ≤ 1000000) (hg : 9 ≤ g) : Rets Tryz.prog 68 #[.pointer (some ⟨g, 0, none⟩)] w0 fun r w' => r = .tuple #[] ∧ Blk w' g 155 [S (Lib.cut s [10]).2.1, .int .i64 ((n + 1 : Nat) : Int)] ∧ Fr [g] w0 w' := by
 have hGs := hG.sz
 refine we [(0, .pointer (some ⟨g, 0, none⟩))] Tryz.func68 rfl Tryz.ntmps68 rfl (.cons rfl .nil) ?_
 have hG0 := hG
 refine sr (mv rfl (mv rfl (nlc rfl (fad rfl fa155_0 (s_loadB rfl hb rfl na9 ?_)))))
 refine cl (ev2 rfl rfl) co100 (cutz_ok _ _ _ hG (by omega)) rfl ?_
 rintro _ w1 ⟨rfl, q1⟩
 have z1 := q1.size
 refine mv rfl (xt rfl rfl (xt rfl rfl (xt rfl rfl (nlc rfl (fad rfl fa155_0 ?_)))))
 replace hb := hb.ext q1
 refine s_storeB rfl rfl hb rfl sz9 (fun w2 hb q2 z2 => ?_)
 replace hb : Blk w2 g _ [_, _] := hb
 refine kpL [(0, _)] (.cons rfl .nil) (nn (rg (mv rfl (nlc rfl (fad rfl fa155_1 (s_loadB rfl hb rfl na3 (s_add rfl rfl (wi6 (by omega)) (nlc rfl (fad rfl fa155_1 (s_storeB rfl rfl hb rfl sz3 (fun w3 hb q3 z3 => ?_)))))))))))
 replace hb : Blk w3 g _ [_, _] := hb
 refine kpL [] .nil (nl (r0n Tryz.results68  ?_))
 exact ⟨_, rfl, rfl, hb, ((Fr.refl [g] _).z3 q1 q2 q3)⟩
theorem u8_int (x c : UInt8) : ((x.toNat : Int) = (c.toNat : Int)) ↔ x = c := by
 constructor
 ·intro h; exact UInt8.toNat_inj.1 (by omega)
 rintro rfl; rfl
theorem numW_a {l : List UInt8} (h : l = [] ∨ 1 < (l.length : Int) ∧ ((l.getD 0 0).toNat : Int) = 48) : numW l = none := by
 unfold numW; rw [if_pos (h.imp id fun ⟨a, b⟩ => ⟨by omega, (u8_int _ 48).1 b⟩)]
theorem numW_na {l : List UInt8} (h : ¬ (l = [] ∨ 1 < (l.length : Int) ∧ ((l.getD 0 0).toNat : Int) = 48)) : ¬ (l = [] ∨ 1 < l.length ∧ l.getD 0 0 = 48) := fun e => h (e.imp id fun ⟨a, b⟩ => ⟨by omega, (u8_int _ 48).2 b⟩)
theorem numW_b {l : List UInt8} (h : ¬ (l = [] ∨ 1 < (l.length : Int) ∧ ((l.getD 0 0).toNat : Int) = 48)) (h2 : l.all isDig = false) : numW l = none := by
 unfold numW; rw [if_neg (numW_na h), if_pos h2]
theorem numW_c {l : List UInt8} (h : ¬ (l = [] ∨ 1 < (l.length : Int) ∧ ((l.getD 0 0).toNat : Int) = 48)) (h2 : l.all isDig = true) (h3 : ∀ v, Lib.atoiAll l ≠ .ok v) : numW l = none := by
 unfold numW; rw [if_neg (numW_na h), if_neg (by rw [h2]; decide)]
 cases e : Lib.atoiAll l with
 | ok v => exact absurd e (h3 v)
 | _ => rfl
theorem numW_d {l : List UInt8} {n : Int} (h : ¬ (l = [] ∨ 1 < (l.length : Int) ∧ ((l.getD 0 0).toNat : Int) = 48)) (h2 : l.all isDig = true) (h3 : Lib.atoiAll l = .ok n) : numW l = some n := by
 unfold numW; rw [if_neg (numW_na h), if_neg (by rw [h2]; decide), h3]
theorem gnum_ok (l : List UInt8) (w0 : World) (hG : GlobZ w0) (hl : l.length ≤ 1000000) : Rets Tryz.prog 104 #[S l] w0 fun r w' => ∃ n, ∃ ok : Bool, r = .tuple #[.int .i64 n, .bool ok] ∧ (ok = true → numW l = some n) ∧ (ok = false → numW l = none) ∧ Fr [] w0 w' := by
 have hGs := hG.sz
 refine we [(0, S l)] Tryz.func104 rfl Tryz.ntmps104 rfl (.cons rfl .nil) ?_
 have hG0 := hG
 refine sr (asg rfl (asg rfl (nn (sq (sq ?_)))))
 refine rbo (r := 19) (L' := [(0, _)]) (l = [] ∨ 1 < (l.length : Int) ∧ ((l.getD 0 0).toNat : Int) = 48) (.cons rfl .nil) ?_ ?_
 ·refine mv rfl (s_eqs rfl rfl (mv rfl ?_))
  refine gs 10 rfl (fun g0 => ?_) (fun g0 => ?_)
  ·exact gN rfl rfl rfl (gN rfl rfl rfl (gN rfl rfl rfl (gN rfl rfl rfl (gS rfl rfl (gS rfl rfl (gS rfl rfl (gN rfl rfl rfl (pkt rfl rfl (rbe rfl (.cons rfl .nil))))))))))
  refine gY rfl (mv rfl (gY rfl (ln rfl Tryz.underlying9 (gY rfl (gt' rfl rfl (gY rfl (mv rfl ?_)))))))
  refine gs 14 rfl (fun g1 => ?_) (fun g1 => ?_)
  ·refine gY rfl (mv rfl (gY rfl (s_index (p := 0) rfl rfl Tryz.underlying9 rfl rfl (fun hy16 => ?_))))
   exact gY rfl (eq' rfl rfl (gY rfl (pkt rfl rfl (pkf rfl rfl (rbe rfl (.cons rfl .nil))))))
  exact gN rfl rfl rfl (gN rfl rfl rfl (gN rfl rfl rfl (gY rfl (pkf rfl rfl (pkf rfl rfl (rbe rfl (.cons rfl .nil)))))))
 refine tn ?_
 refine cd rfl (fun c0 => ?_) (fun c0 => ?_)
 ·refine sr (asg rfl (asg rfl (nn (rt (tr (r2 Tryz.results104 rfl rfl ?_))))))
  exact ⟨_, rfl, _, _, rfl, (fun e => by cases e), fun _ => numW_a c0, (Fr.refl _ _)⟩
 refine sk (tn (sq (sr (mv rfl (s_range rfl Tryz.underlying9 rfl (fun g21 w1 hg21 hit21 q1 z1 => ?_))))))
 refine nn (bl ?_)
 refine lpK (ι := Nat) [(0, _), (21, _)] (fun i => []) (fun i w' => Fr [g21] w1 w' ∧ i ≤ l.length ∧ (l.take i).all isDig = true ∧ IterAt w' g21 l i) (fun i => l.length - i) 0 (.c2 rfl rfl) ⟨Fr.refl _ _, ⟨Nat.zero_le _, rfl, hit21⟩⟩ ?_
 rintro i w2 ⟨q2, ⟨hi, ha, hit21⟩⟩
 have z2 := q2.size
 refine kpC [(0, _), (21, _)] (.c2 rfl rfl) ?_
 refine sr ?_
 refine s_next rfl hit21 rfl (fun hlt w3 hit21 q3 z3 => ?_) (fun hlt => ?_)
 ·refine xt rfl rfl (nn (sq (ct rfl (sk (tn (bl (sr (xt rfl rfl (asg rfl (nn (sq ?_)))))))))))
  refine rbo (r := 30) (L' := [(0, _), (21, _)]) (((((dec8 l i).1 : Int) < 48) ∨ (57 < ((dec8 l i).1 : Int)))) (.c2 rfl rfl) ?_ ?_
  ·refine mv rfl (lt' rfl rfl (mv rfl ?_))
   refine gs 27 rfl (fun g2 => ?_) (fun g2 => ?_)
   ·exact gN rfl rfl rfl (gN rfl rfl rfl (pkt rfl rfl (rbe rfl (.c2 rfl rfl))))
   exact gY rfl (mv rfl (gY rfl (gt' rfl rfl (pkf rfl rfl (rbe rfl (.c2 rfl rfl))))))
  refine tn ?_
  refine cd rfl (fun c2 => ?_) (fun c2 => ?_)
  ·refine sr (asg rfl (asg rfl (nn (rt (rb (tr (rb (tr (r2 Tryz.results104 rfl rfl ?_)))))))))
   exact ⟨_, rfl, _, _, rfl, (fun e => by cases e), fun _ => numW_b c0 (dig_no (by assumption) (by omega)), (q1.z2 q2 q3)⟩
  refine sk (bn' ?_)
  obtain ⟨ha2, hw1⟩ := dig_of hi ha hlt (by omega)
  rw [hw1] at hit21
  exact lpE (i + 1) (.c2 rfl rfl) ⟨((Fr.refl [g21] _).z2 q2 q3), ⟨by omega, ha2, hit21⟩⟩ (by omega)
 refine xt rfl rfl (nn (sq (cf rfl (ex (te (te (xh (tn (sr (mv rfl ?_))))))))))
 replace hG := hG0.ext (q1.z1 q2)
 refine cl (ev1 rfl) co124 (atoiz_ok _ _ hG (by omega)) rfl ?_
 rintro _ w4 ⟨nv, ev, eb, rfl, heb, hok, hno, q4⟩
 have z4 := q4.size
 refine mv rfl (xt rfl rfl (xt rfl rfl (asg rfl (asg rfl (kpL [(6, _), (7, _)] (.c2 rfl rfl) (nn (sq (sr (mv rfl ?_)))))))))
 refine s_neNil rfl Tryz.underlying111 heb rfl ?_
 refine nn ?_
 refine cd rfl (fun c3 => ?_) (fun c3 => ?_)
 ·refine sr (asg rfl (asg rfl (nn (rt (tr (r2 Tryz.results104 rfl rfl ?_))))))
  have hda : l.all isDig = true := (by rw [← List.take_of_length_le (l := l) (show l.length ≤ i by omega)]; assumption)
  exact ⟨_, rfl, _, _, rfl, (fun e => by cases e), fun _ => numW_c c0 hda (hno c3), (q1.z2 q2 q4)⟩
 refine sk (tn (sr (mv rfl (asg rfl (asg rfl (nn (rt (r2 Tryz.results104 rfl rfl ?_))))))))
 have hda : l.all isDig = true := (by rw [← List.take_of_length_le (l := l) (show l.length ≤ i by omega)]; assumption)
 exact ⟨_, rfl, _, _, rfl, (fun _ => numW_d c0 hda (hok (by simpa using c3))), (fun e => by cases e), (q1.z2 q2 q4)⟩
end Go.Proofs.YthehggmdcmpjeaaGreatDoor
namespace Go.Lw
theorem laid_at {P : Program} {W : World} {n : String} {d : DataW Unit} : ∀ {l : List (String × DataW Unit)} {ps : List MemPlace}, DataW.LaidVars P W l ps → (n, d) ∈ l →
    ∃ g t cs fuel p, P.globalNamed n = some g ∧ (P.globals[g]?).map (·.type) = some t ∧ W.var? P n = some cs ∧ DataW.trod (fun _ => ()) P W 0 (fun _ => true) false fuel t cs.toList = some (d, p)
  | [], _, _, hm => by simp at hm
  | (m, e) :: r, ps, h, hm => by
    obtain ⟨g, t, cs, fuel, p, q, e1, e2, e3, e4, hr, _⟩ := h
    rcases List.mem_cons.1 hm with e | hm
    · cases e; exact ⟨g, t, cs, fuel, p, e1, e2, e3, e4⟩
    · exact laid_at hr hm
theorem iface_of {H : Type} {enc : TypeId × Value → H} {P : Program} {w : World} {base : Nat} {sp : Nat → Bool} {held : Bool} {fuel : Nat} {t : TypeId} {ms} {cs : List Value} {nm : String} {d : DataW H} {p : List MemPlace}
    (ht : P.underlying t = some (.interface ms)) (h : DataW.trod enc P w base sp held fuel t cs = some (.iface nm d, p)) : ∃ u v, cs = [.iface u v] := by
  cases fuel with
  | zero => simp [DataW.trod] at h
  | succ fuel =>
    simp only [DataW.trod, ht] at h
    split at h <;> simp_all
theorem var_lt {P : Program} {W : World} {n : String} {g : Nat} {cs : Array Value} (hg : P.globalNamed n = some g) (h : W.var? P n = some cs) : g < W.heap.size := by
 unfold World.var? at h
 simp only [hg, Option.bind_some] at h
 rcases Nat.lt_or_ge g W.heap.size with h' | h'
 ·exact h'
 rw [Array.getElem?_eq_none h'] at h; simp at h
end Go.Lw
namespace Go.Proofs.YthehggmdcmpjeaaGreatDoor
open Go.ChangeShapes Go.WideShapes Go.ChangeAt Go.RowKit Go.Lw
open Go.G14
theorem own : ownKnob Tryz.prog.godebug = none := by kernel_rfl
theorem laidOut : laidOutB Tryz.prog = true := by kernel_rfl
theorem gSym : Tryz.prog.globalNamed "gansey/stitches.symbols" = some 2 := by kernel_rfl
theorem gSymT : (Tryz.prog.globals[2]?).map (·.type) = some 255 := by kernel_rfl
theorem cellsA : Tryz.prog.cellsOf 255 = 8 := by kernel_rfl
theorem cells1 : Tryz.prog.cellsOf 5 = 1 := by kernel_rfl
def laidL : List (String × DataW Unit) := [("gansey/stitches.symbols", Rows.laid_gansey_stitches_symbols), ("math/bits.deBruijn32tab", Rows.laid_math_bits_deBruijn32tab), ("math/bits.deBruijn64tab", Rows.laid_math_bits_deBruijn64tab), ("internal/strconv.uint64pow10", Rows.laid_internal_strconv_uint64pow10), ("unicode/utf8.acceptRanges", Rows.laid_unicode_utf8_acceptRanges), ("strconv.ErrRange", Rows.laid_strconv_ErrRange), ("strconv.ErrSyntax", Rows.laid_strconv_ErrSyntax), ("unicode/utf8.first", Rows.laid_unicode_utf8_first)]
theorem sym_of {W : World} (h : laidMetH Tryz.prog laidL W) : Sym W := by
 have ht : Lib.TabIs Tryz.prog W "gansey/stitches.symbols" .u8 [107, 112, 111, 47, 118, 116, 115, 99] :=
  Lib.tabIs_of_head (rest := laidL.drop 1) gSym gSymT Tryz.underlying255 Tryz.underlying5 cells1 cellsA h
 intro j u hu
 have hj : j < 8 := by
  have := (List.getElem?_eq_some_iff.1 hu).1
  rwa [show (symbols.flatMap Enc.b.enc).length = 8 from rfl] at this
 have hc := ht.cell gSym j hj
 rw [lit_add, Nat.zero_add, hc]
 match j, hj, hu with
 | 0, _, hu => exact hu
 | 1, _, hu => exact hu
 | 2, _, hu => exact hu
 | 3, _, hu => exact hu
 | 4, _, hu => exact hu
 | 5, _, hu => exact hu
 | 6, _, hu => exact hu
 | 7, _, hu => exact hu
theorem err_at {n nm : String} {d : DataW Unit} {W : World} {l : List (String × DataW Unit)} {ps : List MemPlace} {g : Nat} (hL : DataW.LaidVars Tryz.prog W l ps) (hm : (n, .iface nm d) ∈ l) (hg : Tryz.prog.globalNamed n = some g) (hty : (Tryz.prog.globals[g]?).map (·.type) = some 111) : ∃ te pe, W.cell? ⟨g, 0, none⟩ = some (.iface te pe) := by
 obtain ⟨g', t', cs, fuel, p, e1, e2, e3, e4⟩ := laid_at hL hm
 cases hg.symm.trans e1
 cases hty.symm.trans e2
 obtain ⟨u, v, hc⟩ := iface_of Tryz.underlying111 e4
 exact ⟨u, v, by rw [World.var?_cell hg e3 0, ← Array.getElem?_toList, hc]; rfl⟩
theorem glob_of {W : World} (h : laidMetH Tryz.prog laidL W) (hSh : W.ShapedOpen Tryz.prog) : GlobZ W := by
 have hsy := sym_of h
 have h' : laidMet Tryz.prog laidL W := h
 obtain ⟨ps, hL, _, _⟩ := h'
 refine ⟨hsy, (Go.Proofs.cell_of_shapedOpen_int (zero := #[.int .i64 0]) (t := 3) hSh (of_decide_eq_true (by kernel_rfl)) (by kernel_rfl) rfl (by kernel_rfl) (by kernel_rfl) Tryz.underlying3), ?_, ?_, ?_⟩
 ·exact err_at (n := "strconv.ErrSyntax") hL (by unfold laidL; simp only [Rows.laid_strconv_ErrSyntax]; simp; exact ⟨rfl, rfl⟩) (by kernel_rfl) (by kernel_rfl)
 ·exact err_at (n := "strconv.ErrRange") hL (by unfold laidL; simp only [Rows.laid_strconv_ErrRange]; simp; exact ⟨rfl, rfl⟩) (by kernel_rfl) (by kernel_rfl)
 obtain ⟨g', t', cs, fuel, p, e1, e2, e3, e4⟩ := laid_at (n := "unicode/utf8.acceptRanges") (d := Rows.laid_unicode_utf8_acceptRanges) hL (by simp [laidL])
 have := var_lt (show Tryz.prog.globalNamed "unicode/utf8.acceptRanges" = some 8 by kernel_rfl) e3
 omega
def plainL : List (String × DataW Unit) := laidL.filter fun p => match p.2 with | .iface _ _ => false | _ => true
noncomputable def witP (os : Os) : World := laidW Tryz.prog os plainL
noncomputable def layErr (w : World) (g : Nat) (s : List UInt8) : World := layW (w.alloc (.cells #[.string ⟨s.toArray⟩] 285)) g #[.iface 283 (.pointer (some ⟨w.heap.size, 0, none⟩))]
noncomputable def witW (os : Os) : World := layErr (layErr (witP os) 4 [118, 97, 108, 117, 101, 32, 111, 117, 116, 32, 111, 102, 32, 114, 97, 110, 103, 101]) 3 [105, 110, 118, 97, 108, 105, 100, 32, 115, 121, 110, 116, 97, 120]
end Go.Proofs.YthehggmdcmpjeaaGreatDoor
namespace Go.Proofs.YthehggmdcmpjeaaGreatDoor
open Go.Lw Go.G14
def encC : Enc (Int × SV) := ⟨fun p => [.int .u8 p.1, slv p.2], 2, fun _ => rfl, fun _ u h => by simp [slv] at h; rcases h with rfl | rfl <;> rfl, by decide⟩
def encM : Enc (Int × Int × (Int × SV) × (Int × SV) × (Int × SV)) := ⟨fun p => [.int .u8 p.1, .int .u8 p.2.1, .int .u8 p.2.2.1.1, slv p.2.2.1.2, .int .u8 p.2.2.2.1.1, slv p.2.2.2.1.2, .int .u8 p.2.2.2.2.1, slv p.2.2.2.2.2], 8, fun _ => rfl, fun _ u h => by simp [slv] at h; rcases h with rfl | rfl | rfl | rfl | rfl | rfl | rfl | rfl <;> rfl, by decide⟩
def encGq : Enc (Int × SV) := encC
theorem opC0_len {cs : List Value} (h : cs.length = 2) : ∃ c0 c1, cs = [c0, c1] := match cs, h with | [c0, c1], _ => ⟨c0, c1, rfl⟩
theorem opC0 : Opens Tryz.prog 72 encC (fun w y => (0 ≤ y.1 ∧ y.1 ≤ 255) ∧ SlR Enc.sl (SlR Enc.b (fun _ _ => True)) w y.2) := by
 intro H enc w base sp held fuel cs x h
 obtain ⟨xs, n, _, _, hl, hlen, hf⟩ := DataW.trod_struct Tryz.underlying72 h
 rw [show Tryz.prog.cellsOf 72 = 2 by kernel_rfl] at hl
 obtain ⟨c0, c1, rfl⟩ := opC0_len hl
 have h0 : DataW.trod enc Tryz.prog w base sp held n 5 (([c0, c1].drop 0).take (Tryz.prog.cellsOf 5)) = xs[0]? := hf 0 _ rfl
 rw [show Tryz.prog.cellsOf 5 = 1 by kernel_rfl] at h0
 obtain ⟨y0, e0, r0⟩ := opens_field (cs := [c0]) h0 hlen (by decide) (opens_u8 Tryz.underlying5)
 have h1 : DataW.trod enc Tryz.prog w base sp held n 70 (([c0, c1].drop 1).take (Tryz.prog.cellsOf 70)) = xs[1]? := hf 1 _ rfl
 rw [show Tryz.prog.cellsOf 70 = 1 by kernel_rfl] at h1
 obtain ⟨y1, e1, r1⟩ := opens_field (cs := [c1]) h1 hlen (by decide) (opens_slice Tryz.underlying70 (by kernel_rfl) (opens_slice Tryz.underlying75 (by kernel_rfl) (opens_b Tryz.underlying5)))
 cases e0
 cases e1
 exact ⟨(y0, y1), rfl, ⟨r0, r1⟩⟩
theorem opCd : Opens Tryz.prog 72 encC (fun w y => (0 ≤ y.1 ∧ y.1 ≤ 255) ∧ CAt w y.2) := by
 intro H enc w base sp held fuel cs x h
 obtain ⟨y, rfl, h1, hs, h2, h3⟩ := opC0 H enc w base sp held fuel cs x h
 exact ⟨y, rfl, h1, hs, h2, fun p hp => (h3 p hp).imp fun _ z => z.1⟩
theorem opM_len {cs : List Value} (h : cs.length = 8) : ∃ c0 c1 c2 c3 c4 c5 c6 c7, cs = [c0, c1, c2, c3, c4, c5, c6, c7] := match cs, h with | [c0, c1, c2, c3, c4, c5, c6, c7], _ => ⟨c0, c1, c2, c3, c4, c5, c6, c7, rfl⟩
theorem opM : Opens Tryz.prog 74 encM (fun w m => (0 ≤ m.1 ∧ m.1 ≤ 255) ∧ (0 ≤ m.2.1 ∧ m.2.1 ≤ 255) ∧ ((0 ≤ m.2.2.1.1 ∧ m.2.2.1.1 ≤ 255) ∧ CAt w m.2.2.1.2) ∧ ((0 ≤ m.2.2.2.1.1 ∧ m.2.2.2.1.1 ≤ 255) ∧ CAt w m.2.2.2.1.2) ∧ ((0 ≤ m.2.2.2.2.1 ∧ m.2.2.2.2.1 ≤ 255) ∧ CAt w m.2.2.2.2.2)) := by
 intro H enc w base sp held fuel cs x h
 obtain ⟨xs, n, _, _, hl, hlen, hf⟩ := DataW.trod_struct Tryz.underlying74 h
 rw [show Tryz.prog.cellsOf 74 = 8 by kernel_rfl] at hl
 obtain ⟨c0, c1, c2, c3, c4, c5, c6, c7, rfl⟩ := opM_len hl
 have h0 : DataW.trod enc Tryz.prog w base sp held n 5 (([c0, c1, c2, c3, c4, c5, c6, c7].drop 0).take (Tryz.prog.cellsOf 5)) = xs[0]? := hf 0 _ rfl
 rw [show Tryz.prog.cellsOf 5 = 1 by kernel_rfl] at h0
 obtain ⟨y0, e0, r0⟩ := opens_field (cs := [c0]) h0 hlen (by decide) (opens_u8 Tryz.underlying5)
 have h1 : DataW.trod enc Tryz.prog w base sp held n 5 (([c0, c1, c2, c3, c4, c5, c6, c7].drop 1).take (Tryz.prog.cellsOf 5)) = xs[1]? := hf 1 _ rfl
 rw [show Tryz.prog.cellsOf 5 = 1 by kernel_rfl] at h1
 obtain ⟨y1, e1, r1⟩ := opens_field (cs := [c1]) h1 hlen (by decide) (opens_u8 Tryz.underlying5)
 have h2 : DataW.trod enc Tryz.prog w base sp held n 72 (([c0, c1, c2, c3, c4, c5, c6, c7].drop 2).take (Tryz.prog.cellsOf 72)) = xs[2]? := hf 2 _ rfl
 rw [show Tryz.prog.cellsOf 72 = 2 by kernel_rfl] at h2
 obtain ⟨y2, e2, r2⟩ := opens_field (cs := [c2, c3]) h2 hlen (by decide) opCd
 have h3 : DataW.trod enc Tryz.prog w base sp held n 72 (([c0, c1, c2, c3, c4, c5, c6, c7].drop 4).take (Tryz.prog.cellsOf 72)) = xs[3]? := hf 3 _ rfl
 rw [show Tryz.prog.cellsOf 72 = 2 by kernel_rfl] at h3
 obtain ⟨y3, e3, r3⟩ := opens_field (cs := [c4, c5]) h3 hlen (by decide) opCd
 have h4 : DataW.trod enc Tryz.prog w base sp held n 72 (([c0, c1, c2, c3, c4, c5, c6, c7].drop 6).take (Tryz.prog.cellsOf 72)) = xs[4]? := hf 4 _ rfl
 rw [show Tryz.prog.cellsOf 72 = 2 by kernel_rfl] at h4
 obtain ⟨y4, e4, r4⟩ := opens_field (cs := [c6, c7]) h4 hlen (by decide) opCd
 cases e0
 cases e1
 cases e2
 cases e3
 cases e4
 exact ⟨(y0, y1, y2, y3, y4), rfl, ⟨r0, r1, r2, r3, r4⟩⟩
theorem opQ_len {cs : List Value} (h : cs.length = 12) : ∃ c0 c1 c2 c3 c4 c5 c6 c7 c8 c9 c10 c11, cs = [c0, c1, c2, c3, c4, c5, c6, c7, c8, c9, c10, c11] := match cs, h with | [c0, c1, c2, c3, c4, c5, c6, c7, c8, c9, c10, c11], _ => ⟨c0, c1, c2, c3, c4, c5, c6, c7, c8, c9, c10, c11, rfl⟩
theorem opQ : Opens Tryz.prog 77 encQd (fun w q => QAt w q) := by
 intro H enc w base sp held fuel cs x h
 obtain ⟨xs, n, _, _, hl, hlen, hf⟩ := DataW.trod_struct Tryz.underlying77 h
 rw [show Tryz.prog.cellsOf 77 = 12 by kernel_rfl] at hl
 obtain ⟨c0, c1, c2, c3, c4, c5, c6, c7, c8, c9, c10, c11, rfl⟩ := opQ_len hl
 have h0 : DataW.trod enc Tryz.prog w base sp held n 74 (([c0, c1, c2, c3, c4, c5, c6, c7, c8, c9, c10, c11].drop 0).take (Tryz.prog.cellsOf 74)) = xs[0]? := hf 0 _ rfl
 rw [show Tryz.prog.cellsOf 74 = 8 by kernel_rfl] at h0
 obtain ⟨y0, e0, r0⟩ := opens_field (cs := [c0, c1, c2, c3, c4, c5, c6, c7]) h0 hlen (by decide) opM
 have h1 : DataW.trod enc Tryz.prog w base sp held n 5 (([c0, c1, c2, c3, c4, c5, c6, c7, c8, c9, c10, c11].drop 8).take (Tryz.prog.cellsOf 5)) = xs[1]? := hf 1 _ rfl
 rw [show Tryz.prog.cellsOf 5 = 1 by kernel_rfl] at h1
 obtain ⟨y1, e1, r1⟩ := opens_field (cs := [c8]) h1 hlen (by decide) (opens_u8 Tryz.underlying5)
 have h2 : DataW.trod enc Tryz.prog w base sp held n 5 (([c0, c1, c2, c3, c4, c5, c6, c7, c8, c9, c10, c11].drop 9).take (Tryz.prog.cellsOf 5)) = xs[2]? := hf 2 _ rfl
 rw [show Tryz.prog.cellsOf 5 = 1 by kernel_rfl] at h2
 obtain ⟨y2, e2, r2⟩ := opens_field (cs := [c9]) h2 hlen (by decide) (opens_u8 Tryz.underlying5)
 have h3 : DataW.trod enc Tryz.prog w base sp held n 5 (([c0, c1, c2, c3, c4, c5, c6, c7, c8, c9, c10, c11].drop 10).take (Tryz.prog.cellsOf 5)) = xs[3]? := hf 3 _ rfl
 rw [show Tryz.prog.cellsOf 5 = 1 by kernel_rfl] at h3
 obtain ⟨y3, e3, r3⟩ := opens_field (cs := [c10]) h3 hlen (by decide) (opens_u8 Tryz.underlying5)
 have h4 : DataW.trod enc Tryz.prog w base sp held n 5 (([c0, c1, c2, c3, c4, c5, c6, c7, c8, c9, c10, c11].drop 11).take (Tryz.prog.cellsOf 5)) = xs[4]? := hf 4 _ rfl
 rw [show Tryz.prog.cellsOf 5 = 1 by kernel_rfl] at h4
 obtain ⟨y4, e4, r4⟩ := opens_field (cs := [c11]) h4 hlen (by decide) (opens_u8 Tryz.underlying5)
 cases e0
 cases e1
 cases e2
 cases e3
 cases e4
 exact ⟨⟨y0.1, y0.2.1, y0.2.2.1.1, y0.2.2.1.2, y0.2.2.2.1.1, y0.2.2.2.1.2, y0.2.2.2.2.1, y0.2.2.2.2.2, y1, y2, y3, y4⟩, rfl, ⟨r0.2.2.1.2, r0.2.2.2.1.2, r0.2.2.2.2.2, r0.1, r0.2.1, r0.2.2.1.1, r0.2.2.2.1.1, r0.2.2.2.2.1, r1, r2, r3, r4⟩⟩
theorem opG_len {cs : List Value} (h : cs.length = 2) : ∃ c0 c1, cs = [c0, c1] := match cs, h with | [c0, c1], _ => ⟨c0, c1, rfl⟩
theorem opG : Opens Tryz.prog 24 encGq (fun w g => (0 ≤ g.1 ∧ g.1 ≤ 255) ∧ SlR encQd QAt w g.2) := by
 intro H enc w base sp held fuel cs x h
 obtain ⟨xs, n, _, _, hl, hlen, hf⟩ := DataW.trod_struct Tryz.underlying24 h
 rw [show Tryz.prog.cellsOf 24 = 2 by kernel_rfl] at hl
 obtain ⟨c0, c1, rfl⟩ := opG_len hl
 have h0 : DataW.trod enc Tryz.prog w base sp held n 5 (([c0, c1].drop 0).take (Tryz.prog.cellsOf 5)) = xs[0]? := hf 0 _ rfl
 rw [show Tryz.prog.cellsOf 5 = 1 by kernel_rfl] at h0
 obtain ⟨y0, e0, r0⟩ := opens_field (cs := [c0]) h0 hlen (by decide) (opens_u8 Tryz.underlying5)
 have h1 : DataW.trod enc Tryz.prog w base sp held n 22 (([c0, c1].drop 1).take (Tryz.prog.cellsOf 22)) = xs[1]? := hf 1 _ rfl
 rw [show Tryz.prog.cellsOf 22 = 1 by kernel_rfl] at h1
 obtain ⟨y1, e1, r1⟩ := opens_field (cs := [c1]) h1 hlen (by decide) (opens_slice Tryz.underlying22 (by kernel_rfl) opQ)
 cases e0
 cases e1
 exact ⟨(y0, y1), rfl, ⟨r0, r1⟩⟩
def encSp : Enc (Int × Int × List UInt8) := ⟨fun p => [.int .u8 p.1, .int .u8 p.2.1, S p.2.2], 3, fun _ => rfl, fun _ u h => by simp [slv] at h; rcases h with rfl | rfl | rfl <;> rfl, by decide⟩
theorem opSp_len {cs : List Value} (h : cs.length = 3) : ∃ c0 c1 c2, cs = [c0, c1, c2] := match cs, h with | [c0, c1, c2], _ => ⟨c0, c1, c2, rfl⟩
theorem opSp : Opens Tryz.prog 66 encSp (fun _ p => (0 ≤ p.1 ∧ p.1 ≤ 255) ∧ (0 ≤ p.2.1 ∧ p.2.1 ≤ 255)) := by
 intro H enc w base sp held fuel cs x h
 obtain ⟨xs, n, _, _, hl, hlen, hf⟩ := DataW.trod_struct Tryz.underlying66 h
 rw [show Tryz.prog.cellsOf 66 = 3 by kernel_rfl] at hl
 obtain ⟨c0, c1, c2, rfl⟩ := opSp_len hl
 have h0 : DataW.trod enc Tryz.prog w base sp held n 5 (([c0, c1, c2].drop 0).take (Tryz.prog.cellsOf 5)) = xs[0]? := hf 0 _ rfl
 rw [show Tryz.prog.cellsOf 5 = 1 by kernel_rfl] at h0
 obtain ⟨y0, e0, r0⟩ := opens_field (cs := [c0]) h0 hlen (by decide) (opens_u8 Tryz.underlying5)
 have h1 : DataW.trod enc Tryz.prog w base sp held n 5 (([c0, c1, c2].drop 1).take (Tryz.prog.cellsOf 5)) = xs[1]? := hf 1 _ rfl
 rw [show Tryz.prog.cellsOf 5 = 1 by kernel_rfl] at h1
 obtain ⟨y1, e1, r1⟩ := opens_field (cs := [c1]) h1 hlen (by decide) (opens_u8 Tryz.underlying5)
 have h2 : DataW.trod enc Tryz.prog w base sp held n 9 (([c0, c1, c2].drop 2).take (Tryz.prog.cellsOf 9)) = xs[2]? := hf 2 _ rfl
 rw [show Tryz.prog.cellsOf 9 = 1 by kernel_rfl] at h2
 obtain ⟨y2, e2, r2⟩ := opens_field (cs := [c2]) h2 hlen (by decide) (opens_str Tryz.underlying9)
 cases e0
 cases e1
 cases e2
 exact ⟨(y0, y1, y2), rfl, ⟨r0, r1⟩⟩
end Go.Proofs.YthehggmdcmpjeaaGreatDoor
namespace Go.Proofs.YthehggmdcmpjeaaGreatDoor
open Go.Lw Go.G14
theorem co103 : CallOf Tryz.prog 103 := mkC Tryz.func103
theorem co104 : CallOf Tryz.prog 104 := mkC Tryz.func104
theorem co105 : CallOf Tryz.prog 105 := mkC Tryz.func105
theorem zv114 (w : World) : (zeroValue 114).run Tryz.prog w = .ok (.agg #[(.int .i64 0), (.int .i64 0), (.int .i64 0), (.int .i64 0)]) w := by kernel_rfl
set_option maxHeartbeats 1000000 in
theorem piece_ok (l : List UInt8) (w0 : World) (hG : GlobZ w0) (hl : l.length ≤ 1000000) : Rets Tryz.prog 69 #[S l] w0 fun r w' => ∃ p, ∃ ok : Bool, r = .tuple #[.agg #[S p.nm, .slice none 0 0, .slice none 0 0, .slice none 0 0, .int .i64 p.ba, .int .i64 p.st, .int .i64 p.up, .int .i64 p.ct], .bool ok] ∧ p.mot = ⟨[], [], []⟩ ∧ (ok = true → pieceW l = some p) ∧ (ok = false → pieceW l = none) ∧ Fr [] w0 w' := by
 have hGs := hG.sz
 refine we [(0, S l)] Tryz.func69 rfl Tryz.ntmps69 rfl (.cons rfl .nil) ?_
 have hG0 := hG
 refine sr (al zv48 rfl rfl (fun g2 w1 hg2 hb2 q1 z1 => ?_))
 refine asg rfl (nn (sr (mv rfl ?_)))
 replace hG := hG0.ext q1
 refine cl (ev2 rfl rfl) co103 (splitz_ok _ _ _ hG (by omega) (by decide)) rfl ?_
 rintro v11 w2 ⟨ho11, q2⟩
 have z2 := q2.size
 have hLb := fun k hk => (ho11.blk k hk).2
 have hsl2 := split_le l [32]
 obtain ⟨A11, c11, rfl, hc11⟩ := ho11.sl.form
 have h11M := ho11.sl.len_le
 unfold maxLen at h11M
 obtain ⟨-, -, hcM, -⟩ := Sl.open_ ho11.sl
 unfold maxLen at hcM
 refine asg rfl (nn (sq (sr (mv rfl (lnS rfl Tryz.underlying67 (ne' rfl rfl (nn ?_)))))))
 refine cd rfl (fun c0 => ?_) (fun c0 => ?_)
 ·refine sr (s_lit (cs := [_, _, _, _, _, _, _, _]) evs_nil bo48 pok_nil rfl ?_)
  replace hb2 := hb2.ext q2
  refine s_storeBA (vs := [_, _, _, _, _, _, _, _]) rfl rfl hb2 (by rfl) sz48 (fun w3 hb2 q3 z3 => ?_)
  refine asg rfl (nn (rt (tr (rCT Tryz.results69 rfl hb2 ag48 rfl ?_))))
  exact ⟨_, rfl, pc0, false, rfl, rfl, (fun e => by cases e), (fun _ => piece_a (by omega)), (q1.z2 q2 q3)⟩
 have hw5 : (Lib.split l [32]).length = 5 := by omega
 refine sk (tn (sr (al zv114 rfl rfl (fun g5 w4 hg5 hb5 q4 z4 => ?_))))
 refine nn (sq (sr (mv rfl (s_sl_l (p := 1) rfl rfl el67 (by omega) (by omega) rfl rfl (lnS rfl Tryz.underlying67 (mv rfl ?_))))))
 have hwl : ((Lib.split l [32]).drop 1).length = 4 := by rw [List.length_drop]; omega
 refine nn (bl ?_)
 refine lpK (ι := Nat × List Int) [(2, _), (4, _), (5, _), (17, _), (18, _)] (fun p => [(19, .int .i64 (p.1 : Int))]) (fun p w' => Fr [g5] w4 w' ∧ (p.1 ≤ 4 ∧ p.2.length = p.1) ∧ (((Lib.split l [32]).drop 1).take p.1).map numW = p.2.map some ∧ Blk w' g5 114 (ivs (p.2 ++ List.replicate (4 - p.1) 0))) (fun p => 4 - p.1) (0, []) (.c6 rfl rfl rfl rfl rfl rfl) ⟨Fr.refl _ _, ⟨⟨Nat.zero_le _, rfl⟩, rfl, by simpa [ivs] using hb5⟩⟩ ?_
 rintro ⟨i, ns⟩ w5 ⟨q5, ⟨⟨hi, hnl⟩, hnm, hb5⟩⟩
 simp only at hi hnl hnm hb5
 have z5 := q5.size
 have lt_hb5 := hb5.lt
 refine kpC [(2, _), (4, _), (5, _), (17, _), (18, _), (19, .int .i64 (i : Int))] (.c6 rfl rfl rfl rfl rfl rfl) ?_
 refine sr (lt' rfl rfl (nn (sq ?_)))
 refine cd rfl (fun c1 => ?_) (fun c1 => ?_)
 ·refine sk (tn (sq (bl (sr (mv rfl ?_)))))
  replace ho11 := (ho11.ext q4).fr q5 (by intro k hk hb; simp at hk; subst hk; have h1 := hLb _ hb; have h2 := (ho11.blk _ hb).1; omega)
  refine s_idxL ([]) rfl (ho11.sl.drop rfl (m := 1) (B := if c11 = 1 then A11 else A11.map (·.add (1 * Enc.str.sz))) (c' := c11 - 1) (by omega) (by omega) (by unfold maxLen; omega) (fun hlt => by rw [if_neg (by omega)])) rfl el67 nat_of (fun ad22 hc22 => ?_)
  refine s_loadC0 rfl (hc22 _ (ho11.sl.drop rfl (m := 1) (B := if c11 = 1 then A11 else A11.map (·.add (1 * Enc.str.sz))) (c' := c11 - 1) (by omega) (by omega) (by unfold maxLen; omega) (fun hlt => by rw [if_neg (by omega)]))) na9 (asg rfl (asg rfl (nn (sr (mv rfl ?_)))))
  replace hG := hG0.ext (q1.z3 q2 q4 q5)
  refine cl (ev1 rfl) co104 (gnum_ok _ _ hG (by have := sp_len l i; omega)) rfl ?_
  rintro _ w6 ⟨nv, okv, rfl, hny, hnn, q6⟩
  have z6 := q6.size
  refine mv rfl (xt rfl rfl (xt rfl rfl (asg rfl (asg rfl (kpL [(2, _), (4, _), (5, _), (6, _), (8, _), (9, _), (17, _), (18, _), (19, _)] (.d8 rfl rfl rfl rfl rfl rfl rfl rfl (.cons rfl .nil)) (nn (sq (sr (mv rfl (nt' rfl (nn ?_)))))))))))
  refine cd rfl (fun c2 => ?_) (fun c2 => ?_)
  ·refine sr (s_lit (cs := [_, _, _, _, _, _, _, _]) evs_nil bo48 pok_nil rfl ?_)
   replace hb2 := ((hb2.ext (q2.n1 q4)).fr q5 (by simp[blks]<;>omega)).ext q6
   refine s_storeBA (vs := [_, _, _, _, _, _, _, _]) rfl rfl hb2 (by rfl) sz48 (fun w7 hb2 q7 z7 => ?_)
   refine asg rfl (kpL [(2, _), (3, _)] (.c2 rfl rfl) (nn (rt (tr (rb (tr (tr (rb (tr (rCT Tryz.results69 rfl hb2 ag48 rfl ?_))))))))))
   exact ⟨_, rfl, pc0, false, rfl, rfl, (fun e => by cases e), (fun _ => piece_b hw5 (i := i) (by omega) (hnn (by simpa using c2))), (q1.z5 q2 q4 q5 q6 q7)⟩
  refine sk (tn (rg (mv rfl (mv rfl (s_idxA rfl rfl Tryz.underlying114 sz3 ?_)))))
  replace hb5 := hb5.ext q6
  refine s_storeB rfl rfl hb5 rfl sz3 (fun w8 hb5 q8 z8 => ?_) (ho := (iv_lt (by simp only [List.length_append, List.length_replicate]; omega)))
  replace hb5 : Blk w8 g5 114 (ivs ((ns ++ [nv]) ++ List.replicate (4 - (i + 1)) 0)) := by rw [← iv_set nv, show 4 - (i + 1) + 1 = 4 - i by omega, hnl]; simpa using hb5
  refine kpL [(2, _), (4, _), (5, _), (17, _), (18, _), (19, _)] (.c6 rfl rfl rfl rfl rfl rfl) (nl (bn' (tn (rg (s_add rfl rfl (wi6 (by omega)) (mv rfl (nl ?_)))))))
  exact lpE ((i + 1, ns ++ [nv])) (.c6 rfl rfl rfl rfl rfl rfl) ⟨((Fr.refl [g5] _).z3 q5 q6 q8), ⟨⟨by simp only; omega, by simp only [List.length_append, List.length_singleton]; omega⟩, by simp only [List.map_append, List.map_singleton]; exact take_mapS numW _ i [] (by omega) hnm (hny (by simpa using c2)), hb5⟩⟩ (by simp only; omega)
 obtain rfl : i = 4 := by omega
 rw [Nat.sub_self, List.replicate_zero, List.append_nil] at hb5
 refine ex (te (te (xh (tn (sq ?_)))))
 replace hb2 := (hb2.ext (q2.n1 q4)).fr q5 (by simp[blks]<;>omega)
 replace ho11 := (ho11.ext q4).fr q5 (by intro k hk hb; simp at hk; subst hk; have h1 := hLb _ hb; have h2 := (ho11.blk _ hb).1; omega)
 intro a h
 refine region_heldP (some 12) (fun wb w' => Fr [] wb w') hmix ?_; intro w9 hq
 have z9 := hq.size
 replace hb2 := hb2.ext hq
 replace ho11 := ho11.ext hq
 replace hb5 := hb5.ext hq
 have q9 := hq
 clear hq; have hC : Fr [] w9 w9 := Fr.refl _ _
 have hb2_b := hb2
 have ho11_b := ho11
 have hb5_b := hb5
 refine hd_move 0 hC h wn rfl rfl ?_; clear h a; intro a h
 refine hd_idxL (p := 0) ([]) 1 hC h wn rfl ho11.sl rfl el67 rfl ?_ (hp := rfl); clear h a; intro ad37 hc37 a h
 refine hd_loadC0 2 hC h wn rfl (fun _ hw => hc37 _ (ho11_b.sl.ext hw)) na9 rfl ?_; clear h a; intro a h
 refine hd_idxA 3 hC h wn rfl rfl Tryz.underlying114 sz3 rfl ?_; clear h a; intro a h
 refine hd_loadB 4 hC h wn rfl (fun _ hw => hb5_b.ext hw) (iv_at (k := 0) (by omega)) na3 rfl ?_; clear h a; intro a h
 refine hd_idxA 5 hC h wn rfl rfl Tryz.underlying114 sz3 rfl ?_; clear h a; intro a h
 refine hd_loadB 6 hC h wn rfl (fun _ hw => hb5_b.ext hw) (iv_at (k := 1) (by omega)) na3 rfl ?_; clear h a; intro a h
 refine hd_idxA 7 hC h wn rfl rfl Tryz.underlying114 sz3 rfl ?_; clear h a; intro a h
 refine hd_loadB 8 hC h wn rfl (fun _ hw => hb5_b.ext hw) (iv_at (k := 2) (by omega)) na3 rfl ?_; clear h a; intro a h
 refine hd_idxA 9 hC h wn rfl rfl Tryz.underlying114 sz3 rfl ?_; clear h a; intro a h
 refine hd_loadB 10 hC h wn rfl (fun _ hw => hb5_b.ext hw) (iv_at (k := 3) (by omega)) na3 rfl ?_; clear h a; intro a h
 refine hd_lit (cs := [_, _, _, _, _, _, _, _]) 11 hC h wn (evs_cons rfl (evs_cons rfl (evs_cons rfl (evs_cons rfl (evs_cons rfl evs_nil))))) bo48 (pok_cons rfl rfl rfl (pok_cons rfl rfl rfl (pok_cons rfl rfl rfl (pok_cons rfl rfl rfl (pok_cons rfl rfl rfl pok_nil))))) rfl rfl ?_; clear h a; intro a h
 refine hd_one 12 rfl ?_
 refine st_storeBA h rfl rfl hb2 rfl sz48 ?_; clear h a; intro w10 hbn hq hz a h
 have z10 := hq.size
 replace ho11 := ho11.fr hq (by intro k hk hb; simp at hk; subst hk; have h1 := hLb _ hb; have h2 := (ho11.blk _ hb).1; omega)
 replace hb5 := hb5.fr hq (by simp[blks]<;>omega)
 have q10 := hq
 clear hb2 hq hz; have hb2 : Blk w10 g2 _ [_, _, _, _, _, _, _, _] := hbn; clear hbn
 refine hd_past ?_
 refine hd_one 13 rfl ?_
 refine st_assign h rfl ?_; clear h a; intro a h
 refine hd_past ?_
 refine hd_end ?_
 clear hC hb2_b ho11_b hb5_b
 refine bk (h.sub (L' := [(2, _), (3, _)]) (.c2 rfl rfl)) ?_; clear h a
 refine tn (rt (rCT Tryz.results69 rfl hb2 ag48 rfl ?_))
 exact ⟨_, rfl, ⟨(Lib.split l [32]).getD 0 [], ⟨[], [], []⟩, ns.getD 1 0, ns.getD 2 0, ns.getD 3 0, ns.getD 0 0⟩, true, rfl, rfl, (fun _ => piece_c hw5 hnm), (fun e => by cases e), (q1.z5 q2 q4 q5 q9 q10)⟩
set_option maxHeartbeats 1000000 in
theorem gblock_ok (l : List UInt8) (w0 : World) (hG : GlobZ w0) (hl : l.length ≤ 1000000) : Rets Tryz.prog 70 #[S l] w0 fun r w' => ∃ X c, ∃ ok : Bool, r = .tuple #[.agg #[X], .bool ok] ∧ OwR 88 91 w0.heap.size w' X c ∧ rowsR c ∧ (ok = true → blockW l = some c) ∧ (ok = false → blockW l = none) ∧ Fr [] w0 w' := by
 have hGs := hG.sz
 refine we [(0, S l)] Tryz.func70 rfl Tryz.ntmps70 rfl (.cons rfl .nil) ?_
 have hG0 := hG
 refine sr (al zv42 rfl rfl (fun g2 w1 hg2 hb2 q1 z1 => ?_))
 refine asg rfl (nn (sr (mv rfl ?_)))
 replace hG := hG0.ext q1
 refine cl (ev2 rfl rfl) co103 (splitz_ok _ _ _ hG (by omega) (by decide)) rfl ?_
 rintro v11 w2 ⟨ho11, q2⟩
 have z2 := q2.size
 have hLb := fun k hk => (ho11.blk k hk).2
 have hsl2 := split_le l [32, 124, 32]
 obtain ⟨A11, c11, rfl, hc11⟩ := ho11.sl.form
 refine asg rfl (nn (sr (mv rfl (lnS rfl Tryz.underlying67 ?_))))
 refine s_makeSlice (m := (Lib.split l [32, 124, 32]).length) (c := (Lib.split l [32, 124, 32]).length) (rq0) rfl rfl er40 zv88 rfl (Nat.le_refl _) (by unfold maxLen; omega) (fun g14 w3 hg14 hoR q3 z3 => ?_)
 refine s_lit (cs := [_]) (ev1 rfl) bo42 (pok_cons rfl rfl rfl pok_nil) rfl ?_
 refine al zv42 rfl rfl (fun g5 w4 hg5 hb5 q4 z4 => ?_)
 refine s_storeBA (vs := [_]) rfl rfl hb5 (by rfl) sz42 (fun w5 hb5 q5 z5 => ?_)
 refine nn (sq (sr (mv rfl (lnS rfl Tryz.underlying67 (mv rfl (nn (bl ?_)))))))
 replace hb2 := (hb2.ext (q2.n2 q3 q4)).fr q5 (by simp[blks]<;>omega)
 replace ho11 := (ho11.ext (q3.n1 q4)).fr q5 (by intro k hk hb; simp at hk; subst hk; have h1 := hLb _ hb; have h2 := (ho11.blk _ hb).1; omega)
 replace hoR := (hoR.ext q4).fr q5 (by first|exact nfl_ hoR (by omega)|simp[blks]<;>omega)
 refine lpK (ι := Nat × List RQ) [(2, _), (5, _), (16, _), (17, _)] (fun p => [(18, .int .i64 (p.1 : Int))]) (fun p w' => Fr [] w0 w' ∧ (p.1 ≤ (Lib.split l [32, 124, 32]).length ∧ p.2.length = p.1) ∧ ((Lib.split l [32, 124, 32]).take p.1).map rowW = (p.2.map Prod.snd).map some ∧ rowsR (p.2.map Prod.snd) ∧ Blk w' g2 42 [.slice none 0 0] ∧ Blk w' g5 42 [(.slice (some ⟨g14, 0, none⟩) (Lib.split l [32, 124, 32]).length (Lib.split l [32, 124, 32]).length)] ∧ Lw.Own Enc.str 9 w0.heap.size w' (.slice A11 (Lib.split l [32, 124, 32]).length c11) (Lib.split l [32, 124, 32]) ∧ Lw.Own encRq 88 g14 w' (.slice (some ⟨g14, 0, none⟩) (Lib.split l [32, 124, 32]).length (Lib.split l [32, 124, 32]).length) (p.2 ++ List.replicate ((Lib.split l [32, 124, 32]).length - p.1) rq0) ∧ RwO 91 (g14 + 1) w' p.2) (fun p => (Lib.split l [32, 124, 32]).length - p.1) (0, []) (.c5 rfl rfl rfl rfl rfl) ⟨(q1.z4 q2 q3 q4 q5), ⟨⟨Nat.zero_le _, rfl⟩, rfl, rng_nil, hb2, hb5, ho11.low (by omega), hoR, RwO.nil⟩⟩ ?_
 rintro ⟨i, dn⟩ w6 ⟨q6, ⟨⟨hi, hdl⟩, hdm, hrr, hb2, hb5, ho11, hoR, hwr⟩⟩
 simp only at hi hdl hdm hrr hb2 hb5 ho11 hoR hwr
 have z6 := q6.size
 have lt_hb2 := hb2.lt
 have lt_hb5 := hb5.lt
 have hwr0 := hwr
 refine kpC [(2, _), (5, _), (16, _), (17, _), (18, .int .i64 (i : Int))] (.c5 rfl rfl rfl rfl rfl) ?_
 have hlR := (hoR.blk g14 (by simp [blks])).2
 refine sr (lt' rfl rfl (nn (sq ?_)))
 refine cd rfl (fun c0 => ?_) (fun c0 => ?_)
 ·refine sk (tn (sq (bl (sr (mv rfl (s_idxL ([]) rfl ho11.sl rfl el67 nat_of (fun ad21 hc21 => ?_)))))))
  refine s_loadC0 rfl (hc21 _ ho11.sl) na9 (asg rfl (asg rfl (nn (sq (sr (mv rfl (s_eqs rfl rfl (nn ?_))))))))
  refine cd rfl (fun c1 => ?_) (fun c1 => ?_)
  ·refine ex (te (xh (tn (rg (s_add rfl rfl (wi6 (by omega)) (mv rfl (nl ?_)))))))
   exact lpE ((i + 1, dn ++ [rq0])) (.c5 rfl rfl rfl rfl rfl) ⟨q6, ⟨⟨by simp only; omega, by simp only [List.length_append, List.length_singleton]; omega⟩, by simp only [List.map_append, List.map_singleton]; exact take_mapS rowW _ i [] (by omega) hdm (rowW_dash c1), by simp only [List.map_append, List.map_singleton]; exact rng_snoc hrr (fun s hs => by cases hs), hb2, hb5, ho11, (by simp only [List.append_assoc]; rw [show (Lib.split l [32, 124, 32]).length - i = ((Lib.split l [32, 124, 32]).length - (i + 1)) + 1 by omega, List.replicate_succ] at hoR; exact hoR), hwr.snoc (q := rq0) (Own.nil _)⟩⟩ (by simp only; omega)
  refine sk (tn (sr (mv rfl ?_)))
  replace hG := hG0.ext q6
  refine cl (ev1 rfl) co105 (expand_ok _ _ hG.sy (by have := split_len l [32, 124, 32] i; omega)) rfl ?_
  rintro _ w7 ⟨x27, c27, rfl, rfl, ho27, q7⟩
  have z7 := q7.size
  have ho270 := ho27
  refine mv rfl (xt rfl rfl (xt rfl rfl (asg rfl (asg rfl (kpL [(2, _), (5, _), (6, _), (8, _), (9, _), (16, _), (17, _), (18, _)] (.c8 rfl rfl rfl rfl rfl rfl rfl rfl) (nn (sq (sr (mv rfl (ne' rfl rfl (nn ?_)))))))))))
  refine cd rfl (fun c2 => ?_) (fun c2 => ?_)
  ·refine sr (s_lit (cs := [_]) evs_nil bo42 pok_nil rfl ?_)
   replace hb2 := hb2.ext q7
   refine s_storeBA (vs := [_]) rfl rfl hb2 (by rfl) sz42 (fun w8 hb2 q8 z8 => ?_)
   refine asg rfl (kpL [(2, _), (3, _)] (.c2 rfl rfl) (nn (rt (tr (rb (tr (tr (rb (tr (rCT Tryz.results70 rfl hb2 ag42 rfl ?_))))))))))
   exact ⟨_, rfl, .slice none 0 0, [], false, rfl, OwR.nil _, rng_nil, (fun e => by cases e), (fun _ => blk_bad (i := i) (by omega) (rowW_no c1 c2)), (q6.z2 q7 q8)⟩
  refine sk (tn (rg (fad rfl fa42_0 ?_)))
  replace hb5 := hb5.ext q7
  refine s_loadB rfl hb5 rfl na40 (mv rfl (mv rfl ?_))
  replace hoR := hoR.ext q7
  refine s_ixs (p := i) ((((x27, (expandS ((Lib.split l [32, 124, 32]).getD i [])).1.length, (expandS ((Lib.split l [32, 124, 32]).getD i [])).1.length), (expandS ((Lib.split l [32, 124, 32]).getD i [])).1) : RQ)) rfl hoR rfl rfl (by intro e; cases e) er40 sz88 rfl (by first | omega | (simp only [List.length_append, List.length_replicate, List.length_cons, List.length_nil]; omega)) rfl (fun w9 hoR q9 z9 => ?_)
  replace q9 : Fr [g14] _ _ := q9
  rw [show (Lib.split l [32, 124, 32]).length - i = ((Lib.split l [32, 124, 32]).length - (i + 1)) + 1 by omega, ← hdl, set_at, hdl] at hoR
  refine kpL [(2, _), (5, _), (16, _), (17, _), (18, _)] (.c5 rfl rfl rfl rfl rfl) (nl (bn' (tn (rg (s_add rfl rfl (wi6 (by omega)) (mv rfl (nl ?_)))))))
  replace hb2 := (hb2.ext q7).fr q9 (by simp[blks]<;>omega)
  replace hb5 := hb5.fr q9 (by simp[blks]<;>omega)
  replace ho11 := (ho11.ext q7).fr q9 (by intro k hk hb; simp at hk; subst hk; have h1 := hLb _ hb; have h2 := (ho11.blk _ hb).1; omega)
  replace hwr := hwr0.fr ((Fr.refl [g14, g2] _).z2 q7 q9) (by intro k hk; simp at hk; omega)
  replace ho27 := ho270.fr ((Fr.refl [g14] _).z1 q9) (by intro k hk hb; simp at hk; subst hk; have := (ho270.blk _ hb).1; omega)
  exact lpE ((i + 1, dn ++ [(((x27, (expandS ((Lib.split l [32, 124, 32]).getD i [])).1.length, (expandS ((Lib.split l [32, 124, 32]).getD i [])).1.length), (expandS ((Lib.split l [32, 124, 32]).getD i [])).1) : RQ)])) (.c5 rfl rfl rfl rfl rfl) ⟨(q6.z2 q7 q9), ⟨⟨by simp only; omega, by simp only [List.length_append, List.length_singleton]; omega⟩, by simp only [List.map_append, List.map_singleton]; exact take_mapS rowW _ i [] (by omega) hdm (rowW_ok c1 (Classical.not_not.1 c2)), by simp only [List.map_append, List.map_singleton]; exact rng_snoc hrr (exp_rng (Classical.not_not.1 c2)), hb2, hb5, ho11, hoR, hwr.snoc (q := (((x27, (expandS ((Lib.split l [32, 124, 32]).getD i [])).1.length, (expandS ((Lib.split l [32, 124, 32]).getD i [])).1.length), (expandS ((Lib.split l [32, 124, 32]).getD i [])).1) : RQ)) (ho27.low (by omega))⟩⟩ (by simp only; omega)
 obtain rfl : i = (Lib.split l [32, 124, 32]).length := by omega
 rw [Nat.sub_self, List.replicate_zero, List.append_nil] at hoR
 rw [List.take_length] at hdm
 refine ex (te (te (xh (tn (sr (s_loadBA rfl hb5 ag42 (s_storeBA (vs := [_]) rfl rfl hb2 (by rfl) sz42 (fun w10 hb2 q10 z10 => ?_))))))))
 refine asg rfl (kpL [(2, _), (3, _)] (.c2 rfl rfl) (nn (rt (rCT Tryz.results70 rfl hb2 ag42 rfl ?_))))
 replace hoR := hoR.fr q10 (by first|exact nfl_ hoR (by omega)|simp[blks]<;>omega)
 replace hwr := hwr0.fr ((Fr.refl [g14, g2] _).z1 q10) (by intro k hk; simp at hk; omega)
 exact ⟨_, rfl, _, dn.map Prod.snd, true, rfl, ⟨dn, by rw [← hdl] at hoR ⊢; exact hoR.low (by omega), hwr.low (by omega), rfl⟩, hrr, (fun _ => blk_all hdm), (fun e => by cases e), (q6.z1 q10)⟩
theorem clipp_ok (A : Option Addr) (m c : Nat) (w0 : World) (hc : m ≤ c) : Rets Tryz.prog 36 #[.slice A m c] w0 fun v w' => v = .slice A m m ∧ w0 = w' := by
 refine we [(0, .slice A m c)] Tryz.func36 rfl Tryz.ntmps36 rfl (.cons rfl .nil) ?_
 refine sr (asg rfl (nn (sr (mv rfl (mv rfl (lnS rfl Tryz.underlying25 (mv rfl (lnS rfl Tryz.underlying25 (s_sl_hm rfl rfl rfl el25 nat_of nat_of rfl (asg rfl (kpL [(2, _)] (.cons rfl .nil) ?_)))))))))))
 refine nn (rt (r1 Tryz.results36 rfl ?_))
 exact ⟨_, rfl, rfl, rfl⟩
end Go.Proofs.YthehggmdcmpjeaaGreatDoor
namespace Go.Proofs.YthehggmdcmpjeaaGreatDoor
open Go.Lw Go.G14
theorem bo155 : BuildAt Tryz.prog 155 [(0, 1), (1, 1)] [(S []), (.int .i64 0)] := BuildAt.struct Tryz.underlying155 (fun _ => by kernel_rfl) (fun _ => by kernel_rfl)
theorem co66 : CallOf Tryz.prog 66 := mkC Tryz.func66
theorem co67 : CallOf Tryz.prog 67 := mkC Tryz.func67
theorem co68 : CallOf Tryz.prog 68 := mkC Tryz.func68
theorem co69 : CallOf Tryz.prog 69 := mkC Tryz.func69
theorem co70 : CallOf Tryz.prog 70 := mkC Tryz.func70
set_option maxHeartbeats 4000000 in
theorem gread_ok (s0 : List UInt8) (w0 : World) (hG : GlobZ w0) (hs0 : s0.length ≤ 1000000) : Rets Tryz.prog 35 #[S s0] w0 fun r w' => ∃ nm V qs n, r = .tuple #[.agg #[S nm, V], .int .i64 n] ∧ Lw.Own encPq 48 w0.heap.size w' V qs ∧ PcsX 88 91 w0.heap.size w' qs ∧ ReadR s0 nm qs n ∧ Fr [] w0 w' := by
 have hGs := hG.sz
 refine we [(0, S s0)] Tryz.func35 rfl Tryz.ntmps35 rfl (.cons rfl .nil) ?_
 have hG0 := hG
 refine sr (al zv27 rfl rfl (fun g2 w1 hg2 hb2 q1 z1 => ?_))
 refine asg rfl (nn ?_)
 refine scL (ι := RdT × RdD) (fun j => j.1.lab) (fun j => [(2, .pointer (some ⟨g2, 0, none⟩)), (4, .pointer (some ⟨j.2.g4, 0, none⟩)), (5, .pointer (some ⟨j.2.g5, 0, none⟩)), (8, .pointer (some ⟨j.2.g8, 0, none⟩))]) (fun j w' => Fr [] w0 w' ∧ (9 ≤ g2 ∧ g2 < j.2.g4 ∧ j.2.g4 < j.2.g5 ∧ j.2.g5 < j.2.g8) ∧ Blk w' g2 27 [S [], .slice none 0 0] ∧ Blk w' j.2.g4 27 [S j.2.nm, j.2.V] ∧ Blk w' j.2.g5 48 [S j.2.q.p.nm, .slice j.2.q.l.1 j.2.q.l.2.1 j.2.q.l.2.2, .slice j.2.q.t.1 j.2.q.t.2.1 j.2.q.t.2.2, .slice j.2.q.r.1 j.2.q.r.2.1 j.2.q.r.2.2, .int .i64 j.2.q.p.ba, .int .i64 j.2.q.p.st, .int .i64 j.2.q.p.up, .int .i64 j.2.q.p.ct] ∧ Blk w' j.2.g8 155 [S j.2.s, .int .i64 (j.2.n : Int)] ∧ Lw.Own encPq 48 (j.2.g8 + 1) w' j.2.V j.2.qs ∧ PcsZ 88 91 (j.2.g8 + 1) w' j.2.qs ∧ MotZ 88 91 (j.2.g8 + 1) w' (slv j.2.q.l) (slv j.2.q.t) (slv j.2.q.r) j.2.q.p.mot ∧ RdB s0 j.1 j.2.s j.2.n j.2.nm (pcs j.2.qs) j.2.q.p) rdMu ?_ ?_
 ·refine sr (al zv27 rfl rfl (fun g4 w2 hg4 hb4 q2 z2 => ?_))
  refine nn (sr (al zv48 rfl rfl (fun g5 w3 hg5 hb5 q3 z3 => ?_)))
  refine nn (sr (asg rfl (nn (sr (asg rfl (nn (sr (mv rfl (s_lit (cs := [_, _]) (ev1 rfl) bo155 (pok_cons rfl rfl rfl pok_nil) rfl ?_)))))))))
  refine bx rfl rfl rfl (fun g11 w4 hg11 hb11 q4 z4 => ?_)
  refine asg rfl ?_
  have hoV : Lw.Own encPq 48 (g11 + 1) w4 (.slice none 0 0) [] := Own.nil _
  have hpx : PcsZ 88 91 (g11 + 1) w4 [] := PcsZ.nil
  have hmx : MotZ 88 91 (g11 + 1) w4 (.slice none 0 0) (.slice none 0 0) (.slice none 0 0) ⟨[], [], []⟩ := MotZ.nil
  skip
  refine nn (sq (sr (mv rfl ?_)))
  replace hG := hG0.ext (q1.n3 q2 q3 q4)
  refine cl (ev2 rfl rfl) co66 (look_ok g11 _ _ wGarment _ hb11 hG (by omega) (by decide)) rfl ?_
  rintro _ w5 ⟨b14, ok14, rfl, hly14, hln14, q5⟩
  have z5 := q5.size
  refine mv rfl (xt rfl rfl (xt rfl rfl (asg rfl (asg rfl (nn (sq ?_))))))
  refine rboF (r := 22) (L' := [(2, _), (4, _), (5, _), (6, _), (8, _)]) (((¬ ok14 = true) ∨ ((32 : UInt8) ∈ b14))) (.c5 rfl rfl rfl rfl rfl) ?_ ?_
  ·refine mv rfl (nt' rfl (mv rfl ?_))
   refine gs 19 rfl (fun g0 => ?_) (fun g0 => ?_)
   ·exact gN rfl rfl rfl (gN rfl rfl rfl (pkt rfl rfl (rbeF rfl (.c5 rfl rfl rfl rfl rfl) (Fr.refl _ _))))
   refine gY rfl (mv rfl (gY rfl ?_))
   replace hG := hG0.ext (q1.n4 q2 q3 q4 q5)
   refine cl (ev2 rfl rfl) co67 (contz_ok b14 32 _ hG (by have := look_len (hly14 (by first | assumption | (simp_all; done))); omega)) rfl ?_
   rintro _ w6 ⟨rfl, q6⟩
   have z6 := q6.size
   exact pkf rfl rfl (rbeF rfl (.c5 rfl rfl rfl rfl rfl) q6)
  intro w7 q7; have z7 := q7.size
  refine tn ?_
  refine cd rfl (fun c0 => ?_) (fun c0 => ?_)
  ·have gno : lookW wGarment s0 = none ∨ ∃ b, lookW wGarment s0 = some b ∧ (32 : UInt8) ∈ b := by
    cases e : ok14
    ·exact .inl (hln14 e)
    exact .inr ⟨b14, hly14 e, (c0.resolve_left (fun h => h e))⟩
   refine gt (gtt ?_)
   replace hb2 := hb2.ext (q2.n4 q3 q4 q5 q7)
   replace hb4 := hb4.ext (q3.n3 q4 q5 q7)
   replace hb5 := hb5.ext (q4.n2 q5 q7)
   replace hb11 := hb11.ext (q5.n1 q7)
   replace hoV := hoV.ext (q5.n1 q7)
   replace hpx := hpx.ext (q5.n1 q7)
   replace hmx := hmx.ext (q5.n1 q7)
   exact gtl (RdT.wrong, ⟨g4, g5, g11, s0, 0, [], (.slice none 0 0), [], pq0⟩) (.c4 rfl rfl rfl rfl) ⟨(q1.n5 q2 q3 q4 q5 q7), ⟨(by first|omega|simp<;>omega), (by first|omega|simp<;>omega), (by first|omega|simp<;>omega), (by first|omega|simp<;>omega)⟩, hb2, hb4, hb5, hb11, hoV, hpx, hmx, ⟨(gar_no (rem_init s0) gno), (by first|omega|simp<;>omega), trivial⟩⟩ (trivial)
  have hl14 := hly14 (Classical.not_not.1 fun h => c0 (.inl h))
  have hb32 : (32 : UInt8) ∉ b14 := fun h => c0 (.inr h)
  refine sk (tn (sr (mv rfl (fad rfl fa27_0 ?_))))
  replace hb4 := hb4.ext (q3.n3 q4 q5 q7)
  refine s_storeB rfl rfl hb4 rfl sz9 (fun w8 hb4 q8 z8 => ?_)
  replace hb4 : Blk w8 g4 _ [_, _] := hb4
  refine nn (sr (mv rfl ?_))
  replace hb11 := (hb11.ext (q5.n1 q7)).fr q8 (by simp[blks]<;>omega)
  replace hG := hG0.ext (q1.z6 q2 q3 q4 q5 q7 q8)
  refine cl (ev1 rfl) co68 (pass_ok g11 0 s0 _ hb11 hG (by omega) (by omega) (by omega)) rfl ?_
  rintro _ w9 ⟨rfl, hb11, q9⟩
  have z9 := q9.size
  obtain ⟨sA, hsA⟩ : ∃ x, x = (Lib.cut s0 [10]).2.1 := ⟨_, rfl⟩
  obtain ⟨nA, hnA⟩ : ∃ x, x = 0 + 1 := ⟨_, rfl⟩
  have hleA := cut_less (look_ended hl14).1
  have hrA := gar_yes (rem_init s0) hl14 hb32
  rw [← hsA] at hleA
  rw [← hsA, ← hnA] at hb11 hrA
  refine nn (sq (lb (tn (sq (sq ?_)))))
  refine rbo (r := 37) (L' := [(2, _), (4, _), (5, _), (8, _)]) (sA = [] ∧ (0 : Int) < (([] : List PQ).length : Int)) (.c4 rfl rfl rfl rfl) ?_ ?_
  ·refine mv rfl (nlc rfl (fad rfl fa155_0 (s_loadB rfl hb11 rfl na9 (s_eqs rfl rfl (mv rfl ?_)))))
   refine gs 32 rfl (fun g1 => ?_) (fun g1 => ?_)
   ·refine gY rfl (fad rfl fa27_1 (gY rfl ?_))
    replace hb4 := hb4.fr q9 (by simp[blks]<;>omega)
    exact s_loadB rfl hb4 rfl na25 (gY rfl (lnS rfl Tryz.underlying25 (gY rfl (gt' rfl rfl (pkt rfl rfl (rbe rfl (.c4 rfl rfl rfl rfl)))))))
   exact gN rfl rfl rfl (gN rfl rfl rfl (gN rfl rfl rfl (gN rfl rfl rfl (pkf rfl rfl (rbe rfl (.c4 rfl rfl rfl rfl))))))
  refine tn ?_
  refine cd rfl (fun c1 => ?_) (fun c1 => ?_)
  ·refine sr ?_
   replace hb4 := hb4.fr q9 (by simp[blks]<;>omega)
   refine s_loadBA rfl hb4 ag27 ?_
   replace hb2 := ((hb2.ext (q2.n4 q3 q4 q5 q7)).fr q8 (by simp[blks]<;>omega)).fr q9 (by simp[blks]<;>omega)
   refine s_storeBA (vs := [_, _]) rfl rfl hb2 (by rfl) sz27 (fun w10 hb2 q10 z10 => ?_)
   refine asg rfl (nn (rt (tr (gjr (rCT Tryz.results35 rfl hb2 ag27 rfl ?_)))))
   exact absurd c1.2 (by simp)
  have hc1 : ¬ (sA = [] ∧ ([] : List Pc) ≠ []) := fun h => h.2 rfl
  refine sk (tn (sq (sr (mv rfl ?_))))
  replace hG := hG0.ext ((q1.z6 q2 q3 q4 q5 q7 q8).z1 q9)
  refine cl (ev2 rfl rfl) co66 (look_ok g11 _ _ wPiece _ hb11 hG (by omega) (by decide)) rfl ?_
  rintro _ w11 ⟨b41, ok41, rfl, hly41, hln41, q11⟩
  have z11 := q11.size
  refine mv rfl (xt rfl rfl (xt rfl rfl (asg rfl (asg rfl (kpL [(2, _), (4, _), (5, _), (6, _), (7, _), (8, _)] (.c6 rfl rfl rfl rfl rfl rfl) (nn (sr (mv rfl (nt' rfl (nn ?_))))))))))
  refine cd rfl (fun c2 => ?_) (fun c2 => ?_)
  ·refine gt (gtt ?_)
   replace hb2 := (((hb2.ext (q2.n4 q3 q4 q5 q7)).fr q8 (by simp[blks]<;>omega)).fr q9 (by simp[blks]<;>omega)).ext q11
   replace hb4 := (hb4.fr q9 (by simp[blks]<;>omega)).ext q11
   replace hb5 := (((hb5.ext (q4.n2 q5 q7)).fr q8 (by simp[blks]<;>omega)).fr q9 (by simp[blks]<;>omega)).ext q11
   replace hb11 := hb11.ext q11
   replace hoV := (((hoV.ext (q5.n1 q7)).fr q8 (nfl hoV (by omega))).fr q9 (nfl hoV (by omega))).ext q11
   replace hpx := (((hpx.ext (q5.n1 q7)).fr q8 (apl (by omega))).fr q9 (apl (by omega))).ext q11
   replace hmx := (((hmx.ext (q5.n1 q7)).fr q8 (apl (by omega))).fr q9 (apl (by omega))).ext q11
   exact gtl (RdT.wrong, ⟨g4, g5, g11, sA, nA, b14, (.slice none 0 0), [], pq0⟩) (.c4 rfl rfl rfl rfl) ⟨(((q1.z6 q2 q3 q4 q5 q7 q8).z1 q9).n1 q11), ⟨(by first|omega|simp<;>omega), (by first|omega|simp<;>omega), (by first|omega|simp<;>omega), (by first|omega|simp<;>omega)⟩, hb2, hb4, hb5, hb11, hoV, hpx, hmx, ⟨(nx_no hrA hc1 (.inl (hln41 (by simpa using c2)))), (by first|omega|simp<;>omega), trivial⟩⟩ (trivial)
  have hl41 := hly41 (by simpa using c2)
  refine sk (tn (sq (sr (mv rfl ?_))))
  replace hG := hG0.ext (((q1.z6 q2 q3 q4 q5 q7 q8).z1 q9).n1 q11)
  refine cl (ev1 rfl) co69 (piece_ok _ _ hG (by have := look_len hl41; omega)) rfl ?_
  rintro _ w12 ⟨pv, okp, rfl, hpm, hpy, hpn, q12⟩
  have z12 := q12.size
  replace hmx : MotZ 88 91 (g11 + 1) w12 (slv sv0) (slv sv0) (slv sv0) pv.mot := by rw [hpm]; exact MotZ.nil
  refine mv rfl (xt rfl rfl (xt rfl rfl ?_))
  replace hb5 := (((hb5.ext (q4.n2 q5 q7)).fr q8 (by simp[blks]<;>omega)).fr q9 (by simp[blks]<;>omega)).ext (q11.n1 q12)
  refine s_storeBA (vs := [_, _, _, _, _, _, _, _]) rfl rfl hb5 (by rfl) sz48 (fun w13 hb5 q13 z13 => ?_)
  refine asg rfl (kpL [(2, _), (4, _), (5, _), (7, _), (8, _)] (.c5 rfl rfl rfl rfl rfl) (nn (sr (mv rfl (nt' rfl (nn ?_))))))
  refine cd rfl (fun c3 => ?_) (fun c3 => ?_)
  ·refine gt (gtt ?_)
   replace hb2 := ((((hb2.ext (q2.n4 q3 q4 q5 q7)).fr q8 (by simp[blks]<;>omega)).fr q9 (by simp[blks]<;>omega)).ext (q11.n1 q12)).fr q13 (by simp[blks]<;>omega)
   replace hb4 := ((hb4.fr q9 (by simp[blks]<;>omega)).ext (q11.n1 q12)).fr q13 (by simp[blks]<;>omega)
   replace hb11 := (hb11.ext (q11.n1 q12)).fr q13 (by simp[blks]<;>omega)
   replace hoV := ((((hoV.ext (q5.n1 q7)).fr q8 (nfl hoV (by omega))).fr q9 (nfl hoV (by omega))).ext (q11.n1 q12)).fr q13 (nfl hoV (by omega))
   replace hpx := ((((hpx.ext (q5.n1 q7)).fr q8 (apl (by omega))).fr q9 (apl (by omega))).ext (q11.n1 q12)).fr q13 (apl (by omega))
   replace hmx := hmx.fr q13 (apl (by omega))
   exact gtl (RdT.wrong, ⟨g4, g5, g11, sA, nA, b14, (.slice none 0 0), [], (pq1 pv)⟩) (.c4 rfl rfl rfl rfl) ⟨((((q1.z6 q2 q3 q4 q5 q7 q8).z1 q9).n1 q11).z2 q12 q13), ⟨(by first|omega|simp<;>omega), (by first|omega|simp<;>omega), (by first|omega|simp<;>omega), (by first|omega|simp<;>omega)⟩, hb2, hb4, hb5, hb11, hoV, hpx, hmx, ⟨(nx_no hrA hc1 (.inr ⟨_, hl41, hpn (by simpa using c3)⟩)), (by first|omega|simp<;>omega), trivial⟩⟩ (trivial)
  have hp := hpy (by simpa using c3)
  refine sk (tn (sr (mv rfl ?_)))
  replace hb11 := (hb11.ext (q11.n1 q12)).fr q13 (by simp[blks]<;>omega)
  replace hG := hG0.ext ((((q1.z6 q2 q3 q4 q5 q7 q8).z1 q9).n1 q11).z2 q12 q13)
  refine cl (ev1 rfl) co68 (pass_ok g11 nA sA _ hb11 hG (by omega) (by omega) (by omega)) rfl ?_
  rintro _ w14 ⟨rfl, hb11, q14⟩
  have z14 := q14.size
  obtain ⟨s1, hs1⟩ : ∃ x, x = (Lib.cut sA [10]).2.1 := ⟨_, rfl⟩
  obtain ⟨n1, hn1⟩ : ∃ x, x = nA + 1 := ⟨_, rfl⟩
  have hle1 := cut_less (look_ended hl41).1
  have hr1 := nx_yes hrA hl41 hp
  rw [← hs1] at hle1
  rw [← hs1, ← hn1] at hb11 hr1
  refine nn (sq (sr (mv rfl ?_)))
  replace hG := hG0.ext ((((q1.z6 q2 q3 q4 q5 q7 q8).z1 q9).n1 q11).z3 q12 q13 q14)
  refine cl (ev2 rfl rfl) co66 (look_ok g11 _ _ wLeft _ hb11 hG (by omega) (by decide)) rfl ?_
  rintro _ w15 ⟨b57, ok57, rfl, hly57, hln57, q15⟩
  have z15 := q15.size
  refine mv rfl (xt rfl rfl (xt rfl rfl (asg rfl (asg rfl (nn (sr (mv rfl (nt' rfl (nn ?_)))))))))
  refine cd rfl (fun c4 => ?_) (fun c4 => ?_)
  ·refine gt (gtt ?_)
   replace hb2 := ((((((hb2.ext (q2.n4 q3 q4 q5 q7)).fr q8 (by simp[blks]<;>omega)).fr q9 (by simp[blks]<;>omega)).ext (q11.n1 q12)).fr q13 (by simp[blks]<;>omega)).fr q14 (by simp[blks]<;>omega)).ext q15
   replace hb4 := ((((hb4.fr q9 (by simp[blks]<;>omega)).ext (q11.n1 q12)).fr q13 (by simp[blks]<;>omega)).fr q14 (by simp[blks]<;>omega)).ext q15
   replace hb5 := (hb5.fr q14 (by simp[blks]<;>omega)).ext q15
   replace hb11 := hb11.ext q15
   replace hoV := ((((((hoV.ext (q5.n1 q7)).fr q8 (nfl hoV (by omega))).fr q9 (nfl hoV (by omega))).ext (q11.n1 q12)).fr q13 (nfl hoV (by omega))).fr q14 (nfl hoV (by omega))).ext q15
   replace hpx := ((((((hpx.ext (q5.n1 q7)).fr q8 (apl (by omega))).fr q9 (apl (by omega))).ext (q11.n1 q12)).fr q13 (apl (by omega))).fr q14 (apl (by omega))).ext q15
   replace hmx := ((hmx.fr q13 (apl (by omega))).fr q14 (apl (by omega))).ext q15
   exact gtl (RdT.tile, ⟨g4, g5, g11, s1, n1, b14, (.slice none 0 0), [], (pq1 pv)⟩) (.c4 rfl rfl rfl rfl) ⟨((((q1.z6 q2 q3 q4 q5 q7 q8).z1 q9).n1 q11).z4 q12 q13 q14 q15), ⟨(by first|omega|simp<;>omega), (by first|omega|simp<;>omega), (by first|omega|simp<;>omega), (by first|omega|simp<;>omega)⟩, hb2, hb4, hb5, hb11, hoV, hpx, hmx, ⟨lf_skip hr1 (hln57 (by simpa using c4)), (by first|omega|simp<;>omega), (by first|omega|simp [pcs_len]<;>omega)⟩⟩ (trivial)
  have hl57 := hly57 (by simpa using c4)
  refine sk (tn (sq (sr (mv rfl ?_))))
  replace hG := hG0.ext ((((q1.z6 q2 q3 q4 q5 q7 q8).z1 q9).n1 q11).z4 q12 q13 q14 q15)
  refine cl (ev1 rfl) co70 (gblock_ok _ _ hG (by have := look_len hl57; omega)) rfl ?_
  rintro _ w16 ⟨XL, cL, okL, rfl, hXL, hgL, hbyL, hbnL, q16⟩
  have z16 := q16.size
  obtain ⟨AL, kL, rfl, _⟩ := hXL.form
  refine mv rfl (xt rfl rfl (xt rfl rfl (fad rfl fa48_1 (s_fad2 rfl fa46_0 ?_))))
  replace hb5 := (hb5.fr q14 (by simp[blks]<;>omega)).ext (q15.n1 q16)
  refine s_storeBP (cs' := [_, _, _, _, _, _, _, _]) rfl rfl hb5 sz42 rfl (fun w17 hb5 q17 z17 => ?_)
  refine asg rfl ?_
  replace hmx := (((hmx.fr q13 (apl (by omega))).fr q14 (apl (by omega))).ext (q15.n1 q16)).fr q17 (apl (by omega))
  replace hXL := hXL.fr q17 (by intro k hk; simp at hk; omega)
  replace hmx : MotZ 88 91 (g11 + 1) w17 (slv (pqL pv cL AL kL).l) (slv (pqL pv cL AL kL).t) (slv (pqL pv cL AL kL).r) (pqL pv cL AL kL).p.mot := ⟨hXL.low (by omega), hmx.T, hmx.R, hgL, hmx.gT, hmx.gR⟩
  refine kpL [(2, _), (4, _), (5, _), (7, _), (8, _)] (.c5 rfl rfl rfl rfl rfl) (nn (sr (mv rfl (nt' rfl (nn ?_)))))
  refine cd rfl (fun c5 => ?_) (fun c5 => ?_)
  ·refine gt (gtt ?_)
   replace hb2 := (((((((hb2.ext (q2.n4 q3 q4 q5 q7)).fr q8 (by simp[blks]<;>omega)).fr q9 (by simp[blks]<;>omega)).ext (q11.n1 q12)).fr q13 (by simp[blks]<;>omega)).fr q14 (by simp[blks]<;>omega)).ext (q15.n1 q16)).fr q17 (by simp[blks]<;>omega)
   replace hb4 := (((((hb4.fr q9 (by simp[blks]<;>omega)).ext (q11.n1 q12)).fr q13 (by simp[blks]<;>omega)).fr q14 (by simp[blks]<;>omega)).ext (q15.n1 q16)).fr q17 (by simp[blks]<;>omega)
   replace hb11 := (hb11.ext (q15.n1 q16)).fr q17 (by simp[blks]<;>omega)
   replace hoV := (((((((hoV.ext (q5.n1 q7)).fr q8 (nfl hoV (by omega))).fr q9 (nfl hoV (by omega))).ext (q11.n1 q12)).fr q13 (nfl hoV (by omega))).fr q14 (nfl hoV (by omega))).ext (q15.n1 q16)).fr q17 (nfl hoV (by omega))
   replace hpx := (((((((hpx.ext (q5.n1 q7)).fr q8 (apl (by omega))).fr q9 (apl (by omega))).ext (q11.n1 q12)).fr q13 (apl (by omega))).fr q14 (apl (by omega))).ext (q15.n1 q16)).fr q17 (apl (by omega))
   exact gtl (RdT.wrong, ⟨g4, g5, g11, s1, n1, b14, (.slice none 0 0), [], (pqL pv cL AL kL)⟩) (.c4 rfl rfl rfl rfl) ⟨((((q1.z6 q2 q3 q4 q5 q7 q8).z1 q9).n1 q11).z6 q12 q13 q14 q15 q16 q17), ⟨(by first|omega|simp<;>omega), (by first|omega|simp<;>omega), (by first|omega|simp<;>omega), (by first|omega|simp<;>omega)⟩, hb2, hb4, hb5, hb11, hoV, hpx, hmx, ⟨(lf_no hr1 hl57 (hbnL (by simpa using c5))), (by first|omega|simp<;>omega), trivial⟩⟩ (trivial)
  have hbL := hbyL (by simpa using c5)
  refine sk (tn (sr (mv rfl ?_)))
  replace hb11 := (hb11.ext (q15.n1 q16)).fr q17 (by simp[blks]<;>omega)
  replace hG := hG0.ext ((((q1.z6 q2 q3 q4 q5 q7 q8).z1 q9).n1 q11).z6 q12 q13 q14 q15 q16 q17)
  refine cl (ev1 rfl) co68 (pass_ok g11 n1 s1 _ hb11 hG (by omega) (by omega) (by omega)) rfl ?_
  rintro _ w18 ⟨rfl, hb11, q18⟩
  have z18 := q18.size
  obtain ⟨s2, hs2⟩ : ∃ x, x = (Lib.cut s1 [10]).2.1 := ⟨_, rfl⟩
  obtain ⟨n2, hn2⟩ : ∃ x, x = n1 + 1 := ⟨_, rfl⟩
  have hle2 := cut_less (look_ended hl57).1
  have hr2 := lf_yes hr1 hl57 hbL
  rw [← hs2] at hle2
  rw [← hs2, ← hn2] at hb11 hr2
  refine nn (sq (lb (tn (sq (sr (mv rfl ?_))))))
  replace hG := hG0.ext (((((q1.z6 q2 q3 q4 q5 q7 q8).z1 q9).n1 q11).z6 q12 q13 q14 q15 q16 q17).sp q18)
  refine cl (ev2 rfl rfl) co66 (look_ok g11 _ _ wTile _ hb11 hG (by omega) (by decide)) rfl ?_
  rintro _ w19 ⟨b75, ok75, rfl, hly75, hln75, q19⟩
  have z19 := q19.size
  refine mv rfl (xt rfl rfl (xt rfl rfl (asg rfl (asg rfl (nn (sr (mv rfl (nt' rfl (nn ?_)))))))))
  refine cd rfl (fun c6 => ?_) (fun c6 => ?_)
  ·refine gt (gtt ?_)
   replace hb2 := (((((((((hb2.ext (q2.n4 q3 q4 q5 q7)).fr q8 (by simp[blks]<;>omega)).fr q9 (by simp[blks]<;>omega)).ext (q11.n1 q12)).fr q13 (by simp[blks]<;>omega)).fr q14 (by simp[blks]<;>omega)).ext (q15.n1 q16)).fr q17 (by simp[blks]<;>omega)).fr q18 (by simp[blks]<;>omega)).ext q19
   replace hb4 := (((((((hb4.fr q9 (by simp[blks]<;>omega)).ext (q11.n1 q12)).fr q13 (by simp[blks]<;>omega)).fr q14 (by simp[blks]<;>omega)).ext (q15.n1 q16)).fr q17 (by simp[blks]<;>omega)).fr q18 (by simp[blks]<;>omega)).ext q19
   replace hb5 := (hb5.fr q18 (by simp[blks]<;>omega)).ext q19
   replace hb11 := hb11.ext q19
   replace hoV := (((((((((hoV.ext (q5.n1 q7)).fr q8 (nfl hoV (by omega))).fr q9 (nfl hoV (by omega))).ext (q11.n1 q12)).fr q13 (nfl hoV (by omega))).fr q14 (nfl hoV (by omega))).ext (q15.n1 q16)).fr q17 (nfl hoV (by omega))).fr q18 (nfl hoV (by omega))).ext q19
   replace hpx := (((((((((hpx.ext (q5.n1 q7)).fr q8 (apl (by omega))).fr q9 (apl (by omega))).ext (q11.n1 q12)).fr q13 (apl (by omega))).fr q14 (apl (by omega))).ext (q15.n1 q16)).fr q17 (apl (by omega))).fr q18 (apl (by omega))).ext q19
   replace hmx := (hmx.fr q18 (apl (by omega))).ext q19
   exact gtl (RdT.wrong, ⟨g4, g5, g11, s2, n2, b14, (.slice none 0 0), [], (pqL pv cL AL kL)⟩) (.c4 rfl rfl rfl rfl) ⟨((((((q1.z6 q2 q3 q4 q5 q7 q8).z1 q9).n1 q11).z6 q12 q13 q14 q15 q16 q17).sp q18).next q19), ⟨(by first|omega|simp<;>omega), (by first|omega|simp<;>omega), (by first|omega|simp<;>omega), (by first|omega|simp<;>omega)⟩, hb2, hb4, hb5, hb11, hoV, hpx, hmx, ⟨(tl_no hr2 (.inl (hln75 (by simpa using c6)))), (by first|omega|simp<;>omega), trivial⟩⟩ (trivial)
  have hl75 := hly75 (by simpa using c6)
  refine sk (tn (sq (sr (mv rfl ?_))))
  replace hG := hG0.ext ((((((q1.z6 q2 q3 q4 q5 q7 q8).z1 q9).n1 q11).z6 q12 q13 q14 q15 q16 q17).sp q18).next q19)
  refine cl (ev1 rfl) co70 (gblock_ok _ _ hG (by have := look_len hl75; omega)) rfl ?_
  rintro _ w20 ⟨XT, cT, okT, rfl, hXT, hgT, hbyT, hbnT, q20⟩
  have z20 := q20.size
  obtain ⟨AT, kT, rfl, _⟩ := hXT.form
  refine mv rfl (xt rfl rfl (xt rfl rfl (fad rfl fa48_1 (s_fad2 rfl fa46_1 ?_))))
  replace hb5 := (hb5.fr q18 (by simp[blks]<;>omega)).ext (q19.n1 q20)
  refine s_storeBP (cs' := [_, _, _, _, _, _, _, _]) rfl rfl hb5 sz42 rfl (fun w21 hb5 q21 z21 => ?_)
  refine asg rfl ?_
  replace hmx := ((hmx.fr q18 (apl (by omega))).ext (q19.n1 q20)).fr q21 (apl (by omega))
  replace hXT := hXT.fr q21 (by intro k hk; simp at hk; omega)
  replace hmx : MotZ 88 91 (g11 + 1) w21 (slv (pqT (pqL pv cL AL kL) cT AT kT).l) (slv (pqT (pqL pv cL AL kL) cT AT kT).t) (slv (pqT (pqL pv cL AL kL) cT AT kT).r) (pqT (pqL pv cL AL kL) cT AT kT).p.mot := ⟨hmx.L, hXT.low (by omega), hmx.R, hmx.gL, hgT, hmx.gR⟩
  refine kpL [(2, _), (4, _), (5, _), (7, _), (8, _)] (.c5 rfl rfl rfl rfl rfl) (nn (sr (mv rfl (nt' rfl (nn ?_)))))
  refine cd rfl (fun c7 => ?_) (fun c7 => ?_)
  ·refine gt (gtt ?_)
   replace hb2 := ((((((((((hb2.ext (q2.n4 q3 q4 q5 q7)).fr q8 (by simp[blks]<;>omega)).fr q9 (by simp[blks]<;>omega)).ext (q11.n1 q12)).fr q13 (by simp[blks]<;>omega)).fr q14 (by simp[blks]<;>omega)).ext (q15.n1 q16)).fr q17 (by simp[blks]<;>omega)).fr q18 (by simp[blks]<;>omega)).ext (q19.n1 q20)).fr q21 (by simp[blks]<;>omega)
   replace hb4 := ((((((((hb4.fr q9 (by simp[blks]<;>omega)).ext (q11.n1 q12)).fr q13 (by simp[blks]<;>omega)).fr q14 (by simp[blks]<;>omega)).ext (q15.n1 q16)).fr q17 (by simp[blks]<;>omega)).fr q18 (by simp[blks]<;>omega)).ext (q19.n1 q20)).fr q21 (by simp[blks]<;>omega)
   replace hb11 := (hb11.ext (q19.n1 q20)).fr q21 (by simp[blks]<;>omega)
   replace hoV := ((((((((((hoV.ext (q5.n1 q7)).fr q8 (nfl hoV (by omega))).fr q9 (nfl hoV (by omega))).ext (q11.n1 q12)).fr q13 (nfl hoV (by omega))).fr q14 (nfl hoV (by omega))).ext (q15.n1 q16)).fr q17 (nfl hoV (by omega))).fr q18 (nfl hoV (by omega))).ext (q19.n1 q20)).fr q21 (nfl hoV (by omega))
   replace hpx := ((((((((((hpx.ext (q5.n1 q7)).fr q8 (apl (by omega))).fr q9 (apl (by omega))).ext (q11.n1 q12)).fr q13 (apl (by omega))).fr q14 (apl (by omega))).ext (q15.n1 q16)).fr q17 (apl (by omega))).fr q18 (apl (by omega))).ext (q19.n1 q20)).fr q21 (apl (by omega))
   exact gtl (RdT.wrong, ⟨g4, g5, g11, s2, n2, b14, (.slice none 0 0), [], (pqT (pqL pv cL AL kL) cT AT kT)⟩) (.c4 rfl rfl rfl rfl) ⟨((((((((q1.z6 q2 q3 q4 q5 q7 q8).z1 q9).n1 q11).z6 q12 q13 q14 q15 q16 q17).sp q18).next q19).next q20).sp q21), ⟨(by first|omega|simp<;>omega), (by first|omega|simp<;>omega), (by first|omega|simp<;>omega), (by first|omega|simp<;>omega)⟩, hb2, hb4, hb5, hb11, hoV, hpx, hmx, ⟨(tl_no hr2 (.inr ⟨_, hl75, hbnT (by simpa using c7)⟩)), (by first|omega|simp<;>omega), trivial⟩⟩ (trivial)
  have hbT := hbyT (by simpa using c7)
  refine sk (tn (sr (mv rfl ?_)))
  replace hb11 := (hb11.ext (q19.n1 q20)).fr q21 (by simp[blks]<;>omega)
  replace hG := hG0.ext ((((((((q1.z6 q2 q3 q4 q5 q7 q8).z1 q9).n1 q11).z6 q12 q13 q14 q15 q16 q17).sp q18).next q19).next q20).sp q21)
  refine cl (ev1 rfl) co68 (pass_ok g11 n2 s2 _ hb11 hG (by omega) (by omega) (by omega)) rfl ?_
  rintro _ w22 ⟨rfl, hb11, q22⟩
  have z22 := q22.size
  obtain ⟨s3, hs3⟩ : ∃ x, x = (Lib.cut s2 [10]).2.1 := ⟨_, rfl⟩
  obtain ⟨n3, hn3⟩ : ∃ x, x = n2 + 1 := ⟨_, rfl⟩
  have hle3 := cut_less (look_ended hl75).1
  have hr3 := tl_yes hr2 hl75 hbT
  rw [← hs3] at hle3
  rw [← hs3, ← hn3] at hb11 hr3
  refine nn (sq (sr (mv rfl ?_)))
  replace hG := hG0.ext (((((((((q1.z6 q2 q3 q4 q5 q7 q8).z1 q9).n1 q11).z6 q12 q13 q14 q15 q16 q17).sp q18).next q19).next q20).sp q21).sp q22)
  refine cl (ev2 rfl rfl) co66 (look_ok g11 _ _ wRight _ hb11 hG (by omega) (by decide)) rfl ?_
  rintro _ w23 ⟨b93, ok93, rfl, hly93, hln93, q23⟩
  have z23 := q23.size
  refine mv rfl (xt rfl rfl (xt rfl rfl (asg rfl (asg rfl (nn (sr (mv rfl (nt' rfl (nn ?_)))))))))
  refine cd rfl (fun c8 => ?_) (fun c8 => ?_)
  ·refine gt (gtt ?_)
   replace hb2 := ((((((((((((hb2.ext (q2.n4 q3 q4 q5 q7)).fr q8 (by simp[blks]<;>omega)).fr q9 (by simp[blks]<;>omega)).ext (q11.n1 q12)).fr q13 (by simp[blks]<;>omega)).fr q14 (by simp[blks]<;>omega)).ext (q15.n1 q16)).fr q17 (by simp[blks]<;>omega)).fr q18 (by simp[blks]<;>omega)).ext (q19.n1 q20)).fr q21 (by simp[blks]<;>omega)).fr q22 (by simp[blks]<;>omega)).ext q23
   replace hb4 := ((((((((((hb4.fr q9 (by simp[blks]<;>omega)).ext (q11.n1 q12)).fr q13 (by simp[blks]<;>omega)).fr q14 (by simp[blks]<;>omega)).ext (q15.n1 q16)).fr q17 (by simp[blks]<;>omega)).fr q18 (by simp[blks]<;>omega)).ext (q19.n1 q20)).fr q21 (by simp[blks]<;>omega)).fr q22 (by simp[blks]<;>omega)).ext q23
   replace hb5 := (hb5.fr q22 (by simp[blks]<;>omega)).ext q23
   replace hb11 := hb11.ext q23
   replace hoV := ((((((((((((hoV.ext (q5.n1 q7)).fr q8 (nfl hoV (by omega))).fr q9 (nfl hoV (by omega))).ext (q11.n1 q12)).fr q13 (nfl hoV (by omega))).fr q14 (nfl hoV (by omega))).ext (q15.n1 q16)).fr q17 (nfl hoV (by omega))).fr q18 (nfl hoV (by omega))).ext (q19.n1 q20)).fr q21 (nfl hoV (by omega))).fr q22 (nfl hoV (by omega))).ext q23
   replace hpx := ((((((((((((hpx.ext (q5.n1 q7)).fr q8 (apl (by omega))).fr q9 (apl (by omega))).ext (q11.n1 q12)).fr q13 (apl (by omega))).fr q14 (apl (by omega))).ext (q15.n1 q16)).fr q17 (apl (by omega))).fr q18 (apl (by omega))).ext (q19.n1 q20)).fr q21 (apl (by omega))).fr q22 (apl (by omega))).ext q23
   replace hmx := (hmx.fr q22 (apl (by omega))).ext q23
   exact gtl (RdT.whole, ⟨g4, g5, g11, s3, n3, b14, (.slice none 0 0), [], (pqT (pqL pv cL AL kL) cT AT kT)⟩) (.c4 rfl rfl rfl rfl) ⟨((((((((((q1.z6 q2 q3 q4 q5 q7 q8).z1 q9).n1 q11).z6 q12 q13 q14 q15 q16 q17).sp q18).next q19).next q20).sp q21).sp q22).next q23), ⟨(by first|omega|simp<;>omega), (by first|omega|simp<;>omega), (by first|omega|simp<;>omega), (by first|omega|simp<;>omega)⟩, hb2, hb4, hb5, hb11, hoV, hpx, hmx, ⟨rt_skip hr3 (hln93 (by simpa using c8)), (by first|omega|simp<;>omega), (by first|omega|simp [pcs_len]<;>omega)⟩⟩ (trivial)
  have hl93 := hly93 (by simpa using c8)
  refine sk (tn (sq (sr (mv rfl ?_))))
  replace hG := hG0.ext ((((((((((q1.z6 q2 q3 q4 q5 q7 q8).z1 q9).n1 q11).z6 q12 q13 q14 q15 q16 q17).sp q18).next q19).next q20).sp q21).sp q22).next q23)
  refine cl (ev1 rfl) co70 (gblock_ok _ _ hG (by have := look_len hl93; omega)) rfl ?_
  rintro _ w24 ⟨XR, cR, okR, rfl, hXR, hgR, hbyR, hbnR, q24⟩
  have z24 := q24.size
  obtain ⟨AR, kR, rfl, _⟩ := hXR.form
  refine mv rfl (xt rfl rfl (xt rfl rfl (fad rfl fa48_1 (s_fad2 rfl fa46_2 ?_))))
  replace hb5 := (hb5.fr q22 (by simp[blks]<;>omega)).ext (q23.n1 q24)
  refine s_storeBP (cs' := [_, _, _, _, _, _, _, _]) rfl rfl hb5 sz42 rfl (fun w25 hb5 q25 z25 => ?_)
  refine asg rfl ?_
  replace hmx := ((hmx.fr q22 (apl (by omega))).ext (q23.n1 q24)).fr q25 (apl (by omega))
  replace hXR := hXR.fr q25 (by intro k hk; simp at hk; omega)
  replace hmx : MotZ 88 91 (g11 + 1) w25 (slv (pqR (pqT (pqL pv cL AL kL) cT AT kT) cR AR kR).l) (slv (pqR (pqT (pqL pv cL AL kL) cT AT kT) cR AR kR).t) (slv (pqR (pqT (pqL pv cL AL kL) cT AT kT) cR AR kR).r) (pqR (pqT (pqL pv cL AL kL) cT AT kT) cR AR kR).p.mot := ⟨hmx.L, hmx.T, hXR.low (by omega), hmx.gL, hmx.gT, hgR⟩
  refine kpL [(2, _), (4, _), (5, _), (7, _), (8, _)] (.c5 rfl rfl rfl rfl rfl) (nn (sr (mv rfl (nt' rfl (nn ?_)))))
  refine cd rfl (fun c9 => ?_) (fun c9 => ?_)
  ·refine gt (gtt ?_)
   replace hb2 := (((((((((((((hb2.ext (q2.n4 q3 q4 q5 q7)).fr q8 (by simp[blks]<;>omega)).fr q9 (by simp[blks]<;>omega)).ext (q11.n1 q12)).fr q13 (by simp[blks]<;>omega)).fr q14 (by simp[blks]<;>omega)).ext (q15.n1 q16)).fr q17 (by simp[blks]<;>omega)).fr q18 (by simp[blks]<;>omega)).ext (q19.n1 q20)).fr q21 (by simp[blks]<;>omega)).fr q22 (by simp[blks]<;>omega)).ext (q23.n1 q24)).fr q25 (by simp[blks]<;>omega)
   replace hb4 := (((((((((((hb4.fr q9 (by simp[blks]<;>omega)).ext (q11.n1 q12)).fr q13 (by simp[blks]<;>omega)).fr q14 (by simp[blks]<;>omega)).ext (q15.n1 q16)).fr q17 (by simp[blks]<;>omega)).fr q18 (by simp[blks]<;>omega)).ext (q19.n1 q20)).fr q21 (by simp[blks]<;>omega)).fr q22 (by simp[blks]<;>omega)).ext (q23.n1 q24)).fr q25 (by simp[blks]<;>omega)
   replace hb11 := (hb11.ext (q23.n1 q24)).fr q25 (by simp[blks]<;>omega)
   replace hoV := (((((((((((((hoV.ext (q5.n1 q7)).fr q8 (nfl hoV (by omega))).fr q9 (nfl hoV (by omega))).ext (q11.n1 q12)).fr q13 (nfl hoV (by omega))).fr q14 (nfl hoV (by omega))).ext (q15.n1 q16)).fr q17 (nfl hoV (by omega))).fr q18 (nfl hoV (by omega))).ext (q19.n1 q20)).fr q21 (nfl hoV (by omega))).fr q22 (nfl hoV (by omega))).ext (q23.n1 q24)).fr q25 (nfl hoV (by omega))
   replace hpx := (((((((((((((hpx.ext (q5.n1 q7)).fr q8 (apl (by omega))).fr q9 (apl (by omega))).ext (q11.n1 q12)).fr q13 (apl (by omega))).fr q14 (apl (by omega))).ext (q15.n1 q16)).fr q17 (apl (by omega))).fr q18 (apl (by omega))).ext (q19.n1 q20)).fr q21 (apl (by omega))).fr q22 (apl (by omega))).ext (q23.n1 q24)).fr q25 (apl (by omega))
   exact gtl (RdT.wrong, ⟨g4, g5, g11, s3, n3, b14, (.slice none 0 0), [], (pqR (pqT (pqL pv cL AL kL) cT AT kT) cR AR kR)⟩) (.c4 rfl rfl rfl rfl) ⟨((((((((((((q1.z6 q2 q3 q4 q5 q7 q8).z1 q9).n1 q11).z6 q12 q13 q14 q15 q16 q17).sp q18).next q19).next q20).sp q21).sp q22).next q23).next q24).sp q25), ⟨(by first|omega|simp<;>omega), (by first|omega|simp<;>omega), (by first|omega|simp<;>omega), (by first|omega|simp<;>omega)⟩, hb2, hb4, hb5, hb11, hoV, hpx, hmx, ⟨(rt_no hr3 hl93 (hbnR (by simpa using c9))), (by first|omega|simp<;>omega), trivial⟩⟩ (trivial)
  have hbR := hbyR (by simpa using c9)
  refine sk (tn (sr (mv rfl ?_)))
  replace hb11 := (hb11.ext (q23.n1 q24)).fr q25 (by simp[blks]<;>omega)
  replace hG := hG0.ext ((((((((((((q1.z6 q2 q3 q4 q5 q7 q8).z1 q9).n1 q11).z6 q12 q13 q14 q15 q16 q17).sp q18).next q19).next q20).sp q21).sp q22).next q23).next q24).sp q25)
  refine cl (ev1 rfl) co68 (pass_ok g11 n3 s3 _ hb11 hG (by omega) (by omega) (by omega)) rfl ?_
  rintro _ w26 ⟨rfl, hb11, q26⟩
  have z26 := q26.size
  obtain ⟨s4, hs4⟩ : ∃ x, x = (Lib.cut s3 [10]).2.1 := ⟨_, rfl⟩
  obtain ⟨n4, hn4⟩ : ∃ x, x = n3 + 1 := ⟨_, rfl⟩
  have hle4 := cut_less (look_ended hl93).1
  have hr4 := rt_yes hr3 hl93 hbR
  rw [← hs4] at hle4
  rw [← hs4, ← hn4] at hb11 hr4
  refine nn (sq (lb (tn (sr (fad rfl fa27_1 ?_)))))
  replace hb4 := ((((((((((((hb4.fr q9 (by simp[blks]<;>omega)).ext (q11.n1 q12)).fr q13 (by simp[blks]<;>omega)).fr q14 (by simp[blks]<;>omega)).ext (q15.n1 q16)).fr q17 (by simp[blks]<;>omega)).fr q18 (by simp[blks]<;>omega)).ext (q19.n1 q20)).fr q21 (by simp[blks]<;>omega)).fr q22 (by simp[blks]<;>omega)).ext (q23.n1 q24)).fr q25 (by simp[blks]<;>omega)).fr q26 (by simp[blks]<;>omega)
  refine s_loadB rfl hb4 rfl na25 ?_
  replace hb5 := hb5.fr q26 (by simp[blks]<;>omega)
  refine s_loadBA rfl hb5 ag48 (s_bslice ([(pqR (pqT (pqL pv cL AL kL) cT AT kT) cR AR kR)]) (ev1 rfl) rfl rfl rfl el25 (Nat.le_of_ble_eq_true rfl) (fun g112 w27 hg112 ho112 q27 z27 => ?_))
  replace hpx := (((((((((((((((hpx.ext (q5.n1 q7)).fr q8 (apl (by omega))).fr q9 (apl (by omega))).ext (q11.n1 q12)).fr q13 (apl (by omega))).fr q14 (apl (by omega))).ext (q15.n1 q16)).fr q17 (apl (by omega))).fr q18 (apl (by omega))).ext (q19.n1 q20)).fr q21 (apl (by omega))).fr q22 (apl (by omega))).ext (q23.n1 q24)).fr q25 (apl (by omega))).fr q26 (apl (by omega))).ext q27
  replace hmx := (hmx.fr q26 (apl (by omega))).ext q27
  replace hb2 := (((((((((((((((hb2.ext (q2.n4 q3 q4 q5 q7)).fr q8 (by simp[blks]<;>omega)).fr q9 (by simp[blks]<;>omega)).ext (q11.n1 q12)).fr q13 (by simp[blks]<;>omega)).fr q14 (by simp[blks]<;>omega)).ext (q15.n1 q16)).fr q17 (by simp[blks]<;>omega)).fr q18 (by simp[blks]<;>omega)).ext (q19.n1 q20)).fr q21 (by simp[blks]<;>omega)).fr q22 (by simp[blks]<;>omega)).ext (q23.n1 q24)).fr q25 (by simp[blks]<;>omega)).fr q26 (by simp[blks]<;>omega)).ext q27
  replace hb4 := hb4.ext q27
  replace hb5 := hb5.ext q27
  replace hb11 := hb11.ext q27
  replace hoV := (((((((((((((((hoV.ext (q5.n1 q7)).fr q8 (nfl hoV (by omega))).fr q9 (nfl hoV (by omega))).ext (q11.n1 q12)).fr q13 (nfl hoV (by omega))).fr q14 (nfl hoV (by omega))).ext (q15.n1 q16)).fr q17 (nfl hoV (by omega))).fr q18 (nfl hoV (by omega))).ext (q19.n1 q20)).fr q21 (nfl hoV (by omega))).fr q22 (nfl hoV (by omega))).ext (q23.n1 q24)).fr q25 (nfl hoV (by omega))).fr q26 (nfl hoV (by omega))).ext q27
  have hoo113 := hoV
  refine s_append rfl rfl hoV ho112.sl el25 (fun v113 w28 hoV q28 hor113 => ?_)
  have z28 := q28.size
  replace hpx := hpx.fr q28 (own_apart hoo113 (by decide) (by decide))
  replace hmx := hmx.fr q28 (own_apart hoo113 (by decide) (by decide))
  replace hb2 := hb2.fr q28 (fun hk => by have := (hoo113.blk _ hk).1; omega)
  replace hb4 := hb4.fr q28 (fun hk => by have := (hoo113.blk _ hk).1; omega)
  replace hb5 := hb5.fr q28 (fun hk => by have := (hoo113.blk _ hk).1; omega)
  replace hb11 := hb11.fr q28 (fun hk => by have := (hoo113.blk _ hk).1; omega)
  obtain ⟨AW, cW, rfl, _⟩ := hoV.sl.form
  refine fad rfl fa27_1 (s_storeB rfl rfl hb4 rfl sz25 (fun w29 hb4 q29 z29 => ?_))
  replace hb4 : Blk w29 g4 _ [_, _] := hb4
  refine kpL [(2, _), (4, _), (5, _), (8, _)] (.c4 rfl rfl rfl rfl) (nn (sq (gt (gtt ?_))))
  replace hb2 := hb2.fr q29 (by simp[blks]<;>omega)
  replace hb5 := hb5.fr q29 (by simp[blks]<;>omega)
  replace hb11 := hb11.fr q29 (by simp[blks]<;>omega)
  replace hoV := hoV.fr q29 (nfl hoV (by omega))
  replace hpx := hpx.fr q29 (apl (by omega))
  replace hmx := hmx.fr q29 (apl (by omega))
  exact gtl (RdT.pieces, ⟨g4, g5, g11, s4, n4, b14, (.slice AW ([] ++ [(pqR (pqT (pqL pv cL AL kL) cT AT kT) cR AR kR)]).length cW), [] ++ [(pqR (pqT (pqL pv cL AL kL) cT AT kT) cR AR kR)], (pqR (pqT (pqL pv cL AL kL) cT AT kT) cR AR kR)⟩) (.c4 rfl rfl rfl rfl) ⟨((((((((((((((((q1.z6 q2 q3 q4 q5 q7 q8).z1 q9).n1 q11).z6 q12 q13 q14 q15 q16 q17).sp q18).next q19).next q20).sp q21).sp q22).next q23).next q24).sp q25).sp q26).next q27).step q28 (fun k hk hlt => absurd (hoo113.blk k hk).1 (by omega))).sp q29), ⟨(by first|omega|simp<;>omega), (by first|omega|simp<;>omega), (by first|omega|simp<;>omega), (by first|omega|simp<;>omega)⟩, hb2, hb4, hb5, hb11, hoV, hpx.snoc hmx, hmx, ⟨(by simp only [pcs_snoc]; exact hr4), (by first|omega|simp<;>omega), (by simp only [pcs_snoc, List.length_append, List.length_singleton, pcs_len, List.length_nil]; omega)⟩⟩ (trivial)
 rintro ⟨t, ⟨g4, g5, g11, s, n, nm, V, qs, q⟩⟩ w30 ⟨q30, ⟨⟨ho1, ho2, ho3, ho4⟩, hb2, hb4, hb5, hb11, hoV, hpx, hmx, hrd⟩⟩
 have z30 := q30.size
 simp only at ho1 ho2 ho3 ho4 hb4 hb5 hb11 hoV hpx hmx hrd
 cases t
 ·refine ⟨_, rfl, ?_⟩
  have lt_hb2 := hb2.lt
  have lt_hb4 := hb4.lt
  have lt_hb5 := hb5.lt
  have lt_hb11 := hb11.lt
  obtain ⟨hrd, hbd, -⟩ := hrd
  replace hrd : readG s0 = (none, (n : Int) + 1) := hrd
  refine kpC [(2, .pointer (some ⟨g2, 0, none⟩)), (4, .pointer (some ⟨g4, 0, none⟩)), (5, .pointer (some ⟨g5, 0, none⟩)), (8, .pointer (some ⟨g11, 0, none⟩))] (.c4 rfl rfl rfl rfl) ?_
  refine sq (sk (tn (sq ?_)))
  intro a h
  refine region_heldP none (fun wb w' => Fr [g2] wb w') hmix ?_; intro w31 hq
  have z31 := hq.size
  replace hb2 := hb2.ext hq
  replace hb11 := hb11.ext hq
  have q31 := hq
  clear hq; have hC : Fr [g2] w31 w31 := Fr.refl _ _
  have hb2_b := hb2
  have hb11_b := hb11
  refine hd_lit (cs := [_, _]) 0 hC h wn evs_nil bo27 pok_nil rfl rfl ?_; clear h a; intro a h
  refine hd_move 1 hC h wn rfl rfl ?_; clear h a; intro a h
  refine hd_nilCheck 2 (by kernel_rfl) (by kernel_rfl) (by kernel_rfl) hC h wn rfl rfl rfl ?_; clear h a; intro a h
  refine hd_fieldAddr 3 hC h wn rfl fa155_1 rfl ?_; clear h a; intro a h
  refine hd_loadB 4 hC h wn rfl (fun _ hw => hb11_b.fr hw (by simp; omega)) rfl na3 rfl ?_; clear h a; intro a h
  refine hd_add 5 hC h wn rfl rfl (by first | exact i6 (by omega) | rfl) rfl ?_; clear h a; intro a h
  refine hd_one 6 rfl ?_
  refine st_storeBA h rfl rfl hb2 rfl sz27 ?_; clear h a; intro w32 hbn hq hz a h
  have z32 := hq.size
  replace hb11 := hb11.fr hq (by simp[blks]<;>omega)
  replace hC := hC.sp hq
  have q32 := hq
  clear hb2 hq hz; have hb2 : Blk w32 g2 _ [_, _] := hbn; clear hbn
  refine hd_next hC ?_
  refine hd_one 7 rfl ?_
  refine st_assign h rfl ?_; clear h a; intro a h
  refine hd_next hC ?_
  refine hd_end ?_
  clear hC hb2_b hb11_b
  refine bk (h.sub (L' := [(2, _), (3, _)]) (.c2 rfl rfl)) ?_; clear h a
  refine tn (rt (gjr (rCT Tryz.results35 rfl hb2 ag27 rfl ?_)))
  exact ⟨_, rfl, [], .slice none 0 0, [], (n : Int) + 1, rfl, Own.nil _, PcsX.nil, readR_bad hrd, (q30.z2 q31 q32)⟩
 ·refine ⟨_, rfl, ?_⟩
  have lt_hb2 := hb2.lt
  have lt_hb4 := hb4.lt
  have lt_hb5 := hb5.lt
  have lt_hb11 := hb11.lt
  obtain ⟨hrA, hbd, hqn⟩ := hrd
  replace hrA : Rem s0 s n (nm, pcs qs, .next) := hrA
  replace hqn : (pcs qs).length + 1 ≤ n := hqn
  rw [pcs_len] at hqn
  obtain ⟨AV, cV, rfl, _⟩ := hoV.sl.form
  refine kpC [(2, .pointer (some ⟨g2, 0, none⟩)), (4, .pointer (some ⟨g4, 0, none⟩)), (5, .pointer (some ⟨g5, 0, none⟩)), (8, .pointer (some ⟨g11, 0, none⟩))] (.c4 rfl rfl rfl rfl) ?_
  refine sq (sk (tn (sq (sq ?_))))
  refine rbo (r := 37) (L' := [(2, _), (4, _), (5, _), (8, _)]) (s = [] ∧ (0 : Int) < (qs.length : Int)) (.c4 rfl rfl rfl rfl) ?_ ?_
  ·refine mv rfl (nlc rfl (fad rfl fa155_0 (s_loadB rfl hb11 rfl na9 (s_eqs rfl rfl (mv rfl ?_)))))
   refine gs 32 rfl (fun g2 => ?_) (fun g2 => ?_)
   ·exact gY rfl (fad rfl fa27_1 (gY rfl (s_loadB rfl hb4 rfl na25 (gY rfl (lnS rfl Tryz.underlying25 (gY rfl (gt' rfl rfl (pkt rfl rfl (rbe rfl (.c4 rfl rfl rfl rfl))))))))))
   exact gN rfl rfl rfl (gN rfl rfl rfl (gN rfl rfl rfl (gN rfl rfl rfl (pkf rfl rfl (rbe rfl (.c4 rfl rfl rfl rfl))))))
  refine tn ?_
  refine cd rfl (fun c1 => ?_) (fun c1 => ?_)
  ·refine sr (s_loadBA rfl hb4 ag27 (s_storeBA (vs := [_, _]) rfl rfl hb2 (by rfl) sz27 (fun w33 hb2 q33 z33 => ?_)))
   refine asg rfl (nn (rt (tr (gjr (rCT Tryz.results35 rfl hb2 ag27 rfl ?_)))))
   replace hoV := hoV.fr q33 (nfl hoV (by omega))
   replace hpx := hpx.fr q33 (apl (by omega))
   exact ⟨_, rfl, nm, _, qs, 0, rfl, hoV.low (by omega), PcsX.low hpx (by omega), .inl ⟨(by have e := c1.1; subst e; exact nx_done hrA (fun e => by have h2 := c1.2; rw [← pcs_len, e] at h2; simp at h2)), rfl⟩, (q30.z1 q33)⟩
  have hc1 : ¬ (s = [] ∧ pcs qs ≠ []) := fun ⟨a, b⟩ => c1 ⟨a, by have := List.length_pos_iff.2 b; rw [pcs_len] at this; omega⟩
  refine sk (tn (sq (sr (mv rfl ?_))))
  replace hG := hG0.ext q30
  refine cl (ev2 rfl rfl) co66 (look_ok g11 _ _ wPiece _ hb11 hG (by omega) (by decide)) rfl ?_
  rintro _ w34 ⟨b41, ok41, rfl, hly41, hln41, q34⟩
  have z34 := q34.size
  refine mv rfl (xt rfl rfl (xt rfl rfl (asg rfl (asg rfl (kpL [(2, _), (4, _), (5, _), (6, _), (7, _), (8, _)] (.c6 rfl rfl rfl rfl rfl rfl) (nn (sr (mv rfl (nt' rfl (nn ?_))))))))))
  refine cd rfl (fun c2 => ?_) (fun c2 => ?_)
  ·refine gt (gtt ?_)
   replace hb2 := hb2.ext q34
   replace hb4 := hb4.ext q34
   replace hb5 := hb5.ext q34
   replace hb11 := hb11.ext q34
   replace hoV := hoV.ext q34
   replace hpx := hpx.ext q34
   replace hmx := hmx.ext q34
   exact gtl (RdT.wrong, ⟨g4, g5, g11, s, n, nm, (.slice AV qs.length cV), qs, q⟩) (.c4 rfl rfl rfl rfl) ⟨(q30.n1 q34), ⟨(by first|omega|simp<;>omega), (by first|omega|simp<;>omega), (by first|omega|simp<;>omega), (by first|omega|simp<;>omega)⟩, hb2, hb4, hb5, hb11, hoV, hpx, hmx, ⟨(nx_no hrA hc1 (.inl (hln41 (by simpa using c2)))), (by first|omega|simp<;>omega), trivial⟩⟩ (by simp only [rdMu, RdT.mu]; omega)
  have hl41 := hly41 (by simpa using c2)
  refine sk (tn (sq (sr (mv rfl ?_))))
  replace hG := hG0.ext (q30.n1 q34)
  refine cl (ev1 rfl) co69 (piece_ok _ _ hG (by have := look_len hl41; omega)) rfl ?_
  rintro _ w35 ⟨pv, okp, rfl, hpm, hpy, hpn, q35⟩
  have z35 := q35.size
  replace hmx : MotZ 88 91 (g11 + 1) w35 (slv sv0) (slv sv0) (slv sv0) pv.mot := by rw [hpm]; exact MotZ.nil
  refine mv rfl (xt rfl rfl (xt rfl rfl ?_))
  replace hb5 := hb5.ext (q34.n1 q35)
  refine s_storeBA (vs := [_, _, _, _, _, _, _, _]) rfl rfl hb5 (by rfl) sz48 (fun w36 hb5 q36 z36 => ?_)
  refine asg rfl (kpL [(2, _), (4, _), (5, _), (7, _), (8, _)] (.c5 rfl rfl rfl rfl rfl) (nn (sr (mv rfl (nt' rfl (nn ?_))))))
  refine cd rfl (fun c3 => ?_) (fun c3 => ?_)
  ·refine gt (gtt ?_)
   replace hb2 := (hb2.ext (q34.n1 q35)).fr q36 (by simp[blks]<;>omega)
   replace hb4 := (hb4.ext (q34.n1 q35)).fr q36 (by simp[blks]<;>omega)
   replace hb11 := (hb11.ext (q34.n1 q35)).fr q36 (by simp[blks]<;>omega)
   replace hoV := (hoV.ext (q34.n1 q35)).fr q36 (nfl hoV (by omega))
   replace hpx := (hpx.ext (q34.n1 q35)).fr q36 (apl (by omega))
   replace hmx := hmx.fr q36 (apl (by omega))
   exact gtl (RdT.wrong, ⟨g4, g5, g11, s, n, nm, (.slice AV qs.length cV), qs, (pq1 pv)⟩) (.c4 rfl rfl rfl rfl) ⟨(q30.z3 q34 q35 q36), ⟨(by first|omega|simp<;>omega), (by first|omega|simp<;>omega), (by first|omega|simp<;>omega), (by first|omega|simp<;>omega)⟩, hb2, hb4, hb5, hb11, hoV, hpx, hmx, ⟨(nx_no hrA hc1 (.inr ⟨_, hl41, hpn (by simpa using c3)⟩)), (by first|omega|simp<;>omega), trivial⟩⟩ (by simp only [rdMu, RdT.mu]; omega)
  have hp := hpy (by simpa using c3)
  refine sk (tn (sr (mv rfl ?_)))
  replace hb11 := (hb11.ext (q34.n1 q35)).fr q36 (by simp[blks]<;>omega)
  replace hG := hG0.ext (q30.z3 q34 q35 q36)
  refine cl (ev1 rfl) co68 (pass_ok g11 n s _ hb11 hG (by omega) (by omega) (by omega)) rfl ?_
  rintro _ w37 ⟨rfl, hb11, q37⟩
  have z37 := q37.size
  obtain ⟨s1, hs1⟩ : ∃ x, x = (Lib.cut s [10]).2.1 := ⟨_, rfl⟩
  obtain ⟨n1, hn1⟩ : ∃ x, x = n + 1 := ⟨_, rfl⟩
  have hle1 := cut_less (look_ended hl41).1
  have hr1 := nx_yes hrA hl41 hp
  rw [← hs1] at hle1
  rw [← hs1, ← hn1] at hb11 hr1
  refine nn (sq (sr (mv rfl ?_)))
  replace hG := hG0.ext (q30.z4 q34 q35 q36 q37)
  refine cl (ev2 rfl rfl) co66 (look_ok g11 _ _ wLeft _ hb11 hG (by omega) (by decide)) rfl ?_
  rintro _ w38 ⟨b57, ok57, rfl, hly57, hln57, q38⟩
  have z38 := q38.size
  refine mv rfl (xt rfl rfl (xt rfl rfl (asg rfl (asg rfl (nn (sr (mv rfl (nt' rfl (nn ?_)))))))))
  refine cd rfl (fun c4 => ?_) (fun c4 => ?_)
  ·refine gt (gtt ?_)
   replace hb2 := (((hb2.ext (q34.n1 q35)).fr q36 (by simp[blks]<;>omega)).fr q37 (by simp[blks]<;>omega)).ext q38
   replace hb4 := (((hb4.ext (q34.n1 q35)).fr q36 (by simp[blks]<;>omega)).fr q37 (by simp[blks]<;>omega)).ext q38
   replace hb5 := (hb5.fr q37 (by simp[blks]<;>omega)).ext q38
   replace hb11 := hb11.ext q38
   replace hoV := (((hoV.ext (q34.n1 q35)).fr q36 (nfl hoV (by omega))).fr q37 (nfl hoV (by omega))).ext q38
   replace hpx := (((hpx.ext (q34.n1 q35)).fr q36 (apl (by omega))).fr q37 (apl (by omega))).ext q38
   replace hmx := ((hmx.fr q36 (apl (by omega))).fr q37 (apl (by omega))).ext q38
   exact gtl (RdT.tile, ⟨g4, g5, g11, s1, n1, nm, (.slice AV qs.length cV), qs, (pq1 pv)⟩) (.c4 rfl rfl rfl rfl) ⟨(q30.z5 q34 q35 q36 q37 q38), ⟨(by first|omega|simp<;>omega), (by first|omega|simp<;>omega), (by first|omega|simp<;>omega), (by first|omega|simp<;>omega)⟩, hb2, hb4, hb5, hb11, hoV, hpx, hmx, ⟨lf_skip hr1 (hln57 (by simpa using c4)), (by first|omega|simp<;>omega), (by first|omega|simp [pcs_len]<;>omega)⟩⟩ (by simp only [rdMu, RdT.mu]; omega)
  have hl57 := hly57 (by simpa using c4)
  refine sk (tn (sq (sr (mv rfl ?_))))
  replace hG := hG0.ext (q30.z5 q34 q35 q36 q37 q38)
  refine cl (ev1 rfl) co70 (gblock_ok _ _ hG (by have := look_len hl57; omega)) rfl ?_
  rintro _ w39 ⟨XL, cL, okL, rfl, hXL, hgL, hbyL, hbnL, q39⟩
  have z39 := q39.size
  obtain ⟨AL, kL, rfl, _⟩ := hXL.form
  refine mv rfl (xt rfl rfl (xt rfl rfl (fad rfl fa48_1 (s_fad2 rfl fa46_0 ?_))))
  replace hb5 := (hb5.fr q37 (by simp[blks]<;>omega)).ext (q38.n1 q39)
  refine s_storeBP (cs' := [_, _, _, _, _, _, _, _]) rfl rfl hb5 sz42 rfl (fun w40 hb5 q40 z40 => ?_)
  refine asg rfl ?_
  replace hmx := (((hmx.fr q36 (apl (by omega))).fr q37 (apl (by omega))).ext (q38.n1 q39)).fr q40 (apl (by omega))
  replace hXL := hXL.fr q40 (by intro k hk; simp at hk; omega)
  replace hmx : MotZ 88 91 (g11 + 1) w40 (slv (pqL pv cL AL kL).l) (slv (pqL pv cL AL kL).t) (slv (pqL pv cL AL kL).r) (pqL pv cL AL kL).p.mot := ⟨hXL.low (by omega), hmx.T, hmx.R, hgL, hmx.gT, hmx.gR⟩
  refine kpL [(2, _), (4, _), (5, _), (7, _), (8, _)] (.c5 rfl rfl rfl rfl rfl) (nn (sr (mv rfl (nt' rfl (nn ?_)))))
  refine cd rfl (fun c5 => ?_) (fun c5 => ?_)
  ·refine gt (gtt ?_)
   replace hb2 := ((((hb2.ext (q34.n1 q35)).fr q36 (by simp[blks]<;>omega)).fr q37 (by simp[blks]<;>omega)).ext (q38.n1 q39)).fr q40 (by simp[blks]<;>omega)
   replace hb4 := ((((hb4.ext (q34.n1 q35)).fr q36 (by simp[blks]<;>omega)).fr q37 (by simp[blks]<;>omega)).ext (q38.n1 q39)).fr q40 (by simp[blks]<;>omega)
   replace hb11 := (hb11.ext (q38.n1 q39)).fr q40 (by simp[blks]<;>omega)
   replace hoV := ((((hoV.ext (q34.n1 q35)).fr q36 (nfl hoV (by omega))).fr q37 (nfl hoV (by omega))).ext (q38.n1 q39)).fr q40 (nfl hoV (by omega))
   replace hpx := ((((hpx.ext (q34.n1 q35)).fr q36 (apl (by omega))).fr q37 (apl (by omega))).ext (q38.n1 q39)).fr q40 (apl (by omega))
   exact gtl (RdT.wrong, ⟨g4, g5, g11, s1, n1, nm, (.slice AV qs.length cV), qs, (pqL pv cL AL kL)⟩) (.c4 rfl rfl rfl rfl) ⟨((q30.z6 q34 q35 q36 q37 q38 q39).z1 q40), ⟨(by first|omega|simp<;>omega), (by first|omega|simp<;>omega), (by first|omega|simp<;>omega), (by first|omega|simp<;>omega)⟩, hb2, hb4, hb5, hb11, hoV, hpx, hmx, ⟨(lf_no hr1 hl57 (hbnL (by simpa using c5))), (by first|omega|simp<;>omega), trivial⟩⟩ (by simp only [rdMu, RdT.mu]; omega)
  have hbL := hbyL (by simpa using c5)
  refine sk (tn (sr (mv rfl ?_)))
  replace hb11 := (hb11.ext (q38.n1 q39)).fr q40 (by simp[blks]<;>omega)
  replace hG := hG0.ext ((q30.z6 q34 q35 q36 q37 q38 q39).z1 q40)
  refine cl (ev1 rfl) co68 (pass_ok g11 n1 s1 _ hb11 hG (by omega) (by omega) (by omega)) rfl ?_
  rintro _ w41 ⟨rfl, hb11, q41⟩
  have z41 := q41.size
  obtain ⟨s2, hs2⟩ : ∃ x, x = (Lib.cut s1 [10]).2.1 := ⟨_, rfl⟩
  obtain ⟨n2, hn2⟩ : ∃ x, x = n1 + 1 := ⟨_, rfl⟩
  have hle2 := cut_less (look_ended hl57).1
  have hr2 := lf_yes hr1 hl57 hbL
  rw [← hs2] at hle2
  rw [← hs2, ← hn2] at hb11 hr2
  refine nn (sq (lb (tn (sq (sr (mv rfl ?_))))))
  replace hG := hG0.ext (((q30.z6 q34 q35 q36 q37 q38 q39).z1 q40).z1 q41)
  refine cl (ev2 rfl rfl) co66 (look_ok g11 _ _ wTile _ hb11 hG (by omega) (by decide)) rfl ?_
  rintro _ w42 ⟨b75, ok75, rfl, hly75, hln75, q42⟩
  have z42 := q42.size
  refine mv rfl (xt rfl rfl (xt rfl rfl (asg rfl (asg rfl (nn (sr (mv rfl (nt' rfl (nn ?_)))))))))
  refine cd rfl (fun c6 => ?_) (fun c6 => ?_)
  ·refine gt (gtt ?_)
   replace hb2 := ((((((hb2.ext (q34.n1 q35)).fr q36 (by simp[blks]<;>omega)).fr q37 (by simp[blks]<;>omega)).ext (q38.n1 q39)).fr q40 (by simp[blks]<;>omega)).fr q41 (by simp[blks]<;>omega)).ext q42
   replace hb4 := ((((((hb4.ext (q34.n1 q35)).fr q36 (by simp[blks]<;>omega)).fr q37 (by simp[blks]<;>omega)).ext (q38.n1 q39)).fr q40 (by simp[blks]<;>omega)).fr q41 (by simp[blks]<;>omega)).ext q42
   replace hb5 := (hb5.fr q41 (by simp[blks]<;>omega)).ext q42
   replace hb11 := hb11.ext q42
   replace hoV := ((((((hoV.ext (q34.n1 q35)).fr q36 (nfl hoV (by omega))).fr q37 (nfl hoV (by omega))).ext (q38.n1 q39)).fr q40 (nfl hoV (by omega))).fr q41 (nfl hoV (by omega))).ext q42
   replace hpx := ((((((hpx.ext (q34.n1 q35)).fr q36 (apl (by omega))).fr q37 (apl (by omega))).ext (q38.n1 q39)).fr q40 (apl (by omega))).fr q41 (apl (by omega))).ext q42
   replace hmx := (hmx.fr q41 (apl (by omega))).ext q42
   exact gtl (RdT.wrong, ⟨g4, g5, g11, s2, n2, nm, (.slice AV qs.length cV), qs, (pqL pv cL AL kL)⟩) (.c4 rfl rfl rfl rfl) ⟨((((q30.z6 q34 q35 q36 q37 q38 q39).z1 q40).z1 q41).n1 q42), ⟨(by first|omega|simp<;>omega), (by first|omega|simp<;>omega), (by first|omega|simp<;>omega), (by first|omega|simp<;>omega)⟩, hb2, hb4, hb5, hb11, hoV, hpx, hmx, ⟨(tl_no hr2 (.inl (hln75 (by simpa using c6)))), (by first|omega|simp<;>omega), trivial⟩⟩ (by simp only [rdMu, RdT.mu]; omega)
  have hl75 := hly75 (by simpa using c6)
  refine sk (tn (sq (sr (mv rfl ?_))))
  replace hG := hG0.ext ((((q30.z6 q34 q35 q36 q37 q38 q39).z1 q40).z1 q41).n1 q42)
  refine cl (ev1 rfl) co70 (gblock_ok _ _ hG (by have := look_len hl75; omega)) rfl ?_
  rintro _ w43 ⟨XT, cT, okT, rfl, hXT, hgT, hbyT, hbnT, q43⟩
  have z43 := q43.size
  obtain ⟨AT, kT, rfl, _⟩ := hXT.form
  refine mv rfl (xt rfl rfl (xt rfl rfl (fad rfl fa48_1 (s_fad2 rfl fa46_1 ?_))))
  replace hb5 := (hb5.fr q41 (by simp[blks]<;>omega)).ext (q42.n1 q43)
  refine s_storeBP (cs' := [_, _, _, _, _, _, _, _]) rfl rfl hb5 sz42 rfl (fun w44 hb5 q44 z44 => ?_)
  refine asg rfl ?_
  replace hmx := ((hmx.fr q41 (apl (by omega))).ext (q42.n1 q43)).fr q44 (apl (by omega))
  replace hXT := hXT.fr q44 (by intro k hk; simp at hk; omega)
  replace hmx : MotZ 88 91 (g11 + 1) w44 (slv (pqT (pqL pv cL AL kL) cT AT kT).l) (slv (pqT (pqL pv cL AL kL) cT AT kT).t) (slv (pqT (pqL pv cL AL kL) cT AT kT).r) (pqT (pqL pv cL AL kL) cT AT kT).p.mot := ⟨hmx.L, hXT.low (by omega), hmx.R, hmx.gL, hgT, hmx.gR⟩
  refine kpL [(2, _), (4, _), (5, _), (7, _), (8, _)] (.c5 rfl rfl rfl rfl rfl) (nn (sr (mv rfl (nt' rfl (nn ?_)))))
  refine cd rfl (fun c7 => ?_) (fun c7 => ?_)
  ·refine gt (gtt ?_)
   replace hb2 := (((((((hb2.ext (q34.n1 q35)).fr q36 (by simp[blks]<;>omega)).fr q37 (by simp[blks]<;>omega)).ext (q38.n1 q39)).fr q40 (by simp[blks]<;>omega)).fr q41 (by simp[blks]<;>omega)).ext (q42.n1 q43)).fr q44 (by simp[blks]<;>omega)
   replace hb4 := (((((((hb4.ext (q34.n1 q35)).fr q36 (by simp[blks]<;>omega)).fr q37 (by simp[blks]<;>omega)).ext (q38.n1 q39)).fr q40 (by simp[blks]<;>omega)).fr q41 (by simp[blks]<;>omega)).ext (q42.n1 q43)).fr q44 (by simp[blks]<;>omega)
   replace hb11 := (hb11.ext (q42.n1 q43)).fr q44 (by simp[blks]<;>omega)
   replace hoV := (((((((hoV.ext (q34.n1 q35)).fr q36 (nfl hoV (by omega))).fr q37 (nfl hoV (by omega))).ext (q38.n1 q39)).fr q40 (nfl hoV (by omega))).fr q41 (nfl hoV (by omega))).ext (q42.n1 q43)).fr q44 (nfl hoV (by omega))
   replace hpx := (((((((hpx.ext (q34.n1 q35)).fr q36 (apl (by omega))).fr q37 (apl (by omega))).ext (q38.n1 q39)).fr q40 (apl (by omega))).fr q41 (apl (by omega))).ext (q42.n1 q43)).fr q44 (apl (by omega))
   exact gtl (RdT.wrong, ⟨g4, g5, g11, s2, n2, nm, (.slice AV qs.length cV), qs, (pqT (pqL pv cL AL kL) cT AT kT)⟩) (.c4 rfl rfl rfl rfl) ⟨((((q30.z6 q34 q35 q36 q37 q38 q39).z1 q40).z1 q41).z3 q42 q43 q44), ⟨(by first|omega|simp<;>omega), (by first|omega|simp<;>omega), (by first|omega|simp<;>omega), (by first|omega|simp<;>omega)⟩, hb2, hb4, hb5, hb11, hoV, hpx, hmx, ⟨(tl_no hr2 (.inr ⟨_, hl75, hbnT (by simpa using c7)⟩)), (by first|omega|simp<;>omega), trivial⟩⟩ (by simp only [rdMu, RdT.mu]; omega)
  have hbT := hbyT (by simpa using c7)
  refine sk (tn (sr (mv rfl ?_)))
  replace hb11 := (hb11.ext (q42.n1 q43)).fr q44 (by simp[blks]<;>omega)
  replace hG := hG0.ext ((((q30.z6 q34 q35 q36 q37 q38 q39).z1 q40).z1 q41).z3 q42 q43 q44)
  refine cl (ev1 rfl) co68 (pass_ok g11 n2 s2 _ hb11 hG (by omega) (by omega) (by omega)) rfl ?_
  rintro _ w45 ⟨rfl, hb11, q45⟩
  have z45 := q45.size
  obtain ⟨s3, hs3⟩ : ∃ x, x = (Lib.cut s2 [10]).2.1 := ⟨_, rfl⟩
  obtain ⟨n3, hn3⟩ : ∃ x, x = n2 + 1 := ⟨_, rfl⟩
  have hle3 := cut_less (look_ended hl75).1
  have hr3 := tl_yes hr2 hl75 hbT
  rw [← hs3] at hle3
  rw [← hs3, ← hn3] at hb11 hr3
  refine nn (sq (sr (mv rfl ?_)))
  replace hG := hG0.ext ((((q30.z6 q34 q35 q36 q37 q38 q39).z1 q40).z1 q41).z4 q42 q43 q44 q45)
  refine cl (ev2 rfl rfl) co66 (look_ok g11 _ _ wRight _ hb11 hG (by omega) (by decide)) rfl ?_
  rintro _ w46 ⟨b93, ok93, rfl, hly93, hln93, q46⟩
  have z46 := q46.size
  refine mv rfl (xt rfl rfl (xt rfl rfl (asg rfl (asg rfl (nn (sr (mv rfl (nt' rfl (nn ?_)))))))))
  refine cd rfl (fun c8 => ?_) (fun c8 => ?_)
  ·refine gt (gtt ?_)
   replace hb2 := (((((((((hb2.ext (q34.n1 q35)).fr q36 (by simp[blks]<;>omega)).fr q37 (by simp[blks]<;>omega)).ext (q38.n1 q39)).fr q40 (by simp[blks]<;>omega)).fr q41 (by simp[blks]<;>omega)).ext (q42.n1 q43)).fr q44 (by simp[blks]<;>omega)).fr q45 (by simp[blks]<;>omega)).ext q46
   replace hb4 := (((((((((hb4.ext (q34.n1 q35)).fr q36 (by simp[blks]<;>omega)).fr q37 (by simp[blks]<;>omega)).ext (q38.n1 q39)).fr q40 (by simp[blks]<;>omega)).fr q41 (by simp[blks]<;>omega)).ext (q42.n1 q43)).fr q44 (by simp[blks]<;>omega)).fr q45 (by simp[blks]<;>omega)).ext q46
   replace hb5 := (hb5.fr q45 (by simp[blks]<;>omega)).ext q46
   replace hb11 := hb11.ext q46
   replace hoV := (((((((((hoV.ext (q34.n1 q35)).fr q36 (nfl hoV (by omega))).fr q37 (nfl hoV (by omega))).ext (q38.n1 q39)).fr q40 (nfl hoV (by omega))).fr q41 (nfl hoV (by omega))).ext (q42.n1 q43)).fr q44 (nfl hoV (by omega))).fr q45 (nfl hoV (by omega))).ext q46
   replace hpx := (((((((((hpx.ext (q34.n1 q35)).fr q36 (apl (by omega))).fr q37 (apl (by omega))).ext (q38.n1 q39)).fr q40 (apl (by omega))).fr q41 (apl (by omega))).ext (q42.n1 q43)).fr q44 (apl (by omega))).fr q45 (apl (by omega))).ext q46
   replace hmx := (hmx.fr q45 (apl (by omega))).ext q46
   exact gtl (RdT.whole, ⟨g4, g5, g11, s3, n3, nm, (.slice AV qs.length cV), qs, (pqT (pqL pv cL AL kL) cT AT kT)⟩) (.c4 rfl rfl rfl rfl) ⟨((((q30.z6 q34 q35 q36 q37 q38 q39).z1 q40).z1 q41).z5 q42 q43 q44 q45 q46), ⟨(by first|omega|simp<;>omega), (by first|omega|simp<;>omega), (by first|omega|simp<;>omega), (by first|omega|simp<;>omega)⟩, hb2, hb4, hb5, hb11, hoV, hpx, hmx, ⟨rt_skip hr3 (hln93 (by simpa using c8)), (by first|omega|simp<;>omega), (by first|omega|simp [pcs_len]<;>omega)⟩⟩ (by simp only [rdMu, RdT.mu]; omega)
  have hl93 := hly93 (by simpa using c8)
  refine sk (tn (sq (sr (mv rfl ?_))))
  replace hG := hG0.ext ((((q30.z6 q34 q35 q36 q37 q38 q39).z1 q40).z1 q41).z5 q42 q43 q44 q45 q46)
  refine cl (ev1 rfl) co70 (gblock_ok _ _ hG (by have := look_len hl93; omega)) rfl ?_
  rintro _ w47 ⟨XR, cR, okR, rfl, hXR, hgR, hbyR, hbnR, q47⟩
  have z47 := q47.size
  obtain ⟨AR, kR, rfl, _⟩ := hXR.form
  refine mv rfl (xt rfl rfl (xt rfl rfl (fad rfl fa48_1 (s_fad2 rfl fa46_2 ?_))))
  replace hb5 := (hb5.fr q45 (by simp[blks]<;>omega)).ext (q46.n1 q47)
  refine s_storeBP (cs' := [_, _, _, _, _, _, _, _]) rfl rfl hb5 sz42 rfl (fun w48 hb5 q48 z48 => ?_)
  refine asg rfl ?_
  replace hmx := ((hmx.fr q45 (apl (by omega))).ext (q46.n1 q47)).fr q48 (apl (by omega))
  replace hXR := hXR.fr q48 (by intro k hk; simp at hk; omega)
  replace hmx : MotZ 88 91 (g11 + 1) w48 (slv (pqR (pqT (pqL pv cL AL kL) cT AT kT) cR AR kR).l) (slv (pqR (pqT (pqL pv cL AL kL) cT AT kT) cR AR kR).t) (slv (pqR (pqT (pqL pv cL AL kL) cT AT kT) cR AR kR).r) (pqR (pqT (pqL pv cL AL kL) cT AT kT) cR AR kR).p.mot := ⟨hmx.L, hmx.T, hXR.low (by omega), hmx.gL, hmx.gT, hgR⟩
  refine kpL [(2, _), (4, _), (5, _), (7, _), (8, _)] (.c5 rfl rfl rfl rfl rfl) (nn (sr (mv rfl (nt' rfl (nn ?_)))))
  refine cd rfl (fun c9 => ?_) (fun c9 => ?_)
  ·refine gt (gtt ?_)
   replace hb2 := ((((((((((hb2.ext (q34.n1 q35)).fr q36 (by simp[blks]<;>omega)).fr q37 (by simp[blks]<;>omega)).ext (q38.n1 q39)).fr q40 (by simp[blks]<;>omega)).fr q41 (by simp[blks]<;>omega)).ext (q42.n1 q43)).fr q44 (by simp[blks]<;>omega)).fr q45 (by simp[blks]<;>omega)).ext (q46.n1 q47)).fr q48 (by simp[blks]<;>omega)
   replace hb4 := ((((((((((hb4.ext (q34.n1 q35)).fr q36 (by simp[blks]<;>omega)).fr q37 (by simp[blks]<;>omega)).ext (q38.n1 q39)).fr q40 (by simp[blks]<;>omega)).fr q41 (by simp[blks]<;>omega)).ext (q42.n1 q43)).fr q44 (by simp[blks]<;>omega)).fr q45 (by simp[blks]<;>omega)).ext (q46.n1 q47)).fr q48 (by simp[blks]<;>omega)
   replace hb11 := (hb11.ext (q46.n1 q47)).fr q48 (by simp[blks]<;>omega)
   replace hoV := ((((((((((hoV.ext (q34.n1 q35)).fr q36 (nfl hoV (by omega))).fr q37 (nfl hoV (by omega))).ext (q38.n1 q39)).fr q40 (nfl hoV (by omega))).fr q41 (nfl hoV (by omega))).ext (q42.n1 q43)).fr q44 (nfl hoV (by omega))).fr q45 (nfl hoV (by omega))).ext (q46.n1 q47)).fr q48 (nfl hoV (by omega))
   replace hpx := ((((((((((hpx.ext (q34.n1 q35)).fr q36 (apl (by omega))).fr q37 (apl (by omega))).ext (q38.n1 q39)).fr q40 (apl (by omega))).fr q41 (apl (by omega))).ext (q42.n1 q43)).fr q44 (apl (by omega))).fr q45 (apl (by omega))).ext (q46.n1 q47)).fr q48 (apl (by omega))
   exact gtl (RdT.wrong, ⟨g4, g5, g11, s3, n3, nm, (.slice AV qs.length cV), qs, (pqR (pqT (pqL pv cL AL kL) cT AT kT) cR AR kR)⟩) (.c4 rfl rfl rfl rfl) ⟨(((((q30.z6 q34 q35 q36 q37 q38 q39).z1 q40).z1 q41).z6 q42 q43 q44 q45 q46 q47).sp q48), ⟨(by first|omega|simp<;>omega), (by first|omega|simp<;>omega), (by first|omega|simp<;>omega), (by first|omega|simp<;>omega)⟩, hb2, hb4, hb5, hb11, hoV, hpx, hmx, ⟨(rt_no hr3 hl93 (hbnR (by simpa using c9))), (by first|omega|simp<;>omega), trivial⟩⟩ (by simp only [rdMu, RdT.mu]; omega)
  have hbR := hbyR (by simpa using c9)
  refine sk (tn (sr (mv rfl ?_)))
  replace hb11 := (hb11.ext (q46.n1 q47)).fr q48 (by simp[blks]<;>omega)
  replace hG := hG0.ext (((((q30.z6 q34 q35 q36 q37 q38 q39).z1 q40).z1 q41).z6 q42 q43 q44 q45 q46 q47).sp q48)
  refine cl (ev1 rfl) co68 (pass_ok g11 n3 s3 _ hb11 hG (by omega) (by omega) (by omega)) rfl ?_
  rintro _ w49 ⟨rfl, hb11, q49⟩
  have z49 := q49.size
  obtain ⟨s4, hs4⟩ : ∃ x, x = (Lib.cut s3 [10]).2.1 := ⟨_, rfl⟩
  obtain ⟨n4, hn4⟩ : ∃ x, x = n3 + 1 := ⟨_, rfl⟩
  have hle4 := cut_less (look_ended hl93).1
  have hr4 := rt_yes hr3 hl93 hbR
  rw [← hs4] at hle4
  rw [← hs4, ← hn4] at hb11 hr4
  refine nn (sq (lb (tn (sr (fad rfl fa27_1 ?_)))))
  replace hb4 := (((((((((((hb4.ext (q34.n1 q35)).fr q36 (by simp[blks]<;>omega)).fr q37 (by simp[blks]<;>omega)).ext (q38.n1 q39)).fr q40 (by simp[blks]<;>omega)).fr q41 (by simp[blks]<;>omega)).ext (q42.n1 q43)).fr q44 (by simp[blks]<;>omega)).fr q45 (by simp[blks]<;>omega)).ext (q46.n1 q47)).fr q48 (by simp[blks]<;>omega)).fr q49 (by simp[blks]<;>omega)
  refine s_loadB rfl hb4 rfl na25 ?_
  replace hb5 := hb5.fr q49 (by simp[blks]<;>omega)
  refine s_loadBA rfl hb5 ag48 (s_bslice ([(pqR (pqT (pqL pv cL AL kL) cT AT kT) cR AR kR)]) (ev1 rfl) rfl rfl rfl el25 (Nat.le_of_ble_eq_true rfl) (fun g112 w50 hg112 ho112 q50 z50 => ?_))
  replace hpx := ((((((((((((hpx.ext (q34.n1 q35)).fr q36 (apl (by omega))).fr q37 (apl (by omega))).ext (q38.n1 q39)).fr q40 (apl (by omega))).fr q41 (apl (by omega))).ext (q42.n1 q43)).fr q44 (apl (by omega))).fr q45 (apl (by omega))).ext (q46.n1 q47)).fr q48 (apl (by omega))).fr q49 (apl (by omega))).ext q50
  replace hmx := (hmx.fr q49 (apl (by omega))).ext q50
  replace hb2 := ((((((((((((hb2.ext (q34.n1 q35)).fr q36 (by simp[blks]<;>omega)).fr q37 (by simp[blks]<;>omega)).ext (q38.n1 q39)).fr q40 (by simp[blks]<;>omega)).fr q41 (by simp[blks]<;>omega)).ext (q42.n1 q43)).fr q44 (by simp[blks]<;>omega)).fr q45 (by simp[blks]<;>omega)).ext (q46.n1 q47)).fr q48 (by simp[blks]<;>omega)).fr q49 (by simp[blks]<;>omega)).ext q50
  replace hb4 := hb4.ext q50
  replace hb5 := hb5.ext q50
  replace hb11 := hb11.ext q50
  replace hoV := ((((((((((((hoV.ext (q34.n1 q35)).fr q36 (nfl hoV (by omega))).fr q37 (nfl hoV (by omega))).ext (q38.n1 q39)).fr q40 (nfl hoV (by omega))).fr q41 (nfl hoV (by omega))).ext (q42.n1 q43)).fr q44 (nfl hoV (by omega))).fr q45 (nfl hoV (by omega))).ext (q46.n1 q47)).fr q48 (nfl hoV (by omega))).fr q49 (nfl hoV (by omega))).ext q50
  have hoo113 := hoV
  refine s_append rfl rfl hoV ho112.sl el25 (fun v113 w51 hoV q51 hor113 => ?_)
  have z51 := q51.size
  replace hpx := hpx.fr q51 (own_apart hoo113 (by decide) (by decide))
  replace hmx := hmx.fr q51 (own_apart hoo113 (by decide) (by decide))
  replace hb2 := hb2.fr q51 (fun hk => by have := (hoo113.blk _ hk).1; omega)
  replace hb4 := hb4.fr q51 (fun hk => by have := (hoo113.blk _ hk).1; omega)
  replace hb5 := hb5.fr q51 (fun hk => by have := (hoo113.blk _ hk).1; omega)
  replace hb11 := hb11.fr q51 (fun hk => by have := (hoo113.blk _ hk).1; omega)
  obtain ⟨AW, cW, rfl, _⟩ := hoV.sl.form
  refine fad rfl fa27_1 (s_storeB rfl rfl hb4 rfl sz25 (fun w52 hb4 q52 z52 => ?_))
  replace hb4 : Blk w52 g4 _ [_, _] := hb4
  refine kpL [(2, _), (4, _), (5, _), (8, _)] (.c4 rfl rfl rfl rfl) (nn (sq (gt (gtt ?_))))
  replace hb2 := hb2.fr q52 (by simp[blks]<;>omega)
  replace hb5 := hb5.fr q52 (by simp[blks]<;>omega)
  replace hb11 := hb11.fr q52 (by simp[blks]<;>omega)
  replace hoV := hoV.fr q52 (nfl hoV (by omega))
  replace hpx := hpx.fr q52 (apl (by omega))
  replace hmx := hmx.fr q52 (apl (by omega))
  exact gtl (RdT.pieces, ⟨g4, g5, g11, s4, n4, nm, (.slice AW (qs ++ [(pqR (pqT (pqL pv cL AL kL) cT AT kT) cR AR kR)]).length cW), qs ++ [(pqR (pqT (pqL pv cL AL kL) cT AT kT) cR AR kR)], (pqR (pqT (pqL pv cL AL kL) cT AT kT) cR AR kR)⟩) (.c4 rfl rfl rfl rfl) ⟨(((((((((q30.z6 q34 q35 q36 q37 q38 q39).z1 q40).z1 q41).z6 q42 q43 q44 q45 q46 q47).sp q48).sp q49).next q50).step q51 (fun k hk hlt => absurd (hoo113.blk k hk).1 (by omega))).sp q52), ⟨(by first|omega|simp<;>omega), (by first|omega|simp<;>omega), (by first|omega|simp<;>omega), (by first|omega|simp<;>omega)⟩, hb2, hb4, hb5, hb11, hoV, hpx.snoc hmx, hmx, ⟨(by simp only [pcs_snoc]; exact hr4), (by first|omega|simp<;>omega), (by simp only [pcs_snoc, List.length_append, List.length_singleton, pcs_len, List.length_nil]; omega)⟩⟩ (by simp only [rdMu, RdT.mu]; omega)
 ·refine ⟨_, rfl, ?_⟩
  have lt_hb2 := hb2.lt
  have lt_hb4 := hb4.lt
  have lt_hb5 := hb5.lt
  have lt_hb11 := hb11.lt
  obtain ⟨hr2, hbd, hqn⟩ := hrd
  replace hr2 : Rem s0 s n (nm, pcs qs, .tile q.p) := hr2
  replace hqn : (pcs qs).length + 2 ≤ n := hqn
  rw [pcs_len] at hqn
  obtain ⟨AV, cV, rfl, _⟩ := hoV.sl.form
  refine kpC [(2, .pointer (some ⟨g2, 0, none⟩)), (4, .pointer (some ⟨g4, 0, none⟩)), (5, .pointer (some ⟨g5, 0, none⟩)), (8, .pointer (some ⟨g11, 0, none⟩))] (.c4 rfl rfl rfl rfl) ?_
  refine sq (sk (tn (sq (sr (mv rfl ?_)))))
  replace hG := hG0.ext q30
  refine cl (ev2 rfl rfl) co66 (look_ok g11 _ _ wTile _ hb11 hG (by omega) (by decide)) rfl ?_
  rintro _ w53 ⟨b75, ok75, rfl, hly75, hln75, q53⟩
  have z53 := q53.size
  refine mv rfl (xt rfl rfl (xt rfl rfl (asg rfl (asg rfl (nn (sr (mv rfl (nt' rfl (nn ?_)))))))))
  refine cd rfl (fun c6 => ?_) (fun c6 => ?_)
  ·refine gt (gtt ?_)
   replace hb2 := hb2.ext q53
   replace hb4 := hb4.ext q53
   replace hb5 := hb5.ext q53
   replace hb11 := hb11.ext q53
   replace hoV := hoV.ext q53
   replace hpx := hpx.ext q53
   replace hmx := hmx.ext q53
   exact gtl (RdT.wrong, ⟨g4, g5, g11, s, n, nm, (.slice AV qs.length cV), qs, q⟩) (.c4 rfl rfl rfl rfl) ⟨(q30.n1 q53), ⟨(by first|omega|simp<;>omega), (by first|omega|simp<;>omega), (by first|omega|simp<;>omega), (by first|omega|simp<;>omega)⟩, hb2, hb4, hb5, hb11, hoV, hpx, hmx, ⟨(tl_no hr2 (.inl (hln75 (by simpa using c6)))), (by first|omega|simp<;>omega), trivial⟩⟩ (by simp only [rdMu, RdT.mu]; omega)
  have hl75 := hly75 (by simpa using c6)
  refine sk (tn (sq (sr (mv rfl ?_))))
  replace hG := hG0.ext (q30.n1 q53)
  refine cl (ev1 rfl) co70 (gblock_ok _ _ hG (by have := look_len hl75; omega)) rfl ?_
  rintro _ w54 ⟨XT, cT, okT, rfl, hXT, hgT, hbyT, hbnT, q54⟩
  have z54 := q54.size
  obtain ⟨AT, kT, rfl, _⟩ := hXT.form
  refine mv rfl (xt rfl rfl (xt rfl rfl (fad rfl fa48_1 (s_fad2 rfl fa46_1 ?_))))
  replace hb5 := hb5.ext (q53.n1 q54)
  refine s_storeBP (cs' := [_, _, _, _, _, _, _, _]) rfl rfl hb5 sz42 rfl (fun w55 hb5 q55 z55 => ?_)
  refine asg rfl ?_
  replace hmx := (hmx.ext (q53.n1 q54)).fr q55 (apl (by omega))
  replace hXT := hXT.fr q55 (by intro k hk; simp at hk; omega)
  replace hmx : MotZ 88 91 (g11 + 1) w55 (slv (pqT q cT AT kT).l) (slv (pqT q cT AT kT).t) (slv (pqT q cT AT kT).r) (pqT q cT AT kT).p.mot := ⟨hmx.L, hXT.low (by omega), hmx.R, hmx.gL, hgT, hmx.gR⟩
  refine kpL [(2, _), (4, _), (5, _), (7, _), (8, _)] (.c5 rfl rfl rfl rfl rfl) (nn (sr (mv rfl (nt' rfl (nn ?_)))))
  refine cd rfl (fun c7 => ?_) (fun c7 => ?_)
  ·refine gt (gtt ?_)
   replace hb2 := (hb2.ext (q53.n1 q54)).fr q55 (by simp[blks]<;>omega)
   replace hb4 := (hb4.ext (q53.n1 q54)).fr q55 (by simp[blks]<;>omega)
   replace hb11 := (hb11.ext (q53.n1 q54)).fr q55 (by simp[blks]<;>omega)
   replace hoV := (hoV.ext (q53.n1 q54)).fr q55 (nfl hoV (by omega))
   replace hpx := (hpx.ext (q53.n1 q54)).fr q55 (apl (by omega))
   exact gtl (RdT.wrong, ⟨g4, g5, g11, s, n, nm, (.slice AV qs.length cV), qs, (pqT q cT AT kT)⟩) (.c4 rfl rfl rfl rfl) ⟨(q30.z3 q53 q54 q55), ⟨(by first|omega|simp<;>omega), (by first|omega|simp<;>omega), (by first|omega|simp<;>omega), (by first|omega|simp<;>omega)⟩, hb2, hb4, hb5, hb11, hoV, hpx, hmx, ⟨(tl_no hr2 (.inr ⟨_, hl75, hbnT (by simpa using c7)⟩)), (by first|omega|simp<;>omega), trivial⟩⟩ (by simp only [rdMu, RdT.mu]; omega)
  have hbT := hbyT (by simpa using c7)
  refine sk (tn (sr (mv rfl ?_)))
  replace hb11 := (hb11.ext (q53.n1 q54)).fr q55 (by simp[blks]<;>omega)
  replace hG := hG0.ext (q30.z3 q53 q54 q55)
  refine cl (ev1 rfl) co68 (pass_ok g11 n s _ hb11 hG (by omega) (by omega) (by omega)) rfl ?_
  rintro _ w56 ⟨rfl, hb11, q56⟩
  have z56 := q56.size
  obtain ⟨s3, hs3⟩ : ∃ x, x = (Lib.cut s [10]).2.1 := ⟨_, rfl⟩
  obtain ⟨n3, hn3⟩ : ∃ x, x = n + 1 := ⟨_, rfl⟩
  have hle3 := cut_less (look_ended hl75).1
  have hr3 := tl_yes hr2 hl75 hbT
  rw [← hs3] at hle3
  rw [← hs3, ← hn3] at hb11 hr3
  refine nn (sq (sr (mv rfl ?_)))
  replace hG := hG0.ext (q30.z4 q53 q54 q55 q56)
  refine cl (ev2 rfl rfl) co66 (look_ok g11 _ _ wRight _ hb11 hG (by omega) (by decide)) rfl ?_
  rintro _ w57 ⟨b93, ok93, rfl, hly93, hln93, q57⟩
  have z57 := q57.size
  refine mv rfl (xt rfl rfl (xt rfl rfl (asg rfl (asg rfl (nn (sr (mv rfl (nt' rfl (nn ?_)))))))))
  refine cd rfl (fun c8 => ?_) (fun c8 => ?_)
  ·refine gt (gtt ?_)
   replace hb2 := (((hb2.ext (q53.n1 q54)).fr q55 (by simp[blks]<;>omega)).fr q56 (by simp[blks]<;>omega)).ext q57
   replace hb4 := (((hb4.ext (q53.n1 q54)).fr q55 (by simp[blks]<;>omega)).fr q56 (by simp[blks]<;>omega)).ext q57
   replace hb5 := (hb5.fr q56 (by simp[blks]<;>omega)).ext q57
   replace hb11 := hb11.ext q57
   replace hoV := (((hoV.ext (q53.n1 q54)).fr q55 (nfl hoV (by omega))).fr q56 (nfl hoV (by omega))).ext q57
   replace hpx := (((hpx.ext (q53.n1 q54)).fr q55 (apl (by omega))).fr q56 (apl (by omega))).ext q57
   replace hmx := (hmx.fr q56 (apl (by omega))).ext q57
   exact gtl (RdT.whole, ⟨g4, g5, g11, s3, n3, nm, (.slice AV qs.length cV), qs, (pqT q cT AT kT)⟩) (.c4 rfl rfl rfl rfl) ⟨(q30.z5 q53 q54 q55 q56 q57), ⟨(by first|omega|simp<;>omega), (by first|omega|simp<;>omega), (by first|omega|simp<;>omega), (by first|omega|simp<;>omega)⟩, hb2, hb4, hb5, hb11, hoV, hpx, hmx, ⟨rt_skip hr3 (hln93 (by simpa using c8)), (by first|omega|simp<;>omega), (by first|omega|simp [pcs_len]<;>omega)⟩⟩ (by simp only [rdMu, RdT.mu]; omega)
  have hl93 := hly93 (by simpa using c8)
  refine sk (tn (sq (sr (mv rfl ?_))))
  replace hG := hG0.ext (q30.z5 q53 q54 q55 q56 q57)
  refine cl (ev1 rfl) co70 (gblock_ok _ _ hG (by have := look_len hl93; omega)) rfl ?_
  rintro _ w58 ⟨XR, cR, okR, rfl, hXR, hgR, hbyR, hbnR, q58⟩
  have z58 := q58.size
  obtain ⟨AR, kR, rfl, _⟩ := hXR.form
  refine mv rfl (xt rfl rfl (xt rfl rfl (fad rfl fa48_1 (s_fad2 rfl fa46_2 ?_))))
  replace hb5 := (hb5.fr q56 (by simp[blks]<;>omega)).ext (q57.n1 q58)
  refine s_storeBP (cs' := [_, _, _, _, _, _, _, _]) rfl rfl hb5 sz42 rfl (fun w59 hb5 q59 z59 => ?_)
  refine asg rfl ?_
  replace hmx := ((hmx.fr q56 (apl (by omega))).ext (q57.n1 q58)).fr q59 (apl (by omega))
  replace hXR := hXR.fr q59 (by intro k hk; simp at hk; omega)
  replace hmx : MotZ 88 91 (g11 + 1) w59 (slv (pqR (pqT q cT AT kT) cR AR kR).l) (slv (pqR (pqT q cT AT kT) cR AR kR).t) (slv (pqR (pqT q cT AT kT) cR AR kR).r) (pqR (pqT q cT AT kT) cR AR kR).p.mot := ⟨hmx.L, hmx.T, hXR.low (by omega), hmx.gL, hmx.gT, hgR⟩
  refine kpL [(2, _), (4, _), (5, _), (7, _), (8, _)] (.c5 rfl rfl rfl rfl rfl) (nn (sr (mv rfl (nt' rfl (nn ?_)))))
  refine cd rfl (fun c9 => ?_) (fun c9 => ?_)
  ·refine gt (gtt ?_)
   replace hb2 := ((((hb2.ext (q53.n1 q54)).fr q55 (by simp[blks]<;>omega)).fr q56 (by simp[blks]<;>omega)).ext (q57.n1 q58)).fr q59 (by simp[blks]<;>omega)
   replace hb4 := ((((hb4.ext (q53.n1 q54)).fr q55 (by simp[blks]<;>omega)).fr q56 (by simp[blks]<;>omega)).ext (q57.n1 q58)).fr q59 (by simp[blks]<;>omega)
   replace hb11 := (hb11.ext (q57.n1 q58)).fr q59 (by simp[blks]<;>omega)
   replace hoV := ((((hoV.ext (q53.n1 q54)).fr q55 (nfl hoV (by omega))).fr q56 (nfl hoV (by omega))).ext (q57.n1 q58)).fr q59 (nfl hoV (by omega))
   replace hpx := ((((hpx.ext (q53.n1 q54)).fr q55 (apl (by omega))).fr q56 (apl (by omega))).ext (q57.n1 q58)).fr q59 (apl (by omega))
   exact gtl (RdT.wrong, ⟨g4, g5, g11, s3, n3, nm, (.slice AV qs.length cV), qs, (pqR (pqT q cT AT kT) cR AR kR)⟩) (.c4 rfl rfl rfl rfl) ⟨((q30.z6 q53 q54 q55 q56 q57 q58).z1 q59), ⟨(by first|omega|simp<;>omega), (by first|omega|simp<;>omega), (by first|omega|simp<;>omega), (by first|omega|simp<;>omega)⟩, hb2, hb4, hb5, hb11, hoV, hpx, hmx, ⟨(rt_no hr3 hl93 (hbnR (by simpa using c9))), (by first|omega|simp<;>omega), trivial⟩⟩ (by simp only [rdMu, RdT.mu]; omega)
  have hbR := hbyR (by simpa using c9)
  refine sk (tn (sr (mv rfl ?_)))
  replace hb11 := (hb11.ext (q57.n1 q58)).fr q59 (by simp[blks]<;>omega)
  replace hG := hG0.ext ((q30.z6 q53 q54 q55 q56 q57 q58).z1 q59)
  refine cl (ev1 rfl) co68 (pass_ok g11 n3 s3 _ hb11 hG (by omega) (by omega) (by omega)) rfl ?_
  rintro _ w60 ⟨rfl, hb11, q60⟩
  have z60 := q60.size
  obtain ⟨s4, hs4⟩ : ∃ x, x = (Lib.cut s3 [10]).2.1 := ⟨_, rfl⟩
  obtain ⟨n4, hn4⟩ : ∃ x, x = n3 + 1 := ⟨_, rfl⟩
  have hle4 := cut_less (look_ended hl93).1
  have hr4 := rt_yes hr3 hl93 hbR
  rw [← hs4] at hle4
  rw [← hs4, ← hn4] at hb11 hr4
  refine nn (sq (lb (tn (sr (fad rfl fa27_1 ?_)))))
  replace hb4 := (((((hb4.ext (q53.n1 q54)).fr q55 (by simp[blks]<;>omega)).fr q56 (by simp[blks]<;>omega)).ext (q57.n1 q58)).fr q59 (by simp[blks]<;>omega)).fr q60 (by simp[blks]<;>omega)
  refine s_loadB rfl hb4 rfl na25 ?_
  replace hb5 := hb5.fr q60 (by simp[blks]<;>omega)
  refine s_loadBA rfl hb5 ag48 (s_bslice ([(pqR (pqT q cT AT kT) cR AR kR)]) (ev1 rfl) rfl rfl rfl el25 (Nat.le_of_ble_eq_true rfl) (fun g112 w61 hg112 ho112 q61 z61 => ?_))
  replace hpx := ((((((hpx.ext (q53.n1 q54)).fr q55 (apl (by omega))).fr q56 (apl (by omega))).ext (q57.n1 q58)).fr q59 (apl (by omega))).fr q60 (apl (by omega))).ext q61
  replace hmx := (hmx.fr q60 (apl (by omega))).ext q61
  replace hb2 := ((((((hb2.ext (q53.n1 q54)).fr q55 (by simp[blks]<;>omega)).fr q56 (by simp[blks]<;>omega)).ext (q57.n1 q58)).fr q59 (by simp[blks]<;>omega)).fr q60 (by simp[blks]<;>omega)).ext q61
  replace hb4 := hb4.ext q61
  replace hb5 := hb5.ext q61
  replace hb11 := hb11.ext q61
  replace hoV := ((((((hoV.ext (q53.n1 q54)).fr q55 (nfl hoV (by omega))).fr q56 (nfl hoV (by omega))).ext (q57.n1 q58)).fr q59 (nfl hoV (by omega))).fr q60 (nfl hoV (by omega))).ext q61
  have hoo113 := hoV
  refine s_append rfl rfl hoV ho112.sl el25 (fun v113 w62 hoV q62 hor113 => ?_)
  have z62 := q62.size
  replace hpx := hpx.fr q62 (own_apart hoo113 (by decide) (by decide))
  replace hmx := hmx.fr q62 (own_apart hoo113 (by decide) (by decide))
  replace hb2 := hb2.fr q62 (fun hk => by have := (hoo113.blk _ hk).1; omega)
  replace hb4 := hb4.fr q62 (fun hk => by have := (hoo113.blk _ hk).1; omega)
  replace hb5 := hb5.fr q62 (fun hk => by have := (hoo113.blk _ hk).1; omega)
  replace hb11 := hb11.fr q62 (fun hk => by have := (hoo113.blk _ hk).1; omega)
  obtain ⟨AW, cW, rfl, _⟩ := hoV.sl.form
  refine fad rfl fa27_1 (s_storeB rfl rfl hb4 rfl sz25 (fun w63 hb4 q63 z63 => ?_))
  replace hb4 : Blk w63 g4 _ [_, _] := hb4
  refine kpL [(2, _), (4, _), (5, _), (8, _)] (.c4 rfl rfl rfl rfl) (nn (sq (gt (gtt ?_))))
  replace hb2 := hb2.fr q63 (by simp[blks]<;>omega)
  replace hb5 := hb5.fr q63 (by simp[blks]<;>omega)
  replace hb11 := hb11.fr q63 (by simp[blks]<;>omega)
  replace hoV := hoV.fr q63 (nfl hoV (by omega))
  replace hpx := hpx.fr q63 (apl (by omega))
  replace hmx := hmx.fr q63 (apl (by omega))
  exact gtl (RdT.pieces, ⟨g4, g5, g11, s4, n4, nm, (.slice AW (qs ++ [(pqR (pqT q cT AT kT) cR AR kR)]).length cW), qs ++ [(pqR (pqT q cT AT kT) cR AR kR)], (pqR (pqT q cT AT kT) cR AR kR)⟩) (.c4 rfl rfl rfl rfl) ⟨((((((q30.z6 q53 q54 q55 q56 q57 q58).z1 q59).z1 q60).n1 q61).step q62 (fun k hk hlt => absurd (hoo113.blk k hk).1 (by omega))).sp q63), ⟨(by first|omega|simp<;>omega), (by first|omega|simp<;>omega), (by first|omega|simp<;>omega), (by first|omega|simp<;>omega)⟩, hb2, hb4, hb5, hb11, hoV, hpx.snoc hmx, hmx, ⟨(by simp only [pcs_snoc]; exact hr4), (by first|omega|simp<;>omega), (by simp only [pcs_snoc, List.length_append, List.length_singleton, pcs_len, List.length_nil]; omega)⟩⟩ (by simp only [rdMu, RdT.mu]; omega)
 refine ⟨_, rfl, ?_⟩
 have lt_hb2 := hb2.lt
 have lt_hb4 := hb4.lt
 have lt_hb5 := hb5.lt
 have lt_hb11 := hb11.lt
 obtain ⟨hrW, hbd, hqn⟩ := hrd
 replace hrW : Rem s0 s n (nm, pcs qs ++ [q.p], .next) := hrW
 replace hqn : (pcs qs).length + 2 ≤ n := hqn
 rw [pcs_len] at hqn
 obtain ⟨AV, cV, rfl, _⟩ := hoV.sl.form
 refine kpC [(2, .pointer (some ⟨g2, 0, none⟩)), (4, .pointer (some ⟨g4, 0, none⟩)), (5, .pointer (some ⟨g5, 0, none⟩)), (8, .pointer (some ⟨g11, 0, none⟩))] (.c4 rfl rfl rfl rfl) ?_
 refine sq (sk (tn (sr (fad rfl fa27_1 (s_loadB rfl hb4 rfl na25 (s_loadBA rfl hb5 ag48 (s_bslice ([q]) (ev1 rfl) rfl rfl rfl el25 (Nat.le_of_ble_eq_true rfl) (fun g112 w64 hg112 ho112 q64 z64 => ?_))))))))
 replace hpx := hpx.ext q64
 replace hmx := hmx.ext q64
 replace hb2 := hb2.ext q64
 replace hb4 := hb4.ext q64
 replace hb5 := hb5.ext q64
 replace hb11 := hb11.ext q64
 replace hoV := hoV.ext q64
 have hoo113 := hoV
 refine s_append rfl rfl hoV ho112.sl el25 (fun v113 w65 hoV q65 hor113 => ?_)
 have z65 := q65.size
 replace hpx := hpx.fr q65 (own_apart hoo113 (by decide) (by decide))
 replace hmx := hmx.fr q65 (own_apart hoo113 (by decide) (by decide))
 replace hb2 := hb2.fr q65 (fun hk => by have := (hoo113.blk _ hk).1; omega)
 replace hb4 := hb4.fr q65 (fun hk => by have := (hoo113.blk _ hk).1; omega)
 replace hb5 := hb5.fr q65 (fun hk => by have := (hoo113.blk _ hk).1; omega)
 replace hb11 := hb11.fr q65 (fun hk => by have := (hoo113.blk _ hk).1; omega)
 obtain ⟨AW, cW, rfl, _⟩ := hoV.sl.form
 refine fad rfl fa27_1 (s_storeB rfl rfl hb4 rfl sz25 (fun w66 hb4 q66 z66 => ?_))
 replace hb4 : Blk w66 g4 _ [_, _] := hb4
 refine kpL [(2, _), (4, _), (5, _), (8, _)] (.c4 rfl rfl rfl rfl) (nn (sq (gt (gtt ?_))))
 replace hb2 := hb2.fr q66 (by simp[blks]<;>omega)
 replace hb5 := hb5.fr q66 (by simp[blks]<;>omega)
 replace hb11 := hb11.fr q66 (by simp[blks]<;>omega)
 replace hoV := hoV.fr q66 (nfl hoV (by omega))
 replace hpx := hpx.fr q66 (apl (by omega))
 replace hmx := hmx.fr q66 (apl (by omega))
 exact gtl (RdT.pieces, ⟨g4, g5, g11, s, n, nm, (.slice AW (qs ++ [q]).length cW), qs ++ [q], q⟩) (.c4 rfl rfl rfl rfl) ⟨(((q30.n1 q64).step q65 (fun k hk hlt => absurd (hoo113.blk k hk).1 (by omega))).z1 q66), ⟨(by first|omega|simp<;>omega), (by first|omega|simp<;>omega), (by first|omega|simp<;>omega), (by first|omega|simp<;>omega)⟩, hb2, hb4, hb5, hb11, hoV, hpx.snoc hmx, hmx, ⟨(by simp only [pcs_snoc]; exact hrW), hbd, (by simp only [pcs_snoc, List.length_append, List.length_singleton, pcs_len]; omega)⟩⟩ (by simp only [rdMu, RdT.mu]; omega)
end Go.Proofs.YthehggmdcmpjeaaGreatDoor
namespace Go.G14
open Go.Lw
theorem many_odd {n : Nat} (h : n = 1 ∨ n = 3 ∨ n = 5) : manyF n = n := by
 rcases h with rfl | rfl | rfl <;> decide
theorem blkF_len {B : SV → List UInt8} {wd : Int} {hs : List SV} {n : Nat} (h : n = 1 ∨ n = 3 ∨ n = 5) : (blkF B wd hs n).length = n := by
 have e : ((hs.take (min n hs.length) ++ List.replicate (n - min n hs.length) (none, 0, 0)).map B).length = n := by
  rw [List.length_map, List.length_append, List.length_take, List.length_replicate]; omega
 rw [blkF, chartF, chG_len, e, many_odd h]; omega
theorem motE_zero {m : Mot} {n : Nat} (hn : 1 ≤ n ∧ n ≤ 31) (hT : m.T.length = n) (hL : m.L.length = 0 ∨ m.L.length = n) (hR : m.R.length = 0 ∨ m.R.length = n) (gL : goodM m.L) (gT : goodM m.T) (gR : goodM m.R) : motE m = 0 := by
 have hlg : ∀ c : RowL, c.length ≤ 31 → goodM c → largeB c = false := fun c h1 h2 => by
  unfold largeB
  rw [Bool.or_eq_false_iff]
  refine ⟨decide_eq_false (by omega), ?_⟩
  rw [Bool.eq_false_iff]
  intro e
  obtain ⟨r, hr, h3⟩ := List.any_eq_true.1 e
  have := (h2 r hr).2.2
  have := of_decide_eq_true h3
  omega
 have hgd : ∀ c : RowL, goodM c → goodB c = true := fun c h => List.all_eq_true.2 fun r hr => (h r hr).2.1
 unfold motE
 rw [if_neg (by rw [hlg _ (by omega) gL, hlg _ (by omega) gT, hlg _ (by omega) gR]; simp), if_neg (by omega), if_neg (by rw [hgd _ gL, hgd _ gT, hgd _ gR]; exact fun h => h.elim (fun h => by omega) (fun h => by simp at h)), if_pos]
 exact List.all_eq_true.2 fun r hr => decide_eq_true (fun e => (gT r hr).1 (List.length_eq_zero_iff.1 e))
theorem motF_zero {B : SV → List UInt8} {H : SV → List SV} {q : QD} (gL : goodM (motF B H q).L) (gT : goodM (motF B H q).T) (gR : goodM (motF B H q).R) : motE (motF B H q) = 0 := by
 obtain ⟨n, hn⟩ : ∃ n, n = (1 + 2 * (q.ht % 3)).toNat := ⟨_, rfl⟩
 have h135 : n = 1 ∨ n = 3 ∨ n = 5 := by omega
 have eL : (motF B H q).L = if q.ed % 2 = 1 then blkF B q.lw (H q.l) n else [] := by rw [hn]; rfl
 have eR : (motF B H q).R = if q.ed / 2 % 2 = 1 then blkF B q.rw (H q.r) n else [] := by rw [hn]; rfl
 have eT : (motF B H q).T = blkF B q.tw (H q.t) n := by rw [hn]; rfl
 refine motE_zero (n := n) (by omega) (by rw [eT]; exact blkF_len h135) ?_ ?_ gL gT gR
 ·rw [eL]; split
  ·exact .inr (blkF_len h135)
  exact .inl rfl
 rw [eR]; split
 ·exact .inr (blkF_len h135)
 exact .inl rfl
theorem nmF_ok : ∀ k, k < 17 → 1 ≤ k → nameB ((([97, 98, 99, 100, 101, 102, 103, 104, 105, 106, 107, 108, 109, 110, 111, 112] : List UInt8)).take k) = true := by decide
theorem ofN_ok : ∀ j, j < 4 → nameB (ofN.getD j []) = true := by decide
theorem ofN_ne : ∀ i, i < 4 → ∀ k, k < i → ofN.getD i [] ≠ ofN.getD k [] := by decide
theorem mots_all : ∀ {ps : List Pc}, (∀ p ∈ ps, motE p.mot = 0) → motsE ps = 0
 | [], _ => rfl
 | p :: ps, h => by
  rw [motsE, if_neg (by have := h p (by simp); omega)]
  exact mots_all fun q hq => h q (by simp [hq])
theorem gar_valid {R0 T0 N : Nat} {w : World} {B : SV → List UInt8} {H : SV → List SV} {ys : List QD} {qs : List PQ} (nb : Int) (h : PcsO R0 T0 N w qs) (e : pcs qs = garF B H ys (manyG ys)) : garE (nmF nb) (pcs qs) = 0 := by
 have hl : (pcs qs).length = manyG ys := by rw [e, garF, List.length_map, List.length_range]
 have hm : 1 ≤ manyG ys ∧ manyG ys ≤ 4 := by unfold manyG; omega
 have hg : ∀ j, j < manyG ys → (pcs qs).getD j pc0 = pcF B H ys j := fun j hj => by
  rw [e, garF, List.getD, List.getElem?_map, List.getElem?_range hj]; rfl
 have hin : ∀ p ∈ pcs qs, ∃ j, j < manyG ys ∧ p = pcF B H ys j := fun p hp => by
  rw [e] at hp
  obtain ⟨j, hj, rfl⟩ := List.mem_map.1 hp
  exact ⟨j, List.mem_range.1 hj, rfl⟩
 unfold garE
 rw [if_neg (by omega), if_neg, if_neg, if_neg]
 ·refine mots_all fun p hp => ?_
  obtain ⟨q, hq, rfl⟩ := List.mem_map.1 hp
  obtain ⟨j, hj, ej⟩ := hin _ hp
  have g := h q hq
  have em : q.p.mot = motF B H (ys.getD j qd0) := by rw [ej]; rfl
  have a1 := g.gL; have a2 := g.gT; have a3 := g.gR
  rw [em] at a1 a2 a3 ⊢
  exact motF_zero a1 a2 a3
 ·intro hd
  unfold dupB at hd
  obtain ⟨i, hi, h2⟩ := List.any_eq_true.1 hd
  obtain ⟨k, hk, h3⟩ := List.any_eq_true.1 h2
  have hi' := List.mem_range.1 hi
  have hk' := List.mem_range.1 hk
  have h4 := of_decide_eq_true h3
  rw [hg i (by omega), hg k (by omega)] at h4
  exact ofN_ne i (by omega) k hk' h4
 ·rw [Bool.eq_false_iff]
  intro hc
  apply hc
  refine List.all_eq_true.2 fun p hp => ?_
  obtain ⟨j, hj, rfl⟩ := hin p hp
  unfold rightB
  rw [Bool.and_eq_true, decide_eq_true_eq]
  exact ⟨ofN_ok j (by omega), by simp only [pcF]; omega⟩
 rintro (h0 | h0)
 ·omega
 have := nmF_ok (1 + nb % 16).toNat (by omega) (by omega)
 rw [show nameB (nmF nb) = true from this] at h0; cases h0
def ParseR (s0 nm : List UInt8) (V : Value) (qs : List PQ) (n e : Int) : Prop :=
  (readG s0 = (some (nm, pcs qs), 0) ∧ garE nm (pcs qs) = 0 ∧ n = 0 ∧ e = 0 ∧ ∃ A, V = .slice A qs.length qs.length) ∨
  ((readG s0).1 = none ∧ n = (readG s0).2 ∧ 1 ≤ n ∧ e = 4 ∧ nm = [] ∧ qs = []) ∨
  ((∃ nm' ps, readG s0 = (some (nm', ps), 0) ∧ e = garE nm' ps ∧ e ≠ 0) ∧ n = 0 ∧ nm = [] ∧ qs = [])
theorem mots_ne4 : ∀ ps : List Pc, motsE ps ≠ 4
 | [] => by decide
 | p :: ps => by
  rw [motsE]
  split
  ·unfold motE; split; decide; split; decide; split; decide; split <;> decide
  exact mots_ne4 ps
theorem gar_ne4 (nm : List UInt8) (ps : List Pc) : garE nm ps ≠ 4 := by
 unfold garE
 split; decide; split; decide; split; decide; split; decide; exact mots_ne4 ps
theorem gparse_text {nm : List UInt8} {ps : List Pc} (h : garE nm ps = 0) {nm' : List UInt8} {V : Value} {qs : List PQ} {n e : Int} (hp : ParseR (textG nm ps) nm' V qs n e) : nm' = nm ∧ pcs qs = ps ∧ n = 0 ∧ e = 0 ∧ ∃ A, V = .slice A qs.length qs.length := by
 have hr := read_text h
 rcases hp with ⟨h1, h2, h3, h4, h5⟩ | ⟨h1, -⟩ | ⟨⟨a, b, h1, h2, h3⟩, -⟩
 ·rw [hr] at h1
  simp only [Prod.mk.injEq, Option.some.injEq, and_true] at h1
  exact ⟨h1.1.symm, h1.2.symm, h3, h4, h5⟩
 ·rw [hr] at h1; cases h1
 rw [hr] at h1
 simp only [Prod.mk.injEq, Option.some.injEq, and_true] at h1
 exact absurd (by rw [h2, ← h1.1, ← h1.2]; exact h) h3
theorem text_le {nm : List UInt8} {ps : List Pc} (h : garE nm ps = 0) : (textG nm ps).length ≤ 170000 := by
 rw [← gT_all]; exact gT_le h _
end Go.G14
namespace Go.Proofs.YthehggmdcmpjeaaGreatDoor
open Go.Lw Go.G14
theorem co35 : CallOf Tryz.prog 35 := mkC Tryz.func35
theorem co36 : CallOf Tryz.prog 36 := mkC Tryz.func36
set_option maxHeartbeats 1000000 in
theorem gparse_ok (s0 : List UInt8) (w0 : World) (hG : GlobZ w0) (hs0 : s0.length ≤ 1000000) : Rets Tryz.prog 15 #[S s0] w0 fun r w' => ∃ nm V qs n e, r = .tuple #[.agg #[S nm, V], .int .i64 n, .int .i64 e] ∧ Lw.Own encPq 48 w0.heap.size w' V qs ∧ PcsX 88 91 w0.heap.size w' qs ∧ ParseR s0 nm V qs n e ∧ Fr [] w0 w' := by
 have hGs := hG.sz
 refine we [(0, S s0)] Tryz.func15 rfl Tryz.ntmps15 rfl (.cons rfl .nil) ?_
 have hG0 := hG
 refine sr (al zv27 rfl rfl (fun g2 w1 hg2 hb2 q1 z1 => ?_))
 refine asg rfl (asg rfl (nn (sr (mv rfl ?_))))
 replace hG := hG0.ext q1
 refine cl (ev1 rfl) co35 (gread_ok _ _ hG (by omega)) rfl ?_
 rintro _ w2 ⟨nm, V, qs, nr, rfl, hoV, hpx, hrr, q2⟩
 have z2 := q2.size
 have hoV0 := hoV
 have hpx0 := hpx
 obtain ⟨AV, cV, rfl, hcV⟩ := hoV.sl.form
 refine mv rfl (xt rfl rfl (xt rfl rfl (al zv27 rfl rfl (fun g5 w3 hg5 hb5 q3 z3 => ?_))))
 refine s_storeBA (vs := [_, _]) rfl rfl hb5 (by rfl) sz27 (fun w4 hb5 q4 z4 => ?_)
 refine asg rfl (kpL [(2, _), (5, _), (6, _)] (.c3 rfl rfl rfl) (nn (sq (sr (mv rfl (ne' rfl rfl (nn ?_)))))))
 refine cd rfl (fun c0 => ?_) (fun c0 => ?_)
 ·have hr2 := hrr.resolve_left (fun h => c0 h.2)
  refine sr (s_lit (cs := [_, _]) evs_nil bo27 pok_nil rfl ?_)
  refine mv rfl ?_
  replace hb2 := (hb2.ext (q2.n1 q3)).fr q4 (by simp[blks]<;>omega)
  refine s_storeBA (vs := [_, _]) rfl rfl hb2 (by rfl) sz27 (fun w5 hb2 q5 z5 => ?_)
  refine asg rfl (asg rfl (nn (rt (tr (rCTT Tryz.results15 rfl hb2 ag27 rfl rfl ?_)))))
  exact ⟨_, rfl, [], .slice none 0 0, [], nr, 4, rfl, Own.nil _, PcsX.nil, .inr (.inl ⟨hr2.1, hr2.2.1, hr2.2.2.1, rfl, rfl, rfl⟩), (q1.z4 q2 q3 q4 q5)⟩
 have hr1 := hrr.resolve_right (fun h => by have := h.2.2.1; omega)
 refine sk (tn (sq (sr (s_loadBA rfl hb5 ag27 ?_))))
 replace hoV := hoV0.fr ((Fr.refl [g2] _).z2 q3 q4) (by intro k hk hb; simp at hk; subst hk; have := (hoV0.blk _ hb).1; omega)
 replace hpx := hpx0.fr ((Fr.refl [g2] _).z2 q3 q4) (by intro k hk; simp at hk; omega)
 refine cl (ev1 rfl) co23 (gcheck_ok nm _ qs _ hoV.sl hpx.q) rfl ?_
 rintro _ w6 ⟨rfl, q6⟩
 have z6 := q6.size
 refine asg rfl (nn (sr (mv rfl (ne' rfl rfl (nn ?_)))))
 refine cd rfl (fun c1 => ?_) (fun c1 => ?_)
 ·refine sr (s_lit (cs := [_, _]) evs_nil bo27 pok_nil rfl ?_)
  refine mv rfl ?_
  replace hb2 := ((hb2.ext (q2.n1 q3)).fr q4 (by simp[blks]<;>omega)).ext q6
  refine s_storeBA (vs := [_, _]) rfl rfl hb2 (by rfl) sz27 (fun w7 hb2 q7 z7 => ?_)
  refine asg rfl (asg rfl (nn (rt (tr (rCTT Tryz.results15 rfl hb2 ag27 rfl rfl ?_)))))
  exact ⟨_, rfl, [], .slice none 0 0, [], 0, (garE nm (pcs qs)), rfl, Own.nil _, PcsX.nil, .inr (.inr ⟨⟨nm, pcs qs, hr1.1, rfl, c1⟩, rfl, rfl, rfl⟩), (q1.z5 q2 q3 q4 q6 q7)⟩
 refine sk (tn (sr (fad rfl fa27_1 ?_)))
 replace hb5 := hb5.ext q6
 refine s_loadB rfl hb5 rfl na25 ?_
 refine cl (ev1 rfl) co36 (clipp_ok AV _ cV _ hcV) rfl ?_
 rintro _ _ ⟨rfl, rfl⟩
 refine fad rfl fa27_1 (s_storeB rfl rfl hb5 rfl sz25 (fun w8 hb5 q8 z8 => ?_))
 replace hb5 : Blk w8 g5 _ [_, _] := hb5
 refine kpL [(2, _), (5, _)] (.c2 rfl rfl) (nn (sr (s_loadBA rfl hb5 ag27 ?_)))
 replace hb2 := (((hb2.ext (q2.n1 q3)).fr q4 (by simp[blks]<;>omega)).ext q6).fr q8 (by simp[blks]<;>omega)
 refine s_storeBA (vs := [_, _]) rfl rfl hb2 (by rfl) sz27 (fun w9 hb2 q9 z9 => ?_)
 refine asg rfl (asg rfl (nn (rt (rCTT Tryz.results15 rfl hb2 ag27 rfl rfl ?_))))
 replace hoV := hoV0.fr ((Fr.refl [g2] _).z5 q3 q4 q6 q8 q9) (by intro k hk hb; simp at hk; subst hk; have := (hoV0.blk _ hb).1; omega)
 replace hpx := hpx0.fr ((Fr.refl [g2] _).z5 q3 q4 q6 q8 q9) (by intro k hk; simp at hk; omega)
 have hoC := hoV.take rfl (m := qs.length) (Nat.le_refl _) hcV (Nat.le_refl _)
 rw [List.take_length] at hoC
 exact ⟨_, rfl, nm, _, qs, 0, 0, rfl, hoC.low (by omega), hpx.low (by omega), .inl ⟨hr1.1, Classical.not_not.1 c1, rfl, rfl, ⟨_, rfl⟩⟩, (q1.z6 q2 q3 q4 q6 q8 q9)⟩
end Go.Proofs.YthehggmdcmpjeaaGreatDoor
namespace Go.Proofs.YthehggmdcmpjeaaGreatDoor
open Go.Lw Go.G14
theorem co15 : CallOf Tryz.prog 15 := mkC Tryz.func15
end Go.Proofs.YthehggmdcmpjeaaGreatDoor
