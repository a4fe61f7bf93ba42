/- Texts of the proof, joined: V14 XLive V15 V16 -/
import Derived.Test.YthehggmdcmpjeaaDoorRows
import Derived.Test.YthehggmdcmpjeaaDoorA5
set_option linter.unusedVariables false
set_option linter.unusedSimpArgs false
namespace Go.Proofs.YthehggmdcmpjeaaDoor
open Go.Lw Go.G14
theorem el118 : ElemOf Tryd.prog 118 87 Enc.u8 1 := ElemOf.mk' (z := (.int .u8 0)) Tryd.underlying118 (by kernel_rfl) rfl
theorem sz49 : SizeOf Tryd.prog 49 3 := fun _ => by kernel_rfl
theorem zv49 (w : World) : (zeroValue 49).run Tryd.prog w = .ok (.agg #[(.slice none 0 0), (.slice none 0 0), (.slice none 0 0)]) w := by kernel_rfl
set_option maxHeartbeats 1000000 in
theorem lsmall_ok (nm : List UInt8) (v : Value) (qs : List PQ) (w0 : World) (hs : Sl encPq w0 v qs) (hq : PcsQ w0 qs) : Rets Tryd.prog 6 #[.agg #[S nm, v]] w0 fun r w' => ∃ n : Int, r = .int .i64 n ∧ Fr [] w0 w' := by
 obtain ⟨A, c, rfl, hcc, hM, hA⟩ := id hs
 clear hA
 unfold maxLen at hM
 refine we [(0, .agg #[S nm, .slice A qs.length c])] Tryd.func6 rfl Tryd.ntmps6 rfl (.cons rfl .nil) ?_
 have hs0 := hs
 have hq0 := hq
 refine sr (bx rfl rfl rfl (fun g1 w1 hg1 hb1 q1 z1 => ?_))
 refine asg rfl rfl (nn (sq (sq ?_)))
 refine rbo (r := 17) (L' := [(1, _)]) (((10 < (qs.length : Int)) ∨ (100 < (nm.length : Int)))) (.cons rfl .nil) ?_ ?_
 · refine fad rfl fa24_1 rfl (s_loadB rfl hb1 rfl na22 rfl (lnS rfl Tryd.underlying22 rfl (gt' rfl rfl rfl (mv rfl rfl ?_))))
   refine gs 12 rfl (fun g0 => ?_) (fun g0 => ?_)
   · exact gN rfl rfl rfl (gN rfl rfl rfl (gN rfl rfl rfl (gN rfl rfl rfl (pkt rfl rfl rfl rfl (rbe rfl (by first | exact bt (by omega) | exact bf (by omega) | exact bi (by omega) | exact bn (by omega) | (simp_all; done) | (simp_all; omega)) (.cons rfl .nil))))))
   · exact gY rfl (fad rfl fa24_0 rfl (gY rfl (s_loadB rfl hb1 rfl na9 rfl (gY rfl (ln rfl Tryd.underlying9 rfl (gY rfl (gt' rfl rfl rfl (pkf rfl rfl rfl rfl (rbe rfl (by first | exact bt (by omega) | exact bf (by omega) | exact bi (by omega) | exact bn (by omega) | (simp_all; done) | (simp_all; omega)) (.cons rfl .nil))))))))))
 · refine tn ?_
   refine cd rfl (fun c0 => ?_) (fun c0 => ?_)
   · refine sr (asg rfl rfl (nn (rt (tr (r1 Tryd.results6 rfl ?_)))))
     exact ⟨_, rfl, _, rfl, q1⟩
   · refine sk (tn (sq (sr (asg rfl rfl (nn (bl ?_))))))
     refine lpK (ι := Nat) [(1, _)] (fun i => [(3, .int .i64 (i : Int))]) (fun i w' => Fr [] w1 w' ∧ i ≤ qs.length) (fun i => qs.length - i) 0 (.cons rfl (.cons rfl .nil)) ⟨Fr.refl _ _, Nat.zero_le _⟩ ?_
     rintro i w2 ⟨q2, hi⟩
     have z2 := q2.size
     refine kpC [(1, _), (3, _)] (.cons rfl (.cons rfl .nil)) ?_
     refine sq (sr (mv rfl rfl (fad rfl fa24_1 rfl ?_)))
     replace hb1 := hb1.ext q2
     refine s_loadB rfl hb1 rfl na22 rfl (lnS rfl Tryd.underlying22 rfl (lt' rfl rfl rfl (nn ?_)))
     refine cd rfl (fun c1 => ?_) (fun c1 => ?_)
     · refine sk (tn (sq (bl (sr (fad rfl fa24_1 rfl (s_loadB rfl hb1 rfl na22 rfl (mv rfl rfl ?_)))))))
       replace hs := hs0.ext (q1.next q2)
       refine s_idxL (pq0) rfl hs rfl el22 (by omega) (by omega) nat_of rfl (fun ad28 hc28 => ?_)
       refine fad rfl fa51_1 rfl (s_loadA rfl (cells_part (vs := [_, _, _]) (hc28 _ hs) rfl) ag49 rfl (al zv49 rfl rfl (fun g4 w3 hg4 hb4 q3 z3 => ?_)))
       refine s_storeBA rfl rfl hb4 rfl (by first | (simp [Value.oneCell', S]; done) | exact Enc.one _ _) sz49 (fun w4 hb4 q4 z4 => ?_)
       refine kpL [(1, _), (3, _), (4, _)] (.cons rfl (.cons rfl (.cons rfl .nil))) (nn (sr (fad rfl fa49_0 rfl (s_loadBP (vs := [_]) rfl hb4 ag47 rfl rfl (fad rfl fa49_1 rfl (s_loadBP (vs := [_]) rfl hb4 ag47 rfl rfl (fad rfl fa49_2 rfl (s_loadBP (vs := [_]) rfl hb4 ag47 rfl rfl (s_lit (cs := [_, _, _]) (ev3 rfl rfl rfl) bo60 (pok_cons rfl rfl rfl (pok_cons rfl rfl rfl (pok_cons rfl rfl rfl pok_nil))) rfl rfl ?_)))))))))
       refine al zv60 rfl rfl (fun g5 w5 hg5 hb5 q5 z5 => ?_)
       refine s_storeBA rfl rfl hb5 rfl (by first | (simp [Value.oneCell', S]; done) | exact Enc.one _ _) sz60 (fun w6 hb5 q6 z6 => ?_)
       refine kpL [(1, _), (3, _), (5, _)] (.cons rfl (.cons rfl (.cons rfl .nil))) (nn (sr (asg rfl rfl (nn (bl ?_)))))
       refine lpK (ι := Nat) [(1, _), (3, _), (5, _)] (fun k => [(6, .int .i64 (k : Int))]) (fun k w' => Fr [] w6 w' ∧ k ≤ 3) (fun k => 3 - k) 0 (.cons rfl (.cons rfl (.cons rfl (.cons rfl .nil)))) ⟨Fr.refl _ _, Nat.zero_le _⟩ ?_
       rintro k w7 ⟨q7, hk⟩
       have z7 := q7.size
       refine kpC [(1, _), (3, _), (5, _), (6, _)] (.cons rfl (.cons rfl (.cons rfl (.cons rfl .nil)))) ?_
       refine sq (sr (mv rfl rfl (lt' rfl rfl rfl (nn ?_))))
       refine cd rfl (fun c2 => ?_) (fun c2 => ?_)
       · replace hq := hq0.ext ((((((q1.next q2).next q3).step q4 (by first | (simp; done) | (simp; omega))).next q5).step q6 (by first | (simp; done) | (simp; omega))).next q7)
         obtain ⟨rws, hrw⟩ := mot_k (hq.at (show i < qs.length by omega)) k
         obtain ⟨rs, hrs, hqr, hrm⟩ := Sll.opn hrw
         have hrl := sl_len hrs
         have hrs0 := hrs
         have hqr0 := hqr
         refine sk (tn (sq (bl (sq (sq ?_)))))
         refine rbo (r := 57) (L' := [(1, _), (3, _), (5, _), (6, _)]) (((40 < ((b3 (qs.getD i pq0).l (qs.getD i pq0).t (qs.getD i pq0).r k).2.1 : Int)) ∨ (100 < ((qs.getD i pq0).p.nm.length : Int)))) (.cons rfl (.cons rfl (.cons rfl (.cons rfl .nil)))) ?_ ?_
         · refine mv rfl rfl (s_idxA rfl rfl Tryd.underlying60 sz47 (by omega) (by omega) rfl (s_fad2 rfl fa47_0 rfl ?_))
           replace hb5 := hb5.ext q7
           refine s_loadB rfl hb5 (b3_cell _ _ _ (by omega)) na45 rfl (lnS rfl Tryd.underlying45 rfl (gt' rfl rfl rfl (mv rfl rfl ?_)))
           refine gs 48 rfl (fun g1 => ?_) (fun g1 => ?_)
           · exact gN rfl rfl rfl (gN rfl rfl rfl (gN rfl rfl rfl (gN rfl rfl rfl (gN rfl rfl rfl (gN rfl rfl rfl (gN rfl rfl rfl (gN rfl rfl rfl (pkt rfl rfl rfl rfl (rbe rfl (by first | exact bt (by omega) | exact bf (by omega) | exact bi (by omega) | exact bn (by omega) | (simp_all; done) | (simp_all; omega)) (.cons rfl (.cons rfl (.cons rfl (.cons rfl .nil)))))))))))))
           · refine gY rfl (fad rfl fa24_1 rfl (gY rfl ?_))
             replace hb1 := ((((hb1.ext q3).fr q4 (by first | (simp; done) | (simp; omega) | (simp [blks]; done) | (simp [blks]; omega))).ext q5).fr q6 (by first | (simp; done) | (simp; omega) | (simp [blks]; done) | (simp [blks]; omega))).ext q7
             refine s_loadB rfl hb1 rfl na22 rfl (gY rfl (mv rfl rfl (gY rfl ?_)))
             replace hs := hs0.ext ((((((q1.next q2).next q3).step q4 (by first | (simp; done) | (simp; omega))).next q5).step q6 (by first | (simp; done) | (simp; omega))).next q7)
             refine s_idxL (pq0) rfl hs rfl el22 (by omega) (by omega) nat_of rfl (fun ad52 hc52 => ?_)
             exact gY rfl (fad rfl fa51_0 rfl (gY rfl (s_loadC rfl (hc52 _ hs) rfl na9 rfl (gY rfl (ln rfl Tryd.underlying9 rfl (gY rfl (gt' rfl rfl rfl (pkf rfl rfl rfl rfl (rbe rfl (by first | exact bt (by omega) | exact bf (by omega) | exact bi (by omega) | exact bn (by omega) | (simp_all; done) | (simp_all; omega)) (.cons rfl (.cons rfl (.cons rfl (.cons rfl .nil)))))))))))))
         · refine tn ?_
           refine cd rfl (fun c3 => ?_) (fun c3 => ?_)
           · refine sr (asg rfl rfl (nn (rt (tr (rb (tr (tr (rb (rb (tr (tr ?_)))))))))))
             refine rb (tr (r1 Tryd.results6 rfl ?_))
             exact ⟨_, rfl, _, rfl, ((((((q1.next q2).next q3).step q4 (by first | (simp; done) | (simp; omega))).next q5).step q6 (by first | (simp; done) | (simp; omega))).next q7)⟩
           · refine sk (tn (sr (asg rfl rfl (nn (bl ?_)))))
             refine lpK (ι := Nat) [(1, _), (3, _), (5, _), (6, _)] (fun j => [(7, .int .i64 (j : Int))]) (fun j w' => Fr [] w7 w' ∧ j ≤ rs.length) (fun j => rs.length - j) 0 (.cons rfl (.cons rfl (.cons rfl (.cons rfl (.cons rfl .nil))))) ⟨Fr.refl _ _, Nat.zero_le _⟩ ?_
             rintro j w8 ⟨q8, hj⟩
             have z8 := q8.size
             refine kpC [(1, _), (3, _), (5, _), (6, _), (7, _)] (.cons rfl (.cons rfl (.cons rfl (.cons rfl (.cons rfl .nil))))) ?_
             refine sq (sr (mv rfl rfl (mv rfl rfl (s_idxA rfl rfl Tryd.underlying60 sz47 (by omega) (by omega) rfl (s_fad2 rfl fa47_0 rfl ?_)))))
             replace hb5 := hb5.ext (q7.next q8)
             refine s_loadB rfl hb5 (b3_cell _ _ _ (by omega)) na45 rfl (lnS rfl Tryd.underlying45 rfl (lt' rfl rfl rfl (kpL [(1, _), (3, _), (5, _), (6, _), (7, _), (64, _)] (.cons rfl (.cons rfl (.cons rfl (.cons rfl (.cons rfl (.cons rfl .nil)))))) (nn ?_))))
             refine cd rfl (fun c4 => ?_) (fun c4 => ?_)
             · refine sk (tn (sq (bl (sr (mv rfl rfl (s_idxA rfl rfl Tryd.underlying60 sz47 (by omega) (by omega) rfl (s_fad2 rfl fa47_0 rfl (s_loadB rfl hb5 (b3_cell _ _ _ (by omega)) na45 rfl (mv rfl rfl ?_)))))))))
               replace hrs := hrs0.ext q8
               refine s_idxL (rq0) rfl hrs rfl er45 (by omega) (by omega) nat_of rfl (fun ad72 hc72 => ?_)
               refine s_loadC0 rfl (hc72 _ hrs) na61 rfl (lnS rfl Tryd.underlying61 rfl (gt' rfl rfl rfl (kpL [(1, _), (3, _), (5, _), (6, _), (7, _), (75, _)] (.cons rfl (.cons rfl (.cons rfl (.cons rfl (.cons rfl (.cons rfl .nil)))))) (nn ?_))))
               refine cd rfl (fun c5 => ?_) (fun c5 => ?_)
               · refine sr (asg rfl rfl (kpL [(2, _)] (.cons rfl .nil) (nn (rt (rb (tr (tr (rb (rb (tr (tr ?_)))))))))))
                 refine rb (rb (tr (tr (rb (tr (r1 Tryd.results6 rfl ?_))))))
                 exact ⟨_, rfl, _, rfl, (((((((q1.next q2).next q3).step q4 (by first | (simp; done) | (simp; omega))).next q5).step q6 (by first | (simp; done) | (simp; omega))).next q7).next q8)⟩
               · refine sk (bn' (tn (rg (mv rfl rfl (s_add rfl rfl (wi6 (by omega)) rfl (asg rfl rfl (nl ?_)))))))
                 exact lpE (j + 1) (.cons rfl (.cons rfl (.cons rfl (.cons rfl (.cons rfl .nil))))) ⟨q8, by omega⟩ (by omega)
             · obtain rfl : j = rs.length := by omega
               refine ex (te (te (xh (bn' (tn (rg (mv rfl rfl (s_add rfl rfl (wi6 (by omega)) rfl (asg rfl rfl (nl ?_))))))))))
               exact lpE (k + 1) (.cons rfl (.cons rfl (.cons rfl (.cons rfl .nil)))) ⟨(q7.next q8), by omega⟩ (by omega)
       · obtain rfl : k = 3 := by omega
         refine ex (te (te (xh (bn' (tn (rg (mv rfl rfl (s_add rfl rfl (wi6 (by omega)) rfl (asg rfl rfl (nl ?_))))))))))
         exact lpE (i + 1) (.cons rfl (.cons rfl .nil)) ⟨(((((q2.next q3).step q4 (by first | (simp; done) | (simp; omega))).next q5).step q6 (by first | (simp; done) | (simp; omega))).next q7), by omega⟩ (by omega)
     · obtain rfl : i = qs.length := by omega
       refine ex (te (te (xh (tn (sr (asg rfl rfl (nn (rt (r1 Tryd.results6 rfl ?_)))))))))
       exact ⟨_, rfl, _, rfl, (q1.next q2)⟩
theorem words_ok (v : Value) (ks : List Int) (w0 : World) (hs : Sl Enc.u8 w0 v ks) (hl : ks.length ≤ 100) : Rets Tryd.prog 35 #[v] w0 fun r w' => ∃ X, r = .agg #[X] ∧ OwR 61 100 w0.heap.size w' X [ks.map wrdS] ∧ Fr [] w0 w' := by
 obtain ⟨A, c, rfl, hcc, hM, hA⟩ := id hs
 clear hA
 unfold maxLen at hM
 refine we [(0, .slice A ks.length c)] Tryd.func35 rfl Tryd.ntmps35 rfl (.cons rfl .nil) ?_
 have hs0 := hs
 refine sr (al zv47 rfl rfl (fun g2 w1 hg2 hb2 q1 z1 => ?_))
 refine nn (sr (asg rfl rfl (nn (sq (sr (asg rfl rfl (nn (bl ?_))))))))
 skip
 have hb20 := hb2
 skip
 refine lpK (ι := Nat × Value) [(0, _), (2, _)] (fun p => [(4, .int .i64 (p.1 : Int)), (3, p.2)]) (fun p w' => Fr [] w1 w' ∧ p.1 ≤ ks.length ∧ Lw.Own encSt 100 (g2 + 1) w' p.2 ((ks.take p.1).map wrdS)) (fun p => ks.length - p.1) (0, .slice none 0 0) (.cons rfl (.cons rfl (.cons rfl (.cons rfl .nil)))) ⟨(Fr.refl _ _), ⟨Nat.zero_le _, Own.nil _⟩⟩ ?_
 rintro ⟨i, vR⟩ w2 ⟨q2, ⟨hi, hoR⟩⟩
 simp only at hi hoR
 have z2 := q2.size
 refine kpC [(0, _), (2, _), (4, .int .i64 (i : Int)), (3, vR)] (.cons rfl (.cons rfl (.cons rfl (.cons rfl .nil)))) ?_
 refine sq (sr (mv rfl rfl (mv rfl rfl (lnS rfl Tryd.underlying118 rfl (lt' rfl rfl rfl (nn ?_))))))
 refine cd rfl (fun c0 => ?_) (fun c0 => ?_)
 · refine sk (tn (sq (bl (rg (mv rfl rfl (mv rfl rfl (mv rfl rfl ?_)))))))
   replace hs := hs0.ext (q1.next q2)
   refine s_idxL (0) rfl hs rfl el118 (by omega) (by omega) nat_of rfl (fun ad14 hc14 => ?_)
   refine s_loadC0 rfl (hc14 _ hs) na87 rfl (s_lit (cs := [_, _, _, _, _]) (ev2 rfl rfl) bo100 (pok_cons rfl rfl rfl (pok_cons rfl rfl rfl pok_nil)) rfl rfl ?_)
   refine s_bslice ([wrdS (ks.getD i 0)]) (ev1 rfl) rfl rfl rfl el61 (Nat.le_of_ble_eq_true rfl) rfl (fun g17 w3 hg17 ho17 q3 z3 => ?_)
   replace hoR := hoR.ext q3
   have hoo18 := hoR
   refine s_append rfl rfl hoR ho17.sl el61 (by unfold maxLen; simp only [List.length_map, List.length_take, List.length_cons, List.length_nil]; omega) (by simp only [List.length_map, List.length_take, List.length_cons, List.length_nil]; omega) (by omega) rfl (fun v18 w4 hoR q4 hor18 => ?_)
   have z4 := q4.size
   refine asg rfl rfl (kpL [(0, _), (2, _), (3, _), (4, _)] (.cons rfl (.cons rfl (.cons rfl (.cons rfl .nil)))) (nl (bn' (tn (rg (mv rfl rfl (s_add rfl rfl (wi6 (by omega)) rfl (asg rfl rfl (nl ?_)))))))))
   exact lpE ((i + 1, v18)) (.cons rfl (.cons rfl (.cons rfl (.cons rfl .nil)))) ⟨((q2.next q3).step q4 (fun k hk hlt => absurd (hoo18.blk k hk).1 (by omega))), ⟨by simp only; omega, by simp only; rw [take_one ks i 0 (by omega), List.map_append]; exact hoR⟩⟩ (by simp only; omega)
 · obtain rfl : i = ks.length := by omega
   rw [List.take_length] at hoR
   obtain ⟨AR, cR, rfl, _⟩ := hoR.sl.form
   refine ex (te (te (xh (tn (sr (mv rfl rfl (s_bslice ([((AR, (ks.map wrdS).length, cR), ks.map wrdS)]) (ev1 rfl) rfl rfl rfl er45 (Nat.le_of_ble_eq_true rfl) rfl (fun g20 w5 hg20 ho20 q5 z5 => ?_))))))))
   refine s_lit (cs := [_]) (ev1 rfl) bo47 (pok_cons rfl rfl rfl pok_nil) rfl rfl ?_
   replace hb2 := hb20.ext (q2.next q5)
   refine s_storeBA rfl rfl hb2 rfl (by first | (simp [Value.oneCell', S]; done) | exact Enc.one _ _) sz47 (fun w6 hb2 q6 z6 => ?_)
   refine kpL [(2, _)] (.cons rfl .nil) (nn (rt (rC Tryd.results35 rfl hb2 ag47  ?_)))
   replace ho20 := ho20.fr q6 (by first | (simp; done) | (simp; omega) | (simp [blks]; done) | (simp [blks]; omega) | (intro k hk hb; simp at hk; subst hk; have := ho20.blk _ hb; omega))
   replace hoR := (hoR.ext q5).fr q6 (by first | (simp; done) | (simp; omega) | (simp [blks]; done) | (simp [blks]; omega) | (intro k hk hb; simp at hk; subst hk; have := hoR.blk _ hb; omega))
   exact ⟨_, rfl, _, rfl, ⟨_, ho20.low (by omega), fun q hq => by obtain rfl := List.mem_singleton.1 hq; exact hoR.low (by omega), rfl⟩, (((q1.next q2).next q5).step q6 (by first | (simp; done) | (simp; omega)))⟩
end Go.Proofs.YthehggmdcmpjeaaDoor
namespace Go.G14
open Go.Lw
def lvN : List UInt8 := [115, 99, 97, 114, 102]
def lvP : Pc := ⟨[98, 111, 100, 121], ⟨[[1].map wrdS], [[2, 1].map wrdS], []⟩, 2, 1, 3, 2⟩
def lvR : List Stitch := [1, 2, 1, 2, 1].map wrdS
theorem lv_make : makeE lvN [lvP] 0 = 0 := by decide +kernel
theorem lv_n0 : (needL [lvP] 0).getD 0 0 = 50 := by decide +kernel
theorem lv_n1 : (needL [lvP] 0).getD 1 0 = 0 := by decide +kernel
theorem lv_sz : sizesTo lvN [lvP] 10 = [0, 1, 2, 3, 4, 5] := by decide +kernel
theorem lv_ch : chartP 0 lvP = [lvR, lvR, lvR] := by decide +kernel
theorem lv_text : garText lvN [lvP] = [103, 97, 114, 109, 101, 110, 116, 32, 115, 99, 97, 114, 102, 10, 112, 105, 101, 99, 101, 32, 98, 111, 100, 121, 32, 50, 32, 50, 32, 49, 32, 51, 10, 108, 101, 102, 116, 32, 107, 10, 116, 105, 108, 101, 32, 112, 32, 107, 10] := by decide +kernel
theorem lv_gL : rowsR lvP.mot.L := by unfold rowsR; decide
theorem lv_gT : rowsR lvP.mot.T := by unfold rowsR; decide
theorem lv_gR : rowsR lvP.mot.R := by unfold rowsR; decide
theorem lv_pcs {w : World} {l t : SV} (hl : Sll encSt w (slv l) [[1].map wrdS]) (ht : Sll encSt w (slv t) [[2, 1].map wrdS]) : PcsQ w [⟨lvP, l, t, (none, 0, 0)⟩] := fun q hq => by
  obtain rfl := List.mem_singleton.1 hq
  exact ⟨hl, ht, slln w, lv_gL, lv_gT, lv_gR⟩
theorem sizes_bad {nm : List UInt8} {ps : List Pc} (h : garE nm ps ≠ 0) : ∀ n, sizesTo nm ps n = []
  | 0 => rfl
  | n + 1 => by rw [sizes_no (by rw [make_a h]; exact h), sizes_bad h n]
theorem text_bad {nm : List UInt8} {ps : List Pc} (h : garE nm ps ≠ 0) : garText nm ps = [] := if_neg h
theorem text_good {nm : List UInt8} {ps : List Pc} (h : garE nm ps = 0) : garText nm ps = textG nm ps := if_pos h
end Go.G14
namespace Go.Proofs.YthehggmdcmpjeaaDoor
open Go.Lw Go.G14
theorem bo24 : BuildAt Tryd.prog 24 [(0, 1), (1, 1)] [(S []), (.slice none 0 0)] := BuildAt.struct Tryd.underlying24 (fun _ => by kernel_rfl) (fun _ => by kernel_rfl)
theorem bo49 : BuildAt Tryd.prog 49 [(0, 1), (1, 1), (2, 1)] [(.slice none 0 0), (.slice none 0 0), (.slice none 0 0)] := BuildAt.struct Tryd.underlying49 (fun _ => by kernel_rfl) (fun _ => by kernel_rfl)
theorem bo51 : BuildAt Tryd.prog 51 [(0, 1), (1, 3), (4, 1), (5, 1), (6, 1), (7, 1)] [(S []), (.slice none 0 0), (.slice none 0 0), (.slice none 0 0), (.int .i64 0), (.int .i64 0), (.int .i64 0), (.int .i64 0)] := BuildAt.struct Tryd.underlying51 (fun _ => by kernel_rfl) (fun _ => by kernel_rfl)
theorem co9 : CallOf Tryd.prog 9 := CallOf.mk' Tryd.func9 (by kernel_rfl) (by kernel_rfl)
theorem co12 : CallOf Tryd.prog 12 := CallOf.mk' Tryd.func12 (by kernel_rfl) (by kernel_rfl)
theorem co13 : CallOf Tryd.prog 13 := CallOf.mk' Tryd.func13 (by kernel_rfl) (by kernel_rfl)
theorem co19 : CallOf Tryd.prog 19 := CallOf.mk' Tryd.func19 (by kernel_rfl) (by kernel_rfl)
theorem co35 : CallOf Tryd.prog 35 := CallOf.mk' Tryd.func35 (by kernel_rfl) (by kernel_rfl)
theorem fa56_0 : FieldAt Tryd.prog 56 0 0 := fun _ _ => by kernel_rfl
theorem sz24 : SizeOf Tryd.prog 24 2 := fun _ => by kernel_rfl
theorem zv24 (w : World) : (zeroValue 24).run Tryd.prog w = .ok (.agg #[(S []), (.slice none 0 0)]) w := by kernel_rfl
theorem fldC (v : Value) (w : World) : (Instr.field 47 (.agg #[v]) 0).run Tryd.prog w = .ok v w := by kernel_rfl
set_option maxHeartbeats 2000000 in
theorem lives22_ok (w0 : World) (hy : Sym w0) : Rets Tryd.prog 14 #[] w0 fun r w' => r = .bool true ∧ Fr [] w0 w' := by
 refine we [] Tryd.func14 rfl Tryd.ntmps14 rfl .nil ?_
 have hy0 := hy
 refine sr (asg rfl rfl (nn (sr (asg rfl rfl (asg rfl rfl (nn (sr (mv rfl rfl (s_bslice ([1]) (ev1 rfl) rfl rfl rfl el118 (Nat.le_of_ble_eq_true rfl) rfl (fun g11 w1 hg11 ho11 q1 z1 => ?_))))))))))
 refine cl (ev1 rfl) co35 (words_ok _ [1] _ ho11.sl (by decide)) rfl ?_
 rintro _ w2 ⟨X12, rfl, hX, q2⟩
 have z2 := q2.size
 have hX0 := hX
 obtain ⟨A12, c12, rfl, _⟩ := hX.form
 refine mv rfl rfl (mv rfl rfl (s_bslice ([2, 1]) (ev2 rfl rfl) rfl rfl rfl el118 (Nat.le_of_ble_eq_true rfl) rfl (fun g15 w3 hg15 ho15 q3 z3 => ?_)))
 refine cl (ev1 rfl) co35 (words_ok _ [2, 1] _ ho15.sl (by decide)) rfl ?_
 rintro _ w4 ⟨X16, rfl, hZ, q4⟩
 have z4 := q4.size
 have hZ0 := hZ
 obtain ⟨A16, c16, rfl, _⟩ := hZ.form
 refine s_lit (cs := [_, _, _]) (ev2 rfl rfl) bo49 (pok_cons rfl rfl rfl (pok_cons rfl rfl rfl pok_nil)) rfl rfl ?_
 refine s_lit (cs := [_, _, _, _, _, _, _, _]) (evs_cons rfl (evs_cons rfl (evs_cons rfl (evs_cons rfl (evs_cons rfl (evs_cons rfl evs_nil)))))) bo51 (pok_cons rfl rfl rfl (pok_cons rfl rfl rfl (pok_cons rfl rfl rfl (pok_cons rfl rfl rfl (pok_cons rfl rfl rfl (pok_cons rfl rfl rfl pok_nil)))))) rfl rfl ?_
 refine s_bslice ([(⟨lvP, (A12, [[1].map wrdS].length, c12), (A16, [[2, 1].map wrdS].length, c16), (none, 0, 0)⟩ : PQ)]) (ev1 rfl) rfl rfl rfl el22 (Nat.le_of_ble_eq_true rfl) rfl (fun g19 w5 hg19 ho19 q5 z5 => ?_)
 refine s_lit (cs := [_, _]) (ev2 rfl rfl) bo24 (pok_cons rfl rfl rfl (pok_cons rfl rfl rfl pok_nil)) rfl rfl ?_
 refine al zv24 rfl rfl (fun g3 w6 hg3 hb3 q6 z6 => ?_)
 refine s_storeBA rfl rfl hb3 rfl (by first | (simp [Value.oneCell', S]; done) | exact Enc.one _ _) sz24 (fun w7 hb3 q7 z7 => ?_)
 replace hX := hX0.ext ((((q3.next q4).next q5).next q6).step q7 (by first | (simp; done) | (simp; omega)))
 replace hZ := hZ0.ext ((q5.next q6).step q7 (by first | (simp; done) | (simp; omega)))
 have hq : PcsQ w7 [(⟨lvP, (A12, [[1].map wrdS].length, c12), (A16, [[2, 1].map wrdS].length, c16), (none, 0, 0)⟩ : PQ)] := lv_pcs hX.sll hZ.sll
 have hq0 := hq
 refine kpL [(1, _), (2, _), (3, _)] (.cons rfl (.cons rfl (.cons rfl .nil))) (nn (sr (s_loadBA rfl hb3 ag24 rfl ?_)))
 replace ho19 := (ho19.ext q6).fr q7 (by first | (simp; done) | (simp; omega) | (simp [blks]; done) | (simp [blks]; omega) | (intro k hk hb; simp at hk; subst hk; have := ho19.blk _ hb; omega))
 refine cl (ev2 rfl rfl) co8 (gmake_ok lvN _ [(⟨lvP, (A12, [[1].map wrdS].length, c12), (A16, [[2, 1].map wrdS].length, c16), (none, 0, 0)⟩ : PQ)] 0 _ ho19.sl hq) rfl ?_
 rintro _ w8 ⟨V23, its, rfl, hoI, hio, -, hmz, q8⟩
 have z8 := q8.size
 have hoI0 := hoI
 have hio0 := hio
 obtain ⟨⟨A23, rfl⟩, hil, hit⟩ := hmz lv_make
 have hi1 : its.length = 1 := hil
 refine mv rfl rfl (xt rfl rfl rfl (xt rfl rfl rfl (asg rfl rfl (asg rfl rfl (nn (sr ?_))))))
 replace hb3 := hb3.ext q8
 refine s_loadBA rfl hb3 ag24 rfl ?_
 replace ho19 := ho19.ext q8
 replace hq := hq0.ext q8
 refine cl (ev2 rfl rfl) co9 (gneeds_ok lvN _ [(⟨lvP, (A12, [[1].map wrdS].length, c12), (A16, [[2, 1].map wrdS].length, c16), (none, 0, 0)⟩ : PQ)] 0 _ ho19.sl hq) rfl ?_
 rintro _ w9 ⟨V28, rfl, -, hnz, q9⟩
 have z9 := q9.size
 obtain ⟨⟨A28, rfl⟩, hoN⟩ := hnz lv_make
 have hoN0 := hoN
 have hnl : (needL (pcs [(⟨lvP, (A12, [[1].map wrdS].length, c12), (A16, [[2, 1].map wrdS].length, c16), (none, 0, 0)⟩ : PQ)]) 0).length = 6 := needL_len _ _
 refine mv rfl rfl (xt rfl rfl rfl (xt rfl rfl rfl (asg rfl rfl (asg rfl rfl (nn (sr ?_))))))
 replace hb3 := hb3.ext q9
 refine s_loadBA rfl hb3 ag24 rfl ?_
 replace ho19 := ho19.ext q9
 replace hq := hq0.ext (q8.next q9)
 refine cl (ev1 rfl) co12 (sizes_ok lvN _ [(⟨lvP, (A12, [[1].map wrdS].length, c12), (A16, [[2, 1].map wrdS].length, c16), (none, 0, 0)⟩ : PQ)] _ ho19.sl hq) rfl ?_
 rintro _ w10 ⟨A32, rfl, hoS, q10⟩
 have z10 := q10.size
 have hoS0 := hoS
 have hsz : (sizesTo lvN (pcs [(⟨lvP, (A12, [[1].map wrdS].length, c12), (A16, [[2, 1].map wrdS].length, c16), (none, 0, 0)⟩ : PQ)]) 10).length = 6 := congrArg List.length lv_sz
 refine asg rfl rfl (nn (sr (mv rfl rfl (mv rfl rfl (mv rfl rfl (mv rfl rfl (mv rfl rfl (s_bslice ([1, 2, 1, 2, 1]) (evs_cons rfl (evs_cons rfl (evs_cons rfl (evs_cons rfl (evs_cons rfl evs_nil))))) rfl rfl rfl el118 (Nat.le_of_ble_eq_true rfl) rfl (fun g38 w11 hg38 ho38 q11 z11 => ?_)))))))))
 refine cl (ev1 rfl) co35 (words_ok _ [1, 2, 1, 2, 1] _ ho38.sl (by decide)) rfl ?_
 rintro _ w12 ⟨X39, rfl, hW, q12⟩
 have z12 := q12.size
 have hW0 := hW
 obtain ⟨rs, hrs, hqr, hrm⟩ := Sll.opn hW.sll
 obtain ⟨A39, c39, rfl, _⟩ := hrs.form
 have hr1 : rs.length = 1 := by have := congrArg List.length hrm; simpa using this
 have hrl := sl_len (hqr (rs.getD 0 rq0) (getD_memS (by omega)))
 have hrs0 := hrs
 have hqr0 := hqr
 refine s_field rfl (fun w => fldC _ w) rfl ?_
 refine s_idxL (p := 0) (rq0) rfl hrs rfl er45 (by omega) (by omega) rfl rfl (fun ad41 hc41 => ?_)
 refine s_loadC0 rfl (hc41 _ hrs) na61 rfl (asg rfl rfl (kpL [(3, _), (4, _), (5, _), (6, _), (7, _), (8, _), (9, _)] (.cons rfl (.cons rfl (.cons rfl (.cons rfl (.cons rfl (.cons rfl (.cons rfl .nil))))))) (nn (sr ?_))))
 replace hb3 := hb3.ext ((q10.next q11).next q12)
 refine s_loadBA rfl hb3 ag24 rfl ?_
 replace ho19 := ho19.ext ((q10.next q11).next q12)
 replace hq := hq0.ext ((((q8.next q9).next q10).next q11).next q12)
 replace hy := hy0.ext (((((((((((q1.next q2).next q3).next q4).next q5).next q6).step q7 (by first | (simp; done) | (simp; omega))).next q8).next q9).next q10).next q11).next q12)
 refine cl (ev1 rfl) co13 (gtext_ok lvN _ [(⟨lvP, (A12, [[1].map wrdS].length, c12), (A16, [[2, 1].map wrdS].length, c16), (none, 0, 0)⟩ : PQ)] _ ho19.sl hq hy) rfl ?_
 rintro _ w13 ⟨rfl, q13⟩
 have z13 := q13.size
 refine s_eqs rfl rfl rfl (mv rfl rfl ?_)
 refine gs 46 rfl (fun g0 => ?_) (fun hh => absurd (by exact lv_text) hh)
 refine gY rfl (mv rfl rfl (gY rfl (eq' rfl rfl rfl (pkt rfl rfl rfl rfl (mv rfl rfl ?_)))))
 refine gs 50 rfl (fun g1 => ?_) (fun hh => absurd (by exact lv_make) hh)
 refine gY rfl (mv rfl rfl (gY rfl (lnS rfl Tryd.underlying26 rfl (gY rfl (eq' rfl rfl rfl (pkt rfl rfl rfl rfl (mv rfl rfl ?_)))))))
 refine gs 55 rfl (fun g2 => ?_) (fun hh => absurd (by rfl) hh)
 refine gY rfl (mv rfl rfl (gY rfl ?_))
 replace hoI := hoI0.ext ((((q9.next q10).next q11).next q12).next q13)
 refine s_idxL (p := 0) (iq0) rfl hoI.sl rfl el26 (by omega) (by omega) rfl rfl (fun ad57 hc57 => ?_)
 refine gY rfl (fad rfl fa56_0 rfl (gY rfl (s_loadC rfl (hc57 _ hoI.sl) rfl na9 rfl (gY rfl (s_eqs rfl rfl rfl (pkt rfl rfl rfl rfl (mv rfl rfl ?_)))))))
 refine gs 62 rfl (fun g3 => ?_) (fun hh => absurd (by exact (hit 0 Nat.zero_lt_one).1) hh)
 refine gY rfl (mv rfl rfl (gY rfl (s_idxL (p := 0) (iq0) rfl hoI.sl rfl el26 (by omega) (by omega) rfl rfl (fun ad64 hc64 => ?_))))
 refine gY rfl (fad rfl fa56_2 rfl (gY rfl (s_loadC rfl (hc64 _ hoI.sl) rfl na3 rfl (gY rfl (eq' rfl rfl rfl (pkt rfl rfl rfl rfl (mv rfl rfl ?_)))))))
 refine gs 69 rfl (fun g4 => ?_) (fun hh => absurd (by exact (hit 0 Nat.zero_lt_one).2.1) hh)
 refine gY rfl (mv rfl rfl (gY rfl (s_idxL (p := 0) (iq0) rfl hoI.sl rfl el26 (by omega) (by omega) rfl rfl (fun ad71 hc71 => ?_))))
 refine gY rfl (fad rfl fa56_1 rfl (gY rfl (s_loadA rfl (cells_part (vs := [_]) (hc71 _ hoI.sl) rfl) ag47 rfl (gY rfl (mv rfl rfl (gY rfl (mv rfl rfl (gY rfl (mv rfl rfl (gY rfl (s_bslice ([(rs.getD 0 rq0), (rs.getD 0 rq0), (rs.getD 0 rq0)]) (ev3 rfl rfl rfl) rfl rfl rfl er45 (Nat.le_of_ble_eq_true rfl) rfl (fun g77 w14 hg77 ho77 q14 z14 => ?_))))))))))))
 refine gY rfl (s_lit (cs := [_]) (ev1 rfl) bo47 (pok_cons rfl rfl rfl pok_nil) rfl rfl ?_)
 refine gY rfl ?_
 replace hio := hio0.ext (((((q9.next q10).next q11).next q12).next q13).next q14)
 replace hq := hq0.ext ((((((q8.next q9).next q10).next q11).next q12).next q13).next q14)
 replace hqr := hqr0.ext (q13.next q14)
 refine cl (ev2 rfl rfl) co19 (differ2_ok _ _ (its.getD 0 iq0).rows [(rs.getD 0 rq0).2, (rs.getD 0 rq0).2, (rs.getD 0 rq0).2] _ (hio _ (getD_memS (by omega))).sll (sll_of ho77.sl (fun q hq => by have e : q = (rs.getD 0 rq0) := (by simpa using hq); rw [e]; exact hqr _ (getD_memS (by omega))))) rfl ?_
 rintro _ w15 ⟨rfl, q15⟩
 have z15 := q15.size
 refine gY rfl (eq' rfl rfl rfl (pkt rfl rfl rfl rfl (mv rfl rfl ?_)))
 refine gs 82 rfl (fun g5 => ?_) (fun hh => absurd (by rw [if_pos]; exact (hit 0 Nat.zero_lt_one).2.2.trans (lv_ch.trans (by have e : (rs.getD 0 rq0).2 = lvR := (gd_rows hrm (i := 0) (by omega)).symm; rw [e]))) hh)
 refine gY rfl (mv rfl rfl (gY rfl (eq' rfl rfl rfl (pkt rfl rfl rfl rfl (mv rfl rfl ?_)))))
 refine gs 86 rfl (fun g6 => ?_) (fun hh => absurd (by exact lv_make) hh)
 refine gY rfl (mv rfl rfl (gY rfl (lnS rfl Tryd.underlying30 rfl (gY rfl (eq' rfl rfl rfl (pkt rfl rfl rfl rfl (mv rfl rfl ?_)))))))
 refine gs 91 rfl (fun g7 => ?_) (fun hh => absurd (by rfl) hh)
 refine gY rfl (mv rfl rfl (gY rfl ?_))
 replace hoN := hoN0.ext (((((q10.next q11).next q12).next q13).next q14).next q15)
 refine s_idxL (p := 0) (0) rfl hoN.sl rfl el30 (by omega) (by omega) rfl rfl (fun ad93 hc93 => ?_)
 refine gY rfl (s_loadC0 rfl (hc93 _ hoN.sl) na3 rfl (gY rfl (eq' rfl rfl rfl (pkt rfl rfl rfl rfl (mv rfl rfl ?_)))))
 refine gs 97 rfl (fun g8 => ?_) (fun hh => absurd (by exact lv_n0) hh)
 refine gY rfl (mv rfl rfl (gY rfl (s_idxL (p := 1) (0) rfl hoN.sl rfl el30 (by omega) (by omega) rfl rfl (fun ad99 hc99 => ?_))))
 refine gY rfl (s_loadC0 rfl (hc99 _ hoN.sl) na3 rfl (gY rfl (eq' rfl rfl rfl (pkt rfl rfl rfl rfl (mv rfl rfl ?_)))))
 refine gs 103 rfl (fun g9 => ?_) (fun hh => absurd (by exact lv_n1) hh)
 refine gY rfl (mv rfl rfl (gY rfl (lnS rfl Tryd.underlying30 rfl (gY rfl (eq' rfl rfl rfl (pkt rfl rfl rfl rfl (mv rfl rfl ?_)))))))
 refine gs 108 rfl (fun g10 => ?_) (fun hh => absurd (by omega) hh)
 refine gY rfl (mv rfl rfl (gY rfl ?_))
 replace hoS := hoS0.ext ((((q11.next q12).next q13).next q14).next q15)
 refine s_idxL (p := 0) (0) rfl hoS.sl rfl el30 (by omega) (by omega) rfl rfl (fun ad110 hc110 => ?_)
 refine gY rfl (s_loadC0 rfl (hc110 _ hoS.sl) na3 rfl (gY rfl (eq' rfl rfl rfl (pkt rfl rfl rfl rfl (mv rfl rfl ?_)))))
 refine gs 114 rfl (fun g11 => ?_) (fun hh => absurd (by rw [show sizesTo lvN (pcs [(⟨lvP, (A12, [[1].map wrdS].length, c12), (A16, [[2, 1].map wrdS].length, c16), (none, 0, 0)⟩ : PQ)]) 10 = [0, 1, 2, 3, 4, 5] from lv_sz]; rfl) hh)
 refine gY rfl (mv rfl rfl (gY rfl (s_idxL (p := 5) (0) rfl hoS.sl rfl el30 (by omega) (by omega) rfl rfl (fun ad116 hc116 => ?_))))
 refine gY rfl (s_loadC0 rfl (hc116 _ hoS.sl) na3 rfl (gY rfl (eq' rfl rfl rfl (pkt rfl rfl rfl rfl (asg rfl rfl (kpL [(0, _)] (.cons rfl .nil) (nn (rt (r1 Tryd.results14 rfl ?_)))))))))
 exact ⟨_, rfl, by rw [show sizesTo lvN (pcs [(⟨lvP, (A12, [[1].map wrdS].length, c12), (A16, [[2, 1].map wrdS].length, c16), (none, 0, 0)⟩ : PQ)]) 10 = [0, 1, 2, 3, 4, 5] from lv_sz]; rfl, ((((((((((((((q1.next q2).next q3).next q4).next q5).next q6).step q7 (by first | (simp; done) | (simp; omega))).next q8).next q9).next q10).next q11).next q12).next q13).next q14).next q15)⟩
end Go.Proofs.YthehggmdcmpjeaaDoor
namespace Go.Proofs.YthehggmdcmpjeaaDoor
open Go.Lw Go.G14
theorem co6 : CallOf Tryd.prog 6 := CallOf.mk' Tryd.func6 (by kernel_rfl) (by kernel_rfl)
theorem co11 : CallOf Tryd.prog 11 := CallOf.mk' Tryd.func11 (by kernel_rfl) (by kernel_rfl)
theorem co14 : CallOf Tryd.prog 14 := CallOf.mk' Tryd.func14 (by kernel_rfl) (by kernel_rfl)
theorem co15 : CallOf Tryd.prog 15 := CallOf.mk' Tryd.func15 (by kernel_rfl) (by kernel_rfl)
theorem gneedsx_ok (nm : List UInt8) (v : Value) (qs : List PQ) (size : Int) (w0 : World) (hs : Sl encPq w0 v qs) (hq : PcsQ w0 qs) : Rets Tryd.prog 9 #[.agg #[S nm, v], .int .i64 size] w0 fun r w' => ∃ A n c, r = .tuple #[.slice A n c, .int .i64 (makeE nm (pcs qs) size)] ∧ (makeE nm (pcs qs) size ≠ 0 → n = 0) ∧ Fr [] w0 w' := by
  refine (gneeds_ok nm v qs size w0 hs hq).mono ?_
  rintro r w' ⟨V, rfl, h1, h2, h3⟩
  by_cases e : makeE nm (pcs qs) size = 0
  · obtain ⟨⟨A, rfl⟩, -⟩ := h2 e
    exact ⟨A, 6, 6, rfl, fun h => absurd e h, h3⟩
  · obtain rfl := h1 e
    exact ⟨none, 0, 0, rfl, fun _ => rfl, h3⟩
set_option maxHeartbeats 2000000 in
theorem law_check (nm : List UInt8) (v : Value) (qs : List PQ) (size : Int) (w0 : World) (hs : Sl encPq w0 v qs) (hq : PcsQ w0 qs) (hy : Sym w0) : Rets Tryd.prog 3 #[.agg #[S nm, v], .int .i64 size] w0 fun r w' => r = .bool true ∧ Fr [] w0 w' := by
 obtain ⟨A, c, rfl, hcc, hM, hA⟩ := id hs
 clear hA
 unfold maxLen at hM
 have hQ := hq
 clear hq
 refine we [(0, .agg #[S nm, .slice A qs.length c]), (1, .int .i64 size)] Tryd.func3 rfl Tryd.ntmps3 rfl (.cons rfl (.cons rfl .nil)) ?_
 have hs0 := hs
 have hQ0 := hQ
 have hy0 := hy
 refine sr (bx rfl rfl rfl (fun g2 w1 hg2 hb2 q1 z1 => ?_))
 refine asg rfl rfl (nn (sq (sr (s_loadBA rfl hb2 ag24 rfl ?_))))
 replace hs := hs0.ext q1
 replace hQ := hQ0.ext q1
 refine cl (ev1 rfl) co6 (lsmall_ok nm _ qs _ hs hQ) rfl ?_
 rintro _ w2 ⟨sm, rfl, q2⟩
 have z2 := q2.size
 refine eq' rfl rfl rfl (nn ?_)
 refine cd rfl (fun c0 => ?_) (fun c0 => ?_)
 · refine sr (asg rfl rfl (nn (rt (tr (r1 Tryd.results3 rfl ?_)))))
   exact ⟨_, rfl, rfl, (q1.next q2)⟩
 · refine sk (tn (sr ?_))
   replace hb2 := hb2.ext q2
   refine s_loadBA rfl hb2 ag24 rfl ?_
   replace hs := hs0.ext (q1.next q2)
   replace hQ := hQ0.ext (q1.next q2)
   refine cl (ev1 rfl) co7 (refgar_ok nm _ qs _ hs hQ) rfl ?_
   rintro _ w3 ⟨rfl, q3⟩
   have z3 := q3.size
   refine asg rfl rfl (nn (sr ?_))
   replace hb2 := hb2.ext q3
   refine s_loadBA rfl hb2 ag24 rfl (mv rfl rfl ?_)
   replace hs := hs0.ext ((q1.next q2).next q3)
   replace hQ := hQ0.ext ((q1.next q2).next q3)
   refine cl (ev2 rfl rfl) co8 (gmake_ok nm _ qs size _ hs hQ) rfl ?_
   rintro _ w4 ⟨V20, its, rfl, hoI, -, hmn, -, q4⟩
   have z4 := q4.size
   obtain ⟨A20, c20, rfl, _⟩ := hoI.sl.form
   have hil : makeE nm (pcs qs) size ≠ 0 → its.length = 0 := fun h => by rw [(hmn h).2]; rfl
   refine mv rfl rfl (xt rfl rfl rfl (xt rfl rfl rfl (asg rfl rfl (asg rfl rfl (kpL [(1, _), (2, _), (5, _), (6, _), (7, _)] (.cons rfl (.cons rfl (.cons rfl (.cons rfl (.cons rfl .nil))))) (nn (sr ?_)))))))
   replace hb2 := hb2.ext q4
   refine s_loadBA rfl hb2 ag24 rfl (mv rfl rfl ?_)
   replace hs := hs0.ext (((q1.next q2).next q3).next q4)
   replace hQ := hQ0.ext (((q1.next q2).next q3).next q4)
   refine cl (ev2 rfl rfl) co9 (gneedsx_ok nm _ qs size _ hs hQ) rfl ?_
   rintro _ w5 ⟨A26, n26, c26, rfl, hn26, q5⟩
   have z5 := q5.size
   refine mv rfl rfl (xt rfl rfl rfl (xt rfl rfl rfl (asg rfl rfl (asg rfl rfl (kpL [(1, _), (2, _), (5, _), (6, _), (7, _), (8, _), (9, _)] (.cons rfl (.cons rfl (.cons rfl (.cons rfl (.cons rfl (.cons rfl (.cons rfl .nil))))))) (nn (sq (sq ?_))))))))
   refine rboF (r := 37) (L' := [(1, _), (2, _), (5, _), (6, _), (7, _), (8, _)]) ((((garE nm (pcs qs)) ≠ (garE nm (pcs qs))) ∨ ((makeE nm (pcs qs) size) ≠ (makeE nm (pcs qs) size)))) (.cons rfl (.cons rfl (.cons rfl (.cons rfl (.cons rfl (.cons rfl .nil)))))) ?_ ?_
   · replace hb2 := hb2.ext q5
     refine s_loadBA rfl hb2 ag24 rfl ?_
     replace hs := hs0.ext ((((q1.next q2).next q3).next q4).next q5)
     replace hQ := hQ0.ext ((((q1.next q2).next q3).next q4).next q5)
     refine cl (ev1 rfl) co10 (gcheck_ok nm _ qs _ hs hQ) rfl ?_
     rintro _ w6 ⟨rfl, q6⟩
     have z6 := q6.size
     refine mv rfl rfl (ne' rfl rfl rfl (mv rfl rfl ?_))
     refine gs 33 rfl (fun hh => absurd hh (by exact fun h => h rfl)) (fun g0 => ?_)
     exact gY rfl (mv rfl rfl (gY rfl (mv rfl rfl (gY rfl (ne' rfl rfl rfl (pkf rfl rfl rfl rfl (rbeF rfl (by first | exact bt (by omega) | exact bf (by omega) | exact bi (by omega) | exact bn (by omega) | (simp_all; done) | (simp_all; omega)) (.cons rfl (.cons rfl (.cons rfl (.cons rfl (.cons rfl (.cons rfl .nil)))))) q6)))))))
   · intro w7 q7; have z7 := q7.size
     refine tn ?_
     refine cd rfl (fun c1 => ?_) (fun c1 => ?_)
     · exact absurd c1 (by simp)
     · refine sk (tn (sr ?_))
       replace hb2 := hb2.ext (q5.next q7)
       refine s_loadBA rfl hb2 ag24 rfl (mv rfl rfl ?_)
       replace hs := hs0.ext (((((q1.next q2).next q3).next q4).next q5).next q7)
       replace hQ := hQ0.ext (((((q1.next q2).next q3).next q4).next q5).next q7)
       refine cl (ev2 rfl rfl) co11 (refmake_ok nm _ qs size _ hs hQ) rfl ?_
       rintro _ w8 ⟨V41, cs, rfl, -, -, -, -, q8⟩
       have z8 := q8.size
       refine mv rfl rfl (xt rfl rfl rfl (xt rfl rfl rfl (asg rfl rfl (asg rfl rfl (kpL [(2, _), (5, _), (6, _), (7, _), (8, _), (11, _)] (.cons rfl (.cons rfl (.cons rfl (.cons rfl (.cons rfl (.cons rfl .nil)))))) (nn (sq (sq ?_))))))))
       refine rbo (r := 58) (L' := [(2, _), (5, _)]) ((((makeE nm (pcs qs) size) ≠ (makeE nm (pcs qs) size)) ∨ (((makeE nm (pcs qs) size) ≠ 0) ∧ (((its.length : Int) + (n26 : Int)) ≠ 0)))) (.cons rfl (.cons rfl .nil)) ?_ ?_
       · refine mv rfl rfl (mv rfl rfl (ne' rfl rfl rfl (mv rfl rfl ?_)))
         refine gs 47 rfl (fun hh => absurd hh (by exact fun h => h rfl)) (fun g1 => ?_)
         refine gY rfl (mv rfl rfl (gY rfl (ne' rfl rfl rfl (gY rfl (mv rfl rfl ?_)))))
         refine gs 50 rfl (fun g2 => ?_) (fun g2 => ?_)
         · refine gY rfl (mv rfl rfl (gY rfl (lnS rfl Tryd.underlying26 rfl (gY rfl (mv rfl rfl (gY rfl (lnS rfl Tryd.underlying30 rfl (gY rfl (s_add rfl rfl (wi6 (by omega)) rfl (gY rfl (ne' rfl rfl rfl ?_)))))))))))
           exact gY rfl (pkt rfl rfl rfl rfl (pkf rfl rfl rfl rfl (rbe rfl (by first | exact bt (by omega) | exact bf (by omega) | exact bi (by omega) | exact bn (by omega) | (simp_all; done) | (simp_all; omega)) (.cons rfl (.cons rfl .nil)))))
         · exact gN rfl rfl rfl (gN rfl rfl rfl (gN rfl rfl rfl (gN rfl rfl rfl (gN rfl rfl rfl (gN rfl rfl rfl (gY rfl (pkf rfl rfl rfl rfl (pkf rfl rfl rfl rfl (rbe rfl (by first | exact bt (by omega) | exact bf (by omega) | exact bi (by omega) | exact bn (by omega) | (simp_all; done) | (simp_all; omega)) (.cons rfl (.cons rfl .nil)))))))))))
       · refine tn ?_
         refine cd rfl (fun c2 => ?_) (fun c2 => ?_)
         · exfalso
           rcases c2 with h | ⟨h1, h2⟩
           · exact h rfl
           have h3 := hil h1
           have h4 := hn26 h1
           omega
         · refine sk (tn (sq (sr (mv rfl rfl (ne' rfl rfl rfl (nn ?_))))))
           refine cd rfl (fun c3 => ?_) (fun c3 => ?_)
           · refine sr ?_
             replace hb2 := hb2.ext q8
             refine s_loadBA rfl hb2 ag24 rfl ?_
             replace hs := hs0.ext ((((((q1.next q2).next q3).next q4).next q5).next q7).next q8)
             replace hQ := hQ0.ext ((((((q1.next q2).next q3).next q4).next q5).next q7).next q8)
             refine cl (ev1 rfl) co12 (sizes_ok nm _ qs _ hs hQ) rfl ?_
             rintro _ w9 ⟨A62, rfl, -, q9⟩
             have z9 := q9.size
             refine lnS rfl Tryd.underlying30 rfl (eq' rfl rfl rfl (mv rfl rfl ?_))
             refine gs 65 rfl (fun g3 => ?_) (fun hh => absurd (by rw [sizes_bad c3]; rfl) hh)
             refine gY rfl ?_
             replace hb2 := hb2.ext q9
             refine s_loadBA rfl hb2 ag24 rfl (gY rfl ?_)
             replace hs := hs0.ext (((((((q1.next q2).next q3).next q4).next q5).next q7).next q8).next q9)
             replace hQ := hQ0.ext (((((((q1.next q2).next q3).next q4).next q5).next q7).next q8).next q9)
             replace hy := hy0.ext (((((((q1.next q2).next q3).next q4).next q5).next q7).next q8).next q9)
             refine cl (ev1 rfl) co13 (gtext_ok nm _ qs _ hs hQ hy) rfl ?_
             rintro _ w10 ⟨rfl, q10⟩
             have z10 := q10.size
             refine gY rfl (s_eqs rfl rfl rfl (pkt rfl rfl rfl rfl (mv rfl rfl ?_)))
             refine gs 70 rfl (fun g4 => ?_) (fun hh => absurd (by exact text_bad c3) hh)
             refine gY rfl ?_
             replace hy := hy0.ext ((((((((q1.next q2).next q3).next q4).next q5).next q7).next q8).next q9).next q10)
             refine cl evs_nil co14 (lives22_ok _ hy) rfl ?_
             rintro _ w11 ⟨rfl, q11⟩
             have z11 := q11.size
             refine pkt rfl rfl rfl rfl (asg rfl rfl (kpL [(4, _)] (.cons rfl .nil) (nn (rt (tr (r1 Tryd.results3 rfl ?_))))))
             exact ⟨_, rfl, rfl, (((((((((q1.next q2).next q3).next q4).next q5).next q7).next q8).next q9).next q10).next q11)⟩
           · have hg0 : garE nm (pcs qs) = 0 := Classical.not_not.1 c3
             refine sk (tn (sq ?_))
             replace hs := hs0.ext ((((((q1.next q2).next q3).next q4).next q5).next q7).next q8)
             replace hQ := hQ0.ext ((((((q1.next q2).next q3).next q4).next q5).next q7).next q8)
             replace hy := hy0.ext ((((((q1.next q2).next q3).next q4).next q5).next q7).next q8)
             replace hb2 := hb2.ext q8
             intro a h
             have qh13 := Fr.refl [] w8
             refine region_held (fun wb w' => Fr [] wb w') hmix ?_; intro w12 hq
             have z12 := hq.size
             replace hs := hs.ext hq
             replace hQ := hQ.ext hq
             replace hy := hy.ext hq
             replace hb2 := hb2.ext hq
             replace qh13 := qh13.next hq
             have hsz := hq.size; clear hq; have hC : Fr [] w12 w12 := Fr.refl _ _
             have hs_b := hs
             have hQ_b := hQ
             have hy_b := hy
             have hb2_b := hb2
             refine hd_loadBA 0 (by kernel_rfl) (by kernel_rfl) (by kernel_rfl) hC h wn rfl (fun _ hw => hb2_b.ext hw) ag24 rfl rfl ?_; clear h a; intro a h
             refine hd_loadBA 2 (by kernel_rfl) (by kernel_rfl) (by kernel_rfl) hC h wn rfl (fun _ hw => hb2_b.ext hw) ag24 rfl rfl ?_; clear h a; intro a h
             refine hd_one 1 (by kernel_rfl) rfl ?_
             refine st_call h (evs_cons rfl evs_nil) co13 (gtext_ok nm _ qs _ hs hQ hy) rfl ?_; clear h a; rintro _ w13 ⟨rfl, hq⟩ a h
             have z13 := hq.size
             replace hs := hs.ext hq
             replace hQ := hQ.ext hq
             replace hy := hy.ext hq
             replace hb2 := hb2.ext hq
             replace qh13 := qh13.next hq
             replace hC := hC.next hq
             clear hq
             refine hd_next hC ?_
             refine hd_one 3 (by kernel_rfl) rfl ?_
             refine st_call h (evs_cons rfl evs_nil) co15 (reftextg_ok nm _ qs _ hs hQ hg0) rfl ?_; clear h a; rintro _ w14 ⟨rfl, hq⟩ a h
             have z14 := hq.size
             replace hs := hs.ext hq
             replace hQ := hQ.ext hq
             replace hy := hy.ext hq
             replace hb2 := hb2.ext hq
             replace qh13 := qh13.next hq
             replace hC := hC.next hq
             clear hq
             refine hd_next hC ?_
             refine hd_eqs 4 (by kernel_rfl) (by kernel_rfl) (by kernel_rfl) hC h wn rfl rfl rfl rfl ?_; clear h a; intro a h
             refine hd_move 5 (by kernel_rfl) (by kernel_rfl) (by kernel_rfl) hC h wn rfl rfl rfl ?_; clear h a; intro a h
             refine guard_dec (D := 78) h rfl ?_ (fun hh => absurd (by exact text_good hg0) hh)
             clear h; intro g5 h
             refine hd_one 6 (by kernel_rfl) rfl ?_
             refine gd_yes h rfl rfl rfl rfl rfl rfl ?_
             refine st_call h evs_nil co14 (lives22_ok _ hy) rfl ?_; clear h a; rintro _ w15 ⟨rfl, hq⟩ a h
             have z15 := hq.size
             replace hs := hs.ext hq
             replace hQ := hQ.ext hq
             replace hy := hy.ext hq
             replace hb2 := hb2.ext hq
             replace qh13 := qh13.next hq
             replace hC := hC.next hq
             clear hq
             refine hd_next hC ?_
             refine hd_one 7 (by kernel_rfl) rfl ?_
             refine st_pick_t h rfl rfl rfl rfl ?_; clear h a; intro a h
             refine hd_next hC ?_
             refine hd_one 8 (by kernel_rfl) rfl ?_
             refine st_assign h rfl rfl ?_; clear h a; intro a h
             refine hd_next hC ?_
             refine hd_end (by kernel_rfl) ?_
             clear hC hs_b hQ_b hy_b hb2_b
             have z15 := qh13.size
             refine bk (h.sub (L' := [(4, _)]) (.cons rfl .nil)) ?_; clear h a
             refine tn (rt (r1 Tryd.results3 rfl ?_))
             exact ⟨_, rfl, rfl, (((((((q1.next q2).next q3).next q4).next q5).next q7).next q8).next qh13)⟩
end Go.Proofs.YthehggmdcmpjeaaDoor
