/- Texts of the proof, joined. -/
import Derived.Test.YtkionldalpijpaaGreatDoorRows
import Derived.Test.YtkionldalpijpaaGreatDoorS4
set_option linter.unusedVariables false
set_option linter.unusedSimpArgs false
namespace Go.Proofs.YtkionldalpijpaaGreatDoor
open Go.Lw Go.G21

theorem eqlId (p q : LId) (w : World) : (Op.equal 39 (idV p) (idV q)).run Tryz.prog w = .ok (decide (p = q)) w := by
  have h := (eqId p q (.tmp 0) (.tmp 0) w).2.2.1
  have e : (binOp .eql 39 (idV p) (idV q)).run Tryz.prog w = ((Op.equal 39 (idV p) (idV q)).run Tryz.prog w).andThen fun b w' => .ok (.bool b) w' := by
    have e2 : binOp .eql 39 (idV p) (idV q) = (Op.equal 39 (idV p) (idV q) >>= fun b => pure (.bool b)) := by
      unfold binOp idV; simp only
    rw [e2]; simp only [Sem.run_bind, Sem.run_pure]
  rw [e] at h
  generalize (Op.equal 39 (idV p) (idV q)).run Tryz.prog w = r at h
  cases r with
  | ok b w' => simp only [Result.andThen] at h; cases h; rfl
  | halt x w' => simp only [Result.andThen] at h; cases h
theorem kLawId : KeyLaw Tryz.prog 39 idV := KeyLaw.asking Tryz.underlying39 (fun _ _ => rfl) (fun _ _ _ => by kernel_rfl) eqlId (fun _ => by simp [idV, Instr.sameBits])
theorem zvI (w : World) : (zeroValue 3).run Tryz.prog w = .ok (.int .i64 0) w := by kernel_rfl
set_option maxHeartbeats 1000000 in
theorem cthr_ok (v : Value) (ts : List TQ) (w0 : World) (hs : Sl encTq w0 v ts) (hk : TabAt w0 ts) (hl : ts.length = 6) (hv : TabV (tabP ts)) : Rets Tryz.prog 57 #[v] w0 fun r w' => r = .int .i64 0 ∧ Fr [] w0 w' := by
 obtain ⟨A, c, rfl, hcc, hM, hA⟩ := id hs
 clear hA
 unfold maxLen at hM
 have hrl := tab_len hk
 refine we [(0, .slice A ts.length c)] Tryz.func57 rfl Tryz.ntmps57 rfl (.cons rfl .nil) ?_
 have hs0 := hs
 have hk0 := hk
 refine sr (asg rfl rfl (nn (sr ?_)))
 refine s_makeMapZ idV (.int .i64 0) rfl (fun g10 w1 hg10 hm q1 z1 => ?_)
 refine asg rfl rfl (nn (sq (sr (mv rfl rfl (lnS rfl Tryz.underlying29 rfl (mv rfl rfl (nn (bl ?_))))))))
 refine lpK (ι := Nat) [(3, _), (11, _), (12, _)] (fun y => [(13, .int .i64 (y : Int))]) (fun y w' => Fr [g10] w1 w' ∧ y ≤ ts.length ∧ MapZ idV w' g10 (.int .i64 0) (cntF (thrU (tabP ts) y 0))) (fun y => ts.length - y) 0 (.cons rfl (.cons rfl (.cons rfl (.cons rfl .nil)))) ⟨Fr.refl _ _, ⟨Nat.zero_le _, hm⟩⟩ ?_
 rintro y w2 ⟨q2, ⟨hy, hm⟩⟩
 have z2 := q2.size
 refine kpC [(3, _), (11, _), (12, _), (13, _)] (.cons rfl (.cons rfl (.cons rfl (.cons rfl .nil)))) ?_
 refine sr (lt' rfl rfl rfl (nn (sq ?_)))
 refine cd rfl (fun c0 => ?_) (fun c0 => ?_)
 · replace hk := hk0.ext (q1.step q2 (by first | (simp; done) | (simp; omega)))
   have hr1 := hrl y
   have hM1 := (hk _ (mem_getD (d := tq0) (i := y) (by omega))).1.len_le
   unfold maxLen at hM1
   refine sk (tn (sq (bl (sr ?_))))
   replace hs := hs0.ext (q1.step q2 (by first | (simp; done) | (simp; omega)))
   refine s_idxL (tq0) rfl hs rfl el29 (by omega) (by omega) nat_of rfl (fun ad15 hc15 => ?_)
   refine s_loadC0 rfl (hc15 _ hs) na40 rfl (asg rfl rfl (nn (sr (mv rfl rfl (lnS rfl Tryz.underlying40 rfl (mv rfl rfl (nn (bl ?_))))))))
   refine lpK (ι := Nat) [(3, _), (11, _), (12, _), (13, _), (17, _), (18, _)] (fun n => [(19, .int .i64 (n : Int))]) (fun n w' => Fr [g10] w2 w' ∧ n ≤ (ts.getD y tq0).2.length ∧ MapZ idV w' g10 (.int .i64 0) (cntF (thrU (tabP ts) y n))) (fun n => (ts.getD y tq0).2.length - n) 0 (.cons rfl (.cons rfl (.cons rfl (.cons rfl (.cons rfl (.cons rfl (.cons rfl .nil))))))) ⟨Fr.refl _ _, ⟨Nat.zero_le _, hm⟩⟩ ?_
   rintro n w3 ⟨q3, ⟨hn, hm⟩⟩
   have z3 := q3.size
   refine kpC [(3, _), (11, _), (12, _), (13, _), (17, _), (18, _), (19, _)] (.cons rfl (.cons rfl (.cons rfl (.cons rfl (.cons rfl (.cons rfl (.cons rfl .nil))))))) ?_
   refine sr (lt' rfl rfl rfl (nn (sq ?_)))
   refine cd rfl (fun c1 => ?_) (fun c1 => ?_)
   · replace hk := hk0.ext ((q1.step q2 (by first | (simp; done) | (simp; omega))).step q3 (by first | (simp; done) | (simp; omega)))
     have hln := sl_len (tab_lp hk (y := y) (n := n) (by omega) (by omega)).1
     have hM2 := (tab_lp hk (y := y) (n := n) (by omega) (by omega)).1.len_le
     unfold maxLen at hM2
     refine sk (tn (sq (bl (sr (s_idxL (lq0) rfl (hk _ (mem_getD (d := tq0) (i := y) (by omega))).1 rfl el40 (by omega) (by omega) nat_of rfl (fun ad21 hc21 => ?_))))))
     refine s_loadA rfl (hc21 _ (hk _ (mem_getD (d := tq0) (i := y) (by omega))).1) ag58 rfl (al zv58 rfl rfl (fun g7 w4 hg7 hb7 q4 z4 => ?_))
     refine s_storeBA (vs := [_, _, _, _]) rfl rfl hb7 (by rfl) (by first | (simp [Value.oneCell', S]; done) | exact Enc.one _ _ | exact encLp.one ((ts.getD y tq0).2.getD n lq0)) sz58 (fun w5 hb7 q5 z5 => ?_)
     refine nn (sr (fad rfl fa58_2 rfl (s_loadB rfl hb7 rfl na31 rfl (lnS rfl Tryz.underlying31 rfl (mv rfl rfl (nn (bl ?_)))))))
     replace hm := (hm.ext q4).fr q5 (by intro k hk hb; simp at hk hb; omega)
     refine lpK (ι := Nat) [(3, _), (11, _), (12, _), (13, _), (17, _), (18, _), (19, _), (24, _), (25, _)] (fun k => [(26, .int .i64 (k : Int))]) (fun k w' => Fr [g10] w5 w' ∧ k ≤ ((ts.getD y tq0).2.getD n lq0).ths.length ∧ MapZ idV w' g10 (.int .i64 0) (cntF (thrU (tabP ts) y n ++ ((ts.getD y tq0).2.getD n lq0).ths.take k))) (fun k => ((ts.getD y tq0).2.getD n lq0).ths.length - k) 0 (.cons rfl (.cons rfl (.cons rfl (.cons rfl (.cons rfl (.cons rfl (.cons rfl (.cons rfl (.cons rfl (.cons rfl .nil)))))))))) ⟨Fr.refl _ _, ⟨Nat.zero_le _, by rw [List.take_zero, List.append_nil]; exact hm⟩⟩ ?_
     rintro k w6 ⟨q6, ⟨hk, hm⟩⟩
     have z6 := q6.size
     refine kpC [(3, _), (11, _), (12, _), (13, _), (17, _), (18, _), (19, _), (24, _), (25, _), (26, _)] (.cons rfl (.cons rfl (.cons rfl (.cons rfl (.cons rfl (.cons rfl (.cons rfl (.cons rfl (.cons rfl (.cons rfl .nil)))))))))) ?_
     refine sr (lt' rfl rfl rfl (nn (sq ?_)))
     refine cd rfl (fun c2 => ?_) (fun c2 => ?_)
     · have hc1 := cnt_once (k := k) hv.thr (y := y) (n := n) (by omega) (by omega) (by omega)
       have hc0 : ((thrU (tabP ts) y n ++ ((ts.getD y tq0).2.getD n lq0).ths.take k)).count (((ts.getD y tq0).2.getD n lq0).ths.getD k id0) = 0 := by
         have h := hc1
         rw [List.count_append, List.count_singleton, if_pos (by simp)] at h; omega
       refine sk (tn (sq (bl (sr ?_))))
       replace hk := hk0.ext (((((q1.step q2 (by first | (simp; done) | (simp; omega))).step q3 (by first | (simp; done) | (simp; omega))).next q4).step q5 (by first | (simp; done) | (simp; omega))).step q6 (by first | (simp; done) | (simp; omega)))
       refine s_idxL (id0) rfl (tab_lp hk (y := y) (n := n) (by omega) (by omega)).1 rfl el31 (by omega) (by omega) nat_of rfl (fun ad28 hc28 => ?_)
       refine s_loadA rfl (hc28 _ (tab_lp hk (y := y) (n := n) (by omega) (by omega)).1) ag39 rfl (al zv39 rfl rfl (fun g9 w7 hg9 hb9 q7 z7 => ?_))
       refine s_storeBA (vs := [_, _]) rfl rfl hb9 (by rfl) (by first | (simp [Value.oneCell', S]; done) | exact Enc.one _ _ | exact encLp.one ((ts.getD y tq0).2.getD n lq0)) sz39 (fun w8 hb9 q8 z8 => ?_)
       refine nn (sq ?_)
       replace hm := (hm.ext q7).fr q8 (by intro k hk hb; simp at hk hb; omega)
       intro a h
       refine region_heldP none (fun wb w' => Fr [g10] wb w') hmix ?_; intro w9 hq
       have z9 := hq.size
       replace hm := hm.ext hq
       replace hb9 := hb9.ext hq
       have q9 := hq
       clear hq; have hC : Fr [g10] w9 w9 := Fr.refl _ _
       have hm_b := hm
       have hb9_b := hb9
       refine hd_move 0 (by kernel_rfl) (by kernel_rfl) (by kernel_rfl) hC h wn rfl rfl rfl ?_; clear h a; intro a h
       refine hd_loadBA 1 (by kernel_rfl) (by kernel_rfl) (by kernel_rfl) hC h wn rfl (fun _ hw => hb9_b.fr hw (by intro e; simp at e; omega)) ag39 rfl rfl ?_; clear h a; intro a h
       refine hd_two 2 4 (by kernel_rfl) rfl rfl ?_ ?_
       · refine id ?_
         refine st_lookupZ (V := idV) (z := (.int .i64 0)) (k := (((ts.getD y tq0).2.getD n lq0).ths.getD k id0)) (v := .int .i64 ((((thrU (tabP ts) y n ++ ((ts.getD y tq0).2.getD n lq0).ths.take k)).count (((ts.getD y tq0).2.getD n lq0).ths.getD k id0) : Nat) : Int)) h rfl rfl hm kLawId Tryz.underlying93 zvI rfl rfl ?_; clear h a; intro a h
         refine hd_next hC ?_
         refine hd_add 3 (by kernel_rfl) (by kernel_rfl) (by kernel_rfl) hC h wn rfl rfl (by first | exact IntWalk.i64_in _ (by omega) | rfl) rfl rfl ?_; clear h a; intro a h
         refine hd_one 4 (by kernel_rfl) rfl ?_
         have hne := hm.ne_blk hb9
         refine st_mapEntryZ (V := idV) (z := (.int .i64 0)) (k := (((ts.getD y tq0).2.getD n lq0).ths.getD k id0)) h rfl rfl hm kLawId Tryz.underlying93 zvI rfl ?_; clear h a; intro w10 st10 he hq z10 a h
         replace hm := he.map
         have q10 := hq
         replace hb9 := hb9.fr hq (by intro e; simp at e; omega)
         replace hC := hC.step hq (by simp)
         clear hq
         refine hd_next hC ?_
         refine hd_extract 5 (by kernel_rfl) (by kernel_rfl) (by kernel_rfl) hC h wn rfl rfl rfl rfl ?_; clear h a; intro a h
         refine hd_one 6 (by kernel_rfl) rfl ?_
         refine st_entryStoreZ (V := idV) (z := (.int .i64 0)) (k := (((ts.getD y tq0).2.getD n lq0).ths.getD k id0)) h rfl rfl rfl he ?_; clear h a he hm; intro w11 hm hq z11 a h
         replace hm : MapZ idV w11 g10 (.int .i64 0) (cntF ((thrU (tabP ts) y n ++ ((ts.getD y tq0).2.getD n lq0).ths.take k) ++ [(((ts.getD y tq0).2.getD n lq0).ths.getD k id0)])) := by rw [← cnt_ins]; exact hm
         have q11 := hq
         replace hb9 := hb9.fr hq (by intro e; simp at e; omega)
         replace hC := hC.step hq (by simp)
         clear hq
         refine hd_next hC ?_
         refine hd_end (by kernel_rfl) ?_
         clear hC hm_b hb9_b
         refine bk (h.sub (L' := [(3, _), (9, _), (11, _), (12, _), (13, _), (17, _), (18, _), (19, _), (24, _), (25, _), (26, _)]) (.cons rfl (.cons rfl (.cons rfl (.cons rfl (.cons rfl (.cons rfl (.cons rfl (.cons rfl (.cons rfl (.cons rfl (.cons rfl .nil)))))))))))) ?_; clear h a
         refine tn (sr (mv rfl rfl (s_loadBA rfl hb9 ag39 rfl ?_)))
         refine s_lookupZ (V := idV) (z := (.int .i64 0)) (k := (((ts.getD y tq0).2.getD n lq0).ths.getD k id0)) (v := .int .i64 ((((thrU (tabP ts) y n ++ ((ts.getD y tq0).2.getD n lq0).ths.take k) ++ [(((ts.getD y tq0).2.getD n lq0).ths.getD k id0)]).count (((ts.getD y tq0).2.getD n lq0).ths.getD k id0) : Nat) : Int)) rfl rfl hm kLawId Tryz.underlying93 zvI rfl rfl ?_
         refine gt' rfl rfl rfl (nn ?_)
         refine cd rfl (fun c3 => ?_) (fun c3 => ?_)
         · refine sr (asg rfl rfl (kpL [(2, _)] (.cons rfl .nil) (nn (rt (rb (tr (tr (rb (rb (tr (tr ?_)))))))))))
           refine rb (rb (tr (tr (rb (tr (r1 Tryz.results57 rfl ?_))))))
           exfalso; omega
         · refine sk (bn' (tn (rg (s_add rfl rfl (wi6 (by omega)) rfl (mv rfl rfl (nl ?_))))))
           exact lpE (k + 1) (.cons rfl (.cons rfl (.cons rfl (.cons rfl (.cons rfl (.cons rfl (.cons rfl (.cons rfl (.cons rfl (.cons rfl .nil)))))))))) ⟨(((((((Fr.refl [g10] _).step q6 (by first | (simp; done) | (simp; omega))).next q7).step q8 (by first | (simp; done) | (simp; omega))).next q9).step q10 (by first | (simp; done) | (simp; omega))).step q11 (by first | (simp; done) | (simp; omega))), ⟨by omega, by rw [take_snoc id0 (by omega), ← List.append_assoc]; exact hm⟩⟩ (by omega)
       · refine id ?_
         have hne := hm.ne_blk hb9
         refine st_mapEntryZ (V := idV) (z := (.int .i64 0)) (k := (((ts.getD y tq0).2.getD n lq0).ths.getD k id0)) h rfl rfl hm kLawId Tryz.underlying93 zvI rfl ?_; clear h a; intro w12 st12 he hq z12 a h
         replace hm := he.map
         have q12 := hq
         replace hb9 := hb9.fr hq (by intro e; simp at e; omega)
         replace hC := hC.step hq (by simp)
         clear hq
         refine hd_next hC ?_
         refine hd_extract 5 (by kernel_rfl) (by kernel_rfl) (by kernel_rfl) hC h wn rfl rfl rfl rfl ?_; clear h a; intro a h
         refine hd_one 2 (by kernel_rfl) rfl ?_
         refine st_lookupZ (V := idV) (z := (.int .i64 0)) (k := (((ts.getD y tq0).2.getD n lq0).ths.getD k id0)) (v := .int .i64 ((((thrU (tabP ts) y n ++ ((ts.getD y tq0).2.getD n lq0).ths.take k)).count (((ts.getD y tq0).2.getD n lq0).ths.getD k id0) : Nat) : Int)) h rfl rfl hm kLawId Tryz.underlying93 zvI rfl rfl ?_; clear h a; intro a h
         refine hd_next hC ?_
         refine hd_add 3 (by kernel_rfl) (by kernel_rfl) (by kernel_rfl) hC h wn rfl rfl (by first | exact IntWalk.i64_in _ (by omega) | rfl) rfl rfl ?_; clear h a; intro a h
         refine hd_one 6 (by kernel_rfl) rfl ?_
         refine st_entryStoreZ (V := idV) (z := (.int .i64 0)) (k := (((ts.getD y tq0).2.getD n lq0).ths.getD k id0)) h rfl rfl rfl he ?_; clear h a he hm; intro w13 hm hq z13 a h
         replace hm : MapZ idV w13 g10 (.int .i64 0) (cntF ((thrU (tabP ts) y n ++ ((ts.getD y tq0).2.getD n lq0).ths.take k) ++ [(((ts.getD y tq0).2.getD n lq0).ths.getD k id0)])) := by rw [← cnt_ins]; exact hm
         have q13 := hq
         replace hb9 := hb9.fr hq (by intro e; simp at e; omega)
         replace hC := hC.step hq (by simp)
         clear hq
         refine hd_next hC ?_
         refine hd_end (by kernel_rfl) ?_
         clear hC hm_b hb9_b
         refine bk (h.sub (L' := [(3, _), (9, _), (11, _), (12, _), (13, _), (17, _), (18, _), (19, _), (24, _), (25, _), (26, _)]) (.cons rfl (.cons rfl (.cons rfl (.cons rfl (.cons rfl (.cons rfl (.cons rfl (.cons rfl (.cons rfl (.cons rfl (.cons rfl .nil)))))))))))) ?_; clear h a
         refine tn (sr (mv rfl rfl (s_loadBA rfl hb9 ag39 rfl ?_)))
         refine s_lookupZ (V := idV) (z := (.int .i64 0)) (k := (((ts.getD y tq0).2.getD n lq0).ths.getD k id0)) (v := .int .i64 ((((thrU (tabP ts) y n ++ ((ts.getD y tq0).2.getD n lq0).ths.take k) ++ [(((ts.getD y tq0).2.getD n lq0).ths.getD k id0)]).count (((ts.getD y tq0).2.getD n lq0).ths.getD k id0) : Nat) : Int)) rfl rfl hm kLawId Tryz.underlying93 zvI rfl rfl ?_
         refine gt' rfl rfl rfl (nn ?_)
         refine cd rfl (fun c3 => ?_) (fun c3 => ?_)
         · refine sr (asg rfl rfl (kpL [(2, _)] (.cons rfl .nil) (nn (rt (rb (tr (tr (rb (rb (tr (tr ?_)))))))))))
           refine rb (rb (tr (tr (rb (tr (r1 Tryz.results57 rfl ?_))))))
           exfalso; omega
         · refine sk (bn' (tn (rg (s_add rfl rfl (wi6 (by omega)) rfl (mv rfl rfl (nl ?_))))))
           exact lpE (k + 1) (.cons rfl (.cons rfl (.cons rfl (.cons rfl (.cons rfl (.cons rfl (.cons rfl (.cons rfl (.cons rfl (.cons rfl .nil)))))))))) ⟨(((((((Fr.refl [g10] _).step q6 (by first | (simp; done) | (simp; omega))).next q7).step q8 (by first | (simp; done) | (simp; omega))).next q9).step q12 (by first | (simp; done) | (simp; omega))).step q13 (by first | (simp; done) | (simp; omega))), ⟨by omega, by rw [take_snoc id0 (by omega), ← List.append_assoc]; exact hm⟩⟩ (by omega)
     · obtain rfl : k = ((ts.getD y tq0).2.getD n lq0).ths.length := by omega
       rw [List.take_length] at hm
       refine ex (te (te (xh (bn' (tn (rg (s_add rfl rfl (wi6 (by omega)) rfl (mv rfl rfl (nl ?_)))))))))
       exact lpE (n + 1) (.cons rfl (.cons rfl (.cons rfl (.cons rfl (.cons rfl (.cons rfl (.cons rfl .nil))))))) ⟨(((((Fr.refl [g10] _).step q3 (by first | (simp; done) | (simp; omega))).next q4).step q5 (by first | (simp; done) | (simp; omega))).step q6 (by first | (simp; done) | (simp; omega))), ⟨by omega, by rw [thrU_succQ (by omega)]; exact hm⟩⟩ (by omega)
   · obtain rfl : n = (ts.getD y tq0).2.length := by omega
     refine ex (te (te (xh (bn' (tn (rg (s_add rfl rfl (wi6 (by omega)) rfl (mv rfl rfl (nl ?_)))))))))
     exact lpE (y + 1) (.cons rfl (.cons rfl (.cons rfl (.cons rfl .nil)))) ⟨(((Fr.refl [g10] _).step q2 (by first | (simp; done) | (simp; omega))).step q3 (by first | (simp; done) | (simp; omega))), ⟨by omega, by rw [thrU_nextQ (by omega)]; exact hm⟩⟩ (by omega)
 · obtain rfl : y = ts.length := by omega
   refine ex (te (te (xh (tn (sr (asg rfl rfl (nn (rt (r1 Tryz.results57 rfl ?_)))))))))
   exact ⟨_, rfl, rfl, (q1.step q2 (by first | (simp; done) | (simp; omega)))⟩
end Go.Proofs.YtkionldalpijpaaGreatDoor
namespace Go.Proofs.YtkionldalpijpaaGreatDoor
open Go.Lw Go.G21

theorem need_ok (q : LpQ) (n : Int) (w0 : World) (hL : LpAt w0 q) (h0 : 0 ≤ n) (hn : n.toNat < (needs q.p).length) (hb : q.ths.length ≤ 4 ∧ q.pas.length ≤ 4096) : Rets Tryz.prog 75 #[.agg #[.int .u8 q.b, .bool q.nw, .slice q.th.1 q.th.2.1 q.th.2.2, .slice q.pa.1 q.pa.2.1 q.pa.2.2], .int .i64 n] w0 fun r w' => r = .agg #[.int .u8 ((needs q.p).getD n.toNat id0).y, .int .i64 ((needs q.p).getD n.toNat id0).n] ∧ Fr [] w0 w' := by
 have hl1 := sl_len hL.1
 have hl2 := sl_len hL.2
 have hM1 := hL.1.len_le
 unfold maxLen at hM1
 have hnl := need_len q
 refine we [(0, .agg #[.int .u8 q.b, .bool q.nw, .slice q.th.1 q.th.2.1 q.th.2.2, .slice q.pa.1 q.pa.2.1 q.pa.2.2]), (1, .int .i64 n)] Tryz.func75 rfl Tryz.ntmps75 rfl (.cons rfl (.cons rfl .nil)) ?_
 have hL0 := hL
 refine sr (bx rfl rfl rfl (fun g2 w1 hg2 hb2 q1 z1 => ?_))
 refine al zv39 rfl rfl (fun g4 w2 hg4 hb4 q2 z2 => ?_)
 refine nn (sq (sr (mv rfl rfl (fad rfl fa58_2 rfl ?_))))
 replace hb2 := hb2.ext q2
 refine s_loadB rfl hb2 rfl na31 rfl (lnS rfl Tryz.underlying31 rfl (lt' rfl rfl rfl (nn ?_)))
 refine cd rfl (fun c0 => ?_) (fun c0 => ?_)
 · refine sr (fad rfl fa58_2 rfl (s_loadB rfl hb2 rfl na31 rfl (mv rfl rfl ?_)))
   replace hL := hL0.ext (q1.next q2)
   refine s_idxL (p := n.toNat) (id0) rfl hL.1 rfl el31 (by omega) (by omega) (by omega) rfl (fun ad13 hc13 => ?_)
   refine s_loadA rfl (hc13 _ hL.1) ag39 rfl (s_storeBA (vs := [_, _]) rfl rfl hb4 (by rfl) (by first | (simp [Value.oneCell', S]; done) | exact Enc.one _ _ | exact encId.one _) sz39 (fun w3 hb4 q3 z3 => ?_))
   refine kpL [(4, _)] (.cons rfl .nil) (nn (rt (tr (rC Tryz.results75 rfl hb4 ag39  ?_))))
   exact ⟨_, rfl, by rw [need_lo (by omega)], ((q1.next q2).step q3 (by first | (simp; done) | (simp; omega)))⟩
 · refine sk (tn (sr (fad rfl fa58_3 rfl (s_loadB rfl hb2 rfl na56 rfl (mv rfl rfl (fad rfl fa58_2 rfl (s_loadB rfl hb2 rfl na31 rfl (lnS rfl Tryz.underlying31 rfl (s_sub rfl rfl (wi6 (by omega)) rfl ?_)))))))))
   replace hL := hL0.ext (q1.next q2)
   refine s_idxL (p := (n.toNat - q.ths.length)) (pa0) rfl hL.2 rfl el56 (by omega) (by omega) (by omega) rfl (fun ad22 hc22 => ?_)
   refine fad rfl fa65_0 rfl (s_loadA rfl (cells_part (vs := [_, _]) (hc22 _ hL.2) rfl) ag39 rfl (s_storeBA (vs := [_, _]) rfl rfl hb4 (by rfl) (by first | (simp [Value.oneCell', S]; done) | exact Enc.one _ _ | exact encId.one _) sz39 (fun w4 hb4 q4 z4 => ?_)))
   refine kpL [(4, _)] (.cons rfl .nil) (nn (rt (rC Tryz.results75 rfl hb4 ag39  ?_)))
   exact ⟨_, rfl, by rw [need_hi (by omega) hn], ((q1.next q2).step q4 (by first | (simp; done) | (simp; omega)))⟩
end Go.Proofs.YtkionldalpijpaaGreatDoor
namespace Go.Proofs.YtkionldalpijpaaGreatDoor
open Go.Lw Go.G21
theorem co55 : CallOf Tryz.prog 55 := CallOf.mk' Tryz.func55 (by kernel_rfl) (by kernel_rfl)
theorem co75 : CallOf Tryz.prog 75 := CallOf.mk' Tryz.func75 (by kernel_rfl) (by kernel_rfl)
theorem zv3 (w : World) : (zeroValue 3).run Tryz.prog w = .ok (.int .i64 0) w := by kernel_rfl
theorem own_ne {α β : Type} {E : Enc α} {E' : Enc β} {T T' b b' : Nat} {w : World} {v v' : Value} {l : List α} {l' : List β} (h : Lw.Own E T b w v l) (h' : Lw.Own E' T' b' w v' l') (hT : T' ≠ T) : ∀ k ∈ blks v, k ∉ blks v' := fun k hk hk' => by
  obtain ⟨cs, hb⟩ := own_blk h k hk
  exact h'.neB hb hT hk'
set_option maxHeartbeats 2000000 in
theorem first_ok (v : Value) (ts : List TQ) (w0 : World) (hs : Sl encTq w0 v ts) (hk : TabAt w0 ts) (hl : ts.length = 6) (hv : TabV (tabP ts)) : Rets Tryz.prog 58 #[v] w0 fun r w' => ∃ l, Lw.Own encId 39 w0.heap.size w' r l ∧ l.length = cntA (tabP ts) ∧ Fr [] w0 w' := by
 obtain ⟨A, c, rfl, hcc, hM, hA⟩ := id hs
 clear hA
 unfold maxLen at hM
 have hrl := tab_len hk
 have hH := hv.has
 have hcn : cntA (tabP ts) ≤ 2048 := hv.ok.cnt
 have hlt6 := len_tab ts
 refine we [(0, .slice A ts.length c)] Tryz.func58 rfl Tryz.ntmps58 rfl (.cons rfl .nil) ?_
 have hs0 := hs
 have hk0 := hk
 refine sr (asg rfl rfl (nn (sr (mv rfl rfl ?_))))
 refine cl (ev1 rfl) co55 (count_ok _ _ _ hs hk (by omega)) rfl ?_
 rintro _ w1 ⟨rfl, q1⟩
 have z1 := q1.size
 refine asg rfl rfl (nn (sr (mv rfl rfl ?_)))
 refine s_makeSlice (m := 0) (c := cntA (tabP ts)) (id0) rfl rfl el31 zv39 rfl (by omega) (by omega) (by unfold maxLen; omega) rfl (fun g15 w2 hg15 hR q2 z2 => ?_)
 refine asg rfl rfl (nn (sr (mv rfl rfl (lnS rfl Tryz.underlying29 rfl ?_))))
 refine s_makeSlice (m := ts.length) (c := ts.length) ((0 : Int)) rfl rfl el67 zv3 rfl (by omega) (by omega) (by unfold maxLen; omega) rfl (fun g18 w3 hg18 hM q3 z3 => ?_)
 refine asg rfl rfl (nn (sr (mv rfl rfl (lnS rfl Tryz.underlying29 rfl ?_))))
 refine s_makeSlice (m := ts.length) (c := ts.length) ((0 : Int)) rfl rfl el67 zv3 rfl (by omega) (by omega) (by unfold maxLen; omega) rfl (fun g21 w4 hg21 hU q4 z4 => ?_)
 refine asg rfl rfl (nn (sq (bl ?_)))
 replace hR := hR.ext (q3.next q4)
 replace hM := hM.ext q4
 refine lpK (ι := Value × List Int × List Int × List LId) [(0, _), (3, _), (5, _), (6, _)] (fun p => [(4, p.1)]) (fun p w' => Fr [] w0 w' ∧ FstI (tabP ts) p.2.1 p.2.2.1 p.2.2.2.length ∧ Lw.Own encId 39 w0.heap.size w' p.1 p.2.2.2 ∧ Lw.Own Enc.i64 3 w0.heap.size w' (.slice (some ⟨g18, 0, none⟩) ts.length ts.length) p.2.1 ∧ Lw.Own Enc.i64 3 w0.heap.size w' (.slice (some ⟨g21, 0, none⟩) ts.length ts.length) p.2.2.1) (fun p => cntA (tabP ts) - p.2.2.2.length) (_, List.replicate ts.length 0, List.replicate ts.length 0, []) (.cons rfl (.cons rfl (.cons rfl (.cons rfl (.cons rfl .nil))))) ⟨(((q1.next q2).next q3).next q4), ⟨by simp only; rw [hl]; exact FstI.init, by simpa using hR.low (by omega), hM.low (by omega), hU.low (by omega)⟩⟩ ?_
 rintro ⟨vR, ms, uu, l⟩ w5 ⟨q5, ⟨hF, hR, hM, hU⟩⟩
 simp only at hF hR hM hU
 have z5 := q5.size
 refine kpC [(0, _), (3, _), (5, _), (6, _), (4, vR)] (.cons rfl (.cons rfl (.cons rfl (.cons rfl (.cons rfl .nil))))) ?_
 have hRM : g18 ∉ blks vR := fun h => own_ne hR hM (by decide) g18 h (List.mem_singleton.2 rfl)
 have hRU : g21 ∉ blks vR := fun h => own_ne hR hU (by decide) g21 h (List.mem_singleton.2 rfl)
 have hMz := (hM.blk g18 (List.mem_singleton.2 rfl)).2
 have hUz := (hU.blk g21 (List.mem_singleton.2 rfl)).2
 obtain ⟨AR, cR, rfl, hcR⟩ := hR.sl.form
 refine sq (sr (mv rfl rfl (lnS rfl Tryz.underlying31 rfl (mv rfl rfl (lt' rfl rfl rfl (nn ?_))))))
 refine cd rfl (fun c0 => ?_) (fun c0 => ?_)
 · refine sk (tn (bl (sc (sr (mv rfl rfl (lnS rfl Tryz.underlying31 rfl (asg rfl rfl (nn (sq (lb (tn ?_)))))))))))
   refine sq (sr (mv rfl rfl (lnS rfl Tryz.underlying29 rfl (mv rfl rfl (nn (bl ?_))))))
   refine lpK (ι := Nat × List Int) [(0, _), (3, _), (4, _), (5, _), (6, _), (7, _), (28, _), (29, _)] (fun p => [(30, .int .i64 (p.1 : Int))]) (fun p w' => Fr [g21] w5 w' ∧ p.1 ≤ 6 ∧ FstI (tabP ts) ms p.2 l.length ∧ (∀ z, z < p.1 → Stuck (tabP ts) ms z) ∧ Lw.Own Enc.i64 3 w0.heap.size w' (.slice (some ⟨g21, 0, none⟩) ts.length ts.length) p.2) (fun p => 6 - p.1) (0, uu) (.cons rfl (.cons rfl (.cons rfl (.cons rfl (.cons rfl (.cons rfl (.cons rfl (.cons rfl (.cons rfl .nil))))))))) ⟨Fr.refl _ _, ⟨Nat.zero_le _, hF, fun z h => absurd h (by simp), hU⟩⟩ ?_
   rintro ⟨y, vs⟩ w6 ⟨q6, ⟨hy, hF, hst, hU⟩⟩
   simp only at hy hF hst hU
   have z6 := q6.size
   refine kpC [(0, _), (3, _), (4, _), (5, _), (6, _), (7, _), (28, _), (29, _), (30, .int .i64 (y : Int))] (.cons rfl (.cons rfl (.cons rfl (.cons rfl (.cons rfl (.cons rfl (.cons rfl (.cons rfl (.cons rfl .nil))))))))) ?_
   refine sr (lt' rfl rfl rfl (nn (sq ?_)))
   refine cd rfl (fun c1 => ?_) (fun c1 => ?_)
   · replace hk := hk0.ext (q5.step q6 (by first | (simp; done) | (simp; omega)))
     have hy6 : y < 6 := by omega
     have hr1 := hrl y
     have hlm := hF.lm
     have hmb := hF.mb y hy6
     have hM1 := (hk _ (mem_getD (d := tq0) (i := y) (by omega))).1.len_le
     unfold maxLen at hM1
     refine sk (tn (sq (bl (sr (mv rfl rfl ?_)))))
     replace hs := hs0.ext (q5.step q6 (by first | (simp; done) | (simp; omega)))
     refine s_idxL (tq0) rfl hs rfl el29 (by omega) (by omega) nat_of rfl (fun ad33 hc33 => ?_)
     refine s_loadC0 rfl (hc33 _ hs) na40 rfl (asg rfl rfl (asg rfl rfl (nn (sq (sr (mv rfl rfl (mv rfl rfl ?_)))))))
     replace hM := hM.fr q6 (by intro k hk hb; have hk := List.mem_singleton.1 hk; have hb := List.mem_singleton.1 (show k ∈ [g18] from hb); omega)
     refine s_idxL (0) rfl hM.sl rfl el67 (by omega) (by omega) nat_of rfl (fun ad37 hc37 => ?_)
     refine s_loadC0 rfl (hc37 _ hM.sl) na3 rfl (mv rfl rfl (lnS rfl Tryz.underlying40 rfl (eq' rfl rfl rfl (kpL [(0, _), (3, _), (4, _), (5, _), (6, _), (7, _), (8, _), (9, _), (28, _), (29, _), (30, _), (41, _)] (.cons rfl (.cons rfl (.cons rfl (.cons rfl (.cons rfl (.cons rfl (.cons rfl (.cons rfl (.cons rfl (.cons rfl (.cons rfl (.cons rfl .nil)))))))))))) (nn ?_)))))
     refine cd rfl (fun c2 => ?_) (fun c2 => ?_)
     · have hsk : Stuck (tabP ts) ms y := .inl (by rw [rowL_tab]; omega)
       refine ex (te (xh (tn (rg (s_add rfl rfl (wi6 (by omega)) rfl (mv rfl rfl (nl ?_)))))))
       exact lpE ((y + 1, _)) (.cons rfl (.cons rfl (.cons rfl (.cons rfl (.cons rfl (.cons rfl (.cons rfl (.cons rfl (.cons rfl .nil))))))))) ⟨((Fr.refl [g21] _).step q6 (by first | (simp; done) | (simp; omega))), ⟨by simp only; omega, hF, fun z h => (by
           by_cases e : z < y
           · exact hst z e
           · obtain rfl : z = y := by simp only at h; omega
             exact hsk), hU⟩⟩ (by simp only; omega)
     · have hlt : ms.getD y 0 < (rowL (tabP ts) y : Int) := by rw [rowL_tab]; rw [rowL_tab] at hmb; omega
       have hlt2 : (ms.getD y 0).toNat < (ts.getD y tq0).2.length := by rw [rowL_tab] at hlt; omega
       have hnd : nd (tabP ts) y (ms.getD y 0) = needs ((ts.getD y tq0).2.getD (ms.getD y 0).toNat lq0).p := by unfold nd; rw [lpA_tab]
       have hnl := need_len ((ts.getD y tq0).2.getD (ms.getD y 0).toNat lq0)
       have hrt := (hv.ok.rts y hy6 _ (by rw [rowL_tab]; exact hlt2)).1
       rw [lpA_tab] at hrt
       have hln1 := sl_len (tab_lp hk (y := y) (n := (ms.getD y 0).toNat) (by omega) hlt2).1
       have hln2 := sl_len (tab_lp hk (y := y) (n := (ms.getD y 0).toNat) (by omega) hlt2).2
       have hb4 : ((ts.getD y tq0).2.getD (ms.getD y 0).toNat lq0).ths.length ≤ 4 := hrt.2.1.1
       have hb5 : ((ts.getD y tq0).2.getD (ms.getD y 0).toNat lq0).pas.length ≤ 4096 := hrt.2.1.2
       refine sk (tn (sr (mv rfl rfl (mv rfl rfl (mv rfl rfl (s_idxL (0) rfl hM.sl rfl el67 (by omega) (by omega) nat_of rfl (fun ad45 hc45 => ?_)))))))
       refine s_loadC0 rfl (hc45 _ hM.sl) na3 rfl (s_idxL (lq0) rfl (hk _ (mem_getD (d := tq0) (i := y) (by omega))).1 rfl el40 (by omega) (by omega) nat_of rfl (fun ad47 hc47 => ?_))
       refine s_loadA rfl (hc47 _ (hk _ (mem_getD (d := tq0) (i := y) (by omega))).1) ag58 rfl (al zv58 rfl rfl (fun g10 w7 hg10 hb10 q7 z7 => ?_))
       refine s_storeBA (vs := [_, _, _, _]) rfl rfl hb10 (by rfl) (by first | (simp [Value.oneCell', S]; done) | exact Enc.one _ _ | exact encLp.one ((ts.getD y tq0).2.getD (ms.getD y 0).toNat lq0) | exact encId.one ((needs ((ts.getD y tq0).2.getD (ms.getD y 0).toNat lq0).p).getD (xs.getD y 0).toNat id0)) sz58 (fun w8 hb10 q8 z8 => ?_)
       refine kpL [(0, _), (3, _), (4, _), (5, _), (6, _), (7, _), (8, _), (10, _), (28, _), (29, _), (30, _)] (.cons rfl (.cons rfl (.cons rfl (.cons rfl (.cons rfl (.cons rfl (.cons rfl (.cons rfl (.cons rfl (.cons rfl (.cons rfl .nil))))))))))) (nn (sq (bl ?_)))
       replace hU := (hU.ext q7).fr q8 (by intro k hk hb; have hk := List.mem_singleton.1 hk; have hb := List.mem_singleton.1 (show k ∈ [g21] from hb); omega)
       refine lpK (ι := List Int) [(0, _), (3, _), (4, _), (5, _), (6, _), (7, _), (8, _), (10, _), (28, _), (29, _), (30, _)] (fun p => []) (fun p w' => Fr [g21] w8 w' ∧ FstI (tabP ts) ms p l.length ∧ Lw.Own Enc.i64 3 w0.heap.size w' (.slice (some ⟨g21, 0, none⟩) ts.length ts.length) p) (fun p => (needs ((ts.getD y tq0).2.getD (ms.getD y 0).toNat lq0).p).length - (p.getD y 0).toNat) vs (.cons rfl (.cons rfl (.cons rfl (.cons rfl (.cons rfl (.cons rfl (.cons rfl (.cons rfl (.cons rfl (.cons rfl (.cons rfl .nil))))))))))) ⟨Fr.refl _ _, ⟨hF, hU⟩⟩ ?_
       rintro xs w9 ⟨q9, ⟨hF, hU⟩⟩
       have z9 := q9.size
       refine kpC [(0, _), (3, _), (4, _), (5, _), (6, _), (7, _), (8, _), (10, _), (28, _), (29, _), (30, _)] (.cons rfl (.cons rfl (.cons rfl (.cons rfl (.cons rfl (.cons rfl (.cons rfl (.cons rfl (.cons rfl (.cons rfl (.cons rfl .nil))))))))))) ?_
       have hub := hF.tb y hy6
       have hlm := hF.lm
       have hlu := hF.lt
       refine sq (sq ?_)
       replace hb10 := hb10.fr q9 (by first | (simp; done) | (simp; omega) | (simp [blks]; done) | (simp [blks]; omega))
       intro a h
       refine region_heldP none (fun wb w' => Fr [] wb w') hmix ?_; intro w10 hq
       have z10 := hq.size
       replace hb10 := hb10.ext hq
       replace hU := hU.ext hq
       have q10 := hq
       clear hq; have hC : Fr [] w10 w10 := Fr.refl _ _
       have hb10_b := hb10
       have hU_b := hU
       refine hd_move 0 (by kernel_rfl) (by kernel_rfl) (by kernel_rfl) hC h wn rfl rfl rfl ?_; clear h a; intro a h
       refine hd_move 1 (by kernel_rfl) (by kernel_rfl) (by kernel_rfl) hC h wn rfl rfl rfl ?_; clear h a; intro a h
       refine hd_idxL (0) 2 (by kernel_rfl) (by kernel_rfl) (by kernel_rfl) hC h wn rfl hU.sl rfl el67 (by omega) (by omega) rfl rfl rfl ?_; clear h a; intro ad51 hc51 a h
       refine hd_loadC0 3 (by kernel_rfl) (by kernel_rfl) (by kernel_rfl) hC h wn rfl (fun _ hw => hc51 _ (hU_b.sl.ext hw)) na3 rfl rfl ?_; clear h a; intro a h
       refine hd_fieldAddr 4 (by kernel_rfl) (by kernel_rfl) (by kernel_rfl) hC h wn rfl fa58_2 rfl rfl ?_; clear h a; intro a h
       refine hd_loadB 5 (by kernel_rfl) (by kernel_rfl) (by kernel_rfl) hC h wn rfl (fun _ hw => hb10_b.ext hw) rfl na31 rfl rfl ?_; clear h a; intro a h
       refine hd_lenS 6 (by kernel_rfl) (by kernel_rfl) (by kernel_rfl) hC h wn rfl Tryz.underlying31 rfl rfl ?_; clear h a; intro a h
       refine hd_fieldAddr 7 (by kernel_rfl) (by kernel_rfl) (by kernel_rfl) hC h wn rfl fa58_3 rfl rfl ?_; clear h a; intro a h
       refine hd_loadB 8 (by kernel_rfl) (by kernel_rfl) (by kernel_rfl) hC h wn rfl (fun _ hw => hb10_b.ext hw) rfl na56 rfl rfl ?_; clear h a; intro a h
       refine hd_lenS 9 (by kernel_rfl) (by kernel_rfl) (by kernel_rfl) hC h wn rfl Tryz.underlying56 rfl rfl ?_; clear h a; intro a h
       refine hd_add 10 (by kernel_rfl) (by kernel_rfl) (by kernel_rfl) hC h wn rfl rfl (by first | exact IntWalk.i64_in _ (by omega) | rfl) rfl rfl ?_; clear h a; intro a h
       refine hd_lt 11 (by kernel_rfl) (by kernel_rfl) (by kernel_rfl) hC h wn rfl rfl rfl rfl ?_; clear h a; intro a h
       refine hd_end (by kernel_rfl) ?_
       clear hC hb10_b hU_b
       refine bk (h.sub (L' := [(0, _), (3, _), (4, _), (5, _), (6, _), (7, _), (8, _), (10, _), (28, _), (29, _), (30, _), (60, _)]) (.cons rfl (.cons rfl (.cons rfl (.cons rfl (.cons rfl (.cons rfl (.cons rfl (.cons rfl (.cons rfl (.cons rfl (.cons rfl (.cons rfl .nil))))))))))))) ?_; clear h a
       refine tn ?_
       refine cd rfl (fun c3 => ?_) (fun c3 => ?_)
       · have c3' : xs.getD y 0 < IntKind.i64.wrap ((((ts.getD y tq0).2.getD (ms.getD y 0).toNat lq0).th.2.1 : Int) + (((ts.getD y tq0).2.getD (ms.getD y 0).toNat lq0).pa.2.1 : Int)) := c3
         rw [IntWalk.i64_in _ (by omega)] at c3'
         have hnn : (xs.getD y 0).toNat < (needs ((ts.getD y tq0).2.getD (ms.getD y 0).toNat lq0).p).length := by rw [hnl]; omega
         have hid : hasP (tabP ts) ((needs ((ts.getD y tq0).2.getD (ms.getD y 0).toNat lq0).p).getD (xs.getD y 0).toNat id0) := hrt.2.2.1 _ (mem_getD hnn)
         have hid1 := hid.1
         have hid2 := hid.2.1
         rw [hlt6] at hid2
         have hlm := hF.lm
         refine sk (tn (bl (sq (sq ?_))))
         replace hk := hk0.ext (((((q5.step q6 (by first | (simp; done) | (simp; omega))).next q7).step q8 (by first | (simp; done) | (simp; omega))).step q9 (by first | (simp; done) | (simp; omega))).next q10)
         intro a h
         refine region_heldP none (fun wb w' => Fr [] wb w') hmix ?_; intro w11 hq
         have z11 := hq.size
         replace hk := hk.ext hq
         replace hb10 := hb10.ext hq
         replace hU := hU.ext hq
         have q11 := hq
         clear hq; have hC : Fr [] w11 w11 := Fr.refl _ _
         have hk_b := hk
         have hb10_b := hb10
         have hU_b := hU
         refine hd_loadBA 0 (by kernel_rfl) (by kernel_rfl) (by kernel_rfl) hC h wn rfl (fun _ hw => hb10_b.ext hw) ag58 rfl rfl ?_; clear h a; intro a h
         refine hd_move 1 (by kernel_rfl) (by kernel_rfl) (by kernel_rfl) hC h wn rfl rfl rfl ?_; clear h a; intro a h
         refine hd_move 2 (by kernel_rfl) (by kernel_rfl) (by kernel_rfl) hC h wn rfl rfl rfl ?_; clear h a; intro a h
         refine hd_idxL (0) 3 (by kernel_rfl) (by kernel_rfl) (by kernel_rfl) hC h wn rfl hU.sl rfl el67 (by omega) (by omega) rfl rfl rfl ?_; clear h a; intro ad64 hc64 a h
         refine hd_loadC0 4 (by kernel_rfl) (by kernel_rfl) (by kernel_rfl) hC h wn rfl (fun _ hw => hc64 _ (hU_b.sl.ext hw)) na3 rfl rfl ?_; clear h a; intro a h
         refine hd_two 5 6 (by kernel_rfl) rfl rfl ?_ ?_
         · refine id ?_
           refine st_call h (evs_cons rfl (evs_cons rfl evs_nil)) co75 (need_ok ((ts.getD y tq0).2.getD (ms.getD y 0).toNat lq0) (xs.getD y 0) _ (tab_lp hk (y := y) (n := (ms.getD y 0).toNat) (by omega) hlt2) hub hnn ⟨hrt.2.1.1, hrt.2.1.2⟩) rfl ?_; clear h a; rintro _ w12 ⟨rfl, hq⟩ a h
           have z12 := hq.size
           replace hk := hk.ext hq
           replace hb10 := hb10.ext hq
           replace hU := hU.ext hq
           replace hC := hC.next hq
           have q12 := hq
           clear hq
           refine hd_next hC ?_
           refine hd_one 6 (by kernel_rfl) rfl ?_
           refine st_alloc h zv39 rfl rfl ?_; clear h a; intro w13 hb11 hq hz a h
           obtain ⟨g_11, hg⟩ : ∃ g, g = w12.heap.size := ⟨_, rfl⟩; rw [← hg] at hb11 h hz
           have hn_0_11 : g10 < g_11 := by have := hb10.lt; omega
           have z13 := hq.size
           replace hk := hk.ext hq
           replace hb10 := hb10.ext hq
           replace hU := hU.ext hq
           replace hC := hC.next hq
           have q13 := hq
           clear hq
           refine hd_next hC ?_
           refine hd_one 7 (by kernel_rfl) rfl ?_
           refine st_storeBA h rfl rfl hb11 rfl (by first | (simp [Value.oneCell', S]; done) | exact Enc.one _ _ | exact encLp.one ((ts.getD y tq0).2.getD (ms.getD y 0).toNat lq0) | exact encId.one ((needs ((ts.getD y tq0).2.getD (ms.getD y 0).toNat lq0).p).getD (xs.getD y 0).toNat id0)) sz39 ?_; clear h a; intro w14 hbn hq hz a h
           have z14 := hq.size
           replace hb10 := hb10.fr hq (by first | (simp; done) | (simp; omega) | (simp [blks]; done) | (simp [blks]; omega))
           replace hU := hU.fr hq (by intro k hk hb; have hk := List.mem_singleton.1 hk; have hb := List.mem_singleton.1 (show k ∈ [g21] from hb); omega)
           replace hC := hC.step hq (by first | (simp; done) | (simp; omega))
           have q14 := hq
           clear hb11 hq hz; have hb11 : Blk w14 g_11 _ [_, _] := hbn; clear hbn
           refine hd_next hC ?_
           refine hd_end (by kernel_rfl) ?_
           clear hC hk_b hb10_b hU_b
           refine bk (h.sub (L' := [(0, _), (3, _), (4, _), (5, _), (6, _), (7, _), (8, _), (10, _), (11, _), (28, _), (29, _), (30, _)]) (.cons rfl (.cons rfl (.cons rfl (.cons rfl (.cons rfl (.cons rfl (.cons rfl (.cons rfl (.cons rfl (.cons rfl (.cons rfl (.cons rfl .nil))))))))))))) ?_; clear h a
           refine tn (sq ?_)
           replace hM := ((((hM.ext q7).fr q8 (by intro k hk hb; have hk := List.mem_singleton.1 hk; have hb := List.mem_singleton.1 (show k ∈ [g18] from hb); omega)).fr q9 (by intro k hk hb; have hk := List.mem_singleton.1 hk; have hb := List.mem_singleton.1 (show k ∈ [g18] from hb); omega)).ext (((q10.next q11).next q12).next q13)).fr q14 (by intro k hk hb; have hk := List.mem_singleton.1 hk; have hb := List.mem_singleton.1 (show k ∈ [g18] from hb); omega)
           intro a h
           refine region_heldP none (fun wb w' => Fr [] wb w') hmix ?_; intro w15 hq
           have z15 := hq.size
           replace hM := hM.ext hq
           replace hb11 := hb11.ext hq
           have q15 := hq
           clear hq; have hC : Fr [] w15 w15 := Fr.refl _ _
           have hM_b := hM
           have hb11_b := hb11
           refine hd_fieldAddr 0 (by kernel_rfl) (by kernel_rfl) (by kernel_rfl) hC h wn rfl fa39_1 rfl rfl ?_; clear h a; intro a h
           refine hd_loadB 1 (by kernel_rfl) (by kernel_rfl) (by kernel_rfl) hC h wn rfl (fun _ hw => hb11_b.ext hw) rfl na3 rfl rfl ?_; clear h a; intro a h
           refine hd_move 2 (by kernel_rfl) (by kernel_rfl) (by kernel_rfl) hC h wn rfl rfl rfl ?_; clear h a; intro a h
           refine hd_fieldAddr 3 (by kernel_rfl) (by kernel_rfl) (by kernel_rfl) hC h wn rfl fa39_0 rfl rfl ?_; clear h a; intro a h
           refine hd_loadB 4 (by kernel_rfl) (by kernel_rfl) (by kernel_rfl) hC h wn rfl (fun _ hw => hb11_b.ext hw) rfl na5 rfl rfl ?_; clear h a; intro a h
           refine hd_sub 5 (by kernel_rfl) (by kernel_rfl) (by kernel_rfl) hC h wn rfl rfl (by first | exact IntWalk.u8_in _ (by omega) | rfl) rfl rfl ?_; clear h a; intro a h
           refine hd_idxL (0) 6 (by kernel_rfl) (by kernel_rfl) (by kernel_rfl) hC h wn rfl hM.sl rfl el67 (by omega) (by omega) rfl rfl rfl ?_; clear h a; intro ad73 hc73 a h
           refine hd_loadC0 7 (by kernel_rfl) (by kernel_rfl) (by kernel_rfl) hC h wn rfl (fun _ hw => hc73 _ (hM_b.sl.ext hw)) na3 rfl rfl ?_; clear h a; intro a h
           refine hd_ge 8 (by kernel_rfl) (by kernel_rfl) (by kernel_rfl) hC h wn rfl rfl rfl rfl ?_; clear h a; intro a h
           refine hd_end (by kernel_rfl) ?_
           clear hC hM_b hb11_b
           refine bk (h.sub (L' := [(0, _), (3, _), (4, _), (5, _), (6, _), (7, _), (8, _), (10, _), (28, _), (29, _), (30, _), (75, _)]) (.cons rfl (.cons rfl (.cons rfl (.cons rfl (.cons rfl (.cons rfl (.cons rfl (.cons rfl (.cons rfl (.cons rfl (.cons rfl (.cons rfl .nil))))))))))))) ?_; clear h a
           refine tn ?_
           refine cd rfl (fun c4 => ?_) (fun c4 => ?_)
           · have hsk : Stuck (tabP ts) ms y := .inr ⟨hlt, ((needs ((ts.getD y tq0).2.getD (ms.getD y 0).toNat lq0).p).getD (xs.getD y 0).toNat id0), by rw [hnd]; exact mem_getD hnn, by unfold InM; omega⟩
             refine ex (te (xo rfl (te (xo rfl (te (xh (tn (rg (s_add rfl rfl (wi6 (by omega)) rfl (mv rfl rfl (nl ?_)))))))))))
             replace hU := hU.ext q15
             exact lpE ((y + 1, _)) (.cons rfl (.cons rfl (.cons rfl (.cons rfl (.cons rfl (.cons rfl (.cons rfl (.cons rfl (.cons rfl .nil))))))))) ⟨(((((((((((Fr.refl [g21] _).step q6 (by first | (simp; done) | (simp; omega))).next q7).step q8 (by first | (simp; done) | (simp; omega))).step q9 (by first | (simp; done) | (simp; omega))).next q10).next q11).next q12).next q13).step q14 (by first | (simp; done) | (simp; omega))).next q15), ⟨by simp only; omega, hF, fun z h => (by
                 by_cases e : z < y
                 · exact hst z e
                 · obtain rfl : z = y := by simp only at h; omega
                   exact hsk), hU⟩⟩ (by simp only; omega)
           · have hF2 := hF.there hy6 (by rw [hnd]; unfold InM; omega)
             refine sk (tn (rg (mv rfl rfl (mv rfl rfl ?_))))
             replace hU := hU.ext q15
             refine s_idxL (0) rfl hU.sl rfl el67 (by omega) (by omega) nat_of rfl (fun ad78 hc78 => ?_)
             refine s_loadC0 rfl (hc78 _ hU.sl) na3 rfl (s_add rfl rfl (wi6 (by omega)) rfl ?_)
             refine s_idxS (p := y) (E := Enc.i64) rfl rfl el67 (by omega) (by omega) (by omega) rfl ?_
             refine s_storeO (i := y) (xs.getD y 0 + 1) rfl rfl hU (by rw [hF.lt]; exact hy6) rfl sz3 (fun w16 hU q16 z16 => ?_)
             refine kpL [(0, _), (3, _), (4, _), (5, _), (6, _), (7, _), (8, _), (10, _), (28, _), (29, _), (30, _)] (.cons rfl (.cons rfl (.cons rfl (.cons rfl (.cons rfl (.cons rfl (.cons rfl (.cons rfl (.cons rfl (.cons rfl (.cons rfl .nil))))))))))) (nl (bn' ?_))
             exact lpE (_) (.cons rfl (.cons rfl (.cons rfl (.cons rfl (.cons rfl (.cons rfl (.cons rfl (.cons rfl (.cons rfl (.cons rfl (.cons rfl .nil))))))))))) ⟨(((((((((Fr.refl [g21] _).step q9 (by first | (simp; done) | (simp; omega))).next q10).next q11).next q12).next q13).step q14 (by first | (simp; done) | (simp; omega))).next q15).step q16 (by first | (simp; done) | (simp; omega))), ⟨hF2, hU⟩⟩ (by rw [set_getI (by rw [hF.lt]; exact hy6), if_pos rfl]; omega)
         · refine id ?_
           refine st_alloc h zv39 rfl rfl ?_; clear h a; intro w17 hb11 hq hz a h
           obtain ⟨g_11, hg⟩ : ∃ g, g = w11.heap.size := ⟨_, rfl⟩; rw [← hg] at hb11 h hz
           have hn_0_11 : g10 < g_11 := by have := hb10.lt; omega
           have z17 := hq.size
           replace hk := hk.ext hq
           replace hb10 := hb10.ext hq
           replace hU := hU.ext hq
           replace hC := hC.next hq
           have q17 := hq
           clear hq
           refine hd_next hC ?_
           refine hd_one 5 (by kernel_rfl) rfl ?_
           refine st_call h (evs_cons rfl (evs_cons rfl evs_nil)) co75 (need_ok ((ts.getD y tq0).2.getD (ms.getD y 0).toNat lq0) (xs.getD y 0) _ (tab_lp hk (y := y) (n := (ms.getD y 0).toNat) (by omega) hlt2) hub hnn ⟨hrt.2.1.1, hrt.2.1.2⟩) rfl ?_; clear h a; rintro _ w18 ⟨rfl, hq⟩ a h
           have z18 := hq.size
           replace hk := hk.ext hq
           replace hb10 := hb10.ext hq
           replace hU := hU.ext hq
           replace hb11 := hb11.ext hq
           replace hC := hC.next hq
           have q18 := hq
           clear hq
           refine hd_next hC ?_
           refine hd_one 7 (by kernel_rfl) rfl ?_
           refine st_storeBA h rfl rfl hb11 rfl (by first | (simp [Value.oneCell', S]; done) | exact Enc.one _ _ | exact encLp.one ((ts.getD y tq0).2.getD (ms.getD y 0).toNat lq0) | exact encId.one ((needs ((ts.getD y tq0).2.getD (ms.getD y 0).toNat lq0).p).getD (xs.getD y 0).toNat id0)) sz39 ?_; clear h a; intro w19 hbn hq hz a h
           have z19 := hq.size
           replace hb10 := hb10.fr hq (by first | (simp; done) | (simp; omega) | (simp [blks]; done) | (simp [blks]; omega))
           replace hU := hU.fr hq (by intro k hk hb; have hk := List.mem_singleton.1 hk; have hb := List.mem_singleton.1 (show k ∈ [g21] from hb); omega)
           replace hC := hC.step hq (by first | (simp; done) | (simp; omega))
           have q19 := hq
           clear hb11 hq hz; have hb11 : Blk w19 g_11 _ [_, _] := hbn; clear hbn
           refine hd_next hC ?_
           refine hd_end (by kernel_rfl) ?_
           clear hC hk_b hb10_b hU_b
           refine bk (h.sub (L' := [(0, _), (3, _), (4, _), (5, _), (6, _), (7, _), (8, _), (10, _), (11, _), (28, _), (29, _), (30, _)]) (.cons rfl (.cons rfl (.cons rfl (.cons rfl (.cons rfl (.cons rfl (.cons rfl (.cons rfl (.cons rfl (.cons rfl (.cons rfl (.cons rfl .nil))))))))))))) ?_; clear h a
           refine tn (sq ?_)
           replace hM := ((((hM.ext q7).fr q8 (by intro k hk hb; have hk := List.mem_singleton.1 hk; have hb := List.mem_singleton.1 (show k ∈ [g18] from hb); omega)).fr q9 (by intro k hk hb; have hk := List.mem_singleton.1 hk; have hb := List.mem_singleton.1 (show k ∈ [g18] from hb); omega)).ext (((q10.next q11).next q17).next q18)).fr q19 (by intro k hk hb; have hk := List.mem_singleton.1 hk; have hb := List.mem_singleton.1 (show k ∈ [g18] from hb); omega)
           intro a h
           refine region_heldP none (fun wb w' => Fr [] wb w') hmix ?_; intro w20 hq
           have z20 := hq.size
           replace hM := hM.ext hq
           replace hb11 := hb11.ext hq
           have q20 := hq
           clear hq; have hC : Fr [] w20 w20 := Fr.refl _ _
           have hM_b := hM
           have hb11_b := hb11
           refine hd_fieldAddr 0 (by kernel_rfl) (by kernel_rfl) (by kernel_rfl) hC h wn rfl fa39_1 rfl rfl ?_; clear h a; intro a h
           refine hd_loadB 1 (by kernel_rfl) (by kernel_rfl) (by kernel_rfl) hC h wn rfl (fun _ hw => hb11_b.ext hw) rfl na3 rfl rfl ?_; clear h a; intro a h
           refine hd_move 2 (by kernel_rfl) (by kernel_rfl) (by kernel_rfl) hC h wn rfl rfl rfl ?_; clear h a; intro a h
           refine hd_fieldAddr 3 (by kernel_rfl) (by kernel_rfl) (by kernel_rfl) hC h wn rfl fa39_0 rfl rfl ?_; clear h a; intro a h
           refine hd_loadB 4 (by kernel_rfl) (by kernel_rfl) (by kernel_rfl) hC h wn rfl (fun _ hw => hb11_b.ext hw) rfl na5 rfl rfl ?_; clear h a; intro a h
           refine hd_sub 5 (by kernel_rfl) (by kernel_rfl) (by kernel_rfl) hC h wn rfl rfl (by first | exact IntWalk.u8_in _ (by omega) | rfl) rfl rfl ?_; clear h a; intro a h
           refine hd_idxL (0) 6 (by kernel_rfl) (by kernel_rfl) (by kernel_rfl) hC h wn rfl hM.sl rfl el67 (by omega) (by omega) rfl rfl rfl ?_; clear h a; intro ad73 hc73 a h
           refine hd_loadC0 7 (by kernel_rfl) (by kernel_rfl) (by kernel_rfl) hC h wn rfl (fun _ hw => hc73 _ (hM_b.sl.ext hw)) na3 rfl rfl ?_; clear h a; intro a h
           refine hd_ge 8 (by kernel_rfl) (by kernel_rfl) (by kernel_rfl) hC h wn rfl rfl rfl rfl ?_; clear h a; intro a h
           refine hd_end (by kernel_rfl) ?_
           clear hC hM_b hb11_b
           refine bk (h.sub (L' := [(0, _), (3, _), (4, _), (5, _), (6, _), (7, _), (8, _), (10, _), (28, _), (29, _), (30, _), (75, _)]) (.cons rfl (.cons rfl (.cons rfl (.cons rfl (.cons rfl (.cons rfl (.cons rfl (.cons rfl (.cons rfl (.cons rfl (.cons rfl (.cons rfl .nil))))))))))))) ?_; clear h a
           refine tn ?_
           refine cd rfl (fun c4 => ?_) (fun c4 => ?_)
           · have hsk : Stuck (tabP ts) ms y := .inr ⟨hlt, ((needs ((ts.getD y tq0).2.getD (ms.getD y 0).toNat lq0).p).getD (xs.getD y 0).toNat id0), by rw [hnd]; exact mem_getD hnn, by unfold InM; omega⟩
             refine ex (te (xo rfl (te (xo rfl (te (xh (tn (rg (s_add rfl rfl (wi6 (by omega)) rfl (mv rfl rfl (nl ?_)))))))))))
             replace hU := hU.ext q20
             exact lpE ((y + 1, _)) (.cons rfl (.cons rfl (.cons rfl (.cons rfl (.cons rfl (.cons rfl (.cons rfl (.cons rfl (.cons rfl .nil))))))))) ⟨(((((((((((Fr.refl [g21] _).step q6 (by first | (simp; done) | (simp; omega))).next q7).step q8 (by first | (simp; done) | (simp; omega))).step q9 (by first | (simp; done) | (simp; omega))).next q10).next q11).next q17).next q18).step q19 (by first | (simp; done) | (simp; omega))).next q20), ⟨by simp only; omega, hF, fun z h => (by
                 by_cases e : z < y
                 · exact hst z e
                 · obtain rfl : z = y := by simp only at h; omega
                   exact hsk), hU⟩⟩ (by simp only; omega)
           · have hF2 := hF.there hy6 (by rw [hnd]; unfold InM; omega)
             refine sk (tn (rg (mv rfl rfl (mv rfl rfl ?_))))
             replace hU := hU.ext q20
             refine s_idxL (0) rfl hU.sl rfl el67 (by omega) (by omega) nat_of rfl (fun ad78 hc78 => ?_)
             refine s_loadC0 rfl (hc78 _ hU.sl) na3 rfl (s_add rfl rfl (wi6 (by omega)) rfl ?_)
             refine s_idxS (p := y) (E := Enc.i64) rfl rfl el67 (by omega) (by omega) (by omega) rfl ?_
             refine s_storeO (i := y) (xs.getD y 0 + 1) rfl rfl hU (by rw [hF.lt]; exact hy6) rfl sz3 (fun w21 hU q21 z21 => ?_)
             refine kpL [(0, _), (3, _), (4, _), (5, _), (6, _), (7, _), (8, _), (10, _), (28, _), (29, _), (30, _)] (.cons rfl (.cons rfl (.cons rfl (.cons rfl (.cons rfl (.cons rfl (.cons rfl (.cons rfl (.cons rfl (.cons rfl (.cons rfl .nil))))))))))) (nl (bn' ?_))
             exact lpE (_) (.cons rfl (.cons rfl (.cons rfl (.cons rfl (.cons rfl (.cons rfl (.cons rfl (.cons rfl (.cons rfl (.cons rfl (.cons rfl .nil))))))))))) ⟨(((((((((Fr.refl [g21] _).step q9 (by first | (simp; done) | (simp; omega))).next q10).next q11).next q17).next q18).step q19 (by first | (simp; done) | (simp; omega))).next q20).step q21 (by first | (simp; done) | (simp; omega))), ⟨hF2, hU⟩⟩ (by rw [set_getI (by rw [hF.lt]; exact hy6), if_pos rfl]; omega)
       · have c3' : ¬ xs.getD y 0 < IntKind.i64.wrap ((((ts.getD y tq0).2.getD (ms.getD y 0).toNat lq0).th.2.1 : Int) + (((ts.getD y tq0).2.getD (ms.getD y 0).toNat lq0).pa.2.1 : Int)) := c3
         rw [IntWalk.i64_in _ (by omega)] at c3'
         have hF2 := hF.push hH hy6 hlt (by rw [hnd, hnl]; omega)
         refine ex (te (te (xh (tn (sr (mv rfl rfl (mv rfl rfl (s_add rfl rfl (wi6 (by omega)) rfl (s_conv rfl (us Tryz.underlying3) Tryz.underlying5 (wi8 (by omega)) rfl (mv rfl rfl (mv rfl rfl ?_)))))))))))
         replace hM := (((hM.ext q7).fr q8 (by intro k hk hb; have hk := List.mem_singleton.1 hk; have hb := List.mem_singleton.1 (show k ∈ [g18] from hb); omega)).fr q9 (by intro k hk hb; have hk := List.mem_singleton.1 hk; have hb := List.mem_singleton.1 (show k ∈ [g18] from hb); omega)).ext q10
         refine s_idxL (0) rfl hM.sl rfl el67 (by omega) (by omega) nat_of rfl (fun ad88 hc88 => ?_)
         refine s_loadC0 rfl (hc88 _ hM.sl) na3 rfl (s_lit (cs := [_, _]) (ev2 rfl rfl) bo39 (pok_cons rfl rfl rfl (pok_cons rfl rfl rfl pok_nil)) rfl rfl ?_)
         refine s_bslice ([(⟨(y : Int) + 1, ms.getD y 0⟩ : LId)]) (ev1 rfl) rfl rfl rfl el31 (Nat.le_of_ble_eq_true rfl) rfl (fun g91 w22 hg91 ho91 q22 z22 => ?_)
         replace hM := hM.ext q22
         replace hU := hU.ext q22
         replace hR := ((((hR.fr q6 (by intro k hk hb; rw [List.mem_singleton.1 hk] at hb; first | exact hRM hb | exact hRU hb | (have h_ := (hR.blk _ hb).2; omega))).ext q7).fr q8 (by intro k hk hb; rw [List.mem_singleton.1 hk] at hb; first | exact hRM hb | exact hRU hb | (have h_ := (hR.blk _ hb).2; omega))).fr q9 (by intro k hk hb; rw [List.mem_singleton.1 hk] at hb; first | exact hRM hb | exact hRU hb | (have h_ := (hR.blk _ hb).2; omega))).ext (q10.next q22)
         have hoo92 := hR
         refine s_append rfl rfl hR ho91.sl el31 (by unfold maxLen; simp only [List.length_append, List.length_cons, List.length_nil]; omega) (by simp only [List.length_append, List.length_cons, List.length_nil]; omega) (by omega) rfl (fun v92 w23 hR q23 hor92 => ?_)
         have z23 := q23.size
         replace hM := hM.fr q23 (fun k hk hb => hRM (by have e := List.mem_singleton.1 (show k ∈ [g18] from hb); rw [← e]; exact hk))
         replace hU := hU.fr q23 (fun k hk hb => hRU (by have e := List.mem_singleton.1 (show k ∈ [g21] from hb); rw [← e]; exact hk))
         clear hRM hRU
         have hRM : g18 ∉ blks v92 := fun h => own_ne hR hM (by decide) g18 h (List.mem_singleton.2 rfl)
         have hRU : g21 ∉ blks v92 := fun h => own_ne hR hU (by decide) g21 h (List.mem_singleton.2 rfl)
         obtain ⟨A92, c92, rfl, _⟩ := hR.sl.form
         refine asg rfl rfl (kpL [(0, _), (3, _), (4, _), (5, _), (6, _), (7, _), (8, _)] (.cons rfl (.cons rfl (.cons rfl (.cons rfl (.cons rfl (.cons rfl (.cons rfl .nil))))))) (nn (sr (mv rfl rfl (mv rfl rfl (s_idxL (0) rfl hM.sl rfl el67 (by omega) (by omega) nat_of rfl (fun ad95 hc95 => ?_)))))))
         refine s_loadC0 rfl (hc95 _ hM.sl) na3 rfl (s_add rfl rfl (wi6 (by omega)) rfl ?_)
         refine s_idxS (p := y) (E := Enc.i64) rfl rfl el67 (by omega) (by omega) (by omega) rfl ?_
         refine s_storeO (i := y) (ms.getD y 0 + 1) rfl rfl hM (by rw [hF.lm]; exact hy6) rfl sz3 (fun w24 hM q24 z24 => ?_)
         refine kpL [(0, _), (3, _), (4, _), (5, _), (6, _), (7, _), (8, _)] (.cons rfl (.cons rfl (.cons rfl (.cons rfl (.cons rfl (.cons rfl (.cons rfl .nil))))))) (nn (sr (mv rfl rfl (mv rfl rfl ?_))))
         replace hU := hU.fr q24 (by intro k hk hb; have hk := List.mem_singleton.1 hk; have hb := List.mem_singleton.1 (show k ∈ [g21] from hb); omega)
         refine s_idxS (p := y) (E := Enc.i64) rfl rfl el67 (by omega) (by omega) (by omega) rfl ?_
         refine s_storeO (i := y) (0) rfl rfl hU (by rw [hF.lt]; exact hy6) rfl sz3 (fun w25 hU q25 z25 => ?_)
         refine nn (ex (xo rfl (te (te (xh (tn (sr (mv rfl rfl (lnS rfl Tryz.underlying31 rfl (mv rfl rfl (eq' rfl rfl rfl ?_)))))))))))
         refine nn ?_
         refine cd rfl (fun c5 => ?_) (fun c5 => ?_)
         · exfalso; simp only [List.length_append, List.length_cons, List.length_nil] at c5; omega
         · skip
           refine sk (gn' (bn' ?_))
           replace hR := (hR.fr q24 (by intro k hk hb; rw [List.mem_singleton.1 hk] at hb; first | exact hRM hb | exact hRU hb | (have h_ := (hR.blk _ hb).2; omega))).fr q25 (by intro k hk hb; rw [List.mem_singleton.1 hk] at hb; first | exact hRM hb | exact hRU hb | (have h_ := (hR.blk _ hb).2; omega))
           replace hM := hM.fr q25 (by intro k hk hb; have hk := List.mem_singleton.1 hk; have hb := List.mem_singleton.1 (show k ∈ [g18] from hb); omega)
           exact lpE ((_, _, _, _)) (.cons rfl (.cons rfl (.cons rfl (.cons rfl (.cons rfl .nil))))) ⟨(((((((((q5.step q6 (by first | (simp; done) | (simp; omega))).next q7).step q8 (by first | (simp; done) | (simp; omega))).step q9 (by first | (simp; done) | (simp; omega))).next q10).next q22).step q23 (fun k hk hlt => absurd (hoo92.blk k hk).1 (by omega))).step q24 (by first | (simp; done) | (simp; omega))).step q25 (by first | (simp; done) | (simp; omega))), ⟨by simpa using hF2, hR, hM, hU⟩⟩ (by simp only [List.length_append, List.length_cons, List.length_nil]; omega)
   · obtain rfl : y = 6 := by omega
     have hdn := hF.done hH hst hv.ok.ord
     refine ex (te (te (xh (tn (sr (mv rfl rfl (lnS rfl Tryz.underlying31 rfl (mv rfl rfl (eq' rfl rfl rfl (kpL [(0, _), (3, _), (4, _), (5, _), (6, _), (106, _)] (.cons rfl (.cons rfl (.cons rfl (.cons rfl (.cons rfl (.cons rfl .nil)))))) (nn ?_)))))))))))
     refine cd rfl (fun c5 => ?_) (fun c5 => ?_)
     · have hlen : l.length = cntA (tabP ts) := hdn
       refine ex (gx' (xo rfl (te (xh (tn (sr (mv rfl rfl (asg rfl rfl (kpL [(2, _)] (.cons rfl .nil) (nn (rt ?_)))))))))))
       refine r1 Tryz.results58 rfl ?_
       replace hR := hR.fr q6 (by intro k hk hb; rw [List.mem_singleton.1 hk] at hb; first | exact hRM hb | exact hRU hb | (have h_ := (hR.blk _ hb).2; omega))
       exact ⟨_, rfl, l, hR, hlen, (q5.step q6 (by first | (simp; done) | (simp; omega)))⟩
     · exact absurd rfl c5
 · have hlen : l.length = cntA (tabP ts) := by have := hF.leI (by omega); omega
   refine ex (te (te (xh (tn (sr (mv rfl rfl (asg rfl rfl (kpL [(2, _)] (.cons rfl .nil) (nn (rt (r1 Tryz.results58 rfl ?_)))))))))))
   exact ⟨_, rfl, l, hR, hlen, q5⟩
end Go.Proofs.YtkionldalpijpaaGreatDoor
namespace Go.Proofs.YtkionldalpijpaaGreatDoor
open Go.Lw Go.G21
theorem co33 : CallOf Tryz.prog 33 := CallOf.mk' Tryz.func33 (by kernel_rfl) (by kernel_rfl)
theorem co56 : CallOf Tryz.prog 56 := CallOf.mk' Tryz.func56 (by kernel_rfl) (by kernel_rfl)
theorem co57 : CallOf Tryz.prog 57 := CallOf.mk' Tryz.func57 (by kernel_rfl) (by kernel_rfl)
theorem co58 : CallOf Tryz.prog 58 := CallOf.mk' Tryz.func58 (by kernel_rfl) (by kernel_rfl)
theorem co59 : CallOf Tryz.prog 59 := CallOf.mk' Tryz.func59 (by kernel_rfl) (by kernel_rfl)
theorem na93 : NotAgg Tryz.prog 93 := fun _ => by kernel_rfl
theorem lcopied_ok (v : Value) (l : List LId) (w0 : World) (hs : Sl encId w0 v l) (hl : l.length ≤ 100000) : Rets Tryz.prog 59 #[v] w0 fun r w' => ∃ A, r = .slice A l.length l.length ∧ Lw.Own encId 39 w0.heap.size w' r l ∧ Fr [] w0 w' := by
 obtain ⟨A, c, rfl, hcc, hM, hA⟩ := id hs
 clear hA
 unfold maxLen at hM
 refine we [(0, .slice A l.length c)] Tryz.func59 rfl Tryz.ntmps59 rfl (.cons rfl .nil) ?_
 have hs0 := hs
 refine sr (asg rfl rfl (nn (sr (mv rfl rfl (lnS rfl Tryz.underlying31 rfl ?_)))))
 refine s_makeSlice (m := l.length) (c := l.length) (id0) rfl rfl el31 zv39 rfl (by omega) (by omega) (by unfold maxLen; omega) rfl (fun g6 w1 hg6 ho q1 z1 => ?_)
 refine asg rfl rfl (nn (sr (mv rfl rfl (mv rfl rfl ?_))))
 replace hs := hs0.ext q1
 refine s_copy (zs := List.replicate l.length id0) (by rw [List.length_replicate]; rfl) rfl (by rw [List.length_replicate]; exact ho) hs (by rw [List.length_replicate]) el31 rfl (fun w2 ho q2 z2 => ?_)
 rw [List.length_replicate] at ho
 refine nn (sr (mv rfl rfl (asg rfl rfl (nn (rt (r1 Tryz.results59 rfl ?_))))))
 exact ⟨_, rfl, some ⟨g6, 0, none⟩, rfl, ho.low (by omega), (q1.step q2 (by first | (simp; done) | (simp; omega)))⟩
theorem fcopied_ok (v : Value) (l : List LId) (w0 : World) (hs : Sl encId w0 v l) (hl : l.length ≤ 100000) : Rets Tryz.prog 18 #[v] w0 fun r w' => ∃ A, r = .slice A l.length l.length ∧ Lw.Own encId 39 w0.heap.size w' r l ∧ Fr [] w0 w' := by
 obtain ⟨A, c, rfl, hcc, hM, hA⟩ := id hs
 clear hA
 unfold maxLen at hM
 refine we [(0, .slice A l.length c)] Tryz.func18 rfl Tryz.ntmps18 rfl (.cons rfl .nil) ?_
 have hs0 := hs
 refine sr (asg rfl rfl (nn (sr (mv rfl rfl (lnS rfl Tryz.underlying31 rfl ?_)))))
 refine s_makeSlice (m := l.length) (c := l.length) (id0) rfl rfl el31 zv39 rfl (by omega) (by omega) (by unfold maxLen; omega) rfl (fun g6 w1 hg6 ho q1 z1 => ?_)
 refine asg rfl rfl (nn (sr (mv rfl rfl (mv rfl rfl ?_))))
 replace hs := hs0.ext q1
 refine s_copy (zs := List.replicate l.length id0) (by rw [List.length_replicate]; rfl) rfl (by rw [List.length_replicate]; exact ho) hs (by rw [List.length_replicate]) el31 rfl (fun w2 ho q2 z2 => ?_)
 rw [List.length_replicate] at ho
 refine nn (sr (mv rfl rfl (asg rfl rfl (nn (rt (r1 Tryz.results18 rfl ?_))))))
 exact ⟨_, rfl, some ⟨g6, 0, none⟩, rfl, ho.low (by omega), (q1.step q2 (by first | (simp; done) | (simp; omega)))⟩
theorem lcheck_ok (v : Value) (ts : List TQ) (w0 : World) (hs : Sl encTq w0 v ts) (hk : TabAt w0 ts) (hl : ts.length = 6) (hv : TabV (tabP ts)) : Rets Tryz.prog 33 #[v] w0 fun r w' => ∃ u, r = .tuple #[u, .int .i64 0] ∧ Fr [] w0 w' := by
 obtain ⟨A, c, rfl, hcc, hM, hA⟩ := id hs
 clear hA
 unfold maxLen at hM
 have hrl := tab_len hk
 have hcn : cntA (tabP ts) ≤ 2048 := hv.ok.cnt
 refine we [(0, .slice A ts.length c)] Tryz.func33 rfl Tryz.ntmps33 rfl (.cons rfl .nil) ?_
 have hs0 := hs
 have hk0 := hk
 refine sr (asg rfl rfl (asg rfl rfl (nn (sq (sr (mv rfl rfl (lnS rfl Tryz.underlying29 rfl (ne' rfl rfl rfl (nn ?_)))))))))
 refine cd rfl (fun c0 => ?_) (fun c0 => ?_)
 · refine sr (asg rfl rfl (asg rfl rfl (nn (rt (tr (r2 Tryz.results33 rfl rfl ?_))))))
   exfalso; first | omega | exact absurd rfl (by assumption) | (simp_all; done) | (simp_all; omega)
 · refine sk (tn (sq (sr (mv rfl rfl ?_))))
   refine cl (ev1 rfl) co55 (count_ok _ _ _ hs hk (by omega)) rfl ?_
   rintro _ w1 ⟨rfl, q1⟩
   have z1 := q1.size
   refine gt' rfl rfl rfl (nn ?_)
   refine cd rfl (fun c1 => ?_) (fun c1 => ?_)
   · refine sr (asg rfl rfl (asg rfl rfl (nn (rt (tr (r2 Tryz.results33 rfl rfl ?_))))))
     exfalso; first | omega | exact absurd rfl (by assumption) | (simp_all; done) | (simp_all; omega)
   · refine sk (tn (sq (sr (mv rfl rfl ?_))))
     replace hs := hs0.ext q1
     replace hk := hk0.ext q1
     refine cl (ev1 rfl) co56 (cloops_ok _ _ _ hs hk hl hv.ok) rfl ?_
     rintro _ w2 ⟨rfl, q2⟩
     have z2 := q2.size
     refine asg rfl rfl (nn (sr (mv rfl rfl (ne' rfl rfl rfl (nn ?_)))))
     refine cd rfl (fun c2 => ?_) (fun c2 => ?_)
     · refine sr (mv rfl rfl (asg rfl rfl (asg rfl rfl (nn (rt (tr (r2 Tryz.results33 rfl rfl ?_)))))))
       exfalso; first | omega | exact absurd rfl (by assumption) | (simp_all; done) | (simp_all; omega)
     · refine sk (tn (sq (sr (mv rfl rfl ?_))))
       replace hs := hs0.ext (q1.next q2)
       replace hk := hk0.ext (q1.next q2)
       refine cl (ev1 rfl) co57 (cthr_ok _ _ _ hs hk hl hv) rfl ?_
       rintro _ w3 ⟨rfl, q3⟩
       have z3 := q3.size
       refine asg rfl rfl (nn (sr (mv rfl rfl (ne' rfl rfl rfl (nn ?_)))))
       refine cd rfl (fun c3 => ?_) (fun c3 => ?_)
       · refine sr (mv rfl rfl (asg rfl rfl (asg rfl rfl (nn (rt (tr (r2 Tryz.results33 rfl rfl ?_)))))))
         exfalso; first | omega | exact absurd rfl (by assumption) | (simp_all; done) | (simp_all; omega)
       · refine sk (tn (sr (mv rfl rfl ?_)))
         replace hs := hs0.ext ((q1.next q2).next q3)
         replace hk := hk0.ext ((q1.next q2).next q3)
         refine cl (ev1 rfl) co58 (first_ok _ _ _ hs hk hl hv) rfl ?_
         rintro V24 w4 ⟨l, ho, hln, q4⟩
         have z4 := q4.size
         obtain ⟨A24, c24, rfl, hc24⟩ := ho.sl.form
         refine asg rfl rfl (nn (sq (sr (mv rfl rfl (lnS rfl Tryz.underlying31 rfl (mv rfl rfl ?_))))))
         replace hs := hs0.ext (((q1.next q2).next q3).next q4)
         replace hk := hk0.ext (((q1.next q2).next q3).next q4)
         refine cl (ev1 rfl) co55 (count_ok _ _ _ hs hk (by omega)) rfl ?_
         rintro _ w5 ⟨rfl, q5⟩
         have z5 := q5.size
         refine lt' rfl rfl rfl (nn ?_)
         refine cd rfl (fun c4 => ?_) (fun c4 => ?_)
         · refine sr (asg rfl rfl (asg rfl rfl (nn (rt (tr (r2 Tryz.results33 rfl rfl ?_))))))
           exfalso; first | omega | exact absurd rfl (by assumption) | (simp_all; done) | (simp_all; omega)
         · refine sk (tn (sr (mv rfl rfl ?_)))
           replace ho := ho.ext q5
           refine cl (ev1 rfl) co59 (lcopied_ok _ _ _ ho.sl (by omega)) rfl ?_
           rintro _ w6 ⟨A31, rfl, ho31, q6⟩
           have z6 := q6.size
           refine asg rfl rfl (asg rfl rfl (nn (rt (r2 Tryz.results33 rfl rfl ?_))))
           exact ⟨_, rfl, _, rfl, (((((q1.next q2).next q3).next q4).next q5).next q6)⟩
theorem lChk_ok (v : Value) (ts : List TQ) (w0 : World) (hs : Sl encTq w0 v ts) (hk : TabAt w0 ts) (hl : ts.length = 6) (hv : TabV (tabP ts)) : Rets Tryz.prog 14 #[v] w0 fun r w' => r = .int .i64 0 ∧ Fr [] w0 w' := by
 obtain ⟨A, c, rfl, hcc, hM, hA⟩ := id hs
 clear hA
 unfold maxLen at hM
 have hrl := tab_len hk
 refine we [(0, .slice A ts.length c)] Tryz.func14 rfl Tryz.ntmps14 rfl (.cons rfl .nil) ?_
 have hs0 := hs
 have hk0 := hk
 refine sr (asg rfl rfl (nn (sr (mv rfl rfl ?_))))
 refine cl (ev1 rfl) co33 (lcheck_ok _ _ _ hs hk hl hv) rfl ?_
 rintro _ w1 ⟨v7, rfl, q1⟩
 have z1 := q1.size
 refine mv rfl rfl (xt rfl rfl rfl (xt rfl rfl rfl (asg rfl rfl (asg rfl rfl (kpL [(4, _)] (.cons rfl .nil) (nn (sr (mv rfl rfl (asg rfl rfl (nn (rt ?_)))))))))))
 refine r1 Tryz.results14 rfl ?_
 exact ⟨_, rfl, rfl, q1⟩
theorem fcross_ok (q : FbQ) (w0 : World) (hF : FbAt w0 q) (hc : q.cs = []) : Rets Tryz.prog 15 #[.agg #[.slice q.t.1 q.t.2.1 q.t.2.2, .slice q.c.1 q.c.2.1 q.c.2.2, .slice q.h.1 q.h.2.1 q.h.2.2, .slice q.f.1 q.f.2.1 q.f.2.2]] w0 fun r w' => r = .int .i64 0 ∧ Fr [] w0 w' := by
 have hm : q.c.2.1 = 0 := by rw [hF.len.2.1, hc]; rfl
 refine we [(0, .agg #[.slice q.t.1 q.t.2.1 q.t.2.2, .slice q.c.1 q.c.2.1 q.c.2.2, .slice q.h.1 q.h.2.1 q.h.2.2, .slice q.f.1 q.f.2.1 q.f.2.2])] Tryz.func15 rfl Tryz.ntmps15 rfl (.cons rfl .nil) ?_
 have hF0 := hF
 refine sr (bx rfl rfl rfl (fun g1 w1 hg1 hb1 q1 z1 => ?_))
 refine asg rfl rfl (nn (sq (sr (fad rfl fa33_1 rfl (s_loadB rfl hb1 rfl na30 rfl (lnS rfl Tryz.underlying30 rfl (mv rfl rfl (nn (bl ?_)))))))))
 refine lpK (ι := Nat) [(1, _), (6, _), (7, _)] (fun k => [(8, .int .i64 (k : Int))]) (fun k w' => Fr [] w1 w' ∧ k ≤ q.c.2.1) (fun k => q.c.2.1 - k) 0 (.cons rfl (.cons rfl (.cons rfl (.cons rfl .nil)))) ⟨Fr.refl _ _, Nat.zero_le _⟩ ?_
 rintro k w2 ⟨q2, hi⟩
 have z2 := q2.size
 refine kpC [(1, _), (6, _), (7, _), (8, _)] (.cons rfl (.cons rfl (.cons rfl (.cons rfl .nil)))) ?_
 refine sr ?_
 refine lt' rfl rfl rfl ?_
 rw [show decide ((k : Int) < (q.c.2.1 : Int)) = false from decide_eq_false (by omega)]
 refine nn (sq (cf rfl (ex (te (te (xh (tn (sr (asg rfl rfl (nn (rt ?_)))))))))))
 refine r1 Tryz.results15 rfl ?_
 exact ⟨_, rfl, rfl, (q1.next q2)⟩
theorem cntn_ok (gp g : Nat) (p : List LId) (A : Option Addr) (m c : Nat) (w0 : World) (hm0 : m = 0) (hbp : Blk w0 gp 93 [.map (some g)]) (hm : MapZ idV w0 g (.int .i64 0) (cntF p)) : Rets Tryz.prog 37 #[.slice A m c, .pointer (some ⟨gp, 0, none⟩)] w0 fun r w' => MapZ idV w' g (.int .i64 0) (cntF p) ∧ Fr [g] w0 w' := by
 refine we [(0, .slice A m c), (1, .pointer (some ⟨gp, 0, none⟩))] Tryz.func37 rfl Tryz.ntmps37 rfl (.cons rfl (.cons rfl .nil)) ?_
 refine sr (mv rfl rfl (lnS rfl Tryz.underlying31 rfl (mv rfl rfl (nn (bl ?_)))))
 refine lpK (ι := Nat) [(1, _), (5, _), (6, _)] (fun k => [(7, .int .i64 (k : Int))]) (fun k w' => Fr [] w0 w' ∧ k ≤ m) (fun k => m - k) 0 (.cons rfl (.cons rfl (.cons rfl (.cons rfl .nil)))) ⟨Fr.refl _ _, Nat.zero_le _⟩ ?_
 rintro k w1 ⟨q1, hi⟩
 have z1 := q1.size
 refine kpC [(1, _), (5, _), (6, _), (7, _)] (.cons rfl (.cons rfl (.cons rfl (.cons rfl .nil)))) ?_
 refine sr ?_
 refine lt' rfl rfl rfl ?_
 rw [show decide ((k : Int) < (m : Int)) = false from decide_eq_false (by omega)]
 refine nn (sq (cf rfl (ex (te (te (xh (r0n Tryz.results37  ?_)))))))
 exact ⟨_, rfl, hm.ext q1, (Fr.refl [g] _).next q1⟩
theorem cntc_ok (gp g : Nat) (p : List LId) (v : Value) (l : List LId) (w0 : World) (hs : Sl encId w0 v l) (hbp : Blk w0 gp 93 [.map (some g)]) (hm : MapZ idV w0 g (.int .i64 0) (cntF p)) (hgv : g ∉ blks v) (hcb : ∀ k, k < l.length → (p ++ l.take k).count (l.getD k id0) ≤ 100000) : Rets Tryz.prog 37 #[v, .pointer (some ⟨gp, 0, none⟩)] w0 fun r w' => MapZ idV w' g (.int .i64 0) (cntF (p ++ l)) ∧ Fr [g] w0 w' := by
 obtain ⟨A, c, rfl, hcc, hM, hA⟩ := id hs
 clear hA
 unfold maxLen at hM
 have hne0 := hm.ne_blk hbp
 have hgl := hbp.lt
 have hgl2 := hm.lt
 refine we [(0, .slice A l.length c), (1, .pointer (some ⟨gp, 0, none⟩))] Tryz.func37 rfl Tryz.ntmps37 rfl (.cons rfl (.cons rfl .nil)) ?_
 have hs0 := hs
 refine sr (mv rfl rfl (lnS rfl Tryz.underlying31 rfl (mv rfl rfl (nn (bl ?_)))))
 refine lpK (ι := Nat) [(1, _), (5, _), (6, _)] (fun k => [(7, .int .i64 (k : Int))]) (fun k w' => Fr [g] w0 w' ∧ k ≤ l.length ∧ MapZ idV w' g (.int .i64 0) (cntF (p ++ l.take k))) (fun k => l.length - k) 0 (.cons rfl (.cons rfl (.cons rfl (.cons rfl .nil)))) ⟨Fr.refl _ _, ⟨Nat.zero_le _, by rw [List.take_zero, List.append_nil]; exact hm⟩⟩ ?_
 rintro k w1 ⟨q1, ⟨hk, hm⟩⟩
 have z1 := q1.size
 refine kpC [(1, _), (5, _), (6, _), (7, _)] (.cons rfl (.cons rfl (.cons rfl (.cons rfl .nil)))) ?_
 refine sr (lt' rfl rfl rfl (nn (sq ?_)))
 refine cd rfl (fun c0 => ?_) (fun c0 => ?_)
 · have hcb1 := hcb k (by omega)
   refine sk (tn (sq (bl (sr ?_))))
   replace hs := hs0.fr ((Fr.refl [g] _).step q1 (by first | (simp; done) | (simp; omega))) (by intro k_ hk_ hb_; rw [List.mem_singleton.1 hk_] at hb_; exact hgv hb_)
   refine s_idxL (id0) rfl hs rfl el31 (by omega) (by omega) nat_of rfl (fun ad9 hc9 => ?_)
   refine s_loadA rfl (hc9 _ hs) ag39 rfl (al zv39 rfl rfl (fun g4 w2 hg4 hb4 q2 z2 => ?_))
   refine s_storeBA (vs := [_, _]) rfl rfl hb4 (by rfl) (by first | (simp [Value.oneCell', S]; done) | exact Enc.one _ _ | exact encId.one _) sz39 (fun w3 hb4 q3 z3 => ?_)
   refine nn ?_
   replace hbp := ((hbp.fr q1 (by intro e; simp at e; omega)).ext q2).fr q3 (by intro e; simp at e; omega)
   replace hm := (hm.ext q2).fr q3 (by intro k hk hb; simp at hk hb; omega)
   intro a h
   refine region_heldP none (fun wb w' => Fr [g] wb w') hmix ?_; intro w4 hq
   have z4 := hq.size
   replace hbp := hbp.ext hq
   replace hm := hm.ext hq
   replace hb4 := hb4.ext hq
   have q4 := hq
   clear hq; have hC : Fr [g] w4 w4 := Fr.refl _ _
   have hbp_b := hbp
   have hm_b := hm
   have hb4_b := hb4
   refine hd_loadB0 0 (by kernel_rfl) (by kernel_rfl) (by kernel_rfl) hC h wn rfl (fun _ hw => hbp_b.fr hw (by intro e; simp at e; omega)) na93 rfl rfl ?_; clear h a; intro a h
   refine hd_loadBA 1 (by kernel_rfl) (by kernel_rfl) (by kernel_rfl) hC h wn rfl (fun _ hw => hb4_b.fr hw (by intro e; simp at e; omega)) ag39 rfl rfl ?_; clear h a; intro a h
   refine hd_two 2 4 (by kernel_rfl) rfl rfl ?_ ?_
   · refine id ?_
     refine st_lookupZ (V := idV) (z := (.int .i64 0)) (k := (l.getD k id0)) (v := .int .i64 ((((p ++ l.take k)).count (l.getD k id0) : Nat) : Int)) h rfl rfl hm kLawId Tryz.underlying93 zvI rfl rfl ?_; clear h a; intro a h
     refine hd_next hC ?_
     refine hd_add 3 (by kernel_rfl) (by kernel_rfl) (by kernel_rfl) hC h wn rfl rfl (by first | exact IntWalk.i64_in _ (by omega) | rfl) rfl rfl ?_; clear h a; intro a h
     refine hd_one 4 (by kernel_rfl) rfl ?_
     have hne := hm.ne_blk hb4
     refine st_mapEntryZ (V := idV) (z := (.int .i64 0)) (k := (l.getD k id0)) h rfl rfl hm kLawId Tryz.underlying93 zvI rfl ?_; clear h a; intro w5 st5 he hq z5 a h
     replace hm := he.map
     have q5 := hq
     replace hb4 := hb4.fr hq (by intro e; simp at e; omega)
     replace hbp := hbp.fr hq (by intro e; simp at e; omega)
     replace hC := hC.step hq (by simp)
     clear hq
     refine hd_next hC ?_
     refine hd_extract 5 (by kernel_rfl) (by kernel_rfl) (by kernel_rfl) hC h wn rfl rfl rfl rfl ?_; clear h a; intro a h
     refine hd_one 6 (by kernel_rfl) rfl ?_
     refine st_entryStoreZ (V := idV) (z := (.int .i64 0)) (k := (l.getD k id0)) h rfl rfl rfl he ?_; clear h a he hm; intro w6 hm hq z6 a h
     replace hm : MapZ idV w6 g (.int .i64 0) (cntF ((p ++ l.take k) ++ [(l.getD k id0)])) := by rw [← cnt_ins]; exact hm
     have q6 := hq
     replace hb4 := hb4.fr hq (by intro e; simp at e; omega)
     replace hbp := hbp.fr hq (by intro e; simp at e; omega)
     replace hC := hC.step hq (by simp)
     clear hq
     refine hd_next hC ?_
     refine hd_end (by kernel_rfl) ?_
     clear hC hbp_b hm_b hb4_b
     refine bk (h.sub (L' := [(1, _), (5, _), (6, _), (7, _)]) (.cons rfl (.cons rfl (.cons rfl (.cons rfl .nil))))) ?_; clear h a
     refine bn' (tn (rg (s_add rfl rfl (wi6 (by omega)) rfl (mv rfl rfl (nl ?_)))))
     exact lpE (k + 1) (.cons rfl (.cons rfl (.cons rfl (.cons rfl .nil)))) ⟨(((((((Fr.refl [g] _).step q1 (by first | (simp; done) | (simp; omega))).next q2).step q3 (by first | (simp; done) | (simp; omega))).next q4).step q5 (by first | (simp; done) | (simp; omega))).step q6 (by first | (simp; done) | (simp; omega))), ⟨by omega, by rw [take_snoc id0 (by omega), ← List.append_assoc]; exact hm⟩⟩ (by omega)
   · refine id ?_
     have hne := hm.ne_blk hb4
     refine st_mapEntryZ (V := idV) (z := (.int .i64 0)) (k := (l.getD k id0)) h rfl rfl hm kLawId Tryz.underlying93 zvI rfl ?_; clear h a; intro w7 st7 he hq z7 a h
     replace hm := he.map
     have q7 := hq
     replace hb4 := hb4.fr hq (by intro e; simp at e; omega)
     replace hbp := hbp.fr hq (by intro e; simp at e; omega)
     replace hC := hC.step hq (by simp)
     clear hq
     refine hd_next hC ?_
     refine hd_extract 5 (by kernel_rfl) (by kernel_rfl) (by kernel_rfl) hC h wn rfl rfl rfl rfl ?_; clear h a; intro a h
     refine hd_one 2 (by kernel_rfl) rfl ?_
     refine st_lookupZ (V := idV) (z := (.int .i64 0)) (k := (l.getD k id0)) (v := .int .i64 ((((p ++ l.take k)).count (l.getD k id0) : Nat) : Int)) h rfl rfl hm kLawId Tryz.underlying93 zvI rfl rfl ?_; clear h a; intro a h
     refine hd_next hC ?_
     refine hd_add 3 (by kernel_rfl) (by kernel_rfl) (by kernel_rfl) hC h wn rfl rfl (by first | exact IntWalk.i64_in _ (by omega) | rfl) rfl rfl ?_; clear h a; intro a h
     refine hd_one 6 (by kernel_rfl) rfl ?_
     refine st_entryStoreZ (V := idV) (z := (.int .i64 0)) (k := (l.getD k id0)) h rfl rfl rfl he ?_; clear h a he hm; intro w8 hm hq z8 a h
     replace hm : MapZ idV w8 g (.int .i64 0) (cntF ((p ++ l.take k) ++ [(l.getD k id0)])) := by rw [← cnt_ins]; exact hm
     have q8 := hq
     replace hb4 := hb4.fr hq (by intro e; simp at e; omega)
     replace hbp := hbp.fr hq (by intro e; simp at e; omega)
     replace hC := hC.step hq (by simp)
     clear hq
     refine hd_next hC ?_
     refine hd_end (by kernel_rfl) ?_
     clear hC hbp_b hm_b hb4_b
     refine bk (h.sub (L' := [(1, _), (5, _), (6, _), (7, _)]) (.cons rfl (.cons rfl (.cons rfl (.cons rfl .nil))))) ?_; clear h a
     refine bn' (tn (rg (s_add rfl rfl (wi6 (by omega)) rfl (mv rfl rfl (nl ?_)))))
     exact lpE (k + 1) (.cons rfl (.cons rfl (.cons rfl (.cons rfl .nil)))) ⟨(((((((Fr.refl [g] _).step q1 (by first | (simp; done) | (simp; omega))).next q2).step q3 (by first | (simp; done) | (simp; omega))).next q4).step q7 (by first | (simp; done) | (simp; omega))).step q8 (by first | (simp; done) | (simp; omega))), ⟨by omega, by rw [take_snoc id0 (by omega), ← List.append_assoc]; exact hm⟩⟩ (by omega)
 · obtain rfl : k = l.length := by omega
   rw [List.take_length] at hm
   refine ex (te (te (xh (r0n Tryz.results37  ?_))))
   exact ⟨_, rfl, hm, ((Fr.refl [g] _).step q1 (by first | (simp; done) | (simp; omega)))⟩
theorem cntd_ok (gp g : Nat) (p : List LId) (v : Value) (l : List LId) (wS w0 : World) (hS : Sl encId wS v l) (hg : wS.heap.size ≤ g) (hs : Sl encId w0 v l) (hbp : Blk w0 gp 93 [.map (some g)]) (hm : MapZ idV w0 g (.int .i64 0) (cntF p)) (hcb : ∀ k, k < l.length → (p ++ l.take k).count (l.getD k id0) ≤ 100000) : Rets Tryz.prog 37 #[v, .pointer (some ⟨gp, 0, none⟩)] w0 fun r w' => MapZ idV w' g (.int .i64 0) (cntF (p ++ l)) ∧ Fr [g] w0 w' := by
  by_cases e : l = []
  · subst e
    obtain ⟨A, c, rfl, _⟩ := hs.form
    rw [List.append_nil]
    exact cntn_ok gp g p A _ c w0 rfl hbp hm
  · exact cntc_ok gp g p v l w0 hs hbp hm (fun h => by have := hS.blk e g h; omega) hcb
/-- What is held, and what has fallen. -/
def hfv (q : FbQ) (z : Nat) : SV := if z = 0 then q.h else q.f
def hfl (q : FbQ) (z : Nat) : List LId := if z = 0 then q.hs else q.fs
theorem hf_sl {q : FbQ} {w : World} (h : FbAt w q) (z : Nat) : Sl encId w (slv (hfv q z)) (hfl q z) := by
  unfold hfv hfl; split
  · exact h.h
  · exact h.f
theorem hf_in {q : FbQ} (z : Nat) {i : LId} (h : i ∈ hfl q z) : i ∈ q.hs ++ q.fs := by
  unfold hfl at h; split at h
  · exact List.mem_append_left _ h
  · exact List.mem_append_right _ h
theorem hf_at {q : FbQ} {z : Nat} (h : z < 2) : [Value.slice q.h.1 q.h.2.1 q.h.2.2, .slice q.f.1 q.f.2.1 q.f.2.2][(z : Int).toNat]? = some (.slice (hfv q z).1 (hfv q z).2.1 (hfv q z).2.2) := by
  obtain rfl | rfl : z = 0 ∨ z = 1 := by omega
  · rfl
  · rfl
end Go.Proofs.YtkionldalpijpaaGreatDoor
namespace Go.Proofs.YtkionldalpijpaaGreatDoor
open Go.Lw Go.G21
theorem bo92 : BuildAt Tryz.prog 92 [(0, 1), (1, 1)] [(.slice none 0 0), (.slice none 0 0)] := BuildAt.array (sz := 1) Tryz.underlying92 (fun _ => by kernel_rfl) (fun _ => by kernel_rfl) (fun i q h => by match i, h with | 0, h => simpa using h.symm | 1, h => simpa using h.symm | (k + 2), h => simp at h)
theorem co14 : CallOf Tryz.prog 14 := CallOf.mk' Tryz.func14 (by kernel_rfl) (by kernel_rfl)
theorem co15 : CallOf Tryz.prog 15 := CallOf.mk' Tryz.func15 (by kernel_rfl) (by kernel_rfl)
theorem co16 : CallOf Tryz.prog 16 := CallOf.mk' Tryz.func16 (by kernel_rfl) (by kernel_rfl)
theorem co34 : CallOf Tryz.prog 34 := CallOf.mk' Tryz.func34 (by kernel_rfl) (by kernel_rfl)
theorem co37 : CallOf Tryz.prog 37 := CallOf.mk' Tryz.func37 (by kernel_rfl) (by kernel_rfl)
theorem sz93 : SizeOf Tryz.prog 93 1 := fun _ => by kernel_rfl
theorem zv93 (w : World) : (zeroValue 93).run Tryz.prog w = .ok (.map none) w := by kernel_rfl
set_option maxHeartbeats 2000000 in
theorem places_ok (q : FbQ) (w0 : World) (hF : FbAt w0 q) (h6 : q.ts.length = 6) (hh : q.hs = []) (hv : TabV (tabP q.ts)) (hp : PlaceOk (tabP q.ts) q.hs q.fs) : Rets Tryz.prog 16 #[.agg #[.slice q.t.1 q.t.2.1 q.t.2.2, .slice q.c.1 q.c.2.1 q.c.2.2, .slice q.h.1 q.h.2.1 q.h.2.2, .slice q.f.1 q.f.2.1 q.f.2.2]] w0 fun r w' => r = .int .i64 0 ∧ Fr [] w0 w' := by
 have hql := hF.len
 have hf1 := hp.asc
 have hly := len_tab q.ts
 have hh0 : q.hs.length = 0 := by rw [hh]; rfl
 refine we [(0, .agg #[.slice q.t.1 q.t.2.1 q.t.2.2, .slice q.c.1 q.c.2.1 q.c.2.2, .slice q.h.1 q.h.2.1 q.h.2.2, .slice q.f.1 q.f.2.1 q.f.2.2])] Tryz.func16 rfl Tryz.ntmps16 rfl (.cons rfl .nil) ?_
 have hF0 := hF
 refine sr (bx rfl rfl rfl (fun g1 w1 hg1 hb1 q1 z1 => ?_))
 refine asg rfl rfl (nn (sq (sr (fad rfl fa33_2 rfl (s_loadB rfl hb1 rfl na31 rfl (fad rfl fa33_3 rfl (s_loadB rfl hb1 rfl na31 rfl (s_lit (cs := [_, _]) (ev2 rfl rfl) bo92 (pok_cons rfl rfl rfl (pok_cons rfl rfl rfl pok_nil)) rfl rfl ?_))))))))
 refine mv rfl rfl (nn (bl ?_))
 refine lpK (ι := Nat) [(1, _), (22, _)] (fun z => [(23, .int .i64 (z : Int))]) (fun z w' => Fr [] w1 w' ∧ z ≤ 2) (fun z => 2 - z) 0 (.cons rfl (.cons rfl (.cons rfl .nil))) ⟨Fr.refl _ _, Nat.zero_le _⟩ ?_
 rintro z w2 ⟨q2, hz⟩
 have z2 := q2.size
 refine kpC [(1, _), (22, _), (23, _)] (.cons rfl (.cons rfl (.cons rfl .nil))) ?_
 refine sr (lt' rfl rfl rfl (nn (sq ?_)))
 refine cd rfl (fun c0 => ?_) (fun c0 => ?_)
 · have hlz := sl_len (hf_sl hF0 z)
   have hlzM := (hf_sl hF0 z).len_le
   unfold maxLen at hlzM
   refine sk (tn (sq (bl (sr ?_))))
   refine s_idxV rfl rfl Tryz.underlying92 sz31 na31 (by omega) (by omega) (hf_at (by omega)) rfl ?_
   refine asg rfl rfl (nn (sr (mv rfl rfl (lnS rfl Tryz.underlying31 rfl (mv rfl rfl (nn (bl ?_)))))))
   refine lpK (ι := Nat) [(1, _), (22, _), (23, _), (26, _), (27, _)] (fun n => [(28, .int .i64 (n : Int))]) (fun n w' => Fr [] w2 w' ∧ n ≤ (hfl q z).length) (fun n => (hfl q z).length - n) 0 (.cons rfl (.cons rfl (.cons rfl (.cons rfl (.cons rfl (.cons rfl .nil)))))) ⟨Fr.refl _ _, Nat.zero_le _⟩ ?_
   rintro n w3 ⟨q3, hn⟩
   have z3 := q3.size
   refine kpC [(1, _), (22, _), (23, _), (26, _), (27, _), (28, _)] (.cons rfl (.cons rfl (.cons rfl (.cons rfl (.cons rfl (.cons rfl .nil)))))) ?_
   refine sr (lt' rfl rfl rfl (nn (sq ?_)))
   refine cd rfl (fun c1 => ?_) (fun c1 => ?_)
   · refine sk (tn (sq (bl (sr ?_))))
     replace hF := hF0.ext ((q1.next q2).next q3)
     refine s_idxL (id0) rfl (hf_sl hF z) rfl el31 (by omega) (by omega) nat_of rfl (fun ad30 hc30 => ?_)
     refine s_loadA rfl (hc30 _ (hf_sl hF z)) ag39 rfl (al zv39 rfl rfl (fun g6 w4 hg6 hb6 q4 z4 => ?_))
     refine s_storeBA (vs := [_, _]) rfl rfl hb6 (by rfl) (by first | (simp [Value.oneCell', S]; done) | exact Enc.one _ _ | exact encLp.one _ | exact encId.one _) sz39 (fun w5 hb6 q5 z5 => ?_)
     refine nn (sr (fad rfl fa33_0 rfl ?_))
     replace hb1 := (hb1.ext ((q2.next q3).next q4)).fr q5 (by first | (simp; done) | (simp; omega) | (simp [blks]; done) | (simp [blks]; omega))
     refine s_loadB rfl hb1 rfl na29 rfl (s_loadBA rfl hb6 ag39 rfl ?_)
     replace hF := hF0.ext ((((q1.next q2).next q3).next q4).step q5 (by first | (simp; done) | (simp; omega)))
     refine cl (ev2 rfl rfl) co34 (fhas_ok ((hfl q z).getD n id0) _ _ _ hF.t hF.tt (by omega) (by have h := hp.has _ (hf_in z (mem_getD (d := id0) (i := n) (by omega))); have := h.1; have := h.2.1; omega)) rfl ?_
     rintro _ w6 ⟨rfl, q6⟩
     have z6 := q6.size
     refine nt' rfl rfl (nn ?_)
     refine cd rfl (fun c2 => ?_) (fun c2 => ?_)
     · refine sr (asg rfl rfl (kpL [(2, _)] (.cons rfl .nil) (nn (rt (rb (tr (tr (rb (rb (tr (tr ?_)))))))))))
       refine rb (tr (r1 Tryz.results16 rfl ?_))
       exact absurd (hp.has _ (hf_in z (mem_getD (d := id0) (i := n) (by omega)))) (by simpa using c2)
     · refine sk (bn' (tn (rg (s_add rfl rfl (wi6 (by omega)) rfl (mv rfl rfl (nl ?_))))))
       exact lpE (n + 1) (.cons rfl (.cons rfl (.cons rfl (.cons rfl (.cons rfl (.cons rfl .nil)))))) ⟨(((q3.next q4).step q5 (by first | (simp; done) | (simp; omega))).next q6), by omega⟩ (by omega)
   · obtain rfl : n = (hfl q z).length := by omega
     refine ex (te (te (xh (bn' (tn (rg (s_add rfl rfl (wi6 (by omega)) rfl (mv rfl rfl (nl ?_)))))))))
     exact lpE (z + 1) (.cons rfl (.cons rfl (.cons rfl .nil))) ⟨(q2.next q3), by omega⟩ (by omega)
 · obtain rfl : z = 2 := by omega
   refine ex (te (te (xh (tn (sq (sr (fad rfl fa33_3 rfl ?_)))))))
   replace hb1 := hb1.ext q2
   refine s_loadB rfl hb1 rfl na31 rfl (lnS rfl Tryz.underlying31 rfl (mv rfl rfl (nn (bl ?_))))
   refine lpK (ι := Nat) [(1, _), (40, _), (41, _)] (fun k => [(42, .int .i64 (k : Int))]) (fun k w' => Fr [] w2 w' ∧ k ≤ q.fs.length) (fun k => q.fs.length - k) 0 (.cons rfl (.cons rfl (.cons rfl (.cons rfl .nil)))) ⟨Fr.refl _ _, Nat.zero_le _⟩ ?_
   rintro k w7 ⟨q7, hk⟩
   have z7 := q7.size
   refine kpC [(1, _), (40, _), (41, _), (42, _)] (.cons rfl (.cons rfl (.cons rfl (.cons rfl .nil)))) ?_
   refine sr (lt' rfl rfl rfl (nn (sq ?_)))
   refine cd rfl (fun c3 => ?_) (fun c3 => ?_)
   · refine sk (tn (sq (bl (sr (mv rfl rfl ?_)))))
     replace hF := hF0.ext ((q1.next q2).next q7)
     refine s_idxL (id0) rfl hF.f rfl el31 (by omega) (by omega) nat_of rfl (fun ad45 hc45 => ?_)
     refine s_loadA rfl (hc45 _ hF.f) ag39 rfl (al zv39 rfl rfl (fun g8 w8 hg8 hb8 q8 z8 => ?_))
     refine asg rfl rfl (s_storeBA (vs := [_, _]) rfl rfl hb8 (by rfl) (by first | (simp [Value.oneCell', S]; done) | exact Enc.one _ _ | exact encLp.one _ | exact encId.one _) sz39 (fun w9 hb8 q9 z9 => ?_))
     refine nn (sq ?_)
     replace hF := hF0.ext ((((q1.next q2).next q7).next q8).step q9 (by first | (simp; done) | (simp; omega)))
     replace hb1 := (hb1.ext (q7.next q8)).fr q9 (by first | (simp; done) | (simp; omega) | (simp [blks]; done) | (simp [blks]; omega))
     intro a h
     refine region_quiet hmix (by kernel_rfl) ?_
     refine qt_move h rfl rfl ?_; clear h a; intro a h
     refine qt_gt h rfl rfl rfl ?_; clear h a; intro a h
     refine qt_move h rfl rfl ?_; clear h a; intro a h
     first | refine guard_dec (D := 49) h rfl (fun hh => absurd hh (by omega)) ?_ | refine guard_ndec (D := 49) h rfl (fun hh => absurd hh (by omega)) ?_
     clear h; intro g0 h
     refine qd_no h rfl rfl rfl rfl rfl rfl rfl rfl ?_; clear h a; intro a h
     refine qd_no h rfl rfl rfl rfl rfl rfl rfl rfl ?_; clear h a; intro a h
     refine qd_no h rfl rfl rfl rfl rfl rfl rfl rfl ?_; clear h a; intro a h
     refine qd_no h rfl rfl rfl rfl rfl rfl rfl rfl ?_; clear h a; intro a h
     refine qd_no h rfl rfl rfl rfl rfl rfl rfl rfl ?_; clear h a; intro a h
     refine qd_no h rfl rfl rfl rfl rfl rfl rfl rfl ?_; clear h a; intro a h
     refine qd_no h rfl rfl rfl rfl rfl rfl rfl rfl ?_; clear h a; intro a h
     refine qd_no h rfl rfl rfl rfl rfl rfl rfl rfl ?_; clear h a; intro a h
     refine qd_no h rfl rfl rfl rfl rfl rfl rfl rfl ?_; clear h a; intro a h
     refine qt_pick_f h rfl rfl rfl rfl ?_; clear h a; intro a h
     refine wpQuiet_nil ?_
     intro w10 q10
     have z10 := q10.size
     refine bk (h.sub (L' := [(1, _), (40, _), (41, _), (42, _), (59, _)]) (.cons rfl (.cons rfl (.cons rfl (.cons rfl (.cons rfl .nil)))))) ?_; clear h a
     refine tn (cf rfl (sk (bn' (tn (rg (s_add rfl rfl (wi6 (by omega)) rfl (mv rfl rfl (nl ?_))))))))
     exact lpE (k + 1) (.cons rfl (.cons rfl (.cons rfl (.cons rfl .nil)))) ⟨(((q7.next q8).step q9 (by first | (simp; done) | (simp; omega))).next q10), by omega⟩ (by omega)
   · obtain rfl : k = q.fs.length := by omega
     refine ex (te (te (xh (tn (sr ?_)))))
     refine s_makeMapZ idV (.int .i64 0) rfl (fun g61 w11 hg61 hm q11 z11 => ?_)
     refine al zv93 rfl rfl (fun g9 w12 hg9 hb9 q12 z12 => ?_)
     refine s_storeB0 rfl rfl hb9 rfl rfl sz93 (fun w13 hb9 q13 z13 => ?_)
     refine nn (sr (s_makeFunc evs_nil (ev1 rfl) rfl (asg rfl rfl (nn (sr (mv rfl rfl (fad rfl fa33_2 rfl ?_)))))))
     replace hb1 := (hb1.ext ((q7.next q11).next q12)).fr q13 (by first | (simp; done) | (simp; omega) | (simp [blks]; done) | (simp [blks]; omega))
     refine s_loadB rfl hb1 rfl na31 rfl ?_
     replace hF := hF0.ext (((((q1.next q2).next q7).next q11).next q12).step q13 (by first | (simp; done) | (simp; omega)))
     replace hm := (hm.ext q12).fr q13 (by intro k hk hb; simp at hk hb; omega)
     refine clv (us := []) (ws := [.pointer (some ⟨g9, 0, none⟩)]) rfl (ev1 rfl) co37 (cntd_ok g9 g61 [] _ _ w0 _ hF0.h (by omega) hF.h hb9 hm (fun k hk => absurd hk (by omega))) rfl (by intro g e; cases e) ?_
     rintro V66 w14 ⟨hm, q14⟩
     have z14 := q14.size
     refine nn (sr (mv rfl rfl (fad rfl fa33_3 rfl ?_)))
     replace hb1 := hb1.fr q14 (by first | (simp; done) | (simp; omega) | (simp [blks]; done) | (simp [blks]; omega))
     refine s_loadB rfl hb1 rfl na31 rfl ?_
     replace hF := hF0.ext ((((((q1.next q2).next q7).next q11).next q12).step q13 (by first | (simp; done) | (simp; omega))).step q14 (by first | (simp; done) | (simp; omega)))
     replace hb9 := hb9.fr q14 (by first | (simp; done) | (simp; omega) | (simp [blks]; done) | (simp [blks]; omega))
     refine clv (us := []) (ws := [.pointer (some ⟨g9, 0, none⟩)]) rfl (ev1 rfl) co37 (cntd_ok g9 g61 ([] ++ q.hs) _ _ w0 _ hF0.f (by omega) hF.f hb9 hm (fun k hk => by rw [hh]; refine Nat.le_trans List.count_le_length ?_; simp only [List.length_append, List.length_nil, List.length_take]; omega)) rfl (by intro g e; cases e) ?_
     rintro V70 w15 ⟨hm, q15⟩
     have z15 := q15.size
     refine nn (sq (sr (fad rfl fa33_0 rfl ?_)))
     replace hb1 := hb1.fr q15 (by first | (simp; done) | (simp; omega) | (simp [blks]; done) | (simp [blks]; omega))
     refine s_loadB rfl hb1 rfl na29 rfl (lnS rfl Tryz.underlying29 rfl (mv rfl rfl (nn (bl ?_))))
     refine lpK (ι := Nat) [(1, _), (9, _), (10, _), (72, _), (73, _)] (fun y => [(74, .int .i64 (y : Int))]) (fun y w' => Fr [g61] w15 w' ∧ y ≤ q.ts.length ∧ MapZ idV w' g61 (.int .i64 0) (cntF ((q.hs ++ q.fs) ++ (thrU (tabP q.ts) y 0)))) (fun y => q.ts.length - y) 0 (.cons rfl (.cons rfl (.cons rfl (.cons rfl (.cons rfl (.cons rfl .nil)))))) ⟨Fr.refl _ _, ⟨Nat.zero_le _, by rw [thrU_zero, List.append_nil]; exact hm⟩⟩ ?_
     rintro y w16 ⟨q16, ⟨hy, hm⟩⟩
     have z16 := q16.size
     refine kpC [(1, _), (9, _), (10, _), (72, _), (73, _), (74, _)] (.cons rfl (.cons rfl (.cons rfl (.cons rfl (.cons rfl (.cons rfl .nil)))))) ?_
     refine sr (lt' rfl rfl rfl (nn (sq ?_)))
     refine cd rfl (fun c5 => ?_) (fun c5 => ?_)
     · have hr1 := tab_len hF0.tt y
       have hM1 := (hF0.tt _ (mem_getD (d := tq0) (i := y) (by omega))).1.len_le
       unfold maxLen at hM1
       refine sk (tn (sq (bl (sr ?_))))
       replace hF := hF0.ext ((((((((q1.next q2).next q7).next q11).next q12).step q13 (by first | (simp; done) | (simp; omega))).step q14 (by first | (simp; done) | (simp; omega))).step q15 (by first | (simp; done) | (simp; omega))).step q16 (by first | (simp; done) | (simp; omega)))
       refine s_idxL (tq0) rfl hF.t rfl el29 (by omega) (by omega) nat_of rfl (fun ad76 hc76 => ?_)
       refine s_loadC0 rfl (hc76 _ hF.t) na40 rfl (asg rfl rfl (nn (sr (mv rfl rfl (lnS rfl Tryz.underlying40 rfl (mv rfl rfl (nn (bl ?_))))))))
       refine lpK (ι := Nat) [(1, _), (9, _), (10, _), (72, _), (73, _), (74, _), (78, _), (79, _)] (fun n => [(80, .int .i64 (n : Int))]) (fun n w' => Fr [g61] w16 w' ∧ n ≤ (q.ts.getD y tq0).2.length ∧ MapZ idV w' g61 (.int .i64 0) (cntF ((q.hs ++ q.fs) ++ (thrU (tabP q.ts) y n)))) (fun n => (q.ts.getD y tq0).2.length - n) 0 (.cons rfl (.cons rfl (.cons rfl (.cons rfl (.cons rfl (.cons rfl (.cons rfl (.cons rfl (.cons rfl .nil))))))))) ⟨Fr.refl _ _, ⟨Nat.zero_le _, hm⟩⟩ ?_
       rintro n w17 ⟨q17, ⟨hn, hm⟩⟩
       have z17 := q17.size
       refine kpC [(1, _), (9, _), (10, _), (72, _), (73, _), (74, _), (78, _), (79, _), (80, _)] (.cons rfl (.cons rfl (.cons rfl (.cons rfl (.cons rfl (.cons rfl (.cons rfl (.cons rfl (.cons rfl .nil))))))))) ?_
       refine sr (lt' rfl rfl rfl (nn (sq ?_)))
       refine cd rfl (fun c6 => ?_) (fun c6 => ?_)
       · have hln := sl_len (tab_lp hF0.tt (y := y) (n := n) (by omega) (by omega)).1
         have hcb : ∀ k, k < ((q.ts.getD y tq0).2.getD n lq0).ths.length → (((q.hs ++ q.fs) ++ thrU (tabP q.ts) y n) ++ ((q.ts.getD y tq0).2.getD n lq0).ths.take k).count (((q.ts.getD y tq0).2.getD n lq0).ths.getD k id0) ≤ 100000 := fun k hk => by
           have hc1 := cnt_once (k := k) hv.thr (y := y) (n := n) (by omega) (by omega) hk
           have hc2 : (q.hs ++ q.fs).count (((q.ts.getD y tq0).2.getD n lq0).ths.getD k id0) ≤ (q.hs ++ q.fs).length := List.count_le_length
           rw [List.length_append] at hc2
           rw [List.count_append, List.count_append]
           rw [List.count_append, List.count_append, List.count_singleton, if_pos (by simp)] at hc1
           omega
         refine sk (tn (sq (bl (sr ?_))))
         replace hF := hF0.ext (((((((((q1.next q2).next q7).next q11).next q12).step q13 (by first | (simp; done) | (simp; omega))).step q14 (by first | (simp; done) | (simp; omega))).step q15 (by first | (simp; done) | (simp; omega))).step q16 (by first | (simp; done) | (simp; omega))).step q17 (by first | (simp; done) | (simp; omega)))
         refine s_idxL (lq0) rfl (hF.tt _ (mem_getD (d := tq0) (i := y) (by omega))).1 rfl el40 (by omega) (by omega) nat_of rfl (fun ad82 hc82 => ?_)
         refine s_loadA rfl (hc82 _ (hF.tt _ (mem_getD (d := tq0) (i := y) (by omega))).1) ag58 rfl (al zv58 rfl rfl (fun g14 w18 hg14 hb14 q18 z18 => ?_))
         refine s_storeBA (vs := [_, _, _, _]) rfl rfl hb14 (by rfl) (by first | (simp [Value.oneCell', S]; done) | exact Enc.one _ _ | exact encLp.one _ | exact encId.one _) sz58 (fun w19 hb14 q19 z19 => ?_)
         refine nn (rg (mv rfl rfl (fad rfl fa58_2 rfl (s_loadB rfl hb14 rfl na31 rfl ?_))))
         replace hF := hF0.ext (((((((((((q1.next q2).next q7).next q11).next q12).step q13 (by first | (simp; done) | (simp; omega))).step q14 (by first | (simp; done) | (simp; omega))).step q15 (by first | (simp; done) | (simp; omega))).step q16 (by first | (simp; done) | (simp; omega))).step q17 (by first | (simp; done) | (simp; omega))).next q18).step q19 (by first | (simp; done) | (simp; omega)))
         replace hb9 := ((((hb9.fr q15 (by first | (simp; done) | (simp; omega) | (simp [blks]; done) | (simp [blks]; omega))).fr q16 (by first | (simp; done) | (simp; omega) | (simp [blks]; done) | (simp [blks]; omega))).fr q17 (by first | (simp; done) | (simp; omega) | (simp [blks]; done) | (simp [blks]; omega))).ext q18).fr q19 (by first | (simp; done) | (simp; omega) | (simp [blks]; done) | (simp [blks]; omega))
         replace hm := (hm.ext q18).fr q19 (by intro k hk hb; simp at hk hb; omega)
         refine clv (us := []) (ws := [.pointer (some ⟨g9, 0, none⟩)]) rfl (ev1 rfl) co37 (cntd_ok g9 g61 ((q.hs ++ q.fs) ++ thrU (tabP q.ts) y n) _ _ w0 _ (tab_lp hF0.tt (y := y) (n := n) (by omega) (by omega)).1 (by omega) (tab_lp hF.tt (y := y) (n := n) (by omega) (by omega)).1 hb9 hm (fun k hk => hcb k hk)) rfl (by intro g e; cases e) ?_
         rintro V87 w20 ⟨hm, q20⟩
         have z20 := q20.size
         refine nl (bn' (tn (rg (s_add rfl rfl (wi6 (by omega)) rfl (mv rfl rfl (nl ?_))))))
         exact lpE (n + 1) (.cons rfl (.cons rfl (.cons rfl (.cons rfl (.cons rfl (.cons rfl (.cons rfl (.cons rfl (.cons rfl .nil))))))))) ⟨(((((Fr.refl [g61] _).step q17 (by first | (simp; done) | (simp; omega))).next q18).step q19 (by first | (simp; done) | (simp; omega))).step q20 (by first | (simp; done) | (simp; omega))), ⟨by omega, by rw [thrU_succQ (by omega), ← List.append_assoc]; exact hm⟩⟩ (by omega)
       · obtain rfl : n = (q.ts.getD y tq0).2.length := by omega
         refine ex (te (te (xh (bn' (tn (rg (s_add rfl rfl (wi6 (by omega)) rfl (mv rfl rfl (nl ?_)))))))))
         exact lpE (y + 1) (.cons rfl (.cons rfl (.cons rfl (.cons rfl (.cons rfl (.cons rfl .nil)))))) ⟨(((Fr.refl [g61] _).step q16 (by first | (simp; done) | (simp; omega))).step q17 (by first | (simp; done) | (simp; omega))), ⟨by omega, by rw [thrU_nextQ (by omega)]; exact hm⟩⟩ (by omega)
     · obtain rfl : y = q.ts.length := by omega
       rw [thrU_all (by rw [len_tab]; omega)] at hm
       refine ex (te (te (xh (tn (sq (sr (fad rfl fa33_0 rfl ?_)))))))
       replace hb1 := hb1.fr q16 (by first | (simp; done) | (simp; omega) | (simp [blks]; done) | (simp [blks]; omega))
       refine s_loadB rfl hb1 rfl na29 rfl (lnS rfl Tryz.underlying29 rfl (mv rfl rfl (kpL [(9, _), (91, _), (92, _), (93, _)] (.cons rfl (.cons rfl (.cons rfl (.cons rfl .nil)))) (nn (bl ?_)))))
       refine lpK (ι := Nat) [(9, _), (91, _), (92, _)] (fun y => [(93, .int .i64 (y : Int))]) (fun y w' => Fr [] w16 w' ∧ y ≤ q.ts.length) (fun y => q.ts.length - y) 0 (.cons rfl (.cons rfl (.cons rfl (.cons rfl .nil)))) ⟨Fr.refl _ _, Nat.zero_le _⟩ ?_
       rintro y w21 ⟨q21, hy⟩
       have z21 := q21.size
       refine kpC [(9, _), (91, _), (92, _), (93, _)] (.cons rfl (.cons rfl (.cons rfl (.cons rfl .nil)))) ?_
       refine sr (lt' rfl rfl rfl (nn (sq ?_)))
       refine cd rfl (fun c7 => ?_) (fun c7 => ?_)
       · have hr1 := tab_len hF0.tt y
         have hM1 := (hF0.tt _ (mem_getD (d := tq0) (i := y) (by omega))).1.len_le
         unfold maxLen at hM1
         refine sk (tn (sq (bl (sr (mv rfl rfl ?_)))))
         replace hF := hF0.ext (((((((((q1.next q2).next q7).next q11).next q12).step q13 (by first | (simp; done) | (simp; omega))).step q14 (by first | (simp; done) | (simp; omega))).step q15 (by first | (simp; done) | (simp; omega))).step q16 (by first | (simp; done) | (simp; omega))).next q21)
         refine s_idxL (tq0) rfl hF.t rfl el29 (by omega) (by omega) nat_of rfl (fun ad96 hc96 => ?_)
         refine s_loadC0 rfl (hc96 _ hF.t) na40 rfl (asg rfl rfl (asg rfl rfl (nn (sr (mv rfl rfl (lnS rfl Tryz.underlying40 rfl (mv rfl rfl (nn (bl ?_)))))))))
         refine lpK (ι := Nat) [(9, _), (15, _), (91, _), (92, _), (93, _), (99, _)] (fun n => [(100, .int .i64 (n : Int))]) (fun n w' => Fr [] w21 w' ∧ n ≤ (q.ts.getD y tq0).2.length) (fun n => (q.ts.getD y tq0).2.length - n) 0 (.cons rfl (.cons rfl (.cons rfl (.cons rfl (.cons rfl (.cons rfl (.cons rfl .nil))))))) ⟨Fr.refl _ _, Nat.zero_le _⟩ ?_
         rintro n w22 ⟨q22, hn⟩
         have z22 := q22.size
         refine kpC [(9, _), (15, _), (91, _), (92, _), (93, _), (99, _), (100, _)] (.cons rfl (.cons rfl (.cons rfl (.cons rfl (.cons rfl (.cons rfl (.cons rfl .nil))))))) ?_
         refine sr (lt' rfl rfl rfl (nn (sq ?_)))
         refine cd rfl (fun c8 => ?_) (fun c8 => ?_)
         · have hon := hp.once y (by omega) n (by rw [rowL_tab]; omega)
           refine sk (tn (sq (bl (sr (mv rfl rfl (asg rfl rfl (nn (sr ?_))))))))
           replace hb9 := ((hb9.fr q15 (by first | (simp; done) | (simp; omega) | (simp [blks]; done) | (simp [blks]; omega))).fr q16 (by first | (simp; done) | (simp; omega) | (simp [blks]; done) | (simp [blks]; omega))).ext (q21.next q22)
           refine s_loadB0 rfl hb9 na93 rfl (mv rfl rfl (s_add rfl rfl (wi6 (by omega)) rfl (s_conv rfl (us Tryz.underlying3) Tryz.underlying5 (wi8 (by omega)) rfl (mv rfl rfl (s_lit (cs := [_, _]) (ev2 rfl rfl) bo39 (pok_cons rfl rfl rfl (pok_cons rfl rfl rfl pok_nil)) rfl rfl ?_)))))
           replace hm := hm.ext (q21.next q22)
           refine s_lookupZ (V := idV) (z := (.int .i64 0)) (k := (⟨(y : Int) + 1, (n : Int)⟩ : LId)) (v := .int .i64 (((((q.hs ++ q.fs) ++ thrA (tabP q.ts))).count (⟨(y : Int) + 1, (n : Int)⟩ : LId) : Nat) : Int)) rfl rfl hm kLawId Tryz.underlying93 zvI rfl rfl ?_
           refine ne' rfl rfl rfl (kpL [(9, _), (15, _), (91, _), (92, _), (93, _), (99, _), (100, _), (110, _)] (.cons rfl (.cons rfl (.cons rfl (.cons rfl (.cons rfl (.cons rfl (.cons rfl (.cons rfl .nil)))))))) (nn ?_))
           refine cd rfl (fun c9 => ?_) (fun c9 => ?_)
           · refine sr (asg rfl rfl (kpL [(2, _)] (.cons rfl .nil) (nn (rt (rb (tr (tr (rb (rb (tr (tr ?_)))))))))))
             refine rb (tr (r1 Tryz.results16 rfl ?_))
             exfalso; omega
           · refine sk (bn' (tn (rg (s_add rfl rfl (wi6 (by omega)) rfl (mv rfl rfl (nl ?_))))))
             exact lpE (n + 1) (.cons rfl (.cons rfl (.cons rfl (.cons rfl (.cons rfl (.cons rfl (.cons rfl .nil))))))) ⟨q22, by omega⟩ (by omega)
         · obtain rfl : n = (q.ts.getD y tq0).2.length := by omega
           refine ex (te (te (xh (bn' (tn (rg (s_add rfl rfl (wi6 (by omega)) rfl (mv rfl rfl (nl ?_)))))))))
           exact lpE (y + 1) (.cons rfl (.cons rfl (.cons rfl (.cons rfl .nil)))) ⟨(q21.next q22), by omega⟩ (by omega)
       · obtain rfl : y = q.ts.length := by omega
         refine ex (te (te (xh (tn (sr (asg rfl rfl (nn (rt (r1 Tryz.results16 rfl ?_)))))))))
         exact ⟨_, rfl, rfl, (((((((((q1.next q2).next q7).next q11).next q12).step q13 (by first | (simp; done) | (simp; omega))).step q14 (by first | (simp; done) | (simp; omega))).step q15 (by first | (simp; done) | (simp; omega))).step q16 (by first | (simp; done) | (simp; omega))).next q21)⟩
theorem fchk_ok (q : FbQ) (w0 : World) (hF : FbAt w0 q) (h6 : q.ts.length = 6) (hc : q.cs = []) (hh : q.hs = []) (hv : TabV (tabP q.ts)) (hp : PlaceOk (tabP q.ts) q.hs q.fs) : Rets Tryz.prog 6 #[.agg #[.slice q.t.1 q.t.2.1 q.t.2.2, .slice q.c.1 q.c.2.1 q.c.2.2, .slice q.h.1 q.h.2.1 q.h.2.2, .slice q.f.1 q.f.2.1 q.f.2.2]] w0 fun r w' => r = .int .i64 0 ∧ Fr [] w0 w' := by
 refine we [(0, .agg #[.slice q.t.1 q.t.2.1 q.t.2.2, .slice q.c.1 q.c.2.1 q.c.2.2, .slice q.h.1 q.h.2.1 q.h.2.2, .slice q.f.1 q.f.2.1 q.f.2.2])] Tryz.func6 rfl Tryz.ntmps6 rfl (.cons rfl .nil) ?_
 have hF0 := hF
 refine sr (bx rfl rfl rfl (fun g1 w1 hg1 hb1 q1 z1 => ?_))
 refine asg rfl rfl (nn (sq (sr (fad rfl fa33_0 rfl (s_loadB rfl hb1 rfl na29 rfl ?_)))))
 replace hF := hF0.ext q1
 refine cl (ev1 rfl) co14 (lChk_ok _ _ _ hF.t hF.tt h6 hv) rfl ?_
 rintro _ w2 ⟨rfl, q2⟩
 have z2 := q2.size
 refine asg rfl rfl (nn (sr (mv rfl rfl (ne' rfl rfl rfl (nn ?_)))))
 refine cd rfl (fun c0 => ?_) (fun c0 => ?_)
 · refine sr (mv rfl rfl (asg rfl rfl (nn (rt (tr (r1 Tryz.results6 rfl ?_))))))
   exact absurd rfl (by assumption)
 · refine sk (tn (sq (sr ?_)))
   replace hb1 := hb1.ext q2
   refine s_loadBA rfl hb1 ag33 rfl ?_
   replace hF := hF0.ext (q1.next q2)
   refine cl (ev1 rfl) co15 (fcross_ok q _ hF hc) rfl ?_
   rintro _ w3 ⟨rfl, q3⟩
   have z3 := q3.size
   refine asg rfl rfl (nn (sr (mv rfl rfl (ne' rfl rfl rfl (nn ?_)))))
   refine cd rfl (fun c1 => ?_) (fun c1 => ?_)
   · refine sr (mv rfl rfl (asg rfl rfl (nn (rt (tr (r1 Tryz.results6 rfl ?_))))))
     exact absurd rfl (by assumption)
   · refine sk (tn (sr ?_))
     replace hb1 := hb1.ext q3
     refine s_loadBA rfl hb1 ag33 rfl ?_
     replace hF := hF0.ext ((q1.next q2).next q3)
     refine cl (ev1 rfl) co16 (places_ok q _ hF h6 hh hv hp) rfl ?_
     rintro _ w4 ⟨rfl, q4⟩
     have z4 := q4.size
     refine asg rfl rfl (nn (rt (r1 Tryz.results6 rfl ?_)))
     exact ⟨_, rfl, rfl, (((q1.next q2).next q3).next q4)⟩
end Go.Proofs.YtkionldalpijpaaGreatDoor
namespace Go.Proofs.YtkionldalpijpaaGreatDoor
open Go.Lw Go.G21
theorem co17 : CallOf Tryz.prog 17 := CallOf.mk' Tryz.func17 (by kernel_rfl) (by kernel_rfl)
theorem co18 : CallOf Tryz.prog 18 := CallOf.mk' Tryz.func18 (by kernel_rfl) (by kernel_rfl)
theorem fast_ok (i : LId) (v : Value) (ts : List TQ) (w0 : World) (hs : Sl encTq w0 v ts) (hk : TabAt w0 ts) (hl : ts.length = 6) (hi : hasP (tabP ts) i) (hla : i.n + 1 = ((ts.getD (i.y - 1).toNat tq0).2.length : Int)) (hth : 1 ≤ ((ts.getD (i.y - 1).toNat tq0).2.getD i.n.toNat lq0).ths.length) : Rets Tryz.prog 17 #[v, .agg #[.int .u8 i.y, .int .i64 i.n]] w0 fun r w' => r = .bool true ∧ Fr [] w0 w' := by
 obtain ⟨A, c, rfl, hcc, hM, hA⟩ := id hs
 clear hA
 unfold maxLen at hM
 have hrl := tab_len hk
 have hr1 := hrl (i.y - 1).toNat
 have hip := hasP_tab.1 hi
 have hln := sl_len (tab_lp hk (y := (i.y - 1).toNat) (n := i.n.toNat) (by omega) (by omega)).1
 have hM1 := (hk _ (mem_getD (d := tq0) (i := (i.y - 1).toNat) (by omega))).1.len_le
 unfold maxLen at hM1
 refine we [(0, .slice A ts.length c), (1, .agg #[.int .u8 i.y, .int .i64 i.n])] Tryz.func17 rfl Tryz.ntmps17 rfl (.cons rfl (.cons rfl .nil)) ?_
 have hs0 := hs
 have hk0 := hk
 refine sr (bx rfl rfl rfl (fun g3 w1 hg3 hb3 q1 z1 => ?_))
 refine asg rfl rfl (nn (sq (sq ?_)))
 replace hs := hs0.ext q1
 replace hk := hk0.ext q1
 intro a h
 refine region_heldP none (fun wb w' => Fr [] wb w') hmix ?_; intro w2 hq
 have z2 := hq.size
 replace hs := hs.ext hq
 replace hk := hk.ext hq
 replace hb3 := hb3.ext hq
 have q2 := hq
 clear hq; have hC : Fr [] w2 w2 := Fr.refl _ _
 have hs_b := hs
 have hk_b := hk
 have hb3_b := hb3
 refine hd_move 0 (by kernel_rfl) (by kernel_rfl) (by kernel_rfl) hC h wn rfl rfl rfl ?_; clear h a; intro a h
 refine hd_loadBA 1 (by kernel_rfl) (by kernel_rfl) (by kernel_rfl) hC h wn rfl (fun _ hw => hb3_b.ext hw) ag39 rfl rfl ?_; clear h a; intro a h
 refine hd_one 2 (by kernel_rfl) rfl ?_
 refine st_call h (evs_cons rfl (evs_cons rfl evs_nil)) co34 (fhas_ok i _ _ _ hs hk (by omega) (by omega)) rfl ?_; clear h a; rintro _ w3 ⟨rfl, hq⟩ a h
 have z3 := hq.size
 replace hs := hs.ext hq
 replace hk := hk.ext hq
 replace hb3 := hb3.ext hq
 replace hC := hC.next hq
 have q3 := hq
 clear hq
 refine hd_next hC ?_
 refine hd_not 3 (by kernel_rfl) (by kernel_rfl) (by kernel_rfl) hC h wn rfl rfl rfl ?_; clear h a; intro a h
 refine hd_move 4 (by kernel_rfl) (by kernel_rfl) (by kernel_rfl) hC h wn rfl rfl rfl ?_; clear h a; intro a h
 first | refine guard_dec (D := 9) h rfl (fun hh => absurd hh (by exact fun e => e hi)) ?_ | refine guard_ndec (D := 9) h rfl (fun hh => absurd hh (by exact fun e => e hi)) ?_
 clear h; intro g0 h
 refine hd_fieldAddr 5 (by kernel_rfl) (by kernel_rfl) (by kernel_rfl) hC h (wy rfl) rfl fa39_1 rfl rfl ?_; clear h a; intro a h
 refine hd_loadB 6 (by kernel_rfl) (by kernel_rfl) (by kernel_rfl) hC h (wy rfl) rfl (fun _ hw => hb3_b.ext hw) rfl na3 rfl rfl ?_; clear h a; intro a h
 refine hd_move 7 (by kernel_rfl) (by kernel_rfl) (by kernel_rfl) hC h (wy rfl) rfl rfl rfl ?_; clear h a; intro a h
 refine hd_fieldAddr 8 (by kernel_rfl) (by kernel_rfl) (by kernel_rfl) hC h (wy rfl) rfl fa39_0 rfl rfl ?_; clear h a; intro a h
 refine hd_loadB 9 (by kernel_rfl) (by kernel_rfl) (by kernel_rfl) hC h (wy rfl) rfl (fun _ hw => hb3_b.ext hw) rfl na5 rfl rfl ?_; clear h a; intro a h
 refine hd_sub 10 (by kernel_rfl) (by kernel_rfl) (by kernel_rfl) hC h (wy rfl) rfl rfl (by first | exact IntWalk.u8_in _ (by omega) | rfl) rfl rfl ?_; clear h a; intro a h
 refine hd_idxL (p := (i.y - 1).toNat) (tq0) 11 (by kernel_rfl) (by kernel_rfl) (by kernel_rfl) hC h (wy rfl) rfl hs rfl el29 (by omega) (by omega) (by omega) rfl rfl ?_; clear h a; intro ad16 hc16 a h
 refine hd_loadC0 12 (by kernel_rfl) (by kernel_rfl) (by kernel_rfl) hC h (wy rfl) rfl (fun _ hw => hc16 _ (hs_b.ext hw)) na40 rfl rfl ?_; clear h a; intro a h
 refine hd_lenS 13 (by kernel_rfl) (by kernel_rfl) (by kernel_rfl) hC h (wy rfl) rfl Tryz.underlying40 rfl rfl ?_; clear h a; intro a h
 refine hd_sub 14 (by kernel_rfl) (by kernel_rfl) (by kernel_rfl) hC h (wy rfl) rfl rfl (by first | exact IntWalk.i64_in _ (by omega) | rfl) rfl rfl ?_; clear h a; intro a h
 refine hd_ne 15 (by kernel_rfl) (by kernel_rfl) (by kernel_rfl) hC h (wy rfl) rfl rfl rfl rfl ?_; clear h a; intro a h
 refine hd_one 16 (by kernel_rfl) rfl ?_
 refine st_pick_f h rfl rfl rfl rfl ?_; clear h a; intro a h
 refine hd_next hC ?_
 refine hd_end (by kernel_rfl) ?_
 clear hC hs_b hk_b hb3_b
 refine bk (h.sub (L' := [(0, _), (3, _), (21, _)]) (.cons rfl (.cons rfl (.cons rfl .nil)))) ?_; clear h a
 refine tn ?_
 refine cd rfl (fun c0 => ?_) (fun c0 => ?_)
 · refine sr (asg rfl rfl (nn (rt (tr (r1 Tryz.results17 rfl ?_)))))
   have ew := IntWalk.i64_in (((ts.getD (i.y - 1).toNat tq0).1.2.1 : Int) - 1) (by omega)
   exfalso; omega
 · refine sk (tn (sq ?_))
   intro a h
   refine region_heldP none (fun wb w' => Fr [] wb w') hmix ?_; intro w4 hq
   have z4 := hq.size
   replace hs := hs.ext hq
   replace hk := hk.ext hq
   replace hb3 := hb3.ext hq
   have q4 := hq
   clear hq; have hC : Fr [] w4 w4 := Fr.refl _ _
   have hs_b := hs
   have hk_b := hk
   have hb3_b := hb3
   refine hd_move 0 (by kernel_rfl) (by kernel_rfl) (by kernel_rfl) hC h wn rfl rfl rfl ?_; clear h a; intro a h
   refine hd_fieldAddr 1 (by kernel_rfl) (by kernel_rfl) (by kernel_rfl) hC h wn rfl fa39_0 rfl rfl ?_; clear h a; intro a h
   refine hd_loadB 2 (by kernel_rfl) (by kernel_rfl) (by kernel_rfl) hC h wn rfl (fun _ hw => hb3_b.ext hw) rfl na5 rfl rfl ?_; clear h a; intro a h
   refine hd_sub 3 (by kernel_rfl) (by kernel_rfl) (by kernel_rfl) hC h wn rfl rfl (by first | exact IntWalk.u8_in _ (by omega) | rfl) rfl rfl ?_; clear h a; intro a h
   refine hd_idxL (p := (i.y - 1).toNat) (tq0) 4 (by kernel_rfl) (by kernel_rfl) (by kernel_rfl) hC h wn rfl hs rfl el29 (by omega) (by omega) (by omega) rfl rfl ?_; clear h a; intro ad26 hc26 a h
   refine hd_loadC0 5 (by kernel_rfl) (by kernel_rfl) (by kernel_rfl) hC h wn rfl (fun _ hw => hc26 _ (hs_b.ext hw)) na40 rfl rfl ?_; clear h a; intro a h
   refine hd_fieldAddr 6 (by kernel_rfl) (by kernel_rfl) (by kernel_rfl) hC h wn rfl fa39_1 rfl rfl ?_; clear h a; intro a h
   refine hd_loadB 7 (by kernel_rfl) (by kernel_rfl) (by kernel_rfl) hC h wn rfl (fun _ hw => hb3_b.ext hw) rfl na3 rfl rfl ?_; clear h a; intro a h
   refine hd_idxL (p := i.n.toNat) (lq0) 8 (by kernel_rfl) (by kernel_rfl) (by kernel_rfl) hC h wn rfl (hk _ (mem_getD (d := tq0) (i := (i.y - 1).toNat) (by omega))).1 rfl el40 (by omega) (by omega) (by omega) rfl rfl ?_; clear h a; intro ad30 hc30 a h
   refine hd_fieldAddr 9 (by kernel_rfl) (by kernel_rfl) (by kernel_rfl) hC h wn rfl fa58_2 rfl rfl ?_; clear h a; intro a h
   refine hd_loadC 10 (by kernel_rfl) (by kernel_rfl) (by kernel_rfl) hC h wn rfl (fun _ hw => hc30 _ ((hk _ (mem_getD (d := tq0) (i := (i.y - 1).toNat) (by omega))).1.ext hw)) rfl na31 rfl rfl ?_; clear h a; intro a h
   refine hd_lenS 11 (by kernel_rfl) (by kernel_rfl) (by kernel_rfl) hC h wn rfl Tryz.underlying31 rfl rfl ?_; clear h a; intro a h
   refine hd_gt 12 (by kernel_rfl) (by kernel_rfl) (by kernel_rfl) hC h wn rfl rfl rfl rfl ?_; clear h a; intro a h
   refine hd_one 13 (by kernel_rfl) rfl ?_
   refine st_assign h rfl rfl ?_; clear h a; intro a h
   refine hd_next hC ?_
   refine hd_end (by kernel_rfl) ?_
   clear hC hs_b hk_b hb3_b
   refine bk (h.sub (L' := [(4, _)]) (.cons rfl .nil)) ?_; clear h a
   refine tn (rt (r1 Tryz.results17 rfl ?_))
   exact ⟨_, rfl, congrArg Value.bool (decide_eq_true (by omega)), (((q1.next q2).next q3).next q4)⟩
theorem undone_ok (q : FbQ) (w0 : World) (hF : FbAt w0 q) (h6 : q.ts.length = 6) (hu : ∀ i, i < q.fs.length → hasP (tabP q.ts) (q.fs.getD i id0) ∧ (q.fs.getD i id0).n + 1 = ((q.ts.getD ((q.fs.getD i id0).y - 1).toNat tq0).2.length : Int) ∧ 1 ≤ ((q.ts.getD ((q.fs.getD i id0).y - 1).toNat tq0).2.getD (q.fs.getD i id0).n.toNat lq0).ths.length) : Rets Tryz.prog 7 #[.agg #[.slice q.t.1 q.t.2.1 q.t.2.2, .slice q.c.1 q.c.2.1 q.c.2.2, .slice q.h.1 q.h.2.1 q.h.2.2, .slice q.f.1 q.f.2.1 q.f.2.2]] w0 fun r w' => ∃ A, r = .slice A 0 0 ∧ Fr [] w0 w' := by
 have hql := hF.len
 have hM := hF.f.len_le
 unfold maxLen at hM
 refine we [(0, .agg #[.slice q.t.1 q.t.2.1 q.t.2.2, .slice q.c.1 q.c.2.1 q.c.2.2, .slice q.h.1 q.h.2.1 q.h.2.2, .slice q.f.1 q.f.2.1 q.f.2.2])] Tryz.func7 rfl Tryz.ntmps7 rfl (.cons rfl .nil) ?_
 have hF0 := hF
 refine sr (bx rfl rfl rfl (fun g1 w1 hg1 hb1 q1 z1 => ?_))
 refine asg rfl rfl (nn (sr (asg rfl rfl (nn (sq (sr (fad rfl fa33_3 rfl (s_loadB rfl hb1 rfl na31 rfl (lnS rfl Tryz.underlying31 rfl (mv rfl rfl (nn ?_)))))))))))
 refine bl ?_
 refine lpK (ι := Nat) [(1, _), (3, _), (7, _), (8, _)] (fun i => [(9, .int .i64 (i : Int))]) (fun i w' => Fr [] w1 w' ∧ i ≤ q.fs.length) (fun i => q.fs.length - i) 0 (.cons rfl (.cons rfl (.cons rfl (.cons rfl (.cons rfl .nil))))) ⟨Fr.refl _ _, Nat.zero_le _⟩ ?_
 rintro i w2 ⟨q2, hi⟩
 have z2 := q2.size
 refine kpC [(1, _), (3, _), (7, _), (8, _), (9, _)] (.cons rfl (.cons rfl (.cons rfl (.cons rfl (.cons rfl .nil))))) ?_
 refine sr (lt' rfl rfl rfl (nn (sq ?_)))
 refine cd rfl (fun c0 => ?_) (fun c0 => ?_)
 · have hui := hu i (by omega)
   refine sk (tn (sq (bl (sr ?_))))
   replace hF := hF0.ext (q1.next q2)
   refine s_idxL (id0) rfl hF.f rfl el31 (by omega) (by omega) nat_of rfl (fun ad11 hc11 => ?_)
   refine s_loadA rfl (hc11 _ hF.f) ag39 rfl (al zv39 rfl rfl (fun g5 w3 hg5 hb5 q3 z3 => ?_))
   refine s_storeBA (vs := [_, _]) rfl rfl hb5 (by rfl) (by first | (simp [Value.oneCell', S]; done) | exact Enc.one _ _ | exact encId.one _) sz39 (fun w4 hb5 q4 z4 => ?_)
   refine nn (sr (fad rfl fa33_0 rfl ?_))
   replace hb1 := (hb1.ext (q2.next q3)).fr q4 (by first | (simp; done) | (simp; omega) | (simp [blks]; done) | (simp [blks]; omega))
   refine s_loadB rfl hb1 rfl na29 rfl (s_loadBA rfl hb5 ag39 rfl ?_)
   replace hF := hF0.ext (((q1.next q2).next q3).step q4 (by first | (simp; done) | (simp; omega)))
   refine cl (ev2 rfl rfl) co17 (fast_ok (q.fs.getD i id0) _ _ _ hF.t hF.tt h6 hui.1 hui.2.1 hui.2.2) rfl ?_
   rintro _ w5 ⟨rfl, q5⟩
   have z5 := q5.size
   refine nt' rfl rfl (nn (cf rfl (sk (bn' (tn (rg (s_add rfl rfl (wi6 (by omega)) rfl (mv rfl rfl (nl ?_)))))))))
   exact lpE (i + 1) (.cons rfl (.cons rfl (.cons rfl (.cons rfl (.cons rfl .nil))))) ⟨(((q2.next q3).step q4 (by first | (simp; done) | (simp; omega))).next q5), by omega⟩ (by omega)
 · obtain rfl : i = q.fs.length := by omega
   refine ex (te (te (xh (tn (sr (mv rfl rfl ?_))))))
   refine cl (ev1 rfl) co18 (fcopied_ok _ [] _ (Sl.nil _) (by simp)) rfl ?_
   rintro _ w6 ⟨A24, rfl, ho24, q6⟩
   have z6 := q6.size
   refine asg rfl rfl (kpL [(2, _)] (.cons rfl .nil) (nn (rt (r1 Tryz.results7 rfl ?_))))
   exact ⟨_, rfl, A24, rfl, ((q1.next q2).next q6)⟩
end Go.Proofs.YtkionldalpijpaaGreatDoor
namespace Go.Proofs.YtkionldalpijpaaGreatDoor
open Go.Lw Go.G21
theorem ag24 : AggOf Tryz.prog 24 2 := ⟨fun _ => by kernel_rfl, fun _ => by kernel_rfl⟩
theorem co4 : CallOf Tryz.prog 4 := CallOf.mk' Tryz.func4 (by kernel_rfl) (by kernel_rfl)
theorem co6 : CallOf Tryz.prog 6 := CallOf.mk' Tryz.func6 (by kernel_rfl) (by kernel_rfl)
theorem co7 : CallOf Tryz.prog 7 := CallOf.mk' Tryz.func7 (by kernel_rfl) (by kernel_rfl)
theorem co8 : CallOf Tryz.prog 8 := CallOf.mk' Tryz.func8 (by kernel_rfl) (by kernel_rfl)
theorem snd_facts {W : Nat} {rs : List UInt8} {q : FbQ} (h0 : tubE (W : Int) rs = 0) (hp : q.p = tubF W rs) : q.ts.length = 6 ∧ q.cs = [] ∧ q.hs = [] ∧ TabV (tabP q.ts) ∧ PlaceOk (tabP q.ts) q.hs q.fs ∧ q.fs = [⟨((lastY rs).toNat : Int), ((q.ts.getD ((lastY rs).toNat - 1) tq0).2.length : Int) - 1⟩] ∧ (1 ≤ (lastY rs).toNat ∧ (lastY rs).toNat ≤ 6) ∧ 1 ≤ (q.ts.getD ((lastY rs).toNat - 1) tq0).2.length ∧ ∀ i, i < q.fs.length → hasP (tabP q.ts) (q.fs.getD i id0) ∧ (q.fs.getD i id0).n + 1 = ((q.ts.getD ((q.fs.getD i id0).y - 1).toNat tq0).2.length : Int) ∧ 1 ≤ ((q.ts.getD ((q.fs.getD i id0).y - 1).toNat tq0).2.getD (q.fs.getD i id0).n.toNat lq0).ths.length := by
  obtain ⟨hO, hP, hT, hR⟩ := tub_sound h0
  have ht : tabP q.ts = tubT W rs := congrArg Fb.t hp
  have hh : q.hs = [] := congrArg Fb.h hp
  have hc : q.cs = [] := congrArg Fb.c hp
  have hf : q.fs = (tubF W rs).f := congrArg Fb.f hp
  rw [← ht] at hO hT hR
  have hP' : PlaceOk (tabP q.ts) q.hs q.fs := by rw [ht, hh, hf]; exact hP
  obtain ⟨_, _, h3, _, h5⟩ := tub_of h0
  have hy := lastY_in h3 h5
  rw [rowL_tab] at hT hR
  have hf2 : q.fs = [⟨((lastY rs).toNat : Int), ((q.ts.getD ((lastY rs).toNat - 1) tq0).2.length : Int) - 1⟩] := by
    rw [hf, ← rowL_tab, ht]; rfl
  have hl6 : q.ts.length = 6 := by rw [← len_tab]; exact hO.six
  refine ⟨hl6, hc, hh, tabV hO hP', hP', hf2, hy, hR, fun i hi => ?_⟩
  have e0 : q.fs.getD i id0 = ⟨((lastY rs).toNat : Int), ((q.ts.getD ((lastY rs).toNat - 1) tq0).2.length : Int) - 1⟩ := by
    rw [hf2] at hi ⊢
    have : i = 0 := by simpa using hi
    subst this; rfl
  have hm : hasP (tabP q.ts) (q.fs.getD i id0) := hP'.has _ (List.mem_append_right _ (mem_getD hi))
  refine ⟨hm, ?_, ?_⟩
  · rw [e0]; simp only
    rw [show (((lastY rs).toNat : Int) - 1).toNat = (lastY rs).toNat - 1 by omega]; omega
  · rw [e0]; simp only
    rw [show (((lastY rs).toNat : Int) - 1).toNat = (lastY rs).toNat - 1 by omega, show (((q.ts.getD ((lastY rs).toNat - 1) tq0).2.length : Int) - 1).toNat = (q.ts.getD ((lastY rs).toNat - 1) tq0).2.length - 1 by omega]
    rw [lpA_tab] at hT
    exact Nat.pos_of_ne_zero fun e => hT (List.length_eq_zero_iff.1 e)
set_option maxHeartbeats 1000000 in
theorem law_sound (b : Int) (v : Value) (xs : List UInt8) (w0 : World) (hG : Glob w0) (hb : 0 ≤ b ∧ b ≤ 255) (hs : Sl Enc.b w0 v xs) : Rets Tryz.prog 3 #[.agg #[.int .u8 b, v]] w0 fun r w' => r = .bool true ∧ Fr [] w0 w' := by
 obtain ⟨Ax, cx, rfl, hcx, hMx, hAx⟩ := id hs
 clear hAx
 unfold maxLen at hMx
 have hGs := hG.sz
 refine we [(0, .agg #[.int .u8 b, .slice Ax xs.length cx])] Tryz.func3 rfl Tryz.ntmps3 rfl (.cons rfl .nil) ?_
 have hs0 := hs
 have hG0 := hG
 refine sr (bx rfl rfl rfl (fun g1 w1 hg1 hb1 q1 z1 => ?_))
 refine asg rfl rfl (nn (sr (s_loadBA rfl hb1 ag24 rfl ?_)))
 replace hs := hs0.ext q1
 refine cl (ev1 rfl) co4 (uof_ok b _ xs _ hb hs) rfl ?_
 rintro _ w2 ⟨At, ct, rfl, hst, q2⟩
 have z2 := q2.size
 obtain ⟨W, hW⟩ : ∃ W : Nat, 1 + b % 8 = (W : Int) := ⟨(1 + b % 8).toNat, by omega⟩
 rw [hW]
 have h0 : tubE (W : Int) (uR xs) = 0 := by rw [← hW]; exact uR_ok hb xs
 have hrl1 : 1 ≤ (uR xs).length := (tub_of h0).2.2.1
 have hrl2 : (uR xs).length ≤ 31 := (tub_of h0).2.2.2.1
 have hst0 := hst
 refine al zv26 rfl rfl (fun g3 w3 hg3 hb3 q3 z3 => ?_)
 refine s_storeBA (vs := [_, _]) rfl rfl hb3 (by rfl) (by first | (simp [Value.oneCell', S]; done) | exact Enc.one _ _ | exact encId.one _) sz26 (fun w4 hb3 q4 z4 => ?_)
 refine nn (sr (s_loadBA rfl hb3 ag26 rfl ?_))
 replace hst := hst0.ext (q3.step q4 (by first | (simp; done) | (simp; omega)))
 refine cl (ev1 rfl) co5 (of_ok W _ (uR xs) _ hst h0) rfl ?_
 rintro _ w5 ⟨qf, rfl, hkf, hpf, q5⟩
 have z5 := q5.size
 have hfA := hkf.at
 obtain ⟨h6, hcs, hhs, htv, hpo, hfs, hy6, hrow, hun⟩ := snd_facts h0 hpf
 have hql := hfA.len
 have hcl : qf.c.2.1 = 0 := by rw [hql.2.1, hcs]; rfl
 have hhl : qf.h.2.1 = 0 := by rw [hql.2.2.1, hhs]; rfl
 have hfl : qf.f.2.1 = 1 := by rw [hql.2.2.2, hfs]; rfl
 have hrw1 := tab_len hfA.tt ((lastY (uR xs)).toNat - 1)
 have hye : (((uR xs).getD ((uR xs).length - 1) 0).toNat : Int) = ((lastY (uR xs)).toNat : Int) := rfl
 have hM1 := (hfA.tt _ (mem_getD (d := tq0) (i := ((lastY (uR xs)).toNat - 1)) (by omega))).1.len_le
 unfold maxLen at hM1
 have heq : qf.fs.getD 0 id0 = (⟨((lastY (uR xs)).toNat : Int), ((qf.ts.getD ((lastY (uR xs)).toNat - 1) tq0).1.2.1 : Int) - 1⟩ : LId) := by rw [hfs, hrw1]; rfl
 have hfA0 := hfA
 refine mv rfl rfl (xt rfl rfl rfl (xt rfl rfl rfl (al zv33 rfl rfl (fun g4 w6 hg4 hb4 q6 z6 => ?_))))
 refine s_storeBA (vs := [_, _, _, _]) rfl rfl hb4 (by rfl) (by first | (simp [Value.oneCell', S]; done) | exact Enc.one _ _ | exact encId.one _) sz33 (fun w7 hb4 q7 z7 => ?_)
 refine asg rfl rfl (nn (sr (fad rfl fa26_1 rfl ?_)))
 replace hb3 := (hb3.ext (q5.next q6)).fr q7 (by first | (simp; done) | (simp; omega) | (simp [blks]; done) | (simp [blks]; omega))
 refine s_loadB rfl hb3 rfl na22 rfl (fad rfl fa26_1 rfl (s_loadB rfl hb3 rfl na22 rfl (lnS rfl Tryz.underlying22 rfl (s_sub rfl rfl (wi6 (by omega)) rfl ?_))))
 replace hst := hst0.ext ((((q3.step q4 (by first | (simp; done) | (simp; omega))).next q5).next q6).step q7 (by first | (simp; done) | (simp; omega)))
 refine s_idxL (p := ((uR xs).length - 1)) ((0 : UInt8)) rfl hst rfl el22 (by omega) (by omega) (by omega) rfl (fun ad20 hc20 => ?_)
 refine s_loadC0 rfl (hc20 _ hst) na5 rfl (asg rfl rfl (kpL [(4, _), (5, _), (6, _)] (.cons rfl (.cons rfl (.cons rfl .nil))) (nn (sq ?_))))
 replace hG := hG0.ext ((((((q1.next q2).next q3).step q4 (by first | (simp; done) | (simp; omega))).next q5).next q6).step q7 (by first | (simp; done) | (simp; omega)))
 replace hfA := hfA0.ext (q6.step q7 (by first | (simp; done) | (simp; omega)))
 intro a h
 refine region_heldP none (fun wb w' => Fr [] wb w') hmix ?_; intro w8 hq
 have z8 := hq.size
 replace hG := hG.ext hq
 replace hfA := hfA.ext hq
 replace hb4 := hb4.ext hq
 have q8 := hq
 clear hq; have hC : Fr [] w8 w8 := Fr.refl _ _
 have hG_b := hG
 have hfA_b := hfA
 have hb4_b := hb4
 refine hd_move 0 (by kernel_rfl) (by kernel_rfl) (by kernel_rfl) hC h wn rfl rfl rfl ?_; clear h a; intro a h
 refine hd_eq 1 (by kernel_rfl) (by kernel_rfl) (by kernel_rfl) hC h wn rfl rfl rfl rfl ?_; clear h a; intro a h
 refine hd_move 2 (by kernel_rfl) (by kernel_rfl) (by kernel_rfl) hC h wn rfl rfl rfl ?_; clear h a; intro a h
 first | refine guard_dec (D := 24) h rfl ?_ (fun hh => absurd (by decide) hh) | refine guard_ndec (D := 24) h rfl ?_ (fun hh => absurd (by decide) hh)
 clear h; intro g0 h
 refine hd_loadBA 3 (by kernel_rfl) (by kernel_rfl) (by kernel_rfl) hC h (wy rfl) rfl (fun _ hw => hb4_b.ext hw) ag33 rfl rfl ?_; clear h a; intro a h
 refine hd_one 4 (by kernel_rfl) rfl ?_
 refine gd_yes h rfl rfl rfl rfl rfl rfl ?_
 refine st_call h (evs_cons rfl evs_nil) co6 (fchk_ok qf _ hfA h6 hcs hhs htv hpo) rfl ?_; clear h a; rintro _ w9 ⟨rfl, hq⟩ a h
 have z9 := hq.size
 replace hG := hG.ext hq
 replace hfA := hfA.ext hq
 replace hb4 := hb4.ext hq
 replace hC := hC.next hq
 have q9 := hq
 clear hq
 refine hd_next hC ?_
 refine hd_eq 5 (by kernel_rfl) (by kernel_rfl) (by kernel_rfl) hC h (wy rfl) rfl rfl rfl rfl ?_; clear h a; intro a h
 refine hd_one 6 (by kernel_rfl) rfl ?_
 refine st_pick_t h rfl rfl rfl rfl ?_; clear h a; intro a h
 refine hd_next hC ?_
 refine hd_move 7 (by kernel_rfl) (by kernel_rfl) (by kernel_rfl) hC h wn rfl rfl rfl ?_; clear h a; intro a h
 first | refine guard_dec (D := 29) h rfl ?_ (fun hh => absurd (by decide) hh) | refine guard_ndec (D := 29) h rfl ?_ (fun hh => absurd (by decide) hh)
 clear h; intro g1 h
 refine hd_fieldAddr 8 (by kernel_rfl) (by kernel_rfl) (by kernel_rfl) hC h (wy rfl) rfl fa33_1 rfl rfl ?_; clear h a; intro a h
 refine hd_loadB 9 (by kernel_rfl) (by kernel_rfl) (by kernel_rfl) hC h (wy rfl) rfl (fun _ hw => hb4_b.ext hw) rfl na30 rfl rfl ?_; clear h a; intro a h
 refine hd_lenS 10 (by kernel_rfl) (by kernel_rfl) (by kernel_rfl) hC h (wy rfl) rfl Tryz.underlying30 rfl rfl ?_; clear h a; intro a h
 refine hd_fieldAddr 11 (by kernel_rfl) (by kernel_rfl) (by kernel_rfl) hC h (wy rfl) rfl fa33_2 rfl rfl ?_; clear h a; intro a h
 refine hd_loadB 12 (by kernel_rfl) (by kernel_rfl) (by kernel_rfl) hC h (wy rfl) rfl (fun _ hw => hb4_b.ext hw) rfl na31 rfl rfl ?_; clear h a; intro a h
 refine hd_lenS 13 (by kernel_rfl) (by kernel_rfl) (by kernel_rfl) hC h (wy rfl) rfl Tryz.underlying31 rfl rfl ?_; clear h a; intro a h
 refine hd_add 14 (by kernel_rfl) (by kernel_rfl) (by kernel_rfl) hC h (wy rfl) rfl rfl (by first | exact IntWalk.i64_in _ (by omega) | rfl) rfl rfl ?_; clear h a; intro a h
 refine hd_eq 15 (by kernel_rfl) (by kernel_rfl) (by kernel_rfl) hC h (wy rfl) rfl rfl rfl rfl ?_; clear h a; intro a h
 refine hd_one 16 (by kernel_rfl) rfl ?_
 refine st_pick_t h rfl rfl rfl rfl ?_; clear h a; intro a h
 refine hd_next hC ?_
 refine hd_move 17 (by kernel_rfl) (by kernel_rfl) (by kernel_rfl) hC h wn rfl rfl rfl ?_; clear h a; intro a h
 first | refine guard_dec (D := 39) h rfl ?_ (fun hh => absurd (by omega) hh) | refine guard_ndec (D := 39) h rfl ?_ (fun hh => absurd (by omega) hh)
 clear h; intro g2 h
 refine hd_fieldAddr 18 (by kernel_rfl) (by kernel_rfl) (by kernel_rfl) hC h (wy rfl) rfl fa33_3 rfl rfl ?_; clear h a; intro a h
 refine hd_loadB 19 (by kernel_rfl) (by kernel_rfl) (by kernel_rfl) hC h (wy rfl) rfl (fun _ hw => hb4_b.ext hw) rfl na31 rfl rfl ?_; clear h a; intro a h
 refine hd_lenS 20 (by kernel_rfl) (by kernel_rfl) (by kernel_rfl) hC h (wy rfl) rfl Tryz.underlying31 rfl rfl ?_; clear h a; intro a h
 refine hd_eq 21 (by kernel_rfl) (by kernel_rfl) (by kernel_rfl) hC h (wy rfl) rfl rfl rfl rfl ?_; clear h a; intro a h
 refine hd_one 22 (by kernel_rfl) rfl ?_
 refine st_pick_t h rfl rfl rfl rfl ?_; clear h a; intro a h
 refine hd_next hC ?_
 refine hd_move 23 (by kernel_rfl) (by kernel_rfl) (by kernel_rfl) hC h wn rfl rfl rfl ?_; clear h a; intro a h
 first | refine guard_dec (D := 45) h rfl ?_ (fun hh => absurd (by omega) hh) | refine guard_ndec (D := 45) h rfl ?_ (fun hh => absurd (by omega) hh)
 clear h; intro g3 h
 refine hd_fieldAddr 24 (by kernel_rfl) (by kernel_rfl) (by kernel_rfl) hC h (wy rfl) rfl fa33_3 rfl rfl ?_; clear h a; intro a h
 refine hd_loadB 25 (by kernel_rfl) (by kernel_rfl) (by kernel_rfl) hC h (wy rfl) rfl (fun _ hw => hb4_b.ext hw) rfl na31 rfl rfl ?_; clear h a; intro a h
 refine hd_idxL (p := 0) (id0) 26 (by kernel_rfl) (by kernel_rfl) (by kernel_rfl) hC h (wy rfl) rfl hfA.f rfl el31 (by omega) (by omega) rfl rfl rfl ?_; clear h a; intro ad48 hc48 a h
 refine hd_loadA 27 (by kernel_rfl) (by kernel_rfl) (by kernel_rfl) hC h (wy rfl) rfl (fun _ hw => hc48 _ (hfA_b.f.ext hw)) ag39 rfl rfl ?_; clear h a; intro a h
 refine hd_move 28 (by kernel_rfl) (by kernel_rfl) (by kernel_rfl) hC h (wy rfl) rfl rfl rfl ?_; clear h a; intro a h
 refine hd_fieldAddr 29 (by kernel_rfl) (by kernel_rfl) (by kernel_rfl) hC h (wy rfl) rfl fa33_0 rfl rfl ?_; clear h a; intro a h
 refine hd_loadB 30 (by kernel_rfl) (by kernel_rfl) (by kernel_rfl) hC h (wy rfl) rfl (fun _ hw => hb4_b.ext hw) rfl na29 rfl rfl ?_; clear h a; intro a h
 refine hd_move 31 (by kernel_rfl) (by kernel_rfl) (by kernel_rfl) hC h (wy rfl) rfl rfl rfl ?_; clear h a; intro a h
 refine hd_sub 32 (by kernel_rfl) (by kernel_rfl) (by kernel_rfl) hC h (wy rfl) rfl rfl (by first | exact IntWalk.u8_in _ (by omega) | rfl) rfl rfl ?_; clear h a; intro a h
 refine hd_idxL (p := ((lastY (uR xs)).toNat - 1)) (tq0) 33 (by kernel_rfl) (by kernel_rfl) (by kernel_rfl) hC h (wy rfl) rfl hfA.t rfl el29 (by omega) (by omega) (by omega) rfl rfl ?_; clear h a; intro ad55 hc55 a h
 refine hd_loadC0 34 (by kernel_rfl) (by kernel_rfl) (by kernel_rfl) hC h (wy rfl) rfl (fun _ hw => hc55 _ (hfA_b.t.ext hw)) na40 rfl rfl ?_; clear h a; intro a h
 refine hd_lenS 35 (by kernel_rfl) (by kernel_rfl) (by kernel_rfl) hC h (wy rfl) rfl Tryz.underlying40 rfl rfl ?_; clear h a; intro a h
 refine hd_sub 36 (by kernel_rfl) (by kernel_rfl) (by kernel_rfl) hC h (wy rfl) rfl rfl (by first | exact IntWalk.i64_in _ (by omega) | rfl) rfl rfl ?_; clear h a; intro a h
 refine hd_lit (cs := [_, _]) 37 (by kernel_rfl) (by kernel_rfl) (by kernel_rfl) hC h (wy rfl) (evs_cons rfl (evs_cons rfl evs_nil)) bo39 (pok_cons rfl rfl rfl (pok_cons rfl rfl rfl pok_nil)) rfl rfl rfl ?_; clear h a; intro a h
 refine hd_eqV (V := idV) (e := (qf.fs.getD 0 id0)) (f := (⟨((lastY (uR xs)).toNat : Int), ((qf.ts.getD ((lastY (uR xs)).toNat - 1) tq0).1.2.1 : Int) - 1⟩ : LId)) 38 (by kernel_rfl) (by kernel_rfl) (by kernel_rfl) hC h (wy rfl) rfl rfl eqId rfl rfl ?_; clear h a; intro a h
 refine hd_one 39 (by kernel_rfl) rfl ?_
 refine st_pick_t h rfl rfl rfl rfl ?_; clear h a; intro a h
 refine hd_next hC ?_
 refine hd_move 40 (by kernel_rfl) (by kernel_rfl) (by kernel_rfl) hC h wn rfl rfl rfl ?_; clear h a; intro a h
 first | refine guard_dec (D := 62) h rfl ?_ (fun hh => absurd (by exact heq) hh) | refine guard_ndec (D := 62) h rfl ?_ (fun hh => absurd (by exact heq) hh)
 clear h; intro g4 h
 refine hd_loadBA 41 (by kernel_rfl) (by kernel_rfl) (by kernel_rfl) hC h (wy rfl) rfl (fun _ hw => hb4_b.ext hw) ag33 rfl rfl ?_; clear h a; intro a h
 refine hd_one 42 (by kernel_rfl) rfl ?_
 refine gd_yes h rfl rfl rfl rfl rfl rfl ?_
 refine st_call h (evs_cons rfl evs_nil) co7 (undone_ok qf _ hfA h6 hun) rfl ?_; clear h a; rintro _ w10 ⟨A64, rfl, hq⟩ a h
 have z10 := hq.size
 replace hG := hG.ext hq
 replace hfA := hfA.ext hq
 replace hb4 := hb4.ext hq
 replace hC := hC.next hq
 have q10 := hq
 clear hq
 refine hd_next hC ?_
 refine hd_lenS 43 (by kernel_rfl) (by kernel_rfl) (by kernel_rfl) hC h (wy rfl) rfl Tryz.underlying31 rfl rfl ?_; clear h a; intro a h
 refine hd_eq 44 (by kernel_rfl) (by kernel_rfl) (by kernel_rfl) hC h (wy rfl) rfl rfl rfl rfl ?_; clear h a; intro a h
 refine hd_one 45 (by kernel_rfl) rfl ?_
 refine st_pick_t h rfl rfl rfl rfl ?_; clear h a; intro a h
 refine hd_next hC ?_
 refine hd_move 46 (by kernel_rfl) (by kernel_rfl) (by kernel_rfl) hC h wn rfl rfl rfl ?_; clear h a; intro a h
 first | refine guard_dec (D := 68) h rfl ?_ (fun hh => absurd (by decide) hh) | refine guard_ndec (D := 68) h rfl ?_ (fun hh => absurd (by decide) hh)
 clear h; intro g5 h
 refine hd_one 47 (by kernel_rfl) rfl ?_
 refine gd_yes h rfl rfl rfl rfl rfl rfl ?_
 refine st_call h evs_nil co8 (lives_ok _ hG) rfl ?_; clear h a; rintro _ w11 ⟨rfl, hq⟩ a h
 have z11 := hq.size
 replace hG := hG.ext hq
 replace hfA := hfA.ext hq
 replace hb4 := hb4.ext hq
 replace hC := hC.next hq
 have q11 := hq
 clear hq
 refine hd_next hC ?_
 refine hd_one 48 (by kernel_rfl) rfl ?_
 refine st_pick_t h rfl rfl rfl rfl ?_; clear h a; intro a h
 refine hd_next hC ?_
 refine hd_one 49 (by kernel_rfl) rfl ?_
 refine st_assign h rfl rfl ?_; clear h a; intro a h
 refine hd_next hC ?_
 refine hd_end (by kernel_rfl) ?_
 clear hC hG_b hfA_b hb4_b
 refine bk (h.sub (L' := [(2, _)]) (.cons rfl .nil)) ?_; clear h a
 refine tn (rt (r1 Tryz.results3 rfl ?_))
 exact ⟨_, rfl, rfl, ((((((((((q1.next q2).next q3).step q4 (by first | (simp; done) | (simp; omega))).next q5).next q6).step q7 (by first | (simp; done) | (simp; omega))).next q8).next q9).next q10).next q11)⟩
end Go.Proofs.YtkionldalpijpaaGreatDoor
