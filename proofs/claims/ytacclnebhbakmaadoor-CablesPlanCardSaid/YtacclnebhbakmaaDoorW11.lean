/- Walks. -/
import Derived.Test.YtacclnebhbakmaaDoorRows
import Derived.Test.YtacclnebhbakmaaDoorW10
import Derived.Test.YtacclnebhbakmaaDoorXOp
import Derived.Test.YtacclnebhbakmaaDoorXMap
set_option linter.unusedVariables false
set_option linter.unusedSimpArgs false
namespace Go.Proofs.YtacclnebhbakmaaDoor
open Go.Lw
theorem ag56 : AggOf Tryd.prog 56 4 := ⟨fun _ => by kernel_rfl, fun _ => by kernel_rfl⟩
theorem bo56 : BuildAt Tryd.prog 56 [(0, 1), (1, 1), (2, 1), (3, 1)] [(.slice none 0 0), (.slice none 0 0), (.int .i64 0), (.slice none 0 0)] := BuildAt.struct Tryd.underlying56 (fun _ => by kernel_rfl) (fun _ => by kernel_rfl)
theorem co27 : CallOf Tryd.prog 27 := CallOf.mk' Tryd.func27 (by kernel_rfl) (by kernel_rfl)
theorem co28 : CallOf Tryd.prog 28 := CallOf.mk' Tryd.func28 (by kernel_rfl) (by kernel_rfl)
theorem fa56_0 : FieldAt Tryd.prog 56 0 0 := fun _ _ => by kernel_rfl
theorem fa56_1 : FieldAt Tryd.prog 56 1 1 := fun _ _ => by kernel_rfl
theorem fa56_3 : FieldAt Tryd.prog 56 3 3 := fun _ _ => by kernel_rfl
theorem sz26 : SizeOf Tryd.prog 26 1 := fun _ => by kernel_rfl
theorem sz56 : SizeOf Tryd.prog 56 4 := fun _ => by kernel_rfl
theorem zv3 (w : World) : (zeroValue 3).run Tryd.prog w = .ok (.int .i64 0) w := by kernel_rfl
theorem zv56 (w : World) : (zeroValue 56).run Tryd.prog w = .ok (.agg #[(.slice none 0 0), (.slice none 0 0), (.int .i64 0), (.slice none 0 0)]) w := by kernel_rfl
theorem acr_of_t {l : List Int} {i a b : Nat} : ((roomS l i a b true).take (i + a + b)).drop (i + a) = acrS l i a b true := rfl
theorem acr_of_f {l : List Int} {i a b : Nat} : ((roomS l i a b false).take (i + a)).drop i = acrS l i a b false := rfl
set_option maxHeartbeats 2000000 in
theorem lbehind_ok (v : Value) (l : List Int) (i aa b : Nat) (w0 : World) (hs : Sl Enc.i64 w0 v l) (ha : Asc l) (hz : 1 ≤ aa ∧ 1 ≤ b ∧ aa + b ≤ 4) (hil : i + aa + b ≤ l.length) : Rets Tryd.prog 16 #[v, .int .i64 (i : Int), .int .i64 (aa : Int), .int .i64 (b : Int)] w0 fun r w' => ∃ vr va vb, r = .tuple #[.agg #[vr, va, .int .i64 (byC aa b false), vb], .bool (decide (fitS l i aa b false))] ∧ Lw.Own Enc.i64 3 w0.heap.size w' vr (roomS l i aa b false) ∧ Lw.Own Enc.i64 3 w0.heap.size w' va (acrS l i aa b false) ∧ Lw.Own Enc.i64 3 w0.heap.size w' vb (behS l i aa b false) ∧ Fr [] w0 w' := by
 obtain ⟨A, c, rfl, hcc, hM, hA⟩ := id hs
 clear hA
 have hl4 := ha.len
 have hai := ha i (by omega)
 have haj := ha (i + aa + b - 1) (by omega)
 have hne : l ≠ [] := fun e => by have := congrArg List.length e; simp only [List.length_nil] at this; omega
 have hsK := hs.blk hne
 have hF0 : (firstR l i aa b false) = l.getD i 0 + 2 * (aa : Int) + (b : Int) := rfl
 refine we [(0, .slice A l.length c), (1, .int .i64 (i : Int)), (2, .int .i64 (aa : Int)), (3, .int .i64 (b : Int))] Tryd.func16 rfl Tryd.ntmps16 rfl (.cons rfl (.cons rfl (.cons rfl (.cons rfl .nil)))) ?_
 have hs0 := hs
 refine sr (al zv56 rfl rfl (fun g8 w1 hg8 hb8 q1 z1 => ?_))
 refine asg rfl rfl (nn (sr (mv rfl rfl (mv rfl rfl ?_))))
 replace hs := hs0.ext q1
 refine s_idxL (p := i) (0) rfl hs rfl el26 (by omega) (by omega) (by omega) rfl (fun ad19 hc19 => ?_)
 refine s_loadC0 rfl (hc19 _ hs) na3 rfl (asg rfl rfl (nn (sr (mv rfl rfl ?_))))
 refine cl (ev1 rfl) co26 (clone_ok _ _ _ hs (by omega)) rfl ?_
 rintro _ w2 ⟨ho, q2⟩
 have z2 := q2.size
 rcases ho with ⟨_, e⟩ | ⟨gR, cR, cur, rfl, hgR, rA⟩
 · exact absurd e hne
 have ho : Lw.Own Enc.i64 3 w0.heap.size w2 (.slice (some ⟨gR, 0, none⟩) l.length cR) (l) := .inr ⟨gR, cR, cur, rfl, by omega, rA⟩
 have hcR := rA.2.1
 clear rA
 have hgR2 := (ho.blk gR (by simp [blks])).2
 refine mv rfl rfl (mv rfl rfl (s_add rfl rfl (wi6 (by omega)) rfl (s_lit (cs := [_, _, _, _]) (ev2 rfl rfl) bo56 (pok_cons rfl rfl rfl (pok_cons rfl rfl rfl pok_nil)) rfl rfl (al zv56 rfl rfl (fun g11 w3 hg11 hb11 q3 z3 => ?_)))))
 refine s_storeBA rfl rfl hb11 rfl (by first | (simp [Value.oneCell', S]; done) | exact Enc.one _ _) sz56 (fun w4 hb11 q4 z4 => ?_)
 refine kpL [(0, _), (1, _), (2, _), (3, _), (8, _), (10, _), (11, _)] (.cons rfl (.cons rfl (.cons rfl (.cons rfl (.cons rfl (.cons rfl (.cons rfl .nil))))))) (nn (sq (sr (mv rfl rfl (mv rfl rfl (s_add rfl rfl (wi6 (by omega)) rfl (mv rfl rfl (nn (bl ?_)))))))))
 replace ho := (ho.ext q3).fr q4 (by first | (simp; done) | (simp; omega) | (simp [blks]; done) | (simp [blks]; omega) | (intro k hk hb; simp at hk; subst hk; have := (ho.blk _ hb).2; omega))
 refine lpK (ι := Nat) [(0, _), (1, _), (2, _), (3, _), (8, _), (10, _), (11, _), (29, _)] (fun j => [(30, .int .i64 (j : Int))]) (fun j w' => Fr [gR] w4 w' ∧ j ≤ aa + b ∧ Lw.Own Enc.i64 3 w0.heap.size w' (.slice (some ⟨gR, 0, none⟩) l.length cR) (fillL l i (run (l.getD i 0) j))) (fun j => aa + b - j) 0 (.cons rfl (.cons rfl (.cons rfl (.cons rfl (.cons rfl (.cons rfl (.cons rfl (.cons rfl (.cons rfl .nil))))))))) ⟨Fr.refl _ _, ⟨Nat.zero_le _, by rw [show run (l.getD i 0) 0 = [] from rfl, fill_nil]; exact ho⟩⟩ ?_
 rintro j w5 ⟨q5, ⟨hj, ho⟩⟩
 have z5 := q5.size
 refine kpC [(0, _), (1, _), (2, _), (3, _), (8, _), (10, _), (11, _), (29, _), (30, _)] (.cons rfl (.cons rfl (.cons rfl (.cons rfl (.cons rfl (.cons rfl (.cons rfl (.cons rfl (.cons rfl .nil))))))))) ?_
 have hfl : (fillL l i (run (l.getD i 0) j)).length = l.length := fill_len (by rw [run_len]; omega)
 refine sr (lt' rfl rfl rfl (nn (sq ?_)))
 refine cd rfl (fun c0 => ?_) (fun c0 => ?_)
 · refine sk (tn (sq (bl (sr (mv rfl rfl (asg rfl rfl (nn (rg (fad rfl fa56_0 rfl ?_)))))))))
   replace hb11 := hb11.fr q5 (by first | (simp; done) | (simp; omega) | (simp [blks]; done) | (simp [blks]; omega))
   refine s_loadB rfl hb11 rfl na26 rfl (mv rfl rfl (mv rfl rfl (s_add rfl rfl (wi6 (by omega)) rfl (mv rfl rfl (mv rfl rfl (s_add rfl rfl (wi6 (by omega)) rfl ?_))))))
   refine s_ixs (p := i + j) (_) rfl ho rfl rfl (by intro e; cases e) el26 sz3 rfl (by omega) (by rw [hfl]; omega) (by omega) rfl rfl (fun w6 ho q6 z6 => ?_)
   rw [run_set (by omega) (by omega)] at ho
   replace q6 : Fr [gR] _ _ := q6
   refine kpL [(0, _), (1, _), (2, _), (3, _), (8, _), (10, _), (11, _), (29, _), (30, _)] (.cons rfl (.cons rfl (.cons rfl (.cons rfl (.cons rfl (.cons rfl (.cons rfl (.cons rfl (.cons rfl .nil))))))))) (nl (bn' (tn (rg (s_add rfl rfl (wi6 (by omega)) rfl (mv rfl rfl (nl ?_)))))))
   exact lpE (j + 1) (.cons rfl (.cons rfl (.cons rfl (.cons rfl (.cons rfl (.cons rfl (.cons rfl (.cons rfl (.cons rfl .nil))))))))) ⟨(((Fr.refl [gR] _).step q5 (by first | (simp; done) | (simp; omega))).step q6 (by first | (simp; done) | (simp; omega))), ⟨by omega, ho⟩⟩ (by omega)
 · obtain rfl : j = aa + b := by omega
   refine ex (te (te (xh (tn (sr (mv rfl rfl (mv rfl rfl (s_mul rfl rfl (wi6 (by omega)) rfl (s_add rfl rfl (wi6 (by omega)) rfl (mv rfl rfl (s_add rfl rfl (wi6 (by omega)) rfl ?_)))))))))))
   refine al zv3 rfl rfl (fun g13 w7 hg13 hb13 q7 z7 => ?_)
   refine s_storeB0 rfl rfl hb13 rfl rfl sz3 (fun w8 hb13 q8 z8 => ?_)
   refine kpL [(0, _), (1, _), (2, _), (3, _), (8, _), (10, _), (11, _), (13, _)] (.cons rfl (.cons rfl (.cons rfl (.cons rfl (.cons rfl (.cons rfl (.cons rfl (.cons rfl .nil)))))))) (nn (sr (s_makeFunc evs_nil (ev1 rfl) rfl (asg rfl rfl (nn (sq (sr (mv rfl rfl (mv rfl rfl (s_add rfl rfl (wi6 (by omega)) rfl (mv rfl rfl ?_)))))))))))
   refine s_add rfl rfl (wi6 (by omega)) rfl (asg rfl rfl (nn (bl ?_)))
   replace ho := (ho.ext q7).fr q8 (by first | (simp; done) | (simp; omega) | (simp [blks]; done) | (simp [blks]; omega) | (intro k hk hb; simp at hk; subst hk; have := (ho.blk _ hb).2; omega))
   refine lpK (ι := Nat × Int) [(0, _), (1, _), (2, _), (3, _), (8, _), (10, _), (11, _), (13, _), (14, _)] (fun p => [(15, .int .i64 p.2)]) (fun p w' => Fr [gR, g13] w8 w' ∧ p.1 ≤ l.length - (i + aa + b) ∧ p.2 = (i : Int) + aa + b + p.1 ∧ Lw.Own Enc.i64 3 w0.heap.size w' (.slice (some ⟨gR, 0, none⟩) l.length cR) (roomF l i aa b false p.1) ∧ Blk w' g13 3 [.int .i64 (frR l (firstR l i aa b false) (i + aa + b) p.1)]) (fun p => l.length - p.1) (0, (i : Int) + (aa : Int) + (b : Int)) (.cons rfl (.cons rfl (.cons rfl (.cons rfl (.cons rfl (.cons rfl (.cons rfl (.cons rfl (.cons rfl (.cons rfl .nil)))))))))) ⟨Fr.refl _ _, ⟨Nat.zero_le _, by simp only; omega, by rw [room_zero_f (by omega)]; exact ho, hb13⟩⟩ ?_
   rintro ⟨m, k⟩ w9 ⟨q9, ⟨hm, hk, ho, hb13⟩⟩
   simp only at hm hk ho hb13
   have z9 := q9.size
   have lt_hb13 := hb13.lt
   refine kpC [(0, _), (1, _), (2, _), (3, _), (8, _), (10, _), (11, _), (13, _), (14, _), (15, .int .i64 k)] (.cons rfl (.cons rfl (.cons rfl (.cons rfl (.cons rfl (.cons rfl (.cons rfl (.cons rfl (.cons rfl (.cons rfl .nil)))))))))) ?_
   have hfl : (roomF l i aa b false m).length = l.length := roomF_len hil hm
   refine sq (sr (mv rfl rfl (mv rfl rfl (lnS rfl Tryd.underlying26 rfl (lt' rfl rfl rfl (nn ?_))))))
   refine cd rfl (fun c1 => ?_) (fun c1 => ?_)
   · have hbk := ha (i + aa + b + m) (by omega)
     have hsu := frR_succ (l := l) (F := (firstR l i aa b false)) (s := i + aa + b) (m := m) (by omega)
     have hfb := frb_f ha (m := m) hz hil (by omega)
     refine sk (tn (sq (bl ?_)))
     replace hs := hs0.ext (((((((q1.next q2).next q3).step q4 (by first | (simp; done) | (simp; omega))).step q5 (by first | (simp; done) | (simp; omega))).next q7).step q8 (by first | (simp; done) | (simp; omega))).step q9 (by first | (simp; done) | (simp; omega)))
     replace hb11 := (((hb11.fr q5 (by first | (simp; done) | (simp; omega) | (simp [blks]; done) | (simp [blks]; omega))).ext q7).fr q8 (by first | (simp; done) | (simp; omega) | (simp [blks]; done) | (simp [blks]; omega))).fr q9 (by first | (simp; done) | (simp; omega) | (simp [blks]; done) | (simp [blks]; omega))
     intro a h
     have qh13 := Fr.refl [gR, g13] w9
     refine region_held (fun wb w' => Fr [gR, g13] wb w') hmix ?_; intro w10 hq
     have z10 := hq.size
     replace hs := hs.ext hq
     replace hb11 := hb11.ext hq
     replace ho := ho.ext hq
     replace hb13 := hb13.ext hq
     replace qh13 := qh13.next hq
     have hsz := hq.size; clear hq; have hC : Fr [gR, g13] w10 w10 := Fr.refl _ _
     have hs_b := hs
     have hb11_b := hb11
     have ho_b := ho
     have hb13_b := hb13
     refine hd_fieldAddr 0 (by kernel_rfl) (by kernel_rfl) (by kernel_rfl) hC h wn rfl fa56_0 rfl rfl ?_; clear h a; intro a h
     refine hd_loadB 1 (by kernel_rfl) (by kernel_rfl) (by kernel_rfl) hC h wn rfl (fun _ hw => hb11_b.fr hw (by first | (simp; done) | (simp; omega))) rfl na26 rfl rfl ?_; clear h a; intro a h
     refine hd_move 2 (by kernel_rfl) (by kernel_rfl) (by kernel_rfl) hC h wn rfl rfl rfl ?_; clear h a; intro a h
     refine hd_move 3 (by kernel_rfl) (by kernel_rfl) (by kernel_rfl) hC h wn rfl rfl rfl ?_; clear h a; intro a h
     refine hd_move 4 (by kernel_rfl) (by kernel_rfl) (by kernel_rfl) hC h wn rfl rfl rfl ?_; clear h a; intro a h
     refine hd_move 5 (by kernel_rfl) (by kernel_rfl) (by kernel_rfl) hC h wn rfl rfl rfl ?_; clear h a; intro a h
     refine hd_idxL (p := (i + aa + b + m)) (0) 6 (by kernel_rfl) (by kernel_rfl) (by kernel_rfl) hC h wn rfl hs rfl el26 (by omega) (by omega) (by omega) rfl rfl ?_; clear h a; intro ad67 hc67 a h
     refine hd_loadC0 7 (by kernel_rfl) (by kernel_rfl) (by kernel_rfl) hC h wn rfl (fun _ hw => hc67 _ (hs_b.fr hw (by intro k hk hb; simp at hk; have := hsK k hb; omega))) na3 rfl rfl ?_; clear h a; intro a h
     refine hd_one 8 (by kernel_rfl) rfl ?_
     refine st_callv (us := []) (ws := [.pointer (some ⟨g13, 0, none⟩)]) h rfl (evs_cons rfl evs_nil) co27 (keepR_ok (l.getD (i + aa + b + m) 0) _ g13 _ hb13 (by omega) (by omega)) rfl (by intro g e; cases e) ?_; clear h a; rintro _ w11 ⟨rfl, hb13, hq⟩ a h
     have z11 := hq.size
     replace hs := hs.fr hq (by intro k hk hb; simp at hk; have := hsK k hb; omega)
     replace hb11 := hb11.fr hq (by first | (simp; done) | (simp; omega) | (simp [blks]; done) | (simp [blks]; omega))
     replace ho := ho.fr hq (by first | (simp; done) | (simp; omega) | (simp [blks]; done) | (simp [blks]; omega))
     replace qh13 := qh13.step hq (by first | (simp; done) | (simp; omega))
     replace hC := hC.step hq (by first | (simp; done) | (simp; omega))
     clear hq
     refine hd_next hC ?_
     refine hd_idxS 9 (by kernel_rfl) (by kernel_rfl) (by kernel_rfl) hC h wn rfl rfl el26 (by omega) (by omega) (show _ = (i + aa + b + m) by omega) rfl rfl ?_; clear h a; intro a h
     refine hd_one 10 (by kernel_rfl) rfl ?_
     refine st_storeO (i := (i + aa + b + m)) (_) h rfl rfl ho (by rw [hfl]; omega) rfl sz3 ?_; clear h a; intro w12 ho2 hq hz a h
     have z12 := hq.size
     replace hs := hs.fr hq (by intro k hk hb; simp at hk; have := hsK k hb; omega)
     replace hb11 := hb11.fr hq (by first | (simp; done) | (simp; omega) | (simp [blks]; done) | (simp [blks]; omega))
     replace hb13 := hb13.fr hq (by first | (simp; done) | (simp; omega) | (simp [blks]; done) | (simp [blks]; omega))
     replace qh13 := qh13.step hq (by first | (simp; done) | (simp; omega))
     replace hC := hC.step hq (by first | (simp; done) | (simp; omega))
     clear ho hq hz; have ho := ho2; clear ho2; rw [roomR_set (by omega)] at ho
     refine hd_next hC ?_
     refine hd_end (by kernel_rfl) ?_
     clear hC hs_b hb11_b ho_b hb13_b
     have z12 := qh13.size
     refine bk (h.sub (L' := [(0, _), (1, _), (2, _), (3, _), (8, _), (10, _), (11, _), (13, _), (14, _), (15, _)]) (.cons rfl (.cons rfl (.cons rfl (.cons rfl (.cons rfl (.cons rfl (.cons rfl (.cons rfl (.cons rfl (.cons rfl .nil))))))))))) ?_; clear h a
     refine bn' (tn (rg (mv rfl rfl (s_add rfl rfl (wi6 (by omega)) rfl (asg rfl rfl (nl ?_))))))
     exact lpE ((m + 1, k + 1)) (.cons rfl (.cons rfl (.cons rfl (.cons rfl (.cons rfl (.cons rfl (.cons rfl (.cons rfl (.cons rfl (.cons rfl .nil)))))))))) ⟨(((Fr.refl [gR, g13] _).step q9 (by first | (simp; done) | (simp; omega))).step qh13 (by first | (simp; done) | (simp; omega))), ⟨by simp only; omega, by simp only; omega, ho, by rw [frR_succ (by omega)]; exact hb13⟩⟩ (by simp only; omega)
   · obtain rfl : l.length - (i + aa + b) = m := by omega
     have hfit := fit_iff_f (l := l) (i := i) (b := b) hil
     have ho' : Lw.Own Enc.i64 3 w0.heap.size w9 (.slice (some ⟨gR, 0, none⟩) l.length cR) (roomS l i aa b false) := ho
     clear ho
     have ho := ho'
     clear ho'
     have hfl : (roomS l i aa b false).length = l.length := roomS_len hil
     have hne2 : roomS l i aa b false ≠ [] := fun e => by rw [e] at hfl; simp at hfl; omega
     have hfb := frb_f ha (m := l.length - (i + aa + b)) hz hil (by omega)
     refine ex (te (te (xh (tn (sr (fad rfl fa56_0 rfl ?_))))))
     replace hb11 := (((hb11.fr q5 (by first | (simp; done) | (simp; omega) | (simp [blks]; done) | (simp [blks]; omega))).ext q7).fr q8 (by first | (simp; done) | (simp; omega) | (simp [blks]; done) | (simp [blks]; omega))).fr q9 (by first | (simp; done) | (simp; omega) | (simp [blks]; done) | (simp [blks]; omega))
     refine s_loadB rfl hb11 rfl na26 rfl (mv rfl rfl (mv rfl rfl (mv rfl rfl (s_add rfl rfl (wi6 (by omega)) rfl (s_sl_lh (p := i) (p' := (i + aa)) rfl rfl rfl el26 (by omega) (by omega) (by omega) (by omega) (by omega) rfl ?_)))))
     refine cl (ev1 rfl) co26 (clone_ok _ _ _ (ho.sl.cutv (p := i) (p' := i + aa) (by omega) (by rw [hfl]; omega)) (by simp; omega)) rfl ?_
     rintro vA w13 ⟨hoA, q13⟩
     have z13 := q13.size
     have hbA := hoA.blk
     obtain ⟨AA, cA2, rfl, _⟩ := hoA.sl.form
     refine fad rfl fa56_1 rfl ?_
     replace hb11 := hb11.ext q13
     refine s_storeB rfl rfl hb11 rfl rfl rfl sz26 (fun w14 hb11 q14 z14 => ?_)
     replace hb11 : Blk w14 g11 _ [_, _, _, _] := hb11
     refine kpL [(1, _), (2, _), (3, _), (8, _), (10, _), (11, _), (13, _)] (.cons rfl (.cons rfl (.cons rfl (.cons rfl (.cons rfl (.cons rfl (.cons rfl .nil))))))) (nn (sr (fad rfl fa56_0 rfl (s_loadB rfl hb11 rfl na26 rfl ?_))))
     replace ho := (ho.ext q13).fr q14 (by first | (simp; done) | (simp; omega) | (simp [blks]; done) | (simp [blks]; omega) | (intro k hk hb; simp at hk; subst hk; have := (ho.blk _ hb).2; omega))
     refine cl (ev1 rfl) co26 (clone_ok _ _ _ ho.sl (by rw [hfl]; omega)) rfl ?_
     rintro _ w15 ⟨hoB, q15⟩
     have z15 := q15.size
     replace hoA := (hoA.fr q14 (by intro k hk hb; simp at hk; subst hk; have := hbA _ hb; omega)).ext q15
     rw [acr_of_f] at hoA
     rcases hoB with ⟨_, e⟩ | ⟨gB, cB, cur, e, hgB, rA⟩
     · exact absurd e hne2
     rw [hfl] at e; subst e
     have hoB : Lw.Own Enc.i64 3 w0.heap.size w15 (.slice (some ⟨gB, 0, none⟩) l.length cB) (roomS l i aa b false) := .inr ⟨gB, cB, cur, by rw [hfl], Nat.le_trans (by omega) hgB, rA⟩
     clear rA
     have hgB2 := (hoB.blk gB (by simp [blks])).2
     refine fad rfl fa56_3 rfl ?_
     replace hb11 := hb11.ext q15
     refine s_storeB rfl rfl hb11 rfl rfl rfl sz26 (fun w16 hb11 q16 z16 => ?_)
     replace hb11 : Blk w16 g11 _ [_, _, _, _] := hb11
     refine nn (sq (sr (mv rfl rfl (mv rfl rfl (s_add rfl rfl (wi6 (by omega)) rfl (mv rfl rfl (nn (bl ?_))))))))
     replace hoB := hoB.fr q16 (by first | (simp; done) | (simp; omega) | (simp [blks]; done) | (simp [blks]; omega) | (intro k hk hb; simp at hk; subst hk; have := (hoB.blk _ hb).2; omega))
     refine lpK (ι := Nat) [(1, _), (2, _), (8, _), (10, _), (11, _), (13, _), (86, _)] (fun j => [(87, .int .i64 (j : Int))]) (fun j w' => Fr [gB] w16 w' ∧ j ≤ aa + b ∧ Lw.Own Enc.i64 3 w0.heap.size w' (.slice (some ⟨gB, 0, none⟩) l.length cB) (fillL (roomS l i aa b false) i (run (behP l i aa b false) j))) (fun j => aa + b - j) 0 (.cons rfl (.cons rfl (.cons rfl (.cons rfl (.cons rfl (.cons rfl (.cons rfl (.cons rfl .nil)))))))) ⟨Fr.refl _ _, ⟨Nat.zero_le _, by rw [show run (behP l i aa b false) 0 = [] from rfl, fill_nil]; exact hoB⟩⟩ ?_
     rintro j w17 ⟨q17, ⟨hj, hoB⟩⟩
     have z17 := q17.size
     refine kpC [(1, _), (2, _), (8, _), (10, _), (11, _), (13, _), (86, _), (87, _)] (.cons rfl (.cons rfl (.cons rfl (.cons rfl (.cons rfl (.cons rfl (.cons rfl (.cons rfl .nil)))))))) ?_
     have hfl2 := hfl
     have hfl : (fillL (roomS l i aa b false) i (run (behP l i aa b false) j)).length = l.length := by rw [fill_len (by rw [run_len, hfl2]; omega), hfl2]
     refine sr (lt' rfl rfl rfl (nn (sq ?_)))
     refine cd rfl (fun c2 => ?_) (fun c2 => ?_)
     · refine sk (tn (sq (bl (sr (mv rfl rfl (asg rfl rfl (nn (rg (fad rfl fa56_3 rfl ?_)))))))))
       replace hb11 := hb11.fr q17 (by first | (simp; done) | (simp; omega) | (simp [blks]; done) | (simp [blks]; omega))
       refine s_loadB rfl hb11 rfl na26 rfl (mv rfl rfl (mv rfl rfl (s_add rfl rfl (wi6 (by omega)) rfl (mv rfl rfl (mv rfl rfl (s_add rfl rfl (wi6 (by omega)) rfl (mv rfl rfl (s_add rfl rfl (wi6 (by omega)) rfl ?_))))))))
       refine s_ixs (p := i + j) (_) rfl hoB rfl rfl (by intro e; cases e) el26 sz3 rfl (by omega) (by rw [hfl]; omega) (by omega) rfl rfl (fun w18 hoB q18 z18 => ?_)
       rw [run_set (by simp only [behP, Bool.false_eq_true, if_false] <;> omega) (by rw [hfl2]; omega)] at hoB
       replace q18 : Fr [gB] _ _ := q18
       refine kpL [(1, _), (2, _), (8, _), (10, _), (11, _), (13, _), (86, _), (87, _)] (.cons rfl (.cons rfl (.cons rfl (.cons rfl (.cons rfl (.cons rfl (.cons rfl (.cons rfl .nil)))))))) (nl (bn' (tn (rg (s_add rfl rfl (wi6 (by omega)) rfl (mv rfl rfl (nl ?_)))))))
       exact lpE (j + 1) (.cons rfl (.cons rfl (.cons rfl (.cons rfl (.cons rfl (.cons rfl (.cons rfl (.cons rfl .nil)))))))) ⟨(((Fr.refl [gB] _).step q17 (by first | (simp; done) | (simp; omega))).step q18 (by first | (simp; done) | (simp; omega))), ⟨by omega, hoB⟩⟩ (by omega)
     · obtain rfl : j = aa + b := by omega
       refine ex (te (te (xh (tn (sq ?_)))))
       replace hb8 := ((((((((((hb8.ext (q2.next q3)).fr q4 (by first | (simp; done) | (simp; omega) | (simp [blks]; done) | (simp [blks]; omega))).fr q5 (by first | (simp; done) | (simp; omega) | (simp [blks]; done) | (simp [blks]; omega))).ext q7).fr q8 (by first | (simp; done) | (simp; omega) | (simp [blks]; done) | (simp [blks]; omega))).fr q9 (by first | (simp; done) | (simp; omega) | (simp [blks]; done) | (simp [blks]; omega))).ext q13).fr q14 (by first | (simp; done) | (simp; omega) | (simp [blks]; done) | (simp [blks]; omega))).ext q15).fr q16 (by first | (simp; done) | (simp; omega) | (simp [blks]; done) | (simp [blks]; omega))).fr q17 (by first | (simp; done) | (simp; omega) | (simp [blks]; done) | (simp [blks]; omega))
       replace hb11 := hb11.fr q17 (by first | (simp; done) | (simp; omega) | (simp [blks]; done) | (simp [blks]; omega))
       replace hb13 := ((((hb13.ext q13).fr q14 (by first | (simp; done) | (simp; omega) | (simp [blks]; done) | (simp [blks]; omega))).ext q15).fr q16 (by first | (simp; done) | (simp; omega) | (simp [blks]; done) | (simp [blks]; omega))).fr q17 (by first | (simp; done) | (simp; omega) | (simp [blks]; done) | (simp [blks]; omega))
       intro a h
       have qh21 := Fr.refl [g8] w17
       refine region_held (fun wb w' => Fr [g8] wb w') hmix ?_; intro w19 hq
       have z19 := hq.size
       replace hb8 := hb8.ext hq
       replace hb11 := hb11.ext hq
       replace hb13 := hb13.ext hq
       replace qh21 := qh21.next hq
       have hsz := hq.size; clear hq; have hC : Fr [g8] w19 w19 := Fr.refl _ _
       have hb8_b := hb8
       have hb11_b := hb11
       have hb13_b := hb13
       refine hd_loadBA 0 (by kernel_rfl) (by kernel_rfl) (by kernel_rfl) hC h wn rfl (fun _ hw => hb11_b.fr hw (by first | (simp; done) | (simp; omega))) ag56 rfl rfl ?_; clear h a; intro a h
       refine hd_loadB0 1 (by kernel_rfl) (by kernel_rfl) (by kernel_rfl) hC h wn rfl (fun _ hw => hb13_b.fr hw (by first | (simp; done) | (simp; omega))) na3 rfl rfl ?_; clear h a; intro a h
       refine hd_sub 2 (by kernel_rfl) (by kernel_rfl) (by kernel_rfl) hC h wn rfl rfl (by first | exact IntWalk.i64_in _ (by omega) | rfl) rfl rfl ?_; clear h a; intro a h
       refine hd_le 3 (by kernel_rfl) (by kernel_rfl) (by kernel_rfl) hC h wn rfl rfl rfl rfl ?_; clear h a; intro a h
       refine hd_one 4 (by kernel_rfl) rfl ?_
       refine st_storeBA h rfl rfl hb8 rfl (by first | (simp [Value.oneCell', S]; done) | exact Enc.one _ _) sz56 ?_; clear h a; intro w20 hbn hq hz a h
       have z20 := hq.size
       replace hb11 := hb11.fr hq (by first | (simp; done) | (simp; omega) | (simp [blks]; done) | (simp [blks]; omega))
       replace hb13 := hb13.fr hq (by first | (simp; done) | (simp; omega) | (simp [blks]; done) | (simp [blks]; omega))
       replace qh21 := qh21.step hq (by first | (simp; done) | (simp; omega))
       replace hC := hC.step hq (by first | (simp; done) | (simp; omega))
       clear hb8 hq hz; have hb8 : Blk w20 g8 _ [_, _, _, _] := hbn; clear hbn
       refine hd_next hC ?_
       refine hd_one 5 (by kernel_rfl) rfl ?_
       refine st_assign h rfl rfl ?_; clear h a; intro a h
       refine hd_next hC ?_
       refine hd_end (by kernel_rfl) ?_
       clear hC hb8_b hb11_b hb13_b
       have z20 := qh21.size
       refine bk (h.sub (L' := [(8, _), (9, _)]) (.cons rfl (.cons rfl .nil))) ?_; clear h a
       refine tn (rt (rCT Tryd.results16 rfl hb8 ag56 rfl ?_))
       replace ho := (((ho.ext q15).fr q16 (by first | (simp; done) | (simp; omega) | (simp [blks]; done) | (simp [blks]; omega) | (intro k hk hb; simp at hk; subst hk; have := (ho.blk _ hb).2; omega))).fr q17 (by first | (simp; done) | (simp; omega) | (simp [blks]; done) | (simp [blks]; omega) | (intro k hk hb; simp at hk; subst hk; have := (ho.blk _ hb).2; omega))).fr qh21 (by first | (simp; done) | (simp; omega) | (simp [blks]; done) | (simp [blks]; omega) | (intro k hk hb; simp at hk; subst hk; have := (ho.blk _ hb).2; omega))
       replace hoA := ((hoA.fr q16 (by intro k hk hb; simp at hk; subst hk; have := hbA _ hb; omega)).fr q17 (by intro k hk hb; simp at hk; subst hk; have := hbA _ hb; omega)).fr qh21 (by intro k hk hb; simp at hk; subst hk; have := hbA _ hb; omega)
       replace hoB := hoB.fr qh21 (by first | (simp; done) | (simp; omega) | (simp [blks]; done) | (simp [blks]; omega) | (intro k hk hb; simp at hk; subst hk; have := (hoB.blk _ hb).2; omega))
       exact ⟨_, rfl, _, _, _, by rw [decide_eq_decide.2 hfit]; rfl, ho, hoA.low (by omega), hoB, (((((((((((((q1.next q2).next q3).step q4 (by first | (simp; done) | (simp; omega))).step q5 (by first | (simp; done) | (simp; omega))).next q7).step q8 (by first | (simp; done) | (simp; omega))).step q9 (by first | (simp; done) | (simp; omega))).next q13).step q14 (by first | (simp; done) | (simp; omega))).next q15).step q16 (by first | (simp; done) | (simp; omega))).step q17 (by first | (simp; done) | (simp; omega))).step qh21 (by first | (simp; done) | (simp; omega)))⟩
set_option maxHeartbeats 2000000 in
theorem lfront_ok (v : Value) (l : List Int) (i aa b : Nat) (w0 : World) (hs : Sl Enc.i64 w0 v l) (ha : Asc l) (hz : 1 ≤ aa ∧ 1 ≤ b ∧ aa + b ≤ 4) (hil : i + aa + b ≤ l.length) : Rets Tryd.prog 17 #[v, .int .i64 (i : Int), .int .i64 (aa : Int), .int .i64 (b : Int)] w0 fun r w' => ∃ vr va vb, r = .tuple #[.agg #[vr, va, .int .i64 (byC aa b true), vb], .bool (decide (fitS l i aa b true))] ∧ Lw.Own Enc.i64 3 w0.heap.size w' vr (roomS l i aa b true) ∧ Lw.Own Enc.i64 3 w0.heap.size w' va (acrS l i aa b true) ∧ Lw.Own Enc.i64 3 w0.heap.size w' vb (behS l i aa b true) ∧ Fr [] w0 w' := by
 obtain ⟨A, c, rfl, hcc, hM, hA⟩ := id hs
 clear hA
 have hl4 := ha.len
 have hai := ha i (by omega)
 have haj := ha (i + aa + b - 1) (by omega)
 have hne : l ≠ [] := fun e => by have := congrArg List.length e; simp only [List.length_nil] at this; omega
 have hsK := hs.blk hne
 have hF0 : (firstR l i aa b true) = l.getD (i + aa + b - 1) 0 - (aa : Int) - 2 * (b : Int) := rfl
 refine we [(0, .slice A l.length c), (1, .int .i64 (i : Int)), (2, .int .i64 (aa : Int)), (3, .int .i64 (b : Int))] Tryd.func17 rfl Tryd.ntmps17 rfl (.cons rfl (.cons rfl (.cons rfl (.cons rfl .nil)))) ?_
 have hs0 := hs
 refine sr (al zv56 rfl rfl (fun g8 w1 hg8 hb8 q1 z1 => ?_))
 refine asg rfl rfl (nn (sr (mv rfl rfl (mv rfl rfl (mv rfl rfl (s_add rfl rfl (wi6 (by omega)) rfl (mv rfl rfl (s_add rfl rfl (wi6 (by omega)) rfl (s_sub rfl rfl (wi6 (by omega)) rfl ?_)))))))))
 replace hs := hs0.ext q1
 refine s_idxL (p := (i + aa + b - 1)) (0) rfl hs rfl el26 (by omega) (by omega) (by omega) rfl (fun ad24 hc24 => ?_)
 refine s_loadC0 rfl (hc24 _ hs) na3 rfl (asg rfl rfl (kpL [(0, _), (1, _), (2, _), (3, _), (8, _), (10, _)] (.cons rfl (.cons rfl (.cons rfl (.cons rfl (.cons rfl (.cons rfl .nil)))))) (nn (sr (mv rfl rfl ?_)))))
 refine cl (ev1 rfl) co26 (clone_ok _ _ _ hs (by omega)) rfl ?_
 rintro _ w2 ⟨ho, q2⟩
 have z2 := q2.size
 rcases ho with ⟨_, e⟩ | ⟨gR, cR, cur, rfl, hgR, rA⟩
 · exact absurd e hne
 have ho : Lw.Own Enc.i64 3 w0.heap.size w2 (.slice (some ⟨gR, 0, none⟩) l.length cR) (l) := .inr ⟨gR, cR, cur, rfl, by omega, rA⟩
 have hcR := rA.2.1
 clear rA
 have hgR2 := (ho.blk gR (by simp [blks])).2
 refine mv rfl rfl (mv rfl rfl (s_add rfl rfl (wi6 (by omega)) rfl (s_neg rfl (wi6 (by omega)) rfl (s_lit (cs := [_, _, _, _]) (ev2 rfl rfl) bo56 (pok_cons rfl rfl rfl (pok_cons rfl rfl rfl pok_nil)) rfl rfl (al zv56 rfl rfl (fun g11 w3 hg11 hb11 q3 z3 => ?_))))))
 refine s_storeBA rfl rfl hb11 rfl (by first | (simp [Value.oneCell', S]; done) | exact Enc.one _ _) sz56 (fun w4 hb11 q4 z4 => ?_)
 refine kpL [(0, _), (1, _), (2, _), (3, _), (8, _), (10, _), (11, _)] (.cons rfl (.cons rfl (.cons rfl (.cons rfl (.cons rfl (.cons rfl (.cons rfl .nil))))))) (nn (sq (sr (mv rfl rfl (mv rfl rfl (s_add rfl rfl (wi6 (by omega)) rfl (mv rfl rfl (nn (bl ?_)))))))))
 replace ho := (ho.ext q3).fr q4 (by first | (simp; done) | (simp; omega) | (simp [blks]; done) | (simp [blks]; omega) | (intro k hk hb; simp at hk; subst hk; have := (ho.blk _ hb).2; omega))
 refine lpK (ι := Nat) [(0, _), (1, _), (2, _), (3, _), (8, _), (10, _), (11, _), (35, _)] (fun j => [(36, .int .i64 (j : Int))]) (fun j w' => Fr [gR] w4 w' ∧ j ≤ aa + b ∧ Lw.Own Enc.i64 3 w0.heap.size w' (.slice (some ⟨gR, 0, none⟩) l.length cR) (fillL l i (run (l.getD (i + aa + b - 1) 0 - (aa : Int) - (b : Int) + 1) j))) (fun j => aa + b - j) 0 (.cons rfl (.cons rfl (.cons rfl (.cons rfl (.cons rfl (.cons rfl (.cons rfl (.cons rfl (.cons rfl .nil))))))))) ⟨Fr.refl _ _, ⟨Nat.zero_le _, by rw [show run (l.getD (i + aa + b - 1) 0 - (aa : Int) - (b : Int) + 1) 0 = [] from rfl, fill_nil]; exact ho⟩⟩ ?_
 rintro j w5 ⟨q5, ⟨hj, ho⟩⟩
 have z5 := q5.size
 refine kpC [(0, _), (1, _), (2, _), (3, _), (8, _), (10, _), (11, _), (35, _), (36, _)] (.cons rfl (.cons rfl (.cons rfl (.cons rfl (.cons rfl (.cons rfl (.cons rfl (.cons rfl (.cons rfl .nil))))))))) ?_
 have hfl : (fillL l i (run (l.getD (i + aa + b - 1) 0 - (aa : Int) - (b : Int) + 1) j)).length = l.length := fill_len (by rw [run_len]; omega)
 refine sr (lt' rfl rfl rfl (nn (sq ?_)))
 refine cd rfl (fun c0 => ?_) (fun c0 => ?_)
 · refine sk (tn (sq (bl (sr (mv rfl rfl (asg rfl rfl (nn (rg (fad rfl fa56_0 rfl ?_)))))))))
   replace hb11 := hb11.fr q5 (by first | (simp; done) | (simp; omega) | (simp [blks]; done) | (simp [blks]; omega))
   refine s_loadB rfl hb11 rfl na26 rfl (mv rfl rfl (mv rfl rfl (s_add rfl rfl (wi6 (by omega)) rfl (mv rfl rfl (mv rfl rfl (s_sub rfl rfl (wi6 (by omega)) rfl (mv rfl rfl (s_sub rfl rfl (wi6 (by omega)) rfl (s_add rfl rfl (wi6 (by omega)) rfl (mv rfl rfl (s_add rfl rfl (wi6 (by omega)) rfl ?_)))))))))))
   refine s_ixs (p := i + j) (_) rfl ho rfl rfl (by intro e; cases e) el26 sz3 rfl (by omega) (by rw [hfl]; omega) (by omega) rfl rfl (fun w6 ho q6 z6 => ?_)
   rw [run_set (by omega) (by omega)] at ho
   replace q6 : Fr [gR] _ _ := q6
   refine kpL [(0, _), (1, _), (2, _), (3, _), (8, _), (10, _), (11, _), (35, _), (36, _)] (.cons rfl (.cons rfl (.cons rfl (.cons rfl (.cons rfl (.cons rfl (.cons rfl (.cons rfl (.cons rfl .nil))))))))) (nl (bn' (tn (rg (s_add rfl rfl (wi6 (by omega)) rfl (mv rfl rfl (nl ?_)))))))
   exact lpE (j + 1) (.cons rfl (.cons rfl (.cons rfl (.cons rfl (.cons rfl (.cons rfl (.cons rfl (.cons rfl (.cons rfl .nil))))))))) ⟨(((Fr.refl [gR] _).step q5 (by first | (simp; done) | (simp; omega))).step q6 (by first | (simp; done) | (simp; omega))), ⟨by omega, ho⟩⟩ (by omega)
 · obtain rfl : j = aa + b := by omega
   refine ex (te (te (xh (tn (sr (mv rfl rfl (mv rfl rfl (s_sub rfl rfl (wi6 (by omega)) rfl (mv rfl rfl (s_mul rfl rfl (wi6 (by omega)) rfl (s_sub rfl rfl (wi6 (by omega)) rfl ?_)))))))))))
   refine al zv3 rfl rfl (fun g13 w7 hg13 hb13 q7 z7 => ?_)
   refine s_storeB0 rfl rfl hb13 rfl rfl sz3 (fun w8 hb13 q8 z8 => ?_)
   refine kpL [(0, _), (1, _), (2, _), (3, _), (8, _), (10, _), (11, _), (13, _)] (.cons rfl (.cons rfl (.cons rfl (.cons rfl (.cons rfl (.cons rfl (.cons rfl (.cons rfl .nil)))))))) (nn (sr (s_makeFunc evs_nil (ev1 rfl) rfl (asg rfl rfl (nn (sq (sr (mv rfl rfl (s_sub rfl rfl (wi6 (by omega)) rfl (asg rfl rfl (nn ?_)))))))))))
   refine bl ?_
   replace ho := (ho.ext q7).fr q8 (by first | (simp; done) | (simp; omega) | (simp [blks]; done) | (simp [blks]; omega) | (intro k hk hb; simp at hk; subst hk; have := (ho.blk _ hb).2; omega))
   refine lpK (ι := Nat × Int) [(0, _), (1, _), (2, _), (3, _), (8, _), (10, _), (11, _), (13, _), (14, _)] (fun p => [(15, .int .i64 p.2)]) (fun p w' => Fr [gR, g13] w8 w' ∧ p.1 ≤ i ∧ p.2 = (i : Int) - 1 - p.1 ∧ Lw.Own Enc.i64 3 w0.heap.size w' (.slice (some ⟨gR, 0, none⟩) l.length cR) (roomF l i aa b true p.1) ∧ Blk w' g13 3 [.int .i64 (frL l (firstR l i aa b true) i p.1)]) (fun p => l.length - p.1) (0, (i : Int) - 1) (.cons rfl (.cons rfl (.cons rfl (.cons rfl (.cons rfl (.cons rfl (.cons rfl (.cons rfl (.cons rfl (.cons rfl .nil)))))))))) ⟨Fr.refl _ _, ⟨Nat.zero_le _, by simp only; omega, by rw [room_zero_t (by omega)]; exact ho, hb13⟩⟩ ?_
   rintro ⟨m, k⟩ w9 ⟨q9, ⟨hm, hk, ho, hb13⟩⟩
   simp only at hm hk ho hb13
   have z9 := q9.size
   have lt_hb13 := hb13.lt
   refine kpC [(0, _), (1, _), (2, _), (3, _), (8, _), (10, _), (11, _), (13, _), (14, _), (15, .int .i64 k)] (.cons rfl (.cons rfl (.cons rfl (.cons rfl (.cons rfl (.cons rfl (.cons rfl (.cons rfl (.cons rfl (.cons rfl .nil)))))))))) ?_
   have hfl : (roomF l i aa b true m).length = l.length := roomF_len hil hm
   refine sq (sr (mv rfl rfl (ge' rfl rfl rfl (nn ?_))))
   refine cd rfl (fun c1 => ?_) (fun c1 => ?_)
   · have hbk := ha (i - 1 - m) (by omega)
     have hsu := frL_succ (l := l) (F := (firstR l i aa b true)) (i := i) (m := m) (by omega) (by omega)
     have hfb := frb_t ha (m := m) hz hil (by omega)
     refine sk (tn (sq (bl ?_)))
     replace hs := hs0.ext (((((((q1.next q2).next q3).step q4 (by first | (simp; done) | (simp; omega))).step q5 (by first | (simp; done) | (simp; omega))).next q7).step q8 (by first | (simp; done) | (simp; omega))).step q9 (by first | (simp; done) | (simp; omega)))
     replace hb11 := (((hb11.fr q5 (by first | (simp; done) | (simp; omega) | (simp [blks]; done) | (simp [blks]; omega))).ext q7).fr q8 (by first | (simp; done) | (simp; omega) | (simp [blks]; done) | (simp [blks]; omega))).fr q9 (by first | (simp; done) | (simp; omega) | (simp [blks]; done) | (simp [blks]; omega))
     intro a h
     have qh13 := Fr.refl [gR, g13] w9
     refine region_held (fun wb w' => Fr [gR, g13] wb w') hmix ?_; intro w10 hq
     have z10 := hq.size
     replace hs := hs.ext hq
     replace hb11 := hb11.ext hq
     replace ho := ho.ext hq
     replace hb13 := hb13.ext hq
     replace qh13 := qh13.next hq
     have hsz := hq.size; clear hq; have hC : Fr [gR, g13] w10 w10 := Fr.refl _ _
     have hs_b := hs
     have hb11_b := hb11
     have ho_b := ho
     have hb13_b := hb13
     refine hd_fieldAddr 0 (by kernel_rfl) (by kernel_rfl) (by kernel_rfl) hC h wn rfl fa56_0 rfl rfl ?_; clear h a; intro a h
     refine hd_loadB 1 (by kernel_rfl) (by kernel_rfl) (by kernel_rfl) hC h wn rfl (fun _ hw => hb11_b.fr hw (by first | (simp; done) | (simp; omega))) rfl na26 rfl rfl ?_; clear h a; intro a h
     refine hd_move 2 (by kernel_rfl) (by kernel_rfl) (by kernel_rfl) hC h wn rfl rfl rfl ?_; clear h a; intro a h
     refine hd_move 3 (by kernel_rfl) (by kernel_rfl) (by kernel_rfl) hC h wn rfl rfl rfl ?_; clear h a; intro a h
     refine hd_move 4 (by kernel_rfl) (by kernel_rfl) (by kernel_rfl) hC h wn rfl rfl rfl ?_; clear h a; intro a h
     refine hd_move 5 (by kernel_rfl) (by kernel_rfl) (by kernel_rfl) hC h wn rfl rfl rfl ?_; clear h a; intro a h
     refine hd_idxL (p := (i - 1 - m)) (0) 6 (by kernel_rfl) (by kernel_rfl) (by kernel_rfl) hC h wn rfl hs rfl el26 (by omega) (by omega) (by omega) rfl rfl ?_; clear h a; intro ad73 hc73 a h
     refine hd_loadC0 7 (by kernel_rfl) (by kernel_rfl) (by kernel_rfl) hC h wn rfl (fun _ hw => hc73 _ (hs_b.fr hw (by intro k hk hb; simp at hk; have := hsK k hb; omega))) na3 rfl rfl ?_; clear h a; intro a h
     refine hd_one 8 (by kernel_rfl) rfl ?_
     refine st_callv (us := []) (ws := [.pointer (some ⟨g13, 0, none⟩)]) h rfl (evs_cons rfl evs_nil) co28 (keepL_ok (l.getD (i - 1 - m) 0) _ g13 _ hb13 (by omega) (by omega)) rfl (by intro g e; cases e) ?_; clear h a; rintro _ w11 ⟨rfl, hb13, hq⟩ a h
     have z11 := hq.size
     replace hs := hs.fr hq (by intro k hk hb; simp at hk; have := hsK k hb; omega)
     replace hb11 := hb11.fr hq (by first | (simp; done) | (simp; omega) | (simp [blks]; done) | (simp [blks]; omega))
     replace ho := ho.fr hq (by first | (simp; done) | (simp; omega) | (simp [blks]; done) | (simp [blks]; omega))
     replace qh13 := qh13.step hq (by first | (simp; done) | (simp; omega))
     replace hC := hC.step hq (by first | (simp; done) | (simp; omega))
     clear hq
     refine hd_next hC ?_
     refine hd_idxS 9 (by kernel_rfl) (by kernel_rfl) (by kernel_rfl) hC h wn rfl rfl el26 (by omega) (by omega) (show _ = (i - 1 - m) by omega) rfl rfl ?_; clear h a; intro a h
     refine hd_one 10 (by kernel_rfl) rfl ?_
     refine st_storeO (i := (i - 1 - m)) (_) h rfl rfl ho (by rw [hfl]; omega) rfl sz3 ?_; clear h a; intro w12 ho2 hq hz a h
     have z12 := hq.size
     replace hs := hs.fr hq (by intro k hk hb; simp at hk; have := hsK k hb; omega)
     replace hb11 := hb11.fr hq (by first | (simp; done) | (simp; omega) | (simp [blks]; done) | (simp [blks]; omega))
     replace hb13 := hb13.fr hq (by first | (simp; done) | (simp; omega) | (simp [blks]; done) | (simp [blks]; omega))
     replace qh13 := qh13.step hq (by first | (simp; done) | (simp; omega))
     replace hC := hC.step hq (by first | (simp; done) | (simp; omega))
     clear ho hq hz; have ho := ho2; clear ho2; rw [roomL_set hil (by omega)] at ho
     refine hd_next hC ?_
     refine hd_end (by kernel_rfl) ?_
     clear hC hs_b hb11_b ho_b hb13_b
     have z12 := qh13.size
     refine bk (h.sub (L' := [(0, _), (1, _), (2, _), (3, _), (8, _), (10, _), (11, _), (13, _), (14, _), (15, _)]) (.cons rfl (.cons rfl (.cons rfl (.cons rfl (.cons rfl (.cons rfl (.cons rfl (.cons rfl (.cons rfl (.cons rfl .nil))))))))))) ?_; clear h a
     refine bn' (tn (rg (mv rfl rfl (s_sub rfl rfl (wi6 (by omega)) rfl (asg rfl rfl (nl ?_))))))
     exact lpE ((m + 1, k - 1)) (.cons rfl (.cons rfl (.cons rfl (.cons rfl (.cons rfl (.cons rfl (.cons rfl (.cons rfl (.cons rfl (.cons rfl .nil)))))))))) ⟨(((Fr.refl [gR, g13] _).step q9 (by first | (simp; done) | (simp; omega))).step qh13 (by first | (simp; done) | (simp; omega))), ⟨by simp only; omega, by simp only; omega, ho, by rw [frL_succ (by omega) (by omega)]; exact hb13⟩⟩ (by simp only; omega)
   · obtain rfl : i = m := by omega
     have hfit := fit_iff_t (l := l) (i := i) (b := b) hil
     have ho' : Lw.Own Enc.i64 3 w0.heap.size w9 (.slice (some ⟨gR, 0, none⟩) l.length cR) (roomS l i aa b true) := ho
     clear ho
     have ho := ho'
     clear ho'
     have hfl : (roomS l i aa b true).length = l.length := roomS_len hil
     have hne2 : roomS l i aa b true ≠ [] := fun e => by rw [e] at hfl; simp at hfl; omega
     have hfb := frb_t ha (m := i) hz hil (by omega)
     refine ex (te (te (xh (tn (sr (fad rfl fa56_0 rfl ?_))))))
     replace hb11 := (((hb11.fr q5 (by first | (simp; done) | (simp; omega) | (simp [blks]; done) | (simp [blks]; omega))).ext q7).fr q8 (by first | (simp; done) | (simp; omega) | (simp [blks]; done) | (simp [blks]; omega))).fr q9 (by first | (simp; done) | (simp; omega) | (simp [blks]; done) | (simp [blks]; omega))
     refine s_loadB rfl hb11 rfl na26 rfl (mv rfl rfl (mv rfl rfl (s_add rfl rfl (wi6 (by omega)) rfl (mv rfl rfl (mv rfl rfl (s_add rfl rfl (wi6 (by omega)) rfl (mv rfl rfl (s_add rfl rfl (wi6 (by omega)) rfl (s_sl_lh (p := (i + aa)) (p' := (i + aa + b)) rfl rfl rfl el26 (by omega) (by omega) (by omega) (by omega) (by omega) rfl ?_)))))))))
     refine cl (ev1 rfl) co26 (clone_ok _ _ _ (ho.sl.cutv (p := i + aa) (p' := i + aa + b) (by omega) (by rw [hfl]; omega)) (by simp; omega)) rfl ?_
     rintro vA w13 ⟨hoA, q13⟩
     have z13 := q13.size
     have hbA := hoA.blk
     obtain ⟨AA, cA2, rfl, _⟩ := hoA.sl.form
     refine fad rfl fa56_1 rfl ?_
     replace hb11 := hb11.ext q13
     refine s_storeB rfl rfl hb11 rfl rfl rfl sz26 (fun w14 hb11 q14 z14 => ?_)
     replace hb11 : Blk w14 g11 _ [_, _, _, _] := hb11
     refine kpL [(1, _), (2, _), (3, _), (8, _), (10, _), (11, _), (13, _)] (.cons rfl (.cons rfl (.cons rfl (.cons rfl (.cons rfl (.cons rfl (.cons rfl .nil))))))) (nn (sr (fad rfl fa56_0 rfl (s_loadB rfl hb11 rfl na26 rfl ?_))))
     replace ho := (ho.ext q13).fr q14 (by first | (simp; done) | (simp; omega) | (simp [blks]; done) | (simp [blks]; omega) | (intro k hk hb; simp at hk; subst hk; have := (ho.blk _ hb).2; omega))
     refine cl (ev1 rfl) co26 (clone_ok _ _ _ ho.sl (by rw [hfl]; omega)) rfl ?_
     rintro _ w15 ⟨hoB, q15⟩
     have z15 := q15.size
     replace hoA := (hoA.fr q14 (by intro k hk hb; simp at hk; subst hk; have := hbA _ hb; omega)).ext q15
     rw [acr_of_t] at hoA
     rcases hoB with ⟨_, e⟩ | ⟨gB, cB, cur, e, hgB, rA⟩
     · exact absurd e hne2
     rw [hfl] at e; subst e
     have hoB : Lw.Own Enc.i64 3 w0.heap.size w15 (.slice (some ⟨gB, 0, none⟩) l.length cB) (roomS l i aa b true) := .inr ⟨gB, cB, cur, by rw [hfl], Nat.le_trans (by omega) hgB, rA⟩
     clear rA
     have hgB2 := (hoB.blk gB (by simp [blks])).2
     refine fad rfl fa56_3 rfl ?_
     replace hb11 := hb11.ext q15
     refine s_storeB rfl rfl hb11 rfl rfl rfl sz26 (fun w16 hb11 q16 z16 => ?_)
     replace hb11 : Blk w16 g11 _ [_, _, _, _] := hb11
     refine nn (sq (sr (mv rfl rfl (mv rfl rfl (s_add rfl rfl (wi6 (by omega)) rfl (mv rfl rfl (nn (bl ?_))))))))
     replace hoB := hoB.fr q16 (by first | (simp; done) | (simp; omega) | (simp [blks]; done) | (simp [blks]; omega) | (intro k hk hb; simp at hk; subst hk; have := (hoB.blk _ hb).2; omega))
     refine lpK (ι := Nat) [(1, _), (2, _), (3, _), (8, _), (10, _), (11, _), (13, _), (96, _)] (fun j => [(97, .int .i64 (j : Int))]) (fun j w' => Fr [gB] w16 w' ∧ j ≤ aa + b ∧ Lw.Own Enc.i64 3 w0.heap.size w' (.slice (some ⟨gB, 0, none⟩) l.length cB) (fillL (roomS l i aa b true) i (run (behP l i aa b true) j))) (fun j => aa + b - j) 0 (.cons rfl (.cons rfl (.cons rfl (.cons rfl (.cons rfl (.cons rfl (.cons rfl (.cons rfl (.cons rfl .nil))))))))) ⟨Fr.refl _ _, ⟨Nat.zero_le _, by rw [show run (behP l i aa b true) 0 = [] from rfl, fill_nil]; exact hoB⟩⟩ ?_
     rintro j w17 ⟨q17, ⟨hj, hoB⟩⟩
     have z17 := q17.size
     refine kpC [(1, _), (2, _), (3, _), (8, _), (10, _), (11, _), (13, _), (96, _), (97, _)] (.cons rfl (.cons rfl (.cons rfl (.cons rfl (.cons rfl (.cons rfl (.cons rfl (.cons rfl (.cons rfl .nil))))))))) ?_
     have hfl2 := hfl
     have hfl : (fillL (roomS l i aa b true) i (run (behP l i aa b true) j)).length = l.length := by rw [fill_len (by rw [run_len, hfl2]; omega), hfl2]
     refine sr (lt' rfl rfl rfl (nn (sq ?_)))
     refine cd rfl (fun c2 => ?_) (fun c2 => ?_)
     · refine sk (tn (sq (bl (sr (mv rfl rfl (asg rfl rfl (nn (rg (fad rfl fa56_3 rfl ?_)))))))))
       replace hb11 := hb11.fr q17 (by first | (simp; done) | (simp; omega) | (simp [blks]; done) | (simp [blks]; omega))
       refine s_loadB rfl hb11 rfl na26 rfl (mv rfl rfl (mv rfl rfl (s_add rfl rfl (wi6 (by omega)) rfl (mv rfl rfl (mv rfl rfl (s_sub rfl rfl (wi6 (by omega)) rfl (mv rfl rfl (s_mul rfl rfl (wi6 (by omega)) rfl (s_sub rfl rfl (wi6 (by omega)) rfl (s_add rfl rfl (wi6 (by omega)) rfl (mv rfl rfl ?_)))))))))))
       refine s_add rfl rfl (wi6 (by omega)) rfl ?_
       refine s_ixs (p := i + j) (_) rfl hoB rfl rfl (by intro e; cases e) el26 sz3 rfl (by omega) (by rw [hfl]; omega) (by omega) rfl rfl (fun w18 hoB q18 z18 => ?_)
       rw [run_set (by simp only [behP, if_true] <;> omega) (by rw [hfl2]; omega)] at hoB
       replace q18 : Fr [gB] _ _ := q18
       refine kpL [(1, _), (2, _), (3, _), (8, _), (10, _), (11, _), (13, _), (96, _), (97, _)] (.cons rfl (.cons rfl (.cons rfl (.cons rfl (.cons rfl (.cons rfl (.cons rfl (.cons rfl (.cons rfl .nil))))))))) (nl (bn' (tn (rg (s_add rfl rfl (wi6 (by omega)) rfl (mv rfl rfl (nl ?_)))))))
       exact lpE (j + 1) (.cons rfl (.cons rfl (.cons rfl (.cons rfl (.cons rfl (.cons rfl (.cons rfl (.cons rfl (.cons rfl .nil))))))))) ⟨(((Fr.refl [gB] _).step q17 (by first | (simp; done) | (simp; omega))).step q18 (by first | (simp; done) | (simp; omega))), ⟨by omega, hoB⟩⟩ (by omega)
     · obtain rfl : j = aa + b := by omega
       refine ex (te (te (xh (tn (sq ?_)))))
       replace hb8 := ((((((((((hb8.ext (q2.next q3)).fr q4 (by first | (simp; done) | (simp; omega) | (simp [blks]; done) | (simp [blks]; omega))).fr q5 (by first | (simp; done) | (simp; omega) | (simp [blks]; done) | (simp [blks]; omega))).ext q7).fr q8 (by first | (simp; done) | (simp; omega) | (simp [blks]; done) | (simp [blks]; omega))).fr q9 (by first | (simp; done) | (simp; omega) | (simp [blks]; done) | (simp [blks]; omega))).ext q13).fr q14 (by first | (simp; done) | (simp; omega) | (simp [blks]; done) | (simp [blks]; omega))).ext q15).fr q16 (by first | (simp; done) | (simp; omega) | (simp [blks]; done) | (simp [blks]; omega))).fr q17 (by first | (simp; done) | (simp; omega) | (simp [blks]; done) | (simp [blks]; omega))
       replace hb11 := hb11.fr q17 (by first | (simp; done) | (simp; omega) | (simp [blks]; done) | (simp [blks]; omega))
       replace hb13 := ((((hb13.ext q13).fr q14 (by first | (simp; done) | (simp; omega) | (simp [blks]; done) | (simp [blks]; omega))).ext q15).fr q16 (by first | (simp; done) | (simp; omega) | (simp [blks]; done) | (simp [blks]; omega))).fr q17 (by first | (simp; done) | (simp; omega) | (simp [blks]; done) | (simp [blks]; omega))
       intro a h
       have qh21 := Fr.refl [g8] w17
       refine region_held (fun wb w' => Fr [g8] wb w') hmix ?_; intro w19 hq
       have z19 := hq.size
       replace hb8 := hb8.ext hq
       replace hb11 := hb11.ext hq
       replace hb13 := hb13.ext hq
       replace qh21 := qh21.next hq
       have hsz := hq.size; clear hq; have hC : Fr [g8] w19 w19 := Fr.refl _ _
       have hb8_b := hb8
       have hb11_b := hb11
       have hb13_b := hb13
       refine hd_loadBA 0 (by kernel_rfl) (by kernel_rfl) (by kernel_rfl) hC h wn rfl (fun _ hw => hb11_b.fr hw (by first | (simp; done) | (simp; omega))) ag56 rfl rfl ?_; clear h a; intro a h
       refine hd_loadB0 1 (by kernel_rfl) (by kernel_rfl) (by kernel_rfl) hC h wn rfl (fun _ hw => hb13_b.fr hw (by first | (simp; done) | (simp; omega))) na3 rfl rfl ?_; clear h a; intro a h
       refine hd_add 2 (by kernel_rfl) (by kernel_rfl) (by kernel_rfl) hC h wn rfl rfl (by first | exact IntWalk.i64_in _ (by omega) | rfl) rfl rfl ?_; clear h a; intro a h
       refine hd_ge 3 (by kernel_rfl) (by kernel_rfl) (by kernel_rfl) hC h wn rfl rfl rfl rfl ?_; clear h a; intro a h
       refine hd_one 4 (by kernel_rfl) rfl ?_
       refine st_storeBA h rfl rfl hb8 rfl (by first | (simp [Value.oneCell', S]; done) | exact Enc.one _ _) sz56 ?_; clear h a; intro w20 hbn hq hz a h
       have z20 := hq.size
       replace hb11 := hb11.fr hq (by first | (simp; done) | (simp; omega) | (simp [blks]; done) | (simp [blks]; omega))
       replace hb13 := hb13.fr hq (by first | (simp; done) | (simp; omega) | (simp [blks]; done) | (simp [blks]; omega))
       replace qh21 := qh21.step hq (by first | (simp; done) | (simp; omega))
       replace hC := hC.step hq (by first | (simp; done) | (simp; omega))
       clear hb8 hq hz; have hb8 : Blk w20 g8 _ [_, _, _, _] := hbn; clear hbn
       refine hd_next hC ?_
       refine hd_one 5 (by kernel_rfl) rfl ?_
       refine st_assign h rfl rfl ?_; clear h a; intro a h
       refine hd_next hC ?_
       refine hd_end (by kernel_rfl) ?_
       clear hC hb8_b hb11_b hb13_b
       have z20 := qh21.size
       refine bk (h.sub (L' := [(8, _), (9, _)]) (.cons rfl (.cons rfl .nil))) ?_; clear h a
       refine tn (rt (rCT Tryd.results17 rfl hb8 ag56 rfl ?_))
       replace ho := (((ho.ext q15).fr q16 (by first | (simp; done) | (simp; omega) | (simp [blks]; done) | (simp [blks]; omega) | (intro k hk hb; simp at hk; subst hk; have := (ho.blk _ hb).2; omega))).fr q17 (by first | (simp; done) | (simp; omega) | (simp [blks]; done) | (simp [blks]; omega) | (intro k hk hb; simp at hk; subst hk; have := (ho.blk _ hb).2; omega))).fr qh21 (by first | (simp; done) | (simp; omega) | (simp [blks]; done) | (simp [blks]; omega) | (intro k hk hb; simp at hk; subst hk; have := (ho.blk _ hb).2; omega))
       replace hoA := ((hoA.fr q16 (by intro k hk hb; simp at hk; subst hk; have := hbA _ hb; omega)).fr q17 (by intro k hk hb; simp at hk; subst hk; have := hbA _ hb; omega)).fr qh21 (by intro k hk hb; simp at hk; subst hk; have := hbA _ hb; omega)
       replace hoB := hoB.fr qh21 (by first | (simp; done) | (simp; omega) | (simp [blks]; done) | (simp [blks]; omega) | (intro k hk hb; simp at hk; subst hk; have := (hoB.blk _ hb).2; omega))
       exact ⟨_, rfl, _, _, _, by rw [decide_eq_decide.2 hfit]; rfl, ho, hoA.low (by omega), hoB, (((((((((((((q1.next q2).next q3).step q4 (by first | (simp; done) | (simp; omega))).step q5 (by first | (simp; done) | (simp; omega))).next q7).step q8 (by first | (simp; done) | (simp; omega))).step q9 (by first | (simp; done) | (simp; omega))).next q13).step q14 (by first | (simp; done) | (simp; omega))).next q15).step q16 (by first | (simp; done) | (simp; omega))).step q17 (by first | (simp; done) | (simp; omega))).step qh21 (by first | (simp; done) | (simp; omega)))⟩
end Go.Proofs.YtacclnebhbakmaaDoor
