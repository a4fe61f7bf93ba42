/- Walks. -/
import Derived.Test.YtacclnebhbakmaaDoorRows
import Derived.Test.YtacclnebhbakmaaDoorXOp
import Derived.Test.YtacclnebhbakmaaDoorXMap
set_option linter.unusedVariables false
set_option linter.unusedSimpArgs false
namespace Go.Proofs.YtacclnebhbakmaaDoor
open Go.Lw
theorem ag39 : AggOf Tryd.prog 39 2 := ⟨fun _ => by kernel_rfl, fun _ => by kernel_rfl⟩
theorem ag42 : AggOf Tryd.prog 42 6 := ⟨fun _ => by kernel_rfl, fun _ => by kernel_rfl⟩
theorem bo39 : BuildAt Tryd.prog 39 [(0, 1), (1, 1)] [(.int .u8 0), (.int .i64 0)] := BuildAt.struct Tryd.underlying39 (fun _ => by kernel_rfl) (fun _ => by kernel_rfl)
theorem bo95 : BuildAt Tryd.prog 95 [(0, 1), (1, 1), (2, 1), (3, 1)] [(.bool false), (.bool false), (.bool false), (.bool false)] := BuildAt.struct Tryd.underlying95 (fun _ => by kernel_rfl) (fun _ => by kernel_rfl)
theorem co36 : CallOf Tryd.prog 36 := CallOf.mk' Tryd.func36 (by kernel_rfl) (by kernel_rfl)
theorem co38 : CallOf Tryd.prog 38 := CallOf.mk' Tryd.func38 (by kernel_rfl) (by kernel_rfl)
theorem co42 : CallOf Tryd.prog 42 := CallOf.mk' Tryd.func42 (by kernel_rfl) (by kernel_rfl)
theorem fa39_0 : FieldAt Tryd.prog 39 0 0 := fun _ _ => by kernel_rfl
theorem fa39_1 : FieldAt Tryd.prog 39 1 1 := fun _ _ => by kernel_rfl
theorem fa42_0 : FieldAt Tryd.prog 42 0 0 := fun _ _ => by kernel_rfl
theorem fa42_1 : FieldAt Tryd.prog 42 1 1 := fun _ _ => by kernel_rfl
theorem fa42_2 : FieldAt Tryd.prog 42 2 2 := fun _ _ => by kernel_rfl
theorem fa42_3 : FieldAt Tryd.prog 42 3 4 := fun _ _ => by kernel_rfl
theorem fa42_4 : FieldAt Tryd.prog 42 4 5 := fun _ _ => by kernel_rfl
theorem fa95_0 : FieldAt Tryd.prog 95 0 0 := fun _ _ => by kernel_rfl
theorem fa95_1 : FieldAt Tryd.prog 95 1 1 := fun _ _ => by kernel_rfl
theorem fa95_2 : FieldAt Tryd.prog 95 2 2 := fun _ _ => by kernel_rfl
theorem fa95_3 : FieldAt Tryd.prog 95 3 3 := fun _ _ => by kernel_rfl
theorem hmix : Tryd.prog.follows .mixedOrders = true := by kernel_rfl
theorem na3 : NotAgg Tryd.prog 3 := fun _ => by kernel_rfl
theorem na4 : NotAgg Tryd.prog 4 := fun _ => by kernel_rfl
theorem na5 : NotAgg Tryd.prog 5 := fun _ => by kernel_rfl
theorem na36 : NotAgg Tryd.prog 36 := fun _ => by kernel_rfl
theorem na37 : NotAgg Tryd.prog 37 := fun _ => by kernel_rfl
theorem na40 : NotAgg Tryd.prog 40 := fun _ => by kernel_rfl
theorem sz95 : SizeOf Tryd.prog 95 4 := fun _ => by kernel_rfl
theorem zv95 (w : World) : (zeroValue 95).run Tryd.prog w = .ok (.agg #[(.bool false), (.bool false), (.bool false), (.bool false)]) w := by kernel_rfl
theorem ncheck_ok (b p : Int) (w0 : World) : Rets Tryd.prog 38 #[.agg #[.int .u8 b, .int .i64 p]] w0 fun v w' => v = .int .i64 (nchk b p) ∧ Fr [] w0 w' := by
 refine we [(0, .agg #[.int .u8 b, .int .i64 p])] Tryd.func38 rfl Tryd.ntmps38 rfl (.cons rfl .nil) ?_
 refine sr (bx rfl rfl rfl (fun g1 w1 hg1 hb1 q1 z1 => ?_))
 refine asg rfl rfl (nn (sq (sq ?_)))
 refine rbo (r := 10) (L' := [(1, _)]) (((b ≠ 0) ∧ (b ≠ 1))) (.cons rfl .nil) ?_ ?_
 · refine fad rfl fa39_0 rfl (s_loadB rfl hb1 rfl na37 rfl (ne' rfl rfl rfl (mv rfl rfl ?_)))
   refine gs 6 rfl (fun g0 => ?_) (fun g0 => ?_)
   · exact gY rfl (fad rfl fa39_0 rfl (gY rfl (s_loadB rfl hb1 rfl na37 rfl (gY rfl (ne' rfl rfl rfl (pkt rfl rfl rfl rfl (rbe rfl (by first | exact bt (by omega) | exact bf (by omega) | exact bi (by omega) | exact bn (by omega) | (simp_all; done) | (simp_all; omega)) (.cons rfl .nil))))))))
   · exact gN rfl rfl rfl (gN rfl rfl rfl (gN rfl rfl rfl (pkf rfl rfl rfl rfl (rbe rfl (by first | exact bt (by omega) | exact bf (by omega) | exact bi (by omega) | exact bn (by omega) | (simp_all; done) | (simp_all; omega)) (.cons rfl .nil)))))
 · refine tn ?_
   refine cd rfl (fun c0 => ?_) (fun c0 => ?_)
   · refine sr (asg rfl rfl (nn (rt (tr (r1 Tryd.results38 rfl ?_)))))
     exact ⟨_, rfl, by rw [nchk, if_pos c0], q1⟩
   · refine sk (tn (sq (sq ?_)))
     refine rbo (r := 18) (L' := []) (((p < 1) ∨ (40 < p))) .nil ?_ ?_
     · refine fad rfl fa39_1 rfl (s_loadB rfl hb1 rfl na3 rfl (lt' rfl rfl rfl (mv rfl rfl ?_)))
       refine gs 14 rfl (fun g1 => ?_) (fun g1 => ?_)
       · exact gN rfl rfl rfl (gN rfl rfl rfl (gN rfl rfl rfl (pkt rfl rfl rfl rfl (rbe rfl (by first | exact bt (by omega) | exact bf (by omega) | exact bi (by omega) | exact bn (by omega) | (simp_all; done) | (simp_all; omega)) .nil))))
       · exact gY rfl (fad rfl fa39_1 rfl (gY rfl (s_loadB rfl hb1 rfl na3 rfl (gY rfl (gt' rfl rfl rfl (pkf rfl rfl rfl rfl (rbe rfl (by first | exact bt (by omega) | exact bf (by omega) | exact bi (by omega) | exact bn (by omega) | (simp_all; done) | (simp_all; omega)) .nil)))))))
     · refine tn ?_
       refine cd rfl (fun c1 => ?_) (fun c1 => ?_)
       · refine sr (asg rfl rfl (nn (rt (tr (r1 Tryd.results38 rfl ?_)))))
         exact ⟨_, rfl, by rw [nchk, if_neg c0, if_pos c1], q1⟩
       · refine sk (tn (sr (asg rfl rfl (nn (rt (r1 Tryd.results38 rfl ?_))))))
         exact ⟨_, rfl, by rw [nchk, if_neg c0, if_neg c1], q1⟩
def kV (k : Int) : Value := .int .u8 k
theorem kLaw : KeyLaw Tryd.prog 36 kV := KeyLaw.now Tryd.underlying36 (fun k k' => by simp [kV, Instr.sameNow, beq_dec]) (fun _ _ _ => by kernel_rfl) (fun _ => by simp [kV, Instr.sameBits])
theorem uses_ok (w0 : World) : Rets Tryd.prog 42 #[] w0 fun v w' => ∃ g, v = .map (some g) ∧ w0.heap.size ≤ g ∧ g < w'.heap.size ∧ MapF kV w' g usesV ∧ Fr [] w0 w' := by
 refine we [] Tryd.func42 rfl Tryd.ntmps42 rfl .nil ?_
 refine sr (asg rfl rfl (nn (sr ?_)))
 refine s_makeMap kV rfl (fun g1 w1 hg1 hm q1 z1 => ?_)
 refine s_lit (cs := [_, _, _, _]) (ev2 rfl rfl) bo95 (pok_cons rfl rfl rfl (pok_cons rfl rfl rfl pok_nil)) rfl rfl ?_
 refine s_insert (V := kV) (k := 1) rfl rfl rfl hm kLaw Tryd.underlying97 (fun w2 hm q2 z2 => ?_)
 refine s_lit (cs := [_, _, _, _]) (ev1 rfl) bo95 (pok_cons rfl rfl rfl pok_nil) rfl rfl ?_
 refine s_insert (V := kV) (k := 2) rfl rfl rfl hm kLaw Tryd.underlying97 (fun w3 hm q3 z3 => ?_)
 refine s_lit (cs := [_, _, _, _]) (ev1 rfl) bo95 (pok_cons rfl rfl rfl pok_nil) rfl rfl ?_
 refine s_insert (V := kV) (k := 3) rfl rfl rfl hm kLaw Tryd.underlying97 (fun w4 hm q4 z4 => ?_)
 refine s_lit (cs := [_, _, _, _]) (ev3 rfl rfl rfl) bo95 (pok_cons rfl rfl rfl (pok_cons rfl rfl rfl (pok_cons rfl rfl rfl pok_nil))) rfl rfl ?_
 refine s_insert (V := kV) (k := 4) rfl rfl rfl hm kLaw Tryd.underlying97 (fun w5 hm q5 z5 => ?_)
 refine s_lit (cs := [_, _, _, _]) (ev3 rfl rfl rfl) bo95 (pok_cons rfl rfl rfl (pok_cons rfl rfl rfl (pok_cons rfl rfl rfl pok_nil))) rfl rfl ?_
 refine s_insert (V := kV) (k := 5) rfl rfl rfl hm kLaw Tryd.underlying97 (fun w6 hm q6 z6 => ?_)
 refine s_lit (cs := [_, _, _, _]) (ev3 rfl rfl rfl) bo95 (pok_cons rfl rfl rfl (pok_cons rfl rfl rfl (pok_cons rfl rfl rfl pok_nil))) rfl rfl ?_
 refine s_insert (V := kV) (k := 6) rfl rfl rfl hm kLaw Tryd.underlying97 (fun w7 hm q7 z7 => ?_)
 refine s_lit (cs := [_, _, _, _]) (ev1 rfl) bo95 (pok_cons rfl rfl rfl pok_nil) rfl rfl ?_
 refine s_insert (V := kV) (k := 7) rfl rfl rfl hm kLaw Tryd.underlying97 (fun w8 hm q8 z8 => ?_)
 refine s_lit (cs := [_, _, _, _]) (ev1 rfl) bo95 (pok_cons rfl rfl rfl pok_nil) rfl rfl ?_
 refine s_insert (V := kV) (k := 8) rfl rfl rfl hm kLaw Tryd.underlying97 (fun w9 hm q9 z9 => ?_)
 refine mv rfl rfl (asg rfl rfl (nn (rt (r1 Tryd.results42 rfl ?_))))
 exact ⟨_, rfl, g1, rfl, by omega, by omega, by
   refine (funext fun k => ?_ : usesV = _) ▸ hm
   unfold usesV usesS; repeat' split
   all_goals first | rfl | (simp_all [f4V]; done), ((((((((q1.step q2 (by first | (simp; done) | (simp; omega))).step q3 (by first | (simp; done) | (simp; omega))).step q4 (by first | (simp; done) | (simp; omega))).step q5 (by first | (simp; done) | (simp; omega))).step q6 (by first | (simp; done) | (simp; omega))).step q7 (by first | (simp; done) | (simp; omega))).step q8 (by first | (simp; done) | (simp; omega))).step q9 (by first | (simp; done) | (simp; omega)))⟩
theorem eqNd : EqOf Tryd.prog 39 ndV := by
  intro e f ox oy w
  have hg : ∀ op, (eqGuard op 39 ox oy (ndV e) (ndV f)).run Tryd.prog w = .ok () w := fun op => run_eqGuard_agg w op 39 ox oy _ _ (by kernel_rfl)
  have h1 : Tryd.prog.stoodInHeld 39 = false := by kernel_rfl
  obtain ⟨k, y⟩ := e
  obtain ⟨k', y'⟩ := f
  refine ⟨hg _, hg _, ?_, ?_⟩
  · unfold ndV
    simp [go_sem, h1, Tryd.underlying39]
    (repeat' split) <;> simp_all
  · unfold ndV
    simp [go_sem, h1, Tryd.underlying39]
    (repeat' split) <;> simp_all
theorem plain_ok (o : MOp) (w0 : World) : Rets Tryd.prog 36 #[opV o] w0 fun v w' => v = .bool (decide (plainS o)) ∧ Fr [] w0 w' := by
 refine we [(0, opV o)] Tryd.func36 rfl Tryd.ntmps36 rfl (.cons rfl .nil) ?_
 refine sr (bx rfl rfl rfl (fun g1 w1 hg1 hb1 q1 z1 => ?_))
 refine asg rfl rfl (nn ?_)
 refine jn (ι := Nat) [(1, _)] (fun g3 => [(3, .pointer (some ⟨g3, 0, none⟩)), (4, .bool (usesS o.k).isSome)]) (fun g3 w' => Fr [] w1 w' ∧ w1.heap.size ≤ g3 ∧ Blk w' g3 95 (f4L ((usesS o.k).getD f40))) (.cons rfl .nil) ?_ ?_
 · intro a h
   have qh1 := Fr.refl [] w1
   refine region_held (fun wb w' => Fr [] wb w') hmix ?_; intro w2 hq
   have z2 := hq.size
   replace hb1 := hb1.ext hq
   replace qh1 := qh1.next hq
   have hsz := hq.size; clear hq; have hC : Fr [] w2 w2 := Fr.refl _ _
   have hb1_b := hb1
   refine hd_fieldAddr 1 (by kernel_rfl) (by kernel_rfl) (by kernel_rfl) hC h wn rfl fa42_0 rfl rfl ?_; clear h a; intro a h
   refine hd_loadB 2 (by kernel_rfl) (by kernel_rfl) (by kernel_rfl) hC h wn rfl (fun _ hw => hb1_b.ext hw) rfl na36 rfl rfl ?_; clear h a; intro a h
   refine hd_two 0 7 (by kernel_rfl) rfl rfl ?_ ?_
   · refine id ?_
     refine st_call h evs_nil co42 (uses_ok _) rfl ?_; clear h a; rintro _ w3 ⟨gm, rfl, hgm1, hgm2, hm, hq⟩ a h
     have z3 := hq.size
     replace hb1 := hb1.ext hq
     replace qh1 := qh1.next hq
     replace hC := hC.next hq
     clear hq
     refine hd_next hC ?_
     refine hd_two 3 7 (by kernel_rfl) rfl rfl ?_ ?_
     · refine id ?_
       refine st_lookup2 (V := kV) (k := o.k) h rfl rfl hm kLaw Tryd.underlying97 zv95 (usesV_getD _) (usesV_some _) rfl ?_; clear h a; intro a h
       refine hd_next hC ?_
       refine hd_move 4 (by kernel_rfl) (by kernel_rfl) (by kernel_rfl) hC h wn rfl rfl rfl ?_; clear h a; intro a h
       refine hd_extract 5 (by kernel_rfl) (by kernel_rfl) (by kernel_rfl) hC h wn rfl rfl rfl rfl ?_; clear h a; intro a h
       refine hd_extract 6 (by kernel_rfl) (by kernel_rfl) (by kernel_rfl) hC h wn rfl rfl rfl rfl ?_; clear h a; intro a h
       refine hd_one 7 (by kernel_rfl) rfl ?_
       refine st_alloc h zv95 rfl rfl ?_; clear h a; intro w4 hb3 hq hz a h
       obtain ⟨g_3, hg⟩ : ∃ g, g = w3.heap.size := ⟨_, rfl⟩; rw [← hg] at hb3 h hz
       have hn__3 : g1 < g_3 := by have := hb1.lt; omega
       have hl_qh1_3 : w1.heap.size ≤ g_3 := by have := qh1.size; omega
       have hl_hC_3 : w2.heap.size ≤ g_3 := by have := hC.size; omega
       have z4 := hq.size
       replace hb1 := hb1.ext hq
       replace qh1 := qh1.next hq
       replace hC := hC.next hq
       replace hm := hm.ext hq
       clear hq
       refine hd_next hC ?_
       refine hd_one 8 (by kernel_rfl) rfl ?_
       refine st_storeBA h rfl rfl hb3 rfl (by first | (simp [Value.oneCell', S]; done) | exact Enc.one _ _ | exact f4L_one _) sz95 ?_; clear h a; intro w5 hbn hq hz a h
       have z5 := hq.size
       replace hb1 := hb1.fr hq (by first | (simp; done) | (simp; omega) | (simp [blks]; done) | (simp [blks]; omega))
       replace qh1 := qh1.step hq (by first | (simp; done) | (simp; omega))
       replace hC := hC.step hq (by first | (simp; done) | (simp; omega))
       replace hm := hm.fr hq (by simp; exact hm.ne_blk hb3)
       clear hb3 hq hz; have hb3 : Blk w5 g_3 _ [_, _, _, _] := hbn; clear hbn
       refine hd_next hC ?_
       refine hd_one 9 (by kernel_rfl) rfl ?_
       refine st_assign h rfl rfl ?_; clear h a; intro a h
       refine hd_next hC ?_
       refine hd_end (by kernel_rfl) ?_
       clear hC hb1_b
       have z5 := qh1.size
       refine bk (h.sub (L' := [(1, _), (3, _), (4, _)]) (.cons rfl (.cons rfl (.cons rfl .nil)))) ?_; clear h a
       exact jE (g_3) (.cons rfl (.cons rfl (.cons rfl .nil))) ⟨qh1, ⟨by omega, hb3⟩⟩
     · refine id ?_
       refine st_alloc h zv95 rfl rfl ?_; clear h a; intro w6 hb3 hq hz a h
       obtain ⟨g_3, hg⟩ : ∃ g, g = w3.heap.size := ⟨_, rfl⟩; rw [← hg] at hb3 h hz
       have hn__3 : g1 < g_3 := by have := hb1.lt; omega
       have hl_qh1_3 : w1.heap.size ≤ g_3 := by have := qh1.size; omega
       have hl_hC_3 : w2.heap.size ≤ g_3 := by have := hC.size; omega
       have z6 := hq.size
       replace hb1 := hb1.ext hq
       replace qh1 := qh1.next hq
       replace hC := hC.next hq
       replace hm := hm.ext hq
       clear hq
       refine hd_next hC ?_
       refine hd_one 3 (by kernel_rfl) rfl ?_
       refine st_lookup2 (V := kV) (k := o.k) h rfl rfl hm kLaw Tryd.underlying97 zv95 (usesV_getD _) (usesV_some _) rfl ?_; clear h a; intro a h
       refine hd_next hC ?_
       refine hd_move 4 (by kernel_rfl) (by kernel_rfl) (by kernel_rfl) hC h wn rfl rfl rfl ?_; clear h a; intro a h
       refine hd_extract 5 (by kernel_rfl) (by kernel_rfl) (by kernel_rfl) hC h wn rfl rfl rfl rfl ?_; clear h a; intro a h
       refine hd_extract 6 (by kernel_rfl) (by kernel_rfl) (by kernel_rfl) hC h wn rfl rfl rfl rfl ?_; clear h a; intro a h
       refine hd_one 8 (by kernel_rfl) rfl ?_
       refine st_storeBA h rfl rfl hb3 rfl (by first | (simp [Value.oneCell', S]; done) | exact Enc.one _ _ | exact f4L_one _) sz95 ?_; clear h a; intro w7 hbn hq hz a h
       have z7 := hq.size
       replace hb1 := hb1.fr hq (by first | (simp; done) | (simp; omega) | (simp [blks]; done) | (simp [blks]; omega))
       replace qh1 := qh1.step hq (by first | (simp; done) | (simp; omega))
       replace hC := hC.step hq (by first | (simp; done) | (simp; omega))
       replace hm := hm.fr hq (by simp; exact hm.ne_blk hb3)
       clear hb3 hq hz; have hb3 : Blk w7 g_3 _ [_, _, _, _] := hbn; clear hbn
       refine hd_next hC ?_
       refine hd_one 9 (by kernel_rfl) rfl ?_
       refine st_assign h rfl rfl ?_; clear h a; intro a h
       refine hd_next hC ?_
       refine hd_end (by kernel_rfl) ?_
       clear hC hb1_b
       have z7 := qh1.size
       refine bk (h.sub (L' := [(1, _), (3, _), (4, _)]) (.cons rfl (.cons rfl (.cons rfl .nil)))) ?_; clear h a
       exact jE (g_3) (.cons rfl (.cons rfl (.cons rfl .nil))) ⟨qh1, ⟨by omega, hb3⟩⟩
   · refine id ?_
     refine st_alloc h zv95 rfl rfl ?_; clear h a; intro w8 hb3 hq hz a h
     obtain ⟨g_3, hg⟩ : ∃ g, g = w2.heap.size := ⟨_, rfl⟩; rw [← hg] at hb3 h hz
     have hn__3 : g1 < g_3 := by have := hb1.lt; omega
     have hl_qh1_3 : w1.heap.size ≤ g_3 := by have := qh1.size; omega
     have hl_hC_3 : w2.heap.size ≤ g_3 := by have := hC.size; omega
     have z8 := hq.size
     replace hb1 := hb1.ext hq
     replace qh1 := qh1.next hq
     replace hC := hC.next hq
     clear hq
     refine hd_next hC ?_
     refine hd_one 0 (by kernel_rfl) rfl ?_
     refine st_call h evs_nil co42 (uses_ok _) rfl ?_; clear h a; rintro _ w9 ⟨gm, rfl, hgm1, hgm2, hm, hq⟩ a h
     have z9 := hq.size
     replace hb1 := hb1.ext hq
     replace qh1 := qh1.next hq
     replace hC := hC.next hq
     replace hb3 := hb3.ext hq
     clear hq
     refine hd_next hC ?_
     refine hd_one 3 (by kernel_rfl) rfl ?_
     refine st_lookup2 (V := kV) (k := o.k) h rfl rfl hm kLaw Tryd.underlying97 zv95 (usesV_getD _) (usesV_some _) rfl ?_; clear h a; intro a h
     refine hd_next hC ?_
     refine hd_move 4 (by kernel_rfl) (by kernel_rfl) (by kernel_rfl) hC h wn rfl rfl rfl ?_; clear h a; intro a h
     refine hd_extract 5 (by kernel_rfl) (by kernel_rfl) (by kernel_rfl) hC h wn rfl rfl rfl rfl ?_; clear h a; intro a h
     refine hd_extract 6 (by kernel_rfl) (by kernel_rfl) (by kernel_rfl) hC h wn rfl rfl rfl rfl ?_; clear h a; intro a h
     refine hd_one 8 (by kernel_rfl) rfl ?_
     refine st_storeBA h rfl rfl hb3 rfl (by first | (simp [Value.oneCell', S]; done) | exact Enc.one _ _ | exact f4L_one _) sz95 ?_; clear h a; intro w10 hbn hq hz a h
     have z10 := hq.size
     replace hb1 := hb1.fr hq (by first | (simp; done) | (simp; omega) | (simp [blks]; done) | (simp [blks]; omega))
     replace qh1 := qh1.step hq (by first | (simp; done) | (simp; omega))
     replace hC := hC.step hq (by first | (simp; done) | (simp; omega))
     replace hm := hm.fr hq (by simp; exact hm.ne_blk hb3)
     clear hb3 hq hz; have hb3 : Blk w10 g_3 _ [_, _, _, _] := hbn; clear hbn
     refine hd_next hC ?_
     refine hd_one 9 (by kernel_rfl) rfl ?_
     refine st_assign h rfl rfl ?_; clear h a; intro a h
     refine hd_next hC ?_
     refine hd_end (by kernel_rfl) ?_
     clear hC hb1_b
     have z10 := qh1.size
     refine bk (h.sub (L' := [(1, _), (3, _), (4, _)]) (.cons rfl (.cons rfl (.cons rfl .nil)))) ?_; clear h a
     exact jE (g_3) (.cons rfl (.cons rfl (.cons rfl .nil))) ⟨qh1, ⟨by omega, hb3⟩⟩
 · rintro g3 w11 ⟨q11, ⟨hg3, hb3⟩⟩
   have z11 := q11.size
   have lt_hb3 := hb3.lt
   refine kpC [(1, _), (3, _), (4, _)] (.cons rfl (.cons rfl (.cons rfl .nil))) ?_
   obtain ⟨f, hf⟩ : ∃ f, (usesS o.k).getD f40 = f := ⟨_, rfl⟩
   rw [hf] at hb3
   have hps : plainS o ↔ (usesS o.k).isSome = true ∧ plainF f o := by rw [← hf]; rfl
   replace hb3 : Blk w11 g3 _ [.bool f.1, .bool f.2.1, .bool f.2.2.1, .bool f.2.2.2] := hb3
   refine sq (sr (mv rfl rfl (nt' rfl rfl (nn ?_))))
   refine cd rfl (fun c0 => ?_) (fun c0 => ?_)
   · refine sr (asg rfl rfl (nn (rt (tr (r1 Tryd.results36 rfl ?_)))))
     exact ⟨_, rfl, congrArg Value.bool (decide_eq_false (fun h => by simp [(hps.1 h).1] at c0)).symm, (q1.next q11)⟩
   · refine sk (tn (sq (sq ?_)))
     refine rbo (r := 35) (L' := [(1, _), (3, _)]) ((((f.1 = true ∧ (o.d ≠ 0)) ∧ (o.d ≠ 1)) ∨ ((¬ f.1 = true) ∧ (o.d ≠ 0)))) (.cons rfl (.cons rfl .nil)) ?_ ?_
     · refine fad rfl fa95_0 rfl (s_loadB rfl hb3 rfl na4 rfl (mv rfl rfl ?_))
       refine gs 16 rfl (fun g0 => ?_) (fun g0 => ?_)
       · refine gY rfl (fad rfl fa42_1 rfl (gY rfl ?_))
         replace hb1 := hb1.ext q11
         refine s_loadB rfl hb1 rfl na40 rfl (gY rfl (ne' rfl rfl rfl (pkt rfl rfl rfl rfl (mv rfl rfl ?_))))
         refine gs 21 rfl (fun g1 => ?_) (fun g1 => ?_)
         · refine gY rfl (fad rfl fa42_1 rfl (gY rfl (s_loadB rfl hb1 rfl na40 rfl (gY rfl (ne' rfl rfl rfl (pkt rfl rfl rfl rfl (mv rfl rfl ?_)))))))
           refine gs 26 rfl (fun g2 => ?_) (fun g2 => ?_)
           · exact gN rfl rfl rfl (gN rfl rfl rfl (gN rfl rfl rfl (gN rfl rfl rfl (gS rfl rfl rfl (gS rfl rfl rfl (gS rfl rfl rfl (gN rfl rfl rfl (pkt rfl rfl rfl rfl (rbe rfl (by first | exact bt (by omega) | exact bf (by omega) | exact bi (by omega) | exact bn (by omega) | (simp_all; done) | (simp_all; omega)) (.cons rfl (.cons rfl .nil)))))))))))
           · refine gY rfl (fad rfl fa95_0 rfl (gY rfl (s_loadB rfl hb3 rfl na4 rfl (gY rfl (nt' rfl rfl (gY rfl (mv rfl rfl ?_)))))))
             refine gs 30 rfl (fun g3 => ?_) (fun g3 => ?_)
             · exact gY rfl (fad rfl fa42_1 rfl (gY rfl (s_loadB rfl hb1 rfl na40 rfl (gY rfl (ne' rfl rfl rfl (gY rfl (pkt rfl rfl rfl rfl (pkf rfl rfl rfl rfl (rbe rfl (by first | exact bt (by omega) | exact bf (by omega) | exact bi (by omega) | exact bn (by omega) | (simp_all; done) | (simp_all; omega)) (.cons rfl (.cons rfl .nil)))))))))))
             · exact gN rfl rfl rfl (gN rfl rfl rfl (gN rfl rfl rfl (gY rfl (pkf rfl rfl rfl rfl (pkf rfl rfl rfl rfl (rbe rfl (by first | exact bt (by omega) | exact bf (by omega) | exact bi (by omega) | exact bn (by omega) | (simp_all; done) | (simp_all; omega)) (.cons rfl (.cons rfl .nil))))))))
         · refine gN rfl rfl rfl (gN rfl rfl rfl (gN rfl rfl rfl (pkf rfl rfl rfl rfl (mv rfl rfl (gY rfl (fad rfl fa95_0 rfl (gY rfl (s_loadB rfl hb3 rfl na4 rfl (gY rfl (nt' rfl rfl (gY rfl ?_)))))))))))
           refine mv rfl rfl ?_
           refine gs 30 rfl (fun g4 => ?_) (fun g4 => ?_)
           · exact gY rfl (fad rfl fa42_1 rfl (gY rfl (s_loadB rfl hb1 rfl na40 rfl (gY rfl (ne' rfl rfl rfl (gY rfl (pkt rfl rfl rfl rfl (pkf rfl rfl rfl rfl (rbe rfl (by first | exact bt (by omega) | exact bf (by omega) | exact bi (by omega) | exact bn (by omega) | (simp_all; done) | (simp_all; omega)) (.cons rfl (.cons rfl .nil)))))))))))
           · exact gN rfl rfl rfl (gN rfl rfl rfl (gN rfl rfl rfl (gY rfl (pkf rfl rfl rfl rfl (pkf rfl rfl rfl rfl (rbe rfl (by first | exact bt (by omega) | exact bf (by omega) | exact bi (by omega) | exact bn (by omega) | (simp_all; done) | (simp_all; omega)) (.cons rfl (.cons rfl .nil))))))))
       · refine gN rfl rfl rfl (gN rfl rfl rfl (gN rfl rfl rfl (pkf rfl rfl rfl rfl (mv rfl rfl (gN rfl rfl rfl (gN rfl rfl rfl (gN rfl rfl rfl (pkf rfl rfl rfl rfl (mv rfl rfl (gY rfl (fad rfl fa95_0 rfl ?_)))))))))))
         refine gY rfl (s_loadB rfl hb3 rfl na4 rfl (gY rfl (nt' rfl rfl (gY rfl (mv rfl rfl ?_)))))
         refine gs 30 rfl (fun g5 => ?_) (fun g5 => ?_)
         · refine gY rfl (fad rfl fa42_1 rfl (gY rfl ?_))
           replace hb1 := hb1.ext q11
           exact s_loadB rfl hb1 rfl na40 rfl (gY rfl (ne' rfl rfl rfl (gY rfl (pkt rfl rfl rfl rfl (pkf rfl rfl rfl rfl (rbe rfl (by first | exact bt (by omega) | exact bf (by omega) | exact bi (by omega) | exact bn (by omega) | (simp_all; done) | (simp_all; omega)) (.cons rfl (.cons rfl .nil))))))))
         · exact gN rfl rfl rfl (gN rfl rfl rfl (gN rfl rfl rfl (gY rfl (pkf rfl rfl rfl rfl (pkf rfl rfl rfl rfl (rbe rfl (by first | exact bt (by omega) | exact bf (by omega) | exact bi (by omega) | exact bn (by omega) | (simp_all; done) | (simp_all; omega)) (.cons rfl (.cons rfl .nil))))))))
     · refine tn ?_
       refine cd rfl (fun c1 => ?_) (fun c1 => ?_)
       · refine sr (asg rfl rfl (nn (rt (tr (r1 Tryd.results36 rfl ?_)))))
         exact ⟨_, rfl, congrArg Value.bool (decide_eq_false (fun h => (hps.1 h).2.1 c1)).symm, (q1.next q11)⟩
       · refine sk (tn (sq (sq ?_)))
         refine rboF (r := 54) (L' := [(1, _), (3, _)]) (((f.2.1 = true ∧ ((nchk o.b o.p) ≠ 0)) ∨ ((¬ f.2.1 = true) ∧ (¬ (o.b = 0 ∧ o.p = 0))))) (.cons rfl (.cons rfl .nil)) ?_ ?_
         · refine fad rfl fa95_1 rfl (s_loadB rfl hb3 rfl na4 rfl (mv rfl rfl ?_))
           refine gs 38 rfl (fun g6 => ?_) (fun g6 => ?_)
           · refine gY rfl (fad rfl fa42_2 rfl (gY rfl ?_))
             replace hb1 := hb1.ext q11
             refine s_loadBP (vs := [_, _]) rfl hb1 ag39 rfl rfl (gY rfl ?_)
             refine cl (ev1 rfl) co38 (ncheck_ok _ _ _) rfl ?_
             rintro _ w12 ⟨rfl, q12⟩
             have z12 := q12.size
             refine gY rfl (ne' rfl rfl rfl (pkt rfl rfl rfl rfl (mv rfl rfl ?_)))
             refine gs 44 rfl (fun g7 => ?_) (fun g7 => ?_)
             · exact gN rfl rfl rfl (gN rfl rfl rfl (gN rfl rfl rfl (gN rfl rfl rfl (gS rfl rfl rfl (gS rfl rfl rfl (gS rfl rfl rfl (gS rfl rfl rfl (gN rfl rfl rfl (pkt rfl rfl rfl rfl (rbeF rfl (by first | exact bt (by omega) | exact bf (by omega) | exact bi (by omega) | exact bn (by omega) | (simp_all; done) | (simp_all; omega)) (.cons rfl (.cons rfl .nil)) q12))))))))))
             · refine gY rfl (fad rfl fa95_1 rfl (gY rfl ?_))
               replace hb3 := hb3.ext q12
               refine s_loadB rfl hb3 rfl na4 rfl (gY rfl (nt' rfl rfl (gY rfl (mv rfl rfl ?_))))
               refine gs 48 rfl (fun g8 => ?_) (fun g8 => ?_)
               · refine gY rfl (fad rfl fa42_2 rfl (gY rfl ?_))
                 replace hb1 := hb1.ext q12
                 exact s_loadBP (vs := [_, _]) rfl hb1 ag39 rfl rfl (gY rfl (s_lit (cs := [_, _]) evs_nil bo39 pok_nil rfl rfl (gY rfl (s_neV (V := ndV) (e := (_, _)) (f := (_, _)) rfl rfl eqNd rfl (gY rfl (pkt rfl rfl rfl rfl (pkf rfl rfl rfl rfl (rbeF rfl (by first | exact bt (by omega) | exact bf (by omega) | exact bi (by omega) | exact bn (by omega) | (simp_all; done) | (simp_all; omega)) (.cons rfl (.cons rfl .nil)) q12))))))))
               · exact gN rfl rfl rfl (gN rfl rfl rfl (gN rfl rfl rfl (gN rfl rfl rfl (gY rfl (pkf rfl rfl rfl rfl (pkf rfl rfl rfl rfl (rbeF rfl (by first | exact bt (by omega) | exact bf (by omega) | exact bi (by omega) | exact bn (by omega) | (simp_all; done) | (simp_all; omega)) (.cons rfl (.cons rfl .nil)) q12)))))))
           · refine gN rfl rfl rfl (gN rfl rfl rfl (gN rfl rfl rfl (gN rfl rfl rfl (pkf rfl rfl rfl rfl (mv rfl rfl (gY rfl (fad rfl fa95_1 rfl (gY rfl (s_loadB rfl hb3 rfl na4 rfl (gY rfl (nt' rfl rfl ?_)))))))))))
             refine gY rfl (mv rfl rfl ?_)
             refine gs 48 rfl (fun g9 => ?_) (fun g9 => ?_)
             · refine gY rfl (fad rfl fa42_2 rfl (gY rfl ?_))
               replace hb1 := hb1.ext q11
               exact s_loadBP (vs := [_, _]) rfl hb1 ag39 rfl rfl (gY rfl (s_lit (cs := [_, _]) evs_nil bo39 pok_nil rfl rfl (gY rfl (s_neV (V := ndV) (e := (_, _)) (f := (_, _)) rfl rfl eqNd rfl (gY rfl (pkt rfl rfl rfl rfl (pkf rfl rfl rfl rfl (rbeF rfl (by first | exact bt (by omega) | exact bf (by omega) | exact bi (by omega) | exact bn (by omega) | (simp_all; done) | (simp_all; omega)) (.cons rfl (.cons rfl .nil)) (Fr.refl _ _)))))))))
             · exact gN rfl rfl rfl (gN rfl rfl rfl (gN rfl rfl rfl (gN rfl rfl rfl (gY rfl (pkf rfl rfl rfl rfl (pkf rfl rfl rfl rfl (rbeF rfl (by first | exact bt (by omega) | exact bf (by omega) | exact bi (by omega) | exact bn (by omega) | (simp_all; done) | (simp_all; omega)) (.cons rfl (.cons rfl .nil)) (Fr.refl _ _))))))))
         · intro w13 q13; have z13 := q13.size
           refine tn ?_
           refine cd rfl (fun c2 => ?_) (fun c2 => ?_)
           · refine sr (asg rfl rfl (nn (rt (tr (r1 Tryd.results36 rfl ?_)))))
             exact ⟨_, rfl, congrArg Value.bool (decide_eq_false (fun h => (hps.1 h).2.2.1 c2)).symm, ((q1.next q11).next q13)⟩
           · refine sk (tn (sq (sq ?_)))
             refine rbo (r := 76) (L' := [(1, _), (3, _)]) (((f.2.2.1 = true ∧ ((o.y < 1) ∨ (6 < o.y))) ∨ ((¬ f.2.2.1 = true) ∧ (o.y ≠ 0)))) (.cons rfl (.cons rfl .nil)) ?_ ?_
             · refine fad rfl fa95_2 rfl ?_
               replace hb3 := hb3.ext q13
               refine s_loadB rfl hb3 rfl na4 rfl (mv rfl rfl ?_)
               refine gs 57 rfl (fun g10 => ?_) (fun g10 => ?_)
               · refine gY rfl (fad rfl fa42_3 rfl (gY rfl ?_))
                 replace hb1 := hb1.ext (q11.next q13)
                 refine s_loadB rfl hb1 rfl na5 rfl (gY rfl (lt' rfl rfl rfl (gY rfl (mv rfl rfl ?_))))
                 refine gs 61 rfl (fun g11 => ?_) (fun g11 => ?_)
                 · refine gN rfl rfl rfl (gN rfl rfl rfl (gN rfl rfl rfl (gY rfl (pkt rfl rfl rfl rfl (pkt rfl rfl rfl rfl (mv rfl rfl (gN rfl rfl rfl (gN rfl rfl rfl (gN rfl rfl rfl (gN rfl rfl rfl (gS rfl rfl rfl ?_)))))))))))
                   exact gS rfl rfl rfl (gS rfl rfl rfl (gN rfl rfl rfl (pkt rfl rfl rfl rfl (rbe rfl (by first | exact bt (by omega) | exact bf (by omega) | exact bi (by omega) | exact bn (by omega) | (simp_all; done) | (simp_all; omega)) (.cons rfl (.cons rfl .nil))))))
                 · refine gY rfl (fad rfl fa42_3 rfl (gY rfl (s_loadB rfl hb1 rfl na5 rfl (gY rfl (gt' rfl rfl rfl (gY rfl (pkf rfl rfl rfl rfl (pkt rfl rfl rfl rfl (mv rfl rfl ?_)))))))))
                   refine gs 67 rfl (fun g12 => ?_) (fun g12 => ?_)
                   · exact gN rfl rfl rfl (gN rfl rfl rfl (gN rfl rfl rfl (gN rfl rfl rfl (gS rfl rfl rfl (gS rfl rfl rfl (gS rfl rfl rfl (gN rfl rfl rfl (pkt rfl rfl rfl rfl (rbe rfl (by first | exact bt (by omega) | exact bf (by omega) | exact bi (by omega) | exact bn (by omega) | (simp_all; done) | (simp_all; omega)) (.cons rfl (.cons rfl .nil)))))))))))
                   · refine gY rfl (fad rfl fa95_2 rfl (gY rfl (s_loadB rfl hb3 rfl na4 rfl (gY rfl (nt' rfl rfl (gY rfl (mv rfl rfl ?_)))))))
                     refine gs 71 rfl (fun g13 => ?_) (fun g13 => ?_)
                     · exact gY rfl (fad rfl fa42_3 rfl (gY rfl (s_loadB rfl hb1 rfl na5 rfl (gY rfl (ne' rfl rfl rfl (gY rfl (pkt rfl rfl rfl rfl (pkf rfl rfl rfl rfl (rbe rfl (by first | exact bt (by omega) | exact bf (by omega) | exact bi (by omega) | exact bn (by omega) | (simp_all; done) | (simp_all; omega)) (.cons rfl (.cons rfl .nil)))))))))))
                     · exact gN rfl rfl rfl (gN rfl rfl rfl (gN rfl rfl rfl (gY rfl (pkf rfl rfl rfl rfl (pkf rfl rfl rfl rfl (rbe rfl (by first | exact bt (by omega) | exact bf (by omega) | exact bi (by omega) | exact bn (by omega) | (simp_all; done) | (simp_all; omega)) (.cons rfl (.cons rfl .nil))))))))
               · refine gN rfl rfl rfl (gN rfl rfl rfl (gN rfl rfl rfl (gN rfl rfl rfl (gS rfl rfl rfl (gS rfl rfl rfl (gS rfl rfl rfl (gN rfl rfl rfl (pkf rfl rfl rfl rfl (mv rfl rfl (gY rfl (fad rfl fa95_2 rfl ?_)))))))))))
                 refine gY rfl (s_loadB rfl hb3 rfl na4 rfl (gY rfl (nt' rfl rfl (gY rfl (mv rfl rfl ?_)))))
                 refine gs 71 rfl (fun g14 => ?_) (fun g14 => ?_)
                 · refine gY rfl (fad rfl fa42_3 rfl (gY rfl ?_))
                   replace hb1 := hb1.ext (q11.next q13)
                   exact s_loadB rfl hb1 rfl na5 rfl (gY rfl (ne' rfl rfl rfl (gY rfl (pkt rfl rfl rfl rfl (pkf rfl rfl rfl rfl (rbe rfl (by first | exact bt (by omega) | exact bf (by omega) | exact bi (by omega) | exact bn (by omega) | (simp_all; done) | (simp_all; omega)) (.cons rfl (.cons rfl .nil))))))))
                 · exact gN rfl rfl rfl (gN rfl rfl rfl (gN rfl rfl rfl (gY rfl (pkf rfl rfl rfl rfl (pkf rfl rfl rfl rfl (rbe rfl (by first | exact bt (by omega) | exact bf (by omega) | exact bi (by omega) | exact bn (by omega) | (simp_all; done) | (simp_all; omega)) (.cons rfl (.cons rfl .nil))))))))
             · refine tn ?_
               refine cd rfl (fun c3 => ?_) (fun c3 => ?_)
               · refine sr (asg rfl rfl (nn (rt (tr (r1 Tryd.results36 rfl ?_)))))
                 exact ⟨_, rfl, congrArg Value.bool (decide_eq_false (fun h => (hps.1 h).2.2.2.1 c3)).symm, ((q1.next q11).next q13)⟩
               · refine sk (tn (sq ?_))
                 refine rbo (r := 2) (L' := []) ((f.2.2.2 = true ∨ (o.r = 0))) .nil ?_ ?_
                 · refine fad rfl fa95_3 rfl ?_
                   replace hb3 := hb3.ext q13
                   refine s_loadB rfl hb3 rfl na4 rfl (mv rfl rfl ?_)
                   refine gs 79 rfl (fun g15 => ?_) (fun g15 => ?_)
                   · exact gN rfl rfl rfl (gN rfl rfl rfl (gN rfl rfl rfl (pkt rfl rfl rfl rfl (asg rfl rfl (rbe rfl (by first | exact bt (by omega) | exact bf (by omega) | exact bi (by omega) | exact bn (by omega) | (simp_all; done) | (simp_all; omega)) .nil)))))
                   · refine gY rfl (fad rfl fa42_4 rfl (gY rfl ?_))
                     replace hb1 := hb1.ext (q11.next q13)
                     exact s_loadB rfl hb1 rfl na3 rfl (gY rfl (eq' rfl rfl rfl (pkf rfl rfl rfl rfl (asg rfl rfl (rbe rfl (by first | exact bt (by omega) | exact bf (by omega) | exact bi (by omega) | exact bn (by omega) | (simp_all; done) | (simp_all; omega)) .nil)))))
                 · refine tn (rt (r1 Tryd.results36 rfl ?_))
                   exact ⟨_, rfl, congrArg Value.bool (decide_eq_decide.2 ⟨fun h => hps.2 ⟨by revert c0; cases (usesS o.k).isSome <;> simp, c1, c2, c3, h⟩, fun h => (hps.1 h).2.2.2.2⟩), ((q1.next q11).next q13)⟩
theorem check_ok (o : MOp) (w0 : World) : Rets Tryd.prog 32 #[opV o] w0 fun v w' => v = .int .i64 (chkO o) ∧ Fr [] w0 w' := by
 refine we [(0, opV o)] Tryd.func32 rfl Tryd.ntmps32 rfl (.cons rfl .nil) ?_
 refine sr (bx rfl rfl rfl (fun g1 w1 hg1 hb1 q1 z1 => ?_))
 refine asg rfl rfl (nn (sq (sr (s_loadBA rfl hb1 ag42 rfl ?_))))
 refine cl (ev1 rfl) co36 (plain_ok o _) rfl ?_
 rintro _ w2 ⟨rfl, q2⟩
 have z2 := q2.size
 refine nt' rfl rfl (nn ?_)
 refine cd rfl (fun c0 => ?_) (fun c0 => ?_)
 · refine sr (asg rfl rfl (nn (rt (tr (r1 Tryd.results32 rfl ?_)))))
   exact ⟨_, rfl, by rw [chkO, if_pos c0], (q1.next q2)⟩
 · refine sk (tn (sq (sq ?_)))
   refine rbo (r := 13) (L' := []) (((o.r < -4) ∨ (4 < o.r))) .nil ?_ ?_
   · refine fad rfl fa42_4 rfl ?_
     replace hb1 := hb1.ext q2
     refine s_loadB rfl hb1 rfl na3 rfl (lt' rfl rfl rfl (mv rfl rfl ?_))
     refine gs 9 rfl (fun g0 => ?_) (fun g0 => ?_)
     · exact gN rfl rfl rfl (gN rfl rfl rfl (gN rfl rfl rfl (pkt rfl rfl rfl rfl (rbe rfl (by first | exact bt (by omega) | exact bf (by omega) | exact bi (by omega) | exact bn (by omega) | (simp_all; done) | (simp_all; omega)) .nil))))
     · exact gY rfl (fad rfl fa42_4 rfl (gY rfl (s_loadB rfl hb1 rfl na3 rfl (gY rfl (gt' rfl rfl rfl (pkf rfl rfl rfl rfl (rbe rfl (by first | exact bt (by omega) | exact bf (by omega) | exact bi (by omega) | exact bn (by omega) | (simp_all; done) | (simp_all; omega)) .nil)))))))
   · refine tn ?_
     refine cd rfl (fun c1 => ?_) (fun c1 => ?_)
     · refine sr (asg rfl rfl (nn (rt (tr (r1 Tryd.results32 rfl ?_)))))
       exact ⟨_, rfl, by rw [chkO, if_neg c0, if_pos c1], (q1.next q2)⟩
     · refine sk (tn (sr (asg rfl rfl (nn (rt (r1 Tryd.results32 rfl ?_))))))
       exact ⟨_, rfl, by rw [chkO, if_neg c0, if_neg c1], (q1.next q2)⟩
end Go.Proofs.YtacclnebhbakmaaDoor
