/- Walks. -/
import Derived.Test.YtbalocjcbmkecaaGreatDoorRows
import Derived.Test.YtbalocjcbmkecaaGreatDoorW3
import Derived.Test.YtbalocjcbmkecaaGreatDoorXOp
import Derived.Test.YtbalocjcbmkecaaGreatDoorXMap
set_option linter.unusedVariables false
set_option linter.unusedSimpArgs false
namespace Go.Proofs.YtbalocjcbmkecaaGreatDoor
open Go.Lw
theorem bo41 : BuildAt Tryz.prog 41 [(0, 1), (1, 1), (2, 2), (4, 1), (5, 1)] [(.int .u8 0), (.int .u8 0), (.int .u8 0), (.int .i64 0), (.int .u8 0), (.int .i64 0)] := BuildAt.struct Tryz.underlying41 (fun _ => by kernel_rfl) (fun _ => by kernel_rfl)
theorem fa48_0 : FieldAt Tryz.prog 48 0 0 := fun _ _ => by kernel_rfl
theorem fa48_1 : FieldAt Tryz.prog 48 1 1 := fun _ _ => by kernel_rfl
theorem fa48_2 : FieldAt Tryz.prog 48 2 2 := fun _ _ => by kernel_rfl
theorem fa48_3 : FieldAt Tryz.prog 48 3 3 := fun _ _ => by kernel_rfl
theorem fa48_4 : FieldAt Tryz.prog 48 4 4 := fun _ _ => by kernel_rfl
theorem fa48_5 : FieldAt Tryz.prog 48 5 5 := fun _ _ => by kernel_rfl
theorem sz3 : SizeOf Tryz.prog 3 1 := fun _ => by kernel_rfl
theorem sz5 : SizeOf Tryz.prog 5 1 := fun _ => by kernel_rfl
theorem sz36 : SizeOf Tryz.prog 36 1 := fun _ => by kernel_rfl
theorem sz39 : SizeOf Tryz.prog 39 2 := fun _ => by kernel_rfl
theorem sz41 : SizeOf Tryz.prog 41 6 := fun _ => by kernel_rfl
theorem zv39 (w : World) : (zeroValue 39).run Tryz.prog w = .ok (.agg #[(.int .u8 0), (.int .i64 0)]) w := by kernel_rfl
theorem zv41 (w : World) : (zeroValue 41).run Tryz.prog w = .ok (.agg #[(.int .u8 0), (.int .u8 0), (.int .u8 0), (.int .i64 0), (.int .u8 0), (.int .i64 0)]) w := by kernel_rfl
theorem of_ok (x : MOp) (w0 : World) (hx : x.Bytes) : Rets Tryz.prog 16 #[oxV x] w0 fun v w' => v = opV (ofO x) ∧ Fr [] w0 w' := by
 obtain ⟨⟨_, _⟩, ⟨_, _⟩, ⟨_, _⟩, ⟨_, _⟩, ⟨_, _⟩, ⟨_, _⟩⟩ := hx
 refine we [(0, oxV x)] Tryz.func16 rfl Tryz.ntmps16 rfl (.cons rfl .nil) ?_
 refine sr (bx rfl rfl rfl (fun g1 w1 hg1 hb1 q1 z1 => ?_))
 refine al zv41 rfl rfl (fun g2 w2 hg2 hb2 q2 z2 => ?_)
 refine nn (sr (fad rfl fa48_0 rfl ?_))
 replace hb1 := hb1.ext q2
 refine s_loadB rfl hb1 rfl na5 rfl (s_rem rfl rfl (by omega) (by first | exact IntWalk.rem_in _ _ (by omega) | rfl) rfl (s_add rfl rfl (wi8 (by omega)) rfl (s_lit (cs := [_, _, _, _, _, _]) (ev1 rfl) bo41 (pok_cons rfl rfl rfl pok_nil) rfl rfl (al zv41 rfl rfl (fun g3 w3 hg3 hb3 q3 z3 => ?_)))))
 refine s_storeBA rfl rfl hb3 rfl (by first | (simp [Value.oneCell', S]; done) | exact Enc.one _ _) sz41 (fun w4 hb3 q4 z4 => ?_)
 refine nn (sr (fad rfl fa48_2 rfl ?_))
 replace hb1 := (hb1.ext q3).fr q4 (by first | (simp; done) | (simp; omega) | (simp [blks]; done) | (simp [blks]; omega))
 refine s_loadB rfl hb1 rfl na5 rfl (s_rem rfl rfl (by omega) (by first | exact IntWalk.rem_in _ _ (by omega) | rfl) rfl (fad rfl fa48_3 rfl (s_loadB rfl hb1 rfl na5 rfl (s_rem rfl rfl (by omega) (by first | exact IntWalk.rem_in _ _ (by omega) | rfl) rfl (s_conv rfl (us Tryz.underlying5) Tryz.underlying3 (wi6 (by omega)) rfl (s_add rfl rfl (wi6 (by omega)) rfl (s_lit (cs := [_, _]) (ev2 rfl rfl) bo39 (pok_cons rfl rfl rfl (pok_cons rfl rfl rfl pok_nil)) rfl rfl (al zv39 rfl rfl (fun g4 w5 hg4 hb4 q5 z5 => ?_)))))))))
 refine s_storeBA rfl rfl hb4 rfl (by first | (simp [Value.oneCell', S]; done) | exact Enc.one _ _) sz39 (fun w6 hb4 q6 z6 => ?_)
 refine kpL [(1, _), (2, _), (3, _), (4, _)] (.cons rfl (.cons rfl (.cons rfl (.cons rfl .nil)))) (nn ?_)
 refine jn (ι := Unit) [(2, _), (3, _)] (fun _j => []) (fun _j w' => Fr [g3] w6 w' ∧ Blk w' g3 41 [.int .u8 (ofO x).k, .int .u8 (ofO x).d, .int .u8 (ofO x).b, .int .i64 (ofO x).p, .int .u8 (ofO x).y, .int .i64 (ofO x).r]) (.cons rfl (.cons rfl .nil)) ?_ ?_
 · refine sr (fad rfl fa41_0 rfl ?_)
   replace hb3 := (hb3.ext q5).fr q6 (by first | (simp; done) | (simp; omega) | (simp [blks]; done) | (simp [blks]; omega))
   refine s_loadB rfl hb3 rfl na35 rfl (nn (bl (sr (eq' rfl rfl rfl (asg rfl rfl (nn ?_))))))
   refine cd rfl (fun c0 => ?_) (fun c0 => ?_)
   · replace hb1 := (hb1.ext q5).fr q6 (by first | (simp; done) | (simp; omega) | (simp [blks]; done) | (simp [blks]; omega))
     replace hb2 := (((hb2.ext q3).fr q4 (by first | (simp; done) | (simp; omega) | (simp [blks]; done) | (simp [blks]; omega))).ext q5).fr q6 (by first | (simp; done) | (simp; omega) | (simp [blks]; done) | (simp [blks]; omega))
     intro a h
     have qh6 := Fr.refl [g3] w6
     refine region_held (fun wb w' => Fr [g3] wb w') hmix ?_; intro w7 hq
     have z7 := hq.size
     replace hb1 := hb1.ext hq
     replace hb2 := hb2.ext hq
     replace hb3 := hb3.ext hq
     replace hb4 := hb4.ext hq
     replace qh6 := qh6.next hq
     have hsz := hq.size; clear hq; have hC : Fr [g3] w7 w7 := Fr.refl _ _
     have hb1_b := hb1
     have hb2_b := hb2
     have hb3_b := hb3
     have hb4_b := hb4
     refine hd_fieldAddr 0 (by kernel_rfl) (by kernel_rfl) (by kernel_rfl) hC h wn rfl fa48_1 rfl rfl ?_; clear h a; intro a h
     refine hd_loadB 1 (by kernel_rfl) (by kernel_rfl) (by kernel_rfl) hC h wn rfl (fun _ hw => hb1_b.fr hw (by first | (simp; done) | (simp; omega))) rfl na5 rfl rfl ?_; clear h a; intro a h
     refine hd_rem 2 (by kernel_rfl) (by kernel_rfl) (by kernel_rfl) hC h wn rfl rfl (by omega) (by first | exact IntWalk.rem_in _ _ (by omega) | rfl) rfl rfl ?_; clear h a; intro a h
     refine hd_fieldAddr 3 (by kernel_rfl) (by kernel_rfl) (by kernel_rfl) hC h wn rfl fa48_4 rfl rfl ?_; clear h a; intro a h
     refine hd_loadB 4 (by kernel_rfl) (by kernel_rfl) (by kernel_rfl) hC h wn rfl (fun _ hw => hb1_b.fr hw (by first | (simp; done) | (simp; omega))) rfl na5 rfl rfl ?_; clear h a; intro a h
     refine hd_rem 5 (by kernel_rfl) (by kernel_rfl) (by kernel_rfl) hC h wn rfl rfl (by omega) (by first | exact IntWalk.rem_in _ _ (by omega) | rfl) rfl rfl ?_; clear h a; intro a h
     refine hd_add 6 (by kernel_rfl) (by kernel_rfl) (by kernel_rfl) hC h wn rfl rfl (by first | exact IntWalk.u8_in _ (by omega) | rfl) rfl rfl ?_; clear h a; intro a h
     refine hd_fieldAddr 7 (by kernel_rfl) (by kernel_rfl) (by kernel_rfl) hC h wn rfl fa41_1 rfl rfl ?_; clear h a; intro a h
     refine hd_one 8 (by kernel_rfl) rfl ?_
     refine st_storeB h rfl rfl hb3 rfl rfl rfl sz36 ?_; clear h a; intro w8 hbn hq hz a h
     have z8 := hq.size
     replace hb1 := hb1.fr hq (by first | (simp; done) | (simp; omega) | (simp [blks]; done) | (simp [blks]; omega))
     replace hb2 := hb2.fr hq (by first | (simp; done) | (simp; omega) | (simp [blks]; done) | (simp [blks]; omega))
     replace hb4 := hb4.fr hq (by first | (simp; done) | (simp; omega) | (simp [blks]; done) | (simp [blks]; omega))
     replace qh6 := qh6.step hq (by first | (simp; done) | (simp; omega))
     replace hC := hC.step hq (by first | (simp; done) | (simp; omega))
     clear hb3 hq hz; have hb3 : Blk w8 g3 _ [_, _, _, _, _, _] := hbn; clear hbn
     refine hd_next hC ?_
     refine hd_fieldAddr 9 (by kernel_rfl) (by kernel_rfl) (by kernel_rfl) hC h wn rfl fa41_3 rfl rfl ?_; clear h a; intro a h
     refine hd_one 10 (by kernel_rfl) rfl ?_
     refine st_storeB h rfl rfl hb3 rfl rfl rfl sz5 ?_; clear h a; intro w9 hbn hq hz a h
     have z9 := hq.size
     replace hb1 := hb1.fr hq (by first | (simp; done) | (simp; omega) | (simp [blks]; done) | (simp [blks]; omega))
     replace hb2 := hb2.fr hq (by first | (simp; done) | (simp; omega) | (simp [blks]; done) | (simp [blks]; omega))
     replace hb4 := hb4.fr hq (by first | (simp; done) | (simp; omega) | (simp [blks]; done) | (simp [blks]; omega))
     replace qh6 := qh6.step hq (by first | (simp; done) | (simp; omega))
     replace hC := hC.step hq (by first | (simp; done) | (simp; omega))
     clear hb3 hq hz; have hb3 : Blk w9 g3 _ [_, _, _, _, _, _] := hbn; clear hbn
     refine hd_next hC ?_
     refine hd_end (by kernel_rfl) ?_
     clear hC hb1_b hb2_b hb3_b hb4_b
     have z9 := qh6.size
     refine bk (h.sub (L' := [(2, _), (3, _)]) (.cons rfl (.cons rfl .nil))) ?_; clear h a
     refine bn' ?_
     exact jE (()) (.cons rfl (.cons rfl .nil)) ⟨((Fr.refl [g3] _).step qh6 (by first | (simp; done) | (simp; omega))), by rw [ofO, ofK, if_pos c0]; exact hb3⟩
   · refine sr (eq' rfl rfl rfl (asg rfl rfl (nn ?_)))
     refine cd rfl (fun c1 => ?_) (fun c1 => ?_)
     · refine rg (fad rfl fa48_4 rfl ?_)
       replace hb1 := (hb1.ext q5).fr q6 (by first | (simp; done) | (simp; omega) | (simp [blks]; done) | (simp [blks]; omega))
       refine s_loadB rfl hb1 rfl na5 rfl (s_rem rfl rfl (by omega) (by first | exact IntWalk.rem_in _ _ (by omega) | rfl) rfl (s_add rfl rfl (wi8 (by omega)) rfl (fad rfl fa41_3 rfl (s_storeB rfl rfl hb3 rfl rfl rfl sz5 (fun w10 hb3 q10 z10 => ?_)))))
       replace hb3 : Blk w10 g3 _ [_, _, _, _, _, _] := hb3
       refine kpL [(2, _), (3, _)] (.cons rfl (.cons rfl .nil)) (nl (bn' ?_))
       exact jE (()) (.cons rfl (.cons rfl .nil)) ⟨((Fr.refl [g3] _).step q10 (by first | (simp; done) | (simp; omega))), by rw [ofO, ofK, if_neg c0, if_pos c1]; exact hb3⟩
     · refine sr (eq' rfl rfl rfl (asg rfl rfl (nn ?_)))
       refine cd rfl (fun c2 => ?_) (fun c2 => ?_)
       · refine rg (fad rfl fa48_5 rfl ?_)
         replace hb1 := (hb1.ext q5).fr q6 (by first | (simp; done) | (simp; omega) | (simp [blks]; done) | (simp [blks]; omega))
         refine s_loadB rfl hb1 rfl na5 rfl (s_rem rfl rfl (by omega) (by first | exact IntWalk.rem_in _ _ (by omega) | rfl) rfl (s_conv rfl (us Tryz.underlying5) Tryz.underlying3 (wi6 (by omega)) rfl (s_sub rfl rfl (wi6 (by omega)) rfl (fad rfl fa41_4 rfl (s_storeB rfl rfl hb3 rfl rfl rfl sz3 (fun w11 hb3 q11 z11 => ?_))))))
         replace hb3 : Blk w11 g3 _ [_, _, _, _, _, _] := hb3
         refine kpL [(2, _), (3, _)] (.cons rfl (.cons rfl .nil)) (nl (bn' ?_))
         exact jE (()) (.cons rfl (.cons rfl .nil)) ⟨((Fr.refl [g3] _).step q11 (by first | (simp; done) | (simp; omega))), by rw [ofO, ofK, if_neg c0, if_neg c1, if_pos c2]; exact hb3⟩
       · refine jn (ι := Bool) [(1, _), (2, _), (3, _), (4, _)] (fun b3 => [(58, .bool b3)]) (fun b3 w' => Fr [] w6 w' ∧ b3 = decide ((1 + x.k % 8) = 7 ∨ (1 + x.k % 8) = 8)) (.cons rfl (.cons rfl (.cons rfl (.cons rfl .nil)))) ?_ ?_
         · refine sr (eq' rfl rfl rfl (asg rfl rfl (nn ?_)))
           refine cd rfl (fun c3 => ?_) (fun c3 => ?_)
           · refine sk ?_
             exact jE (_) (.cons rfl (.cons rfl (.cons rfl (.cons rfl (.cons rfl .nil))))) ⟨(Fr.refl _ _), by first | exact bi (by omega) | exact bt (by omega) | exact bf (by omega)⟩
           · refine rg (eq' rfl rfl rfl (asg rfl rfl (nl ?_)))
             exact jE (_) (.cons rfl (.cons rfl (.cons rfl (.cons rfl (.cons rfl .nil))))) ⟨(Fr.refl _ _), by first | exact bi (by omega) | exact bt (by omega) | exact bf (by omega)⟩
         · rintro b3 w12 ⟨q12, rfl⟩
           have z12 := q12.size
           refine kpC [(1, _), (2, _), (3, _), (4, _), (58, _)] (.cons rfl (.cons rfl (.cons rfl (.cons rfl (.cons rfl .nil))))) ?_
           refine cd rfl (fun c4 => ?_) (fun c4 => ?_)
           · refine rg ?_
             replace hb4 := hb4.ext q12
             refine s_loadBA rfl hb4 ag39 rfl (fad rfl fa41_2 rfl ?_)
             replace hb3 := hb3.ext q12
             refine s_storeBP (cs' := [_, _, _, _, _, _]) rfl rfl hb3 rfl (by first | (simp [Value.oneCell', S]; done) | exact Enc.one _ _) sz39 rfl (fun w13 hb3 q13 z13 => ?_)
             refine nl (bn' ?_)
             exact jE (()) (.cons rfl (.cons rfl .nil)) ⟨(((Fr.refl [g3] _).next q12).step q13 (by first | (simp; done) | (simp; omega))), by rw [ofO, ofK, if_neg c0, if_neg c1, if_neg c2, if_pos c4]; exact hb3⟩
           · replace hb1 := ((hb1.ext q5).fr q6 (by first | (simp; done) | (simp; omega) | (simp [blks]; done) | (simp [blks]; omega))).ext q12
             replace hb2 := ((((hb2.ext q3).fr q4 (by first | (simp; done) | (simp; omega) | (simp [blks]; done) | (simp [blks]; omega))).ext q5).fr q6 (by first | (simp; done) | (simp; omega) | (simp [blks]; done) | (simp [blks]; omega))).ext q12
             replace hb3 := hb3.ext q12
             replace hb4 := hb4.ext q12
             intro a h
             have qh4 := Fr.refl [g3] w12
             refine region_held (fun wb w' => Fr [g3] wb w') hmix ?_; intro w14 hq
             have z14 := hq.size
             replace hb1 := hb1.ext hq
             replace hb2 := hb2.ext hq
             replace hb3 := hb3.ext hq
             replace hb4 := hb4.ext hq
             replace qh4 := qh4.next hq
             have hsz := hq.size; clear hq; have hC : Fr [g3] w14 w14 := Fr.refl _ _
             have hb1_b := hb1
             have hb2_b := hb2
             have hb3_b := hb3
             have hb4_b := hb4
             refine hd_fieldAddr 0 (by kernel_rfl) (by kernel_rfl) (by kernel_rfl) hC h wn rfl fa48_1 rfl rfl ?_; clear h a; intro a h
             refine hd_loadB 1 (by kernel_rfl) (by kernel_rfl) (by kernel_rfl) hC h wn rfl (fun _ hw => hb1_b.fr hw (by first | (simp; done) | (simp; omega))) rfl na5 rfl rfl ?_; clear h a; intro a h
             refine hd_rem 2 (by kernel_rfl) (by kernel_rfl) (by kernel_rfl) hC h wn rfl rfl (by omega) (by first | exact IntWalk.rem_in _ _ (by omega) | rfl) rfl rfl ?_; clear h a; intro a h
             refine hd_loadBA 3 (by kernel_rfl) (by kernel_rfl) (by kernel_rfl) hC h wn rfl (fun _ hw => hb4_b.fr hw (by first | (simp; done) | (simp; omega))) ag39 rfl rfl ?_; clear h a; intro a h
             refine hd_fieldAddr 4 (by kernel_rfl) (by kernel_rfl) (by kernel_rfl) hC h wn rfl fa48_4 rfl rfl ?_; clear h a; intro a h
             refine hd_loadB 5 (by kernel_rfl) (by kernel_rfl) (by kernel_rfl) hC h wn rfl (fun _ hw => hb1_b.fr hw (by first | (simp; done) | (simp; omega))) rfl na5 rfl rfl ?_; clear h a; intro a h
             refine hd_rem 6 (by kernel_rfl) (by kernel_rfl) (by kernel_rfl) hC h wn rfl rfl (by omega) (by first | exact IntWalk.rem_in _ _ (by omega) | rfl) rfl rfl ?_; clear h a; intro a h
             refine hd_add 7 (by kernel_rfl) (by kernel_rfl) (by kernel_rfl) hC h wn rfl rfl (by first | exact IntWalk.u8_in _ (by omega) | rfl) rfl rfl ?_; clear h a; intro a h
             refine hd_fieldAddr 8 (by kernel_rfl) (by kernel_rfl) (by kernel_rfl) hC h wn rfl fa41_1 rfl rfl ?_; clear h a; intro a h
             refine hd_one 9 (by kernel_rfl) rfl ?_
             refine st_storeB h rfl rfl hb3 rfl rfl rfl sz36 ?_; clear h a; intro w15 hbn hq hz a h
             have z15 := hq.size
             replace hb1 := hb1.fr hq (by first | (simp; done) | (simp; omega) | (simp [blks]; done) | (simp [blks]; omega))
             replace hb2 := hb2.fr hq (by first | (simp; done) | (simp; omega) | (simp [blks]; done) | (simp [blks]; omega))
             replace hb4 := hb4.fr hq (by first | (simp; done) | (simp; omega) | (simp [blks]; done) | (simp [blks]; omega))
             replace qh4 := qh4.step hq (by first | (simp; done) | (simp; omega))
             replace hC := hC.step hq (by first | (simp; done) | (simp; omega))
             clear hb3 hq hz; have hb3 : Blk w15 g3 _ [_, _, _, _, _, _] := hbn; clear hbn
             refine hd_next hC ?_
             refine hd_fieldAddr 10 (by kernel_rfl) (by kernel_rfl) (by kernel_rfl) hC h wn rfl fa41_2 rfl rfl ?_; clear h a; intro a h
             refine hd_one 11 (by kernel_rfl) rfl ?_
             refine st_storeBP (cs' := [_, _, _, _, _, _]) h rfl rfl hb3 rfl (by first | (simp [Value.oneCell', S]; done) | exact Enc.one _ _) sz39 rfl ?_; clear h a; intro w16 hbn hq hz a h
             have z16 := hq.size
             replace hb1 := hb1.fr hq (by first | (simp; done) | (simp; omega) | (simp [blks]; done) | (simp [blks]; omega))
             replace hb2 := hb2.fr hq (by first | (simp; done) | (simp; omega) | (simp [blks]; done) | (simp [blks]; omega))
             replace hb4 := hb4.fr hq (by first | (simp; done) | (simp; omega) | (simp [blks]; done) | (simp [blks]; omega))
             replace qh4 := qh4.step hq (by first | (simp; done) | (simp; omega))
             replace hC := hC.step hq (by first | (simp; done) | (simp; omega))
             clear hb3 hq hz; have hb3 := hbn; clear hbn
             refine hd_next hC ?_
             refine hd_fieldAddr 12 (by kernel_rfl) (by kernel_rfl) (by kernel_rfl) hC h wn rfl fa41_3 rfl rfl ?_; clear h a; intro a h
             refine hd_one 13 (by kernel_rfl) rfl ?_
             refine st_storeB h rfl rfl hb3 rfl rfl rfl sz5 ?_; clear h a; intro w17 hbn hq hz a h
             have z17 := hq.size
             replace hb1 := hb1.fr hq (by first | (simp; done) | (simp; omega) | (simp [blks]; done) | (simp [blks]; omega))
             replace hb2 := hb2.fr hq (by first | (simp; done) | (simp; omega) | (simp [blks]; done) | (simp [blks]; omega))
             replace hb4 := hb4.fr hq (by first | (simp; done) | (simp; omega) | (simp [blks]; done) | (simp [blks]; omega))
             replace qh4 := qh4.step hq (by first | (simp; done) | (simp; omega))
             replace hC := hC.step hq (by first | (simp; done) | (simp; omega))
             clear hb3 hq hz; have hb3 : Blk w17 g3 _ [_, _, _, _, _, _] := hbn; clear hbn
             refine hd_next hC ?_
             refine hd_end (by kernel_rfl) ?_
             clear hC hb1_b hb2_b hb3_b hb4_b
             have z17 := qh4.size
             refine bk (h.sub (L' := [(2, _), (3, _)]) (.cons rfl (.cons rfl .nil))) ?_; clear h a
             refine bn' ?_
             exact jE (()) (.cons rfl (.cons rfl .nil)) ⟨(((Fr.refl [g3] _).next q12).step qh4 (by first | (simp; done) | (simp; omega))), by rw [ofO, ofK, if_neg c0, if_neg c1, if_neg c2, if_neg c4]; exact hb3⟩
 · rintro _j w18 ⟨q18, hb3⟩
   have z18 := q18.size
   have lt_hb3 := hb3.lt
   refine kpC [(2, _), (3, _)] (.cons rfl (.cons rfl .nil)) ?_
   refine sr (s_loadBA rfl hb3 ag41 rfl ?_)
   replace hb2 := ((((hb2.ext q3).fr q4 (by first | (simp; done) | (simp; omega) | (simp [blks]; done) | (simp [blks]; omega))).ext q5).fr q6 (by first | (simp; done) | (simp; omega) | (simp [blks]; done) | (simp [blks]; omega))).fr q18 (by first | (simp; done) | (simp; omega) | (simp [blks]; done) | (simp [blks]; omega))
   refine s_storeBA rfl rfl hb2 rfl (by first | (simp [Value.oneCell', S]; done) | exact Enc.one _ _) sz41 (fun w19 hb2 q19 z19 => ?_)
   refine nn (rt (rC Tryz.results16 rfl hb2 ag41  ?_))
   exact ⟨_, rfl, rfl, (((((((q1.next q2).next q3).step q4 (by first | (simp; done) | (simp; omega))).next q5).step q6 (by first | (simp; done) | (simp; omega))).step q18 (by first | (simp; done) | (simp; omega))).step q19 (by first | (simp; done) | (simp; omega)))⟩
end Go.Proofs.YtbalocjcbmkecaaGreatDoor
