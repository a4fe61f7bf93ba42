/- Walks. -/
import Derived.Test.YtbalocjcbmkecaaGreatDoorRows
import Derived.Test.YtbalocjcbmkecaaGreatDoorW6
import Derived.Test.YtbalocjcbmkecaaGreatDoorXOp
import Derived.Test.YtbalocjcbmkecaaGreatDoorXMap
set_option linter.unusedVariables false
set_option linter.unusedSimpArgs false
namespace Go.Proofs.YtbalocjcbmkecaaGreatDoor
open Go.Lw
theorem ag95 : AggOf Tryz.prog 95 9 := ⟨fun _ => by kernel_rfl, fun _ => by kernel_rfl⟩
theorem co53 : CallOf Tryz.prog 53 := CallOf.mk' Tryz.func53 (by kernel_rfl) (by kernel_rfl)
theorem co54 : CallOf Tryz.prog 54 := CallOf.mk' Tryz.func54 (by kernel_rfl) (by kernel_rfl)
theorem co55 : CallOf Tryz.prog 55 := CallOf.mk' Tryz.func55 (by kernel_rfl) (by kernel_rfl)
theorem sz35 : SizeOf Tryz.prog 35 1 := fun _ => by kernel_rfl
theorem fld0 (f : F4) (w : World) : (Instr.field 85 (.agg (f4L f).toArray) 0).run Tryz.prog w = .ok (.bool f.1) w := by kernel_rfl
theorem fld1 (f : F4) (w : World) : (Instr.field 85 (.agg (f4L f).toArray) 1).run Tryz.prog w = .ok (.bool f.2.1) w := by kernel_rfl
set_option maxHeartbeats 1000000 in
theorem guess_ok (v : Value) (ws : List (List UInt8)) (w0 : World) (hG : Glob w0) (hs : Sl Enc.str w0 v ws) (hne : 1 ≤ ws.length) (hlw : ∀ i, (ws.getD i []).length ≤ 1000000) : Rets Tryz.prog 42 #[v] w0 fun r w' => r = opV (guessS ws) ∧ Fr [] w0 w' := by
 obtain ⟨A, c, rfl, hc, hM, hA⟩ := id hs
 clear hA
 have hsb := hs.blk (by intro e; simp [e] at hne)
 have hGs := hG.sz
 refine we [(0, .slice A ws.length c)] Tryz.func42 rfl Tryz.ntmps42 rfl (.cons rfl .nil) ?_
 refine sr (al zv41 rfl rfl (fun g2 w1 hg2 hb2 q1 z1 => ?_))
 refine nn (sr (s_lit (cs := [_, _, _, _, _, _]) evs_nil bo41 pok_nil rfl rfl (al zv41 rfl rfl (fun g3 w2 hg3 hb3 q2 z2 => ?_))))
 refine s_storeBA rfl rfl hb3 rfl (by first | (simp [Value.oneCell', S]; done) | exact Enc.one _ _) sz41 (fun w3 hb3 q3 z3 => ?_)
 refine nn (sq (sr ?_))
 replace hG := (hG.ext (q1.next q2)).fr q3 (by first | (simp; done) | (simp; omega) | (simp [blks]; done) | (simp [blks]; omega) | (intro k hk hb; simp at hk; subst hk; have := (hG.blk _ hb).2; omega))
 refine s_loadA rfl hG.wd ag95 rfl (mv rfl rfl (nn (bl ?_)))
 refine lpK (ι := Nat) [(0, _), (2, _), (3, _), (7, _)] (fun i => [(8, .int .i64 (i : Int))]) (fun i w' => Fr [g3] w3 w' ∧ i ≤ 9 ∧ Blk w' g3 41 [.int .u8 (kindF (ws.getD 0 []) i), .int .u8 0, .int .u8 0, .int .i64 0, .int .u8 0, .int .i64 0]) (fun i => 9 - i) 0 (.cons rfl (.cons rfl (.cons rfl (.cons rfl (.cons rfl .nil))))) ⟨Fr.refl _ _, ⟨by omega, hb3⟩⟩ ?_
 rintro i w4 ⟨q4, ⟨hi, hb3⟩⟩
 have z4 := q4.size
 have lt_hb3 := hb3.lt
 refine kpC [(0, _), (2, _), (3, _), (7, _), (8, _)] (.cons rfl (.cons rfl (.cons rfl (.cons rfl (.cons rfl .nil))))) ?_
 refine sr (lt' rfl rfl rfl (nn (sq ?_)))
 refine cd rfl (fun c0 => ?_) (fun c0 => ?_)
 · refine sk (tn (sq (bl (sr (mv rfl rfl ?_)))))
   refine s_idxV rfl rfl Tryz.underlying95 sz9 na9 (by omega) (by omega) (words_at (by omega)) rfl ?_
   refine asg rfl rfl (asg rfl rfl (nn (sr (mv rfl rfl (mv rfl rfl ?_)))))
   replace hs := ((hs.ext (q1.next q2)).fr q3 (by intro k hk hb; simp at hk; subst hk; have := hsb _ hb; omega)).fr q4 (by intro k hk hb; simp at hk; subst hk; have := hsb _ hb; omega)
   refine s_idxL (p := 0) ([]) rfl hs rfl el66 (by omega) (by omega) rfl rfl (fun ad14 hc14 => ?_)
   refine s_loadC0 rfl (hc14 _ hs) na9 rfl (s_eqs rfl rfl rfl (nn ?_))
   refine cd rfl (fun c1 => ?_) (fun c1 => ?_)
   · refine rg (mv rfl rfl (s_conv rfl (us Tryz.underlying3) Tryz.underlying35 (wi8 (by omega)) rfl (fad rfl fa41_0 rfl (s_storeB rfl rfl hb3 rfl rfl rfl sz35 (fun w5 hb3 q5 z5 => ?_)))))
     replace hb3 : Blk w5 g3 _ [_, _, _, _, _, _] := hb3
     refine nl (bn' (tn (rg (s_add rfl rfl (wi6 (by omega)) rfl (mv rfl rfl (nl ?_))))))
     exact lpE (i + 1) (.cons rfl (.cons rfl (.cons rfl (.cons rfl (.cons rfl .nil))))) ⟨(((Fr.refl [g3] _).step q4 (by first | (simp; done) | (simp; omega))).step q5 (by first | (simp; done) | (simp; omega))), ⟨by omega, by first | (rw [kindF, if_pos c1]; exact hb3) | (rw [kindF, if_neg c1]; exact hb3)⟩⟩ (by omega)
   · refine sk (bn' (tn (rg (s_add rfl rfl (wi6 (by omega)) rfl (mv rfl rfl (nl ?_))))))
     exact lpE (i + 1) (.cons rfl (.cons rfl (.cons rfl (.cons rfl (.cons rfl .nil))))) ⟨((Fr.refl [g3] _).step q4 (by first | (simp; done) | (simp; omega))), ⟨by omega, by first | (rw [kindF, if_pos c1]; exact hb3) | (rw [kindF, if_neg c1]; exact hb3)⟩⟩ (by omega)
 · obtain rfl : i = 9 := by omega
   have hkr := kindF_rng (ws.getD 0 []) 9
   replace hb3 : Blk w4 g3 41 [.int .u8 (kindS (ws.getD 0 [])), .int .u8 0, .int .u8 0, .int .i64 0, .int .u8 0, .int .i64 0] := hb3
   refine ex (te (te (xh (tn ?_))))
   refine jn (ι := Unit) [(2, _), (3, _)] (fun _j => []) (fun _j w' => Fr [g3] w4 w' ∧ Blk w' g3 41 [.int .u8 (guessS ws).k, .int .u8 (guessS ws).d, .int .u8 (guessS ws).b, .int .i64 (guessS ws).p, .int .u8 (guessS ws).y, .int .i64 (guessS ws).r]) (.cons rfl (.cons rfl .nil)) ?_ ?_
   · refine bl (sq ?_)
     refine rbo (r := 21) (L' := [(0, _), (2, _), (3, _)]) ((((kindS (ws.getD 0 [])) = 1) ∧ ((ws.length : Int) = 3))) (.cons rfl (.cons rfl (.cons rfl .nil))) ?_ ?_
     · refine fad rfl fa41_0 rfl (s_loadB rfl hb3 rfl na35 rfl (eq' rfl rfl rfl (mv rfl rfl ?_)))
       refine gs 25 rfl (fun g0 => ?_) (fun g0 => ?_)
       · exact gY rfl (mv rfl rfl (gY rfl (lnS rfl Tryz.underlying66 rfl (gY rfl (eq' rfl rfl rfl (pkt rfl rfl rfl rfl (asg rfl rfl (rbe rfl (by first | exact bt (by omega) | exact bf (by omega) | exact bi (by omega) | exact bn (by omega) | (simp_all; done) | (simp_all; omega)) (.cons rfl (.cons rfl (.cons rfl .nil)))))))))))
       · exact gN rfl rfl rfl (gN rfl rfl rfl (gN rfl rfl rfl (pkf rfl rfl rfl rfl (asg rfl rfl (rbe rfl (by first | exact bt (by omega) | exact bf (by omega) | exact bi (by omega) | exact bn (by omega) | (simp_all; done) | (simp_all; omega)) (.cons rfl (.cons rfl (.cons rfl .nil))))))))
     · refine tn ?_
       refine cd rfl (fun c2 => ?_) (fun c2 => ?_)
       · replace hG := hG.fr q4 (by first | (simp; done) | (simp; omega) | (simp [blks]; done) | (simp [blks]; omega) | (intro k hk hb; simp at hk; subst hk; have := (hG.blk _ hb).2; omega))
         replace hs := ((hs.ext (q1.next q2)).fr q3 (by intro k hk hb; simp at hk; subst hk; have := hsb _ hb; omega)).fr q4 (by intro k hk hb; simp at hk; subst hk; have := hsb _ hb; omega)
         replace hb2 := ((hb2.ext q2).fr q3 (by first | (simp; done) | (simp; omega) | (simp [blks]; done) | (simp [blks]; omega))).fr q4 (by first | (simp; done) | (simp; omega) | (simp [blks]; done) | (simp [blks]; omega))
         intro a h
         have qh9 := Fr.refl [g3] w4
         refine region_held (fun wb w' => Fr [g3] wb w') hmix ?_; intro w6 hq
         have z6 := hq.size
         replace hG := hG.ext hq
         replace hs := hs.ext hq
         replace hb2 := hb2.ext hq
         replace hb3 := hb3.ext hq
         replace qh9 := qh9.next hq
         have hsz := hq.size; clear hq; have hC : Fr [g3] w6 w6 := Fr.refl _ _
         have hG_b := hG
         have hs_b := hs
         have hb2_b := hb2
         have hb3_b := hb3
         refine hd_move 0 (by kernel_rfl) (by kernel_rfl) (by kernel_rfl) hC h wn rfl rfl rfl ?_; clear h a; intro a h
         refine hd_idxL (p := 1) ([]) 1 (by kernel_rfl) (by kernel_rfl) (by kernel_rfl) hC h wn rfl hs rfl el66 (by omega) (by omega) rfl rfl rfl ?_; clear h a; intro ad31 hc31 a h
         refine hd_loadC0 2 (by kernel_rfl) (by kernel_rfl) (by kernel_rfl) hC h wn rfl (fun _ hw => hc31 _ (hs_b.fr hw (by intro k hk hb; simp at hk; subst hk; have := hsb _ hb; omega))) na9 rfl rfl ?_; clear h a; intro a h
         refine hd_move 5 (by kernel_rfl) (by kernel_rfl) (by kernel_rfl) hC h wn rfl rfl rfl ?_; clear h a; intro a h
         refine hd_idxL (p := 2) ([]) 6 (by kernel_rfl) (by kernel_rfl) (by kernel_rfl) hC h wn rfl hs rfl el66 (by omega) (by omega) rfl rfl rfl ?_; clear h a; intro ad36 hc36 a h
         refine hd_loadC0 7 (by kernel_rfl) (by kernel_rfl) (by kernel_rfl) hC h wn rfl (fun _ hw => hc36 _ (hs_b.fr hw (by intro k hk hb; simp at hk; subst hk; have := hsb _ hb; omega))) na9 rfl rfl ?_; clear h a; intro a h
         refine hd_one 3 (by kernel_rfl) rfl ?_
         refine st_call h (evs_cons rfl evs_nil) co53 (number_ok _ _ hG (hlw _)) rfl ?_; clear h a; rintro _ w7 ⟨rfl, hq⟩ a h
         have z7 := hq.size
         replace hG := hG.ext hq
         replace hs := hs.ext hq
         replace hb2 := hb2.ext hq
         replace hb3 := hb3.ext hq
         replace qh9 := qh9.next hq
         replace hC := hC.next hq
         clear hq
         refine hd_next hC ?_
         refine hd_conv 4 (by kernel_rfl) (by kernel_rfl) (by kernel_rfl) hC h wn rfl (by rw [Tryz.underlying3]; rfl) Tryz.underlying5 (by first | exact IntWalk.u8_in _ (by omega) | rfl) rfl rfl ?_; clear h a; intro a h
         refine hd_fieldAddr 9 (by kernel_rfl) (by kernel_rfl) (by kernel_rfl) hC h wn rfl fa41_3 rfl rfl ?_; clear h a; intro a h
         refine hd_one 8 (by kernel_rfl) rfl ?_
         refine st_call h (evs_cons rfl evs_nil) co54 (dir_ok _ _ hG) rfl ?_; clear h a; rintro _ w8 ⟨rfl, hq⟩ a h
         have z8 := hq.size
         replace hG := hG.ext hq
         replace hs := hs.ext hq
         replace hb2 := hb2.ext hq
         replace hb3 := hb3.ext hq
         replace qh9 := qh9.next hq
         replace hC := hC.next hq
         clear hq
         refine hd_next hC ?_
         refine hd_one 10 (by kernel_rfl) rfl ?_
         refine st_storeB h rfl rfl hb3 rfl rfl rfl sz5 ?_; clear h a; intro w9 hbn hq hz a h
         have z9 := hq.size
         replace hG := hG.fr hq (by first | (simp; done) | (simp; omega) | (simp [blks]; done) | (simp [blks]; omega))
         replace hs := hs.fr hq (by intro k hk hb; simp at hk; subst hk; have := hsb _ hb; omega)
         replace hb2 := hb2.fr hq (by first | (simp; done) | (simp; omega) | (simp [blks]; done) | (simp [blks]; omega))
         replace qh9 := qh9.step hq (by first | (simp; done) | (simp; omega))
         replace hC := hC.step hq (by first | (simp; done) | (simp; omega))
         clear hb3 hq hz; have hb3 : Blk w9 g3 _ [_, _, _, _, _, _] := hbn; clear hbn
         refine hd_next hC ?_
         refine hd_fieldAddr 11 (by kernel_rfl) (by kernel_rfl) (by kernel_rfl) hC h wn rfl fa41_1 rfl rfl ?_; clear h a; intro a h
         refine hd_one 12 (by kernel_rfl) rfl ?_
         refine st_storeB h rfl rfl hb3 rfl rfl rfl sz36 ?_; clear h a; intro w10 hbn hq hz a h
         have z10 := hq.size
         replace hG := hG.fr hq (by first | (simp; done) | (simp; omega) | (simp [blks]; done) | (simp [blks]; omega))
         replace hs := hs.fr hq (by intro k hk hb; simp at hk; subst hk; have := hsb _ hb; omega)
         replace hb2 := hb2.fr hq (by first | (simp; done) | (simp; omega) | (simp [blks]; done) | (simp [blks]; omega))
         replace qh9 := qh9.step hq (by first | (simp; done) | (simp; omega))
         replace hC := hC.step hq (by first | (simp; done) | (simp; omega))
         clear hb3 hq hz; have hb3 : Blk w10 g3 _ [_, _, _, _, _, _] := hbn; clear hbn
         refine hd_next hC ?_
         refine hd_end (by kernel_rfl) ?_
         clear hC hG_b hs_b hb2_b hb3_b
         have z10 := qh9.size
         refine bk (h.sub (L' := [(2, _), (3, _)]) (.cons rfl (.cons rfl .nil))) ?_; clear h a
         refine bn' ?_
         exact jE (()) (.cons rfl (.cons rfl .nil)) ⟨((Fr.refl [g3] _).step qh9 (by first | (simp; done) | (simp; omega))), by rw [guessS, guessK, if_pos c2]; exact hb3⟩
       · refine sq ?_
         refine rbo (r := 41) (L' := [(0, _), (2, _), (3, _)]) ((((kindS (ws.getD 0 [])) = 2) ∧ ((ws.length : Int) = 2))) (.cons rfl (.cons rfl (.cons rfl .nil))) ?_ ?_
         · refine fad rfl fa41_0 rfl (s_loadB rfl hb3 rfl na35 rfl (eq' rfl rfl rfl (mv rfl rfl ?_)))
           refine gs 45 rfl (fun g1 => ?_) (fun g1 => ?_)
           · exact gY rfl (mv rfl rfl (gY rfl (lnS rfl Tryz.underlying66 rfl (gY rfl (eq' rfl rfl rfl (pkt rfl rfl rfl rfl (asg rfl rfl (rbe rfl (by first | exact bt (by omega) | exact bf (by omega) | exact bi (by omega) | exact bn (by omega) | (simp_all; done) | (simp_all; omega)) (.cons rfl (.cons rfl (.cons rfl .nil)))))))))))
           · exact gN rfl rfl rfl (gN rfl rfl rfl (gN rfl rfl rfl (pkf rfl rfl rfl rfl (asg rfl rfl (rbe rfl (by first | exact bt (by omega) | exact bf (by omega) | exact bi (by omega) | exact bn (by omega) | (simp_all; done) | (simp_all; omega)) (.cons rfl (.cons rfl (.cons rfl .nil))))))))
         · refine tn ?_
           refine cd rfl (fun c3 => ?_) (fun c3 => ?_)
           · refine rg (mv rfl rfl ?_)
             replace hs := ((hs.ext (q1.next q2)).fr q3 (by intro k hk hb; simp at hk; subst hk; have := hsb _ hb; omega)).fr q4 (by intro k hk hb; simp at hk; subst hk; have := hsb _ hb; omega)
             refine s_idxL (p := 1) ([]) rfl hs rfl el66 (by omega) (by omega) rfl rfl (fun ad51 hc51 => ?_)
             refine s_loadC0 rfl (hc51 _ hs) na9 rfl ?_
             replace hG := hG.fr q4 (by first | (simp; done) | (simp; omega) | (simp [blks]; done) | (simp [blks]; omega) | (intro k hk hb; simp at hk; subst hk; have := (hG.blk _ hb).2; omega))
             refine cl (ev1 rfl) co53 (number_ok _ _ hG (hlw _)) rfl ?_
             rintro _ w11 ⟨rfl, q11⟩
             have z11 := q11.size
             refine s_conv rfl (us Tryz.underlying3) Tryz.underlying5 (IntKind.wrap_u8 _) rfl (fad rfl fa41_3 rfl ?_)
             replace hb3 := hb3.ext q11
             refine s_storeB rfl rfl hb3 rfl rfl rfl sz5 (fun w12 hb3 q12 z12 => ?_)
             replace hb3 : Blk w12 g3 _ [_, _, _, _, _, _] := hb3
             refine kpL [(2, _), (3, _)] (.cons rfl (.cons rfl .nil)) (nl (bn' ?_))
             exact jE (()) (.cons rfl (.cons rfl .nil)) ⟨(((Fr.refl [g3] _).next q11).step q12 (by first | (simp; done) | (simp; omega))), by rw [guessS, guessK, if_neg c2, if_pos c3]; exact hb3⟩
           · refine sq ?_
             refine rbo (r := 56) (L' := [(0, _), (2, _), (3, _)]) ((((kindS (ws.getD 0 [])) = 3) ∧ ((ws.length : Int) = 2))) (.cons rfl (.cons rfl (.cons rfl .nil))) ?_ ?_
             · refine fad rfl fa41_0 rfl (s_loadB rfl hb3 rfl na35 rfl (eq' rfl rfl rfl (mv rfl rfl ?_)))
               refine gs 60 rfl (fun g2 => ?_) (fun g2 => ?_)
               · exact gY rfl (mv rfl rfl (gY rfl (lnS rfl Tryz.underlying66 rfl (gY rfl (eq' rfl rfl rfl (pkt rfl rfl rfl rfl (asg rfl rfl (rbe rfl (by first | exact bt (by omega) | exact bf (by omega) | exact bi (by omega) | exact bn (by omega) | (simp_all; done) | (simp_all; omega)) (.cons rfl (.cons rfl (.cons rfl .nil)))))))))))
               · exact gN rfl rfl rfl (gN rfl rfl rfl (gN rfl rfl rfl (pkf rfl rfl rfl rfl (asg rfl rfl (rbe rfl (by first | exact bt (by omega) | exact bf (by omega) | exact bi (by omega) | exact bn (by omega) | (simp_all; done) | (simp_all; omega)) (.cons rfl (.cons rfl (.cons rfl .nil))))))))
             · refine tn ?_
               refine cd rfl (fun c4 => ?_) (fun c4 => ?_)
               · refine rg (mv rfl rfl ?_)
                 replace hs := ((hs.ext (q1.next q2)).fr q3 (by intro k hk hb; simp at hk; subst hk; have := hsb _ hb; omega)).fr q4 (by intro k hk hb; simp at hk; subst hk; have := hsb _ hb; omega)
                 refine s_idxL (p := 1) ([]) rfl hs rfl el66 (by omega) (by omega) rfl rfl (fun ad66 hc66 => ?_)
                 refine s_loadC0 rfl (hc66 _ hs) na9 rfl ?_
                 replace hG := hG.fr q4 (by first | (simp; done) | (simp; omega) | (simp [blks]; done) | (simp [blks]; omega) | (intro k hk hb; simp at hk; subst hk; have := (hG.blk _ hb).2; omega))
                 refine cl (ev1 rfl) co53 (number_ok _ _ hG (hlw _)) rfl ?_
                 rintro _ w13 ⟨rfl, q13⟩
                 have z13 := q13.size
                 refine fad rfl fa41_4 rfl ?_
                 replace hb3 := hb3.ext q13
                 refine s_storeB rfl rfl hb3 rfl rfl rfl sz3 (fun w14 hb3 q14 z14 => ?_)
                 replace hb3 : Blk w14 g3 _ [_, _, _, _, _, _] := hb3
                 refine kpL [(2, _), (3, _)] (.cons rfl (.cons rfl .nil)) (nl (bn' ?_))
                 exact jE (()) (.cons rfl (.cons rfl .nil)) ⟨(((Fr.refl [g3] _).next q13).step q14 (by first | (simp; done) | (simp; omega))), by rw [guessS, guessK, if_neg c2, if_neg c3, if_pos c4]; exact hb3⟩
               · refine jn (ι := Bool) [(0, _), (2, _), (3, _)] (fun b70 => [(70, .bool b70)]) (fun b70 w' => Fr [] w4 w' ∧ b70 = decide (fD (kindS (ws.getD 0 [])) = true ∧ (ws.length : Int) = 4)) (.cons rfl (.cons rfl (.cons rfl .nil))) ?_ ?_
                 · replace hG := hG.fr q4 (by first | (simp; done) | (simp; omega) | (simp [blks]; done) | (simp [blks]; omega) | (intro k hk hb; simp at hk; subst hk; have := (hG.blk _ hb).2; omega))
                   replace hs := ((hs.ext (q1.next q2)).fr q3 (by intro k hk hb; simp at hk; subst hk; have := hsb _ hb; omega)).fr q4 (by intro k hk hb; simp at hk; subst hk; have := hsb _ hb; omega)
                   replace hb2 := ((hb2.ext q2).fr q3 (by first | (simp; done) | (simp; omega) | (simp [blks]; done) | (simp [blks]; omega))).fr q4 (by first | (simp; done) | (simp; omega) | (simp [blks]; done) | (simp [blks]; omega))
                   intro a h
                   have qh14 := Fr.refl [] w4
                   refine region_held (fun wb w' => Fr [] wb w') hmix ?_; intro w15 hq
                   have z15 := hq.size
                   replace hG := hG.ext hq
                   replace hs := hs.ext hq
                   replace hb2 := hb2.ext hq
                   replace hb3 := hb3.ext hq
                   replace qh14 := qh14.next hq
                   have hsz := hq.size; clear hq; have hC : Fr [] w15 w15 := Fr.refl _ _
                   have hG_b := hG
                   have hs_b := hs
                   have hb2_b := hb2
                   have hb3_b := hb3
                   refine hd_fieldAddr 1 (by kernel_rfl) (by kernel_rfl) (by kernel_rfl) hC h wn rfl fa41_0 rfl rfl ?_; clear h a; intro a h
                   refine hd_loadB 2 (by kernel_rfl) (by kernel_rfl) (by kernel_rfl) hC h wn rfl (fun _ hw => hb3_b.ext hw) rfl na35 rfl rfl ?_; clear h a; intro a h
                   refine hd_one 0 (by kernel_rfl) rfl ?_
                   refine st_call h evs_nil co44 (uses_ok _) rfl ?_; clear h a; rintro _ w16 ⟨gm, rfl, hgm1, hgm2, hm, hq⟩ a h
                   have z16 := hq.size
                   replace hG := hG.ext hq
                   replace hs := hs.ext hq
                   replace hb2 := hb2.ext hq
                   replace hb3 := hb3.ext hq
                   replace qh14 := qh14.next hq
                   replace hC := hC.next hq
                   clear hq
                   refine hd_next hC ?_
                   refine hd_one 3 (by kernel_rfl) rfl ?_
                   refine st_lookup (V := kV) (k := (kindS (ws.getD 0 []))) h rfl rfl hm kLaw Tryz.underlying87 zv85 (usesV_getD _) rfl ?_; clear h a; intro a h
                   refine hd_next hC ?_
                   refine hd_one 4 (by kernel_rfl) rfl ?_
                   refine st_field h rfl (fun w => fld0 _ w) rfl ?_; clear h a; intro a h
                   refine hd_next hC ?_
                   refine hd_move 5 (by kernel_rfl) (by kernel_rfl) (by kernel_rfl) hC h wn rfl rfl rfl ?_; clear h a; intro a h
                   first | refine guard_dec (D := 76) h rfl ?_ ?_ | refine guard_ndec (D := 76) h rfl ?_ ?_ | refine guard_any (D := 76) h rfl ?_ ?_
                   · clear h; intro g3 h
                     refine hd_move 6 (by kernel_rfl) (by kernel_rfl) (by kernel_rfl) hC h (wy rfl) rfl rfl rfl ?_; clear h a; intro a h
                     refine hd_lenS 7 (by kernel_rfl) (by kernel_rfl) (by kernel_rfl) hC h (wy rfl) rfl Tryz.underlying66 rfl rfl ?_; clear h a; intro a h
                     refine hd_eq 8 (by kernel_rfl) (by kernel_rfl) (by kernel_rfl) hC h (wy rfl) rfl rfl rfl rfl ?_; clear h a; intro a h
                     refine hd_one 9 (by kernel_rfl) rfl ?_
                     refine st_pick_t h rfl rfl rfl rfl ?_; clear h a; intro a h
                     refine hd_next hC ?_
                     refine hd_one 10 (by kernel_rfl) rfl ?_
                     refine st_assign h rfl rfl ?_; clear h a; intro a h
                     refine hd_next hC ?_
                     refine hd_end (by kernel_rfl) ?_
                     clear hC hG_b hs_b hb2_b hb3_b
                     have z16 := qh14.size
                     refine bk (h.sub (L' := [(0, _), (2, _), (3, _), (70, _)]) (.cons rfl (.cons rfl (.cons rfl (.cons rfl .nil))))) ?_; clear h a
                     exact jE (_) (.cons rfl (.cons rfl (.cons rfl (.cons rfl .nil)))) ⟨qh14, by simp_all [fD]⟩
                   · clear h; intro g3 h
                     refine hd_gn 6 (by kernel_rfl) (by kernel_rfl) (by kernel_rfl) hC h rfl rfl rfl rfl ?_; clear h a; intro a h
                     refine hd_gn 7 (by kernel_rfl) (by kernel_rfl) (by kernel_rfl) hC h rfl rfl rfl rfl ?_; clear h a; intro a h
                     refine hd_gn 8 (by kernel_rfl) (by kernel_rfl) (by kernel_rfl) hC h rfl rfl rfl rfl ?_; clear h a; intro a h
                     refine hd_one 9 (by kernel_rfl) rfl ?_
                     refine st_pick_f h rfl rfl rfl rfl ?_; clear h a; intro a h
                     refine hd_next hC ?_
                     refine hd_one 10 (by kernel_rfl) rfl ?_
                     refine st_assign h rfl rfl ?_; clear h a; intro a h
                     refine hd_next hC ?_
                     refine hd_end (by kernel_rfl) ?_
                     clear hC hG_b hs_b hb2_b hb3_b
                     have z16 := qh14.size
                     refine bk (h.sub (L' := [(0, _), (2, _), (3, _), (70, _)]) (.cons rfl (.cons rfl (.cons rfl (.cons rfl .nil))))) ?_; clear h a
                     exact jE (_) (.cons rfl (.cons rfl (.cons rfl (.cons rfl .nil)))) ⟨qh14, by simp_all [fD]⟩
                 · rintro b70 w17 ⟨q17, rfl⟩
                   have z17 := q17.size
                   refine kpC [(0, _), (2, _), (3, _), (70, _)] (.cons rfl (.cons rfl (.cons rfl (.cons rfl .nil)))) ?_
                   refine cd rfl (fun c5 => ?_) (fun c5 => ?_)
                   · refine sr (mv rfl rfl ?_)
                     replace hs := (((hs.ext (q1.next q2)).fr q3 (by intro k hk hb; simp at hk; subst hk; have := hsb _ hb; omega)).fr q4 (by intro k hk hb; simp at hk; subst hk; have := hsb _ hb; omega)).ext q17
                     refine s_idxL (p := 2) ([]) rfl hs rfl el66 (by omega) (by omega) rfl rfl (fun ad83 hc83 => ?_)
                     refine s_loadC0 rfl (hc83 _ hs) na9 rfl ?_
                     replace hG := (hG.fr q4 (by first | (simp; done) | (simp; omega) | (simp [blks]; done) | (simp [blks]; omega) | (intro k hk hb; simp at hk; subst hk; have := (hG.blk _ hb).2; omega))).ext q17
                     refine cl (ev1 rfl) co55 (nparse_ok _ _ hG (hlw _)) rfl ?_
                     rintro _ w18 ⟨e, rfl, q18⟩
                     have z18 := q18.size
                     refine mv rfl rfl (xt rfl rfl rfl (xt rfl rfl rfl (fad rfl fa41_2 rfl ?_)))
                     replace hb3 := hb3.ext (q17.next q18)
                     refine s_storeBP (cs' := [_, _, _, _, _, _]) rfl rfl hb3 rfl (by first | (simp [Value.oneCell', S]; done) | exact Enc.one _ _) sz39 rfl (fun w19 hb3 q19 z19 => ?_)
                     refine kpL [(0, _), (2, _), (3, _)] (.cons rfl (.cons rfl (.cons rfl .nil))) (nn ?_)
                     replace hG := (hG.ext q18).fr q19 (by first | (simp; done) | (simp; omega) | (simp [blks]; done) | (simp [blks]; omega) | (intro k hk hb; simp at hk; subst hk; have := (hG.blk _ hb).2; omega))
                     replace hs := (hs.ext q18).fr q19 (by intro k hk hb; simp at hk; subst hk; have := hsb _ hb; omega)
                     replace hb2 := ((((hb2.ext q2).fr q3 (by first | (simp; done) | (simp; omega) | (simp [blks]; done) | (simp [blks]; omega))).fr q4 (by first | (simp; done) | (simp; omega) | (simp [blks]; done) | (simp [blks]; omega))).ext (q17.next q18)).fr q19 (by first | (simp; done) | (simp; omega) | (simp [blks]; done) | (simp [blks]; omega))
                     intro a h
                     have qh16 := Fr.refl [g3] w19
                     refine region_held (fun wb w' => Fr [g3] wb w') hmix ?_; intro w20 hq
                     have z20 := hq.size
                     replace hG := hG.ext hq
                     replace hs := hs.ext hq
                     replace hb2 := hb2.ext hq
                     replace hb3 := hb3.ext hq
                     replace qh16 := qh16.next hq
                     have hsz := hq.size; clear hq; have hC : Fr [g3] w20 w20 := Fr.refl _ _
                     have hG_b := hG
                     have hs_b := hs
                     have hb2_b := hb2
                     have hb3_b := hb3
                     refine hd_move 0 (by kernel_rfl) (by kernel_rfl) (by kernel_rfl) hC h wn rfl rfl rfl ?_; clear h a; intro a h
                     refine hd_idxL (p := 1) ([]) 1 (by kernel_rfl) (by kernel_rfl) (by kernel_rfl) hC h wn rfl hs rfl el66 (by omega) (by omega) rfl rfl rfl ?_; clear h a; intro ad90 hc90 a h
                     refine hd_loadC0 2 (by kernel_rfl) (by kernel_rfl) (by kernel_rfl) hC h wn rfl (fun _ hw => hc90 _ (hs_b.fr hw (by intro k hk hb; simp at hk; subst hk; have := hsb _ hb; omega))) na9 rfl rfl ?_; clear h a; intro a h
                     refine hd_move 4 (by kernel_rfl) (by kernel_rfl) (by kernel_rfl) hC h wn rfl rfl rfl ?_; clear h a; intro a h
                     refine hd_idxL (p := 3) ([]) 5 (by kernel_rfl) (by kernel_rfl) (by kernel_rfl) hC h wn rfl hs rfl el66 (by omega) (by omega) rfl rfl rfl ?_; clear h a; intro ad94 hc94 a h
                     refine hd_loadC0 6 (by kernel_rfl) (by kernel_rfl) (by kernel_rfl) hC h wn rfl (fun _ hw => hc94 _ (hs_b.fr hw (by intro k hk hb; simp at hk; subst hk; have := hsb _ hb; omega))) na9 rfl rfl ?_; clear h a; intro a h
                     refine hd_one 3 (by kernel_rfl) rfl ?_
                     refine st_call h (evs_cons rfl evs_nil) co54 (dir_ok _ _ hG) rfl ?_; clear h a; rintro _ w21 ⟨rfl, hq⟩ a h
                     have z21 := hq.size
                     replace hG := hG.ext hq
                     replace hs := hs.ext hq
                     replace hb2 := hb2.ext hq
                     replace hb3 := hb3.ext hq
                     replace qh16 := qh16.next hq
                     replace hC := hC.next hq
                     clear hq
                     refine hd_next hC ?_
                     refine hd_fieldAddr 9 (by kernel_rfl) (by kernel_rfl) (by kernel_rfl) hC h wn rfl fa41_1 rfl rfl ?_; clear h a; intro a h
                     refine hd_one 7 (by kernel_rfl) rfl ?_
                     refine st_call h (evs_cons rfl evs_nil) co53 (number_ok _ _ hG (hlw _)) rfl ?_; clear h a; rintro _ w22 ⟨rfl, hq⟩ a h
                     have z22 := hq.size
                     replace hG := hG.ext hq
                     replace hs := hs.ext hq
                     replace hb2 := hb2.ext hq
                     replace hb3 := hb3.ext hq
                     replace qh16 := qh16.next hq
                     replace hC := hC.next hq
                     clear hq
                     refine hd_next hC ?_
                     refine hd_conv 8 (by kernel_rfl) (by kernel_rfl) (by kernel_rfl) hC h wn rfl (by rw [Tryz.underlying3]; rfl) Tryz.underlying5 (by first | exact IntWalk.u8_in _ (by omega) | rfl) rfl rfl ?_; clear h a; intro a h
                     refine hd_one 10 (by kernel_rfl) rfl ?_
                     refine st_storeB h rfl rfl hb3 rfl rfl rfl sz36 ?_; clear h a; intro w23 hbn hq hz a h
                     have z23 := hq.size
                     replace hG := hG.fr hq (by first | (simp; done) | (simp; omega) | (simp [blks]; done) | (simp [blks]; omega))
                     replace hs := hs.fr hq (by intro k hk hb; simp at hk; subst hk; have := hsb _ hb; omega)
                     replace hb2 := hb2.fr hq (by first | (simp; done) | (simp; omega) | (simp [blks]; done) | (simp [blks]; omega))
                     replace qh16 := qh16.step hq (by first | (simp; done) | (simp; omega))
                     replace hC := hC.step hq (by first | (simp; done) | (simp; omega))
                     clear hb3 hq hz; have hb3 : Blk w23 g3 _ [_, _, _, _, _, _] := hbn; clear hbn
                     refine hd_next hC ?_
                     refine hd_fieldAddr 11 (by kernel_rfl) (by kernel_rfl) (by kernel_rfl) hC h wn rfl fa41_3 rfl rfl ?_; clear h a; intro a h
                     refine hd_one 12 (by kernel_rfl) rfl ?_
                     refine st_storeB h rfl rfl hb3 rfl rfl rfl sz5 ?_; clear h a; intro w24 hbn hq hz a h
                     have z24 := hq.size
                     replace hG := hG.fr hq (by first | (simp; done) | (simp; omega) | (simp [blks]; done) | (simp [blks]; omega))
                     replace hs := hs.fr hq (by intro k hk hb; simp at hk; subst hk; have := hsb _ hb; omega)
                     replace hb2 := hb2.fr hq (by first | (simp; done) | (simp; omega) | (simp [blks]; done) | (simp [blks]; omega))
                     replace qh16 := qh16.step hq (by first | (simp; done) | (simp; omega))
                     replace hC := hC.step hq (by first | (simp; done) | (simp; omega))
                     clear hb3 hq hz; have hb3 : Blk w24 g3 _ [_, _, _, _, _, _] := hbn; clear hbn
                     refine hd_next hC ?_
                     refine hd_end (by kernel_rfl) ?_
                     clear hC hG_b hs_b hb2_b hb3_b
                     have z24 := qh16.size
                     refine bk (h.sub (L' := [(2, _), (3, _)]) (.cons rfl (.cons rfl .nil))) ?_; clear h a
                     refine bn' ?_
                     exact jE (()) (.cons rfl (.cons rfl .nil)) ⟨(((((Fr.refl [g3] _).next q17).next q18).step q19 (by first | (simp; done) | (simp; omega))).step qh16 (by first | (simp; done) | (simp; omega))), by rw [guessS, guessK, if_neg c2, if_neg c3, if_neg c4, if_pos c5]; exact hb3⟩
                   · refine jn (ι := Bool) [(0, _), (2, _), (3, _)] (fun b17 => [(100, .bool b17)]) (fun b17 w' => Fr [] w17 w' ∧ b17 = decide (fN (kindS (ws.getD 0 [])) = true ∧ (ws.length : Int) = 2)) (.cons rfl (.cons rfl (.cons rfl .nil))) ?_ ?_
                     · replace hG := (hG.fr q4 (by first | (simp; done) | (simp; omega) | (simp [blks]; done) | (simp [blks]; omega) | (intro k hk hb; simp at hk; subst hk; have := (hG.blk _ hb).2; omega))).ext q17
                       replace hs := (((hs.ext (q1.next q2)).fr q3 (by intro k hk hb; simp at hk; subst hk; have := hsb _ hb; omega)).fr q4 (by intro k hk hb; simp at hk; subst hk; have := hsb _ hb; omega)).ext q17
                       replace hb2 := (((hb2.ext q2).fr q3 (by first | (simp; done) | (simp; omega) | (simp [blks]; done) | (simp [blks]; omega))).fr q4 (by first | (simp; done) | (simp; omega) | (simp [blks]; done) | (simp [blks]; omega))).ext q17
                       replace hb3 := hb3.ext q17
                       intro a h
                       have qh17 := Fr.refl [] w17
                       refine region_held (fun wb w' => Fr [] wb w') hmix ?_; intro w25 hq
                       have z25 := hq.size
                       replace hG := hG.ext hq
                       replace hs := hs.ext hq
                       replace hb2 := hb2.ext hq
                       replace hb3 := hb3.ext hq
                       replace qh17 := qh17.next hq
                       have hsz := hq.size; clear hq; have hC : Fr [] w25 w25 := Fr.refl _ _
                       have hG_b := hG
                       have hs_b := hs
                       have hb2_b := hb2
                       have hb3_b := hb3
                       refine hd_fieldAddr 1 (by kernel_rfl) (by kernel_rfl) (by kernel_rfl) hC h wn rfl fa41_0 rfl rfl ?_; clear h a; intro a h
                       refine hd_loadB 2 (by kernel_rfl) (by kernel_rfl) (by kernel_rfl) hC h wn rfl (fun _ hw => hb3_b.ext hw) rfl na35 rfl rfl ?_; clear h a; intro a h
                       refine hd_one 0 (by kernel_rfl) rfl ?_
                       refine st_call h evs_nil co44 (uses_ok _) rfl ?_; clear h a; rintro _ w26 ⟨gm, rfl, hgm1, hgm2, hm, hq⟩ a h
                       have z26 := hq.size
                       replace hG := hG.ext hq
                       replace hs := hs.ext hq
                       replace hb2 := hb2.ext hq
                       replace hb3 := hb3.ext hq
                       replace qh17 := qh17.next hq
                       replace hC := hC.next hq
                       clear hq
                       refine hd_next hC ?_
                       refine hd_one 3 (by kernel_rfl) rfl ?_
                       refine st_lookup (V := kV) (k := (kindS (ws.getD 0 []))) h rfl rfl hm kLaw Tryz.underlying87 zv85 (usesV_getD _) rfl ?_; clear h a; intro a h
                       refine hd_next hC ?_
                       refine hd_one 4 (by kernel_rfl) rfl ?_
                       refine st_field h rfl (fun w => fld1 _ w) rfl ?_; clear h a; intro a h
                       refine hd_next hC ?_
                       refine hd_move 5 (by kernel_rfl) (by kernel_rfl) (by kernel_rfl) hC h wn rfl rfl rfl ?_; clear h a; intro a h
                       first | refine guard_dec (D := 106) h rfl ?_ ?_ | refine guard_ndec (D := 106) h rfl ?_ ?_ | refine guard_any (D := 106) h rfl ?_ ?_
                       · clear h; intro g4 h
                         refine hd_move 6 (by kernel_rfl) (by kernel_rfl) (by kernel_rfl) hC h (wy rfl) rfl rfl rfl ?_; clear h a; intro a h
                         refine hd_lenS 7 (by kernel_rfl) (by kernel_rfl) (by kernel_rfl) hC h (wy rfl) rfl Tryz.underlying66 rfl rfl ?_; clear h a; intro a h
                         refine hd_eq 8 (by kernel_rfl) (by kernel_rfl) (by kernel_rfl) hC h (wy rfl) rfl rfl rfl rfl ?_; clear h a; intro a h
                         refine hd_one 9 (by kernel_rfl) rfl ?_
                         refine st_pick_t h rfl rfl rfl rfl ?_; clear h a; intro a h
                         refine hd_next hC ?_
                         refine hd_one 10 (by kernel_rfl) rfl ?_
                         refine st_assign h rfl rfl ?_; clear h a; intro a h
                         refine hd_next hC ?_
                         refine hd_end (by kernel_rfl) ?_
                         clear hC hG_b hs_b hb2_b hb3_b
                         have z26 := qh17.size
                         refine bk (h.sub (L' := [(0, _), (2, _), (3, _), (100, _)]) (.cons rfl (.cons rfl (.cons rfl (.cons rfl .nil))))) ?_; clear h a
                         exact jE (_) (.cons rfl (.cons rfl (.cons rfl (.cons rfl .nil)))) ⟨qh17, by simp_all [fN]⟩
                       · clear h; intro g4 h
                         refine hd_gn 6 (by kernel_rfl) (by kernel_rfl) (by kernel_rfl) hC h rfl rfl rfl rfl ?_; clear h a; intro a h
                         refine hd_gn 7 (by kernel_rfl) (by kernel_rfl) (by kernel_rfl) hC h rfl rfl rfl rfl ?_; clear h a; intro a h
                         refine hd_gn 8 (by kernel_rfl) (by kernel_rfl) (by kernel_rfl) hC h rfl rfl rfl rfl ?_; clear h a; intro a h
                         refine hd_one 9 (by kernel_rfl) rfl ?_
                         refine st_pick_f h rfl rfl rfl rfl ?_; clear h a; intro a h
                         refine hd_next hC ?_
                         refine hd_one 10 (by kernel_rfl) rfl ?_
                         refine st_assign h rfl rfl ?_; clear h a; intro a h
                         refine hd_next hC ?_
                         refine hd_end (by kernel_rfl) ?_
                         clear hC hG_b hs_b hb2_b hb3_b
                         have z26 := qh17.size
                         refine bk (h.sub (L' := [(0, _), (2, _), (3, _), (100, _)]) (.cons rfl (.cons rfl (.cons rfl (.cons rfl .nil))))) ?_; clear h a
                         exact jE (_) (.cons rfl (.cons rfl (.cons rfl (.cons rfl .nil)))) ⟨qh17, by simp_all [fN]⟩
                     · rintro b17 w27 ⟨q27, rfl⟩
                       have z27 := q27.size
                       refine kpC [(0, _), (2, _), (3, _), (100, _)] (.cons rfl (.cons rfl (.cons rfl (.cons rfl .nil)))) ?_
                       refine cd rfl (fun c6 => ?_) (fun c6 => ?_)
                       · refine rg (mv rfl rfl ?_)
                         replace hs := (((hs.ext (q1.next q2)).fr q3 (by intro k hk hb; simp at hk; subst hk; have := hsb _ hb; omega)).fr q4 (by intro k hk hb; simp at hk; subst hk; have := hsb _ hb; omega)).ext (q17.next q27)
                         refine s_idxL (p := 1) ([]) rfl hs rfl el66 (by omega) (by omega) rfl rfl (fun ad113 hc113 => ?_)
                         refine s_loadC0 rfl (hc113 _ hs) na9 rfl ?_
                         replace hG := (hG.fr q4 (by first | (simp; done) | (simp; omega) | (simp [blks]; done) | (simp [blks]; omega) | (intro k hk hb; simp at hk; subst hk; have := (hG.blk _ hb).2; omega))).ext (q17.next q27)
                         refine cl (ev1 rfl) co55 (nparse_ok _ _ hG (hlw _)) rfl ?_
                         rintro _ w28 ⟨e, rfl, q28⟩
                         have z28 := q28.size
                         refine mv rfl rfl (xt rfl rfl rfl (xt rfl rfl rfl (fad rfl fa41_2 rfl ?_)))
                         replace hb3 := hb3.ext ((q17.next q27).next q28)
                         refine s_storeBP (cs' := [_, _, _, _, _, _]) rfl rfl hb3 rfl (by first | (simp [Value.oneCell', S]; done) | exact Enc.one _ _) sz39 rfl (fun w29 hb3 q29 z29 => ?_)
                         refine kpL [(2, _), (3, _)] (.cons rfl (.cons rfl .nil)) (nl (bn' ?_))
                         exact jE (()) (.cons rfl (.cons rfl .nil)) ⟨(((((Fr.refl [g3] _).next q17).next q27).next q28).step q29 (by first | (simp; done) | (simp; omega))), by rw [guessS, guessK, if_neg c2, if_neg c3, if_neg c4, if_neg c5, if_pos c6]; exact hb3⟩
                       · refine sk (bn' ?_)
                         replace hb3 := hb3.ext (q17.next q27)
                         exact jE (()) (.cons rfl (.cons rfl .nil)) ⟨(((Fr.refl [g3] _).next q17).next q27), by rw [guessS, guessK, if_neg c2, if_neg c3, if_neg c4, if_neg c5, if_neg c6]; exact hb3⟩
   · rintro _j w30 ⟨q30, hb3⟩
     have z30 := q30.size
     have lt_hb3 := hb3.lt
     refine kpC [(2, _), (3, _)] (.cons rfl (.cons rfl .nil)) ?_
     refine sr (s_loadBA rfl hb3 ag41 rfl ?_)
     replace hb2 := (((hb2.ext q2).fr q3 (by first | (simp; done) | (simp; omega) | (simp [blks]; done) | (simp [blks]; omega))).fr q4 (by first | (simp; done) | (simp; omega) | (simp [blks]; done) | (simp [blks]; omega))).fr q30 (by first | (simp; done) | (simp; omega) | (simp [blks]; done) | (simp [blks]; omega))
     refine s_storeBA rfl rfl hb2 rfl (by first | (simp [Value.oneCell', S]; done) | exact Enc.one _ _) sz41 (fun w31 hb2 q31 z31 => ?_)
     refine nn (rt (rC Tryz.results42 rfl hb2 ag41  ?_))
     exact ⟨_, rfl, rfl, (((((q1.next q2).step q3 (by first | (simp; done) | (simp; omega))).step q4 (by first | (simp; done) | (simp; omega))).step q30 (by first | (simp; done) | (simp; omega))).step q31 (by first | (simp; done) | (simp; omega)))⟩
end Go.Proofs.YtbalocjcbmkecaaGreatDoor
