/- Walks. -/
import Derived.Test.YtacclnebhbakmaaDoorRows
import Derived.Test.YtacclnebhbakmaaDoorW2
import Derived.Test.YtacclnebhbakmaaDoorXOp
import Derived.Test.YtacclnebhbakmaaDoorXMap
set_option linter.unusedVariables false
set_option linter.unusedSimpArgs false
namespace Go.Proofs.YtacclnebhbakmaaDoor
open Go.Lw
theorem co32 : CallOf Tryd.prog 32 := CallOf.mk' Tryd.func32 (by kernel_rfl) (by kernel_rfl)
theorem co34 : CallOf Tryd.prog 34 := CallOf.mk' Tryd.func34 (by kernel_rfl) (by kernel_rfl)
theorem co35 : CallOf Tryd.prog 35 := CallOf.mk' Tryd.func35 (by kernel_rfl) (by kernel_rfl)
theorem el79 : ElemOf Tryd.prog 79 9 Enc.str 16 := ElemOf.mk' (z := (S [])) Tryd.underlying79 (by kernel_rfl) rfl
theorem na9 : NotAgg Tryd.prog 9 := fun _ => by kernel_rfl
theorem sz9 : SizeOf Tryd.prog 9 1 := fun _ => by kernel_rfl
theorem text_ok (o : MOp) (w0 : World) (hG : Glob w0) : Rets Tryd.prog 24 #[opV o] w0 fun v w' => v = S (txtO o) ∧ Fr [] w0 w' := by
 have hGs := hG.sz
 refine we [(0, opV o)] Tryd.func24 rfl Tryd.ntmps24 rfl (.cons rfl .nil) ?_
 refine sr (bx rfl rfl rfl (fun g1 w1 hg1 hb1 q1 z1 => ?_))
 refine asg rfl rfl (nn (sq (sr (s_loadBA rfl hb1 ag42 rfl ?_))))
 refine cl (ev1 rfl) co32 (check_ok o _) rfl ?_
 rintro _ w2 ⟨rfl, q2⟩
 have z2 := q2.size
 refine ne' rfl rfl rfl (nn ?_)
 refine cd rfl (fun c0 => ?_) (fun c0 => ?_)
 · refine sr (asg rfl rfl (nn (rt (tr (r1 Tryd.results24 rfl ?_)))))
   exact ⟨_, rfl, by rw [txtO, if_pos c0] <;> rfl, (q1.next q2)⟩
 · have hr := chk_rng (Classical.not_not.1 c0)
   refine sk (tn (sr (fad rfl fa42_3 rfl ?_)))
   replace hb1 := hb1.ext q2
   refine s_loadB rfl hb1 rfl na5 rfl (s_conv rfl (us Tryd.underlying5) Tryd.underlying3 (wi6 (by omega)) rfl ?_)
   replace hG := hG.ext (q1.next q2)
   refine cl (ev1 rfl) co33 (itoa_ok _ _ hG (by omega)) rfl ?_
   rintro _ w3 ⟨rfl, q3⟩
   have z3 := q3.size
   refine asg rfl rfl (nn (sr (fad rfl fa42_0 rfl ?_)))
   replace hb1 := hb1.ext q3
   refine s_loadB rfl hb1 rfl na36 rfl (s_idxA rfl rfl Tryd.underlying78 sz9 (by omega) (by omega) rfl ?_)
   replace hG := hG.ext q3
   refine s_loadC rfl hG.wd (words_get (by omega)) na9 rfl (s_bslice ([wordS o.k]) (ev1 rfl) rfl rfl rfl el79 (Nat.le_of_ble_eq_true rfl) rfl (fun g16 w4 hg16 ho16 q4 z4 => ?_))
   refine asg rfl rfl ?_
   replace ho16 := ho16.low (show w0.heap.size ≤ g16 by omega)
   refine nn ?_
   refine jn (ι := Value) [] (fun v4 => [(4, v4)]) (fun v4 w' => Fr [g16] w4 w' ∧ Lw.Own Enc.str 9 w0.heap.size w' v4 (wordS o.k :: tailO o)) .nil ?_ ?_
   · refine sr (fad rfl fa42_0 rfl ?_)
     replace hb1 := hb1.ext q4
     refine s_loadB rfl hb1 rfl na36 rfl (nn (bl (sr (eq' rfl rfl rfl (asg rfl rfl (nn ?_))))))
     refine cd rfl (fun c1 => ?_) (fun c1 => ?_)
     · refine rg (mv rfl rfl (mv rfl rfl (fad rfl fa42_1 rfl (s_loadB rfl hb1 rfl na40 rfl (s_idxA rfl rfl Tryd.underlying80 sz9 (by omega) (by omega) rfl ?_)))))
       replace hG := hG.ext q4
       refine s_loadC rfl hG.dr (dirs_get (by omega)) na9 rfl (s_bslice ([dec2 o.y, dirS o.d]) (ev2 rfl rfl) rfl rfl rfl el79 (Nat.le_of_ble_eq_true rfl) rfl (fun g27 w5 hg27 ho27 q5 z5 => ?_))
       replace ho16 := ho16.ext q5
       refine s_append (base := w0.heap.size) rfl rfl ho16 ho27.sl el79 (by unfold maxLen; first | (simp; done) | (simp; omega)) (by first | (simp; done) | (simp; omega)) (by omega) rfl (fun v28 w6 ho4 q6 hor28 => ?_)
       replace q6 : Fr [g16] _ _ := q6
       have z6 := q6.size
       refine asg rfl rfl (kpL [(4, _)] (.cons rfl .nil) (nl (bn' ?_)))
       exact jE (_) (.cons rfl .nil) ⟨(((Fr.refl [g16] _).next q5).step q6 (by first | (simp; done) | (simp; omega))), by first | (rw [tailO, if_pos c1]; exact ho4) | (exfalso; omega)⟩
     · refine sr (eq' rfl rfl rfl (asg rfl rfl (nn ?_)))
       refine cd rfl (fun c2 => ?_) (fun c2 => ?_)
       · refine rg (mv rfl rfl (mv rfl rfl (s_bslice ([dec2 o.y]) (ev1 rfl) rfl rfl rfl el79 (Nat.le_of_ble_eq_true rfl) rfl (fun g33 w7 hg33 ho33 q7 z7 => ?_))))
         replace ho16 := ho16.ext q7
         refine s_append (base := w0.heap.size) rfl rfl ho16 ho33.sl el79 (by unfold maxLen; first | (simp; done) | (simp; omega)) (by first | (simp; done) | (simp; omega)) (by omega) rfl (fun v34 w8 ho4 q8 hor34 => ?_)
         replace q8 : Fr [g16] _ _ := q8
         have z8 := q8.size
         refine asg rfl rfl (kpL [(4, _)] (.cons rfl .nil) (nl (bn' ?_)))
         exact jE (_) (.cons rfl .nil) ⟨(((Fr.refl [g16] _).next q7).step q8 (by first | (simp; done) | (simp; omega))), by first | (rw [tailO, if_neg c1, if_pos c2]; exact ho4) | (exfalso; omega)⟩
       · refine sr (eq' rfl rfl rfl (asg rfl rfl (nn ?_)))
         refine cd rfl (fun c3 => ?_) (fun c3 => ?_)
         · refine rg (mv rfl rfl (fad rfl fa42_4 rfl (s_loadB rfl hb1 rfl na3 rfl ?_)))
           replace hG := hG.ext q4
           refine cl (ev1 rfl) co33 (itoa_ok _ _ hG (by omega)) rfl ?_
           rintro _ w9 ⟨rfl, q9⟩
           have z9 := q9.size
           refine s_bslice ([dec2 o.r]) (ev1 rfl) rfl rfl rfl el79 (Nat.le_of_ble_eq_true rfl) rfl (fun g41 w10 hg41 ho41 q10 z10 => ?_)
           replace ho16 := ho16.ext (q9.next q10)
           refine s_append (base := w0.heap.size) rfl rfl ho16 ho41.sl el79 (by unfold maxLen; first | (simp; done) | (simp; omega)) (by first | (simp; done) | (simp; omega)) (by omega) rfl (fun v42 w11 ho4 q11 hor42 => ?_)
           replace q11 : Fr [g16] _ _ := q11
           have z11 := q11.size
           refine asg rfl rfl (kpL [(4, _)] (.cons rfl .nil) (nl (bn' ?_)))
           exact jE (_) (.cons rfl .nil) ⟨((((Fr.refl [g16] _).next q9).next q10).step q11 (by first | (simp; done) | (simp; omega))), by first | (rw [tailO, if_neg c1, if_neg c2, if_pos c3]; exact ho4) | (exfalso; omega)⟩
         · refine jn (ι := Bool) [(1, _), (3, _), (4, _), (18, _)] (fun b4 => [(43, .bool b4)]) (fun b4 w' => Fr [] w4 w' ∧ b4 = decide ((o.k = 4 ∨ o.k = 5) ∨ o.k = 6)) (.cons rfl (.cons rfl (.cons rfl (.cons rfl .nil)))) ?_ ?_
           · refine sr (eq' rfl rfl rfl (asg rfl rfl (nn ?_)))
             refine cd rfl (fun c4 => ?_) (fun c4 => ?_)
             · refine sk ?_
               exact jE (_) (.cons rfl (.cons rfl (.cons rfl (.cons rfl (.cons rfl .nil))))) ⟨(Fr.refl _ _), by first | exact bi (by omega) | exact bt (by omega) | exact bf (by omega)⟩
             · refine sr (eq' rfl rfl rfl (asg rfl rfl (nn ?_)))
               refine cd rfl (fun c5 => ?_) (fun c5 => ?_)
               · refine sk ?_
                 exact jE (_) (.cons rfl (.cons rfl (.cons rfl (.cons rfl (.cons rfl .nil))))) ⟨(Fr.refl _ _), by first | exact bi (by omega) | exact bt (by omega) | exact bf (by omega)⟩
               · refine rg (eq' rfl rfl rfl (asg rfl rfl (nl ?_)))
                 exact jE (_) (.cons rfl (.cons rfl (.cons rfl (.cons rfl (.cons rfl .nil))))) ⟨(Fr.refl _ _), by first | exact bi (by omega) | exact bt (by omega) | exact bf (by omega)⟩
           · rintro b4 w12 ⟨q12, rfl⟩
             have z12 := q12.size
             refine kpC [(1, _), (3, _), (4, _), (18, _), (43, _)] (.cons rfl (.cons rfl (.cons rfl (.cons rfl (.cons rfl .nil))))) ?_
             refine cd rfl (fun c6 => ?_) (fun c6 => ?_)
             · replace hG := hG.ext (q4.next q12)
               replace hb1 := hb1.ext q12
               replace ho16 := ho16.ext q12
               intro a h
               have qh15 := Fr.refl [g16] w12
               refine region_held (fun wb w' => Fr [g16] wb w') hmix ?_; intro w13 hq
               have z13 := hq.size
               replace hG := hG.ext hq
               replace hb1 := hb1.ext hq
               replace ho16 := ho16.ext hq
               replace qh15 := qh15.next hq
               have hsz := hq.size; clear hq; have hC : Fr [g16] w13 w13 := Fr.refl _ _
               have hG_b := hG
               have hb1_b := hb1
               have ho16_b := ho16
               refine hd_move 0 (by kernel_rfl) (by kernel_rfl) (by kernel_rfl) hC h wn rfl rfl rfl ?_; clear h a; intro a h
               refine hd_fieldAddr 1 (by kernel_rfl) (by kernel_rfl) (by kernel_rfl) hC h wn rfl fa42_1 rfl rfl ?_; clear h a; intro a h
               refine hd_loadB 2 (by kernel_rfl) (by kernel_rfl) (by kernel_rfl) hC h wn rfl (fun _ hw => hb1_b.fr hw (by first | (simp; done) | (simp; omega))) rfl na40 rfl rfl ?_; clear h a; intro a h
               refine hd_idxA 3 (by kernel_rfl) (by kernel_rfl) (by kernel_rfl) hC h wn rfl rfl Tryd.underlying80 sz9 (by omega) (by omega) rfl rfl ?_; clear h a; intro a h
               refine hd_loadC 4 (by kernel_rfl) (by kernel_rfl) (by kernel_rfl) hC h wn rfl (fun _ hw => (hG_b.fr hw (by first | (simp; done) | (simp; omega))).dr) (dirs_get (by omega)) na9 rfl rfl ?_; clear h a; intro a h
               refine hd_fieldAddr 5 (by kernel_rfl) (by kernel_rfl) (by kernel_rfl) hC h wn rfl fa42_2 rfl rfl ?_; clear h a; intro a h
               refine hd_loadBP (vs := [_, _]) 6 (by kernel_rfl) (by kernel_rfl) (by kernel_rfl) hC h wn rfl (fun _ hw => (hb1_b.fr hw (by first | (simp; done) | (simp; omega)))) ag39 rfl rfl rfl ?_; clear h a; intro a h
               refine hd_move 8 (by kernel_rfl) (by kernel_rfl) (by kernel_rfl) hC h wn rfl rfl rfl ?_; clear h a; intro a h
               refine hd_one 7 (by kernel_rfl) rfl ?_
               refine st_call h (evs_cons rfl evs_nil) co34 (ntext_ok _ _ _ hG) rfl ?_; clear h a; rintro _ w14 ⟨rfl, hq⟩ a h
               have z14 := hq.size
               replace hG := hG.ext hq
               replace hb1 := hb1.ext hq
               replace ho16 := ho16.ext hq
               replace qh15 := qh15.next hq
               replace hC := hC.next hq
               clear hq
               refine hd_next hC ?_
               refine hd_one 9 (by kernel_rfl) rfl ?_
               refine st_bslice ([dirS o.d, txtN o.b o.p, dec2 o.y]) h (evs_cons rfl (evs_cons rfl (evs_cons rfl evs_nil))) rfl rfl rfl el79 (Nat.le_of_ble_eq_true rfl) rfl ?_; clear h a; intro g_56 w15 hg ho56 hq hz a h
               have hn__56 : g1 < g_56 := by have := hb1.lt; omega
               have z15 := hq.size
               replace hG := hG.ext hq
               replace hb1 := hb1.ext hq
               replace ho16 := ho16.ext hq
               replace qh15 := qh15.next hq
               replace hC := hC.next hq
               clear hq
               refine hd_next hC ?_
               refine hd_one 10 (by kernel_rfl) rfl ?_
               refine st_append (base := w0.heap.size) h rfl rfl ho16 ho56.sl el79 (by unfold maxLen; first | (simp; done) | (simp; omega)) (by first | (simp; done) | (simp; omega)) (by omega) rfl ?_; clear h a; intro v57 w16 ho4 hq hor57 a h
               replace hq : Fr [g16] _ _ := hq
               have z16 := hq.size
               replace hG := hG.fr hq (by first | (simp; done) | (simp; omega) | (simp [blks]; done) | (simp [blks]; omega))
               replace hb1 := hb1.fr hq (by first | (simp; done) | (simp; omega) | (simp [blks]; done) | (simp [blks]; omega))
               replace qh15 := qh15.step hq (by first | (simp; done) | (simp; omega))
               replace hC := hC.step hq (by first | (simp; done) | (simp; omega))
               replace ho56 := ho56.fr hq (by first | (simp; done) | (simp; omega) | (simp [blks]; done) | (simp [blks]; omega))
               clear hq
               refine hd_next hC ?_
               refine hd_one 11 (by kernel_rfl) rfl ?_
               refine st_assign h rfl rfl ?_; clear h a; intro a h
               refine hd_next hC ?_
               refine hd_end (by kernel_rfl) ?_
               clear hC hG_b hb1_b ho16_b
               have z16 := qh15.size
               refine bk (h.sub (L' := [(4, _)]) (.cons rfl .nil)) ?_; clear h a
               refine bn' ?_
               exact jE (_) (.cons rfl .nil) ⟨(((Fr.refl [g16] _).next q12).step qh15 (by first | (simp; done) | (simp; omega))), by first | (rw [tailO, if_neg c1, if_neg c2, if_neg c3, if_pos c6]; exact ho4) | (exfalso; omega)⟩
             · refine jn (ι := Bool) [(1, _), (4, _)] (fun b7 => [(58, .bool b7)]) (fun b7 w' => Fr [] w12 w' ∧ b7 = decide (o.k = 7 ∨ o.k = 8)) (.cons rfl (.cons rfl .nil)) ?_ ?_
               · refine sr (eq' rfl rfl rfl (asg rfl rfl (nn ?_)))
                 refine cd rfl (fun c7 => ?_) (fun c7 => ?_)
                 · refine sk ?_
                   exact jE (_) (.cons rfl (.cons rfl (.cons rfl .nil))) ⟨(Fr.refl _ _), by first | exact bi (by omega) | exact bt (by omega) | exact bf (by omega)⟩
                 · refine rg (eq' rfl rfl rfl (asg rfl rfl (nl ?_)))
                   exact jE (_) (.cons rfl (.cons rfl (.cons rfl .nil))) ⟨(Fr.refl _ _), by first | exact bi (by omega) | exact bt (by omega) | exact bf (by omega)⟩
               · rintro b7 w17 ⟨q17, rfl⟩
                 have z17 := q17.size
                 refine kpC [(1, _), (4, _), (58, _)] (.cons rfl (.cons rfl (.cons rfl .nil))) ?_
                 refine cd rfl (fun c8 => ?_) (fun c8 => ?_)
                 · refine rg (mv rfl rfl (fad rfl fa42_2 rfl ?_))
                   replace hb1 := hb1.ext (q12.next q17)
                   refine s_loadBP (vs := [_, _]) rfl hb1 ag39 rfl rfl ?_
                   replace hG := hG.ext ((q4.next q12).next q17)
                   refine cl (ev1 rfl) co34 (ntext_ok _ _ _ hG) rfl ?_
                   rintro _ w18 ⟨rfl, q18⟩
                   have z18 := q18.size
                   refine s_bslice ([txtN o.b o.p]) (ev1 rfl) rfl rfl rfl el79 (Nat.le_of_ble_eq_true rfl) rfl (fun g65 w19 hg65 ho65 q19 z19 => ?_)
                   replace ho16 := ho16.ext (((q12.next q17).next q18).next q19)
                   refine s_append (base := w0.heap.size) rfl rfl ho16 ho65.sl el79 (by unfold maxLen; first | (simp; done) | (simp; omega)) (by first | (simp; done) | (simp; omega)) (by omega) rfl (fun v66 w20 ho4 q20 hor66 => ?_)
                   replace q20 : Fr [g16] _ _ := q20
                   have z20 := q20.size
                   refine asg rfl rfl (kpL [(4, _)] (.cons rfl .nil) (nl (bn' ?_)))
                   exact jE (_) (.cons rfl .nil) ⟨((((((Fr.refl [g16] _).next q12).next q17).next q18).next q19).step q20 (by first | (simp; done) | (simp; omega))), by first | (rw [tailO, if_neg c1, if_neg c2, if_neg c3, if_neg c6, if_pos c8]; exact ho4) | (exfalso; omega)⟩
                 · refine sk (bn' ?_)
                   exact jE (_) (.cons rfl .nil) ⟨(((Fr.refl [g16] _).next q12).next q17), by first | (rw [tailO, if_neg c1, if_neg c2, if_neg c3, if_neg c6, if_neg c8]; exact ho4) | (exfalso; omega)⟩
   · rintro v4 w21 ⟨q21, ho4⟩
     have z21 := q21.size
     refine kpC [(4, _)] (.cons rfl .nil) ?_
     refine sr (mv rfl rfl ?_)
     refine cl (ev2 rfl rfl) co35 (join_ok _ _ _ _ _ _ ho4 (by simp) (by have := tail_len o (Classical.not_not.1 c0); omega) (by have := tail_n o; simp; omega)) rfl ?_
     rintro _ w22 ⟨rfl, q22⟩
     have z22 := q22.size
     refine asg rfl rfl (nn (rt (r1 Tryd.results24 rfl ?_)))
     exact ⟨_, rfl, by rw [txtO, if_neg c0], (((((q1.next q2).next q3).next q4).step q21 (by first | (simp; done) | (simp; omega))).next q22)⟩
end Go.Proofs.YtacclnebhbakmaaDoor
