/- Walks. -/
import Derived.Test.YtbalocjcbmkecaaDoorRows
import Derived.Test.YtbalocjcbmkecaaDoorW3
import Derived.Test.YtbalocjcbmkecaaDoorXOp
import Derived.Test.YtbalocjcbmkecaaDoorXMap
set_option linter.unusedVariables false
set_option linter.unusedSimpArgs false
namespace Go.Proofs.YtbalocjcbmkecaaDoor
open Go.Lw
theorem co29 : CallOf Tryd.prog 29 := CallOf.mk' Tryd.func29 (by kernel_rfl) (by kernel_rfl)
theorem el39 : ElemOf Tryd.prog 39 5 Enc.b 1 := ElemOf.mk' (z := (.int .u8 0)) Tryd.underlying39 (by kernel_rfl) rfl
theorem decimal_ok (m : Nat) : ∀ (n : Int) (w0 : World), -99 ≤ n ∧ n ≤ 99 → 2 * n.natAbs + (if n < 0 then 1 else 0) < m → Rets Tryd.prog 29 #[.int .i64 n] w0 fun v w' => v = S (dec2 n) ∧ Fr [] w0 w' := by
 induction m
 · intro n w0 _ h; omega
 rename_i m ih
 intro n w0 hn hm
 refine we [(0, .int .i64 n)] Tryd.func29 rfl Tryd.ntmps29 rfl (.cons rfl .nil) ?_
 refine sr (asg rfl rfl (nn (sq (sr (mv rfl rfl (lt' rfl rfl rfl (nn ?_)))))))
 refine cd rfl (fun c0 => ?_) (fun c0 => ?_)
 · have hl := itoa_le (0 - n)
   refine sr (mv rfl rfl (s_neg rfl (wi6 (by omega)) rfl ?_))
   refine cl (ev1 rfl) co29 (ih _ _ (by omega) (by split at hm <;> split <;> omega)) rfl ?_
   rintro _ w1 ⟨rfl, q1⟩
   have z1 := q1.size
   refine s_adds rfl rfl (by first | (simp only [List.length_append, List.length_cons, List.length_nil]; omega) | omega | (simp; done) | (simp; omega)) rfl (asg rfl rfl (kpL [(2, _)] (.cons rfl .nil) (nn (rt (tr (r1 Tryd.results29 rfl ?_))))))
   exact ⟨_, rfl, by rw [itoa_neg c0], q1⟩
 · refine sk (tn (sq (sr (mv rfl rfl (lt' rfl rfl rfl (nn ?_))))))
   refine cd rfl (fun c1 => ?_) (fun c1 => ?_)
   · refine sr (mv rfl rfl (s_conv rfl (us Tryd.underlying3) Tryd.underlying5 (wi8 (by omega)) rfl (s_add rfl rfl (wi8 (by omega)) rfl (s_bslice ([UInt8.ofNat (48 + n.toNat)]) (ev1 rfl) rfl (dig_cells (by omega)) rfl el39 (Nat.le_of_ble_eq_true rfl) rfl (fun g14 w2 hg14 ho14 q2 z2 => ?_)))))
     refine s_b2s rfl ho14.sl el39 Tryd.underlying5 Tryd.underlying9 rfl (asg rfl rfl (kpL [(2, _)] (.cons rfl .nil) (nn (rt (tr (r1 Tryd.results29 rfl ?_))))))
     exact ⟨_, rfl, by rw [itoa_small (by omega)], q2⟩
   · have hl := itoa_le (n / 10)
     refine sk (tn ?_)
     refine jn (ι := Unit) [] (fun _j => [(2, S (dec2 (n / 10) ++ [UInt8.ofNat (48 + (n % 10).toNat)]))]) (fun _j w' => Fr [] w0 w') .nil ?_ ?_
     · intro a h
       have qh5 := Fr.refl [] w0
       refine region_held (fun wb w' => Fr [] wb w') hmix ?_; intro w3 hq
       have z3 := hq.size
       replace qh5 := qh5.next hq
       have hsz := hq.size; clear hq; have hC : Fr [] w3 w3 := Fr.refl _ _
       refine hd_move 0 (by kernel_rfl) (by kernel_rfl) (by kernel_rfl) hC h wn rfl rfl rfl ?_; clear h a; intro a h
       refine hd_quo 1 (by kernel_rfl) (by kernel_rfl) (by kernel_rfl) hC h wn rfl rfl (by omega) (by first | exact IntWalk.i64_quo _ _ (by omega) | rfl) rfl rfl ?_; clear h a; intro a h
       refine hd_move 3 (by kernel_rfl) (by kernel_rfl) (by kernel_rfl) hC h wn rfl rfl rfl ?_; clear h a; intro a h
       refine hd_rem 4 (by kernel_rfl) (by kernel_rfl) (by kernel_rfl) hC h wn rfl rfl (by omega) (by first | exact IntWalk.rem_in _ _ (by omega) | rfl) rfl rfl ?_; clear h a; intro a h
       refine hd_conv 5 (by kernel_rfl) (by kernel_rfl) (by kernel_rfl) hC h wn rfl (by rw [Tryd.underlying3]; rfl) Tryd.underlying5 (by first | exact IntWalk.u8_in _ (by omega) | rfl) rfl rfl ?_; clear h a; intro a h
       refine hd_add 6 (by kernel_rfl) (by kernel_rfl) (by kernel_rfl) hC h wn rfl rfl (by first | exact IntWalk.u8_in _ (by omega) | rfl) rfl rfl ?_; clear h a; intro a h
       refine hd_two 2 7 (by kernel_rfl) rfl rfl ?_ ?_
       · refine id ?_
         refine st_call h (evs_cons rfl evs_nil) co29 (ih _ _ (by omega) (by split at hm <;> split <;> omega)) rfl ?_; clear h a; rintro _ w4 ⟨rfl, hq⟩ a h
         have z4 := hq.size
         replace qh5 := qh5.next hq
         replace hC := hC.next hq
         clear hq
         refine hd_next hC ?_
         refine hd_one 7 (by kernel_rfl) rfl ?_
         refine st_bslice ([UInt8.ofNat (48 + (n % 10).toNat)]) h (evs_cons rfl evs_nil) rfl (dig_cells (by omega)) rfl el39 (Nat.le_of_ble_eq_true rfl) rfl ?_; clear h a; intro g_23 w5 hg ho23 hq hz a h
         have z5 := hq.size
         replace qh5 := qh5.next hq
         replace hC := hC.next hq
         clear hq
         refine hd_next hC ?_
         refine hd_one 8 (by kernel_rfl) rfl ?_
         refine st_b2s h rfl ho23.sl el39 Tryd.underlying5 Tryd.underlying9 rfl ?_; clear h a; intro a h
         refine hd_next hC ?_
         refine hd_adds 9 (by kernel_rfl) (by kernel_rfl) (by kernel_rfl) hC h wn rfl rfl (by first | (simp only [List.length_append, List.length_cons, List.length_nil]; omega) | omega | (simp; done) | (simp; omega)) rfl rfl ?_; clear h a; intro a h
         refine hd_one 10 (by kernel_rfl) rfl ?_
         refine st_assign h rfl rfl ?_; clear h a; intro a h
         refine hd_next hC ?_
         refine hd_end (by kernel_rfl) ?_
         clear hC 
         have z5 := qh5.size
         refine bk (h.sub (L' := [(2, _)]) (.cons rfl .nil)) ?_; clear h a
         exact jE (()) (.cons rfl .nil) qh5
       · refine id ?_
         refine st_bslice ([UInt8.ofNat (48 + (n % 10).toNat)]) h (evs_cons rfl evs_nil) rfl (dig_cells (by omega)) rfl el39 (Nat.le_of_ble_eq_true rfl) rfl ?_; clear h a; intro g_23 w6 hg ho23 hq hz a h
         have z6 := hq.size
         replace qh5 := qh5.next hq
         replace hC := hC.next hq
         clear hq
         refine hd_next hC ?_
         refine hd_two 2 8 (by kernel_rfl) rfl rfl ?_ ?_
         · refine id ?_
           refine st_call h (evs_cons rfl evs_nil) co29 (ih _ _ (by omega) (by split at hm <;> split <;> omega)) rfl ?_; clear h a; rintro _ w7 ⟨rfl, hq⟩ a h
           have z7 := hq.size
           replace qh5 := qh5.next hq
           replace hC := hC.next hq
           replace ho23 := ho23.ext hq
           clear hq
           refine hd_next hC ?_
           refine hd_one 8 (by kernel_rfl) rfl ?_
           refine st_b2s h rfl ho23.sl el39 Tryd.underlying5 Tryd.underlying9 rfl ?_; clear h a; intro a h
           refine hd_next hC ?_
           refine hd_adds 9 (by kernel_rfl) (by kernel_rfl) (by kernel_rfl) hC h wn rfl rfl (by first | (simp only [List.length_append, List.length_cons, List.length_nil]; omega) | omega | (simp; done) | (simp; omega)) rfl rfl ?_; clear h a; intro a h
           refine hd_one 10 (by kernel_rfl) rfl ?_
           refine st_assign h rfl rfl ?_; clear h a; intro a h
           refine hd_next hC ?_
           refine hd_end (by kernel_rfl) ?_
           clear hC 
           have z7 := qh5.size
           refine bk (h.sub (L' := [(2, _)]) (.cons rfl .nil)) ?_; clear h a
           exact jE (()) (.cons rfl .nil) qh5
         · refine id ?_
           refine st_b2s h rfl ho23.sl el39 Tryd.underlying5 Tryd.underlying9 rfl ?_; clear h a; intro a h
           refine hd_next hC ?_
           refine hd_one 2 (by kernel_rfl) rfl ?_
           refine st_call h (evs_cons rfl evs_nil) co29 (ih _ _ (by omega) (by split at hm <;> split <;> omega)) rfl ?_; clear h a; rintro _ w8 ⟨rfl, hq⟩ a h
           have z8 := hq.size
           replace qh5 := qh5.next hq
           replace hC := hC.next hq
           replace ho23 := ho23.ext hq
           clear hq
           refine hd_next hC ?_
           refine hd_adds 9 (by kernel_rfl) (by kernel_rfl) (by kernel_rfl) hC h wn rfl rfl (by first | (simp only [List.length_append, List.length_cons, List.length_nil]; omega) | omega | (simp; done) | (simp; omega)) rfl rfl ?_; clear h a; intro a h
           refine hd_one 10 (by kernel_rfl) rfl ?_
           refine st_assign h rfl rfl ?_; clear h a; intro a h
           refine hd_next hC ?_
           refine hd_end (by kernel_rfl) ?_
           clear hC 
           have z8 := qh5.size
           refine bk (h.sub (L' := [(2, _)]) (.cons rfl .nil)) ?_; clear h a
           exact jE (()) (.cons rfl .nil) qh5
     · rintro _j w9 q9
       have z9 := q9.size
       refine kpC [(2, _)] (.cons rfl .nil) ?_
       refine rt (r1 Tryd.results29 rfl ?_)
       exact ⟨_, rfl, by rw [itoa_big (n := n) (by omega)], q9⟩
theorem ltext_ok (o : MOp) (w0 : World) (ho : chkO o = 0) : Rets Tryd.prog 15 #[opV o] w0 fun v w' => v = S (txtO o) ∧ Fr [] w0 w' := by
 have hr := chk_rng ho
 have hnd := chk_nd ho
 have hlw := wordS_len o.k
 have hld := dirS_len o.d
 have hly := itoa_le (o.y)
 have hlr := itoa_le (o.r)
 have hlp := itoa_le (o.p)
 have hlb : (bedS o.b).length ≤ 1 := by rcases hnd.1 with e | e <;> rw [e] <;> decide
 have hwl : wordsL.length = 9 := rfl
 have hdl : dirsL.length = 2 := rfl
 have hbl : bedsL.length = 2 := rfl
 have hlb2 : (bedsL.getD o.b.toNat []).length ≤ 1 := hlb
 have hlw2 : (wordsL.getD o.k.toNat []).length ≤ 4 := hlw
 have hld2 : (dirsL.getD o.d.toNat []).length ≤ 5 := hld
 refine we [(0, opV o)] Tryd.func15 rfl Tryd.ntmps15 rfl (.cons rfl .nil) ?_
 refine sr (bx rfl rfl rfl (fun g1 w1 hg1 hb1 q1 z1 => ?_))
 refine asg rfl rfl (nn (sr (s_bslice (wordsL) (evs_cons rfl (evs_cons rfl (evs_cons rfl (evs_cons rfl (evs_cons rfl (evs_cons rfl (evs_cons rfl (evs_cons rfl (evs_cons rfl evs_nil))))))))) rfl rfl rfl el40 (Nat.le_of_ble_eq_true rfl) rfl (fun g6 w2 hg6 ho6 q2 z2 => ?_))))
 refine fad rfl fa31_0 rfl ?_
 replace hb1 := hb1.ext q2
 refine s_loadB rfl hb1 rfl na25 rfl (s_idxL (p := o.k.toNat) ([]) rfl ho6.sl rfl el40 (by omega) (by omega) (by omega) rfl (fun ad9 hc9 => ?_))
 refine s_loadC0 rfl (hc9 _ ho6.sl) na9 rfl (asg rfl rfl (nn (sr (s_bslice (dirsL) (ev2 rfl rfl) rfl rfl rfl el40 (Nat.le_of_ble_eq_true rfl) rfl (fun g11 w3 hg11 ho11 q3 z3 => ?_)))))
 refine fad rfl fa31_1 rfl ?_
 replace hb1 := hb1.ext q3
 refine s_loadB rfl hb1 rfl na26 rfl (s_idxL (p := o.d.toNat) ([]) rfl ho11.sl rfl el40 (by omega) (by omega) (by omega) rfl (fun ad14 hc14 => ?_))
 refine s_loadC0 rfl (hc14 _ ho11.sl) na9 rfl (asg rfl rfl (nn ?_))
 refine jn (ι := Unit) [(1, _), (3, _), (4, _)] (fun _j => [(5, S (bedS o.b ++ dec2 o.p))]) (fun _j w' => Fr [] w3 w') (.cons rfl (.cons rfl (.cons rfl .nil))) ?_ ?_
 · replace ho6 := ho6.ext q3
   intro a h
   have qh3 := Fr.refl [] w3
   refine region_held (fun wb w' => Fr [] wb w') hmix ?_; intro w4 hq
   have z4 := hq.size
   replace hb1 := hb1.ext hq
   replace ho6 := ho6.ext hq
   replace ho11 := ho11.ext hq
   replace qh3 := qh3.next hq
   have hsz := hq.size; clear hq; have hC : Fr [] w4 w4 := Fr.refl _ _
   have hb1_b := hb1
   have ho6_b := ho6
   have ho11_b := ho11
   refine hd_fieldAddr 1 (by kernel_rfl) (by kernel_rfl) (by kernel_rfl) hC h wn rfl fa31_2 rfl rfl ?_; clear h a; intro a h
   refine hd_fad2 2 (by kernel_rfl) (by kernel_rfl) (by kernel_rfl) hC h wn rfl fa29_0 rfl rfl ?_; clear h a; intro a h
   refine hd_loadB 3 (by kernel_rfl) (by kernel_rfl) (by kernel_rfl) hC h wn rfl (fun _ hw => hb1_b.ext hw) rfl na27 rfl rfl ?_; clear h a; intro a h
   refine hd_fieldAddr 6 (by kernel_rfl) (by kernel_rfl) (by kernel_rfl) hC h wn rfl fa31_2 rfl rfl ?_; clear h a; intro a h
   refine hd_fad2 7 (by kernel_rfl) (by kernel_rfl) (by kernel_rfl) hC h wn rfl fa29_1 rfl rfl ?_; clear h a; intro a h
   refine hd_loadB 8 (by kernel_rfl) (by kernel_rfl) (by kernel_rfl) hC h wn rfl (fun _ hw => hb1_b.ext hw) rfl na3 rfl rfl ?_; clear h a; intro a h
   refine hd_two 0 9 (by kernel_rfl) rfl rfl ?_ ?_
   · refine id ?_
     refine st_bslice (bedsL) h (evs_cons rfl (evs_cons rfl evs_nil)) rfl rfl rfl el40 (Nat.le_of_ble_eq_true rfl) rfl ?_; clear h a; intro g_16 w5 hg ho16 hq hz a h
     have hn__16 : g1 < g_16 := by have := hb1.lt; omega
     have z5 := hq.size
     replace hb1 := hb1.ext hq
     replace ho6 := ho6.ext hq
     replace ho11 := ho11.ext hq
     replace qh3 := qh3.next hq
     replace hC := hC.next hq
     clear hq
     refine hd_next hC ?_
     refine hd_two 4 9 (by kernel_rfl) rfl rfl ?_ ?_
     · refine id ?_
       refine st_idxL (p := o.b.toNat) ([]) h rfl ho16.sl rfl el40 (by omega) (by omega) (by omega) rfl ?_; clear h a; intro ad20 hc20 a h
       refine hd_next hC ?_
       refine hd_two 5 9 (by kernel_rfl) rfl rfl ?_ ?_
       · refine id ?_
         refine st_loadC0 h rfl (hc20 _ ho16.sl) na9 rfl ?_; clear h a; intro a h
         refine hd_next hC ?_
         refine hd_one 9 (by kernel_rfl) rfl ?_
         refine st_call h (evs_cons rfl evs_nil) co29 (decimal_ok _ _ _ (by omega) (Nat.lt_succ_self _)) rfl ?_; clear h a; rintro _ w6 ⟨rfl, hq⟩ a h
         have z6 := hq.size
         replace hb1 := hb1.ext hq
         replace ho6 := ho6.ext hq
         replace ho11 := ho11.ext hq
         replace qh3 := qh3.next hq
         replace hC := hC.next hq
         replace ho16 := ho16.ext hq
         clear hq
         refine hd_next hC ?_
         refine hd_adds 10 (by kernel_rfl) (by kernel_rfl) (by kernel_rfl) hC h wn rfl rfl (by first | (simp only [List.length_append, List.length_cons, List.length_nil]; omega) | omega | (simp; done) | (simp; omega)) rfl rfl ?_; clear h a; intro a h
         refine hd_one 11 (by kernel_rfl) rfl ?_
         refine st_assign h rfl rfl ?_; clear h a; intro a h
         refine hd_next hC ?_
         refine hd_end (by kernel_rfl) ?_
         clear hC hb1_b ho6_b ho11_b
         have z6 := qh3.size
         refine bk (h.sub (L' := [(1, _), (3, _), (4, _), (5, _)]) (.cons rfl (.cons rfl (.cons rfl (.cons rfl .nil))))) ?_; clear h a
         exact jE (()) (.cons rfl (.cons rfl (.cons rfl (.cons rfl .nil)))) qh3
       · refine id ?_
         refine st_call h (evs_cons rfl evs_nil) co29 (decimal_ok _ _ _ (by omega) (Nat.lt_succ_self _)) rfl ?_; clear h a; rintro _ w7 ⟨rfl, hq⟩ a h
         have z7 := hq.size
         replace hb1 := hb1.ext hq
         replace ho6 := ho6.ext hq
         replace ho11 := ho11.ext hq
         replace qh3 := qh3.next hq
         replace hC := hC.next hq
         replace ho16 := ho16.ext hq
         clear hq
         refine hd_next hC ?_
         refine hd_one 5 (by kernel_rfl) rfl ?_
         refine st_loadC0 h rfl (hc20 _ ho16.sl) na9 rfl ?_; clear h a; intro a h
         refine hd_next hC ?_
         refine hd_adds 10 (by kernel_rfl) (by kernel_rfl) (by kernel_rfl) hC h wn rfl rfl (by first | (simp only [List.length_append, List.length_cons, List.length_nil]; omega) | omega | (simp; done) | (simp; omega)) rfl rfl ?_; clear h a; intro a h
         refine hd_one 11 (by kernel_rfl) rfl ?_
         refine st_assign h rfl rfl ?_; clear h a; intro a h
         refine hd_next hC ?_
         refine hd_end (by kernel_rfl) ?_
         clear hC hb1_b ho6_b ho11_b
         have z7 := qh3.size
         refine bk (h.sub (L' := [(1, _), (3, _), (4, _), (5, _)]) (.cons rfl (.cons rfl (.cons rfl (.cons rfl .nil))))) ?_; clear h a
         exact jE (()) (.cons rfl (.cons rfl (.cons rfl (.cons rfl .nil)))) qh3
     · refine id ?_
       refine st_call h (evs_cons rfl evs_nil) co29 (decimal_ok _ _ _ (by omega) (Nat.lt_succ_self _)) rfl ?_; clear h a; rintro _ w8 ⟨rfl, hq⟩ a h
       have z8 := hq.size
       replace hb1 := hb1.ext hq
       replace ho6 := ho6.ext hq
       replace ho11 := ho11.ext hq
       replace qh3 := qh3.next hq
       replace hC := hC.next hq
       replace ho16 := ho16.ext hq
       clear hq
       refine hd_next hC ?_
       refine hd_one 4 (by kernel_rfl) rfl ?_
       refine st_idxL (p := o.b.toNat) ([]) h rfl ho16.sl rfl el40 (by omega) (by omega) (by omega) rfl ?_; clear h a; intro ad20 hc20 a h
       refine hd_next hC ?_
       refine hd_one 5 (by kernel_rfl) rfl ?_
       refine st_loadC0 h rfl (hc20 _ ho16.sl) na9 rfl ?_; clear h a; intro a h
       refine hd_next hC ?_
       refine hd_adds 10 (by kernel_rfl) (by kernel_rfl) (by kernel_rfl) hC h wn rfl rfl (by first | (simp only [List.length_append, List.length_cons, List.length_nil]; omega) | omega | (simp; done) | (simp; omega)) rfl rfl ?_; clear h a; intro a h
       refine hd_one 11 (by kernel_rfl) rfl ?_
       refine st_assign h rfl rfl ?_; clear h a; intro a h
       refine hd_next hC ?_
       refine hd_end (by kernel_rfl) ?_
       clear hC hb1_b ho6_b ho11_b
       have z8 := qh3.size
       refine bk (h.sub (L' := [(1, _), (3, _), (4, _), (5, _)]) (.cons rfl (.cons rfl (.cons rfl (.cons rfl .nil))))) ?_; clear h a
       exact jE (()) (.cons rfl (.cons rfl (.cons rfl (.cons rfl .nil)))) qh3
   · refine id ?_
     refine st_call h (evs_cons rfl evs_nil) co29 (decimal_ok _ _ _ (by omega) (Nat.lt_succ_self _)) rfl ?_; clear h a; rintro _ w9 ⟨rfl, hq⟩ a h
     have z9 := hq.size
     replace hb1 := hb1.ext hq
     replace ho6 := ho6.ext hq
     replace ho11 := ho11.ext hq
     replace qh3 := qh3.next hq
     replace hC := hC.next hq
     clear hq
     refine hd_next hC ?_
     refine hd_one 0 (by kernel_rfl) rfl ?_
     refine st_bslice (bedsL) h (evs_cons rfl (evs_cons rfl evs_nil)) rfl rfl rfl el40 (Nat.le_of_ble_eq_true rfl) rfl ?_; clear h a; intro g_16 w10 hg ho16 hq hz a h
     have hn__16 : g1 < g_16 := by have := hb1.lt; omega
     have z10 := hq.size
     replace hb1 := hb1.ext hq
     replace ho6 := ho6.ext hq
     replace ho11 := ho11.ext hq
     replace qh3 := qh3.next hq
     replace hC := hC.next hq
     clear hq
     refine hd_next hC ?_
     refine hd_one 4 (by kernel_rfl) rfl ?_
     refine st_idxL (p := o.b.toNat) ([]) h rfl ho16.sl rfl el40 (by omega) (by omega) (by omega) rfl ?_; clear h a; intro ad20 hc20 a h
     refine hd_next hC ?_
     refine hd_one 5 (by kernel_rfl) rfl ?_
     refine st_loadC0 h rfl (hc20 _ ho16.sl) na9 rfl ?_; clear h a; intro a h
     refine hd_next hC ?_
     refine hd_adds 10 (by kernel_rfl) (by kernel_rfl) (by kernel_rfl) hC h wn rfl rfl (by first | (simp only [List.length_append, List.length_cons, List.length_nil]; omega) | omega | (simp; done) | (simp; omega)) rfl rfl ?_; clear h a; intro a h
     refine hd_one 11 (by kernel_rfl) rfl ?_
     refine st_assign h rfl rfl ?_; clear h a; intro a h
     refine hd_next hC ?_
     refine hd_end (by kernel_rfl) ?_
     clear hC hb1_b ho6_b ho11_b
     have z10 := qh3.size
     refine bk (h.sub (L' := [(1, _), (3, _), (4, _), (5, _)]) (.cons rfl (.cons rfl (.cons rfl (.cons rfl .nil))))) ?_; clear h a
     exact jE (()) (.cons rfl (.cons rfl (.cons rfl (.cons rfl .nil)))) qh3
 · rintro _j w11 q11
   have z11 := q11.size
   refine kpC [(1, _), (3, _), (4, _), (5, _)] (.cons rfl (.cons rfl (.cons rfl (.cons rfl .nil)))) ?_
   refine sq (sr (fad rfl fa31_0 rfl ?_))
   replace hb1 := hb1.ext q11
   refine s_loadB rfl hb1 rfl na25 rfl (nn (bl (sr (eq' rfl rfl rfl (asg rfl rfl (nn ?_))))))
   refine cd rfl (fun c0 => ?_) (fun c0 => ?_)
   · refine sr (mv rfl rfl (s_adds rfl rfl (by first | (simp only [List.length_append, List.length_cons, List.length_nil]; omega) | omega | (simp; done) | (simp; omega)) rfl (fad rfl fa31_3 rfl (s_loadB rfl hb1 rfl na5 rfl (s_conv rfl (us Tryd.underlying5) Tryd.underlying3 (wi6 (by omega)) rfl ?_)))))
     refine cl (ev1 rfl) co29 (decimal_ok _ _ _ (by omega) (Nat.lt_succ_self _)) rfl ?_
     rintro _ w12 ⟨rfl, q12⟩
     have z12 := q12.size
     refine s_adds rfl rfl (by first | (simp only [List.length_append, List.length_cons, List.length_nil]; omega) | omega | (simp; done) | (simp; omega)) rfl (s_adds rfl rfl (by first | (simp only [List.length_append, List.length_cons, List.length_nil]; omega) | omega | (simp; done) | (simp; omega)) rfl (mv rfl rfl (s_adds rfl rfl (by first | (simp only [List.length_append, List.length_cons, List.length_nil]; omega) | omega | (simp; done) | (simp; omega)) rfl (asg rfl rfl (kpL [(2, _)] (.cons rfl .nil) (nn (rt (rb (tr (r1 Tryd.results15 rfl ?_))))))))))
     exact ⟨_, rfl, by rw [txt_join ho, tail1 c0]; simp [Lib.joinTail] <;> rfl, ((((q1.next q2).next q3).next q11).next q12)⟩
   · refine sr (eq' rfl rfl rfl (asg rfl rfl (nn ?_)))
     refine cd rfl (fun c1 => ?_) (fun c1 => ?_)
     · refine sr (mv rfl rfl (s_adds rfl rfl (by first | (simp only [List.length_append, List.length_cons, List.length_nil]; omega) | omega | (simp; done) | (simp; omega)) rfl (fad rfl fa31_3 rfl (s_loadB rfl hb1 rfl na5 rfl (s_conv rfl (us Tryd.underlying5) Tryd.underlying3 (wi6 (by omega)) rfl ?_)))))
       refine cl (ev1 rfl) co29 (decimal_ok _ _ _ (by omega) (Nat.lt_succ_self _)) rfl ?_
       rintro _ w13 ⟨rfl, q13⟩
       have z13 := q13.size
       refine s_adds rfl rfl (by first | (simp only [List.length_append, List.length_cons, List.length_nil]; omega) | omega | (simp; done) | (simp; omega)) rfl (asg rfl rfl (kpL [(2, _)] (.cons rfl .nil) (nn (rt (rb (tr (r1 Tryd.results15 rfl ?_)))))))
       exact ⟨_, rfl, by rw [txt_join ho, tail2 c1]; simp [Lib.joinTail] <;> rfl, ((((q1.next q2).next q3).next q11).next q13)⟩
     · refine sr (eq' rfl rfl rfl (asg rfl rfl (nn ?_)))
       refine cd rfl (fun c2 => ?_) (fun c2 => ?_)
       · refine sr (mv rfl rfl (s_adds rfl rfl (by first | (simp only [List.length_append, List.length_cons, List.length_nil]; omega) | omega | (simp; done) | (simp; omega)) rfl (fad rfl fa31_4 rfl (s_loadB rfl hb1 rfl na3 rfl ?_))))
         refine cl (ev1 rfl) co29 (decimal_ok _ _ _ (by omega) (Nat.lt_succ_self _)) rfl ?_
         rintro _ w14 ⟨rfl, q14⟩
         have z14 := q14.size
         refine s_adds rfl rfl (by first | (simp only [List.length_append, List.length_cons, List.length_nil]; omega) | omega | (simp; done) | (simp; omega)) rfl (asg rfl rfl (kpL [(2, _)] (.cons rfl .nil) (nn (rt (rb (tr (r1 Tryd.results15 rfl ?_)))))))
         exact ⟨_, rfl, by rw [txt_join ho, tail3 c2]; simp [Lib.joinTail] <;> rfl, ((((q1.next q2).next q3).next q11).next q14)⟩
       · refine jn (ι := Bool) [(1, _), (3, _), (4, _), (5, _)] (fun b3 => [(58, .bool b3)]) (fun b3 w' => Fr [] w11 w' ∧ b3 = decide (o.k = 7 ∨ o.k = 8)) (.cons rfl (.cons rfl (.cons rfl (.cons rfl .nil)))) ?_ ?_
         · refine sr (eq' rfl rfl rfl (asg rfl rfl (nn ?_)))
           refine cd rfl (fun c3 => ?_) (fun c3 => ?_)
           · refine sk ?_
             exact jE (_) (.cons rfl (.cons rfl (.cons rfl (.cons rfl (.cons rfl .nil))))) ⟨(Fr.refl _ _), by first | exact bi (by omega) | exact bt (by omega) | exact bf (by omega)⟩
           · refine rg (eq' rfl rfl rfl (asg rfl rfl (nl ?_)))
             exact jE (_) (.cons rfl (.cons rfl (.cons rfl (.cons rfl (.cons rfl .nil))))) ⟨(Fr.refl _ _), by first | exact bi (by omega) | exact bt (by omega) | exact bf (by omega)⟩
         · rintro b3 w15 ⟨q15, rfl⟩
           have z15 := q15.size
           refine kpC [(1, _), (3, _), (4, _), (5, _), (58, _)] (.cons rfl (.cons rfl (.cons rfl (.cons rfl (.cons rfl .nil))))) ?_
           refine cd rfl (fun c4 => ?_) (fun c4 => ?_)
           · refine sr (mv rfl rfl (s_adds rfl rfl (by first | (simp only [List.length_append, List.length_cons, List.length_nil]; omega) | omega | (simp; done) | (simp; omega)) rfl (mv rfl rfl (s_adds rfl rfl (by first | (simp only [List.length_append, List.length_cons, List.length_nil]; omega) | omega | (simp; done) | (simp; omega)) rfl (asg rfl rfl (kpL [(2, _)] (.cons rfl .nil) (nn (rt (rb (tr (r1 Tryd.results15 rfl ?_)))))))))))
             exact ⟨_, rfl, by rw [txt_join ho, tail78 c4, txtN_bed (chk_nd2 ho (by omega))]; simp [Lib.joinTail] <;> rfl, ((((q1.next q2).next q3).next q11).next q15)⟩
           · refine sk (bn' (tn (sr (mv rfl rfl (s_adds rfl rfl (by first | (simp only [List.length_append, List.length_cons, List.length_nil]; omega) | omega | (simp; done) | (simp; omega)) rfl (mv rfl rfl (s_adds rfl rfl (by first | (simp only [List.length_append, List.length_cons, List.length_nil]; omega) | omega | (simp; done) | (simp; omega)) rfl (s_adds rfl rfl (by first | (simp only [List.length_append, List.length_cons, List.length_nil]; omega) | omega | (simp; done) | (simp; omega)) rfl (mv rfl rfl (s_adds rfl rfl (by first | (simp only [List.length_append, List.length_cons, List.length_nil]; omega) | omega | (simp; done) | (simp; omega)) rfl (s_adds rfl rfl (by first | (simp only [List.length_append, List.length_cons, List.length_nil]; omega) | omega | (simp; done) | (simp; omega)) rfl ?_)))))))))))
             refine fad rfl fa31_3 rfl ?_
             replace hb1 := hb1.ext q15
             refine s_loadB rfl hb1 rfl na5 rfl (s_conv rfl (us Tryd.underlying5) Tryd.underlying3 (wi6 (by omega)) rfl ?_)
             refine cl (ev1 rfl) co29 (decimal_ok _ _ _ (by omega) (Nat.lt_succ_self _)) rfl ?_
             rintro _ w16 ⟨rfl, q16⟩
             have z16 := q16.size
             refine s_adds rfl rfl (by first | (simp only [List.length_append, List.length_cons, List.length_nil]; omega) | omega | (simp; done) | (simp; omega)) rfl (asg rfl rfl (kpL [(2, _)] (.cons rfl .nil) (nn (rt (r1 Tryd.results15 rfl ?_)))))
             exact ⟨_, rfl, by rw [txt_join ho, tail46 (by omega), txtN_bed (chk_nd2 ho (by omega))]; simp [Lib.joinTail] <;> rfl, (((((q1.next q2).next q3).next q11).next q15).next q16)⟩
end Go.Proofs.YtbalocjcbmkecaaDoor
