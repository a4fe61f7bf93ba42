/- Walks. -/
import Derived.Test.YtbalocjcbmkecaaDoorRows
import Derived.Test.YtbalocjcbmkecaaDoorW24b
import Derived.Test.YtbalocjcbmkecaaDoorXOp
import Derived.Test.YtbalocjcbmkecaaDoorXMap
set_option linter.unusedVariables false
set_option linter.unusedSimpArgs false
namespace Go.Proofs.YtbalocjcbmkecaaDoor
open Go.Lw
theorem co20 : CallOf Tryd.prog 20 := CallOf.mk' Tryd.func20 (by kernel_rfl) (by kernel_rfl)
theorem co23 : CallOf Tryd.prog 23 := CallOf.mk' Tryd.func23 (by kernel_rfl) (by kernel_rfl)
def dropR (m i : Nat) : List MOp := dropL i ++ List.replicate (m - i) op0
theorem dropR_len {m i : Nat} (h : i ≤ m) : (dropR m i).length = m := by unfold dropR; rw [List.length_append, dropL_len, List.length_replicate]; omega
theorem dropR_set {m i : Nat} (h : i < m) : (dropR m i).set i (dropO (1 + ((i % 40 : Nat) : Int))) = dropR m (i + 1) := by
  unfold dropR
  rw [List.set_append_right _ _ (by rw [dropL_len]; exact Nat.le_refl _), dropL_len, Nat.sub_self, show m - i = (m - (i + 1)) + 1 by omega, List.replicate_succ, List.set_cons_zero]
  unfold dropL
  rw [List.range_succ, List.map_append, List.append_assoc]; rfl
theorem dropR_all (m : Nat) : dropR m m = dropL m := by unfold dropR; rw [Nat.sub_self]; simp
theorem nv_len {l : List MOp} (h : 4096 < l.length) : ¬ vldS l := fun hv => by have := hv.1; omega
theorem nv_chk {a : List MOp} {o : MOp} (h : chkO o ≠ 0) : ¬ vldS (a ++ [o]) := fun hv => h (hv.2 o (by simp))
theorem pass_n {l : List MOp} (h : ¬ vldS l) : passS l = [] := if_neg h
theorem count_n {l : List MOp} (h : ¬ vldS l) : countS l = 0 := if_neg h
theorem time_n {l : List MOp} (h : ¬ vldS l) : timeS l = 0 := if_neg h
set_option maxHeartbeats 4000000 in
theorem law_valid (v : Value) (xs : List MOp) (o : MOp) (mo : Int) (w0 : World) (hG : Glob w0) (hs : Sl encOX w0 v xs) (hb : ∀ x ∈ xs, x.Bytes) (hm : 0 ≤ mo ∧ mo ≤ 255) : Rets Tryd.prog 10 #[v, opV o, .int .u8 mo] w0 fun r w' => r = .bool true ∧ Fr [] w0 w' := by
 obtain ⟨A, c, rfl, hc, hM, hA⟩ := id hs
 clear hA
 have hsb : ∀ k ∈ blks (Value.slice A xs.length c), xs ≠ [] → k < w0.heap.size := fun k hk hne => hs.blk hne k hk
 obtain ⟨os, hos0⟩ : ∃ os, os = xs.map ofO := ⟨_, rfl⟩
 have hosl : os.length = xs.length := by rw [hos0, List.length_map]
 have hosc : ∀ o ∈ os, chkO o = 0 := by rw [hos0]; exact of_all hb
 have hoc := all_getD hosc
 obtain ⟨mn, hmn⟩ : ∃ mn : Nat, (mn : Int) = 4094 + mo % 4 := ⟨(4094 + mo % 4).toNat, by omega⟩
 have hGs := hG.sz
 refine we [(0, .slice A xs.length c), (1, opV o), (2, .int .u8 mo)] Tryd.func10 rfl Tryd.ntmps10 rfl (.cons rfl (.cons rfl (.cons rfl .nil))) ?_
 have hG0 := hG
 have hs0 := hs
 refine sr (bx rfl rfl rfl (fun g4 w1 hg4 hb4 q1 z1 => ?_))
 refine asg rfl rfl (nn (sq (sr (mv rfl rfl (lnS rfl Tryd.underlying43 rfl (gt' rfl rfl rfl (nn ?_)))))))
 refine cd rfl (fun c0 => ?_) (fun c0 => ?_)
 · refine sr ?_
   replace hG := hG0.ext q1
   refine cl evs_nil co23 (lives10_ok _ hG) rfl ?_
   rintro _ w2 ⟨rfl, q2⟩
   have z2 := q2.size
   refine asg rfl rfl (nn (rt (tr (r1 Tryd.results10 rfl ?_))))
   exact ⟨_, rfl, by first | rfl | simp, (q1.next q2)⟩
 · refine sk (tn ?_)
   refine jn (ι := Option Addr × Nat) [(2, _), (4, _)] (fun p => [(7, .slice p.1 (os ++ [o]).length p.2)]) (fun p w' => Fr [] w1 w' ∧ Lw.Own encOp 31 w0.heap.size w' (.slice p.1 (os ++ [o]).length p.2) (os ++ [o])) (.cons rfl (.cons rfl .nil)) ?_ ?_
   · replace hs := hs0.ext q1
     intro a h
     have qh3 := Fr.refl [] w1
     refine region_held (fun wb w' => Fr [] wb w') hmix ?_; intro w3 hq
     have z3 := hq.size
     replace hs := hs.ext hq
     replace hb4 := hb4.ext hq
     replace qh3 := qh3.next hq
     have hsz := hq.size; clear hq; have hC : Fr [] w3 w3 := Fr.refl _ _
     have hs_b := hs
     have hb4_b := hb4
     refine hd_move 0 (by kernel_rfl) (by kernel_rfl) (by kernel_rfl) hC h wn rfl rfl rfl ?_; clear h a; intro a h
     refine hd_loadBA 2 (by kernel_rfl) (by kernel_rfl) (by kernel_rfl) hC h wn rfl (fun _ hw => hb4_b.ext hw) ag31 rfl rfl ?_; clear h a; intro a h
     refine hd_two 1 3 (by kernel_rfl) rfl rfl ?_ ?_
     · refine id ?_
       refine st_call h (evs_cons rfl evs_nil) co20 (pof2 hos0 _ _ hs hb (by omega)) rfl ?_; clear h a; rintro _ w4 ⟨A16, c16, rfl, ho16, hq⟩ a h
       have z4 := hq.size
       replace hs := hs.ext hq
       replace hb4 := hb4.ext hq
       replace qh3 := qh3.next hq
       replace hC := hC.next hq
       clear hq
       refine hd_next hC ?_
       refine hd_one 3 (by kernel_rfl) rfl ?_
       refine st_bslice ([o]) h (evs_cons rfl evs_nil) rfl rfl rfl el45 (Nat.le_of_ble_eq_true rfl) rfl ?_; clear h a; intro g_18 w5 hg ho18 hq hz a h
       have hn__18 : g4 < g_18 := by have := hb4.lt; omega
       have z5 := hq.size
       replace hs := hs.ext hq
       replace hb4 := hb4.ext hq
       replace qh3 := qh3.next hq
       replace hC := hC.next hq
       replace ho16 := ho16.ext hq
       clear hq
       refine hd_next hC ?_
       refine hd_one 4 (by kernel_rfl) rfl ?_
       have hoo19 := ho16
       refine st_append h rfl rfl ho16 ho18.sl el45 (by unfold maxLen; simp; omega) (by simp; omega) (by omega) rfl ?_; clear h a; intro v19 w6 ho19 hq hor19 a h
       have z6 := hq.size
       replace hb4 := hb4.fr hq (fun hk => by have := (hoo19.blk _ hk).1; omega)
       replace qh3 := qh3.step hq (fun k hk hlt => absurd (hoo19.blk k hk).1 (by omega))
       replace hC := hC.step hq (fun k hk hlt => absurd (hoo19.blk k hk).1 (by omega))
       clear hq
       refine hd_next hC ?_
       refine hd_one 5 (by kernel_rfl) rfl ?_
       refine st_assign h rfl rfl ?_; clear h a; intro a h
       refine hd_next hC ?_
       refine hd_end (by kernel_rfl) ?_
       clear hC hs_b hb4_b
       have z6 := qh3.size
       refine bk (h.sub (L' := [(2, _), (4, _), (7, _)]) (.cons rfl (.cons rfl (.cons rfl .nil)))) ?_; clear h a
       obtain ⟨A19, c19, rfl, hc19⟩ := ho19.sl.form
       exact jE ((A19, c19)) (.cons rfl (.cons rfl (.cons rfl .nil))) ⟨qh3, ho19.low (by omega)⟩
     · refine id ?_
       refine st_bslice ([o]) h (evs_cons rfl evs_nil) rfl rfl rfl el45 (Nat.le_of_ble_eq_true rfl) rfl ?_; clear h a; intro g_18 w7 hg ho18 hq hz a h
       have hn__18 : g4 < g_18 := by have := hb4.lt; omega
       have z7 := hq.size
       replace hs := hs.ext hq
       replace hb4 := hb4.ext hq
       replace qh3 := qh3.next hq
       replace hC := hC.next hq
       clear hq
       refine hd_next hC ?_
       refine hd_one 1 (by kernel_rfl) rfl ?_
       refine st_call h (evs_cons rfl evs_nil) co20 (pof2 hos0 _ _ hs hb (by omega)) rfl ?_; clear h a; rintro _ w8 ⟨A16, c16, rfl, ho16, hq⟩ a h
       have z8 := hq.size
       replace hs := hs.ext hq
       replace hb4 := hb4.ext hq
       replace qh3 := qh3.next hq
       replace hC := hC.next hq
       replace ho18 := ho18.ext hq
       clear hq
       refine hd_next hC ?_
       refine hd_one 4 (by kernel_rfl) rfl ?_
       have hoo19 := ho16
       refine st_append h rfl rfl ho16 ho18.sl el45 (by unfold maxLen; simp; omega) (by simp; omega) (by omega) rfl ?_; clear h a; intro v19 w9 ho19 hq hor19 a h
       have z9 := hq.size
       replace hb4 := hb4.fr hq (fun hk => by have := (hoo19.blk _ hk).1; omega)
       replace qh3 := qh3.step hq (fun k hk hlt => absurd (hoo19.blk k hk).1 (by omega))
       replace hC := hC.step hq (fun k hk hlt => absurd (hoo19.blk k hk).1 (by omega))
       clear hq
       refine hd_next hC ?_
       refine hd_one 5 (by kernel_rfl) rfl ?_
       refine st_assign h rfl rfl ?_; clear h a; intro a h
       refine hd_next hC ?_
       refine hd_end (by kernel_rfl) ?_
       clear hC hs_b hb4_b
       have z9 := qh3.size
       refine bk (h.sub (L' := [(2, _), (4, _), (7, _)]) (.cons rfl (.cons rfl (.cons rfl .nil)))) ?_; clear h a
       obtain ⟨A19, c19, rfl, hc19⟩ := ho19.sl.form
       exact jE ((A19, c19)) (.cons rfl (.cons rfl (.cons rfl .nil))) ⟨qh3, ho19.low (by omega)⟩
   · rintro ⟨A7, c7⟩ w10 ⟨q10, ho7⟩
     have z10 := q10.size
     refine kpC [(2, _), (4, _), (7, _)] (.cons rfl (.cons rfl (.cons rfl .nil))) ?_
     refine sq (sr ?_)
     replace hb4 := hb4.ext q10
     refine s_loadBA rfl hb4 ag31 rfl ?_
     refine cl (ev1 rfl) co16 (check_ok o _) rfl ?_
     rintro _ w11 ⟨rfl, q11⟩
     have z11 := q11.size
     refine ne' rfl rfl rfl (nn ?_)
     refine cd rfl (fun c1 => ?_) (fun c1 => ?_)
     · have hpA := pass_n (nv_chk (a := os) c1)
       have hcA := count_n (nv_chk (a := os) c1)
       have htA := time_n (nv_chk (a := os) c1)
       refine sq ?_
       refine rboF (r := 6) (L' := []) (True) .nil ?_ ?_
       · refine mv rfl rfl ?_
         replace ho7 := ho7.ext q11
         refine cl (ev1 rfl) co26 (passes_at hpA _ _ ho7.sl) rfl ?_
         rintro _ w12 ⟨Ap, rfl, hop, q12⟩
         have z12 := q12.size
         refine lnS rfl Tryd.underlying56 rfl (eq' rfl rfl rfl (mv rfl rfl ?_))
         refine gs 27 rfl (fun g0 => ?_) (fun hh => absurd (by rfl) hh)
         refine gY rfl (mv rfl rfl (gY rfl ?_))
         replace ho7 := ho7.ext q12
         refine cl (ev1 rfl) co24 (count_ok _ (os ++ [o]) _ ho7.sl) rfl ?_
         rintro _ w13 ⟨rfl, q13⟩
         have z13 := q13.size
         refine gY rfl (eq' rfl rfl rfl (pkt rfl rfl rfl rfl (mv rfl rfl ?_)))
         refine gs 32 rfl (fun g1 => ?_) (fun hh => absurd (by exact hcA) hh)
         refine gY rfl (mv rfl rfl (gY rfl ?_))
         replace ho7 := ho7.ext q13
         refine cl (ev1 rfl) co25 (time_ok _ (os ++ [o]) _ ho7.sl) rfl ?_
         rintro _ w14 ⟨rfl, q14⟩
         have z14 := q14.size
         refine gY rfl (eq' rfl rfl rfl (pkt rfl rfl rfl rfl (mv rfl rfl ?_)))
         refine gs 37 rfl (fun g2 => ?_) (fun hh => absurd (by exact htA) hh)
         refine gY rfl ?_
         replace hG := hG0.ext (((((q1.next q10).next q11).next q12).next q13).next q14)
         refine cl evs_nil co23 (lives10_ok _ hG) rfl ?_
         rintro _ w15 ⟨rfl, q15⟩
         have z15 := q15.size
         exact pkt rfl rfl rfl rfl (asg rfl rfl (rbeF rfl (by rfl) .nil (((q12.next q13).next q14).next q15)))
       · intro w16 q16; have z16 := q16.size
         refine tn (rt (tr (r1 Tryd.results10 rfl ?_)))
         exact ⟨_, rfl, by first | rfl | simp, (((q1.next q10).next q11).next q16)⟩
     · have hvA : vldS (os ++ [o]) := ⟨by simp; omega, chk_app hosc (chk_one (Classical.not_not.1 c1))⟩
       have hne : passS (os ++ [o]) ≠ [] := by rw [passS, if_pos hvA]; exact divS_ne (by simp)
       refine sk (tn (sq (sr (mv rfl rfl ?_))))
       replace ho7 := ho7.ext q11
       refine cl (ev1 rfl) co26 (passes_ok _ (os ++ [o]) _ ho7.sl) rfl ?_
       rintro _ w17 ⟨Ap, rfl, hop, q17⟩
       have z17 := q17.size
       refine lnS rfl Tryd.underlying56 rfl (eq' rfl rfl rfl (nn ?_))
       refine cd rfl (fun c2 => ?_) (fun c2 => ?_)
       · exact absurd (List.eq_nil_of_length_eq_zero (by omega)) hne
       · refine sk (tn (sr (mv rfl rfl (s_rem rfl rfl (by omega) (by first | exact IntWalk.rem_in _ _ (by omega) | rfl) rfl (s_conv rfl (us Tryd.underlying5) Tryd.underlying3 (wi6 (by omega)) rfl ?_)))))
         refine s_add rfl rfl (show IntKind.i64.wrap (4094 + mo % 4) = (mn : Int) by rw [hmn]; exact wi6 (by omega)) rfl ?_
         refine asg rfl rfl (kpL [(8, _)] (.cons rfl .nil) (nn (sr (mv rfl rfl ?_))))
         refine s_makeSlice (m := mn) (c := mn) op0 rfl rfl el45 zv31 rfl (Nat.le_refl _) (by omega) (by unfold maxLen; omega) rfl (fun g49 w18 hg49 ho9 q18 z18 => ?_)
         replace ho9 : Lw.Own encOp 31 g49 w18 (.slice (some ⟨g49, 0, none⟩) mn mn) (dropR mn 0) := ho9
         refine asg rfl rfl (nn (sq (sr (asg rfl rfl (nn (bl ?_))))))
         refine lpK (ι := Nat) [(8, _), (9, _)] (fun i => [(10, .int .i64 (i : Int))]) (fun i w' => Fr [g49] w18 w' ∧ i ≤ mn ∧ Lw.Own encOp 31 g49 w' (.slice (some ⟨g49, 0, none⟩) mn mn) (dropR mn i)) (fun i => mn - i) 0 (.cons rfl (.cons rfl (.cons rfl .nil))) ⟨Fr.refl _ _, ⟨by omega, ho9⟩⟩ ?_
         rintro i w19 ⟨q19, ⟨hi, ho9⟩⟩
         have z19 := q19.size
         refine kpC [(8, _), (9, _), (10, _)] (.cons rfl (.cons rfl (.cons rfl .nil))) ?_
         refine sq (sr (mv rfl rfl (mv rfl rfl (lt' rfl rfl rfl (nn ?_)))))
         refine cd rfl (fun c3 => ?_) (fun c3 => ?_)
         · refine sk (tn (sq (bl (rg (mv rfl rfl (mv rfl rfl (mv rfl rfl (s_rem rfl rfl (by omega) (by first | exact IntWalk.rem_in _ _ (by omega) | rfl) rfl (s_add rfl rfl (wi6 (by omega)) rfl (s_lit (cs := [_, _]) (ev1 rfl) bo29 (pok_cons rfl rfl rfl pok_nil) rfl rfl (s_lit (cs := [_, _, _, _, _, _]) (ev2 rfl rfl) bo31 (pok_cons rfl rfl rfl (pok_cons rfl rfl rfl pok_nil)) rfl rfl ?_)))))))))))
           refine s_ixs (p := i) (dropO (1 + ((i % 40 : Nat) : Int))) rfl ho9 rfl rfl (by intro e; cases e) el45 sz31 rfl (by omega) (by rw [dropR_len (by omega)]; omega) (by omega) rfl rfl (fun w20 ho9 q20 z20 => ?_)
           rw [dropR_set (by omega)] at ho9
           replace q20 : Fr [g49] _ _ := q20
           refine kpL [(8, _), (9, _), (10, _)] (.cons rfl (.cons rfl (.cons rfl .nil))) (nl (bn' (tn (rg (mv rfl rfl (s_add rfl rfl (wi6 (by omega)) rfl (asg rfl rfl (nl ?_))))))))
           exact lpE (i + 1) (.cons rfl (.cons rfl (.cons rfl .nil))) ⟨(((Fr.refl [g49] _).step q19 (by first | (simp; done) | (simp; omega))).step q20 (by first | (simp; done) | (simp; omega))), ⟨by omega, ho9⟩⟩ (by omega)
         · obtain rfl : i = mn := by omega
           rw [dropR_all] at ho9
           refine ex (te (te (xh (tn (sq (sr (mv rfl rfl (gt' rfl rfl rfl (nn ?_)))))))))
           refine cd rfl (fun c4 => ?_) (fun c4 => ?_)
           · have hnv := nv_len (l := dropL i) (by rw [dropL_len]; omega)
             have hpB := pass_n hnv
             have hcB := count_n hnv
             have htB := time_n hnv
             refine sq ?_
             refine rboF (r := 6) (L' := []) (True) .nil ?_ ?_
             · refine mv rfl rfl ?_
               refine cl (ev1 rfl) co26 (passes_at hpB _ _ ho9.sl) rfl ?_
               rintro _ w21 ⟨Ap, rfl, hop, q21⟩
               have z21 := q21.size
               refine lnS rfl Tryd.underlying56 rfl (eq' rfl rfl rfl (mv rfl rfl ?_))
               refine gs 69 rfl (fun g3 => ?_) (fun hh => absurd (by rfl) hh)
               refine gY rfl (mv rfl rfl (gY rfl ?_))
               replace ho9 := ho9.ext q21
               refine cl (ev1 rfl) co24 (count_ok _ (dropL i) _ ho9.sl) rfl ?_
               rintro _ w22 ⟨rfl, q22⟩
               have z22 := q22.size
               refine gY rfl (eq' rfl rfl rfl (pkt rfl rfl rfl rfl (mv rfl rfl ?_)))
               refine gs 74 rfl (fun g4 => ?_) (fun hh => absurd (by exact hcB) hh)
               refine gY rfl (mv rfl rfl (gY rfl ?_))
               replace ho9 := ho9.ext q22
               refine cl (ev1 rfl) co25 (time_ok _ (dropL i) _ ho9.sl) rfl ?_
               rintro _ w23 ⟨rfl, q23⟩
               have z23 := q23.size
               refine gY rfl (eq' rfl rfl rfl (pkt rfl rfl rfl rfl (mv rfl rfl ?_)))
               refine gs 79 rfl (fun g5 => ?_) (fun hh => absurd (by exact htB) hh)
               refine gY rfl ?_
               replace hG := hG0.ext ((((((((q1.next q10).next q11).next q17).next q18).step q19 (by first | (simp; done) | (simp; omega))).next q21).next q22).next q23)
               refine cl evs_nil co23 (lives10_ok _ hG) rfl ?_
               rintro _ w24 ⟨rfl, q24⟩
               have z24 := q24.size
               exact pkt rfl rfl rfl rfl (asg rfl rfl (rbeF rfl (by rfl) .nil (((q21.next q22).next q23).next q24)))
             · intro w25 q25; have z25 := q25.size
               refine tn (rt (tr (r1 Tryd.results10 rfl ?_)))
               exact ⟨_, rfl, by first | rfl | simp, ((((((q1.next q10).next q11).next q17).next q18).step q19 (by first | (simp; done) | (simp; omega))).next q25)⟩
           · obtain ⟨d1, d2, d3⟩ := drop_all (n := i) (by omega)
             have hvC : vldS (dropL i) := ⟨by rw [dropL_len]; omega, dropL_chk i⟩
             have hpC : passS (dropL i) = [(0, i)] := by rw [passS, if_pos hvC, d1]
             have hcC : countS (dropL i) = 1 := by rw [countS, if_pos hvC, d2]; rfl
             have htC : timeS (dropL i) = 41 := by rw [timeS, if_pos hvC, d3]
             refine sk (tn (sq ?_))
             refine rboF (r := 6) (L' := []) (True) .nil ?_ ?_
             · refine mv rfl rfl ?_
               refine cl (ev1 rfl) co26 (passes_at hpC _ _ ho9.sl) rfl ?_
               rintro _ w26 ⟨Ap, rfl, hop, q26⟩
               have z26 := q26.size
               refine lnS rfl Tryd.underlying56 rfl (eq' rfl rfl rfl (mv rfl rfl ?_))
               refine gs 86 rfl (fun g6 => ?_) (fun hh => absurd (by rfl) hh)
               refine gY rfl (mv rfl rfl (gY rfl ?_))
               replace ho9 := ho9.ext q26
               refine cl (ev1 rfl) co24 (count_ok _ (dropL i) _ ho9.sl) rfl ?_
               rintro _ w27 ⟨rfl, q27⟩
               have z27 := q27.size
               refine gY rfl (eq' rfl rfl rfl (pkt rfl rfl rfl rfl (mv rfl rfl ?_)))
               refine gs 91 rfl (fun g7 => ?_) (fun hh => absurd (by exact hcC) hh)
               refine gY rfl (mv rfl rfl (gY rfl ?_))
               replace ho9 := ho9.ext q27
               refine cl (ev1 rfl) co25 (time_ok _ (dropL i) _ ho9.sl) rfl ?_
               rintro _ w28 ⟨rfl, q28⟩
               have z28 := q28.size
               refine gY rfl (eq' rfl rfl rfl (pkt rfl rfl rfl rfl (mv rfl rfl ?_)))
               refine gs 96 rfl (fun g8 => ?_) (fun hh => absurd (by exact htC) hh)
               refine gY rfl ?_
               replace hG := hG0.ext ((((((((q1.next q10).next q11).next q17).next q18).step q19 (by first | (simp; done) | (simp; omega))).next q26).next q27).next q28)
               refine cl evs_nil co23 (lives10_ok _ hG) rfl ?_
               rintro _ w29 ⟨rfl, q29⟩
               have z29 := q29.size
               exact pkt rfl rfl rfl rfl (asg rfl rfl (rbeF rfl (by rfl) .nil (((q26.next q27).next q28).next q29)))
             · intro w30 q30; have z30 := q30.size
               refine tn (rt (r1 Tryd.results10 rfl ?_))
               exact ⟨_, rfl, by first | rfl | simp, ((((((q1.next q10).next q11).next q17).next q18).step q19 (by first | (simp; done) | (simp; omega))).next q30)⟩
end Go.Proofs.YtbalocjcbmkecaaDoor
