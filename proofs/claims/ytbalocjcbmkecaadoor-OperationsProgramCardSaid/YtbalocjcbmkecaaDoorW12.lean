/- Walks. -/
import Derived.Test.YtbalocjcbmkecaaDoorRows
import Derived.Test.YtbalocjcbmkecaaDoorW11
import Derived.Test.YtbalocjcbmkecaaDoorXOp
import Derived.Test.YtbalocjcbmkecaaDoorXMap
set_option linter.unusedVariables false
set_option linter.unusedSimpArgs false
namespace Go.Proofs.YtbalocjcbmkecaaDoor
open Go.Lw

theorem txt_pos {o : MOp} (h : chkO o = 0) : 1 ≤ (txtO o).length := by
  rw [txt_join h]
  have hr := chk_rng h
  have : 1 ≤ (wordS o.k).length := by
    have : o.k = 1 ∨ o.k = 2 ∨ o.k = 3 ∨ o.k = 4 ∨ o.k = 5 ∨ o.k = 6 ∨ o.k = 7 ∨ o.k = 8 := by omega
    rcases this with e | e | e | e | e | e | e | e <;> rw [e] <;> decide
  simp; omega
theorem byte_cells {z : Int} (h : 0 ≤ z ∧ z ≤ 255) : [Value.int .u8 z].map Value.cells = [UInt8.ofNat z.toNat].map (fun y => (Enc.b.enc y).toArray) := by
  have e : ((UInt8.ofNat z.toNat).toNat : Int) = z := by rw [UInt8.toNat_ofNat']; omega
  show [#[Value.int .u8 z]] = [#[Value.int .u8 ((UInt8.ofNat z.toNat).toNat : Int)]]
  rw [e]
set_option maxHeartbeats 2000000 in
theorem law_near (x : MOp) (at_ tb : Int) (w0 : World) (hG : Glob w0) (hx : x.Bytes) (ha : 0 ≤ at_ ∧ at_ ≤ 255) (ht : 0 ≤ tb ∧ tb ≤ 255) : Rets Tryd.prog 4 #[oxV x, .int .u8 at_, .int .u8 tb] w0 fun r w' => r = .bool true ∧ Fr [] w0 w' := by
 have hca := of_chk hx
 have htl := txt_len (ofO x)
 have htp := txt_pos hca
 obtain ⟨i, hi⟩ : ∃ i : Nat, at_ % ((txtO (ofO x)).length : Int) = (i : Int) := ⟨(at_ % ((txtO (ofO x)).length : Int)).toNat, by have := Int.emod_nonneg at_ (show ((txtO (ofO x)).length : Int) ≠ 0 by omega); omega⟩
 have hil : i < (txtO (ofO x)).length := by have := Int.emod_lt_of_pos at_ (show (0 : Int) < ((txtO (ofO x)).length : Int) by omega); omega
 have htk : ((txtO (ofO x)).take i).length = i := by rw [List.length_take]; omega
 have hdk : ((txtO (ofO x)).drop (i + 1)).length = (txtO (ofO x)).length - (i + 1) := List.length_drop
 have hdi : ((txtO (ofO x)).drop i).length = (txtO (ofO x)).length - i := List.length_drop
 obtain ⟨lsN, hlsE⟩ : ∃ lsN, lsN = [((txtO (ofO x)).take i ++ [UInt8.ofNat tb.toNat] ++ (txtO (ofO x)).drop (i + 1)), ((txtO (ofO x)).take i ++ (txtO (ofO x)).drop (i + 1)), ((txtO (ofO x)).take i ++ [UInt8.ofNat tb.toNat] ++ (txtO (ofO x)).drop i), (txtO (ofO x)) ++ [32], [32] ++ (txtO (ofO x))] := ⟨_, rfl⟩
 have hn5 : lsN.length = 5 := by rw [hlsE]; rfl
 have hnl : ∀ k, k < 5 → (lsN.getD k []).length ≤ 1000000 := by
   intro k hk
   rw [hlsE]
   have : k = 0 ∨ k = 1 ∨ k = 2 ∨ k = 3 ∨ k = 4 := by omega
   rcases this with rfl | rfl | rfl | rfl | rfl <;> simp <;> omega
 have hGs := hG.sz
 refine we [(0, oxV x), (1, .int .u8 at_), (2, .int .u8 tb)] Tryd.func4 rfl Tryd.ntmps4 rfl (.cons rfl (.cons rfl (.cons rfl .nil))) ?_
 refine sr (bx rfl rfl rfl (fun g3 w1 hg3 hb3 q1 z1 => ?_))
 refine asg rfl rfl (nn (sr (s_loadBA rfl hb3 ag23 rfl ?_)))
 refine cl (ev1 rfl) co13 (of_ok x _ hx) rfl ?_
 rintro _ w2 ⟨rfl, q2⟩
 have z2 := q2.size
 refine cl (ev1 rfl) co15 (ltext_ok (ofO x) _ hca) rfl ?_
 rintro _ w3 ⟨rfl, q3⟩
 have z3 := q3.size
 refine asg rfl rfl (nn (sr (mv rfl rfl (s_conv rfl (us Tryd.underlying5) Tryd.underlying3 (wi6 (by omega)) rfl (mv rfl rfl (ln rfl Tryd.underlying9 rfl ?_))))))
 refine s_rem rfl rfl (by omega) (show Int.tmod at_ ((txtO (ofO x)).length : Int) = (i : Int) by rw [← hi]; exact IntWalk.rem_in _ _ (by omega)) rfl ?_
 refine asg rfl rfl (kpL [(2, _), (7, _), (8, _)] (.cons rfl (.cons rfl (.cons rfl .nil))) (nn ?_))
 refine jn (ι := Unit) [(2, _), (7, _), (8, _)] (fun _j => [(9, S ((txtO (ofO x)).take i ++ [UInt8.ofNat tb.toNat] ++ (txtO (ofO x)).drop (i + 1)))]) (fun _j w' => Fr [] w3 w') (.cons rfl (.cons rfl (.cons rfl .nil))) ?_ ?_
 · replace hG := hG.ext ((q1.next q2).next q3)
   replace hb3 := hb3.ext (q2.next q3)
   intro a h
   have qh3 := Fr.refl [] w3
   refine region_held (fun wb w' => Fr [] wb w') hmix ?_; intro w4 hq
   have z4 := hq.size
   replace hG := hG.ext hq
   replace hb3 := hb3.ext hq
   replace qh3 := qh3.next hq
   have hsz := hq.size; clear hq; have hC : Fr [] w4 w4 := Fr.refl _ _
   have hG_b := hG
   have hb3_b := hb3
   refine hd_move 0 (by kernel_rfl) (by kernel_rfl) (by kernel_rfl) hC h wn rfl rfl rfl ?_; clear h a; intro a h
   refine hd_move 1 (by kernel_rfl) (by kernel_rfl) (by kernel_rfl) hC h wn rfl rfl rfl ?_; clear h a; intro a h
   refine hd_ss_h (p := i) 2 (by kernel_rfl) (by kernel_rfl) (by kernel_rfl) hC h wn rfl rfl Tryd.underlying9 (by omega) (by omega) (by omega) rfl rfl ?_; clear h a; intro a h
   refine hd_move 3 (by kernel_rfl) (by kernel_rfl) (by kernel_rfl) hC h wn rfl rfl rfl ?_; clear h a; intro a h
   refine hd_move 7 (by kernel_rfl) (by kernel_rfl) (by kernel_rfl) hC h wn rfl rfl rfl ?_; clear h a; intro a h
   refine hd_move 8 (by kernel_rfl) (by kernel_rfl) (by kernel_rfl) hC h wn rfl rfl rfl ?_; clear h a; intro a h
   refine hd_add 9 (by kernel_rfl) (by kernel_rfl) (by kernel_rfl) hC h wn rfl rfl (by first | exact IntWalk.i64_in _ (by omega) | rfl) rfl rfl ?_; clear h a; intro a h
   refine hd_ss_l (p := i + 1) 10 (by kernel_rfl) (by kernel_rfl) (by kernel_rfl) hC h wn rfl rfl Tryd.underlying9 (by omega) (by omega) (by omega) rfl rfl ?_; clear h a; intro a h
   refine hd_one 4 (by kernel_rfl) rfl ?_
   refine st_bslice ([UInt8.ofNat tb.toNat]) h (evs_cons rfl evs_nil) rfl (byte_cells (by omega)) rfl el39 (Nat.le_of_ble_eq_true rfl) rfl ?_; clear h a; intro g_28 w5 hg ho28 hq hz a h
   have hn__28 : g3 < g_28 := by have := hb3.lt; omega
   have z5 := hq.size
   replace hG := hG.ext hq
   replace hb3 := hb3.ext hq
   replace qh3 := qh3.next hq
   replace hC := hC.next hq
   clear hq
   refine hd_next hC ?_
   refine hd_one 5 (by kernel_rfl) rfl ?_
   refine st_b2s h rfl ho28.sl el39 Tryd.underlying5 Tryd.underlying9 rfl ?_; clear h a; intro a h
   refine hd_next hC ?_
   refine hd_adds 6 (by kernel_rfl) (by kernel_rfl) (by kernel_rfl) hC h wn rfl rfl (by first | (simp only [List.length_append, List.length_cons, List.length_nil]; omega) | omega | (simp; done) | (simp; omega)) rfl rfl ?_; clear h a; intro a h
   refine hd_adds 11 (by kernel_rfl) (by kernel_rfl) (by kernel_rfl) hC h wn rfl rfl (by first | (simp only [List.length_append, List.length_cons, List.length_nil]; omega) | omega | (simp; done) | (simp; omega)) rfl rfl ?_; clear h a; intro a h
   refine hd_one 12 (by kernel_rfl) rfl ?_
   refine st_assign h rfl rfl ?_; clear h a; intro a h
   refine hd_next hC ?_
   refine hd_end (by kernel_rfl) ?_
   clear hC hG_b hb3_b
   have z5 := qh3.size
   refine bk (h.sub (L' := [(2, _), (7, _), (8, _), (9, _)]) (.cons rfl (.cons rfl (.cons rfl (.cons rfl .nil))))) ?_; clear h a
   exact jE (()) (.cons rfl (.cons rfl (.cons rfl (.cons rfl .nil)))) qh3
 · rintro _j w6 q6
   have z6 := q6.size
   refine kpC [(2, _), (7, _), (8, _), (9, _)] (.cons rfl (.cons rfl (.cons rfl (.cons rfl .nil)))) ?_
   refine sq ?_
   replace hG := hG.ext (((q1.next q2).next q3).next q6)
   replace hb3 := hb3.ext ((q2.next q3).next q6)
   intro a h
   refine region_quiet hmix (by kernel_rfl) ?_
   refine qt_move h rfl rfl ?_; clear h a; intro a h
   refine qt_move h rfl rfl ?_; clear h a; intro a h
   refine qt_ss_h (p := i) h rfl rfl Tryd.underlying9 (by omega) (by omega) (by omega) rfl ?_; clear h a; intro a h
   refine qt_move h rfl rfl ?_; clear h a; intro a h
   refine qt_move h rfl rfl ?_; clear h a; intro a h
   refine qt_add h rfl rfl (by first | exact IntWalk.i64_in _ (by omega) | rfl) rfl ?_; clear h a; intro a h
   refine qt_ss_l (p := i + 1) h rfl rfl Tryd.underlying9 (by omega) (by omega) (by omega) rfl ?_; clear h a; intro a h
   refine qt_adds h rfl rfl (by first | (simp only [List.length_append, List.length_cons, List.length_nil]; omega) | omega | (simp; done) | (simp; omega)) rfl ?_; clear h a; intro a h
   refine qt_assign h rfl rfl ?_; clear h a; intro a h
   refine wpQuiet_nil ?_
   intro w7 q7
   have z7 := q7.size
   refine bk (h.sub (L' := [(2, _), (7, _), (8, _), (9, _), (10, _)]) (.cons rfl (.cons rfl (.cons rfl (.cons rfl (.cons rfl .nil)))))) ?_; clear h a
   refine tn ?_
   refine jn (ι := Unit) [(7, _), (9, _), (10, _)] (fun _j => [(11, S ((txtO (ofO x)).take i ++ [UInt8.ofNat tb.toNat] ++ (txtO (ofO x)).drop i))]) (fun _j w' => Fr [] w7 w') (.cons rfl (.cons rfl (.cons rfl .nil))) ?_ ?_
   · replace hG := hG.ext q7
     replace hb3 := hb3.ext q7
     intro a h
     have qh5 := Fr.refl [] w7
     refine region_held (fun wb w' => Fr [] wb w') hmix ?_; intro w8 hq
     have z8 := hq.size
     replace hG := hG.ext hq
     replace hb3 := hb3.ext hq
     replace qh5 := qh5.next hq
     have hsz := hq.size; clear hq; have hC : Fr [] w8 w8 := Fr.refl _ _
     have hG_b := hG
     have hb3_b := hb3
     refine hd_move 0 (by kernel_rfl) (by kernel_rfl) (by kernel_rfl) hC h wn rfl rfl rfl ?_; clear h a; intro a h
     refine hd_move 1 (by kernel_rfl) (by kernel_rfl) (by kernel_rfl) hC h wn rfl rfl rfl ?_; clear h a; intro a h
     refine hd_ss_h (p := i) 2 (by kernel_rfl) (by kernel_rfl) (by kernel_rfl) hC h wn rfl rfl Tryd.underlying9 (by omega) (by omega) (by omega) rfl rfl ?_; clear h a; intro a h
     refine hd_move 3 (by kernel_rfl) (by kernel_rfl) (by kernel_rfl) hC h wn rfl rfl rfl ?_; clear h a; intro a h
     refine hd_move 7 (by kernel_rfl) (by kernel_rfl) (by kernel_rfl) hC h wn rfl rfl rfl ?_; clear h a; intro a h
     refine hd_move 8 (by kernel_rfl) (by kernel_rfl) (by kernel_rfl) hC h wn rfl rfl rfl ?_; clear h a; intro a h
     refine hd_ss_l (p := i) 9 (by kernel_rfl) (by kernel_rfl) (by kernel_rfl) hC h wn rfl rfl Tryd.underlying9 (by omega) (by omega) (by omega) rfl rfl ?_; clear h a; intro a h
     refine hd_one 4 (by kernel_rfl) rfl ?_
     refine st_bslice ([UInt8.ofNat tb.toNat]) h (evs_cons rfl evs_nil) rfl (byte_cells (by omega)) rfl el39 (Nat.le_of_ble_eq_true rfl) rfl ?_; clear h a; intro g_48 w9 hg ho48 hq hz a h
     have hn__48 : g3 < g_48 := by have := hb3.lt; omega
     have z9 := hq.size
     replace hG := hG.ext hq
     replace hb3 := hb3.ext hq
     replace qh5 := qh5.next hq
     replace hC := hC.next hq
     clear hq
     refine hd_next hC ?_
     refine hd_one 5 (by kernel_rfl) rfl ?_
     refine st_b2s h rfl ho48.sl el39 Tryd.underlying5 Tryd.underlying9 rfl ?_; clear h a; intro a h
     refine hd_next hC ?_
     refine hd_adds 6 (by kernel_rfl) (by kernel_rfl) (by kernel_rfl) hC h wn rfl rfl (by first | (simp only [List.length_append, List.length_cons, List.length_nil]; omega) | omega | (simp; done) | (simp; omega)) rfl rfl ?_; clear h a; intro a h
     refine hd_adds 10 (by kernel_rfl) (by kernel_rfl) (by kernel_rfl) hC h wn rfl rfl (by first | (simp only [List.length_append, List.length_cons, List.length_nil]; omega) | omega | (simp; done) | (simp; omega)) rfl rfl ?_; clear h a; intro a h
     refine hd_one 11 (by kernel_rfl) rfl ?_
     refine st_assign h rfl rfl ?_; clear h a; intro a h
     refine hd_next hC ?_
     refine hd_end (by kernel_rfl) ?_
     clear hC hG_b hb3_b
     have z9 := qh5.size
     refine bk (h.sub (L' := [(7, _), (9, _), (10, _), (11, _)]) (.cons rfl (.cons rfl (.cons rfl (.cons rfl .nil))))) ?_; clear h a
     exact jE (()) (.cons rfl (.cons rfl (.cons rfl (.cons rfl .nil)))) qh5
   · rintro _j w10 q10
     have z10 := q10.size
     refine kpC [(7, _), (9, _), (10, _), (11, _)] (.cons rfl (.cons rfl (.cons rfl (.cons rfl .nil)))) ?_
     refine sr (mv rfl rfl (mv rfl rfl (mv rfl rfl (mv rfl rfl (s_adds rfl rfl (by first | (simp only [List.length_append, List.length_cons, List.length_nil]; omega) | omega | (simp; done) | (simp; omega)) rfl (mv rfl rfl (s_adds rfl rfl (by first | (simp only [List.length_append, List.length_cons, List.length_nil]; omega) | omega | (simp; done) | (simp; omega)) rfl (s_bslice ([((txtO (ofO x)).take i ++ [UInt8.ofNat tb.toNat] ++ (txtO (ofO x)).drop (i + 1)), ((txtO (ofO x)).take i ++ (txtO (ofO x)).drop (i + 1)), ((txtO (ofO x)).take i ++ [UInt8.ofNat tb.toNat] ++ (txtO (ofO x)).drop i), (txtO (ofO x)) ++ [32], [32] ++ (txtO (ofO x))]) (evs_cons rfl (evs_cons rfl (evs_cons rfl (evs_cons rfl (evs_cons rfl evs_nil))))) rfl rfl rfl el40 (Nat.le_of_ble_eq_true rfl) rfl (fun g62 w11 hg62 ho62 q11 z11 => ?_)))))))))
     refine asg rfl rfl ?_
     rw [← hlsE] at ho62
     refine kpL [(12, _)] (.cons rfl .nil) (nn (sq (sr (asg rfl rfl (nn (bl ?_))))))
     refine lpK (ι := Nat) [(12, _)] (fun k => [(13, .int .i64 (k : Int))]) (fun k w' => Fr [] w11 w' ∧ k ≤ 5) (fun k => 5 - k) 0 (.cons rfl (.cons rfl .nil)) ⟨Fr.refl _ _, by omega⟩ ?_
     rintro k w12 ⟨q12, hk⟩
     have z12 := q12.size
     refine kpC [(12, _), (13, _)] (.cons rfl (.cons rfl .nil)) ?_
     refine sq (sr (mv rfl rfl (mv rfl rfl (lnS rfl Tryd.underlying40 rfl (lt' rfl rfl rfl (nn ?_))))))
     refine cd rfl (fun c0 => ?_) (fun c0 => ?_)
     · refine sk (tn (sq (bl (sr (mv rfl rfl (mv rfl rfl ?_))))))
       replace ho62 := ho62.ext q12
       refine s_idxL (p := k) ([]) rfl ho62.sl rfl el40 (by omega) (by omega) (by omega) rfl (fun ad72 hc72 => ?_)
       refine s_loadC0 rfl (hc72 _ ho62.sl) na9 rfl ?_
       replace hG := hG.ext (((q7.next q10).next q11).next q12)
       refine cl (ev1 rfl) co14 (parse_ok _ _ hG (hnl k (by omega))) rfl ?_
       rintro _ w13 ⟨o, e, hpe, rfl, q13⟩
       have z13 := q13.size
       have hpb := parse_back hpe
       refine mv rfl rfl (xt rfl rfl rfl (xt rfl rfl rfl (al zv31 rfl rfl (fun g14 w14 hg14 hb14 q14 z14 => ?_))))
       refine s_storeBA rfl rfl hb14 rfl (by first | (simp [Value.oneCell', S]; done) | exact Enc.one _ _) sz31 (fun w15 hb14 q15 z15 => ?_)
       refine asg rfl rfl (kpL [(12, _), (13, _), (14, _), (15, _)] (.cons rfl (.cons rfl (.cons rfl (.cons rfl .nil)))) (nn ?_))
       refine jn (ι := Bool) [(12, _), (13, _)] (fun b11 => [(105, .bool b11)]) (fun b11 w' => Fr [] w15 w' ∧ b11 = false) (.cons rfl (.cons rfl .nil)) ?_ ?_
       · replace hG := (hG.ext (q13.next q14)).fr q15 (by first | (simp; done) | (simp; omega) | (simp [blks]; done) | (simp [blks]; omega) | (intro k hk hb; simp at hk; subst hk; have := (hG.blk _ hb).2; omega))
         replace hb3 := (hb3.ext (((((q7.next q10).next q11).next q12).next q13).next q14)).fr q15 (by first | (simp; done) | (simp; omega) | (simp [blks]; done) | (simp [blks]; omega))
         replace ho62 := (ho62.ext (q13.next q14)).fr q15 (by first | (simp; done) | (simp; omega) | (simp [blks]; done) | (simp [blks]; omega) | (intro k hk hb; simp at hk; subst hk; have := (ho62.blk _ hb).2; omega))
         intro a h
         have qh11 := Fr.refl [] w15
         refine region_held (fun wb w' => Fr [] wb w') hmix ?_; intro w16 hq
         have z16 := hq.size
         replace hG := hG.ext hq
         replace hb3 := hb3.ext hq
         replace ho62 := ho62.ext hq
         replace hb14 := hb14.ext hq
         replace qh11 := qh11.next hq
         have hsz := hq.size; clear hq; have hC : Fr [] w16 w16 := Fr.refl _ _
         have hG_b := hG
         have hb3_b := hb3
         have ho62_b := ho62
         have hb14_b := hb14
         refine hd_move 0 (by kernel_rfl) (by kernel_rfl) (by kernel_rfl) hC h wn rfl rfl rfl ?_; clear h a; intro a h
         refine hd_eq 1 (by kernel_rfl) (by kernel_rfl) (by kernel_rfl) hC h wn rfl rfl rfl rfl ?_; clear h a; intro a h
         refine hd_move 2 (by kernel_rfl) (by kernel_rfl) (by kernel_rfl) hC h wn rfl rfl rfl ?_; clear h a; intro a h
         first | refine guard_dec (D := 79) h rfl ?_ ?_ | refine guard_ndec (D := 79) h rfl ?_ ?_ | refine guard_any (D := 79) h rfl ?_ ?_
         · clear h; intro g0 h
           refine hd_loadBA 3 (by kernel_rfl) (by kernel_rfl) (by kernel_rfl) hC h (wy rfl) rfl (fun _ hw => hb14_b.ext hw) ag31 rfl rfl ?_; clear h a; intro a h
           refine hd_one 4 (by kernel_rfl) rfl ?_
           refine gd_yes h rfl rfl rfl rfl rfl rfl ?_
           refine st_call h (evs_cons rfl evs_nil) co18 (wrong_ok o _ (ok_of_chk (hpb.resolve_right (fun h => by have := h.1; omega)).2.1)) rfl ?_; clear h a; rintro _ w17 ⟨rfl, hq⟩ a h
           have z17 := hq.size
           replace hG := hG.ext hq
           replace hb3 := hb3.ext hq
           replace ho62 := ho62.ext hq
           replace hb14 := hb14.ext hq
           replace qh11 := qh11.next hq
           replace hC := hC.next hq
           clear hq
           refine hd_next hC ?_
           refine hd_ne 5 (by kernel_rfl) (by kernel_rfl) (by kernel_rfl) hC h (wy rfl) rfl rfl rfl rfl ?_; clear h a; intro a h
           refine hd_move 6 (by kernel_rfl) (by kernel_rfl) (by kernel_rfl) hC h (wy rfl) rfl rfl rfl ?_; clear h a; intro a h
           first | refine guard_dec (D := 83) h rfl ?_ ?_ | refine guard_ndec (D := 83) h rfl ?_ ?_ | refine guard_any (D := 83) h rfl ?_ ?_
           · clear h; intro g1 h
             refine hd_gn 7 (by kernel_rfl) (by kernel_rfl) (by kernel_rfl) hC h rfl rfl rfl rfl ?_; clear h a; intro a h
             refine hd_gn 8 (by kernel_rfl) (by kernel_rfl) (by kernel_rfl) hC h rfl rfl rfl rfl ?_; clear h a; intro a h
             refine hd_gn 9 (by kernel_rfl) (by kernel_rfl) (by kernel_rfl) hC h rfl rfl rfl rfl ?_; clear h a; intro a h
             refine hd_gn 10 (by kernel_rfl) (by kernel_rfl) (by kernel_rfl) hC h rfl rfl rfl rfl ?_; clear h a; intro a h
             refine hd_gn 11 (by kernel_rfl) (by kernel_rfl) (by kernel_rfl) hC h rfl rfl rfl rfl ?_; clear h a; intro a h
             refine hd_gn 12 (by kernel_rfl) (by kernel_rfl) (by kernel_rfl) hC h rfl rfl rfl rfl ?_; clear h a; intro a h
             refine hd_gn 13 (by kernel_rfl) (by kernel_rfl) (by kernel_rfl) hC h rfl rfl rfl rfl ?_; clear h a; intro a h
             refine hd_one 14 (by kernel_rfl) rfl ?_
             refine gd_yes h rfl rfl rfl rfl rfl rfl ?_
             refine st_pick_t h rfl rfl rfl rfl ?_; clear h a; intro a h
             refine hd_next hC ?_
             refine hd_one 15 (by kernel_rfl) rfl ?_
             refine st_pick_t h rfl rfl rfl rfl ?_; clear h a; intro a h
             refine hd_next hC ?_
             refine hd_move 16 (by kernel_rfl) (by kernel_rfl) (by kernel_rfl) hC h wn rfl rfl rfl ?_; clear h a; intro a h
             refine hd_gn 17 (by kernel_rfl) (by kernel_rfl) (by kernel_rfl) hC h rfl rfl rfl rfl ?_; clear h a; intro a h
             refine hd_gn 18 (by kernel_rfl) (by kernel_rfl) (by kernel_rfl) hC h rfl rfl rfl rfl ?_; clear h a; intro a h
             refine hd_gn 19 (by kernel_rfl) (by kernel_rfl) (by kernel_rfl) hC h rfl rfl rfl rfl ?_; clear h a; intro a h
             refine hd_gs 20 (by kernel_rfl) (by kernel_rfl) (by kernel_rfl) hC h rfl rfl rfl rfl ?_; clear h a; intro a h
             refine hd_gs 21 (by kernel_rfl) (by kernel_rfl) (by kernel_rfl) hC h rfl rfl rfl rfl ?_; clear h a; intro a h
             refine hd_gs 22 (by kernel_rfl) (by kernel_rfl) (by kernel_rfl) hC h rfl rfl rfl rfl ?_; clear h a; intro a h
             refine hd_gs 23 (by kernel_rfl) (by kernel_rfl) (by kernel_rfl) hC h rfl rfl rfl rfl ?_; clear h a; intro a h
             refine hd_gs 24 (by kernel_rfl) (by kernel_rfl) (by kernel_rfl) hC h rfl rfl rfl rfl ?_; clear h a; intro a h
             refine hd_gs 25 (by kernel_rfl) (by kernel_rfl) (by kernel_rfl) hC h rfl rfl rfl rfl ?_; clear h a; intro a h
             refine hd_gs 26 (by kernel_rfl) (by kernel_rfl) (by kernel_rfl) hC h rfl rfl rfl rfl ?_; clear h a; intro a h
             refine hd_gn 27 (by kernel_rfl) (by kernel_rfl) (by kernel_rfl) hC h rfl rfl rfl rfl ?_; clear h a; intro a h
             refine hd_one 28 (by kernel_rfl) rfl ?_
             refine st_pick_t h rfl rfl rfl rfl ?_; clear h a; intro a h
             refine hd_next hC ?_
             refine hd_end (by kernel_rfl) ?_
             clear hC hG_b hb3_b ho62_b hb14_b
             have z17 := qh11.size
             refine bk (h.sub (L' := [(12, _), (13, _), (105, _)]) (.cons rfl (.cons rfl (.cons rfl .nil)))) ?_; clear h a
             exact jE (_) (.cons rfl (.cons rfl (.cons rfl .nil))) ⟨qh11, by first | rfl | (simp_all [op0]; done)⟩
           · clear h; intro g1 h
             refine hd_loadBA 7 (by kernel_rfl) (by kernel_rfl) (by kernel_rfl) hC h (wy rfl) rfl (fun _ hw => hb14_b.ext hw) ag31 rfl rfl ?_; clear h a; intro a h
             refine hd_move 9 (by kernel_rfl) (by kernel_rfl) (by kernel_rfl) hC h (wy rfl) rfl rfl rfl ?_; clear h a; intro a h
             refine hd_move 10 (by kernel_rfl) (by kernel_rfl) (by kernel_rfl) hC h (wy rfl) rfl rfl rfl ?_; clear h a; intro a h
             refine hd_idxL (p := k) ([]) 11 (by kernel_rfl) (by kernel_rfl) (by kernel_rfl) hC h (wy rfl) rfl ho62.sl rfl el40 (by omega) (by omega) (by omega) rfl rfl ?_; clear h a; intro ad88 hc88 a h
             refine hd_loadC0 12 (by kernel_rfl) (by kernel_rfl) (by kernel_rfl) hC h (wy rfl) rfl (fun _ hw => hc88 _ (ho62_b.sl.ext hw)) na9 rfl rfl ?_; clear h a; intro a h
             refine hd_one 8 (by kernel_rfl) rfl ?_
             refine gd_yes h rfl rfl rfl rfl rfl rfl ?_
             refine st_call h (evs_cons rfl evs_nil) co15 (ltext_ok o _ (hpb.resolve_right (fun h => by have := h.1; omega)).2.1) rfl ?_; clear h a; rintro _ w18 ⟨rfl, hq⟩ a h
             have z18 := hq.size
             replace hG := hG.ext hq
             replace hb3 := hb3.ext hq
             replace ho62 := ho62.ext hq
             replace hb14 := hb14.ext hq
             replace qh11 := qh11.next hq
             replace hC := hC.next hq
             clear hq
             refine hd_next hC ?_
             refine hd_nes 13 (by kernel_rfl) (by kernel_rfl) (by kernel_rfl) hC h (wy rfl) rfl rfl rfl rfl ?_; clear h a; intro a h
             refine hd_one 14 (by kernel_rfl) rfl ?_
             refine gd_yes h rfl rfl rfl rfl rfl rfl ?_
             refine st_pick_f h rfl rfl rfl rfl ?_; clear h a; intro a h
             refine hd_next hC ?_
             refine hd_one 15 (by kernel_rfl) rfl ?_
             refine st_pick_t h rfl rfl rfl rfl ?_; clear h a; intro a h
             refine hd_next hC ?_
             refine hd_move 16 (by kernel_rfl) (by kernel_rfl) (by kernel_rfl) hC h wn rfl rfl rfl ?_; clear h a; intro a h
             first | refine guard_dec (D := 93) h rfl ?_ ?_ | refine guard_ndec (D := 93) h rfl ?_ ?_ | refine guard_any (D := 93) h rfl ?_ ?_
             · clear h; intro g2 h
               refine hd_gn 17 (by kernel_rfl) (by kernel_rfl) (by kernel_rfl) hC h rfl rfl rfl rfl ?_; clear h a; intro a h
               refine hd_gn 18 (by kernel_rfl) (by kernel_rfl) (by kernel_rfl) hC h rfl rfl rfl rfl ?_; clear h a; intro a h
               refine hd_gn 19 (by kernel_rfl) (by kernel_rfl) (by kernel_rfl) hC h rfl rfl rfl rfl ?_; clear h a; intro a h
               refine hd_gs 20 (by kernel_rfl) (by kernel_rfl) (by kernel_rfl) hC h rfl rfl rfl rfl ?_; clear h a; intro a h
               refine hd_gs 21 (by kernel_rfl) (by kernel_rfl) (by kernel_rfl) hC h rfl rfl rfl rfl ?_; clear h a; intro a h
               refine hd_gs 22 (by kernel_rfl) (by kernel_rfl) (by kernel_rfl) hC h rfl rfl rfl rfl ?_; clear h a; intro a h
               refine hd_gs 23 (by kernel_rfl) (by kernel_rfl) (by kernel_rfl) hC h rfl rfl rfl rfl ?_; clear h a; intro a h
               refine hd_gs 24 (by kernel_rfl) (by kernel_rfl) (by kernel_rfl) hC h rfl rfl rfl rfl ?_; clear h a; intro a h
               refine hd_gs 25 (by kernel_rfl) (by kernel_rfl) (by kernel_rfl) hC h rfl rfl rfl rfl ?_; clear h a; intro a h
               refine hd_gs 26 (by kernel_rfl) (by kernel_rfl) (by kernel_rfl) hC h rfl rfl rfl rfl ?_; clear h a; intro a h
               refine hd_gn 27 (by kernel_rfl) (by kernel_rfl) (by kernel_rfl) hC h rfl rfl rfl rfl ?_; clear h a; intro a h
               refine hd_one 28 (by kernel_rfl) rfl ?_
               refine st_pick_t h rfl rfl rfl rfl ?_; clear h a; intro a h
               refine hd_next hC ?_
               refine hd_end (by kernel_rfl) ?_
               clear hC hG_b hb3_b ho62_b hb14_b
               have z18 := qh11.size
               refine bk (h.sub (L' := [(12, _), (13, _), (105, _)]) (.cons rfl (.cons rfl (.cons rfl .nil)))) ?_; clear h a
               exact jE (_) (.cons rfl (.cons rfl (.cons rfl .nil))) ⟨qh11, by first | rfl | (simp_all [op0]; done)⟩
             · clear h; intro g2 h
               refine hd_move 17 (by kernel_rfl) (by kernel_rfl) (by kernel_rfl) hC h (wy rfl) rfl rfl rfl ?_; clear h a; intro a h
               refine hd_ne 18 (by kernel_rfl) (by kernel_rfl) (by kernel_rfl) hC h (wy rfl) rfl rfl rfl rfl ?_; clear h a; intro a h
               refine hd_move 19 (by kernel_rfl) (by kernel_rfl) (by kernel_rfl) hC h (wy rfl) rfl rfl rfl ?_; clear h a; intro a h
               first | refine guard_dec (D := 96) h rfl ?_ ?_ | refine guard_ndec (D := 96) h rfl ?_ ?_ | refine guard_any (D := 96) h rfl ?_ ?_
               · clear h; intro g3 h
                 refine hd_move 20 (by kernel_rfl) (by kernel_rfl) (by kernel_rfl) hC h (wy rfl) rfl rfl rfl ?_; clear h a; intro a h
                 refine hd_ne 21 (by kernel_rfl) (by kernel_rfl) (by kernel_rfl) hC h (wy rfl) rfl rfl rfl rfl ?_; clear h a; intro a h
                 refine hd_move 22 (by kernel_rfl) (by kernel_rfl) (by kernel_rfl) hC h (wy rfl) rfl rfl rfl ?_; clear h a; intro a h
                 first | refine guard_dec (D := 99) h rfl ?_ ?_ | refine guard_ndec (D := 99) h rfl ?_ ?_ | refine guard_any (D := 99) h rfl ?_ ?_
                 · clear h; intro g4 h
                   refine hd_gn 23 (by kernel_rfl) (by kernel_rfl) (by kernel_rfl) hC h rfl rfl rfl rfl ?_; clear h a; intro a h
                   refine hd_gn 24 (by kernel_rfl) (by kernel_rfl) (by kernel_rfl) hC h rfl rfl rfl rfl ?_; clear h a; intro a h
                   refine hd_gn 25 (by kernel_rfl) (by kernel_rfl) (by kernel_rfl) hC h rfl rfl rfl rfl ?_; clear h a; intro a h
                   refine hd_one 26 (by kernel_rfl) rfl ?_
                   refine gd_yes h rfl rfl rfl rfl rfl rfl ?_
                   refine st_pick_t h rfl rfl rfl rfl ?_; clear h a; intro a h
                   refine hd_next hC ?_
                   refine hd_one 27 (by kernel_rfl) rfl ?_
                   refine gd_yes h rfl rfl rfl rfl rfl rfl ?_
                   refine st_pick_t h rfl rfl rfl rfl ?_; clear h a; intro a h
                   refine hd_next hC ?_
                   refine hd_one 28 (by kernel_rfl) rfl ?_
                   refine st_pick_f h rfl rfl rfl rfl ?_; clear h a; intro a h
                   refine hd_next hC ?_
                   refine hd_end (by kernel_rfl) ?_
                   clear hC hG_b hb3_b ho62_b hb14_b
                   have z18 := qh11.size
                   refine bk (h.sub (L' := [(12, _), (13, _), (105, _)]) (.cons rfl (.cons rfl (.cons rfl .nil)))) ?_; clear h a
                   exact jE (_) (.cons rfl (.cons rfl (.cons rfl .nil))) ⟨qh11, by first | rfl | (simp_all [op0]; done)⟩
                 · clear h; intro g4 h
                   refine hd_loadBA 23 (by kernel_rfl) (by kernel_rfl) (by kernel_rfl) hC h (wy rfl) rfl (fun _ hw => hb14_b.ext hw) ag31 rfl rfl ?_; clear h a; intro a h
                   refine hd_lit (cs := [_, _, _, _, _, _]) 24 (by kernel_rfl) (by kernel_rfl) (by kernel_rfl) hC h (wy rfl) evs_nil bo31 pok_nil rfl rfl rfl ?_; clear h a; intro a h
                   refine hd_neV (V := opF) (e := ⟨_, _, _, _, _, _⟩) (f := ⟨_, _, _, _, _, _⟩) 25 (by kernel_rfl) (by kernel_rfl) (by kernel_rfl) hC h (wy rfl) rfl rfl eqOp rfl rfl ?_; clear h a; intro a h
                   refine hd_one 26 (by kernel_rfl) rfl ?_
                   refine gd_yes h rfl rfl rfl rfl rfl rfl ?_
                   refine st_pick_f h rfl rfl rfl rfl ?_; clear h a; intro a h
                   refine hd_next hC ?_
                   refine hd_one 27 (by kernel_rfl) rfl ?_
                   refine gd_yes h rfl rfl rfl rfl rfl rfl ?_
                   refine st_pick_t h rfl rfl rfl rfl ?_; clear h a; intro a h
                   refine hd_next hC ?_
                   refine hd_one 28 (by kernel_rfl) rfl ?_
                   refine st_pick_f h rfl rfl rfl rfl ?_; clear h a; intro a h
                   refine hd_next hC ?_
                   refine hd_end (by kernel_rfl) ?_
                   clear hC hG_b hb3_b ho62_b hb14_b
                   have z18 := qh11.size
                   refine bk (h.sub (L' := [(12, _), (13, _), (105, _)]) (.cons rfl (.cons rfl (.cons rfl .nil)))) ?_; clear h a
                   exact jE (_) (.cons rfl (.cons rfl (.cons rfl .nil))) ⟨qh11, by first | rfl | (simp_all [op0]; done)⟩
               · clear h; intro g3 h
                 refine hd_gn 20 (by kernel_rfl) (by kernel_rfl) (by kernel_rfl) hC h rfl rfl rfl rfl ?_; clear h a; intro a h
                 refine hd_gn 21 (by kernel_rfl) (by kernel_rfl) (by kernel_rfl) hC h rfl rfl rfl rfl ?_; clear h a; intro a h
                 refine hd_gn 22 (by kernel_rfl) (by kernel_rfl) (by kernel_rfl) hC h rfl rfl rfl rfl ?_; clear h a; intro a h
                 refine hd_gs 23 (by kernel_rfl) (by kernel_rfl) (by kernel_rfl) hC h rfl rfl rfl rfl ?_; clear h a; intro a h
                 refine hd_gs 24 (by kernel_rfl) (by kernel_rfl) (by kernel_rfl) hC h rfl rfl rfl rfl ?_; clear h a; intro a h
                 refine hd_gs 25 (by kernel_rfl) (by kernel_rfl) (by kernel_rfl) hC h rfl rfl rfl rfl ?_; clear h a; intro a h
                 refine hd_gn 26 (by kernel_rfl) (by kernel_rfl) (by kernel_rfl) hC h rfl rfl rfl rfl ?_; clear h a; intro a h
                 refine hd_one 27 (by kernel_rfl) rfl ?_
                 refine gd_yes h rfl rfl rfl rfl rfl rfl ?_
                 refine st_pick_f h rfl rfl rfl rfl ?_; clear h a; intro a h
                 refine hd_next hC ?_
                 refine hd_one 28 (by kernel_rfl) rfl ?_
                 refine st_pick_f h rfl rfl rfl rfl ?_; clear h a; intro a h
                 refine hd_next hC ?_
                 refine hd_end (by kernel_rfl) ?_
                 clear hC hG_b hb3_b ho62_b hb14_b
                 have z18 := qh11.size
                 refine bk (h.sub (L' := [(12, _), (13, _), (105, _)]) (.cons rfl (.cons rfl (.cons rfl .nil)))) ?_; clear h a
                 exact jE (_) (.cons rfl (.cons rfl (.cons rfl .nil))) ⟨qh11, by first | rfl | (simp_all [op0]; done)⟩
         · clear h; intro g0 h
           refine hd_gn 3 (by kernel_rfl) (by kernel_rfl) (by kernel_rfl) hC h rfl rfl rfl rfl ?_; clear h a; intro a h
           refine hd_gn 4 (by kernel_rfl) (by kernel_rfl) (by kernel_rfl) hC h rfl rfl rfl rfl ?_; clear h a; intro a h
           refine hd_gn 5 (by kernel_rfl) (by kernel_rfl) (by kernel_rfl) hC h rfl rfl rfl rfl ?_; clear h a; intro a h
           refine hd_gn 6 (by kernel_rfl) (by kernel_rfl) (by kernel_rfl) hC h rfl rfl rfl rfl ?_; clear h a; intro a h
           refine hd_gs 7 (by kernel_rfl) (by kernel_rfl) (by kernel_rfl) hC h rfl rfl rfl rfl ?_; clear h a; intro a h
           refine hd_gs 8 (by kernel_rfl) (by kernel_rfl) (by kernel_rfl) hC h rfl rfl rfl rfl ?_; clear h a; intro a h
           refine hd_gs 9 (by kernel_rfl) (by kernel_rfl) (by kernel_rfl) hC h rfl rfl rfl rfl ?_; clear h a; intro a h
           refine hd_gs 10 (by kernel_rfl) (by kernel_rfl) (by kernel_rfl) hC h rfl rfl rfl rfl ?_; clear h a; intro a h
           refine hd_gs 11 (by kernel_rfl) (by kernel_rfl) (by kernel_rfl) hC h rfl rfl rfl rfl ?_; clear h a; intro a h
           refine hd_gs 12 (by kernel_rfl) (by kernel_rfl) (by kernel_rfl) hC h rfl rfl rfl rfl ?_; clear h a; intro a h
           refine hd_gs 13 (by kernel_rfl) (by kernel_rfl) (by kernel_rfl) hC h rfl rfl rfl rfl ?_; clear h a; intro a h
           refine hd_gn 14 (by kernel_rfl) (by kernel_rfl) (by kernel_rfl) hC h rfl rfl rfl rfl ?_; clear h a; intro a h
           refine hd_one 15 (by kernel_rfl) rfl ?_
           refine st_pick_f h rfl rfl rfl rfl ?_; clear h a; intro a h
           refine hd_next hC ?_
           refine hd_move 16 (by kernel_rfl) (by kernel_rfl) (by kernel_rfl) hC h wn rfl rfl rfl ?_; clear h a; intro a h
           refine hd_move 17 (by kernel_rfl) (by kernel_rfl) (by kernel_rfl) hC h (wy rfl) rfl rfl rfl ?_; clear h a; intro a h
           refine hd_ne 18 (by kernel_rfl) (by kernel_rfl) (by kernel_rfl) hC h (wy rfl) rfl rfl rfl rfl ?_; clear h a; intro a h
           refine hd_move 19 (by kernel_rfl) (by kernel_rfl) (by kernel_rfl) hC h (wy rfl) rfl rfl rfl ?_; clear h a; intro a h
           first | refine guard_dec (D := 96) h rfl ?_ ?_ | refine guard_ndec (D := 96) h rfl ?_ ?_ | refine guard_any (D := 96) h rfl ?_ ?_
           · clear h; intro g5 h
             refine hd_move 20 (by kernel_rfl) (by kernel_rfl) (by kernel_rfl) hC h (wy rfl) rfl rfl rfl ?_; clear h a; intro a h
             refine hd_ne 21 (by kernel_rfl) (by kernel_rfl) (by kernel_rfl) hC h (wy rfl) rfl rfl rfl rfl ?_; clear h a; intro a h
             refine hd_move 22 (by kernel_rfl) (by kernel_rfl) (by kernel_rfl) hC h (wy rfl) rfl rfl rfl ?_; clear h a; intro a h
             first | refine guard_dec (D := 99) h rfl ?_ ?_ | refine guard_ndec (D := 99) h rfl ?_ ?_ | refine guard_any (D := 99) h rfl ?_ ?_
             · clear h; intro g6 h
               refine hd_gn 23 (by kernel_rfl) (by kernel_rfl) (by kernel_rfl) hC h rfl rfl rfl rfl ?_; clear h a; intro a h
               refine hd_gn 24 (by kernel_rfl) (by kernel_rfl) (by kernel_rfl) hC h rfl rfl rfl rfl ?_; clear h a; intro a h
               refine hd_gn 25 (by kernel_rfl) (by kernel_rfl) (by kernel_rfl) hC h rfl rfl rfl rfl ?_; clear h a; intro a h
               refine hd_one 26 (by kernel_rfl) rfl ?_
               refine gd_yes h rfl rfl rfl rfl rfl rfl ?_
               refine st_pick_t h rfl rfl rfl rfl ?_; clear h a; intro a h
               refine hd_next hC ?_
               refine hd_one 27 (by kernel_rfl) rfl ?_
               refine gd_yes h rfl rfl rfl rfl rfl rfl ?_
               refine st_pick_t h rfl rfl rfl rfl ?_; clear h a; intro a h
               refine hd_next hC ?_
               refine hd_one 28 (by kernel_rfl) rfl ?_
               refine st_pick_f h rfl rfl rfl rfl ?_; clear h a; intro a h
               refine hd_next hC ?_
               refine hd_end (by kernel_rfl) ?_
               clear hC hG_b hb3_b ho62_b hb14_b
               have z16 := qh11.size
               refine bk (h.sub (L' := [(12, _), (13, _), (105, _)]) (.cons rfl (.cons rfl (.cons rfl .nil)))) ?_; clear h a
               exact jE (_) (.cons rfl (.cons rfl (.cons rfl .nil))) ⟨qh11, by first | rfl | (simp_all [op0]; done)⟩
             · clear h; intro g6 h
               refine hd_loadBA 23 (by kernel_rfl) (by kernel_rfl) (by kernel_rfl) hC h (wy rfl) rfl (fun _ hw => hb14_b.ext hw) ag31 rfl rfl ?_; clear h a; intro a h
               refine hd_lit (cs := [_, _, _, _, _, _]) 24 (by kernel_rfl) (by kernel_rfl) (by kernel_rfl) hC h (wy rfl) evs_nil bo31 pok_nil rfl rfl rfl ?_; clear h a; intro a h
               refine hd_neV (V := opF) (e := ⟨_, _, _, _, _, _⟩) (f := ⟨_, _, _, _, _, _⟩) 25 (by kernel_rfl) (by kernel_rfl) (by kernel_rfl) hC h (wy rfl) rfl rfl eqOp rfl rfl ?_; clear h a; intro a h
               refine hd_one 26 (by kernel_rfl) rfl ?_
               refine gd_yes h rfl rfl rfl rfl rfl rfl ?_
               refine st_pick_f h rfl rfl rfl rfl ?_; clear h a; intro a h
               refine hd_next hC ?_
               refine hd_one 27 (by kernel_rfl) rfl ?_
               refine gd_yes h rfl rfl rfl rfl rfl rfl ?_
               refine st_pick_t h rfl rfl rfl rfl ?_; clear h a; intro a h
               refine hd_next hC ?_
               refine hd_one 28 (by kernel_rfl) rfl ?_
               refine st_pick_f h rfl rfl rfl rfl ?_; clear h a; intro a h
               refine hd_next hC ?_
               refine hd_end (by kernel_rfl) ?_
               clear hC hG_b hb3_b ho62_b hb14_b
               have z16 := qh11.size
               refine bk (h.sub (L' := [(12, _), (13, _), (105, _)]) (.cons rfl (.cons rfl (.cons rfl .nil)))) ?_; clear h a
               exact jE (_) (.cons rfl (.cons rfl (.cons rfl .nil))) ⟨qh11, by first | rfl | (simp_all [op0]; done)⟩
           · clear h; intro g5 h
             refine hd_gn 20 (by kernel_rfl) (by kernel_rfl) (by kernel_rfl) hC h rfl rfl rfl rfl ?_; clear h a; intro a h
             refine hd_gn 21 (by kernel_rfl) (by kernel_rfl) (by kernel_rfl) hC h rfl rfl rfl rfl ?_; clear h a; intro a h
             refine hd_gn 22 (by kernel_rfl) (by kernel_rfl) (by kernel_rfl) hC h rfl rfl rfl rfl ?_; clear h a; intro a h
             refine hd_gs 23 (by kernel_rfl) (by kernel_rfl) (by kernel_rfl) hC h rfl rfl rfl rfl ?_; clear h a; intro a h
             refine hd_gs 24 (by kernel_rfl) (by kernel_rfl) (by kernel_rfl) hC h rfl rfl rfl rfl ?_; clear h a; intro a h
             refine hd_gs 25 (by kernel_rfl) (by kernel_rfl) (by kernel_rfl) hC h rfl rfl rfl rfl ?_; clear h a; intro a h
             refine hd_gn 26 (by kernel_rfl) (by kernel_rfl) (by kernel_rfl) hC h rfl rfl rfl rfl ?_; clear h a; intro a h
             refine hd_one 27 (by kernel_rfl) rfl ?_
             refine gd_yes h rfl rfl rfl rfl rfl rfl ?_
             refine st_pick_f h rfl rfl rfl rfl ?_; clear h a; intro a h
             refine hd_next hC ?_
             refine hd_one 28 (by kernel_rfl) rfl ?_
             refine st_pick_f h rfl rfl rfl rfl ?_; clear h a; intro a h
             refine hd_next hC ?_
             refine hd_end (by kernel_rfl) ?_
             clear hC hG_b hb3_b ho62_b hb14_b
             have z16 := qh11.size
             refine bk (h.sub (L' := [(12, _), (13, _), (105, _)]) (.cons rfl (.cons rfl (.cons rfl .nil)))) ?_; clear h a
             exact jE (_) (.cons rfl (.cons rfl (.cons rfl .nil))) ⟨qh11, by first | rfl | (simp_all [op0]; done)⟩
       · rintro b11 w19 ⟨q19, rfl⟩
         have z19 := q19.size
         refine kpC [(12, _), (13, _), (105, _)] (.cons rfl (.cons rfl (.cons rfl .nil))) ?_
         refine cd rfl (fun c1 => ?_) (fun c1 => ?_)
         · exact absurd c1 (by simp)
         · refine sk (bn' (tn (rg (mv rfl rfl (s_add rfl rfl (wi6 (by omega)) rfl (asg rfl rfl (nl ?_)))))))
           exact lpE (k + 1) (.cons rfl (.cons rfl .nil)) ⟨((((q12.next q13).next q14).step q15 (by first | (simp; done) | (simp; omega))).next q19), by omega⟩ (by omega)
     · obtain rfl : k = 5 := by omega
       refine ex (te (te (xh (tn (sr ?_)))))
       replace hG := hG.ext (((q7.next q10).next q11).next q12)
       refine cl evs_nil co12 (lives_ok _ hG) rfl ?_
       rintro _ w20 ⟨rfl, q20⟩
       have z20 := q20.size
       refine asg rfl rfl (nn (rt (r1 Tryd.results4 rfl ?_)))
       exact ⟨_, rfl, rfl, ((((((((q1.next q2).next q3).next q6).next q7).next q10).next q11).next q12).next q20)⟩
end Go.Proofs.YtbalocjcbmkecaaDoor
