/- Walks. -/
import Derived.Test.YtacclnebhbakmaaDoorRows
import Derived.Test.YtacclnebhbakmaaDoorW12
import Derived.Test.YtacclnebhbakmaaDoorXOp
import Derived.Test.YtacclnebhbakmaaDoorXMap
import Derived.Test.YtacclnebhbakmaaDoorXShf
set_option linter.unusedVariables false
set_option linter.unusedSimpArgs false
namespace Go.Proofs.YtacclnebhbakmaaDoor
open Go.Lw
theorem co11 : CallOf Tryd.prog 11 := CallOf.mk' Tryd.func11 (by kernel_rfl) (by kernel_rfl)
theorem co19 : CallOf Tryd.prog 19 := CallOf.mk' Tryd.func19 (by kernel_rfl) (by kernel_rfl)
theorem co20 : CallOf Tryd.prog 20 := CallOf.mk' Tryd.func20 (by kernel_rfl) (by kernel_rfl)
theorem co21 : CallOf Tryd.prog 21 := CallOf.mk' Tryd.func21 (by kernel_rfl) (by kernel_rfl)
theorem co22 : CallOf Tryd.prog 22 := CallOf.mk' Tryd.func22 (by kernel_rfl) (by kernel_rfl)
theorem co30 : CallOf Tryd.prog 30 := CallOf.mk' Tryd.func30 (by kernel_rfl) (by kernel_rfl)
theorem na63 : NotAgg Tryd.prog 63 := fun _ => by kernel_rfl
theorem sz63 : SizeOf Tryd.prog 63 1 := fun _ => by kernel_rfl
theorem zv26 (w : World) : (zeroValue 26).run Tryd.prog w = .ok (.slice none 0 0) w := by kernel_rfl
theorem zv61 (w : World) : (zeroValue 61).run Tryd.prog w = .ok (.agg #[(.slice none 0 0), (.int .i64 0)]) w := by kernel_rfl
theorem zv63 (w : World) : (zeroValue 63).run Tryd.prog w = .ok .nilFunc w := by kernel_rfl
set_option maxHeartbeats 4000000 in
theorem shift_ok (v u : Value) (xs ys : List Int) (w0 : World) (hs : Sl Enc.i64 w0 v xs) (ht : Sl Enc.i64 w0 u ys) (hx : Asc xs) (hy : Asc ys) (hl : ys.length = xs.length) : Rets Tryd.prog 9 #[v, u] w0 fun r w' => ∃ A, r = .tuple #[.slice A (shiftS xs ys).length (shiftS xs ys).length, .int .i64 0] ∧ Lw.Own encOp 42 w0.heap.size w' (.slice A (shiftS xs ys).length (shiftS xs ys).length) (shiftS xs ys) ∧ Fr [] w0 w' := by
 obtain ⟨A, c, rfl, hcc, hM, hA⟩ := id hs
 obtain ⟨A1, c1', rfl, hcc1, hM1, hA1⟩ := id ht
 clear hA hA1
 unfold maxLen at hM hM1
 have hl4 := hx.len
 have hdl := dif_len hl
 have hsl := stS_len hl
 refine weM [(0, .slice A xs.length c), (1, .slice A1 ys.length c1')] Tryd.func9 rfl Tryd.ntmps9 rfl (.cons rfl (.cons rfl .nil)) ?_
 have hs0 := hs
 have ht0 := ht
 refine isq (irg rfl (asg rfl rfl (asg rfl rfl (inl (itn (isq (isq (irg rfl (mv rfl rfl ?_)))))))))
 refine cl (ev1 rfl) co11 (shchk_ok _ xs _ hs) rfl ?_
 rintro _ w1 ⟨rfl, q1⟩
 have z1 := q1.size
 refine asg rfl rfl (inl (itn (isq (irg rfl (mv rfl rfl (ne' rfl rfl rfl (inl (itn ?_))))))))
 refine icd rfl (fun c0 => ?_) (fun c0 => ?_)
 · rw [if_pos hx] at c0; exact absurd rfl c0
 · refine isk (itn (isq (isq (irg rfl (mv rfl rfl (lnS rfl Tryd.underlying26 rfl (mv rfl rfl (lnS rfl Tryd.underlying26 rfl (ne' rfl rfl rfl (kpL [(0, _), (1, _), (30, _)] (.cons rfl (.cons rfl (.cons rfl .nil))) (inl ?_)))))))))))
   refine itn ?_
   refine icd rfl (fun c1 => ?_) (fun c1 => ?_)
   · exact absurd (by omega) c1
   · refine isk (itn (isq (isq (irg rfl (mv rfl rfl (lnS rfl Tryd.underlying26 rfl (mv rfl rfl (inl (itn (ibl ?_))))))))))
     refine ilpK (ι := Nat) [(0, _), (1, _), (31, _), (32, _)] (fun i => [(33, .int .i64 (i : Int))]) (fun i w' => Fr [] w1 w' ∧ i ≤ ys.length) (fun i => ys.length - i) 0 (.cons rfl (.cons rfl (.cons rfl (.cons rfl (.cons rfl .nil))))) ⟨Fr.refl _ _, Nat.zero_le _⟩ ?_
     rintro i w2 ⟨q2, hi⟩
     have z2 := q2.size
     refine ikpC [(0, _), (1, _), (31, _), (32, _), (33, _)] (.cons rfl (.cons rfl (.cons rfl (.cons rfl (.cons rfl .nil))))) ?_
     refine isq (irg rfl (lt' rfl rfl rfl (inl (itn (isq ?_)))))
     refine icd rfl (fun c2 => ?_) (fun c2 => ?_)
     · have hyi := hy i (by omega)
       refine isk (itn (isq (ibl (isq (irg rfl (mv rfl rfl ?_))))))
       replace ht := ht0.ext (q1.next q2)
       refine s_idxL (p := i) (0) rfl ht rfl el26 (by omega) (by omega) (by omega) rfl (fun ad36 hc36 => ?_)
       refine s_loadC0 rfl (hc36 _ ht) na3 rfl (asg rfl rfl (asg rfl rfl (inl (itn (isq ?_)))))
       refine irbo (r := 56) (L' := [(0, _), (1, _), (31, _), (32, _), (33, _)]) (False) (.cons rfl (.cons rfl (.cons rfl (.cons rfl (.cons rfl .nil))))) ?_ ?_
       · refine mv rfl rfl (lt' rfl rfl rfl (mv rfl rfl ?_))
         refine gs 40 rfl (fun g0 => ?_) (fun g0 => ?_)
         · refine gN rfl rfl rfl (gN rfl rfl rfl (pkt rfl rfl rfl rfl (mv rfl rfl (gN rfl rfl rfl (gN rfl rfl rfl (gN rfl rfl rfl (gS rfl rfl rfl (gS rfl rfl rfl (gS rfl rfl rfl (gS rfl rfl rfl (gS rfl rfl rfl ?_)))))))))))
           exact gS rfl rfl rfl (gS rfl rfl rfl (gN rfl rfl rfl (pkt rfl rfl rfl rfl (rbe rfl (by first | exact bf (by omega) | exact bi ⟨fun hh => by have := hyi.2.2 (by omega); omega, False.elim⟩ | (simp_all; done) | (simp_all; omega)) (.cons rfl (.cons rfl (.cons rfl (.cons rfl (.cons rfl .nil)))))))))
         · refine gY rfl (mv rfl rfl (gY rfl (gt' rfl rfl rfl (pkf rfl rfl rfl rfl (mv rfl rfl ?_)))))
           refine gs 44 rfl (fun g1 => ?_) (fun g1 => ?_)
           · refine gN rfl rfl rfl (gN rfl rfl rfl (gN rfl rfl rfl (gS rfl rfl rfl (gS rfl rfl rfl (gS rfl rfl rfl (gS rfl rfl rfl (gS rfl rfl rfl (gS rfl rfl rfl (gS rfl rfl rfl (gN rfl rfl rfl (pkt rfl rfl rfl rfl ?_)))))))))))
             exact rbe rfl (by first | exact bf (by omega) | exact bi ⟨fun hh => by have := hyi.2.2 (by omega); omega, False.elim⟩ | (simp_all; done) | (simp_all; omega)) (.cons rfl (.cons rfl (.cons rfl (.cons rfl (.cons rfl .nil)))))
           · refine gY rfl (mv rfl rfl (gY rfl (gt' rfl rfl rfl (gY rfl (mv rfl rfl ?_)))))
             refine gs 47 rfl (fun g2 => ?_) (fun g2 => ?_)
             · refine gY rfl (mv rfl rfl (gY rfl (mv rfl rfl (gY rfl (s_sub rfl rfl (wi6 (by omega)) rfl (gY rfl (s_idxL (p := (i - 1)) (0) rfl ht rfl el26 (by omega) (by omega) (by omega) rfl (fun ad51 hc51 => ?_))))))))
               exact gY rfl (s_loadC0 rfl (hc51 _ ht) na3 rfl (gY rfl (mv rfl rfl (gY rfl (gt' rfl rfl rfl (gY rfl (pkt rfl rfl rfl rfl (pkf rfl rfl rfl rfl (rbe rfl (by first | exact bf (by omega) | exact bi ⟨fun hh => by have := hyi.2.2 (by omega); omega, False.elim⟩ | (simp_all; done) | (simp_all; omega)) (.cons rfl (.cons rfl (.cons rfl (.cons rfl (.cons rfl .nil))))))))))))))
             · exact gN rfl rfl rfl (gN rfl rfl rfl (gN rfl rfl rfl (gN rfl rfl rfl (gN rfl rfl rfl (gN rfl rfl rfl (gN rfl rfl rfl (gY rfl (pkf rfl rfl rfl rfl (pkf rfl rfl rfl rfl (rbe rfl (by first | exact bf (by omega) | exact bi ⟨fun hh => by have := hyi.2.2 (by omega); omega, False.elim⟩ | (simp_all; done) | (simp_all; omega)) (.cons rfl (.cons rfl (.cons rfl (.cons rfl (.cons rfl .nil)))))))))))))))
       · refine itn ?_
         refine icd rfl (fun c3 => ?_) (fun c3 => ?_)
         · exact c3.elim
         · refine isk (bn' (itn (irg rfl (s_add rfl rfl (wi6 (by omega)) rfl (mv rfl rfl (inl ?_))))))
           exact ilpE (i + 1) (.cons rfl (.cons rfl (.cons rfl (.cons rfl (.cons rfl .nil))))) ⟨q2, by omega⟩ (by omega)
     · refine iex (te (te (xh (itn (isq (irg rfl (al zv61 rfl rfl (fun g9 w3 hg9 hb9 q3 z3 => ?_))))))))
       refine inl (itn (isq (irg rfl (al zv26 rfl rfl (fun g10 w4 hg10 hb10 q4 z4 => ?_)))))
       refine al zv26 rfl rfl (fun g11 w5 hg11 hb11 q5 z5 => ?_)
       refine inl (itn (isq (isq (irg rfl (mv rfl rfl (lnS rfl Tryd.underlying26 rfl (mv rfl rfl (inl (itn (ibl ?_))))))))))
       obtain ⟨N1, hN1⟩ : ∃ N1, N1 = w5.heap.size := ⟨_, rfl⟩
       replace hb10 := hb10.ext q5
       refine ilpK (ι := Nat) [(0, _), (1, _), (9, _), (10, _), (11, _), (58, _), (59, _)] (fun i => [(60, .int .i64 (i : Int))]) (fun i w' => Fr [g10, g11] w5 w' ∧ i ≤ xs.length ∧ ∃ vA vB, Blk w' g10 26 [vA] ∧ Blk w' g11 26 [vB] ∧ Lw.Own Enc.i64 3 N1 w' vA (xs.take i) ∧ Lw.Own Enc.i64 3 N1 w' vB ((dif xs ys).take i) ∧ (∀ k ∈ blks vA, k ∉ blks vB)) (fun i => xs.length - i) 0 (.cons rfl (.cons rfl (.cons rfl (.cons rfl (.cons rfl (.cons rfl (.cons rfl (.cons rfl .nil)))))))) ⟨Fr.refl _ _, ⟨Nat.zero_le _, _, _, hb10, hb11, Own.nil _, Own.nil _, by simp [blks]⟩⟩ ?_
       rintro i w6 ⟨q6, ⟨hi, vA, vB, hb10, hb11, hoA, hoB, hAB⟩⟩
       have z6 := q6.size
       have lt_hb10 := hb10.lt
       have lt_hb11 := hb11.lt
       refine ikpC [(0, _), (1, _), (9, _), (10, _), (11, _), (58, _), (59, _), (60, _)] (.cons rfl (.cons rfl (.cons rfl (.cons rfl (.cons rfl (.cons rfl (.cons rfl (.cons rfl .nil)))))))) ?_
       have hlA : ∀ k ∈ blks vA, k < w6.heap.size := fun k hk => (hoA.blk k hk).2
       have hnA' : ∀ k ∈ blks vA, N1 ≤ k := fun k hk => (hoA.blk k hk).1
       have hnB' : ∀ k ∈ blks vB, N1 ≤ k := fun k hk => (hoB.blk k hk).1
       refine isq (irg rfl (lt' rfl rfl rfl (inl (itn (isq ?_)))))
       refine icd rfl (fun c4 => ?_) (fun c4 => ?_)
       · have hxi := hx i (by omega)
         have hyi := hy i (by omega)
         have htK := ht0.blk (fun e => by have := congrArg List.length e; simp only [List.length_nil] at this; omega)
         refine isk (itn (isq (ibl (isq (irg rfl (mv rfl rfl ?_))))))
         replace hs := hs0.ext (((((q1.next q2).next q3).next q4).next q5).step q6 (by first | (simp; done) | (simp; omega)))
         refine s_idxL (p := i) (0) rfl hs rfl el26 (by omega) (by omega) (by omega) rfl (fun ad63 hc63 => ?_)
         refine s_loadC0 rfl (hc63 _ hs) na3 rfl (asg rfl rfl (asg rfl rfl (inl (itn (isq ?_)))))
         refine ijn (ι := Unit) [(0, _), (1, _), (9, _), (10, _), (11, _), (12, _), (13, _), (58, _), (59, _), (60, _)] (fun _j => [(81, .bool false)]) (fun _j w' => Fr [] w6 w') (.cons rfl (.cons rfl (.cons rfl (.cons rfl (.cons rfl (.cons rfl (.cons rfl (.cons rfl (.cons rfl (.cons rfl .nil)))))))))) ?_ ?_
         · replace ht := ht0.ext (((((q1.next q2).next q3).next q4).next q5).step q6 (by first | (simp; done) | (simp; omega)))
           intro a h
           have qh17 := Fr.refl [] w6
           refine ireg_held (fun wb w' => Fr [] wb w') rfl hmix ?_; intro w7 hq
           have z7 := hq.size
           replace hs := hs.ext hq
           replace ht := ht.ext hq
           replace qh17 := qh17.next hq
           have hsz := hq.size; clear hq; have hC : Fr [] w7 w7 := Fr.refl _ _
           have hs_b := hs
           have ht_b := ht
           refine hd_move 0 (by kernel_rfl) (by kernel_rfl) (by kernel_rfl) hC h wn rfl rfl rfl ?_; clear h a; intro a h
           refine hd_add 1 (by kernel_rfl) (by kernel_rfl) (by kernel_rfl) hC h wn rfl rfl (by first | exact IntWalk.i64_in _ (by omega) | rfl) rfl rfl ?_; clear h a; intro a h
           refine hd_move 2 (by kernel_rfl) (by kernel_rfl) (by kernel_rfl) hC h wn rfl rfl rfl ?_; clear h a; intro a h
           refine hd_lenS 3 (by kernel_rfl) (by kernel_rfl) (by kernel_rfl) hC h wn rfl Tryd.underlying26 rfl rfl ?_; clear h a; intro a h
           refine hd_lt 4 (by kernel_rfl) (by kernel_rfl) (by kernel_rfl) hC h wn rfl rfl rfl rfl ?_; clear h a; intro a h
           refine hd_move 5 (by kernel_rfl) (by kernel_rfl) (by kernel_rfl) hC h wn rfl rfl rfl ?_; clear h a; intro a h
           first | refine guard_dec (D := 70) h rfl ?_ ?_ | refine guard_ndec (D := 70) h rfl ?_ ?_ | refine guard_any (D := 70) h rfl ?_ ?_
           · clear h; intro g3 h
             refine hd_move 6 (by kernel_rfl) (by kernel_rfl) (by kernel_rfl) hC h (wy rfl) rfl rfl rfl ?_; clear h a; intro a h
             refine hd_move 7 (by kernel_rfl) (by kernel_rfl) (by kernel_rfl) hC h (wy rfl) rfl rfl rfl ?_; clear h a; intro a h
             refine hd_idxL (p := i) (0) 8 (by kernel_rfl) (by kernel_rfl) (by kernel_rfl) hC h (wy rfl) rfl ht rfl el26 (by omega) (by omega) (by omega) rfl rfl ?_; clear h a; intro ad73 hc73 a h
             refine hd_loadC0 9 (by kernel_rfl) (by kernel_rfl) (by kernel_rfl) hC h (wy rfl) rfl (fun _ hw => hc73 _ (ht_b.ext hw)) na3 rfl rfl ?_; clear h a; intro a h
             refine hd_move 10 (by kernel_rfl) (by kernel_rfl) (by kernel_rfl) hC h (wy rfl) rfl rfl rfl ?_; clear h a; intro a h
             refine hd_move 11 (by kernel_rfl) (by kernel_rfl) (by kernel_rfl) hC h (wy rfl) rfl rfl rfl ?_; clear h a; intro a h
             refine hd_add 12 (by kernel_rfl) (by kernel_rfl) (by kernel_rfl) hC h (wy rfl) rfl rfl (by first | exact IntWalk.i64_in _ (by omega) | rfl) rfl rfl ?_; clear h a; intro a h
             refine hd_idxL (p := (i + 1)) (0) 13 (by kernel_rfl) (by kernel_rfl) (by kernel_rfl) hC h (wy rfl) rfl ht rfl el26 (by omega) (by omega) (by omega) rfl rfl ?_; clear h a; intro ad78 hc78 a h
             refine hd_loadC0 14 (by kernel_rfl) (by kernel_rfl) (by kernel_rfl) hC h (wy rfl) rfl (fun _ hw => hc78 _ (ht_b.ext hw)) na3 rfl rfl ?_; clear h a; intro a h
             refine hd_eq 15 (by kernel_rfl) (by kernel_rfl) (by kernel_rfl) hC h (wy rfl) rfl rfl rfl rfl ?_; clear h a; intro a h
             refine hd_one 16 (by kernel_rfl) rfl ?_
             refine st_pick_t h rfl rfl rfl rfl ?_; clear h a; intro a h
             refine hd_next hC ?_
             refine hd_end (by kernel_rfl) ?_
             clear hC hs_b ht_b
             have z7 := qh17.size
             refine bk (h.sub (L' := [(0, _), (1, _), (9, _), (10, _), (11, _), (12, _), (13, _), (58, _), (59, _), (60, _), (81, _)]) (.cons rfl (.cons rfl (.cons rfl (.cons rfl (.cons rfl (.cons rfl (.cons rfl (.cons rfl (.cons rfl (.cons rfl (.cons rfl .nil)))))))))))) ?_; clear h a
             exact ijE (()) (.cons rfl (.cons rfl (.cons rfl (.cons rfl (.cons rfl (.cons rfl (.cons rfl (.cons rfl (.cons rfl (.cons rfl (.cons (congrArg (fun z => some (Value.bool z)) (by first | rfl | exact decide_eq_false (by have := (hy (i + 1) (by omega)).2.2 (by omega); simp only [Nat.add_sub_cancel] at this; omega))) .nil))))))))))) qh17
           · clear h; intro g3 h
             refine hd_gn 6 (by kernel_rfl) (by kernel_rfl) (by kernel_rfl) hC h rfl rfl rfl rfl ?_; clear h a; intro a h
             refine hd_gn 7 (by kernel_rfl) (by kernel_rfl) (by kernel_rfl) hC h rfl rfl rfl rfl ?_; clear h a; intro a h
             refine hd_gn 8 (by kernel_rfl) (by kernel_rfl) (by kernel_rfl) hC h rfl rfl rfl rfl ?_; clear h a; intro a h
             refine hd_gn 9 (by kernel_rfl) (by kernel_rfl) (by kernel_rfl) hC h rfl rfl rfl rfl ?_; clear h a; intro a h
             refine hd_gn 10 (by kernel_rfl) (by kernel_rfl) (by kernel_rfl) hC h rfl rfl rfl rfl ?_; clear h a; intro a h
             refine hd_gn 11 (by kernel_rfl) (by kernel_rfl) (by kernel_rfl) hC h rfl rfl rfl rfl ?_; clear h a; intro a h
             refine hd_gn 12 (by kernel_rfl) (by kernel_rfl) (by kernel_rfl) hC h rfl rfl rfl rfl ?_; clear h a; intro a h
             refine hd_gn 13 (by kernel_rfl) (by kernel_rfl) (by kernel_rfl) hC h rfl rfl rfl rfl ?_; clear h a; intro a h
             refine hd_gn 14 (by kernel_rfl) (by kernel_rfl) (by kernel_rfl) hC h rfl rfl rfl rfl ?_; clear h a; intro a h
             refine hd_gn 15 (by kernel_rfl) (by kernel_rfl) (by kernel_rfl) hC h rfl rfl rfl rfl ?_; clear h a; intro a h
             refine hd_one 16 (by kernel_rfl) rfl ?_
             refine st_pick_f h rfl rfl rfl rfl ?_; clear h a; intro a h
             refine hd_next hC ?_
             refine hd_end (by kernel_rfl) ?_
             clear hC hs_b ht_b
             have z7 := qh17.size
             refine bk (h.sub (L' := [(0, _), (1, _), (9, _), (10, _), (11, _), (12, _), (13, _), (58, _), (59, _), (60, _), (81, _)]) (.cons rfl (.cons rfl (.cons rfl (.cons rfl (.cons rfl (.cons rfl (.cons rfl (.cons rfl (.cons rfl (.cons rfl (.cons rfl .nil)))))))))))) ?_; clear h a
             exact ijE (()) (.cons rfl (.cons rfl (.cons rfl (.cons rfl (.cons rfl (.cons rfl (.cons rfl (.cons rfl (.cons rfl (.cons rfl (.cons (congrArg (fun z => some (Value.bool z)) (by first | rfl | exact decide_eq_false (by have := (hy (i + 1) (by omega)).2.2 (by omega); simp only [Nat.add_sub_cancel] at this; omega))) .nil))))))))))) qh17
         · rintro _j w8 q8
           have z8 := q8.size
           refine ikpC [(0, _), (1, _), (9, _), (10, _), (11, _), (12, _), (13, _), (58, _), (59, _), (60, _), (81, _)] (.cons rfl (.cons rfl (.cons rfl (.cons rfl (.cons rfl (.cons rfl (.cons rfl (.cons rfl (.cons rfl (.cons rfl (.cons rfl .nil))))))))))) ?_
           refine icd rfl (fun c5 => ?_) (fun c5 => ?_)
           · cases c5
           · refine isk (itn ?_)
             replace ht := ht0.ext ((((((q1.next q2).next q3).next q4).next q5).step q6 (by first | (simp; done) | (simp; omega))).next q8)
             replace hb9 := ((hb9.ext (q4.next q5)).fr q6 (by first | (simp; done) | (simp; omega) | (simp [blks]; done) | (simp [blks]; omega))).ext q8
             replace hb10 := hb10.ext q8
             replace hb11 := hb11.ext q8
             replace hoA := hoA.ext q8
             replace hoB := hoB.ext q8
             intro a h
             refine ireg_heldP (some 13) (fun wb w' => Fr (blks vA ++ blks vB) wb w') rfl hmix ?_; intro w9 hq
             have z9 := hq.size
             replace ht := ht.ext hq
             replace hb9 := hb9.ext hq
             replace hb10 := hb10.ext hq
             replace hb11 := hb11.ext hq
             replace hoA := hoA.ext hq
             replace hoB := hoB.ext hq
             have q9 := hq
             clear hq; have hC : Fr (blks vA ++ blks vB) w9 w9 := Fr.refl _ _
             have ht_b := ht
             have hb9_b := hb9
             have hb10_b := hb10
             have hb11_b := hb11
             have hoA_b := hoA
             have hoB_b := hoB
             refine hd_loadB0 0 (by kernel_rfl) (by kernel_rfl) (by kernel_rfl) hC h wn rfl (fun _ hw => hb10_b.fr hw (fun e => by rcases List.mem_append.1 e with e | e; have := hnA' _ e; omega; have := hnB' _ e; omega)) na26 rfl rfl ?_; clear h a; intro a h
             refine hd_move 1 (by kernel_rfl) (by kernel_rfl) (by kernel_rfl) hC h wn rfl rfl rfl ?_; clear h a; intro a h
             refine hd_loadB0 4 (by kernel_rfl) (by kernel_rfl) (by kernel_rfl) hC h wn rfl (fun _ hw => hb11_b.fr hw (fun e => by rcases List.mem_append.1 e with e | e; have := hnA' _ e; omega; have := hnB' _ e; omega)) na26 rfl rfl ?_; clear h a; intro a h
             refine hd_move 5 (by kernel_rfl) (by kernel_rfl) (by kernel_rfl) hC h wn rfl rfl rfl ?_; clear h a; intro a h
             refine hd_move 6 (by kernel_rfl) (by kernel_rfl) (by kernel_rfl) hC h wn rfl rfl rfl ?_; clear h a; intro a h
             refine hd_idxL (p := i) (0) 7 (by kernel_rfl) (by kernel_rfl) (by kernel_rfl) hC h wn rfl ht rfl el26 (by omega) (by omega) (by omega) rfl rfl ?_; clear h a; intro ad102 hc102 a h
             refine hd_loadC0 8 (by kernel_rfl) (by kernel_rfl) (by kernel_rfl) hC h wn rfl (fun _ hw => hc102 _ (ht_b.fr hw (fun k hk hb => by have h1 := htK k hb; rcases List.mem_append.1 hk with e | e; have := hnA' _ e; omega; have := hnB' _ e; omega))) na3 rfl rfl ?_; clear h a; intro a h
             refine hd_move 9 (by kernel_rfl) (by kernel_rfl) (by kernel_rfl) hC h wn rfl rfl rfl ?_; clear h a; intro a h
             refine hd_sub 10 (by kernel_rfl) (by kernel_rfl) (by kernel_rfl) hC h wn rfl rfl (by first | exact IntWalk.i64_in _ (by omega) | rfl) rfl rfl ?_; clear h a; intro a h
             refine hd_two 2 11 (by kernel_rfl) rfl rfl ?_ ?_
             · refine id ?_
               refine st_bslice ([xs.getD i 0]) h (evs_cons rfl evs_nil) rfl rfl rfl el26 (Nat.le_of_ble_eq_true rfl) rfl ?_; clear h a; intro g_97 w10 hg ho97 hq hz a h
               have hn__97 : g9 < g_97 := by have := hb9.lt; omega
               have hn_0_97 : g10 < g_97 := by have := hb10.lt; omega
               have hn_1_97 : g11 < g_97 := by have := hb11.lt; omega
               have z10 := hq.size
               replace ht := ht.ext hq
               replace hb9 := hb9.ext hq
               replace hb10 := hb10.ext hq
               replace hb11 := hb11.ext hq
               replace hoA := hoA.ext hq
               replace hoB := hoB.ext hq
               replace hC := hC.next hq
               have q10 := hq
               clear hq
               refine hd_next hC ?_
               refine hd_two 3 11 (by kernel_rfl) rfl rfl ?_ ?_
               · refine id ?_
                 have hoo98 := hoA
                 refine st_append h rfl rfl hoA ho97.sl el26 (by unfold maxLen; simp only [List.length_take, List.length_cons, List.length_nil]; omega) (by simp only [List.length_take, List.length_cons, List.length_nil]; omega) (by omega) rfl ?_; clear h a; intro v98 w11 hoA hq hor98 a h
                 have hAB3 : ∀ k ∈ blks v98, k ∉ blks vB := by
                   rcases hor98 with e | e | e
                   · rw [e]; exact hAB
                   · rw [e]; exact hAB
                   · rw [e]; intro k hk hb; simp at hk; have := (hoB.blk k hb).2; omega
                 clear hor98
                 obtain ⟨A7, c7, rfl, hc7⟩ := hoA.sl.form
                 have z11 := hq.size
                 replace ht := ht.fr hq (fun k hk hb => by have := htK k hb; have := (hoo98.blk k hk).1; omega)
                 replace hb9 := hb9.fr hq (fun hk => by have := (hoo98.blk _ hk).1; omega)
                 replace hb10 := hb10.fr hq (fun hk => by have := (hoo98.blk _ hk).1; omega)
                 replace hb11 := hb11.fr hq (fun hk => by have := (hoo98.blk _ hk).1; omega)
                 replace hoB := hoB.fr hq (fun k hk hb => hAB k hk hb)
                 replace hC := hC.step hq (fun k hk _ => by simp [hk])
                 have q11 := hq
                 clear hq
                 refine hd_next hC ?_
                 refine hd_one 11 (by kernel_rfl) rfl ?_
                 refine st_bslice ([ys.getD i 0 - xs.getD i 0]) h (evs_cons rfl evs_nil) rfl rfl rfl el26 (Nat.le_of_ble_eq_true rfl) rfl ?_; clear h a; intro g_106 w12 hg ho106 hq hz a h
                 have hn__106 : g9 < g_106 := by have := hb9.lt; omega
                 have hn_0_106 : g10 < g_106 := by have := hb10.lt; omega
                 have hn_1_106 : g11 < g_106 := by have := hb11.lt; omega
                 have z12 := hq.size
                 replace ht := ht.ext hq
                 replace hb9 := hb9.ext hq
                 replace hb10 := hb10.ext hq
                 replace hb11 := hb11.ext hq
                 replace hoB := hoB.ext hq
                 replace hoA := hoA.ext hq
                 replace hC := hC.next hq
                 have q12 := hq
                 clear hq
                 refine hd_next hC ?_
                 refine hd_one 12 (by kernel_rfl) rfl ?_
                 have hoo107 := hoB
                 refine st_append h rfl rfl hoB ho106.sl el26 (by unfold maxLen; simp only [List.length_take, List.length_cons, List.length_nil]; omega) (by simp only [List.length_take, List.length_cons, List.length_nil]; omega) (by omega) rfl ?_; clear h a; intro v107 w13 hoB hq hor107 a h
                 have hAB4 : ∀ k ∈ blks (Value.slice A7 (xs.take i ++ [xs.getD i 0]).length c7), k ∉ blks v107 := by
                   rcases hor107 with e | e | e
                   · rw [e]; exact hAB3
                   · rw [e]; exact hAB3
                   · rw [e]; intro k hk hb; simp at hb; have := (hoA.blk k hk).2; omega
                 clear hor107
                 obtain ⟨A8, c8, rfl, hc8⟩ := hoB.sl.form
                 have z13 := hq.size
                 replace ht := ht.fr hq (fun k hk hb => by have := htK k hb; have := (hoo107.blk k hk).1; omega)
                 replace hb9 := hb9.fr hq (fun hk => by have := (hoo107.blk _ hk).1; omega)
                 replace hb10 := hb10.fr hq (fun hk => by have := (hoo107.blk _ hk).1; omega)
                 replace hb11 := hb11.fr hq (fun hk => by have := (hoo107.blk _ hk).1; omega)
                 replace hoA := hoA.fr hq (fun k hk hb => hAB3 k hb hk)
                 replace hC := hC.step hq (fun k hk _ => by simp [hk])
                 have q13 := hq
                 clear hq
                 refine hd_next hC ?_
                 refine hd_one 13 (by kernel_rfl) rfl ?_
                 refine st_storeB0 h rfl rfl hb10 rfl rfl sz26 ?_; clear h a; intro w14 hbn hq hz a h
                 have z14 := hq.size
                 replace ht := ht.fr hq (by intro k hk hb; simp at hk; have := htK k hb; omega)
                 replace hb9 := hb9.fr hq (by first | (simp; done) | (simp; omega) | (simp [blks]; done) | (simp [blks]; omega))
                 replace hb11 := hb11.fr hq (by first | (simp; done) | (simp; omega) | (simp [blks]; done) | (simp [blks]; omega))
                 replace hoA := hoA.fr hq (by intro k hk hb; simp at hk; subst hk; have := hoA.blk _ hb; omega)
                 replace hoB := hoB.fr hq (by intro k hk hb; simp at hk; subst hk; have := hoB.blk _ hb; omega)
                 have q14 := hq
                 clear hb10 hq hz; have hb10 : Blk w14 g10 _ [_] := hbn; clear hbn
                 refine hd_past (by kernel_rfl) ?_
                 refine hd_one 14 (by kernel_rfl) rfl ?_
                 refine st_storeB0 h rfl rfl hb11 rfl rfl sz26 ?_; clear h a; intro w15 hbn hq hz a h
                 have z15 := hq.size
                 replace ht := ht.fr hq (by intro k hk hb; simp at hk; have := htK k hb; omega)
                 replace hb9 := hb9.fr hq (by first | (simp; done) | (simp; omega) | (simp [blks]; done) | (simp [blks]; omega))
                 replace hb10 := hb10.fr hq (by first | (simp; done) | (simp; omega) | (simp [blks]; done) | (simp [blks]; omega))
                 replace hoA := hoA.fr hq (by intro k hk hb; simp at hk; subst hk; have := hoA.blk _ hb; omega)
                 replace hoB := hoB.fr hq (by intro k hk hb; simp at hk; subst hk; have := hoB.blk _ hb; omega)
                 have q15 := hq
                 clear hb11 hq hz; have hb11 : Blk w15 g11 _ [_] := hbn; clear hbn
                 refine hd_past (by kernel_rfl) ?_
                 refine hd_end (by kernel_rfl) ?_
                 clear hC ht_b hb9_b hb10_b hb11_b hoA_b hoB_b
                 refine bk (h.sub (L' := [(0, _), (1, _), (9, _), (10, _), (11, _), (58, _), (59, _), (60, _)]) (.cons rfl (.cons rfl (.cons rfl (.cons rfl (.cons rfl (.cons rfl (.cons rfl (.cons rfl .nil))))))))) ?_; clear h a
                 refine bn' (itn (irg rfl (s_add rfl rfl (wi6 (by omega)) rfl (mv rfl rfl (inl ?_)))))
                 exact ilpE (i + 1) (.cons rfl (.cons rfl (.cons rfl (.cons rfl (.cons rfl (.cons rfl (.cons rfl (.cons rfl .nil)))))))) ⟨((((((((((Fr.refl [g10, g11] _).step q6 (by first | (simp; done) | (simp; omega))).next q8).next q9).next q10).step q11 (fun k hk hlt => absurd (hoo98.blk k hk).1 (by omega))).next q12).step q13 (fun k hk hlt => absurd (hoo107.blk k hk).1 (by omega))).step q14 (by first | (simp; done) | (simp; omega))).step q15 (by first | (simp; done) | (simp; omega))), ⟨by omega, _, _, hb10, hb11, by rw [take_succ_getD xs i (by omega)]; exact hoA, by rw [take_succ_getD (dif xs ys) i (by omega), dif_getD hl (by omega)]; exact hoB, hAB4⟩⟩ (by omega)
               · refine id ?_
                 refine st_bslice ([ys.getD i 0 - xs.getD i 0]) h (evs_cons rfl evs_nil) rfl rfl rfl el26 (Nat.le_of_ble_eq_true rfl) rfl ?_; clear h a; intro g_106 w16 hg ho106 hq hz a h
                 have hn__106 : g9 < g_106 := by have := hb9.lt; omega
                 have hn_0_106 : g10 < g_106 := by have := hb10.lt; omega
                 have hn_1_106 : g11 < g_106 := by have := hb11.lt; omega
                 have z16 := hq.size
                 replace ht := ht.ext hq
                 replace hb9 := hb9.ext hq
                 replace hb10 := hb10.ext hq
                 replace hb11 := hb11.ext hq
                 replace hoA := hoA.ext hq
                 replace hoB := hoB.ext hq
                 replace ho97 := ho97.ext hq
                 replace hC := hC.next hq
                 have q16 := hq
                 clear hq
                 refine hd_next hC ?_
                 refine hd_one 3 (by kernel_rfl) rfl ?_
                 have hoo98 := hoA
                 refine st_append h rfl rfl hoA ho97.sl el26 (by unfold maxLen; simp only [List.length_take, List.length_cons, List.length_nil]; omega) (by simp only [List.length_take, List.length_cons, List.length_nil]; omega) (by omega) rfl ?_; clear h a; intro v98 w17 hoA hq hor98 a h
                 have hAB3 : ∀ k ∈ blks v98, k ∉ blks vB := by
                   rcases hor98 with e | e | e
                   · rw [e]; exact hAB
                   · rw [e]; exact hAB
                   · rw [e]; intro k hk hb; simp at hk; have := (hoB.blk k hb).2; omega
                 clear hor98
                 obtain ⟨A7, c7, rfl, hc7⟩ := hoA.sl.form
                 have z17 := hq.size
                 replace ht := ht.fr hq (fun k hk hb => by have := htK k hb; have := (hoo98.blk k hk).1; omega)
                 replace hb9 := hb9.fr hq (fun hk => by have := (hoo98.blk _ hk).1; omega)
                 replace hb10 := hb10.fr hq (fun hk => by have := (hoo98.blk _ hk).1; omega)
                 replace hb11 := hb11.fr hq (fun hk => by have := (hoo98.blk _ hk).1; omega)
                 replace hoB := hoB.fr hq (fun k hk hb => hAB k hk hb)
                 replace ho106 := ho106.fr hq (fun k hk hb => by simp [blks] at hb; subst hb; have := hlA _ hk; omega)
                 replace hC := hC.step hq (fun k hk _ => by simp [hk])
                 have q17 := hq
                 clear hq
                 refine hd_next hC ?_
                 refine hd_one 12 (by kernel_rfl) rfl ?_
                 have hoo107 := hoB
                 refine st_append h rfl rfl hoB ho106.sl el26 (by unfold maxLen; simp only [List.length_take, List.length_cons, List.length_nil]; omega) (by simp only [List.length_take, List.length_cons, List.length_nil]; omega) (by omega) rfl ?_; clear h a; intro v107 w18 hoB hq hor107 a h
                 have hAB4 : ∀ k ∈ blks (Value.slice A7 (xs.take i ++ [xs.getD i 0]).length c7), k ∉ blks v107 := by
                   rcases hor107 with e | e | e
                   · rw [e]; exact hAB3
                   · rw [e]; exact hAB3
                   · rw [e]; intro k hk hb; simp at hb; have := (hoA.blk k hk).2; omega
                 clear hor107
                 obtain ⟨A8, c8, rfl, hc8⟩ := hoB.sl.form
                 have z18 := hq.size
                 replace ht := ht.fr hq (fun k hk hb => by have := htK k hb; have := (hoo107.blk k hk).1; omega)
                 replace hb9 := hb9.fr hq (fun hk => by have := (hoo107.blk _ hk).1; omega)
                 replace hb10 := hb10.fr hq (fun hk => by have := (hoo107.blk _ hk).1; omega)
                 replace hb11 := hb11.fr hq (fun hk => by have := (hoo107.blk _ hk).1; omega)
                 replace hoA := hoA.fr hq (fun k hk hb => hAB3 k hb hk)
                 replace hC := hC.step hq (fun k hk _ => by simp [hk])
                 have q18 := hq
                 clear hq
                 refine hd_next hC ?_
                 refine hd_one 13 (by kernel_rfl) rfl ?_
                 refine st_storeB0 h rfl rfl hb10 rfl rfl sz26 ?_; clear h a; intro w19 hbn hq hz a h
                 have z19 := hq.size
                 replace ht := ht.fr hq (by intro k hk hb; simp at hk; have := htK k hb; omega)
                 replace hb9 := hb9.fr hq (by first | (simp; done) | (simp; omega) | (simp [blks]; done) | (simp [blks]; omega))
                 replace hb11 := hb11.fr hq (by first | (simp; done) | (simp; omega) | (simp [blks]; done) | (simp [blks]; omega))
                 replace hoA := hoA.fr hq (by intro k hk hb; simp at hk; subst hk; have := hoA.blk _ hb; omega)
                 replace hoB := hoB.fr hq (by intro k hk hb; simp at hk; subst hk; have := hoB.blk _ hb; omega)
                 have q19 := hq
                 clear hb10 hq hz; have hb10 : Blk w19 g10 _ [_] := hbn; clear hbn
                 refine hd_past (by kernel_rfl) ?_
                 refine hd_one 14 (by kernel_rfl) rfl ?_
                 refine st_storeB0 h rfl rfl hb11 rfl rfl sz26 ?_; clear h a; intro w20 hbn hq hz a h
                 have z20 := hq.size
                 replace ht := ht.fr hq (by intro k hk hb; simp at hk; have := htK k hb; omega)
                 replace hb9 := hb9.fr hq (by first | (simp; done) | (simp; omega) | (simp [blks]; done) | (simp [blks]; omega))
                 replace hb10 := hb10.fr hq (by first | (simp; done) | (simp; omega) | (simp [blks]; done) | (simp [blks]; omega))
                 replace hoA := hoA.fr hq (by intro k hk hb; simp at hk; subst hk; have := hoA.blk _ hb; omega)
                 replace hoB := hoB.fr hq (by intro k hk hb; simp at hk; subst hk; have := hoB.blk _ hb; omega)
                 have q20 := hq
                 clear hb11 hq hz; have hb11 : Blk w20 g11 _ [_] := hbn; clear hbn
                 refine hd_past (by kernel_rfl) ?_
                 refine hd_end (by kernel_rfl) ?_
                 clear hC ht_b hb9_b hb10_b hb11_b hoA_b hoB_b
                 refine bk (h.sub (L' := [(0, _), (1, _), (9, _), (10, _), (11, _), (58, _), (59, _), (60, _)]) (.cons rfl (.cons rfl (.cons rfl (.cons rfl (.cons rfl (.cons rfl (.cons rfl (.cons rfl .nil))))))))) ?_; clear h a
                 refine bn' (itn (irg rfl (s_add rfl rfl (wi6 (by omega)) rfl (mv rfl rfl (inl ?_)))))
                 exact ilpE (i + 1) (.cons rfl (.cons rfl (.cons rfl (.cons rfl (.cons rfl (.cons rfl (.cons rfl (.cons rfl .nil)))))))) ⟨((((((((((Fr.refl [g10, g11] _).step q6 (by first | (simp; done) | (simp; omega))).next q8).next q9).next q10).next q16).step q17 (fun k hk hlt => absurd (hoo98.blk k hk).1 (by omega))).step q18 (fun k hk hlt => absurd (hoo107.blk k hk).1 (by omega))).step q19 (by first | (simp; done) | (simp; omega))).step q20 (by first | (simp; done) | (simp; omega))), ⟨by omega, _, _, hb10, hb11, by rw [take_succ_getD xs i (by omega)]; exact hoA, by rw [take_succ_getD (dif xs ys) i (by omega), dif_getD hl (by omega)]; exact hoB, hAB4⟩⟩ (by omega)
             · refine id ?_
               refine st_bslice ([ys.getD i 0 - xs.getD i 0]) h (evs_cons rfl evs_nil) rfl rfl rfl el26 (Nat.le_of_ble_eq_true rfl) rfl ?_; clear h a; intro g_106 w21 hg ho106 hq hz a h
               have hn__106 : g9 < g_106 := by have := hb9.lt; omega
               have hn_0_106 : g10 < g_106 := by have := hb10.lt; omega
               have hn_1_106 : g11 < g_106 := by have := hb11.lt; omega
               have z21 := hq.size
               replace ht := ht.ext hq
               replace hb9 := hb9.ext hq
               replace hb10 := hb10.ext hq
               replace hb11 := hb11.ext hq
               replace hoA := hoA.ext hq
               replace hoB := hoB.ext hq
               replace hC := hC.next hq
               have q21 := hq
               clear hq
               refine hd_next hC ?_
               refine hd_one 2 (by kernel_rfl) rfl ?_
               refine st_bslice ([xs.getD i 0]) h (evs_cons rfl evs_nil) rfl rfl rfl el26 (Nat.le_of_ble_eq_true rfl) rfl ?_; clear h a; intro g_97 w22 hg ho97 hq hz a h
               have hn__97 : g9 < g_97 := by have := hb9.lt; omega
               have hn_0_97 : g10 < g_97 := by have := hb10.lt; omega
               have hn_1_97 : g11 < g_97 := by have := hb11.lt; omega
               have z22 := hq.size
               replace ht := ht.ext hq
               replace hb9 := hb9.ext hq
               replace hb10 := hb10.ext hq
               replace hb11 := hb11.ext hq
               replace hoA := hoA.ext hq
               replace hoB := hoB.ext hq
               replace ho106 := ho106.ext hq
               replace hC := hC.next hq
               have q22 := hq
               clear hq
               refine hd_next hC ?_
               refine hd_one 3 (by kernel_rfl) rfl ?_
               have hoo98 := hoA
               refine st_append h rfl rfl hoA ho97.sl el26 (by unfold maxLen; simp only [List.length_take, List.length_cons, List.length_nil]; omega) (by simp only [List.length_take, List.length_cons, List.length_nil]; omega) (by omega) rfl ?_; clear h a; intro v98 w23 hoA hq hor98 a h
               have hAB3 : ∀ k ∈ blks v98, k ∉ blks vB := by
                 rcases hor98 with e | e | e
                 · rw [e]; exact hAB
                 · rw [e]; exact hAB
                 · rw [e]; intro k hk hb; simp at hk; have := (hoB.blk k hb).2; omega
               clear hor98
               obtain ⟨A7, c7, rfl, hc7⟩ := hoA.sl.form
               have z23 := hq.size
               replace ht := ht.fr hq (fun k hk hb => by have := htK k hb; have := (hoo98.blk k hk).1; omega)
               replace hb9 := hb9.fr hq (fun hk => by have := (hoo98.blk _ hk).1; omega)
               replace hb10 := hb10.fr hq (fun hk => by have := (hoo98.blk _ hk).1; omega)
               replace hb11 := hb11.fr hq (fun hk => by have := (hoo98.blk _ hk).1; omega)
               replace hoB := hoB.fr hq (fun k hk hb => hAB k hk hb)
               replace ho106 := ho106.fr hq (fun k hk hb => by simp [blks] at hb; subst hb; have := hlA _ hk; omega)
               replace hC := hC.step hq (fun k hk _ => by simp [hk])
               have q23 := hq
               clear hq
               refine hd_next hC ?_
               refine hd_one 12 (by kernel_rfl) rfl ?_
               have hoo107 := hoB
               refine st_append h rfl rfl hoB ho106.sl el26 (by unfold maxLen; simp only [List.length_take, List.length_cons, List.length_nil]; omega) (by simp only [List.length_take, List.length_cons, List.length_nil]; omega) (by omega) rfl ?_; clear h a; intro v107 w24 hoB hq hor107 a h
               have hAB4 : ∀ k ∈ blks (Value.slice A7 (xs.take i ++ [xs.getD i 0]).length c7), k ∉ blks v107 := by
                 rcases hor107 with e | e | e
                 · rw [e]; exact hAB3
                 · rw [e]; exact hAB3
                 · rw [e]; intro k hk hb; simp at hb; have := (hoA.blk k hk).2; omega
               clear hor107
               obtain ⟨A8, c8, rfl, hc8⟩ := hoB.sl.form
               have z24 := hq.size
               replace ht := ht.fr hq (fun k hk hb => by have := htK k hb; have := (hoo107.blk k hk).1; omega)
               replace hb9 := hb9.fr hq (fun hk => by have := (hoo107.blk _ hk).1; omega)
               replace hb10 := hb10.fr hq (fun hk => by have := (hoo107.blk _ hk).1; omega)
               replace hb11 := hb11.fr hq (fun hk => by have := (hoo107.blk _ hk).1; omega)
               replace hoA := hoA.fr hq (fun k hk hb => hAB3 k hb hk)
               replace hC := hC.step hq (fun k hk _ => by simp [hk])
               have q24 := hq
               clear hq
               refine hd_next hC ?_
               refine hd_one 13 (by kernel_rfl) rfl ?_
               refine st_storeB0 h rfl rfl hb10 rfl rfl sz26 ?_; clear h a; intro w25 hbn hq hz a h
               have z25 := hq.size
               replace ht := ht.fr hq (by intro k hk hb; simp at hk; have := htK k hb; omega)
               replace hb9 := hb9.fr hq (by first | (simp; done) | (simp; omega) | (simp [blks]; done) | (simp [blks]; omega))
               replace hb11 := hb11.fr hq (by first | (simp; done) | (simp; omega) | (simp [blks]; done) | (simp [blks]; omega))
               replace hoA := hoA.fr hq (by intro k hk hb; simp at hk; subst hk; have := hoA.blk _ hb; omega)
               replace hoB := hoB.fr hq (by intro k hk hb; simp at hk; subst hk; have := hoB.blk _ hb; omega)
               have q25 := hq
               clear hb10 hq hz; have hb10 : Blk w25 g10 _ [_] := hbn; clear hbn
               refine hd_past (by kernel_rfl) ?_
               refine hd_one 14 (by kernel_rfl) rfl ?_
               refine st_storeB0 h rfl rfl hb11 rfl rfl sz26 ?_; clear h a; intro w26 hbn hq hz a h
               have z26 := hq.size
               replace ht := ht.fr hq (by intro k hk hb; simp at hk; have := htK k hb; omega)
               replace hb9 := hb9.fr hq (by first | (simp; done) | (simp; omega) | (simp [blks]; done) | (simp [blks]; omega))
               replace hb10 := hb10.fr hq (by first | (simp; done) | (simp; omega) | (simp [blks]; done) | (simp [blks]; omega))
               replace hoA := hoA.fr hq (by intro k hk hb; simp at hk; subst hk; have := hoA.blk _ hb; omega)
               replace hoB := hoB.fr hq (by intro k hk hb; simp at hk; subst hk; have := hoB.blk _ hb; omega)
               have q26 := hq
               clear hb11 hq hz; have hb11 : Blk w26 g11 _ [_] := hbn; clear hbn
               refine hd_past (by kernel_rfl) ?_
               refine hd_end (by kernel_rfl) ?_
               clear hC ht_b hb9_b hb10_b hb11_b hoA_b hoB_b
               refine bk (h.sub (L' := [(0, _), (1, _), (9, _), (10, _), (11, _), (58, _), (59, _), (60, _)]) (.cons rfl (.cons rfl (.cons rfl (.cons rfl (.cons rfl (.cons rfl (.cons rfl (.cons rfl .nil))))))))) ?_; clear h a
               refine bn' (itn (irg rfl (s_add rfl rfl (wi6 (by omega)) rfl (mv rfl rfl (inl ?_)))))
               exact ilpE (i + 1) (.cons rfl (.cons rfl (.cons rfl (.cons rfl (.cons rfl (.cons rfl (.cons rfl (.cons rfl .nil)))))))) ⟨((((((((((Fr.refl [g10, g11] _).step q6 (by first | (simp; done) | (simp; omega))).next q8).next q9).next q21).next q22).step q23 (fun k hk hlt => absurd (hoo98.blk k hk).1 (by omega))).step q24 (fun k hk hlt => absurd (hoo107.blk k hk).1 (by omega))).step q25 (by first | (simp; done) | (simp; omega))).step q26 (by first | (simp; done) | (simp; omega))), ⟨by omega, _, _, hb10, hb11, by rw [take_succ_getD xs i (by omega)]; exact hoA, by rw [take_succ_getD (dif xs ys) i (by omega), dif_getD hl (by omega)]; exact hoB, hAB4⟩⟩ (by omega)
       · obtain rfl : i = xs.length := by omega
         rw [List.take_length] at hoA
         rw [← hdl, List.take_length] at hoB
         obtain ⟨A10, c10, rfl, hc10⟩ := hoA.sl.form
         obtain ⟨A11, c11, rfl, hc11⟩ := hoB.sl.form
         rw [← hdl] at hb10 hoA hAB
         have hnA : ∀ k ∈ blks (Value.slice A10 (dif xs ys).length c10), N1 ≤ k := fun k hk => (hoA.blk k hk).1
         have hnB : ∀ k ∈ blks (Value.slice A11 (dif xs ys).length c11), N1 ≤ k := fun k hk => (hoB.blk k hk).1
         have hM10 := hoA.sl.len_le
         have hM11 := hoB.sl.len_le
         unfold maxLen at hM10 hM11
         refine iex (te (te (xh (itn (isq (irg rfl (s_makeFunc evs_nil (ev2 rfl rfl) rfl (al zv63 rfl rfl (fun g14 w27 hg14 hb14 q27 z27 => ?_)))))))))
         refine s_storeB0 rfl rfl hb14 rfl rfl sz63 (fun w28 hb14 q28 z28 => ?_)
         refine kpL [(9, _), (10, _), (11, _), (14, _)] (.cons rfl (.cons rfl (.cons rfl (.cons rfl .nil)))) (inl (itn (isq (irg rfl (asg rfl rfl (inl (itn (isq (isq (irg rfl (asg rfl rfl ?_)))))))))))
         refine inl (itn (ibl ?_))
         replace hb10 := (hb10.ext q27).fr q28 (by first | (simp; done) | (simp; omega) | (simp [blks]; done) | (simp [blks]; omega))
         replace hb11 := (hb11.ext q27).fr q28 (by first | (simp; done) | (simp; omega) | (simp [blks]; done) | (simp [blks]; omega))
         replace hoA := (hoA.ext q27).fr q28 (by intro k hk hb; simp at hk; subst hk; have := hoA.blk _ hb; omega)
         replace hoB := (hoB.ext q27).fr q28 (by intro k hk hb; simp at hk; subst hk; have := hoB.blk _ hb; omega)
         replace hb9 := (((hb9.ext (q4.next q5)).fr q6 (by first | (simp; done) | (simp; omega) | (simp [blks]; done) | (simp [blks]; omega))).ext q27).fr q28 (by first | (simp; done) | (simp; omega) | (simp [blks]; done) | (simp [blks]; omega))
         obtain ⟨N2, hN2⟩ : ∃ N2, N2 = w28.heap.size := ⟨_, rfl⟩
         have hb100 := hb10
         have hb110 := hb11
         have hb140 := hb14
         have hoA0 := hoA
         have hoB0 := hoB
         have hb90 := hb9
         
         refine ilpK (ι := Nat × List Nat × Value) [(9, _), (10, _), (11, _), (14, _)] (fun p => [(15, p.2.2), (16, .int .i64 (p.1 : Int))]) (fun p w' => Fr [] w28 w' ∧ p.1 ≤ xs.length ∧ p.2.1 ++ startsF (dif xs ys) (dif xs ys).length p.1 = starts (dif xs ys) ∧ Lw.Own Enc.i64 3 N2 w' p.2.2 (p.2.1.map (fun k : Nat => (k : Int)))) (fun p => xs.length - p.1) (0, [], .slice none 0 0) (.cons rfl (.cons rfl (.cons rfl (.cons rfl (.cons rfl (.cons rfl .nil)))))) ⟨Fr.refl _ _, ⟨Nat.zero_le _, rfl, Own.nil _⟩⟩ ?_
         rintro ⟨i, pre, v15⟩ w29 ⟨q29, ⟨hi, hdv, hoS⟩⟩
         simp only at hi hdv hoS
         have z29 := q29.size
         refine ikpC [(9, _), (10, _), (11, _), (14, _), (15, v15), (16, .int .i64 (i : Int))] (.cons rfl (.cons rfl (.cons rfl (.cons rfl (.cons rfl (.cons rfl .nil)))))) ?_
         refine isq (isq (irg rfl (mv rfl rfl ?_)))
         replace hb10 := hb100.fr ((Fr.refl [g9] _).next q29) (by first | (simp; done) | (simp; omega))
         refine s_loadB0 rfl hb10 na26 rfl (lnS rfl Tryd.underlying26 rfl (lt' rfl rfl rfl (inl (itn ?_))))
         refine icd rfl (fun c6 => ?_) (fun c6 => ?_)
         · have hst := starts_step (b := dif xs ys) (i := i) (by omega)
           rw [hst] at hdv
           have htg := togS_bd (b := dif xs ys) (i := i) (by omega)
           have hpl : pre.length < 41 := by have h1 := congrArg List.length hdv; simp only [List.length_append, List.length_cons] at h1; omega
           refine isk (itn (isq (ibl (irg rfl (mv rfl rfl (mv rfl rfl (s_bslice ([(i : Int)]) (ev1 rfl) rfl rfl rfl el26 (Nat.le_of_ble_eq_true rfl) rfl (fun g119 w30 hg119 ho119 q30 z30 => ?_))))))))
           replace hoS := hoS.ext q30
           have hoo120 := hoS
           refine s_append rfl rfl hoS ho119.sl el26 (by unfold maxLen; simp only [List.length_map, List.length_cons, List.length_nil]; omega) (by simp only [List.length_map, List.length_cons, List.length_nil]; omega) (by omega) rfl (fun v120 w31 hoS q31 hor120 => ?_)
           have z31 := q31.size
           refine asg rfl rfl (inl (bn' (itn (irg rfl ?_))))
           replace hb14 := hb140.ext ((q29.next q30).step q31 (fun k hk hlt => absurd (hoo120.blk k hk).1 (by omega)))
           refine s_loadB0 rfl hb14 na63 rfl (mv rfl rfl ?_)
           replace hb10 := hb100.fr ((((Fr.refl [g9] _).next q29).next q30).step q31 (fun k hk hlt => absurd (hoo120.blk k hk).1 (by omega))) (by first | (simp; done) | (simp; omega))
           replace hb11 := hb110.fr ((((Fr.refl [g9] _).next q29).next q30).step q31 (fun k hk hlt => absurd (hoo120.blk k hk).1 (by omega))) (by first | (simp; done) | (simp; omega))
           replace hoB := hoB0.fr ((((Fr.refl [g9] _).next q29).next q30).step q31 (fun k hk hlt => absurd (hoo120.blk k hk).1 (by omega))) (by intro k hk hb; simp at hk; subst hk; have := hnB _ hb; omega)
           refine clv (us := []) (ws := [.pointer (some ⟨g10, 0, none⟩), .pointer (some ⟨g11, 0, none⟩)]) rfl (ev1 rfl) co21 (tog_ok i g10 g11 _ _ _ _ (dif xs ys) _ hb10 hb11 hoB.sl (by omega)) rfl (by intro g e; cases e) ?_
           rintro _ w32 ⟨rfl, q32⟩
           have z32 := q32.size
           refine asg rfl rfl (inl ?_)
           replace hoS := hoS.ext q32
           exact ilpE ((togS (dif xs ys) i, pre ++ [i], v120)) (.cons rfl (.cons rfl (.cons rfl (.cons rfl (.cons rfl (.cons rfl .nil)))))) ⟨(((q29.next q30).step q31 (fun k hk hlt => absurd (hoo120.blk k hk).1 (by omega))).next q32), ⟨by simp only; omega, by simpa using hdv, by simpa using hoS⟩⟩ (by simp only; omega)
         · rw [starts_end (by omega), List.append_nil] at hdv
           rw [hdv] at hoS
           replace hoS : Lw.Own Enc.i64 3 N2 w29 v15 (stI xs ys) := hoS
           obtain ⟨A15, c15, rfl, hc15⟩ := hoS.sl.form
           have hM15 := hoS.sl.len_le
           unfold maxLen at hM15
           have hsI := stI_len xs ys
           refine iex (te (te (xh (itn (isq (isq (irg rfl (mv rfl rfl ?_))))))))
           refine cl (ev1 rfl) co22 (back_ok _ _ rfl) rfl ?_
           rintro _ w33 ⟨gD, rfl, hgD, hbD, q33⟩
           have z33 := q33.size
           refine inl (itn (ibl ?_))
           replace hb9 := hb90.ext (q29.next q33)
           replace hoA := hoA0.fr (((Fr.refl [g9] _).next q29).next q33) (by intro k hk hb; simp at hk; subst hk; have := hnA _ hb; omega)
           replace hoB := hoB0.fr (((Fr.refl [g9] _).next q29).next q33) (by intro k hk hb; simp at hk; subst hk; have := hnB _ hb; omega)
           replace hoS := hoS.ext q33
           replace hb14 := hb140.ext (q29.next q33)
           replace hb10 := hb100.fr (((Fr.refl [g9] _).next q29).next q33) (by first | (simp; done) | (simp; omega))
           replace hb11 := hb110.fr (((Fr.refl [g9] _).next q29).next q33) (by first | (simp; done) | (simp; omega))
           obtain ⟨N, hN⟩ : ∃ N, N = w33.heap.size := ⟨_, rfl⟩
           have hp : Pl 61 42 w0.heap.size w33 g9 (fun k => k < N ∧ k ≠ g9) (([], 0)) := ⟨_, hb9, Own.nil _, by simp [blks], fun h => h.2 rfl, by simp [blks]⟩
           have hlA : ∀ k ∈ blks (Value.slice A10 (dif xs ys).length c10), k < N := fun k hk => by have := (hoA.blk k hk).2; omega
           have hlB : ∀ k ∈ blks (Value.slice A11 (dif xs ys).length c11), k < N := fun k hk => by have := (hoB.blk k hk).2; omega
           have hlS : ∀ k ∈ blks (Value.slice A15 (stI xs ys).length c15), k < N := fun k hk => by have := (hoS.blk k hk).2; omega
           have hnS : ∀ k ∈ blks (Value.slice A15 (stI xs ys).length c15), N2 ≤ k := fun k hk => (hoS.blk k hk).1
           have hBl : ∀ b ∈ gD :: slB (stI xs ys).length (Value.slice A15 (stI xs ys).length c15), b < N ∧ b ≠ g9 := by
             intro b hb
             rcases List.mem_cons.1 hb with rfl | hb
             · have := hbD.lt; omega
             · unfold slB at hb
               split at hb
               · cases hb
               · have := hlS b hb; have := hnS b hb; omega
           have hl14 := hb14.lt
           have hl9 := hb9.lt
           have hb100 := hb10
           have hb110 := hb11
           have hb140 := hb14
           have hoA0 := hoA
           have hoB0 := hoB
           have hoS0 := hoS
           refine irngU (α := Ix (stI xs ys)) rfl co30 (by decide) (back_seq 8 gD A15 c15 (stI xs ys) w33 hbD hoS.sl) (fun b hb => by have := hBl b hb; omega) (fun _ => rfl) (fun x => [(124, .int .i64 ((stI xs ys).getD x.1 0)), (123, .int .i64 (x.1 : Int))]) (fun x => by simp [ixE]) (fun _ => rfl) (fun (s : List (Ix (stI xs ys))) (W : World) => Fr [g9] w33 W ∧ Pl 61 42 w0.heap.size W g9 (fun k => k < N ∧ k ≠ g9) (upP xs ys (s.map Subtype.val))) (fun s W W' ht h => ⟨h.1.turn ht (Nat.le_refl _), h.2.turn ht⟩) ⟨Fr.refl _ _, hp⟩ (fun x => [(18, .int .i64 ((((starts (dif xs ys)).getD x.1 0) : Nat) : Int))]) [(9, _), (10, _), (11, _), (14, _), (15, _)] (.cons rfl (.cons rfl (.cons rfl (.cons rfl (.cons rfl .nil))))) ?_ ?_ ?_
           · rintro lN pre x w34 ⟨q34, hp⟩
             refine ikpC [(123, .int .i64 (x.1 : Int)), (124, .int .i64 ((stI xs ys).getD x.1 0)), (9, _), (10, _), (11, _), (14, _), (15, _)] (.cons rfl (.cons rfl (.cons rfl (.cons rfl (.cons rfl (.cons rfl (.cons rfl .nil))))))) ?_
             refine irg rfl (asg rfl rfl (inl ?_))
             exact asU (.cons (by exact congrArg (fun z => some (Value.int .i64 z)) (stI_get (by have := x.2; omega))) (.cons rfl (.cons rfl (.cons rfl (.cons rfl (.cons rfl .nil))))))
           · rintro lN pre x w35 hlN ⟨q35, hp⟩ hlt
             have z35 := q35.size
             have hx2 := x.2
             have hok := upP_ok hx hy hl (pre.map Subtype.val) (fun j hj => by obtain ⟨x', _, rfl⟩ := List.mem_map.1 hj; have := x'.2; omega)
             rw [List.length_map] at hok
             have hki := stS_getD hl (j := x.1) (by omega)
             have htg := togS_bd (b := dif xs ys) (i := ((starts (dif xs ys)).getD x.1 0)) (by omega)
             rw [hdl] at htg
             have hdb := dif_bd hx hy hl hki
             have hpx : Pl 61 42 w0.heap.size w35 g9 (fun k => (k < N ∧ k ≠ g9) ∨ NonCells w35 k) _ := hp.addNon
             refine ibl (isq (irg rfl ?_))
             replace hb11 := hb110.fr ((Fr.refl [g9] _).step q35 (by first | (simp; done) | (simp; omega))) (by first | (simp; done) | (simp; omega))
             refine s_loadB0 rfl hb11 na26 rfl (mv rfl rfl ?_)
             replace hoB := hoB0.fr ((Fr.refl [g9] _).step q35 (by first | (simp; done) | (simp; omega))) (by intro k hk hb; simp at hk; subst hk; have := hnB _ hb; omega)
             refine s_idxL (p := ((starts (dif xs ys)).getD x.1 0)) (0) rfl hoB.sl rfl el26 (by omega) (by omega) (by omega) rfl (fun ad127 hc127 => ?_)
             refine s_loadC0 rfl (hc127 _ hoB.sl) na3 rfl (gt' rfl rfl rfl (inl (itn ?_)))
             refine icd rfl (fun c7 => ?_) (fun c7 => ?_)
             · replace hb10 := hb100.fr ((Fr.refl [g9] _).step q35 (by first | (simp; done) | (simp; omega))) (by first | (simp; done) | (simp; omega))
               replace hoA := hoA0.fr ((Fr.refl [g9] _).step q35 (by first | (simp; done) | (simp; omega))) (by intro k hk hb; simp at hk; subst hk; have := hnA _ hb; omega)
               replace hb14 := hb140.fr ((Fr.refl [g9] _).step q35 (by first | (simp; done) | (simp; omega))) (by first | (simp; done) | (simp; omega))
               intro a h
               refine ireg_heldP (some 10) (fun wb w' => Fr [] wb w') rfl hmix ?_; intro w36 hq
               have z36 := hq.size
               replace hb10 := hb10.ext hq
               replace hb11 := hb11.ext hq
               replace hoA := hoA.ext hq
               replace hoB := hoB.ext hq
               replace hb14 := hb14.ext hq
               replace hpx := hpx.ext hq
               have q36 := hq
               clear hq; have hC : Fr [] w36 w36 := Fr.refl _ _
               have hb10_b := hb10
               have hb11_b := hb11
               have hoA_b := hoA
               have hoB_b := hoB
               have hb14_b := hb14
               have hpx_b := hpx
               refine hd_loadB0 0 (by kernel_rfl) (by kernel_rfl) (by kernel_rfl) hC h wn rfl (fun _ hw => hb10_b.ext hw) na26 rfl rfl ?_; clear h a; intro a h
               refine hd_move 1 (by kernel_rfl) (by kernel_rfl) (by kernel_rfl) hC h wn rfl rfl rfl ?_; clear h a; intro a h
               refine hd_loadB0 2 (by kernel_rfl) (by kernel_rfl) (by kernel_rfl) hC h wn rfl (fun _ hw => hb14_b.ext hw) na63 rfl rfl ?_; clear h a; intro a h
               refine hd_move 3 (by kernel_rfl) (by kernel_rfl) (by kernel_rfl) hC h wn rfl rfl rfl ?_; clear h a; intro a h
               refine hd_loadB0 6 (by kernel_rfl) (by kernel_rfl) (by kernel_rfl) hC h wn rfl (fun _ hw => hb11_b.ext hw) na26 rfl rfl ?_; clear h a; intro a h
               refine hd_move 7 (by kernel_rfl) (by kernel_rfl) (by kernel_rfl) hC h wn rfl rfl rfl ?_; clear h a; intro a h
               refine hd_idxL (p := ((starts (dif xs ys)).getD x.1 0)) (0) 8 (by kernel_rfl) (by kernel_rfl) (by kernel_rfl) hC h wn rfl hoB.sl rfl el26 (by omega) (by omega) (by omega) rfl rfl ?_; clear h a; intro ad138 hc138 a h
               refine hd_loadC0 9 (by kernel_rfl) (by kernel_rfl) (by kernel_rfl) hC h wn rfl (fun _ hw => hc138 _ (hoB_b.sl.ext hw)) na3 rfl rfl ?_; clear h a; intro a h
               refine hd_one 4 (by kernel_rfl) rfl ?_
               refine st_callv (us := []) (ws := [.pointer (some ⟨g10, 0, none⟩), .pointer (some ⟨g11, 0, none⟩)]) h rfl (evs_cons rfl evs_nil) co21 (tog_ok ((starts (dif xs ys)).getD x.1 0) g10 g11 _ _ _ _ (dif xs ys) _ hb10 hb11 hoB.sl (by omega)) rfl (by intro g e; cases e) ?_; clear h a; rintro _ w37 ⟨rfl, hq⟩ a h
               have z37 := hq.size
               replace hb10 := hb10.ext hq
               replace hb11 := hb11.ext hq
               replace hoA := hoA.ext hq
               replace hoB := hoB.ext hq
               replace hb14 := hb14.ext hq
               replace hpx := hpx.ext hq
               replace hC := hC.next hq
               have q37 := hq
               clear hq
               refine hd_next hC ?_
               refine hd_sl_lh (p := ((starts (dif xs ys)).getD x.1 0)) (p' := (togS (dif xs ys) ((starts (dif xs ys)).getD x.1 0))) 5 (by kernel_rfl) (by kernel_rfl) (by kernel_rfl) hC h wn rfl rfl rfl el26 (by omega) (by omega) (by omega) (by omega) (by omega) rfl rfl ?_; clear h a; intro a h
               refine hd_one 10 (by kernel_rfl) rfl ?_
               refine st_call h (evs_cons rfl (evs_cons rfl (evs_cons rfl evs_nil))) co20 (move_ok g9 _ _ w0.heap.size _ _ _ _ hpx (hoA.sl.cutv (p := ((starts (dif xs ys)).getD x.1 0)) (p' := togS (dif xs ys) ((starts (dif xs ys)).getD x.1 0)) (by omega) (by omega)) (fun e => by have := congrArg List.length e; simp only [List.length_drop, List.length_take, List.length_nil] at this; omega) (fun k hk => by rcases hk with hk | ⟨o, ho, _⟩; exact Nat.lt_of_lt_of_le hk.1 (by omega); exact Nat.lt_of_lt_of_le (Array.getElem?_eq_some_iff.1 ho).1 (by omega)) (by omega) (fun j hj => by simp only [List.length_drop, List.length_take] at hj; rw [cut_getD (by omega) (by omega)]; have := hx (((starts (dif xs ys)).getD x.1 0) + j) (by omega); omega) (by simp only [List.length_drop, List.length_take]; omega) hdb hok.1 (by have := hok.2; omega)) rfl ?_; clear h a; rintro _ w38 ⟨hpn, Sx, hSx, hq⟩ a h
               have z38 := hq.size
               have q38 := hq
               skip
               refine hd_past (by kernel_rfl) ?_
               refine hd_end (by kernel_rfl) ?_
               clear hC hb10_b hb11_b hoA_b hoB_b hb14_b hpx_b
               have hp : Pl 61 42 w0.heap.size w38 g9 (fun k => k < N ∧ k ≠ g9) _ := hpn.setK (fun k _ hk => .inl hk)
               refine bk (h.sub (L' := []) .nil) ?_; clear h a
               refine bn' ?_
               exact rndU (S := Sx) ((((Fr.refl Sx _).next q36).next q37).step q38 (fun k hk _ => hk)) (fun k hk e => hSx k hk (.inr e)) (fun b hb => by have := hBl b hb; omega) (fun b hb e => hSx b e (.inl (hBl b hb))) ⟨(((((Fr.refl [g9] _).step q35 (by first | (simp; done) | (simp; omega))).next q36).next q37).step q38 (fun k hk hlt => Classical.byContradiction fun e => hSx k hk (.inl ⟨by omega, fun e2 => by first | omega | exact e (by simp [e2])⟩))), by rw [List.map_append, List.map_cons, List.map_nil, upP_snoc, upS, if_pos c7]; exact hp⟩
             · refine isk (bn' ?_)
               exact rndU (S := []) (Fr.refl _ _) (by simp) (fun b hb => by have := hBl b hb; omega) (by simp) ⟨((Fr.refl [g9] _).step q35 (by first | (simp; done) | (simp; omega))), by rw [List.map_append, List.map_cons, List.map_nil, upP_snoc, upS, if_neg c7]; exact hp⟩
           · rintro D1 xs' w39 hD1 hS ⟨q39, hp⟩ hmk
             have z39 := q39.size
             have hmk0 := hmk
             have lt_hmk := hmk.lt
             rw [hS, hsI, upP_all] at hp
             refine bn' (itn (isq (isq (irg rfl (mv rfl rfl (lnS rfl Tryd.underlying26 rfl (mv rfl rfl (inl (itn (ibl ?_))))))))))
             refine ilpK (ι := Nat) [(9, _), (10, _), (11, _), (14, _), (141, _), (142, _)] (fun m => [(143, .int .i64 (m : Int))]) (fun m w' => Fr [g9] w33 w' ∧ m ≤ (starts (dif xs ys)).length ∧ Pl 61 42 w0.heap.size w' g9 (fun k => k < N ∧ k ≠ g9) (downP xs ys m) ∧ DefAt D1 w') (fun m => (starts (dif xs ys)).length - m) 0 (.cons rfl (.cons rfl (.cons rfl (.cons rfl (.cons rfl (.cons rfl (.cons rfl .nil))))))) ⟨((Fr.refl [g9] _).step q39 (by first | (simp; done) | (simp; omega))), ⟨Nat.zero_le _, hp, hmk⟩⟩ ?_
             rintro m w40 ⟨q40, ⟨hm, hp, hmk⟩⟩
             have z40 := q40.size
             refine ikpC [(9, _), (10, _), (11, _), (14, _), (141, _), (142, _), (143, _)] (.cons rfl (.cons rfl (.cons rfl (.cons rfl (.cons rfl (.cons rfl (.cons rfl .nil))))))) ?_
             have hmkR := hmk
             refine isq (irg rfl (lt' rfl rfl rfl (inl (itn (isq ?_)))))
             refine icd rfl (fun c8 => ?_) (fun c8 => ?_)
             · have hok := downP_ok hx hy hl m
               have hgm := stI_get (xs := xs) (ys := ys) (j := m) (by omega)
               have hki := stS_getD hl (j := m) (by omega)
               have htg := togS_bd (b := dif xs ys) (i := ((starts (dif xs ys)).getD m 0)) (by omega)
               rw [hdl] at htg
               have hdb := dif_bd hx hy hl hki
               have hpx : Pl 61 42 w0.heap.size w40 g9 (fun k => (k < N ∧ k ≠ g9) ∨ NonCells w40 k) _ := hp.addNon
               refine isk (itn (isq (ibl (isq (irg rfl ?_)))))
               replace hoS := hoS0.fr ((Fr.refl [g9] _).step q40 (by first | (simp; done) | (simp; omega))) (by intro k hk hb; simp at hk; subst hk; have := hnS _ hb; omega)
               refine s_idxL (p := m) (0) rfl hoS.sl rfl el26 (by omega) (by omega) (by omega) rfl (fun ad145 hc145 => ?_)
               refine s_loadC0 rfl (hc145 _ hoS.sl) na3 rfl (asg rfl rfl ?_)
               rw [hgm]
               refine inl (itn (isq (irg rfl ?_)))
               replace hb11 := hb110.fr ((Fr.refl [g9] _).step q40 (by first | (simp; done) | (simp; omega))) (by first | (simp; done) | (simp; omega))
               refine s_loadB0 rfl hb11 na26 rfl (mv rfl rfl ?_)
               replace hoB := hoB0.fr ((Fr.refl [g9] _).step q40 (by first | (simp; done) | (simp; omega))) (by intro k hk hb; simp at hk; subst hk; have := hnB _ hb; omega)
               refine s_idxL (p := ((starts (dif xs ys)).getD m 0)) (0) rfl hoB.sl rfl el26 (by omega) (by omega) (by omega) rfl (fun ad149 hc149 => ?_)
               refine s_loadC0 rfl (hc149 _ hoB.sl) na3 rfl (lt' rfl rfl rfl (inl (itn ?_)))
               refine icd rfl (fun c9 => ?_) (fun c9 => ?_)
               · replace hb10 := hb100.fr ((Fr.refl [g9] _).step q40 (by first | (simp; done) | (simp; omega))) (by first | (simp; done) | (simp; omega))
                 replace hoA := hoA0.fr ((Fr.refl [g9] _).step q40 (by first | (simp; done) | (simp; omega))) (by intro k hk hb; simp at hk; subst hk; have := hnA _ hb; omega)
                 replace hb14 := hb140.fr ((Fr.refl [g9] _).step q40 (by first | (simp; done) | (simp; omega))) (by first | (simp; done) | (simp; omega))
                 intro a h
                 refine ireg_heldP (some 10) (fun wb w' => Fr [] wb w') rfl hmix ?_; intro w41 hq
                 have z41 := hq.size
                 replace hb10 := hb10.ext hq
                 replace hb11 := hb11.ext hq
                 replace hoA := hoA.ext hq
                 replace hoB := hoB.ext hq
                 replace hb14 := hb14.ext hq
                 replace hpx := hpx.ext hq
                 have q41 := hq
                 clear hq; have hC : Fr [] w41 w41 := Fr.refl _ _
                 have hb10_b := hb10
                 have hb11_b := hb11
                 have hoA_b := hoA
                 have hoB_b := hoB
                 have hb14_b := hb14
                 have hpx_b := hpx
                 refine hd_loadB0 0 (by kernel_rfl) (by kernel_rfl) (by kernel_rfl) hC h wn rfl (fun _ hw => hb10_b.ext hw) na26 rfl rfl ?_; clear h a; intro a h
                 refine hd_move 1 (by kernel_rfl) (by kernel_rfl) (by kernel_rfl) hC h wn rfl rfl rfl ?_; clear h a; intro a h
                 refine hd_loadB0 2 (by kernel_rfl) (by kernel_rfl) (by kernel_rfl) hC h wn rfl (fun _ hw => hb14_b.ext hw) na63 rfl rfl ?_; clear h a; intro a h
                 refine hd_move 3 (by kernel_rfl) (by kernel_rfl) (by kernel_rfl) hC h wn rfl rfl rfl ?_; clear h a; intro a h
                 refine hd_loadB0 6 (by kernel_rfl) (by kernel_rfl) (by kernel_rfl) hC h wn rfl (fun _ hw => hb11_b.ext hw) na26 rfl rfl ?_; clear h a; intro a h
                 refine hd_move 7 (by kernel_rfl) (by kernel_rfl) (by kernel_rfl) hC h wn rfl rfl rfl ?_; clear h a; intro a h
                 refine hd_idxL (p := ((starts (dif xs ys)).getD m 0)) (0) 8 (by kernel_rfl) (by kernel_rfl) (by kernel_rfl) hC h wn rfl hoB.sl rfl el26 (by omega) (by omega) (by omega) rfl rfl ?_; clear h a; intro ad160 hc160 a h
                 refine hd_loadC0 9 (by kernel_rfl) (by kernel_rfl) (by kernel_rfl) hC h wn rfl (fun _ hw => hc160 _ (hoB_b.sl.ext hw)) na3 rfl rfl ?_; clear h a; intro a h
                 refine hd_one 4 (by kernel_rfl) rfl ?_
                 refine st_callv (us := []) (ws := [.pointer (some ⟨g10, 0, none⟩), .pointer (some ⟨g11, 0, none⟩)]) h rfl (evs_cons rfl evs_nil) co21 (tog_ok ((starts (dif xs ys)).getD m 0) g10 g11 _ _ _ _ (dif xs ys) _ hb10 hb11 hoB.sl (by omega)) rfl (by intro g e; cases e) ?_; clear h a; rintro _ w42 ⟨rfl, hq⟩ a h
                 have z42 := hq.size
                 replace hb10 := hb10.ext hq
                 replace hb11 := hb11.ext hq
                 replace hoA := hoA.ext hq
                 replace hoB := hoB.ext hq
                 replace hb14 := hb14.ext hq
                 replace hpx := hpx.ext hq
                 replace hC := hC.next hq
                 have q42 := hq
                 clear hq
                 refine hd_next hC ?_
                 refine hd_sl_lh (p := ((starts (dif xs ys)).getD m 0)) (p' := (togS (dif xs ys) ((starts (dif xs ys)).getD m 0))) 5 (by kernel_rfl) (by kernel_rfl) (by kernel_rfl) hC h wn rfl rfl rfl el26 (by omega) (by omega) (by omega) (by omega) (by omega) rfl rfl ?_; clear h a; intro a h
                 refine hd_one 10 (by kernel_rfl) rfl ?_
                 refine st_call h (evs_cons rfl (evs_cons rfl (evs_cons rfl evs_nil))) co20 (move_ok g9 _ _ w0.heap.size _ _ _ _ hpx (hoA.sl.cutv (p := ((starts (dif xs ys)).getD m 0)) (p' := togS (dif xs ys) ((starts (dif xs ys)).getD m 0)) (by omega) (by omega)) (fun e => by have := congrArg List.length e; simp only [List.length_drop, List.length_take, List.length_nil] at this; omega) (fun k hk => by rcases hk with hk | ⟨o, ho, _⟩; exact Nat.lt_of_lt_of_le hk.1 (by omega); exact Nat.lt_of_lt_of_le (Array.getElem?_eq_some_iff.1 ho).1 (by omega)) (by omega) (fun j hj => by simp only [List.length_drop, List.length_take] at hj; rw [cut_getD (by omega) (by omega)]; have := hx (((starts (dif xs ys)).getD m 0) + j) (by omega); omega) (by simp only [List.length_drop, List.length_take]; omega) hdb hok.1 (by have := hok.2; omega)) rfl ?_; clear h a; rintro _ w43 ⟨hpn, Sx, hSx, hq⟩ a h
                 have z43 := hq.size
                 have q43 := hq
                 skip
                 refine hd_past (by kernel_rfl) ?_
                 refine hd_end (by kernel_rfl) ?_
                 clear hC hb10_b hb11_b hoA_b hoB_b hb14_b hpx_b
                 have hp : Pl 61 42 w0.heap.size w43 g9 (fun k => k < N ∧ k ≠ g9) _ := hpn.setK (fun k _ hk => .inl hk)
                 refine bk (h.sub (L' := [(9, _), (10, _), (11, _), (14, _), (141, _), (142, _), (143, _)]) (.cons rfl (.cons rfl (.cons rfl (.cons rfl (.cons rfl (.cons rfl (.cons rfl .nil)))))))) ?_; clear h a
                 refine bn' (itn (irg rfl (s_add rfl rfl (wi6 (by omega)) rfl (mv rfl rfl (inl ?_)))))
                 replace hmk := (hmk.ext (q41.next q42)).fr q43 (fun e => hSx _ e (.inr ⟨_, hmkR, rfl⟩))
                 exact ilpE (m + 1) (.cons rfl (.cons rfl (.cons rfl (.cons rfl (.cons rfl (.cons rfl (.cons rfl .nil))))))) ⟨(((((Fr.refl [g9] _).step q40 (by first | (simp; done) | (simp; omega))).next q41).next q42).step q43 (fun k hk hlt => Classical.byContradiction fun e => hSx k hk (.inl ⟨by omega, fun e2 => by first | omega | exact e (by simp [e2])⟩))), ⟨by omega, by rw [downP_succ (by omega), downS, if_pos c9]; exact hp, hmk⟩⟩ (by omega)
               · refine isk (bn' (itn (irg rfl (s_add rfl rfl (wi6 (by omega)) rfl (mv rfl rfl (inl ?_))))))
                 exact ilpE (m + 1) (.cons rfl (.cons rfl (.cons rfl (.cons rfl (.cons rfl (.cons rfl (.cons rfl .nil))))))) ⟨((Fr.refl [g9] _).step q40 (by first | (simp; done) | (simp; omega))), ⟨by omega, by rw [downP_succ (by omega), downS, if_neg c9]; exact hp, hmk⟩⟩ (by omega)
             · obtain rfl : m = (starts (dif xs ys)).length := by omega
               refine iex (te (te (xh (itn (isq (irg rfl ?_))))))
               refine cl (ev2 rfl rfl) co23 (turn_s g9 (fun k => (k < N ∧ k ≠ g9) ∨ NonCells w40 k) _ w0.heap.size 0 _ hp.addNon (fun k hk => by rcases hk with hk | ⟨o, ho, _⟩; exact Nat.lt_of_lt_of_le hk.1 (by omega); exact (Array.getElem?_eq_some_iff.1 ho).1) (by omega) (by have := (downP_ok hx hy hl (starts (dif xs ys)).length).2; omega)) rfl ?_
               rintro _ w44 ⟨hpn, Sx, hSx, q44⟩
               replace hmk := hmk.fr q44 (fun e => hSx _ e (.inr ⟨_, hmk, rfl⟩))
               have z44 := q44.size
               obtain ⟨v9, hb9, ho9, _⟩ := hpn
               rw [← shift_of] at ho9
               obtain ⟨A9, c9, rfl, hc9⟩ := ho9.sl.form
               refine kpL [(9, _)] (.cons rfl .nil) (inl (itn (isq (irg rfl (fad rfl fa61_0 rfl (s_loadB rfl hb9 rfl na31 rfl ?_))))))
               refine cl (ev1 rfl) co19 (clip_ok _ _ _ _ hc9) rfl ?_
               rintro _ _ ⟨rfl, rfl⟩
               refine asg rfl rfl (asg rfl rfl (inl (itn (irt (rM2 Tryd.results9 rfl rfl (marks1 hmk) (by simp) ?_)))))
               intro w45 q45
               replace ho9 := ho9.fr q45 (by intro k hk hb; simp at hk; subst hk; obtain ⟨o, h1, h2⟩ := ho9.isC _ hb; rw [show _ = some (Obj.deferred (some [])) from hmk] at h1; cases h1; cases h2)
               exact ⟨_, rfl, A9, rfl, by have := ho9.take rfl (Nat.le_refl _) hc9 (Nat.le_refl _); rwa [List.take_length] at this, ((((((((((((q1.next q2).next q3).next q4).next q5).step q6 (by first | (simp; done) | (simp; omega))).next q27).step q28 (by first | (simp; done) | (simp; omega))).next q29).next q33).step q40 (by first | (simp; done) | (simp; omega))).step q44 (fun k hk hlt => Classical.byContradiction fun e => hSx k hk (.inl ⟨by omega, fun e2 => by first | omega | exact e (by simp [e2])⟩))).step q45 (by first | (simp; done) | (simp; omega)))⟩
end Go.Proofs.YtacclnebhbakmaaDoor
