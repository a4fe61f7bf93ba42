/- Walks. -/
import Derived.Test.YtbalocjcbmkecaaGreatDoorRows
import Derived.Test.YtbalocjcbmkecaaGreatDoorW20
import Derived.Test.YtbalocjcbmkecaaGreatDoorXOp
import Derived.Test.YtbalocjcbmkecaaGreatDoorXMap
set_option linter.unusedVariables false
set_option linter.unusedSimpArgs false
namespace Go.Proofs.YtbalocjcbmkecaaGreatDoor
open Go.Lw
theorem co17 : CallOf Tryz.prog 17 := CallOf.mk' Tryz.func17 (by kernel_rfl) (by kernel_rfl)
theorem co18 : CallOf Tryz.prog 18 := CallOf.mk' Tryz.func18 (by kernel_rfl) (by kernel_rfl)
theorem co24 : CallOf Tryz.prog 24 := CallOf.mk' Tryz.func24 (by kernel_rfl) (by kernel_rfl)
theorem fa32_0 : FieldAt Tryz.prog 32 0 0 := fun _ _ => by kernel_rfl
theorem fa32_1 : FieldAt Tryz.prog 32 1 1 := fun _ _ => by kernel_rfl
theorem sz32 : SizeOf Tryz.prog 32 2 := fun _ => by kernel_rfl
theorem zv3 (w : World) : (zeroValue 3).run Tryz.prog w = .ok (.int .i64 0) w := by kernel_rfl
theorem zv32 (w : World) : (zeroValue 32).run Tryz.prog w = .ok (.agg #[(.int .i64 0), (.int .i64 0)]) w := by kernel_rfl
def encPs : Enc (Nat × Nat) := ⟨fun p => [.int .i64 (p.1 : Int), .int .i64 (p.2 : Int)], 2, fun _ => rfl, fun _ u h => by simp at h; rcases h with rfl | rfl <;> rfl, by decide⟩
theorem cut_sl {w : World} {A : Option Addr} {c : Nat} {os : List MOp} (hs : Sl encOp w (.slice A os.length c) os) (x : Ps os) : ∃ A2 c2, Value.slice (if c = x.1.1 then A else A.map (·.add (x.1.1 * encOp.sz))) (x.1.1 + x.1.2 - x.1.1) (c - x.1.1) = .slice A2 (sl2 os x.1).length c2 ∧ Sl encOp w (.slice A2 (sl2 os x.1).length c2) (sl2 os x.1) := by
  have h := hs.cutv (p := x.1.1) (p' := x.1.1 + x.1.2) (by omega) x.2
  have e : (os.take (x.1.1 + x.1.2)).drop x.1.1 = sl2 os x.1 := by rw [List.drop_take]; simp [sl2]
  have el : x.1.1 + x.1.2 - x.1.1 = (sl2 os x.1).length := by have := x.2; unfold sl2; rw [List.length_take, List.length_drop]; omega
  rw [e, el] at h
  exact ⟨_, _, by rw [el], h⟩
theorem cnt_t {os : List MOp} {pre : List (Ps os)} {x : Ps os} (h : (sl2 os x.1).any wk = true) : ((cntP os ((pre ++ [x]).map Subtype.val) : Nat) : Int) = (cntP os (pre.map Subtype.val) : Int) + 1 := by
  rw [List.map_append, List.map_singleton, cntP_snoc, if_pos h]; omega
theorem cnt_f {os : List MOp} {pre : List (Ps os)} {x : Ps os} (h : ¬ (sl2 os x.1).any wk = true) : ((cntP os ((pre ++ [x]).map Subtype.val) : Nat) : Int) = (cntP os (pre.map Subtype.val) : Int) := by
  rw [List.map_append, List.map_singleton, cntP_snoc, if_neg h]; omega
theorem any_at {q : List MOp} {j : Nat} (h : j < q.length) (hc : clsS (q.getD j op0).k ≠ 0) : q.any wk = true := by
  rw [List.any_eq_true]
  exact ⟨q.getD j op0, by rw [List.getD, List.getElem?_eq_getElem h]; exact List.getElem_mem _, decide_eq_true hc⟩
theorem any_no {q : List MOp} (h : ∀ j, j < q.length → clsS (q.getD j op0).k = 0) : ¬ q.any wk = true := by
  rw [List.any_eq_true]
  rintro ⟨o, ho, hw⟩
  obtain ⟨j, hj, rfl⟩ := List.mem_iff_getElem.1 ho
  have := h j hj
  rw [List.getD, List.getElem?_eq_getElem hj] at this
  exact (of_decide_eq_true hw) this
set_option maxHeartbeats 2000000 in
theorem count_ok (v : Value) (os : List MOp) (w0 : World) (hs : Sl encOp w0 v os) : Rets Tryz.prog 11 #[v] w0 fun r w' => r = .int .i64 (countS os) ∧ Fr [] w0 w' := by
 obtain ⟨A, c, rfl, hc, hM, hA⟩ := id hs
 clear hA
 unfold maxLen at hM
 refine weM [(0, .slice A os.length c)] Tryz.func11 rfl Tryz.ntmps11 rfl (.cons rfl .nil) ?_
 have hs0 := hs
 refine isq (irg rfl (bx rfl rfl rfl (fun g1 w1 hg1 hb1 q1 z1 => ?_)))
 refine asg rfl rfl (inl (itn (isq (isq (irg rfl (s_loadB0 rfl hb1 na25 rfl ?_))))))
 replace hs := hs0.ext q1
 refine cl (ev1 rfl) co17 (valid_ok _ os _ hs) rfl ?_
 rintro _ w2 ⟨bv, rfl, hbv, q2⟩
 have z2 := q2.size
 refine nt' rfl rfl (inl (itn ?_))
 refine icd rfl (fun c0 => ?_) (fun c0 => ?_)
 · have hnv : ¬ vldS os := fun h => by rw [hbv.2 h] at c0; cases c0
   refine isq (irg rfl (asg rfl rfl (inl (itn (irt (tr (rM1 Tryz.results11 rfl (by simp) (by simp) ?_)))))))
   intro w3 q3
   exact ⟨_, rfl, by rw [countS, if_neg hnv], ((q1.next q2).next q3)⟩
 · have hv : vldS os := hbv.1 (by revert c0; cases bv <;> simp)
   have hv1 : os.length ≤ 4096 := by have := hv.1; omega
   refine isk (itn (isq (irg rfl (al zv3 rfl rfl (fun g3 w4 hg3 hb3 q4 z4 => ?_)))))
   refine s_storeB0 rfl rfl hb3 rfl rfl sz3 (fun w5 hb3 q5 z5 => ?_)
   refine inl (itn (isq (isq (irg rfl ?_))))
   replace hb1 := (hb1.ext (q2.next q4)).fr q5 (by first | (simp; done) | (simp; omega) | (simp [blks]; done) | (simp [blks]; omega))
   refine s_loadB0 rfl hb1 na25 rfl ?_
   refine cl (ev1 rfl) co18 (divide_ok _ _ rfl) rfl ?_
   rintro _ w6 ⟨gD, rfl, hgD, hbD, q6⟩
   have z6 := q6.size
   refine inl (itn (ibl ?_))
   replace hs := hs0.ext ((((q1.next q2).next q4).step q5 (by first | (simp; done) | (simp; omega))).next q6)
   have hBl : ∀ b ∈ gD :: slB os.length (Value.slice A os.length c), b < w6.heap.size := by
     intro b hb
     rcases List.mem_cons.1 hb with rfl | hb
     · exact hbD.lt
     · exact slB_lt hs b hb
   have hBo : ∀ b ∈ slB os.length (Value.slice A os.length c), b < w0.heap.size := slB_lt hs0
   have ltD := hbD.lt
   replace hb3 := hb3.ext q6
   refine irng (α := Ps os) rfl co24 (by decide) (divide_seq 8 gD A c os w6 hbD hs hv.2 hv1) hBl (fun _ => rfl) (fun x => [(12, .agg #[.int .i64 (x.1.1 : Int), .int .i64 (x.1.2 : Int)])]) (fun x => by simp [psE, passV]) (fun _ => rfl) 32 (fun x => [.int .i64 (x.1.1 : Int), .int .i64 (x.1.2 : Int)]) (fun (s : List (Ps os)) (W : World) => Fr [g3] w6 W ∧ Blk W g3 3 [.int .i64 (cntP os (s.map Subtype.val) : Int)]) (fun s W W' ht h => ⟨h.1.turn ht (Nat.le_refl _), h.2.turn ht⟩) (fun s W W' hf h => ⟨h.1.next hf, h.2.ext hf⟩) (fun s W h => h.1.size) ⟨Fr.refl _ _, hb3⟩ 4 [(1, _), (3, _)] (.cons rfl (.cons rfl .nil)) ?_ ?_ ?_
   · rintro lN pre x w7 hsz ⟨q7, hb3⟩
     refine ikpC [(12, .agg #[.int .i64 (x.1.1 : Int), .int .i64 (x.1.2 : Int)]), (1, _), (3, _)] (.cons rfl (.cons rfl (.cons rfl .nil))) ?_
     refine irg rfl (al zv32 rfl rfl (fun g4 w8 hg4 hb4 q8 z8 => ?_))
     refine s_storeBA rfl rfl hb4 rfl (by first | (simp [Value.oneCell', S]; done) | exact Enc.one _ _) sz32 (fun w9 hb4 q9 z9 => ?_)
     refine inl ?_
     exact asE g4 (by omega) (.cons rfl (.cons rfl (.cons rfl .nil))) hb4 (q8.step q9 (by first | (simp; done) | (simp; omega)))
   · rintro lN pre x g4 w10 hg4 hb4 ⟨q10, hb3⟩ hlt
     have z10 := q10.size
     have lt_hb4 := hb4.lt
     have lt_hb3 := hb3.lt
     have hb3S := hb3
     have hcl := cntP_le os (pre.map Subtype.val)
     rw [List.length_map] at hcl
     have hx2 := x.2
     have hsl := sl2_le os x.1
     refine ibl (isq (irg rfl ?_))
     replace hb1 := (hb1.ext q6).fr q10 (by first | (simp; done) | (simp; omega) | (simp [blks]; done) | (simp [blks]; omega))
     refine s_loadB0 rfl hb1 na25 rfl (fad rfl fa32_0 rfl (s_loadB rfl hb4 rfl na3 rfl (fad rfl fa32_0 rfl (s_loadB rfl hb4 rfl na3 rfl (fad rfl fa32_1 rfl (s_loadB rfl hb4 rfl na3 rfl (s_add rfl rfl (wi6 (by omega)) rfl ?_)))))))
     refine s_sl_lh (p := x.1.1) (p' := x.1.1 + x.1.2) rfl rfl rfl el25 (by omega) (by omega) (by have := x.2; omega) (by omega) (by omega) rfl ?_
     obtain ⟨A2, c2, e2, hsc⟩ := cut_sl hs0 x
     rw [e2]
     have hsc0 := hsc
     refine lnS rfl Tryz.underlying25 rfl (mv rfl rfl (kpL [(3, _), (21, _), (22, _), (23, _)] (.cons rfl (.cons rfl (.cons rfl (.cons rfl .nil)))) (inl (itn (ibl ?_)))))
     refine ilpK (ι := Nat) [(3, _), (21, _), (22, _)] (fun j => [(23, .int .i64 (j : Int))]) (fun j w' => Fr [] w10 w' ∧ j ≤ (sl2 os x.1).length ∧ ∀ t, t < j → clsS ((sl2 os x.1).getD t op0).k = 0) (fun j => (sl2 os x.1).length - j) 0 (.cons rfl (.cons rfl (.cons rfl (.cons rfl .nil)))) ⟨Fr.refl _ _, ⟨by omega, fun t ht => absurd ht (by omega)⟩⟩ ?_
     rintro j w11 ⟨q11, ⟨hj, hno⟩⟩
     have z11 := q11.size
     refine ikpC [(3, _), (21, _), (22, _), (23, _)] (.cons rfl (.cons rfl (.cons rfl (.cons rfl .nil)))) ?_
     refine isq (irg rfl (lt' rfl rfl rfl (inl (itn (isq ?_)))))
     refine icd rfl (fun c1 => ?_) (fun c1 => ?_)
     · refine isk (itn (isq (ibl (isq (irg rfl ?_)))))
       replace hsc := hsc0.ext ((((((q1.next q2).next q4).step q5 (by first | (simp; done) | (simp; omega))).next q6).step q10 (by first | (simp; done) | (simp; omega))).next q11)
       refine s_idxL (p := j) (op0) rfl hsc rfl el25 (by omega) (by omega) (by omega) rfl (fun ad25 hc25 => ?_)
       refine s_loadA rfl (hc25 _ hsc) ag41 rfl (al zv41 rfl rfl (fun g6 w12 hg6 hb6 q12 z12 => ?_))
       refine s_storeBA rfl rfl hb6 rfl (by first | (simp [Value.oneCell', S]; done) | exact Enc.one _ _) sz41 (fun w13 hb6 q13 z13 => ?_)
       refine inl (itn (isq (irg rfl (s_loadBA rfl hb6 ag41 rfl ?_))))
       refine cl (ev1 rfl) co20 (class_ok ((sl2 os x.1).getD j op0) _) rfl ?_
       rintro _ w14 ⟨rfl, q14⟩
       have z14 := q14.size
       refine ne' rfl rfl rfl (inl (itn ?_))
       refine icd rfl (fun c2 => ?_) (fun c2 => ?_)
       · refine isq (irg rfl ?_)
         replace hb3 := ((hb3.ext (q11.next q12)).fr q13 (by first | (simp; done) | (simp; omega) | (simp [blks]; done) | (simp [blks]; omega))).ext q14
         refine s_loadB0 rfl hb3 na3 rfl (s_add rfl rfl (wi6 (by omega)) rfl (s_storeB0 rfl rfl hb3 rfl rfl sz3 (fun w15 hb3 q15 z15 => ?_)))
         refine kpL [] .nil (inl (itn (iex (xo rfl (te (te (xh (bn' ?_))))))))
         exact rndE ((((((Fr.refl [g3] _).next q11).next q12).step q13 (by first | (simp; done) | (simp; omega))).next q14).step q15 (by first | (simp; done) | (simp; omega))) (fun k hk _ => by cases List.mem_singleton.1 hk; exact hb3S.tyC (by decide)) (fun b hb => Nat.lt_of_lt_of_le (hBl b hb) (by omega)) (fun b hb e => by simp at e; rcases List.mem_cons.1 hb with h | h; omega; have := hBo b h; omega) ⟨(((((((Fr.refl [g3] _).step q10 (by first | (simp; done) | (simp; omega))).next q11).next q12).step q13 (by first | (simp; done) | (simp; omega))).next q14).step q15 (by first | (simp; done) | (simp; omega))), by rw [cnt_t (any_at (by omega) c2)]; exact hb3⟩
       · refine isk (bn' (itn (irg rfl (s_add rfl rfl (wi6 (by omega)) rfl (mv rfl rfl (inl ?_))))))
         exact ilpE (j + 1) (.cons rfl (.cons rfl (.cons rfl (.cons rfl .nil)))) ⟨(((q11.next q12).step q13 (by first | (simp; done) | (simp; omega))).next q14), ⟨by omega, fun t ht => by rcases Nat.lt_succ_iff_lt_or_eq.1 ht with h | rfl; exact hno t h; exact Classical.not_not.1 c2⟩⟩ (by omega)
     · obtain rfl : j = (sl2 os x.1).length := by omega
       refine iex (te (te (xh (bn' ?_))))
       replace hb3 := hb3.ext q11
       exact rndE ((Fr.refl [g3] _).next q11) (fun k hk _ => by cases List.mem_singleton.1 hk; exact hb3S.tyC (by decide)) (fun b hb => Nat.lt_of_lt_of_le (hBl b hb) (by omega)) (fun b hb e => by simp at e; rcases List.mem_cons.1 hb with h | h; omega; have := hBo b h; omega) ⟨(((Fr.refl [g3] _).step q10 (by first | (simp; done) | (simp; omega))).next q11), by rw [cnt_f (any_no hno)]; exact hb3⟩
   · rintro D1 xs w16 hD1 hS ⟨q16, hb3⟩ hmk
     have z16 := q16.size
     have hmk0 := hmk
     have lt_hmk := hmk.lt
     have lt_hb3 := hb3.lt
     rw [hS, cnt_div] at hb3
     refine bn' (itn (isq (irg rfl (s_loadB0 rfl hb3 na3 rfl (asg rfl rfl (kpL [(2, _)] (.cons rfl .nil) (inl (itn (irt (rM1 Tryz.results11 rfl (marks1 hmk) (by simp) ?_))))))))))
     intro w17 q17
     exact ⟨_, rfl, by rw [countS, if_pos hv], ((((((q1.next q2).next q4).step q5 (by first | (simp; done) | (simp; omega))).next q6).step q16 (by first | (simp; done) | (simp; omega))).step q17 (by first | (simp; done) | (simp; omega)))⟩
end Go.Proofs.YtbalocjcbmkecaaGreatDoor
