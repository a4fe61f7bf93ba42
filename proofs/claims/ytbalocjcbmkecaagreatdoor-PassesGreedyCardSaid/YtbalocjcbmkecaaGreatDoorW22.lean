/- Walks. -/
import Derived.Test.YtbalocjcbmkecaaGreatDoorRows
import Derived.Test.YtbalocjcbmkecaaGreatDoorW21
import Derived.Test.YtbalocjcbmkecaaGreatDoorXOp
import Derived.Test.YtbalocjcbmkecaaGreatDoorXMap
set_option linter.unusedVariables false
set_option linter.unusedSimpArgs false
namespace Go.Proofs.YtbalocjcbmkecaaGreatDoor
open Go.Lw
theorem ag32 : AggOf Tryz.prog 32 2 := ⟨fun _ => by kernel_rfl, fun _ => by kernel_rfl⟩
theorem el29 : ElemOf Tryz.prog 29 32 encPs 16 := ElemOf.mk' (z := (.agg #[.int .i64 0, .int .i64 0])) Tryz.underlying29 (by kernel_rfl) rfl
theorem na29 : NotAgg Tryz.prog 29 := fun _ => by kernel_rfl
theorem sz29 : SizeOf Tryz.prog 29 1 := fun _ => by kernel_rfl
theorem zv29 (w : World) : (zeroValue 29).run Tryz.prog w = .ok (.slice none 0 0) w := by kernel_rfl
set_option maxHeartbeats 2000000 in
theorem passes_ok (v : Value) (os : List MOp) (w0 : World) (hs : Sl encOp w0 v os) : Rets Tryz.prog 8 #[v] w0 fun r w' => ∃ A, r = .slice A (passS os).length (passS os).length ∧ Lw.Own encPs 32 w0.heap.size w' r (passS os) ∧ Fr [] w0 w' := by
 obtain ⟨A, c, rfl, hc, hM, hA⟩ := id hs
 clear hA
 unfold maxLen at hM
 have hdl := divS_len os
 refine weM [(0, .slice A os.length c)] Tryz.func8 rfl Tryz.ntmps8 rfl (.cons rfl .nil) ?_
 have hs0 := hs
 refine isq (irg rfl (asg rfl rfl (inl (itn (isq (isq (irg rfl (mv rfl rfl ?_))))))))
 refine cl (ev1 rfl) co17 (valid_ok _ os _ hs) rfl ?_
 rintro _ w1 ⟨bv, rfl, hbv, q1⟩
 have z1 := q1.size
 refine nt' rfl rfl (inl (itn ?_))
 refine icd rfl (fun c0 => ?_) (fun c0 => ?_)
 · have hnv : ¬ vldS os := fun h => by rw [hbv.2 h] at c0; cases c0
   refine isq (irg rfl (asg rfl rfl (inl (itn (irt (tr (rM1 Tryz.results8 rfl (by simp) (by simp) ?_)))))))
   intro w2 q2
   exact ⟨_, rfl, none, by rw [passS, if_neg hnv]; rfl, by rw [passS, if_neg hnv]; exact Own.nil _, (q1.next q2)⟩
 · have hv : vldS os := hbv.1 (by revert c0; cases bv <;> simp)
   have hv1 : os.length ≤ 4096 := by have := hv.1; omega
   refine isk (itn (isq (irg rfl (al zv29 rfl rfl (fun g3 w3 hg3 hb3 q3 z3 => ?_)))))
   refine inl (itn (isq (isq (irg rfl (mv rfl rfl ?_)))))
   refine cl (ev1 rfl) co18 (divide_ok _ _ rfl) rfl ?_
   rintro _ w4 ⟨gD, rfl, hgD, hbD, q4⟩
   have z4 := q4.size
   refine inl (itn (ibl ?_))
   replace hs := hs0.ext ((q1.next q3).next q4)
   have hBl : ∀ b ∈ gD :: slB os.length (Value.slice A os.length c), b < w4.heap.size := by
     intro b hb
     rcases List.mem_cons.1 hb with rfl | hb
     · exact hbD.lt
     · exact slB_lt hs b hb
   have hBo : ∀ b ∈ slB os.length (Value.slice A os.length c), b < w0.heap.size := slB_lt hs0
   have ltD := hbD.lt
   replace hb3 := hb3.ext q4
   refine irng (α := Ps os) rfl co24 (by decide) (divide_seq 8 gD A c os w4 hbD hs hv.2 hv1) hBl (fun _ => rfl) (fun x => [(11, .agg #[.int .i64 (x.1.1 : Int), .int .i64 (x.1.2 : Int)])]) (fun x => by simp [psE, passV]) (fun _ => rfl) 32 (fun x => [.int .i64 (x.1.1 : Int), .int .i64 (x.1.2 : Int)]) (fun (s : List (Ps os)) (W : World) => Fr [g3] w4 W ∧ ∃ A3 c3, Blk W g3 29 [.slice A3 (s.map Subtype.val).length c3] ∧ Lw.Own encPs 32 w4.heap.size W (.slice A3 (s.map Subtype.val).length c3) (s.map Subtype.val)) (fun s W W' ht h => ⟨h.1.turn ht (Nat.le_refl _), let ⟨A, c, h1, h2⟩ := h.2; ⟨A, c, h1.turn ht, h2.turn ht⟩⟩) (fun s W W' hf h => ⟨h.1.next hf, let ⟨A, c, h1, h2⟩ := h.2; ⟨A, c, h1.ext hf, h2.ext hf⟩⟩) (fun s W h => h.1.size) ⟨Fr.refl _ _, ⟨none, 0, hb3, Own.nil _⟩⟩ 4 [(3, _)] (.cons rfl .nil) ?_ ?_ ?_
   · rintro lN pre x w5 hsz ⟨q5, ⟨A3, c3, hb3, ho3⟩⟩
     refine ikpC [(11, .agg #[.int .i64 (x.1.1 : Int), .int .i64 (x.1.2 : Int)]), (3, _)] (.cons rfl (.cons rfl .nil)) ?_
     refine irg rfl (al zv32 rfl rfl (fun g4 w6 hg4 hb4 q6 z6 => ?_))
     refine s_storeBA rfl rfl hb4 rfl (by first | (simp [Value.oneCell', S]; done) | exact Enc.one _ _) sz32 (fun w7 hb4 q7 z7 => ?_)
     refine inl ?_
     exact asE g4 (by omega) (.cons rfl (.cons rfl .nil)) hb4 (q6.step q7 (by first | (simp; done) | (simp; omega)))
   · rintro lN pre x g4 w8 hg4 hb4 ⟨q8, ⟨A3, c3, hb3, ho3⟩⟩ hlt
     have z8 := q8.size
     have lt_hb4 := hb4.lt
     have lt_hb3 := hb3.lt
     have hb3S := hb3
     have ho3S := ho3
     have hx2 := x.2
     have hpl : (pre.map Subtype.val).length ≤ os.length := by rw [List.length_map]; omega
     refine ibl (irg rfl (s_loadB0 rfl hb3 na29 rfl (s_loadBA rfl hb4 ag32 rfl (s_bslice ([x.1]) (ev1 rfl) rfl rfl rfl el29 (Nat.le_of_ble_eq_true rfl) rfl (fun g14 w9 hg14 ho14 q9 z9 => ?_)))))
     replace hb3 := hb3.ext q9
     replace ho3 := ho3.ext q9
     have hoo15 := ho3
     refine s_append rfl rfl ho3 ho14.sl el29 (by unfold maxLen; simp only [List.length_cons, List.length_nil]; omega) (by simp only [List.length_cons, List.length_nil]; omega) (by omega) rfl (fun v15 w10 ho3 q10 hor15 => ?_)
     have z10 := q10.size
     replace hb3 := hb3.fr q10 (fun hk => by have := (hoo15.blk _ hk).1; omega)
     obtain ⟨A7, c7, rfl, hc7⟩ := ho3.sl.form
     refine s_storeB0 rfl rfl hb3 rfl rfl sz29 (fun w11 hb3 q11 z11 => ?_)
     refine kpL [] .nil (inl (bn' ?_))
     replace ho3 := ho3.fr q11 (by intro k hk hb; simp at hk; subst hk; have := (ho3.blk _ hb).1; omega)
     exact rndE ((((Fr.refl (g3 :: blks (Value.slice A3 (pre.map Subtype.val).length c3)) _).next q9).step q10 (fun k hk _ => List.mem_cons_of_mem _ hk)).step q11 (fun k hk _ => by cases List.mem_singleton.1 hk; exact List.mem_cons_self)) (fun k hk _ => by rcases List.mem_cons.1 hk with rfl | hk; exact hb3S.tyC (by decide); exact ho3S.tyC (by decide) k hk) (fun b hb => Nat.lt_of_lt_of_le (hBl b hb) (by omega)) (fun b hb e => by rcases List.mem_cons.1 e with rfl | e; rcases List.mem_cons.1 hb with h | h; omega; have := hBo _ h; omega; have := (ho3S.blk b e).1; have := hBl b hb; omega) ⟨(((((Fr.refl [g3] _).step q8 (by first | (simp; done) | (simp; omega))).next q9).step q10 (fun k hk hlt => absurd (hoo15.blk k hk).1 (by omega))).step q11 (by first | (simp; done) | (simp; omega))), by rw [List.map_append, List.map_singleton]; exact ⟨A7, c7, hb3, ho3⟩⟩
   · rintro D1 xs w12 hD1 hS ⟨q12, ⟨A3, c3, hb3, ho3⟩⟩ hmk
     have z12 := q12.size
     have hmk0 := hmk
     have lt_hmk := hmk.lt
     have lt_hb3 := hb3.lt
     rw [hS] at hb3 ho3
     refine bn' (itn (isq (irg rfl (s_loadB0 rfl hb3 na29 rfl (lnS rfl Tryz.underlying29 rfl ?_)))))
     refine s_makeSlice (m := (divS os).length) (c := (divS os).length) ((0, 0) : Nat × Nat) rfl rfl el29 zv32 rfl (Nat.le_refl _) (by omega) (by unfold maxLen; omega) rfl (fun g18 w13 hg18 ho5 q13 z13 => ?_)
     refine asg rfl rfl (kpL [(3, _), (5, _)] (.cons rfl (.cons rfl .nil)) (inl (itn (isq (irg rfl (mv rfl rfl ?_))))))
     replace hb3 := hb3.ext q13
     refine s_loadB0 rfl hb3 na29 rfl ?_
     replace ho3 := ho3.ext q13
     refine s_copy (zs := List.replicate (divS os).length ((0, 0) : Nat × Nat)) (by rw [List.length_replicate]; rfl) rfl (by rw [List.length_replicate]; exact ho5) ho3.sl (by rw [List.length_replicate]) el29 rfl (fun w14 ho5 q14 z14 => ?_)
     rw [List.length_replicate] at ho5
     refine inl (itn (isq (irg rfl (mv rfl rfl (asg rfl rfl (inl (itn (irt ?_))))))))
     replace hmk := hmk0.ext (q13.step q14 (by first | (simp; done) | (simp; omega)))
     refine rM1 Tryz.results8 rfl (marks1 hmk) (by simp) ?_
     intro w15 q15
     replace ho5 := ho5.fr q15 (by intro k hk hb; simp at hk; subst hk; have := (ho5.blk _ hb).1; omega)
     exact ⟨_, rfl, some ⟨g18, 0, none⟩, by rw [passS, if_pos hv], by rw [passS, if_pos hv]; exact ho5.low (by omega), ((((((q1.next q3).next q4).step q12 (by first | (simp; done) | (simp; omega))).next q13).step q14 (by first | (simp; done) | (simp; omega))).step q15 (by first | (simp; done) | (simp; omega)))⟩
end Go.Proofs.YtbalocjcbmkecaaGreatDoor
