/- Walks. -/
import Derived.Test.YtbalocjcbmkecaaGreatDoorRows
import Derived.Test.YtbalocjcbmkecaaGreatDoorW19
import Derived.Test.YtbalocjcbmkecaaGreatDoorXOp
import Derived.Test.YtbalocjcbmkecaaGreatDoorXMap
set_option linter.unusedVariables false
set_option linter.unusedSimpArgs false
namespace Go.Proofs.YtbalocjcbmkecaaGreatDoor
open Go.Lw
theorem bo32 : BuildAt Tryz.prog 32 [(0, 1), (1, 1)] [(.int .i64 0), (.int .i64 0)] := BuildAt.struct Tryz.underlying32 (fun _ => by kernel_rfl) (fun _ => by kernel_rfl)
theorem co25 : CallOf Tryz.prog 25 := CallOf.mk' Tryz.func25 (by kernel_rfl) (by kernel_rfl)
theorem na25 : NotAgg Tryz.prog 25 := fun _ => by kernel_rfl
theorem divide_ok (v : Value) (w0 : World) (hv : v.cells = #[v]) : Rets Tryz.prog 18 #[v] w0 fun r w' => ∃ g, r = .func (.func 24) #[] #[.pointer (some ⟨g, 0, none⟩)] ∧ w0.heap.size ≤ g ∧ Blk w' g 25 [v] ∧ Fr [] w0 w' := by
 refine we [(0, v)] Tryz.func18 rfl Tryz.ntmps18 rfl (.cons rfl .nil) ?_
 refine sr ?_
 refine bx rfl hv rfl (fun g1 w1 hg1 hb1 q1 z1 => ?_)
 refine asg rfl rfl (nn (sr (s_makeFunc evs_nil (ev1 rfl) rfl (asg rfl rfl (nn (rt (r1 Tryz.results18 rfl ?_)))))))
 exact ⟨_, rfl, g1, rfl, by omega, hb1, q1⟩
abbrev Ps (os : List MOp) := {p : Nat × Nat // p.1 + p.2 ≤ os.length}
def passV (p : Nat × Nat) : Value := .agg #[.int .i64 (p.1 : Int), .int .i64 (p.2 : Int)]
def psE {os : List MOp} (x : Ps os) : Array Value := #[passV x.1]
def lastO (os : List MOp) (last : Int) : Option MOp := if last < 0 then none else some (os.getD last.toNat op0)
theorem brk_k3 {os : List MOp} {last r : Int} {o : MOp} (h : o.k = 3) : brk (lastO os last) r o ↔ 0 ≤ last := by
  unfold lastO; split
  · simp [brk]; omega
  · simp [brk, h]; omega
theorem brk_wk {os : List MOp} {last r : Int} {o : MOp} (h : ¬ o.k = 3) (hc : clsS o.k ≠ 0) : brk (lastO os last) r o ↔ (0 ≤ last ∧ ¬ folS (os.getD last.toNat op0) o r) := by
  unfold lastO; split
  · simp only [brk, false_iff]; omega
  · simp only [brk, h, hc, false_or, ne_eq, not_false_iff, true_and]
    constructor
    · exact fun hf => ⟨by omega, hf⟩
    · exact fun hf => hf.2
theorem brk_id {os : List MOp} {last r : Int} {o : MOp} (h : ¬ o.k = 3) (hc : clsS o.k = 0) : ¬ brk (lastO os last) r o := by
  unfold lastO; split <;> simp [brk, h, hc]
theorem brk_t {os : List MOp} {last r : Int} {o : MOp} (h : ¬ o.k = 3) (hc : clsS o.k ≠ 0) (g : 0 ≤ last) : (!decide (folS (os.getD last.toNat op0) o r)) = decide (brk (lastO os last) r o) := by
  have e := brk_wk (os := os) (last := last) (r := r) h hc
  by_cases hf : folS (os.getD last.toNat op0) o r
  · rw [decide_eq_true hf, decide_eq_false (fun hb => (e.1 hb).2 hf)]; rfl
  · rw [decide_eq_false hf, decide_eq_true (e.2 ⟨g, hf⟩)]; rfl
theorem brk_f {os : List MOp} {last r : Int} {o : MOp} (h : ¬ o.k = 3) (hc : clsS o.k ≠ 0) (g : ¬ 0 ≤ last) : false = decide (brk (lastO os last) r o) := by
  rw [decide_eq_false (fun hb => g ((brk_wk h hc).1 hb).1)]
theorem lastO_neg (os : List MOp) : lastO os (-1) = none := rfl
theorem lastO_nat (os : List MOp) (i : Nat) : lastO os (i : Int) = some (os.getD i op0) := by unfold lastO; rw [if_neg (by omega), Int.toNat_natCast]
theorem loN_y {lo : Option MOp} {o : MOp} (h : clsS o.k ≠ 0) : loN lo o = some o := if_pos h
theorem loN_n {lo : Option MOp} {o : MOp} (h : ¬ clsS o.k ≠ 0) : loN lo o = lo := if_neg h
theorem div_cut {os : List MOp} {i a : Nat} {r : Int} {lo : Option MOp} (hi : i < os.length) (h : brk lo r (os.getD i op0)) : divF os.length (os.drop i) i a r lo = (a, i - a) :: divF os.length (os.drop (i + 1)) (i + 1) i (rkN r (os.getD i op0)) (loN none (os.getD i op0)) := by
  rw [drop_getD os i op0 hi, divF, if_pos h]
theorem div_on {os : List MOp} {i a : Nat} {r : Int} {lo : Option MOp} (hi : i < os.length) (h : ¬ brk lo r (os.getD i op0)) : divF os.length (os.drop i) i a r lo = divF os.length (os.drop (i + 1)) (i + 1) a (rkN r (os.getD i op0)) (loN lo (os.getD i op0)) := by
  rw [drop_getD os i op0 hi, divF, if_neg h]
theorem div_end {os : List MOp} {a : Nat} {r : Int} {lo : Option MOp} : divF os.length (os.drop os.length) os.length a r lo = if a < os.length then [(a, os.length - a)] else [] := by rw [List.drop_length]; rfl
theorem rkN_rng {r : Int} {o : MOp} (h : -4 ≤ r ∧ r ≤ 4) (ho : chkO o = 0) : -4 ≤ rkN r o ∧ rkN r o ≤ 4 := by
  have := chk_rng ho
  unfold rkN; split <;> omega
set_option maxHeartbeats 2000000 in
theorem divide_seq (N gD : Nat) (A : Option Addr) (c : Nat) (os : List MOp) (wS : World) (hbS : Blk wS gD 25 [.slice A os.length c]) (hsS : Sl encOp wS (.slice A os.length c) os) (hc : ∀ o ∈ os, chkO o = 0) (hl : os.length ≤ 4096) : SeqStopsK (Fo none) N Tryz.prog 24 #[.pointer (some ⟨gD, 0, none⟩)] psE (KeepT [41, 25] (gD :: slB os.length (.slice A os.length c))) (fun xs : List (Ps os) => xs.map Subtype.val = divS os) (fun _ => True) (os.length + 1) wS := by
 intro ly J Jx w0 hbel hA hAx hyp hJ0
 obtain ⟨B0, hB0⟩ : ∃ B0, B0 = w0.heap.size := ⟨_, rfl⟩
 rw [← hB0] at hA
 clear hB0
 have hF : Fr [] wS w0 := Fr.of_below' hbel (Nat.le_refl _)
 have hb1 := hbS.ext hF
 have hs := hsS.ext hF
 have hJ : JAt J B0 [] w0 := ⟨hJ0, hA⟩
 have hoc := all_getD hc
 have hpr : ∀ j, j < os.length → -9223372036854775808 ≤ (os.getD j op0).p ∧ (os.getD j op0).p ≤ 9223372036854775807 := fun j hj => by have := chk_nd (hoc j hj); omega
 refine weI [(0, .func (.yield ly) #[] #[]), (1, .pointer (some ⟨gD, 0, none⟩))] Tryz.func24 rfl Tryz.ntmps24 rfl (.cons rfl (.cons rfl .nil)) ?_
 have hb10 := hb1
 have hs0 := hs
 have hJ0 := hJ
 refine isq (irg rfl (asg rfl rfl (asg rfl rfl (inl (itn (isq (irg rfl (asg rfl rfl (inl (itn (isq ?_)))))))))))
 refine isq (irg rfl (s_loadB0 rfl hb1 na25 rfl (lnS rfl Tryz.underlying25 rfl (mv rfl rfl (inl (itn (ibl ?_)))))))
 refine ilpK (ι := Nat × Nat × Int × Int × List (Ps os)) [(0, _), (1, _), (9, _), (10, _)] (fun p => [(3, .int .i64 (p.2.1 : Int)), (4, .int .i64 p.2.2.1), (5, .int .i64 p.2.2.2.1), (11, .int .i64 (p.1 : Int))]) (fun p w' => p.1 ≤ os.length ∧ p.2.1 ≤ p.1 ∧ (p.2.2.2.1 = -1 ∨ 0 ≤ p.2.2.2.1 ∧ p.2.2.2.1 < p.1) ∧ (-4 ≤ p.2.2.1 ∧ p.2.2.1 ≤ 4) ∧ p.2.2.2.2.map Subtype.val ++ divF os.length (os.drop p.1) p.1 p.2.1 p.2.2.1 (lastO os p.2.2.2.1) = divS os ∧ JAt J B0 p.2.2.2.2 w' ∧ Blk w' gD 25 [.slice A os.length c] ∧ Sl encOp w' (.slice A os.length c) os) (fun p => os.length - p.1) (0, 0, 0, -1, []) (.cons rfl (.cons rfl (.cons rfl (.cons rfl (.cons rfl (.cons rfl (.cons rfl (.cons rfl .nil)))))))) ⟨Nat.zero_le _, Nat.le_refl _, .inl rfl, by simp only; omega, rfl, hJ, hb1, hs⟩ ?_
 rintro ⟨i, a, r, last, pre⟩ w1 ⟨hi, ha, hla, hr, hdv, hJ, hb1, hs⟩
 simp only at hi ha hla hr hdv hJ
 have hJ0 := hJ
 have hb10 := hb1
 have hs0 := hs
 refine ikpC [(0, _), (1, _), (9, _), (10, _), (3, .int .i64 (a : Int)), (4, .int .i64 r), (5, .int .i64 last), (11, .int .i64 (i : Int))] (.cons rfl (.cons rfl (.cons rfl (.cons rfl (.cons rfl (.cons rfl (.cons rfl (.cons rfl .nil)))))))) ?_
 refine isq (irg rfl (lt' rfl rfl rfl (inl (itn (isq ?_)))))
 refine icd rfl (fun c0 => ?_) (fun c0 => ?_)
 · refine isk (itn (isq (ibl (isq (irg rfl (mv rfl rfl (s_idxL (p := i) (op0) rfl hs rfl el25 (by omega) (by omega) (by omega) rfl (fun ad14 hc14 => ?_))))))))
   refine s_loadA rfl (hc14 _ hs) ag41 rfl (al zv41 rfl rfl (fun g7 w2 hg7 hb7 q2 z2 => ?_))
   refine asg rfl rfl (s_storeBA rfl rfl hb7 rfl (by first | (simp [Value.oneCell', S]; done) | exact Enc.one _ _) sz41 (fun w3 hb7 q3 z3 => ?_))
   refine inl (itn (isq (irg rfl (asg rfl rfl (inl (itn ?_))))))
   refine ijn (ι := Unit) [(0, _), (1, _), (3, _), (5, _), (6, _), (7, _), (9, _), (10, _), (11, _)] (fun _j => [(4, .int .i64 (rkN r (os.getD i op0))), (8, .bool (decide (brk (lastO os last) r (os.getD i op0))))]) (fun _j w' => Fr [] w3 w') (.cons rfl (.cons rfl (.cons rfl (.cons rfl (.cons rfl (.cons rfl (.cons rfl (.cons rfl (.cons rfl .nil))))))))) ?_ ?_
   · refine ibl (isq (irg rfl (fad rfl fa41_0 rfl (s_loadB rfl hb7 rfl na35 rfl (eq' rfl rfl rfl (asg rfl rfl (inl (itn ?_))))))))
     refine icd rfl (fun c1 => ?_) (fun c1 => ?_)
     · refine isq (irg rfl (mv rfl rfl (ge' rfl rfl rfl (asg rfl rfl (inl (itn (irg rfl (fad rfl fa41_4 rfl (s_loadB rfl hb7 rfl na3 rfl (asg rfl rfl (inl ?_)))))))))))
       refine bn' ?_
       exact ijE (()) (.cons rfl (.cons rfl (.cons rfl (.cons rfl (.cons rfl (.cons rfl (.cons rfl (.cons rfl (.cons rfl (.cons (by first | (rw [show rkN r (os.getD i op0) = (os.getD i op0).r from if_pos c1]; rfl) | (rw [show rkN r (os.getD i op0) = r from if_neg c1]; rfl)) (.cons (congrArg (fun z => some (Value.bool z)) (by first | exact (decide_eq_decide.2 (brk_k3 c1)).symm | (rw [decide_eq_false (brk_id c1 (Classical.not_not.1 c2))]) | exact brk_t c1 c2 g0 | exact brk_f c1 c2 g0)) .nil))))))))))) (Fr.refl _ _)
     · refine isq (irg rfl (s_loadBA rfl hb7 ag41 rfl ?_))
       refine cl (ev1 rfl) co20 (class_ok (os.getD i op0) _) rfl ?_
       rintro _ w4 ⟨rfl, q4⟩
       have z4 := q4.size
       refine ne' rfl rfl rfl (asg rfl rfl (inl (itn ?_)))
       refine icd rfl (fun c2 => ?_) (fun c2 => ?_)
       · replace hJ := hJ0.ext ((q2.step q3 (by first | (simp; done) | (simp; omega))).next q4)
         replace hb1 := hb10.ext ((q2.step q3 (by first | (simp; done) | (simp; omega))).next q4)
         replace hs := hs0.ext ((q2.step q3 (by first | (simp; done) | (simp; omega))).next q4)
         replace hb7 := hb7.ext q4
         intro a h
         have qh10 := Fr.refl [] w4
         refine ireg_held (fun wb w' => Fr [] wb w') rfl hmix ?_; intro w5 hq
         have z5 := hq.size
         replace hJ := hJ.ext hq
         replace hb1 := hb1.ext hq
         replace hs := hs.ext hq
         replace hb7 := hb7.ext hq
         replace qh10 := qh10.next hq
         have hsz := hq.size; clear hq; have hC : Fr [] w5 w5 := Fr.refl _ _
         have hJ_b := hJ
         have hb1_b := hb1
         have hs_b := hs
         have hb7_b := hb7
         refine hd_move 0 (by kernel_rfl) (by kernel_rfl) (by kernel_rfl) hC h wn rfl rfl rfl ?_; clear h a; intro a h
         refine hd_ge 1 (by kernel_rfl) (by kernel_rfl) (by kernel_rfl) hC h wn rfl rfl rfl rfl ?_; clear h a; intro a h
         refine hd_move 2 (by kernel_rfl) (by kernel_rfl) (by kernel_rfl) hC h wn rfl rfl rfl ?_; clear h a; intro a h
         first | refine guard_dec (D := 30) h rfl ?_ ?_ | refine guard_ndec (D := 30) h rfl ?_ ?_ | refine guard_any (D := 30) h rfl ?_ ?_
         · clear h; intro g0 h
           refine hd_loadB0 3 (by kernel_rfl) (by kernel_rfl) (by kernel_rfl) hC h (wy rfl) rfl (fun _ hw => hb1_b.ext hw) na25 rfl rfl ?_; clear h a; intro a h
           refine hd_move 4 (by kernel_rfl) (by kernel_rfl) (by kernel_rfl) hC h (wy rfl) rfl rfl rfl ?_; clear h a; intro a h
           refine hd_idxL (p := last.toNat) (op0) 5 (by kernel_rfl) (by kernel_rfl) (by kernel_rfl) hC h (wy rfl) rfl hs rfl el25 (by omega) (by omega) (by omega) rfl rfl ?_; clear h a; intro ad33 hc33 a h
           refine hd_loadA 6 (by kernel_rfl) (by kernel_rfl) (by kernel_rfl) hC h (wy rfl) rfl (fun _ hw => hc33 _ (hs_b.ext hw)) ag41 rfl rfl ?_; clear h a; intro a h
           refine hd_loadBA 7 (by kernel_rfl) (by kernel_rfl) (by kernel_rfl) hC h (wy rfl) rfl (fun _ hw => hb7_b.ext hw) ag41 rfl rfl ?_; clear h a; intro a h
           refine hd_move 8 (by kernel_rfl) (by kernel_rfl) (by kernel_rfl) hC h (wy rfl) rfl rfl rfl ?_; clear h a; intro a h
           refine hd_one 9 (by kernel_rfl) rfl ?_
           refine gd_yes h rfl rfl rfl rfl rfl rfl ?_
           refine st_call h (evs_cons rfl (evs_cons rfl (evs_cons rfl evs_nil))) co25 (follows_ok (os.getD last.toNat op0) (os.getD i op0) _ _ (hpr _ (by omega)) (hpr i (by omega))) rfl ?_; clear h a; rintro _ w6 ⟨rfl, hq⟩ a h
           have z6 := hq.size
           replace hJ := hJ.ext hq
           replace hb1 := hb1.ext hq
           replace hs := hs.ext hq
           replace hb7 := hb7.ext hq
           replace qh10 := qh10.next hq
           replace hC := hC.next hq
           clear hq
           refine hd_next hC ?_
           refine hd_not 10 (by kernel_rfl) (by kernel_rfl) (by kernel_rfl) hC h (wy rfl) rfl rfl rfl ?_; clear h a; intro a h
           refine hd_one 11 (by kernel_rfl) rfl ?_
           refine st_pick_t h rfl rfl rfl rfl ?_; clear h a; intro a h
           refine hd_next hC ?_
           refine hd_one 12 (by kernel_rfl) rfl ?_
           refine st_assign h rfl rfl ?_; clear h a; intro a h
           refine hd_next hC ?_
           refine hd_end (by kernel_rfl) ?_
           clear hC hJ_b hb1_b hs_b hb7_b
           have z6 := qh10.size
           refine bk (h.sub (L' := [(0, _), (1, _), (3, _), (4, _), (5, _), (6, _), (7, _), (8, _), (9, _), (10, _), (11, _)]) (.cons rfl (.cons rfl (.cons rfl (.cons rfl (.cons rfl (.cons rfl (.cons rfl (.cons rfl (.cons rfl (.cons rfl (.cons rfl .nil)))))))))))) ?_; clear h a
           refine bn' ?_
           exact ijE (()) (.cons rfl (.cons rfl (.cons rfl (.cons rfl (.cons rfl (.cons rfl (.cons rfl (.cons rfl (.cons rfl (.cons (by first | (rw [show rkN r (os.getD i op0) = (os.getD i op0).r from if_pos c1]; rfl) | (rw [show rkN r (os.getD i op0) = r from if_neg c1]; rfl)) (.cons (congrArg (fun z => some (Value.bool z)) (by first | exact (decide_eq_decide.2 (brk_k3 c1)).symm | (rw [decide_eq_false (brk_id c1 (Classical.not_not.1 c2))]) | exact brk_t c1 c2 g0 | exact brk_f c1 c2 g0)) .nil))))))))))) (q4.next qh10)
         · clear h; intro g0 h
           refine hd_gn 3 (by kernel_rfl) (by kernel_rfl) (by kernel_rfl) hC h rfl rfl rfl rfl ?_; clear h a; intro a h
           refine hd_gn 4 (by kernel_rfl) (by kernel_rfl) (by kernel_rfl) hC h rfl rfl rfl rfl ?_; clear h a; intro a h
           refine hd_gn 5 (by kernel_rfl) (by kernel_rfl) (by kernel_rfl) hC h rfl rfl rfl rfl ?_; clear h a; intro a h
           refine hd_gn 6 (by kernel_rfl) (by kernel_rfl) (by kernel_rfl) hC h rfl rfl rfl rfl ?_; clear h a; intro a h
           refine hd_gn 7 (by kernel_rfl) (by kernel_rfl) (by kernel_rfl) hC h rfl rfl rfl rfl ?_; clear h a; intro a h
           refine hd_gn 8 (by kernel_rfl) (by kernel_rfl) (by kernel_rfl) hC h rfl rfl rfl rfl ?_; clear h a; intro a h
           refine hd_gn 9 (by kernel_rfl) (by kernel_rfl) (by kernel_rfl) hC h rfl rfl rfl rfl ?_; clear h a; intro a h
           refine hd_gn 10 (by kernel_rfl) (by kernel_rfl) (by kernel_rfl) hC h rfl rfl rfl rfl ?_; clear h a; intro a h
           refine hd_one 11 (by kernel_rfl) rfl ?_
           refine st_pick_f h rfl rfl rfl rfl ?_; clear h a; intro a h
           refine hd_next hC ?_
           refine hd_one 12 (by kernel_rfl) rfl ?_
           refine st_assign h rfl rfl ?_; clear h a; intro a h
           refine hd_next hC ?_
           refine hd_end (by kernel_rfl) ?_
           clear hC hJ_b hb1_b hs_b hb7_b
           have z5 := qh10.size
           refine bk (h.sub (L' := [(0, _), (1, _), (3, _), (4, _), (5, _), (6, _), (7, _), (8, _), (9, _), (10, _), (11, _)]) (.cons rfl (.cons rfl (.cons rfl (.cons rfl (.cons rfl (.cons rfl (.cons rfl (.cons rfl (.cons rfl (.cons rfl (.cons rfl .nil)))))))))))) ?_; clear h a
           refine bn' ?_
           exact ijE (()) (.cons rfl (.cons rfl (.cons rfl (.cons rfl (.cons rfl (.cons rfl (.cons rfl (.cons rfl (.cons rfl (.cons (by first | (rw [show rkN r (os.getD i op0) = (os.getD i op0).r from if_pos c1]; rfl) | (rw [show rkN r (os.getD i op0) = r from if_neg c1]; rfl)) (.cons (congrArg (fun z => some (Value.bool z)) (by first | exact (decide_eq_decide.2 (brk_k3 c1)).symm | (rw [decide_eq_false (brk_id c1 (Classical.not_not.1 c2))]) | exact brk_t c1 c2 g0 | exact brk_f c1 c2 g0)) .nil))))))))))) (q4.next qh10)
       · refine isk (bn' ?_)
         exact ijE (()) (.cons rfl (.cons rfl (.cons rfl (.cons rfl (.cons rfl (.cons rfl (.cons rfl (.cons rfl (.cons rfl (.cons (by first | (rw [show rkN r (os.getD i op0) = (os.getD i op0).r from if_pos c1]; rfl) | (rw [show rkN r (os.getD i op0) = r from if_neg c1]; rfl)) (.cons (congrArg (fun z => some (Value.bool z)) (by first | exact (decide_eq_decide.2 (brk_k3 c1)).symm | (rw [decide_eq_false (brk_id c1 (Classical.not_not.1 c2))]) | exact brk_t c1 c2 g0 | exact brk_f c1 c2 g0)) .nil))))))))))) q4
   · rintro _j w7 q7
     have z7 := q7.size
     refine ikpC [(0, _), (1, _), (3, _), (5, _), (6, _), (7, _), (9, _), (10, _), (11, _), (4, _), (8, _)] (.cons rfl (.cons rfl (.cons rfl (.cons rfl (.cons rfl (.cons rfl (.cons rfl (.cons rfl (.cons rfl (.cons rfl (.cons rfl .nil))))))))))) ?_
     refine isq (isq (irg rfl (mv rfl rfl (inl (itn ?_)))))
     refine icd rfl (fun c3 => ?_) (fun c3 => ?_)
     · rw [div_cut (by omega) c3] at hdv
       have hpl : pre.length < os.length + 1 := by have h1 := congrArg List.length hdv; have h2 := divS_len os; simp only [List.length_append, List.length_map, List.length_cons] at h1; omega
       refine isq (isq (iry 6 rfl rfl rfl (by intro g e; cases e) (mv rfl rfl (mv rfl rfl (mv rfl rfl (mv rfl rfl (s_sub rfl rfl (wi6 (by omega)) rfl (s_lit (cs := [_, _]) (ev2 rfl rfl) bo32 (pok_cons rfl rfl rfl (pok_cons rfl rfl rfl pok_nil)) rfl rfl ?_))))))))
       replace hb7 := hb7.ext q7
       replace hb1 := hb10.ext ((q2.step q3 (by first | (simp; done) | (simp; omega))).next q7)
       replace hs := hs0.ext ((q2.step q3 (by first | (simp; done) | (simp; omega))).next q7)
       have hb7s := hb7
       have hb1s := hb1
       have hss := hs
       replace hJ := hJ0.ext ((q2.step q3 (by first | (simp; done) | (simp; omega))).next q7)
       refine yld rfl (ev1 rfl) (yat (x := ⟨(a, i - a), by simp only; omega⟩) hyp hJ hpl (by simp [psE, passV]; omega)) rfl ?_
       rintro _ w8 (⟨rfl, hJ', hK'⟩ | ⟨rfl, hJx'⟩)
       · have hb7 := hb7s.keepT hK' (by decide)
         have hb1 := hb1s.keep hK'.1 List.mem_cons_self
         have hs := hss.keep hK'.1 (fun hne k hk => List.mem_cons_of_mem _ (slB_in hne k hk))
         have hJ : JAt J B0 _ w8 := ⟨hJ', hA⟩
         have hJ0 := hJ
         have hb10 := hb1
         have hs0 := hs
         have hb70 := hb7
         refine nt' rfl rfl (kpL [(0, _), (1, _), (4, _), (6, _), (7, _), (9, _), (10, _), (11, _), (48, _)] (.cons rfl (.cons rfl (.cons rfl (.cons rfl (.cons rfl (.cons rfl (.cons rfl (.cons rfl (.cons rfl .nil))))))))) (inl (itn (icf rfl (isk (itn (irg rfl (mv rfl rfl (asg rfl rfl (asg rfl rfl (inl ?_)))))))))))
         refine itn (isq (irg rfl (s_loadBA rfl hb7 ag41 rfl ?_)))
         refine cl (ev1 rfl) co20 (class_ok (os.getD i op0) _) rfl ?_
         rintro _ w9 ⟨rfl, q9⟩
         have z9 := q9.size
         refine ne' rfl rfl rfl (inl (itn ?_))
         refine icd rfl (fun c5 => ?_) (fun c5 => ?_)
         · refine irg rfl (mv rfl rfl (asg rfl rfl (inl (bn' (itn (irg rfl (s_add rfl rfl (wi6 (by omega)) rfl (mv rfl rfl (inl ?_)))))))))
           replace hJ := hJ0.ext q9
           replace hb1 := hb10.ext q9
           replace hs := hs0.ext q9
           exact ilpE ((i + 1, i, rkN r (os.getD i op0), (i : Int), pre ++ [⟨(a, i - a), show a + (i - a) ≤ os.length by omega⟩])) (.cons rfl (.cons rfl (.cons rfl (.cons rfl (.cons rfl (.cons rfl (.cons rfl (.cons rfl .nil)))))))) ⟨by first | (simp only; omega) | simp, by first | (simp only; omega) | simp, by first | exact .inl rfl | (simp only; omega) | simp, rkN_rng hr (hoc i (by omega)), by rw [loN_y c5] at hdv; simp only [lastO_nat]; simpa using hdv, hJ, hb1, hs⟩ (by omega)
         · refine isk (bn' (itn (irg rfl (s_add rfl rfl (wi6 (by omega)) rfl (mv rfl rfl (inl ?_))))))
           replace hJ := hJ0.ext q9
           replace hb1 := hb10.ext q9
           replace hs := hs0.ext q9
           exact ilpE ((i + 1, i, rkN r (os.getD i op0), -1, pre ++ [⟨(a, i - a), show a + (i - a) ≤ os.length by omega⟩])) (.cons rfl (.cons rfl (.cons rfl (.cons rfl (.cons rfl (.cons rfl (.cons rfl (.cons rfl .nil)))))))) ⟨by first | (simp only; omega) | simp, by first | (simp only; omega) | simp, by first | exact .inl rfl | (simp only; omega) | simp, rkN_rng hr (hoc i (by omega)), by rw [loN_n c5] at hdv; simp only [lastO_neg]; simpa using hdv, hJ, hb1, hs⟩ (by omega)
       · skip
         refine nt' rfl rfl (kpL [(0, _), (1, _), (4, _), (6, _), (7, _), (9, _), (10, _), (11, _), (48, _)] (.cons rfl (.cons rfl (.cons rfl (.cons rfl (.cons rfl (.cons rfl (.cons rfl (.cons rfl (.cons rfl .nil))))))))) (inl (itn (ict rfl (irt (tr (tr (rb (tr (tr (rb ?_)))))))))))
         refine tr (r0 Tryz.results24  ?_)
         exact ⟨⟨_, rfl⟩, .inr ⟨_, trivial, hJx'⟩⟩
     · rw [div_on (by omega) c3] at hdv
       refine isk (itn (isq (irg rfl ?_)))
       replace hb7 := hb7.ext q7
       refine s_loadBA rfl hb7 ag41 rfl ?_
       refine cl (ev1 rfl) co20 (class_ok (os.getD i op0) _) rfl ?_
       rintro _ w10 ⟨rfl, q10⟩
       have z10 := q10.size
       refine ne' rfl rfl rfl (inl (itn ?_))
       refine icd rfl (fun c5 => ?_) (fun c5 => ?_)
       · refine irg rfl (mv rfl rfl (asg rfl rfl (inl (bn' (itn (irg rfl (s_add rfl rfl (wi6 (by omega)) rfl (mv rfl rfl (inl ?_)))))))))
         replace hJ := hJ0.ext (((q2.step q3 (by first | (simp; done) | (simp; omega))).next q7).next q10)
         replace hb1 := hb10.ext (((q2.step q3 (by first | (simp; done) | (simp; omega))).next q7).next q10)
         replace hs := hs0.ext (((q2.step q3 (by first | (simp; done) | (simp; omega))).next q7).next q10)
         exact ilpE ((i + 1, a, rkN r (os.getD i op0), (i : Int), pre)) (.cons rfl (.cons rfl (.cons rfl (.cons rfl (.cons rfl (.cons rfl (.cons rfl (.cons rfl .nil)))))))) ⟨by first | (simp only; omega) | simp, by first | (simp only; omega) | simp, by first | exact .inl rfl | (simp only; omega) | simp, rkN_rng hr (hoc i (by omega)), by rw [loN_y c5] at hdv; simp only [lastO_nat]; simpa using hdv, hJ, hb1, hs⟩ (by omega)
       · refine isk (bn' (itn (irg rfl (s_add rfl rfl (wi6 (by omega)) rfl (mv rfl rfl (inl ?_))))))
         replace hJ := hJ0.ext (((q2.step q3 (by first | (simp; done) | (simp; omega))).next q7).next q10)
         replace hb1 := hb10.ext (((q2.step q3 (by first | (simp; done) | (simp; omega))).next q7).next q10)
         replace hs := hs0.ext (((q2.step q3 (by first | (simp; done) | (simp; omega))).next q7).next q10)
         exact ilpE ((i + 1, a, rkN r (os.getD i op0), last, pre)) (.cons rfl (.cons rfl (.cons rfl (.cons rfl (.cons rfl (.cons rfl (.cons rfl (.cons rfl .nil)))))))) ⟨by first | (simp only; omega) | simp, by first | (simp only; omega) | simp, by first | exact .inl rfl | (simp only; omega) | simp, rkN_rng hr (hoc i (by omega)), by rw [loN_n c5] at hdv; simp only [List.map_append]; simpa using hdv, hJ, hb1, hs⟩ (by omega)
 · obtain rfl : i = os.length := by omega
   rw [div_end] at hdv
   refine iex (te (te (xh (itn (isq (irg rfl (mv rfl rfl (s_loadB0 rfl hb1 na25 rfl (lnS rfl Tryz.underlying25 rfl (lt' rfl rfl rfl (kpL [(0, _), (1, _), (3, _), (58, _)] (.cons rfl (.cons rfl (.cons rfl (.cons rfl .nil)))) ?_)))))))))))
   refine inl (itn ?_)
   refine icd rfl (fun c6 => ?_) (fun c6 => ?_)
   · rw [if_pos (by omega)] at hdv
     have hpl : pre.length < os.length + 1 := by have h1 := congrArg List.length hdv; have h2 := divS_len os; simp only [List.length_append, List.length_map, List.length_cons] at h1; omega
     refine iry 7 rfl rfl rfl (by intro g e; cases e) (mv rfl rfl (mv rfl rfl (s_loadB0 rfl hb1 na25 rfl (lnS rfl Tryz.underlying25 rfl (mv rfl rfl (s_sub rfl rfl (wi6 (by omega)) rfl (s_lit (cs := [_, _]) (ev2 rfl rfl) bo32 (pok_cons rfl rfl rfl (pok_cons rfl rfl rfl pok_nil)) rfl rfl ?_)))))))
     refine yld rfl (ev1 rfl) (yat (x := ⟨(a, os.length - a), by simp only; omega⟩) hyp hJ hpl (by simp [psE, passV]; omega)) rfl ?_
     rintro _ w11 (⟨rfl, hJ', hK'⟩ | ⟨rfl, hJx'⟩)
     · skip
       refine kpL [] .nil (inl (r0n Tryz.results24  ?_))
       exact ⟨⟨_, rfl⟩, .inl ⟨pre ++ [_], by simpa using hdv, hJ'⟩⟩
     · skip
       refine kpL [] .nil (inl (r0n Tryz.results24  ?_))
       exact ⟨⟨_, rfl⟩, .inr ⟨_, trivial, hJx'⟩⟩
   · rw [if_neg (by omega), List.append_nil] at hdv
     refine isk (r0n Tryz.results24  ?_)
     exact ⟨⟨_, rfl⟩, .inl ⟨pre, hdv, hJ.1⟩⟩
end Go.Proofs.YtbalocjcbmkecaaGreatDoor
