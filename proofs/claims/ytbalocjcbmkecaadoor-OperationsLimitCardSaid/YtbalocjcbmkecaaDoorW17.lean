/- Walks. -/
import Derived.Test.YtbalocjcbmkecaaDoorRows
import Derived.Test.YtbalocjcbmkecaaDoorW16
import Derived.Test.YtbalocjcbmkecaaDoorXOp
import Derived.Test.YtbalocjcbmkecaaDoorXMap
set_option linter.unusedVariables false
set_option linter.unusedSimpArgs false
namespace Go.Proofs.YtbalocjcbmkecaaDoor
open Go.Lw
theorem co22 : CallOf Tryd.prog 22 := CallOf.mk' Tryd.func22 (by kernel_rfl) (by kernel_rfl)
def arF (ar : List UInt8) (i : Nat) : Int := if i < ar.length then ((ar.getD i 0).toNat : Int) else 0
def sA (a : Int) : List UInt8 := if a / 2 % 2 = 1 then [32, 32, 32] else []
def sB (a : Int) : List UInt8 := if a / 4 % 2 = 1 then [32, 32] else []
def sR (a : Int) (rm : List UInt8) : List UInt8 := if a / 8 % 2 = 1 then [35] ++ rm else []
theorem dress_succ (os : List MOp) (ar : Nat → Int) (rm : List UInt8) (i : Nat) : dressT os ar rm (i + 1) = dressT os ar rm i ++ preD (ar i) ++ sA (ar i) ++ txtO (os.getD i op0) ++ sB (ar i) ++ sR (ar i) rm ++ (if i + 1 < os.length ∨ ar i / 16 % 2 = 1 then [10] else []) := by
  rw [dressT]; unfold bodyD sA sB sR; simp only [List.append_assoc]
theorem arF_rng (ar : List UInt8) (i : Nat) : 0 ≤ arF ar i ∧ arF ar i ≤ 255 := by
  unfold arF; split
  · have := (ar.getD i 0).toNat_lt; omega
  · omega
theorem d_lens (a : Int) {rm : List UInt8} (h : rm.length ≤ 20) : (preD a).length ≤ 4 ∧ (sA a).length ≤ 3 ∧ (sB a).length ≤ 2 ∧ (sR a rm).length ≤ 21 := by
  unfold preD sA sB sR
  refine ⟨?_, ?_, ?_, ?_⟩ <;> split <;> simp <;> omega
set_option maxHeartbeats 2000000 in
theorem law_program (v u : Value) (xs : List MOp) (ar : List UInt8) (s : List UInt8) (w0 : World) (hG : Glob w0) (hs : Sl encOX w0 v xs) (hb : ∀ x ∈ xs, x.Bytes) (har : Sl Enc.b w0 u ar) (hsl : s.length ≤ 9223372036854775807) : Rets Tryd.prog 6 #[v, u, S s] w0 fun r w' => r = .bool true ∧ Fr [] w0 w' := by
 obtain ⟨A, c, rfl, hc, hM, hA⟩ := id hs
 clear hA
 have hsb : ∀ k ∈ blks (Value.slice A xs.length c), xs ≠ [] → k < w0.heap.size := fun k hk hne => hs.blk hne k hk
 obtain ⟨os, hos0⟩ : ∃ os, os = xs.map ofO := ⟨_, rfl⟩
 have hosl : os.length = xs.length := by rw [hos0, List.length_map]
 have hosc : ∀ o ∈ os, chkO o = 0 := by rw [hos0]; exact of_all hb
 have hoc := all_getD hosc
 obtain ⟨A1, c1', rfl, hcr, hMr, hA1⟩ := id har
 clear hA1
 unfold maxLen at hMr
 obtain ⟨rm, hrm⟩ : ∃ rm, rm = s.filter (fun c => decide ((c.toNat : Int) ≠ 10)) := ⟨_, rfl⟩
 have hrml : rm.length ≤ s.length := by rw [hrm]; exact List.length_filter_le _ _
 have hn10 : (10 : UInt8) ∉ rm := by rw [hrm]; intro hm; have := (List.mem_filter.1 hm).2; revert this; decide
 obtain ⟨tx, htx⟩ : ∃ tx, tx = [(linesT (os.map txtO)), (dressT os (arF ar) rm os.length)] := ⟨_, rfl⟩
 have htx2 : tx.length = 2 := by rw [htx]; rfl
 have hGs := hG.sz
 refine we [(0, .slice A xs.length c), (1, .slice A1 ar.length c1'), (2, S s)] Tryd.func6 rfl Tryd.ntmps6 rfl (.cons rfl (.cons rfl (.cons rfl .nil))) ?_
 have hG0 := hG
 have hs0 := hs
 have har0 := har
 refine sr (asg rfl rfl (nn (sq (sq ?_))))
 refine rbo (r := 25) (L' := [(0, _), (1, _), (2, _)]) (((40 < (xs.length : Int)) ∨ (20 < (s.length : Int)))) (.cons rfl (.cons rfl (.cons rfl .nil))) ?_ ?_
 · refine mv rfl rfl (lnS rfl Tryd.underlying43 rfl (gt' rfl rfl rfl (mv rfl rfl ?_)))
   refine gs 21 rfl (fun g0 => ?_) (fun g0 => ?_)
   · exact gN rfl rfl rfl (gN rfl rfl rfl (gN rfl rfl rfl (pkt rfl rfl rfl rfl (rbe rfl (by first | exact bt (by omega) | exact bf (by omega) | exact bi (by omega) | exact bn (by omega) | (simp_all; done) | (simp_all; omega)) (.cons rfl (.cons rfl (.cons rfl .nil)))))))
   · exact gY rfl (mv rfl rfl (gY rfl (ln rfl Tryd.underlying9 rfl (gY rfl (gt' rfl rfl rfl (pkf rfl rfl rfl rfl (rbe rfl (by first | exact bt (by omega) | exact bf (by omega) | exact bi (by omega) | exact bn (by omega) | (simp_all; done) | (simp_all; omega)) (.cons rfl (.cons rfl (.cons rfl .nil))))))))))
 · refine tn ?_
   refine cd rfl (fun c0 => ?_) (fun c0 => ?_)
   · refine sr ?_
     refine cl evs_nil co12 (lives_ok _ hG) rfl ?_
     rintro _ w1 ⟨rfl, q1⟩
     have z1 := q1.size
     refine asg rfl rfl (nn (rt (tr (r1 Tryd.results6 rfl ?_))))
     exact ⟨_, rfl, rfl, q1⟩
   · refine sk (tn (sr (mv rfl rfl ?_)))
     refine cl (ev1 rfl) co20 (pof2 hos0 _ _ hs hb (by omega)) rfl ?_
     rintro _ w2 ⟨A7, c7, rfl, ho7, q2⟩
     have z2 := q2.size
     refine asg rfl rfl (nn (sr (asg rfl rfl (asg rfl rfl (nn (sq (sr (asg rfl rfl (nn (bl ?_))))))))))
     refine lpK (ι := Nat) [(1, _), (2, _), (7, _)] (fun i => [(8, S (linesT ((os.take i).map txtO))), (9, S (dressT os (arF ar) rm i)), (10, .int .i64 (i : Int))]) (fun i w' => Fr [] w2 w' ∧ i ≤ os.length) (fun i => os.length - i) 0 (.cons rfl (.cons rfl (.cons rfl (.cons rfl (.cons rfl (.cons rfl .nil)))))) ⟨Fr.refl _ _, by omega⟩ ?_
     rintro i w3 ⟨q3, hi⟩
     have z3 := q3.size
     refine kpC [(1, _), (2, _), (7, _), (8, _), (9, _), (10, _)] (.cons rfl (.cons rfl (.cons rfl (.cons rfl (.cons rfl (.cons rfl .nil)))))) ?_
     have hll : (linesT ((os.take i).map txtO)).length ≤ os.length * 31 := by have := linesT_len (os.take i); rw [List.length_take] at this; have h2 := Nat.mul_le_mul_right 31 (Nat.min_le_right i os.length); omega
     have htl := txt_len (os.getD i op0)
     have hdl := dress_len os (arF ar) (rem := rm) (by omega) i
     obtain ⟨l1, l2, l3, l4⟩ := d_lens (arF ar i) (rm := rm) (by omega)
     have hav := arF_rng ar i
     refine sq (sr (mv rfl rfl (mv rfl rfl (lnS rfl Tryd.underlying45 rfl (lt' rfl rfl rfl (nn ?_))))))
     refine cd rfl (fun c1 => ?_) (fun c1 => ?_)
     · refine sk (tn (sq (bl (sr (mv rfl rfl (mv rfl rfl (mv rfl rfl ?_)))))))
       replace ho7 := ho7.ext q3
       refine s_idxL (p := i) (op0) rfl ho7.sl rfl el45 (by omega) (by omega) (by omega) rfl (fun ad38 hc38 => ?_)
       refine s_loadA rfl (hc38 _ ho7.sl) ag31 rfl ?_
       refine cl (ev1 rfl) co15 (ltext_ok (os.getD i op0) _ (hoc i (by omega))) rfl ?_
       rintro _ w4 ⟨rfl, q4⟩
       have z4 := q4.size
       refine s_adds rfl rfl (by first | (simp only [List.length_append, List.length_cons, List.length_nil]; omega) | omega | (simp; done) | (simp; omega)) rfl (s_adds rfl rfl (by first | (simp only [List.length_append, List.length_cons, List.length_nil]; omega) | omega | (simp; done) | (simp; omega)) rfl (asg rfl rfl (kpL [(1, _), (2, _), (7, _), (8, _), (9, _), (10, _)] (.cons rfl (.cons rfl (.cons rfl (.cons rfl (.cons rfl (.cons rfl .nil)))))) (nn (sr (asg rfl rfl (nn ?_)))))))
       refine jn (ι := Unit) [(1, _), (2, _), (7, _), (8, _), (9, _), (10, _)] (fun _j => [(11, .int .u8 (arF ar i))]) (fun _j w' => Fr [] w4 w') (.cons rfl (.cons rfl (.cons rfl (.cons rfl (.cons rfl (.cons rfl .nil)))))) ?_ ?_
       · refine sr (mv rfl rfl (mv rfl rfl (lnS rfl Tryd.underlying39 rfl (lt' rfl rfl rfl (nn ?_)))))
         refine cd rfl (fun c2 => ?_) (fun c2 => ?_)
         · refine rg (mv rfl rfl (mv rfl rfl ?_))
           replace har := har0.ext ((q2.next q3).next q4)
           refine s_idxL (p := i) (0) rfl har rfl el39 (by omega) (by omega) (by omega) rfl (fun ad49 hc49 => ?_)
           refine s_loadC0 rfl (hc49 _ har) na5 rfl (asg rfl rfl (nl ?_))
           exact jE (()) (.cons rfl (.cons rfl (.cons rfl (.cons rfl (.cons rfl (.cons rfl (.cons (by first | (rw [arF, if_pos (by omega)]; rfl) | (rw [arF, if_neg (by omega)]; rfl)) .nil))))))) (Fr.refl _ _)
         · refine sk ?_
           exact jE (()) (.cons rfl (.cons rfl (.cons rfl (.cons rfl (.cons rfl (.cons rfl (.cons (by first | (rw [arF, if_pos (by omega)]; rfl) | (rw [arF, if_neg (by omega)]; rfl)) .nil))))))) (Fr.refl _ _)
       · rintro _j w5 q5
         have z5 := q5.size
         refine kpC [(1, _), (2, _), (7, _), (8, _), (9, _), (10, _), (11, _)] (.cons rfl (.cons rfl (.cons rfl (.cons rfl (.cons rfl (.cons rfl (.cons rfl .nil))))))) ?_
         refine jn (ι := Unit) [(1, _), (2, _), (7, _), (8, _), (10, _), (11, _)] (fun _j => [(9, S (dressT os (arF ar) rm i ++ preD (arF ar i)))]) (fun _j w' => Fr [] w5 w') (.cons rfl (.cons rfl (.cons rfl (.cons rfl (.cons rfl (.cons rfl .nil)))))) ?_ ?_
         · refine sr (mv rfl rfl (s_rem rfl rfl (by omega) (by first | exact IntWalk.rem_in _ _ (by omega) | rfl) rfl (eq' rfl rfl rfl (nn ?_))))
           refine cd rfl (fun c3 => ?_) (fun c3 => ?_)
           · refine rg (mv rfl rfl (s_adds rfl rfl (by first | (simp only [List.length_append, List.length_cons, List.length_nil]; omega) | omega | (simp; done) | (simp; omega)) rfl (asg rfl rfl (nl ?_))))
             exact jE (()) (.cons rfl (.cons rfl (.cons rfl (.cons rfl (.cons rfl (.cons rfl (.cons (by first | (rw [preD, if_pos c3]; rfl) | (rw [preD, if_neg c3, List.append_nil]; rfl)) .nil))))))) (Fr.refl _ _)
           · refine sk ?_
             exact jE (()) (.cons rfl (.cons rfl (.cons rfl (.cons rfl (.cons rfl (.cons rfl (.cons (by first | (rw [preD, if_pos c3]; rfl) | (rw [preD, if_neg c3, List.append_nil]; rfl)) .nil))))))) (Fr.refl _ _)
         · rintro _j w6 q6
           have z6 := q6.size
           refine kpC [(1, _), (2, _), (7, _), (8, _), (10, _), (11, _), (9, _)] (.cons rfl (.cons rfl (.cons rfl (.cons rfl (.cons rfl (.cons rfl (.cons rfl .nil))))))) ?_
           refine jn (ι := Unit) [(1, _), (2, _), (7, _), (8, _), (10, _), (11, _)] (fun _j => [(9, S (dressT os (arF ar) rm i ++ preD (arF ar i) ++ sA (arF ar i)))]) (fun _j w' => Fr [] w6 w') (.cons rfl (.cons rfl (.cons rfl (.cons rfl (.cons rfl (.cons rfl .nil)))))) ?_ ?_
           · refine sr (mv rfl rfl (s_quo rfl rfl (by omega) (by first | exact IntWalk.u8_quo _ _ (by omega) | rfl) rfl (s_rem rfl rfl (by omega) (by first | exact IntWalk.rem_in _ _ (by omega) | rfl) rfl (eq' rfl rfl rfl (nn ?_)))))
             refine cd rfl (fun c4 => ?_) (fun c4 => ?_)
             · refine rg (mv rfl rfl (s_adds rfl rfl (by first | (simp only [List.length_append, List.length_cons, List.length_nil]; omega) | omega | (simp; done) | (simp; omega)) rfl (asg rfl rfl (nl ?_))))
               exact jE (()) (.cons rfl (.cons rfl (.cons rfl (.cons rfl (.cons rfl (.cons rfl (.cons (by first | (rw [sA, if_pos c4]; rfl) | (rw [sA, if_neg c4, List.append_nil]; rfl)) .nil))))))) (Fr.refl _ _)
             · refine sk ?_
               exact jE (()) (.cons rfl (.cons rfl (.cons rfl (.cons rfl (.cons rfl (.cons rfl (.cons (by first | (rw [sA, if_pos c4]; rfl) | (rw [sA, if_neg c4, List.append_nil]; rfl)) .nil))))))) (Fr.refl _ _)
           · rintro _j w7 q7
             have z7 := q7.size
             refine kpC [(1, _), (2, _), (7, _), (8, _), (10, _), (11, _), (9, _)] (.cons rfl (.cons rfl (.cons rfl (.cons rfl (.cons rfl (.cons rfl (.cons rfl .nil))))))) ?_
             refine sr (mv rfl rfl (mv rfl rfl (mv rfl rfl ?_)))
             replace ho7 := ho7.ext (((q4.next q5).next q6).next q7)
             refine s_idxL (p := i) (op0) rfl ho7.sl rfl el45 (by omega) (by omega) (by omega) rfl (fun ad65 hc65 => ?_)
             refine s_loadA rfl (hc65 _ ho7.sl) ag31 rfl ?_
             refine cl (ev1 rfl) co15 (ltext_ok (os.getD i op0) _ (hoc i (by omega))) rfl ?_
             rintro _ w8 ⟨rfl, q8⟩
             have z8 := q8.size
             refine s_adds rfl rfl (by first | (simp only [List.length_append, List.length_cons, List.length_nil]; omega) | omega | (simp; done) | (simp; omega)) rfl (asg rfl rfl (kpL [(1, _), (2, _), (7, _), (8, _), (9, _), (10, _), (11, _)] (.cons rfl (.cons rfl (.cons rfl (.cons rfl (.cons rfl (.cons rfl (.cons rfl .nil))))))) (nn ?_)))
             refine jn (ι := Unit) [(1, _), (2, _), (7, _), (8, _), (10, _), (11, _)] (fun _j => [(9, S (dressT os (arF ar) rm i ++ preD (arF ar i) ++ sA (arF ar i) ++ txtO (os.getD i op0) ++ sB (arF ar i)))]) (fun _j w' => Fr [] w8 w') (.cons rfl (.cons rfl (.cons rfl (.cons rfl (.cons rfl (.cons rfl .nil)))))) ?_ ?_
             · refine sr (mv rfl rfl (s_quo rfl rfl (by omega) (by first | exact IntWalk.u8_quo _ _ (by omega) | rfl) rfl (s_rem rfl rfl (by omega) (by first | exact IntWalk.rem_in _ _ (by omega) | rfl) rfl (eq' rfl rfl rfl (nn ?_)))))
               refine cd rfl (fun c5 => ?_) (fun c5 => ?_)
               · refine rg (mv rfl rfl (s_adds rfl rfl (by first | (simp only [List.length_append, List.length_cons, List.length_nil]; omega) | omega | (simp; done) | (simp; omega)) rfl (asg rfl rfl (nl ?_))))
                 exact jE (()) (.cons rfl (.cons rfl (.cons rfl (.cons rfl (.cons rfl (.cons rfl (.cons (by first | (rw [sB, if_pos c5]; rfl) | (rw [sB, if_neg c5, List.append_nil]; rfl)) .nil))))))) (Fr.refl _ _)
               · refine sk ?_
                 exact jE (()) (.cons rfl (.cons rfl (.cons rfl (.cons rfl (.cons rfl (.cons rfl (.cons (by first | (rw [sB, if_pos c5]; rfl) | (rw [sB, if_neg c5, List.append_nil]; rfl)) .nil))))))) (Fr.refl _ _)
             · rintro _j w9 q9
               have z9 := q9.size
               refine kpC [(1, _), (2, _), (7, _), (8, _), (10, _), (11, _), (9, _)] (.cons rfl (.cons rfl (.cons rfl (.cons rfl (.cons rfl (.cons rfl (.cons rfl .nil))))))) ?_
               refine jn (ι := Unit) [(1, _), (2, _), (7, _), (8, _), (10, _), (11, _)] (fun _j => [(9, S (dressT os (arF ar) rm i ++ preD (arF ar i) ++ sA (arF ar i) ++ txtO (os.getD i op0) ++ sB (arF ar i) ++ sR (arF ar i) rm))]) (fun _j w' => Fr [] w9 w') (.cons rfl (.cons rfl (.cons rfl (.cons rfl (.cons rfl (.cons rfl .nil)))))) ?_ ?_
               · refine sr (mv rfl rfl (s_quo rfl rfl (by omega) (by first | exact IntWalk.u8_quo _ _ (by omega) | rfl) rfl (s_rem rfl rfl (by omega) (by first | exact IntWalk.rem_in _ _ (by omega) | rfl) rfl (eq' rfl rfl rfl (nn ?_)))))
                 refine cd rfl (fun c6 => ?_) (fun c6 => ?_)
                 · refine rg (mv rfl rfl (mv rfl rfl ?_))
                   refine cl (ev1 rfl) co19 (oneline2 hrm _ (by omega)) rfl ?_
                   rintro _ w10 ⟨rfl, q10⟩
                   have z10 := q10.size
                   refine s_adds rfl rfl (by first | (simp only [List.length_append, List.length_cons, List.length_nil]; omega) | omega | (simp; done) | (simp; omega)) rfl (s_adds rfl rfl (by first | (simp only [List.length_append, List.length_cons, List.length_nil]; omega) | omega | (simp; done) | (simp; omega)) rfl (asg rfl rfl (kpL [(1, _), (2, _), (7, _), (8, _), (9, _), (10, _), (11, _)] (.cons rfl (.cons rfl (.cons rfl (.cons rfl (.cons rfl (.cons rfl (.cons rfl .nil))))))) (nl ?_))))
                   exact jE (()) (.cons rfl (.cons rfl (.cons rfl (.cons rfl (.cons rfl (.cons rfl (.cons (by first | (rw [sR, if_pos c6]; rfl) | (rw [sR, if_neg c6, List.append_nil]; rfl)) .nil))))))) q10
                 · refine sk ?_
                   exact jE (()) (.cons rfl (.cons rfl (.cons rfl (.cons rfl (.cons rfl (.cons rfl (.cons (by first | (rw [sR, if_pos c6]; rfl) | (rw [sR, if_neg c6, List.append_nil]; rfl)) .nil))))))) (Fr.refl _ _)
               · rintro _j w11 q11
                 have z11 := q11.size
                 refine kpC [(1, _), (2, _), (7, _), (8, _), (10, _), (11, _), (9, _)] (.cons rfl (.cons rfl (.cons rfl (.cons rfl (.cons rfl (.cons rfl (.cons rfl .nil))))))) ?_
                 refine sr (mv rfl rfl (s_add rfl rfl (wi6 (by omega)) rfl (mv rfl rfl (lnS rfl Tryd.underlying45 rfl (lt' rfl rfl rfl (mv rfl rfl ?_))))))
                 refine gs 89 rfl (fun g1 => ?_) (fun g1 => ?_)
                 · refine gN rfl rfl rfl (gN rfl rfl rfl (gN rfl rfl rfl (gN rfl rfl rfl (pkt rfl rfl rfl rfl (kpL [(1, _), (2, _), (7, _), (8, _), (9, _), (10, _), (94, _)] (.cons rfl (.cons rfl (.cons rfl (.cons rfl (.cons rfl (.cons rfl (.cons rfl .nil))))))) (nn (ct rfl (rg (mv rfl rfl (s_adds rfl rfl (by first | (simp only [List.length_append, List.length_cons, List.length_nil]; omega) | omega | (simp; done) | (simp; omega)) rfl (asg rfl rfl ?_)))))))))))
                   refine nl (bn' (tn (rg (mv rfl rfl (s_add rfl rfl (wi6 (by omega)) rfl (asg rfl rfl (nl ?_)))))))
                   exact lpE (i + 1) (.cons rfl (.cons rfl (.cons rfl (.cons (congrArg (fun z => some (S z)) (show (linesT ((os.take i).map txtO)) ++ (txtO (os.getD i op0) ++ [10]) = linesT ((os.take (i + 1)).map txtO) by rw [linesT_snoc os i (by omega), List.append_assoc])) (.cons (by rw [dress_succ]; first | (rw [if_pos (show i + 1 < os.length ∨ arF ar i / 16 % 2 = 1 by omega)]; rfl) | (rw [if_neg (show ¬ (i + 1 < os.length ∨ arF ar i / 16 % 2 = 1) by omega), List.append_nil]; rfl)) (.cons rfl .nil)))))) ⟨(((((((q3.next q4).next q5).next q6).next q7).next q8).next q9).next q11), by omega⟩ (by omega)
                 · refine gY rfl (mv rfl rfl (gY rfl (s_quo rfl rfl (by omega) (by first | exact IntWalk.u8_quo _ _ (by omega) | rfl) rfl (gY rfl (s_rem rfl rfl (by omega) (by first | exact IntWalk.rem_in _ _ (by omega) | rfl) rfl (gY rfl (eq' rfl rfl rfl (pkf rfl rfl rfl rfl (kpL [(1, _), (2, _), (7, _), (8, _), (9, _), (10, _), (94, _)] (.cons rfl (.cons rfl (.cons rfl (.cons rfl (.cons rfl (.cons rfl (.cons rfl .nil))))))) (nn ?_))))))))))
                   refine cd rfl (fun c7 => ?_) (fun c7 => ?_)
                   · refine rg (mv rfl rfl (s_adds rfl rfl (by first | (simp only [List.length_append, List.length_cons, List.length_nil]; omega) | omega | (simp; done) | (simp; omega)) rfl (asg rfl rfl (nl (bn' (tn (rg (mv rfl rfl (s_add rfl rfl (wi6 (by omega)) rfl (asg rfl rfl (nl ?_)))))))))))
                     exact lpE (i + 1) (.cons rfl (.cons rfl (.cons rfl (.cons (congrArg (fun z => some (S z)) (show (linesT ((os.take i).map txtO)) ++ (txtO (os.getD i op0) ++ [10]) = linesT ((os.take (i + 1)).map txtO) by rw [linesT_snoc os i (by omega), List.append_assoc])) (.cons (by rw [dress_succ]; first | (rw [if_pos (show i + 1 < os.length ∨ arF ar i / 16 % 2 = 1 by omega)]; rfl) | (rw [if_neg (show ¬ (i + 1 < os.length ∨ arF ar i / 16 % 2 = 1) by omega), List.append_nil]; rfl)) (.cons rfl .nil)))))) ⟨(((((((q3.next q4).next q5).next q6).next q7).next q8).next q9).next q11), by omega⟩ (by omega)
                   · refine sk (bn' (tn (rg (mv rfl rfl (s_add rfl rfl (wi6 (by omega)) rfl (asg rfl rfl (nl ?_)))))))
                     exact lpE (i + 1) (.cons rfl (.cons rfl (.cons rfl (.cons (congrArg (fun z => some (S z)) (show (linesT ((os.take i).map txtO)) ++ (txtO (os.getD i op0) ++ [10]) = linesT ((os.take (i + 1)).map txtO) by rw [linesT_snoc os i (by omega), List.append_assoc])) (.cons (by rw [dress_succ]; first | (rw [if_pos (show i + 1 < os.length ∨ arF ar i / 16 % 2 = 1 by omega)]; rfl) | (rw [if_neg (show ¬ (i + 1 < os.length ∨ arF ar i / 16 % 2 = 1) by omega), List.append_nil]; rfl)) (.cons rfl .nil)))))) ⟨(((((((q3.next q4).next q5).next q6).next q7).next q8).next q9).next q11), by omega⟩ (by omega)
     · obtain rfl : i = os.length := by omega
       rw [List.take_length]
       refine ex (te (te (xh (tn (sq (sr (mv rfl rfl ?_)))))))
       replace hG := hG0.ext (q2.next q3)
       replace ho7 := ho7.ext q3
       refine cl (ev1 rfl) co22 (format_ok _ os _ hG ho7.sl (by omega)) rfl ?_
       rintro _ w12 ⟨rfl, q12⟩
       have z12 := q12.size
       refine mv rfl rfl (s_nes rfl rfl rfl (kpL [(7, _), (8, _), (9, _), (100, _)] (.cons rfl (.cons rfl (.cons rfl (.cons rfl .nil)))) (nn ?_)))
       refine cd rfl (fun c8 => ?_) (fun c8 => ?_)
       · exact absurd (fmt_ok hosc) c8
       · refine sk (tn (sr (mv rfl rfl (mv rfl rfl (s_bslice ([(linesT (os.map txtO)), (dressT os (arF ar) rm os.length)]) (ev2 rfl rfl) rfl rfl rfl el40 (Nat.le_of_ble_eq_true rfl) rfl (fun g103 w13 hg103 ho103 q13 z13 => ?_))))))
         refine asg rfl rfl ?_
         rw [← htx, htx2] at ho103
         have htxl : ∀ k, k < 2 → (tx.getD k []).length ≤ 1000000 := by
           intro k hk
           have h1 := linesT_len os
           have h2 := dress_len os (arF ar) (rem := rm) (by omega) os.length
           have : k = 0 ∨ k = 1 := by omega
           rw [htx]
           rcases this with rfl | rfl
           · show (linesT (os.map txtO)).length ≤ 1000000; omega
           · show (dressT os (arF ar) rm os.length).length ≤ 1000000; omega
         have htxp : ∀ k, k < 2 → progS (tx.getD k []) = (os, 0, 0) := by
           intro k hk
           have : k = 0 ∨ k = 1 := by omega
           rw [htx]
           rcases this with rfl | rfl
           · exact prog_plain hosc (by omega)
           · exact prog_dress hn10 hosc (by omega)
         refine kpL [(7, _), (12, _)] (.cons rfl (.cons rfl .nil)) (nn (sq (sr (asg rfl rfl (nn (bl ?_))))))
         refine lpK (ι := Nat) [(7, _), (12, _)] (fun k => [(13, .int .i64 (k : Int))]) (fun k w' => Fr [] w13 w' ∧ k ≤ 2) (fun k => 2 - k) 0 (.cons rfl (.cons rfl (.cons rfl .nil))) ⟨Fr.refl _ _, by omega⟩ ?_
         rintro k w14 ⟨q14, hk⟩
         have z14 := q14.size
         refine kpC [(7, _), (12, _), (13, _)] (.cons rfl (.cons rfl (.cons rfl .nil))) ?_
         refine sq (sr (mv rfl rfl (lt' rfl rfl rfl (nn ?_))))
         refine cd rfl (fun c9 => ?_) (fun c9 => ?_)
         · refine sk (tn (sq (bl (sr (mv rfl rfl (mv rfl rfl ?_))))))
           replace ho103 := ho103.ext q14
           refine s_idxL (p := k) ([]) rfl ho103.sl rfl el40 (by omega) (by omega) (by omega) rfl (fun ad111 hc111 => ?_)
           refine s_loadC0 rfl (hc111 _ ho103.sl) na9 rfl ?_
           replace hG := hG0.ext ((((q2.next q3).next q12).next q13).next q14)
           refine cl (ev1 rfl) co21 (program_ok _ _ hG (htxl k (by omega))) rfl ?_
           rintro _ w15 ⟨A13, gs, n, e, hpe, rfl, hos, q15⟩
           have z15 := q15.size
           cases hpe.symm.trans (htxp k (by omega))
           refine mv rfl rfl (xt rfl rfl rfl (xt rfl rfl rfl (xt rfl rfl rfl (asg rfl rfl (asg rfl rfl (asg rfl rfl ?_))))))
           
           refine kpL [(7, _), (12, _), (13, _), (14, _), (15, _), (16, _)] (.cons rfl (.cons rfl (.cons rfl (.cons rfl (.cons rfl (.cons rfl .nil)))))) (nn (sq (sq ?_)))
           refine rbo (r := 136) (L' := [(7, _), (12, _), (13, _), (14, _)]) (False) (.cons rfl (.cons rfl (.cons rfl (.cons rfl .nil)))) ?_ ?_
           · refine mv rfl rfl (ne' rfl rfl rfl (mv rfl rfl ?_))
             refine gs 119 rfl (fun g2 => ?_) (fun g2 => ?_)
             · refine gN rfl rfl rfl (gN rfl rfl rfl (pkt rfl rfl rfl rfl (mv rfl rfl (gN rfl rfl rfl (gN rfl rfl rfl (gN rfl rfl rfl (gN rfl rfl rfl (gN rfl rfl rfl (pkt rfl rfl rfl rfl (mv rfl rfl (gN rfl rfl rfl ?_)))))))))))
               exact gN rfl rfl rfl (gN rfl rfl rfl (gN rfl rfl rfl (gN rfl rfl rfl (pkt rfl rfl rfl rfl (rbe rfl (by first | rfl | (simp_all; done)) (.cons rfl (.cons rfl (.cons rfl (.cons rfl .nil)))))))))
             · refine gY rfl (mv rfl rfl (gY rfl (ne' rfl rfl rfl (pkf rfl rfl rfl rfl (mv rfl rfl ?_)))))
               refine gs 123 rfl (fun g3 => ?_) (fun g3 => ?_)
               · refine gN rfl rfl rfl (gN rfl rfl rfl (gN rfl rfl rfl (gN rfl rfl rfl (gN rfl rfl rfl (pkt rfl rfl rfl rfl (mv rfl rfl (gN rfl rfl rfl (gN rfl rfl rfl (gN rfl rfl rfl (gN rfl rfl rfl (gN rfl rfl rfl ?_)))))))))))
                 exact pkt rfl rfl rfl rfl (rbe rfl (by first | rfl | (simp_all; done)) (.cons rfl (.cons rfl (.cons rfl (.cons rfl .nil)))))
               · refine gY rfl (mv rfl rfl (gY rfl (lnS rfl Tryd.underlying45 rfl (gY rfl (mv rfl rfl (gY rfl (lnS rfl Tryd.underlying45 rfl (gY rfl (ne' rfl rfl rfl (pkf rfl rfl rfl rfl (mv rfl rfl ?_)))))))))))
                 refine gs 130 rfl (fun g4 => ?_) (fun g4 => ?_)
                 · exact gN rfl rfl rfl (gN rfl rfl rfl (gN rfl rfl rfl (gN rfl rfl rfl (gN rfl rfl rfl (pkt rfl rfl rfl rfl (rbe rfl (by first | rfl | (simp_all; done)) (.cons rfl (.cons rfl (.cons rfl (.cons rfl .nil))))))))))
                 · exact gY rfl (mv rfl rfl (gY rfl (s_capS rfl Tryd.underlying45 rfl (gY rfl (mv rfl rfl (gY rfl (lnS rfl Tryd.underlying45 rfl (gY rfl (ne' rfl rfl rfl (pkf rfl rfl rfl rfl (rbe rfl (by first | rfl | (simp_all; done)) (.cons rfl (.cons rfl (.cons rfl (.cons rfl .nil)))))))))))))))
           · refine tn ?_
             refine cd rfl (fun c10 => ?_) (fun c10 => ?_)
             · exact c10.elim
             · refine sk (tn (sr (asg rfl rfl (nn (bl ?_)))))
               refine lpK (ι := Nat) [(7, _), (12, _), (13, _), (14, _)] (fun i => [(17, .int .i64 (i : Int))]) (fun i w' => Fr [] w15 w' ∧ i ≤ os.length) (fun i => os.length - i) 0 (.cons rfl (.cons rfl (.cons rfl (.cons rfl (.cons rfl .nil))))) ⟨Fr.refl _ _, by omega⟩ ?_
               rintro i w16 ⟨q16, hi⟩
               have z16 := q16.size
               refine kpC [(7, _), (12, _), (13, _), (14, _), (17, _)] (.cons rfl (.cons rfl (.cons rfl (.cons rfl (.cons rfl .nil))))) ?_
               refine sq (sr (mv rfl rfl (mv rfl rfl (lnS rfl Tryd.underlying45 rfl (lt' rfl rfl rfl (nn ?_))))))
               refine cd rfl (fun c11 => ?_) (fun c11 => ?_)
               · refine sk (tn (sq (bl (sq ?_))))
                 replace hG := hG0.ext ((((((q2.next q3).next q12).next q13).next q14).next q15).next q16)
                 replace ho7 := ho7.ext ((((q12.next q13).next q14).next q15).next q16)
                 replace ho103 := ho103.ext (q15.next q16)
                 replace hos := hos.ext q16
                 intro a h
                 have qh35 := Fr.refl [] w16
                 refine region_held (fun wb w' => Fr [] wb w') hmix ?_; intro w17 hq
                 have z17 := hq.size
                 replace hG := hG.ext hq
                 replace ho7 := ho7.ext hq
                 replace ho103 := ho103.ext hq
                 replace hos := hos.ext hq
                 replace qh35 := qh35.next hq
                 have hsz := hq.size; clear hq; have hC : Fr [] w17 w17 := Fr.refl _ _
                 have hG_b := hG
                 have ho7_b := ho7
                 have ho103_b := ho103
                 have hos_b := hos
                 refine hd_move 0 (by kernel_rfl) (by kernel_rfl) (by kernel_rfl) hC h wn rfl rfl rfl ?_; clear h a; intro a h
                 refine hd_move 1 (by kernel_rfl) (by kernel_rfl) (by kernel_rfl) hC h wn rfl rfl rfl ?_; clear h a; intro a h
                 refine hd_idxL (p := i) (op0) 2 (by kernel_rfl) (by kernel_rfl) (by kernel_rfl) hC h wn rfl hos.sl rfl el45 (by omega) (by omega) (by omega) rfl rfl ?_; clear h a; intro ad145 hc145 a h
                 refine hd_loadA 3 (by kernel_rfl) (by kernel_rfl) (by kernel_rfl) hC h wn rfl (fun _ hw => hc145 _ (hos_b.sl.ext hw)) ag31 rfl rfl ?_; clear h a; intro a h
                 refine hd_move 4 (by kernel_rfl) (by kernel_rfl) (by kernel_rfl) hC h wn rfl rfl rfl ?_; clear h a; intro a h
                 refine hd_move 5 (by kernel_rfl) (by kernel_rfl) (by kernel_rfl) hC h wn rfl rfl rfl ?_; clear h a; intro a h
                 refine hd_idxL (p := i) (op0) 6 (by kernel_rfl) (by kernel_rfl) (by kernel_rfl) hC h wn rfl ho7.sl rfl el45 (by omega) (by omega) (by omega) rfl rfl ?_; clear h a; intro ad149 hc149 a h
                 refine hd_loadA 7 (by kernel_rfl) (by kernel_rfl) (by kernel_rfl) hC h wn rfl (fun _ hw => hc149 _ (ho7_b.sl.ext hw)) ag31 rfl rfl ?_; clear h a; intro a h
                 refine hd_neV (V := opF) (e := ⟨_, _, _, _, _, _⟩) (f := ⟨_, _, _, _, _, _⟩) 8 (by kernel_rfl) (by kernel_rfl) (by kernel_rfl) hC h wn rfl rfl eqOp rfl rfl ?_; clear h a; intro a h
                 refine hd_end (by kernel_rfl) ?_
                 clear hC hG_b ho7_b ho103_b hos_b
                 have z17 := qh35.size
                 refine bk (h.sub (L' := [(7, _), (12, _), (13, _), (14, _), (17, _), (151, _)]) (.cons rfl (.cons rfl (.cons rfl (.cons rfl (.cons rfl (.cons rfl .nil))))))) ?_; clear h a
                 refine tn ?_
                 refine cd rfl (fun c12 => ?_) (fun c12 => ?_)
                 · exact absurd rfl c12
                 · refine sk (bn' (tn (rg (mv rfl rfl (s_add rfl rfl (wi6 (by omega)) rfl (asg rfl rfl (nl ?_)))))))
                   exact lpE (i + 1) (.cons rfl (.cons rfl (.cons rfl (.cons rfl (.cons rfl .nil))))) ⟨(q16.next qh35), by omega⟩ (by omega)
               · refine ex (te (te (xh (bn' (tn (rg (mv rfl rfl (s_add rfl rfl (wi6 (by omega)) rfl (asg rfl rfl (nl ?_))))))))))
                 exact lpE (k + 1) (.cons rfl (.cons rfl (.cons rfl .nil))) ⟨((q14.next q15).next q16), by omega⟩ (by omega)
         · refine ex (te (te (xh (tn (sr ?_)))))
           replace hG := hG0.ext ((((q2.next q3).next q12).next q13).next q14)
           refine cl evs_nil co12 (lives_ok _ hG) rfl ?_
           rintro _ w18 ⟨rfl, q18⟩
           have z18 := q18.size
           refine asg rfl rfl (nn (rt (r1 Tryd.results6 rfl ?_)))
           exact ⟨_, rfl, rfl, (((((q2.next q3).next q12).next q13).next q14).next q18)⟩
end Go.Proofs.YtbalocjcbmkecaaDoor
