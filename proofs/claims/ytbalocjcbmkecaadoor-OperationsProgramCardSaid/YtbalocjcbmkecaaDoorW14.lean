/- Walks. -/
import Derived.Test.YtbalocjcbmkecaaDoorRows
import Derived.Test.YtbalocjcbmkecaaDoorW13
import Derived.Test.YtbalocjcbmkecaaDoorXOp
import Derived.Test.YtbalocjcbmkecaaDoorXMap
import Derived.Test.YtbalocjcbmkecaaDoorXOpTxt
set_option linter.unusedVariables false
set_option linter.unusedSimpArgs false
namespace Go.Proofs.YtbalocjcbmkecaaDoor
open Go.Lw
theorem co19 : CallOf Tryd.prog 19 := CallOf.mk' Tryd.func19 (by kernel_rfl) (by kernel_rfl)
theorem co20 : CallOf Tryd.prog 20 := CallOf.mk' Tryd.func20 (by kernel_rfl) (by kernel_rfl)
theorem lns_tt {os : List MOp} {lne : List UInt8} {k i : Nat} (h : i = k) (h2 : i < os.length) : lnsT os lne k (i + 1) = lnsT os lne k i ++ (lne ++ [10]) ++ (txtO (os.getD i op0) ++ [10]) := by rw [lnsT, if_pos h, if_pos h2]
theorem lns_tf {os : List MOp} {lne : List UInt8} {k i : Nat} (h : i = k) (h2 : ¬ i < os.length) : lnsT os lne k (i + 1) = lnsT os lne k i ++ (lne ++ [10]) := by rw [lnsT, if_pos h, if_neg h2, List.append_nil]
theorem lns_ft {os : List MOp} {lne : List UInt8} {k i : Nat} (h : ¬ i = k) (h2 : i < os.length) : lnsT os lne k (i + 1) = lnsT os lne k i ++ (txtO (os.getD i op0) ++ [10]) := by rw [lnsT, if_neg h, if_pos h2, List.append_nil]
theorem lns_ff {os : List MOp} {lne : List UInt8} {k i : Nat} (h : ¬ i = k) (h2 : ¬ i < os.length) : lnsT os lne k (i + 1) = lnsT os lne k i := by rw [lnsT, if_neg h, if_neg h2, List.append_nil, List.append_nil]
theorem getD_mid {a b : List MOp} {o : MOp} {k : Nat} (h : a.length = k) : (a ++ o :: b).getD k op0 = o := by
  subst h; simp [List.getD]
theorem oneline2 {s ls : List UInt8} (h : ls = s.filter (fun c => decide ((c.toNat : Int) ≠ 10))) (w0 : World) (hl : s.length ≤ 1000000) : Rets Tryd.prog 19 #[S s] w0 fun r w' => r = S ls ∧ Fr [] w0 w' := by rw [h]; exact oneline_ok s w0 hl
theorem pof2 {xs os : List MOp} (h : os = xs.map ofO) (v : Value) (w0 : World) (hs : Sl encOX w0 v xs) (hb : ∀ x ∈ xs, x.Bytes) (hl : xs.length ≤ 1000) : Rets Tryd.prog 20 #[v] w0 fun r w' => ∃ A c, r = .slice A os.length c ∧ Lw.Own encOp 31 w0.heap.size w' r os ∧ Fr [] w0 w' := by rw [h]; exact pof_ok v xs w0 hs hb hl
theorem all_getD {os : List MOp} (h : ∀ o ∈ os, chkO o = 0) (i : Nat) (hi : i < os.length) : chkO (os.getD i op0) = 0 := h _ (by rw [List.getD, List.getElem?_eq_getElem hi]; exact List.getElem_mem _)
theorem of_all {xs : List MOp} (hb : ∀ x ∈ xs, x.Bytes) : ∀ o ∈ xs.map ofO, chkO o = 0 := fun o ho => by obtain ⟨x, hx, rfl⟩ := List.mem_map.1 ho; exact of_chk (hb x hx)
set_option maxHeartbeats 2000000 in
theorem law_lines (v : Value) (xs : List MOp) (at_ : Int) (s : List UInt8) (w0 : World) (hG : Glob w0) (hs : Sl encOX w0 v xs) (hb : ∀ x ∈ xs, x.Bytes) (ha : 0 ≤ at_ ∧ at_ ≤ 255) (hsl : s.length ≤ 9223372036854775807) : Rets Tryd.prog 5 #[v, .int .u8 at_, S s] w0 fun r w' => r = .bool true ∧ Fr [] w0 w' := by
 obtain ⟨A, c, rfl, hc, hM, hA⟩ := id hs
 clear hA
 have hsb : ∀ k ∈ blks (Value.slice A xs.length c), xs ≠ [] → k < w0.heap.size := fun k hk hne => hs.blk hne k hk
 obtain ⟨os, hos0⟩ : ∃ os, os = xs.map ofO := ⟨_, rfl⟩
 have hosl : os.length = xs.length := by rw [hos0, List.length_map]
 have hosc : ∀ o ∈ os, chkO o = 0 := by rw [hos0]; exact of_all hb
 have hoc := all_getD hosc
 obtain ⟨lne, hln⟩ : ∃ lne, lne = s.filter (fun c => decide ((c.toNat : Int) ≠ 10)) := ⟨_, rfl⟩
 have hlnl : lne.length ≤ s.length := by rw [hln]; exact List.length_filter_le _ _
 have hn10 : (10 : UInt8) ∉ lne := by rw [hln]; intro hm; have := (List.mem_filter.1 hm).2; revert this; decide
 obtain ⟨k, hk⟩ : ∃ k : Nat, at_ % ((os.length : Int) + 1) = (k : Int) := ⟨(at_ % ((os.length : Int) + 1)).toNat, by have := Int.emod_nonneg at_ (show ((os.length : Int) + 1) ≠ 0 by omega); omega⟩
 have hkl : k ≤ os.length := by have := Int.emod_lt_of_pos at_ (show (0 : Int) < ((os.length : Int) + 1) by omega); omega
 have hGs := hG.sz
 refine we [(0, .slice A xs.length c), (1, .int .u8 at_), (2, S s)] Tryd.func5 rfl Tryd.ntmps5 rfl (.cons rfl (.cons rfl (.cons rfl .nil))) ?_
 refine sr (asg rfl rfl (nn (sq (sq ?_))))
 refine rbo (r := 25) (L' := [(0, _), (1, _), (2, _)]) (((20 < (xs.length : Int)) ∨ (20 < (s.length : Int)))) (.cons rfl (.cons rfl (.cons rfl .nil))) ?_ ?_
 · refine mv rfl rfl (lnS rfl Tryd.underlying43 rfl (gt' rfl rfl rfl (mv rfl rfl ?_)))
   refine gs 21 rfl (fun g0 => ?_) (fun g0 => ?_)
   · exact gN rfl rfl rfl (gN rfl rfl rfl (gN rfl rfl rfl (pkt rfl rfl rfl rfl (rbe rfl (by first | exact bt (by omega) | exact bf (by omega) | exact bi (by omega) | exact bn (by omega) | (simp_all; done) | (simp_all; omega)) (.cons rfl (.cons rfl (.cons rfl .nil)))))))
   · exact gY rfl (mv rfl rfl (gY rfl (ln rfl Tryd.underlying9 rfl (gY rfl (gt' rfl rfl rfl (pkf rfl rfl rfl rfl (rbe rfl (by first | exact bt (by omega) | exact bf (by omega) | exact bi (by omega) | exact bn (by omega) | (simp_all; done) | (simp_all; omega)) (.cons rfl (.cons rfl (.cons rfl .nil))))))))))
 · refine tn ?_
   refine cd rfl (fun c0 => ?_) (fun c0 => ?_)
   · refine sr ?_
     refine cl evs_nil co12 (lives_ok _ hG) rfl ?_
     rintro _ w1 ⟨rfl, q1⟩
     have z1 := q1.size
     refine asg rfl rfl (nn (rt (tr (r1 Tryd.results5 rfl ?_))))
     exact ⟨_, rfl, by first | rfl | simp, q1⟩
   · refine sk (tn (sr (mv rfl rfl ?_)))
     refine cl (ev1 rfl) co19 (oneline2 hln _ (by omega)) rfl ?_
     rintro _ w2 ⟨rfl, q2⟩
     have z2 := q2.size
     refine asg rfl rfl (nn (sr (mv rfl rfl ?_)))
     replace hs := hs.ext q2
     refine cl (ev1 rfl) co20 (pof2 hos0 _ _ hs hb (by omega)) rfl ?_
     rintro _ w3 ⟨A7, c7, rfl, ho7, q3⟩
     have z3 := q3.size
     refine asg rfl rfl (nn (sr (mv rfl rfl (s_conv rfl (us Tryd.underlying5) Tryd.underlying3 (wi6 (by omega)) rfl (mv rfl rfl (lnS rfl Tryd.underlying45 rfl (s_add rfl rfl (wi6 (by omega)) rfl ?_)))))))
     refine s_rem rfl rfl (by omega) (show Int.tmod at_ ((os.length : Int) + 1) = (k : Int) by rw [← hk]; exact IntWalk.rem_in _ _ (by omega)) rfl ?_
     refine asg rfl rfl (kpL [(2, _), (7, _), (8, _)] (.cons rfl (.cons rfl (.cons rfl .nil))) (nn (sr (asg rfl rfl (nn (sq (sr (asg rfl rfl (nn (bl ?_))))))))))
     refine lpK (ι := Nat) [(2, _), (7, _), (8, _)] (fun i => [(9, S (lnsT os lne k i)), (10, .int .i64 (i : Int))]) (fun i w' => Fr [] w3 w' ∧ i ≤ os.length + 1) (fun i => os.length + 1 - i) 0 (.cons rfl (.cons rfl (.cons rfl (.cons rfl (.cons rfl .nil))))) ⟨Fr.refl _ _, by omega⟩ ?_
     rintro i w4 ⟨q4, hi⟩
     have z4 := q4.size
     refine kpC [(2, _), (7, _), (8, _), (9, _), (10, _)] (.cons rfl (.cons rfl (.cons rfl (.cons rfl (.cons rfl .nil))))) ?_
     have hll := lnsT_len os (line := lne) (by omega) k i
     refine sq (sr (mv rfl rfl (mv rfl rfl (lnS rfl Tryd.underlying45 rfl (le' rfl rfl rfl (nn ?_))))))
     refine cd rfl (fun c1 => ?_) (fun c1 => ?_)
     · refine sk (tn (sq (bl (sq (sr (mv rfl rfl (mv rfl rfl (eq' rfl rfl rfl (nn ?_)))))))))
       refine cd rfl (fun c2 => ?_) (fun c2 => ?_)
       · refine rg (mv rfl rfl (mv rfl rfl (s_adds rfl rfl (by first | (have := txt_len (os.getD i op0); simp only [List.length_append, List.length_cons, List.length_nil]; omega) | (simp only [List.length_append, List.length_take, List.length_drop]; omega)) rfl (s_adds rfl rfl (by first | (have := txt_len (os.getD i op0); simp only [List.length_append, List.length_cons, List.length_nil]; omega) | (simp only [List.length_append, List.length_take, List.length_drop]; omega)) rfl (asg rfl rfl (nl (tn (sr (mv rfl rfl (mv rfl rfl (lnS rfl Tryd.underlying45 rfl ?_)))))))))))
         refine lt' rfl rfl rfl (nn ?_)
         refine cd rfl (fun c3 => ?_) (fun c3 => ?_)
         · refine rg (mv rfl rfl (mv rfl rfl (mv rfl rfl ?_)))
           replace ho7 := ho7.ext q4
           refine s_idxL (p := i) (op0) rfl ho7.sl rfl el45 (by omega) (by omega) (by omega) rfl (fun ad57 hc57 => ?_)
           refine s_loadA rfl (hc57 _ ho7.sl) ag31 rfl ?_
           refine cl (ev1 rfl) co15 (ltext_ok (os.getD i op0) _ (hoc i (by omega))) rfl ?_
           rintro _ w5 ⟨rfl, q5⟩
           have z5 := q5.size
           refine s_adds rfl rfl (by first | (have := txt_len (os.getD i op0); simp only [List.length_append, List.length_cons, List.length_nil]; omega) | (simp only [List.length_append, List.length_take, List.length_drop]; omega)) rfl (s_adds rfl rfl (by first | (have := txt_len (os.getD i op0); simp only [List.length_append, List.length_cons, List.length_nil]; omega) | (simp only [List.length_append, List.length_take, List.length_drop]; omega)) rfl (asg rfl rfl (kpL [(2, _), (7, _), (8, _), (9, _), (10, _)] (.cons rfl (.cons rfl (.cons rfl (.cons rfl (.cons rfl .nil))))) (nl (bn' (tn (rg (mv rfl rfl (s_add rfl rfl (wi6 (by omega)) rfl (asg rfl rfl (nl ?_)))))))))))
           exact lpE (i + 1) (.cons rfl (.cons rfl (.cons rfl (.cons (by first | (rw [lns_tt (by omega) (by omega)]; rfl) | (rw [lns_tf (by omega) (by omega)]; rfl) | (rw [lns_ft (by omega) (by omega)]; rfl) | (rw [lns_ff (by omega) (by omega)]; rfl)) (.cons rfl .nil))))) ⟨(q4.next q5), by omega⟩ (by omega)
         · refine sk (bn' (tn (rg (mv rfl rfl (s_add rfl rfl (wi6 (by omega)) rfl (asg rfl rfl (nl ?_)))))))
           exact lpE (i + 1) (.cons rfl (.cons rfl (.cons rfl (.cons (by first | (rw [lns_tt (by omega) (by omega)]; rfl) | (rw [lns_tf (by omega) (by omega)]; rfl) | (rw [lns_ft (by omega) (by omega)]; rfl) | (rw [lns_ff (by omega) (by omega)]; rfl)) (.cons rfl .nil))))) ⟨q4, by omega⟩ (by omega)
       · refine sk (tn (sr (mv rfl rfl (mv rfl rfl (lnS rfl Tryd.underlying45 rfl (lt' rfl rfl rfl (nn ?_)))))))
         refine cd rfl (fun c3 => ?_) (fun c3 => ?_)
         · refine rg (mv rfl rfl (mv rfl rfl (mv rfl rfl ?_)))
           replace ho7 := ho7.ext q4
           refine s_idxL (p := i) (op0) rfl ho7.sl rfl el45 (by omega) (by omega) (by omega) rfl (fun ad57 hc57 => ?_)
           refine s_loadA rfl (hc57 _ ho7.sl) ag31 rfl ?_
           refine cl (ev1 rfl) co15 (ltext_ok (os.getD i op0) _ (hoc i (by omega))) rfl ?_
           rintro _ w6 ⟨rfl, q6⟩
           have z6 := q6.size
           refine s_adds rfl rfl (by first | (have := txt_len (os.getD i op0); simp only [List.length_append, List.length_cons, List.length_nil]; omega) | (simp only [List.length_append, List.length_take, List.length_drop]; omega)) rfl (s_adds rfl rfl (by first | (have := txt_len (os.getD i op0); simp only [List.length_append, List.length_cons, List.length_nil]; omega) | (simp only [List.length_append, List.length_take, List.length_drop]; omega)) rfl (asg rfl rfl (kpL [(2, _), (7, _), (8, _), (9, _), (10, _)] (.cons rfl (.cons rfl (.cons rfl (.cons rfl (.cons rfl .nil))))) (nl (bn' (tn (rg (mv rfl rfl (s_add rfl rfl (wi6 (by omega)) rfl (asg rfl rfl (nl ?_)))))))))))
           exact lpE (i + 1) (.cons rfl (.cons rfl (.cons rfl (.cons (by first | (rw [lns_tt (by omega) (by omega)]; rfl) | (rw [lns_tf (by omega) (by omega)]; rfl) | (rw [lns_ft (by omega) (by omega)]; rfl) | (rw [lns_ff (by omega) (by omega)]; rfl)) (.cons rfl .nil))))) ⟨(q4.next q6), by omega⟩ (by omega)
         · refine sk (bn' (tn (rg (mv rfl rfl (s_add rfl rfl (wi6 (by omega)) rfl (asg rfl rfl (nl ?_)))))))
           exact lpE (i + 1) (.cons rfl (.cons rfl (.cons rfl (.cons (by first | (rw [lns_tt (by omega) (by omega)]; rfl) | (rw [lns_tf (by omega) (by omega)]; rfl) | (rw [lns_ft (by omega) (by omega)]; rfl) | (rw [lns_ff (by omega) (by omega)]; rfl)) (.cons rfl .nil))))) ⟨q4, by omega⟩ (by omega)
     · obtain rfl : i = os.length + 1 := by omega
       refine ex (te (te (xh (tn (sr (asg rfl rfl (nn (sq (sr (asg rfl rfl (nn ?_)))))))))))
       refine bl ?_
       refine lpK (ι := Nat) [(2, _), (7, _), (8, _), (9, _)] (fun i => [(11, S (lne.take i)), (12, .int .i64 (i : Int))]) (fun i w' => Fr [] w4 w' ∧ i ≤ lne.length ∧ ∀ c ∈ lne.take i, no35 c = true) (fun i => lne.length - i) 0 (.cons rfl (.cons rfl (.cons rfl (.cons rfl (.cons rfl (.cons rfl .nil)))))) ⟨Fr.refl _ _, ⟨by omega, by simp⟩⟩ ?_
       rintro i w7 ⟨q7, ⟨hi, hn35⟩⟩
       have z7 := q7.size
       refine kpC [(2, _), (7, _), (8, _), (9, _), (11, _), (12, _)] (.cons rfl (.cons rfl (.cons rfl (.cons rfl (.cons rfl (.cons rfl .nil)))))) ?_
       refine sq (sq ?_)
       refine rbo (r := 71) (L' := [(2, _), (7, _), (8, _), (9, _), (11, _), (12, _)]) ((((i : Int) < (lne.length : Int)) ∧ (((lne.getD i 0).toNat : Int) ≠ 35))) (.cons rfl (.cons rfl (.cons rfl (.cons rfl (.cons rfl (.cons rfl .nil)))))) ?_ ?_
       · refine mv rfl rfl (mv rfl rfl (ln rfl Tryd.underlying9 rfl (lt' rfl rfl rfl (mv rfl rfl ?_))))
         refine gs 66 rfl (fun g1 => ?_) (fun g1 => ?_)
         · refine gY rfl (mv rfl rfl (gY rfl (mv rfl rfl (gY rfl (s_index (p := i) rfl rfl Tryd.underlying9 (by omega) (by omega) (by omega) rfl (fun hy69 => ?_))))))
           exact gY rfl (ne' rfl rfl rfl (pkt rfl rfl rfl rfl (rbe rfl (by first | exact bt (by omega) | exact bf (by omega) | exact bi (by omega) | exact bn (by omega) | (simp_all; done) | (simp_all; omega)) (.cons rfl (.cons rfl (.cons rfl (.cons rfl (.cons rfl (.cons rfl .nil)))))))))
         · exact gN rfl rfl rfl (gN rfl rfl rfl (gN rfl rfl rfl (gN rfl rfl rfl (pkf rfl rfl rfl rfl (rbe rfl (by first | exact bt (by omega) | exact bf (by omega) | exact bi (by omega) | exact bn (by omega) | (simp_all; done) | (simp_all; omega)) (.cons rfl (.cons rfl (.cons rfl (.cons rfl (.cons rfl (.cons rfl .nil)))))))))))
       · refine tn ?_
         refine cd rfl (fun c4 => ?_) (fun c4 => ?_)
         · refine sk (tn (sq (bl (rg (mv rfl rfl (mv rfl rfl (mv rfl rfl (mv rfl rfl (s_add rfl rfl (wi6 (by omega)) rfl (s_ss_lh (p := i) (p' := i + 1) rfl rfl rfl Tryd.underlying9 (by omega) (by omega) (by omega) (by omega) (by omega) rfl (s_adds rfl rfl (by first | (have := txt_len (os.getD i op0); simp only [List.length_append, List.length_cons, List.length_nil]; omega) | (simp only [List.length_append, List.length_take, List.length_drop]; omega)) rfl ?_)))))))))))
           refine asg rfl rfl (kpL [(2, _), (7, _), (8, _), (9, _), (11, _), (12, _)] (.cons rfl (.cons rfl (.cons rfl (.cons rfl (.cons rfl (.cons rfl .nil)))))) (nl (bn' (tn (rg (mv rfl rfl (s_add rfl rfl (wi6 (by omega)) rfl (asg rfl rfl (nl ?_)))))))))
           exact lpE (i + 1) (.cons rfl (.cons rfl (.cons rfl (.cons rfl (.cons (congrArg (fun z => some (S z)) (show lne.take i ++ (lne.take (i + 1)).drop i = lne.take (i + 1) by rw [slice_one lne i (by omega)]; exact (take_snoc8 lne i (by omega)).symm)) (.cons rfl .nil)))))) ⟨q7, ⟨by omega, no35_snoc (by omega) hn35 c4.2⟩⟩ (by omega)
         · have hex : i = lne.length ∨ ((lne.getD i 0).toNat : Int) = 35 := by omega
           refine ex (te (te (xh (tn (sq (bl ?_))))))
           refine lpK (ι := Nat) [(7, _), (8, _), (9, _)] (fun j => [(11, S ((lne.take i).drop j))]) (fun j w' => Fr [] w7 w' ∧ j ≤ (lne.take i).length ∧ ∀ c ∈ (lne.take i).take j, c = 32) (fun j => (lne.take i).length - j) 0 (.cons rfl (.cons rfl (.cons rfl (.cons (by rw [List.drop_zero]; rfl) .nil)))) ⟨Fr.refl _ _, ⟨by omega, by simp⟩⟩ ?_
           rintro j w8 ⟨q8, ⟨hj, hjs⟩⟩
           have z8 := q8.size
           refine kpC [(7, _), (8, _), (9, _), (11, _)] (.cons rfl (.cons rfl (.cons rfl (.cons rfl .nil)))) ?_
           have hxl : (lne.take i).length = i := by rw [List.length_take]; omega
           have hdl : ((lne.take i).drop j).length = (lne.take i).length - j := List.length_drop
           refine sq (sq ?_)
           refine rbo (r := 88) (L' := [(7, _), (8, _), (9, _), (11, _)]) (((0 < (((lne.take i).drop j).length : Int)) ∧ (((((lne.take i).drop j).getD 0 0).toNat : Int) = 32))) (.cons rfl (.cons rfl (.cons rfl (.cons rfl .nil)))) ?_ ?_
           · refine mv rfl rfl (ln rfl Tryd.underlying9 rfl (gt' rfl rfl rfl (mv rfl rfl ?_)))
             refine gs 84 rfl (fun g2 => ?_) (fun g2 => ?_)
             · refine gY rfl (mv rfl rfl (gY rfl (s_index (p := 0) rfl rfl Tryd.underlying9 (by omega) (by omega) rfl rfl (fun hy86 => ?_))))
               exact gY rfl (eq' rfl rfl rfl (pkt rfl rfl rfl rfl (rbe rfl (by first | exact bt (by omega) | exact bf (by omega) | exact bi (by omega) | exact bn (by omega) | (simp_all; done) | (simp_all; omega)) (.cons rfl (.cons rfl (.cons rfl (.cons rfl .nil)))))))
             · exact gN rfl rfl rfl (gN rfl rfl rfl (gN rfl rfl rfl (pkf rfl rfl rfl rfl (rbe rfl (by first | exact bt (by omega) | exact bf (by omega) | exact bi (by omega) | exact bn (by omega) | (simp_all; done) | (simp_all; omega)) (.cons rfl (.cons rfl (.cons rfl (.cons rfl .nil))))))))
           · refine tn ?_
             refine cd rfl (fun c5 => ?_) (fun c5 => ?_)
             · refine sk (tn (bl (rg (mv rfl rfl (s_ss_l (p := 1) rfl rfl Tryd.underlying9 (by omega) (by omega) rfl rfl (asg rfl rfl (nl (bn' ?_))))))))
               exact lpE (j + 1) (.cons rfl (.cons rfl (.cons rfl (.cons (congrArg (fun z => some (S z)) (show ((lne.take i).drop j).drop 1 = (lne.take i).drop (j + 1) by rw [List.drop_drop])) .nil)))) ⟨q8, ⟨by omega, sp_snoc (by omega) hjs c5.2⟩⟩ (by omega)
             · refine ex (te (te (xh (tn (sq (bl ?_))))))
               refine lpK (ι := Nat) [(7, _), (8, _), (9, _)] (fun m => [(11, S (((lne.take i).drop j).take m))]) (fun m w' => Fr [] w8 w' ∧ m ≤ ((lne.take i).drop j).length ∧ ∀ c ∈ ((lne.take i).drop j).drop m, c = 32) (fun m => m) ((lne.take i).drop j).length (.cons rfl (.cons rfl (.cons rfl (.cons (by rw [List.take_length]; rfl) .nil)))) ⟨Fr.refl _ _, ⟨Nat.le_refl _, by rw [List.drop_length]; simp⟩⟩ ?_
               rintro m w9 ⟨q9, ⟨hml, hms⟩⟩
               have z9 := q9.size
               refine kpC [(7, _), (8, _), (9, _), (11, _)] (.cons rfl (.cons rfl (.cons rfl (.cons rfl .nil)))) ?_
               have htl : (((lne.take i).drop j).take m).length = m := by rw [List.length_take]; omega
               refine sq (sq ?_)
               refine rbo (r := 101) (L' := [(7, _), (8, _), (9, _), (11, _)]) (((0 < ((((lne.take i).drop j).take m).length : Int)) ∧ ((((((lne.take i).drop j).take m).getD (m - 1) 0).toNat : Int) = 32))) (.cons rfl (.cons rfl (.cons rfl (.cons rfl .nil)))) ?_ ?_
               · refine mv rfl rfl (ln rfl Tryd.underlying9 rfl (gt' rfl rfl rfl (mv rfl rfl ?_)))
                 refine gs 94 rfl (fun g3 => ?_) (fun g3 => ?_)
                 · refine gY rfl (mv rfl rfl (gY rfl (mv rfl rfl (gY rfl (ln rfl Tryd.underlying9 rfl (gY rfl (s_sub rfl rfl (wi6 (by omega)) rfl (gY rfl (s_index (p := m - 1) rfl rfl Tryd.underlying9 (by omega) (by omega) (by omega) rfl (fun hy99 => ?_))))))))))
                   exact gY rfl (eq' rfl rfl rfl (pkt rfl rfl rfl rfl (rbe rfl (by first | exact bt (by omega) | exact bf (by omega) | exact bi (by omega) | exact bn (by omega) | (simp_all; done) | (simp_all; omega)) (.cons rfl (.cons rfl (.cons rfl (.cons rfl .nil)))))))
                 · exact gN rfl rfl rfl (gN rfl rfl rfl (gN rfl rfl rfl (gN rfl rfl rfl (gN rfl rfl rfl (gN rfl rfl rfl (pkf rfl rfl rfl rfl (rbe rfl (by first | exact bt (by omega) | exact bf (by omega) | exact bi (by omega) | exact bn (by omega) | (simp_all; done) | (simp_all; omega)) (.cons rfl (.cons rfl (.cons rfl (.cons rfl .nil)))))))))))
               · refine tn ?_
                 refine cd rfl (fun c6 => ?_) (fun c6 => ?_)
                 · refine sk (tn (bl (rg (mv rfl rfl (mv rfl rfl (ln rfl Tryd.underlying9 rfl (s_sub rfl rfl (wi6 (by omega)) rfl (s_ss_h (p := m - 1) rfl rfl Tryd.underlying9 (by omega) (by omega) (by omega) rfl (asg rfl rfl (kpL [(7, _), (8, _), (9, _), (11, _)] (.cons rfl (.cons rfl (.cons rfl (.cons rfl .nil)))) (nl ?_)))))))))))
                   refine bn' ?_
                   exact lpE (m - 1) (.cons rfl (.cons rfl (.cons rfl (.cons (congrArg (fun z => some (S z)) (show (((lne.take i).drop j).take m).take (m - 1) = ((lne.take i).drop j).take (m - 1) by rw [List.take_take, Nat.min_eq_left (by omega)])) .nil)))) ⟨q9, ⟨by omega, sp_cons (by omega) (by omega) hms c6.2⟩⟩ (by omega)
                 · obtain ⟨lf, hlf⟩ : ∃ lf, lf = ((lne.take i).drop j).take m := ⟨_, rfl⟩
                   have hlf2 : lineS lne = lf := by rw [hlf]; exact left_line hi hn35 hex hjs c5 hml hms (by rw [htl] at c6; omega)
                   have hlfl : lf.length ≤ lne.length := by rw [← hlf2]; exact line_len _
                   rw [← hlf]
                   refine ex (te (te (xh (tn (sr (mv rfl rfl ?_))))))
                   replace hG := hG.ext (((((q2.next q3).next q4).next q7).next q8).next q9)
                   refine cl (ev1 rfl) co21 (program_ok _ _ hG (by omega)) rfl ?_
                   rintro _ w10 ⟨A13, gs, n, e, hpe, rfl, hos, q10⟩
                   have z10 := q10.size
                   rw [lnsT_all hkl, prog_lines hkl hosc (by omega) hn10, hlf2] at hpe
                   refine mv rfl rfl (xt rfl rfl rfl (xt rfl rfl rfl (xt rfl rfl rfl (asg rfl rfl (asg rfl rfl (asg rfl rfl ?_))))))
                   
                   refine kpL [(7, _), (8, _), (11, _), (13, _), (14, _), (15, _)] (.cons rfl (.cons rfl (.cons rfl (.cons rfl (.cons rfl (.cons rfl .nil)))))) (nn (sq (sr (mv rfl rfl (s_eqs rfl rfl rfl (nn ?_))))))
                   refine cd rfl (fun c7 => ?_) (fun c7 => ?_)
                   · rw [if_pos c7] at hpe
                     cases hpe
                     refine sq ?_
                     refine rboF (r := 6) (L' := []) (True) .nil ?_ ?_
                     · refine mv rfl rfl (eq' rfl rfl rfl (mv rfl rfl ?_))
                       refine gs 117 rfl (fun g4 => ?_) (fun g4 => ?_)
                       · refine gY rfl (mv rfl rfl (gY rfl (eq' rfl rfl rfl (pkt rfl rfl rfl rfl (mv rfl rfl ?_)))))
                         refine gs 121 rfl (fun g5 => ?_) (fun g5 => ?_)
                         · refine gY rfl (mv rfl rfl (gY rfl (lnS rfl Tryd.underlying45 rfl (gY rfl (mv rfl rfl (gY rfl (lnS rfl Tryd.underlying45 rfl (gY rfl (eq' rfl rfl rfl (pkt rfl rfl rfl rfl (mv rfl rfl ?_)))))))))))
                           refine gs 128 rfl (fun g6 => ?_) (fun g6 => ?_)
                           · refine gY rfl ?_
                             replace hG := hG.ext q10
                             refine cl evs_nil co12 (lives_ok _ hG) rfl ?_
                             rintro _ w11 ⟨rfl, q11⟩
                             have z11 := q11.size
                             exact pkt rfl rfl rfl rfl (asg rfl rfl (rbeF rfl (by first | rfl | (simp_all; done)) .nil q11))
                           · exact gN rfl rfl rfl (pkf rfl rfl rfl rfl (asg rfl rfl (rbeF rfl (by first | rfl | (simp_all; done)) .nil (Fr.refl _ _))))
                         · exact gN rfl rfl rfl (gN rfl rfl rfl (gN rfl rfl rfl (gN rfl rfl rfl (gN rfl rfl rfl (pkf rfl rfl rfl rfl (mv rfl rfl (gN rfl rfl rfl (pkf rfl rfl rfl rfl (asg rfl rfl (rbeF rfl (by first | rfl | (simp_all; done)) .nil (Fr.refl _ _)))))))))))
                       · refine gN rfl rfl rfl (gN rfl rfl rfl (pkf rfl rfl rfl rfl (mv rfl rfl (gN rfl rfl rfl (gN rfl rfl rfl (gN rfl rfl rfl (gN rfl rfl rfl (gN rfl rfl rfl (pkf rfl rfl rfl rfl (mv rfl rfl (gN rfl rfl rfl ?_)))))))))))
                         exact pkf rfl rfl rfl rfl (asg rfl rfl (rbeF rfl (by first | rfl | (simp_all; done)) .nil (Fr.refl _ _)))
                     · intro w12 q12; have z12 := q12.size
                       refine tn (rt (tr (r1 Tryd.results5 rfl ?_)))
                       exact ⟨_, rfl, by first | rfl | simp, (((((((q2.next q3).next q4).next q7).next q8).next q9).next q10).next q12)⟩
                   · rw [if_neg c7] at hpe
                     refine sk (tn (sq (sr (mv rfl rfl ?_))))
                     replace hG := hG.ext q10
                     refine cl (ev1 rfl) co14 (parse_ok _ _ hG (by omega)) rfl ?_
                     rintro _ w13 ⟨o, f, hpo, rfl, q13⟩
                     have z13 := q13.size
                     rw [hpo] at hpe
                     simp only at hpe
                     have hpb := parse_back hpo
                     refine mv rfl rfl (xt rfl rfl rfl (xt rfl rfl rfl (al zv31 rfl rfl (fun g16 w14 hg16 hb16 q14 z14 => ?_))))
                     refine s_storeBA rfl rfl hb16 rfl (by first | (simp [Value.oneCell', S]; done) | exact Enc.one _ _) sz31 (fun w15 hb16 q15 z15 => ?_)
                     refine asg rfl rfl (kpL [(7, _), (8, _), (13, _), (14, _), (15, _), (16, _), (17, _)] (.cons rfl (.cons rfl (.cons rfl (.cons rfl (.cons rfl (.cons rfl (.cons rfl .nil))))))) (nn (sr (mv rfl rfl (eq' rfl rfl rfl (nn ?_))))))
                     refine cd rfl (fun c8 => ?_) (fun c8 => ?_)
                     · rw [if_neg (by omega)] at hpe
                       cases hpe
                       have hgl : ((os.take k ++ o :: os.drop k).length : Int) = (os.length : Int) + 1 := by simp; omega
                       refine jn (ι := Bool) [] (fun b28 => [(6, .bool b28)]) (fun b28 w' => Fr [] w15 w' ∧ b28 = true) .nil ?_ ?_
                       · replace hG := (hG.ext (q13.next q14)).fr q15 (by first | (simp; done) | (simp; omega) | (simp [blks]; done) | (simp [blks]; omega) | (intro k hk hb; simp at hk; subst hk; have := (hG.blk _ hb).2; omega))
                         replace ho7 := (ho7.ext ((((((q4.next q7).next q8).next q9).next q10).next q13).next q14)).fr q15 (by first | (simp; done) | (simp; omega) | (simp [blks]; done) | (simp [blks]; omega) | (intro k hk hb; simp at hk; subst hk; have := (ho7.blk _ hb).2; omega))
                         replace hos := (hos.ext (q13.next q14)).fr q15 (by first | (simp; done) | (simp; omega) | (simp [blks]; done) | (simp [blks]; omega) | (intro k hk hb; simp at hk; subst hk; have := (hos.blk _ hb).2; omega))
                         intro a h
                         have qh28 := Fr.refl [] w15
                         refine region_held (fun wb w' => Fr [] wb w') hmix ?_; intro w16 hq
                         have z16 := hq.size
                         replace hG := hG.ext hq
                         replace ho7 := ho7.ext hq
                         replace hos := hos.ext hq
                         replace hb16 := hb16.ext hq
                         replace qh28 := qh28.next hq
                         have hsz := hq.size; clear hq; have hC : Fr [] w16 w16 := Fr.refl _ _
                         have hG_b := hG
                         have ho7_b := ho7
                         have hos_b := hos
                         have hb16_b := hb16
                         refine hd_move 0 (by kernel_rfl) (by kernel_rfl) (by kernel_rfl) hC h wn rfl rfl rfl ?_; clear h a; intro a h
                         refine hd_eq 1 (by kernel_rfl) (by kernel_rfl) (by kernel_rfl) hC h wn rfl rfl rfl rfl ?_; clear h a; intro a h
                         refine hd_move 2 (by kernel_rfl) (by kernel_rfl) (by kernel_rfl) hC h wn rfl rfl rfl ?_; clear h a; intro a h
                         refine guard_dec (D := 140) h rfl ?_ (fun hh => absurd (by rfl) hh)
                         clear h; intro g7 h
                         refine hd_move 3 (by kernel_rfl) (by kernel_rfl) (by kernel_rfl) hC h (wy rfl) rfl rfl rfl ?_; clear h a; intro a h
                         refine hd_eq 4 (by kernel_rfl) (by kernel_rfl) (by kernel_rfl) hC h (wy rfl) rfl rfl rfl rfl ?_; clear h a; intro a h
                         refine hd_one 5 (by kernel_rfl) rfl ?_
                         refine st_pick_t h rfl rfl rfl rfl ?_; clear h a; intro a h
                         refine hd_next hC ?_
                         refine hd_move 6 (by kernel_rfl) (by kernel_rfl) (by kernel_rfl) hC h wn rfl rfl rfl ?_; clear h a; intro a h
                         refine guard_dec (D := 144) h rfl ?_ (fun hh => absurd (by rfl) hh)
                         clear h; intro g8 h
                         refine hd_move 7 (by kernel_rfl) (by kernel_rfl) (by kernel_rfl) hC h (wy rfl) rfl rfl rfl ?_; clear h a; intro a h
                         refine hd_lenS 8 (by kernel_rfl) (by kernel_rfl) (by kernel_rfl) hC h (wy rfl) rfl Tryd.underlying45 rfl rfl ?_; clear h a; intro a h
                         refine hd_move 9 (by kernel_rfl) (by kernel_rfl) (by kernel_rfl) hC h (wy rfl) rfl rfl rfl ?_; clear h a; intro a h
                         refine hd_lenS 10 (by kernel_rfl) (by kernel_rfl) (by kernel_rfl) hC h (wy rfl) rfl Tryd.underlying45 rfl rfl ?_; clear h a; intro a h
                         refine hd_add 11 (by kernel_rfl) (by kernel_rfl) (by kernel_rfl) hC h (wy rfl) rfl rfl (by first | exact IntWalk.i64_in _ (by omega) | rfl) rfl rfl ?_; clear h a; intro a h
                         refine hd_eq 12 (by kernel_rfl) (by kernel_rfl) (by kernel_rfl) hC h (wy rfl) rfl rfl rfl rfl ?_; clear h a; intro a h
                         refine hd_one 13 (by kernel_rfl) rfl ?_
                         refine st_pick_t h rfl rfl rfl rfl ?_; clear h a; intro a h
                         refine hd_next hC ?_
                         refine hd_move 14 (by kernel_rfl) (by kernel_rfl) (by kernel_rfl) hC h wn rfl rfl rfl ?_; clear h a; intro a h
                         refine guard_dec (D := 152) h rfl ?_ (fun hh => absurd (by exact hgl) hh)
                         clear h; intro g9 h
                         refine hd_move 15 (by kernel_rfl) (by kernel_rfl) (by kernel_rfl) hC h (wy rfl) rfl rfl rfl ?_; clear h a; intro a h
                         refine hd_move 16 (by kernel_rfl) (by kernel_rfl) (by kernel_rfl) hC h (wy rfl) rfl rfl rfl ?_; clear h a; intro a h
                         refine hd_idxL (p := k) (op0) 17 (by kernel_rfl) (by kernel_rfl) (by kernel_rfl) hC h (wy rfl) rfl hos.sl rfl el45 (by omega) (by omega) (by omega) rfl rfl ?_; clear h a; intro ad155 hc155 a h
                         refine hd_loadA 18 (by kernel_rfl) (by kernel_rfl) (by kernel_rfl) hC h (wy rfl) rfl (fun _ hw => hc155 _ (hos_b.sl.ext hw)) ag31 rfl rfl ?_; clear h a; intro a h
                         refine hd_loadBA 19 (by kernel_rfl) (by kernel_rfl) (by kernel_rfl) hC h (wy rfl) rfl (fun _ hw => hb16_b.ext hw) ag31 rfl rfl ?_; clear h a; intro a h
                         refine hd_eqV (V := opF) (e := ⟨_, _, _, _, _, _⟩) (f := ⟨_, _, _, _, _, _⟩) 20 (by kernel_rfl) (by kernel_rfl) (by kernel_rfl) hC h (wy rfl) rfl rfl eqOp rfl rfl ?_; clear h a; intro a h
                         refine hd_one 21 (by kernel_rfl) rfl ?_
                         refine st_pick_t h rfl rfl rfl rfl ?_; clear h a; intro a h
                         refine hd_next hC ?_
                         refine hd_move 22 (by kernel_rfl) (by kernel_rfl) (by kernel_rfl) hC h wn rfl rfl rfl ?_; clear h a; intro a h
                         refine guard_dec (D := 160) h rfl ?_ (fun hh => absurd (by exact getD_mid (by rw [List.length_take]; omega)) hh)
                         clear h; intro g10 h
                         refine hd_one 23 (by kernel_rfl) rfl ?_
                         refine gd_yes h rfl rfl rfl rfl rfl rfl ?_
                         refine st_call h evs_nil co12 (lives_ok _ hG) rfl ?_; clear h a; rintro _ w17 ⟨rfl, hq⟩ a h
                         have z17 := hq.size
                         replace hG := hG.ext hq
                         replace ho7 := ho7.ext hq
                         replace hos := hos.ext hq
                         replace hb16 := hb16.ext hq
                         replace qh28 := qh28.next hq
                         replace hC := hC.next hq
                         clear hq
                         refine hd_next hC ?_
                         refine hd_one 24 (by kernel_rfl) rfl ?_
                         refine st_pick_t h rfl rfl rfl rfl ?_; clear h a; intro a h
                         refine hd_next hC ?_
                         refine hd_one 25 (by kernel_rfl) rfl ?_
                         refine st_assign h rfl rfl ?_; clear h a; intro a h
                         refine hd_next hC ?_
                         refine hd_end (by kernel_rfl) ?_
                         clear hC hG_b ho7_b hos_b hb16_b
                         have z17 := qh28.size
                         refine bk (h.sub (L' := [(6, _)]) (.cons rfl .nil)) ?_; clear h a
                         exact jE (_) (.cons rfl .nil) ⟨qh28, rfl⟩
                       · rintro b28 w18 ⟨q18, rfl⟩
                         have z18 := q18.size
                         refine kpC [(6, _)] (.cons rfl .nil) ?_
                         refine rt (tr (r1 Tryd.results5 rfl ?_))
                         exact ⟨_, rfl, by first | rfl | simp, ((((((((((q2.next q3).next q4).next q7).next q8).next q9).next q10).next q13).next q14).step q15 (by first | (simp; done) | (simp; omega))).next q18)⟩
                     · rw [if_pos c8] at hpe
                       cases hpe
                       obtain rfl : e = 4 := by rcases hpb with h | h; exact absurd h.1 c8; exact h.1
                       refine sk (tn (sq ?_))
                       refine rboF (r := 6) (L' := []) (True) .nil ?_ ?_
                       · refine mv rfl rfl (eq' rfl rfl rfl (mv rfl rfl ?_))
                         refine gs 165 rfl (fun g11 => ?_) (fun g11 => ?_)
                         · refine gY rfl (mv rfl rfl (gY rfl (mv rfl rfl (gY rfl (s_add rfl rfl (wi6 (by omega)) rfl (gY rfl (eq' rfl rfl rfl (pkt rfl rfl rfl rfl (mv rfl rfl ?_)))))))))
                           refine gs 171 rfl (fun g12 => ?_) (fun g12 => ?_)
                           · refine gY rfl (mv rfl rfl (gY rfl (lnS rfl Tryd.underlying45 rfl (gY rfl (eq' rfl rfl rfl (pkt rfl rfl rfl rfl (mv rfl rfl ?_)))))))
                             refine gs 176 rfl (fun g13 => ?_) (fun g13 => ?_)
                             · refine gY rfl ?_
                               replace hG := (hG.ext (q13.next q14)).fr q15 (by first | (simp; done) | (simp; omega) | (simp [blks]; done) | (simp [blks]; omega) | (intro k hk hb; simp at hk; subst hk; have := (hG.blk _ hb).2; omega))
                               refine cl evs_nil co12 (lives_ok _ hG) rfl ?_
                               rintro _ w19 ⟨rfl, q19⟩
                               have z19 := q19.size
                               exact pkt rfl rfl rfl rfl (asg rfl rfl (rbeF rfl (by first | rfl | (simp_all; done)) .nil q19))
                             · exact gN rfl rfl rfl (pkf rfl rfl rfl rfl (asg rfl rfl (rbeF rfl (by first | rfl | (simp_all; done)) .nil (Fr.refl _ _))))
                           · exact gN rfl rfl rfl (gN rfl rfl rfl (gN rfl rfl rfl (pkf rfl rfl rfl rfl (mv rfl rfl (gN rfl rfl rfl (pkf rfl rfl rfl rfl (asg rfl rfl (rbeF rfl (by first | rfl | (simp_all; done)) .nil (Fr.refl _ _)))))))))
                         · refine gN rfl rfl rfl (gN rfl rfl rfl (gN rfl rfl rfl (gN rfl rfl rfl (pkf rfl rfl rfl rfl (mv rfl rfl (gN rfl rfl rfl (gN rfl rfl rfl (gN rfl rfl rfl (pkf rfl rfl rfl rfl (mv rfl rfl (gN rfl rfl rfl ?_)))))))))))
                           exact pkf rfl rfl rfl rfl (asg rfl rfl (rbeF rfl (by first | rfl | (simp_all; done)) .nil (Fr.refl _ _)))
                       · intro w20 q20; have z20 := q20.size
                         refine tn (rt (r1 Tryd.results5 rfl ?_))
                         exact ⟨_, rfl, by first | rfl | simp, ((((((((((q2.next q3).next q4).next q7).next q8).next q9).next q10).next q13).next q14).step q15 (by first | (simp; done) | (simp; omega))).next q20)⟩
end Go.Proofs.YtbalocjcbmkecaaDoor
