/- Walks. -/
import Derived.Test.YtacclnebhbakmaaDoorRows
import Derived.Test.YtacclnebhbakmaaDoorW7
import Derived.Test.YtacclnebhbakmaaDoorXOp
import Derived.Test.YtacclnebhbakmaaDoorXMap
set_option linter.unusedVariables false
set_option linter.unusedSimpArgs false
namespace Go.Proofs.YtacclnebhbakmaaDoor
open Go.Lw
theorem co24 : CallOf Tryd.prog 24 := CallOf.mk' Tryd.func24 (by kernel_rfl) (by kernel_rfl)
def txtF (os : List MOp) : Nat → List UInt8
  | 0 => []
  | n + 1 => txtF os n ++ (if 0 < n then [59, 32] else []) ++ txtO (os.getD n op0)
def textS (os : List MOp) : List UInt8 := txtF os os.length
theorem txtF_len (os : List MOp) : ∀ n, (txtF os n).length ≤ 32 * n
  | 0 => by simp [txtF]
  | n + 1 => by
    have h1 := txtF_len os n
    have h2 := txt_len (os.getD n op0)
    have h3 : (if 0 < n then [59, 32] else ([] : List UInt8)).length ≤ 2 := by split <;> simp
    simp only [txtF, List.length_append]; omega
theorem text28_ok (v : Value) (os : List MOp) (w0 : World) (hG : Glob w0) (hs : Sl encOp w0 v os) (hl : os.length ≤ 10000000) : Rets Tryd.prog 10 #[v] w0 fun r w' => r = S (textS os) ∧ Fr [] w0 w' := by
 obtain ⟨A, c, rfl, hcc, hM, hA⟩ := id hs
 clear hA
 have hGs := hG.sz
 refine we [(0, .slice A os.length c)] Tryd.func10 rfl Tryd.ntmps10 rfl (.cons rfl .nil) ?_
 have hs0 := hs
 have hG0 := hG
 refine sr (asg rfl rfl (nn (sr (asg rfl rfl (nn (sq (sr (asg rfl rfl (nn (bl ?_))))))))))
 refine lpK (ι := Nat) [(0, _)] (fun i => [(3, S (txtF os i)), (4, .int .i64 (i : Int))]) (fun i w' => Fr [] w0 w' ∧ i ≤ os.length) (fun i => os.length - i) 0 (.cons rfl (.cons rfl (.cons rfl .nil))) ⟨Fr.refl _ _, Nat.zero_le _⟩ ?_
 rintro i w1 ⟨q1, hi⟩
 have z1 := q1.size
 refine kpC [(0, _), (3, _), (4, _)] (.cons rfl (.cons rfl (.cons rfl .nil))) ?_
 have hfl := txtF_len os i
 refine sq (sr (mv rfl rfl (mv rfl rfl (lnS rfl Tryd.underlying31 rfl (lt' rfl rfl rfl (nn ?_))))))
 refine cd rfl (fun c0 => ?_) (fun c0 => ?_)
 · refine sk (tn (sq (bl (sq (sr (mv rfl rfl (gt' rfl rfl rfl (nn ?_))))))))
   refine cd rfl (fun c1 => ?_) (fun c1 => ?_)
   · refine rg (mv rfl rfl (s_adds rfl rfl (by have := txt_len (os.getD i op0); first | omega | (simp only [List.length_append, List.length_cons, List.length_nil]; omega)) rfl (asg rfl rfl (nl (tn (rg (mv rfl rfl (mv rfl rfl (mv rfl rfl ?_)))))))))
     replace hs := hs0.ext q1
     refine s_idxL (p := i) (op0) rfl hs rfl el31 (by omega) (by omega) (by omega) rfl (fun ad18 hc18 => ?_)
     refine s_loadA rfl (hc18 _ hs) ag42 rfl ?_
     replace hG := hG0.ext q1
     refine cl (ev1 rfl) co24 (text_ok (os.getD i op0) _ hG) rfl ?_
     rintro _ w2 ⟨rfl, q2⟩
     have z2 := q2.size
     refine s_adds rfl rfl (by have := txt_len (os.getD i op0); first | omega | (simp only [List.length_append, List.length_cons, List.length_nil]; omega)) rfl (asg rfl rfl (kpL [(0, _), (3, _), (4, _)] (.cons rfl (.cons rfl (.cons rfl .nil))) (nl (bn' (tn (rg (mv rfl rfl (s_add rfl rfl (wi6 (by omega)) rfl (asg rfl rfl (nl ?_))))))))))
     exact lpE (i + 1) (.cons rfl (.cons (congrArg (fun z => some (S z)) (by simp only [txtF]; first | rw [if_pos (by omega)] | rw [if_neg (by omega), List.append_nil])) (.cons rfl .nil))) ⟨(q1.next q2), by omega⟩ (by omega)
   · refine sk (tn (rg (mv rfl rfl (mv rfl rfl (mv rfl rfl ?_)))))
     replace hs := hs0.ext q1
     refine s_idxL (p := i) (op0) rfl hs rfl el31 (by omega) (by omega) (by omega) rfl (fun ad18 hc18 => ?_)
     refine s_loadA rfl (hc18 _ hs) ag42 rfl ?_
     replace hG := hG0.ext q1
     refine cl (ev1 rfl) co24 (text_ok (os.getD i op0) _ hG) rfl ?_
     rintro _ w3 ⟨rfl, q3⟩
     have z3 := q3.size
     refine s_adds rfl rfl (by have := txt_len (os.getD i op0); first | omega | (simp only [List.length_append, List.length_cons, List.length_nil]; omega)) rfl (asg rfl rfl (kpL [(0, _), (3, _), (4, _)] (.cons rfl (.cons rfl (.cons rfl .nil))) (nl (bn' (tn (rg (mv rfl rfl (s_add rfl rfl (wi6 (by omega)) rfl (asg rfl rfl (nl ?_))))))))))
     exact lpE (i + 1) (.cons rfl (.cons (congrArg (fun z => some (S z)) (by simp only [txtF]; first | rw [if_pos (by omega)] | rw [if_neg (by omega), List.append_nil])) (.cons rfl .nil))) ⟨(q1.next q3), by omega⟩ (by omega)
 · obtain rfl : i = os.length := by omega
   refine ex (te (te (xh (tn (sr (mv rfl rfl (asg rfl rfl (nn (rt (r1 Tryd.results10 rfl ?_))))))))))
   exact ⟨_, rfl, rfl, q1⟩
theorem same28_ok (v u : Value) (xs ys : List Int) (w0 : World) (hs : Sl Enc.i64 w0 v xs) (ht : Sl Enc.i64 w0 u ys) : Rets Tryd.prog 14 #[v, u] w0 fun r w' => r = .bool (decide (xs = ys)) ∧ Fr [] w0 w' := by
 obtain ⟨A, c, rfl, hcc, hM, hA⟩ := id hs
 obtain ⟨A1, c1', rfl, hcc1, hM1, hA1⟩ := id ht
 clear hA hA1
 unfold maxLen at hM hM1
 refine we [(0, .slice A xs.length c), (1, .slice A1 ys.length c1')] Tryd.func14 rfl Tryd.ntmps14 rfl (.cons rfl (.cons rfl .nil)) ?_
 have hs0 := hs
 have ht0 := ht
 refine sr (asg rfl rfl (nn (sq (sr (mv rfl rfl (lnS rfl Tryd.underlying26 rfl (mv rfl rfl (lnS rfl Tryd.underlying26 rfl (ne' rfl rfl rfl (nn ?_))))))))))
 refine cd rfl (fun c0 => ?_) (fun c0 => ?_)
 · refine sr (asg rfl rfl (nn (rt (tr (r1 Tryd.results14 rfl ?_)))))
   exact ⟨_, rfl, by first | rw [decide_eq_false (fun h => by have := congrArg List.length h; omega)] | rw [decide_eq_false (fun h => c2 (by rw [h]))] | rw [decide_eq_true (show xs = ys from List.ext_getElem (by omega) (fun j h1 h2 => by rw [getD_at xs j h1 0, getD_at ys j h2 0]; exact he j (by omega)))], (Fr.refl _ _)⟩
 · refine sk (tn (sq (sr (asg rfl rfl (nn (bl ?_))))))
   refine lpK (ι := Nat) [(0, _), (1, _)] (fun i => [(5, .int .i64 (i : Int))]) (fun i w' => Fr [] w0 w' ∧ i ≤ xs.length ∧ ∀ j, j < i → xs.getD j 0 = ys.getD j 0) (fun i => xs.length - i) 0 (.cons rfl (.cons rfl (.cons rfl .nil))) ⟨Fr.refl _ _, ⟨Nat.zero_le _, fun j hj => absurd hj (Nat.not_lt_zero j)⟩⟩ ?_
   rintro i w1 ⟨q1, ⟨hi, he⟩⟩
   have z1 := q1.size
   refine kpC [(0, _), (1, _), (5, _)] (.cons rfl (.cons rfl (.cons rfl .nil))) ?_
   refine sq (sr (mv rfl rfl (mv rfl rfl (lnS rfl Tryd.underlying26 rfl (lt' rfl rfl rfl (nn ?_))))))
   refine cd rfl (fun c1 => ?_) (fun c1 => ?_)
   · refine sk (tn (sq (bl (sq ?_))))
     replace hs := hs0.ext q1
     replace ht := ht0.ext q1
     intro a h
     refine region_quiet hmix (by kernel_rfl) ?_
     refine qt_move h rfl rfl ?_; clear h a; intro a h
     refine qt_move h rfl rfl ?_; clear h a; intro a h
     refine qt_idxL (p := i) (0) h rfl hs rfl el26 (by omega) (by omega) (by omega) rfl ?_; clear h a; intro ad19 hc19 a h
     refine qt_loadC0 h rfl (fun _ hw => hc19 _ (hs.ext hw)) na3 rfl ?_; clear h a; intro a h
     refine qt_move h rfl rfl ?_; clear h a; intro a h
     refine qt_move h rfl rfl ?_; clear h a; intro a h
     refine qt_idxL (p := i) (0) h rfl ht rfl el26 (by omega) (by omega) (by omega) rfl ?_; clear h a; intro ad23 hc23 a h
     refine qt_loadC0 h rfl (fun _ hw => hc23 _ (ht.ext hw)) na3 rfl ?_; clear h a; intro a h
     refine qt_ne h rfl rfl rfl ?_; clear h a; intro a h
     refine wpQuiet_nil ?_
     intro w2 q2
     have z2 := q2.size
     refine bk (h.sub (L' := [(0, _), (1, _), (5, _), (25, _)]) (.cons rfl (.cons rfl (.cons rfl (.cons rfl .nil))))) ?_; clear h a
     refine tn ?_
     refine cd rfl (fun c2 => ?_) (fun c2 => ?_)
     · refine sr (asg rfl rfl (nn (rt (rb (tr (tr (rb (tr (r1 Tryd.results14 rfl ?_)))))))))
       exact ⟨_, rfl, by first | rw [decide_eq_false (fun h => by have := congrArg List.length h; omega)] | rw [decide_eq_false (fun h => c2 (by rw [h]))] | rw [decide_eq_true (show xs = ys from List.ext_getElem (by omega) (fun j h1 h2 => by rw [getD_at xs j h1 0, getD_at ys j h2 0]; exact he j (by omega)))], (q1.next q2)⟩
     · refine sk (bn' (tn (rg (mv rfl rfl (s_add rfl rfl (wi6 (by omega)) rfl (asg rfl rfl (nl ?_)))))))
       exact lpE (i + 1) (.cons rfl (.cons rfl (.cons rfl .nil))) ⟨(q1.next q2), ⟨by omega, fun j hj => by
         rcases Nat.lt_or_ge j i with h | h
         · exact he j h
         · have e' : j = i := by omega
           subst e'
           omega⟩⟩ (by omega)
   · refine ex (te (te (xh (tn (sr (asg rfl rfl (nn (rt (r1 Tryd.results14 rfl ?_)))))))))
     exact ⟨_, rfl, by first | rw [decide_eq_false (fun h => by have := congrArg List.length h; omega)] | rw [decide_eq_false (fun h => c2 (by rw [h]))] | rw [decide_eq_true (show xs = ys from List.ext_getElem (by omega) (fun j h1 h2 => by rw [getD_at xs j h1 0, getD_at ys j h2 0]; exact he j (by omega)))], q1⟩
end Go.Proofs.YtacclnebhbakmaaDoor
