/- Walks. -/
import Derived.Test.YtacclnebhbakmaaDoorRows
import Derived.Test.YtacclnebhbakmaaDoorW8
import Derived.Test.YtacclnebhbakmaaDoorXOp
import Derived.Test.YtacclnebhbakmaaDoorXMap
set_option linter.unusedVariables false
set_option linter.unusedSimpArgs false
namespace Go.Proofs.YtacclnebhbakmaaDoor
open Go.Lw

theorem fit_t {l : List Int} {i a b : Nat} : fitS l i a b true ↔ 0 ≤ freeL (l.getD (i + a + b - 1) 0 - (a : Int) - 2 * (b : Int)) (l.take i).reverse := by simp [fitS]
theorem fit_f {l : List Int} {i a b : Nat} : fitS l i a b false ↔ freeR (l.getD i 0 + 2 * (a : Int) + (b : Int)) (l.drop (i + a + b)) ≤ 41 := by simp [fitS]
set_option maxHeartbeats 1000000 in
theorem fits28_ok (v : Value) (l : List Int) (i a b : Nat) (fr : Bool) (w0 : World) (hs : Sl Enc.i64 w0 v l) (ha : Asc l) (hz : 1 ≤ a ∧ 1 ≤ b ∧ a + b ≤ 4) (hil : i + a + b ≤ l.length) : Rets Tryd.prog 6 #[v, .int .i64 (i : Int), .int .i64 (a : Int), .int .i64 (b : Int), .bool fr] w0 fun r w' => r = .bool (decide (fitS l i a b fr)) ∧ Fr [] w0 w' := by
 obtain ⟨A, c, rfl, hcc, hM, hA⟩ := id hs
 clear hA
 have hl4 := ha.len
 have hai := ha i (by omega)
 have haj := ha (i + a + b - 1) (by omega)
 refine we [(0, .slice A l.length c), (1, .int .i64 (i : Int)), (2, .int .i64 (a : Int)), (3, .int .i64 (b : Int)), (4, .bool fr)] Tryd.func6 rfl Tryd.ntmps6 rfl (.cons rfl (.cons rfl (.cons rfl (.cons rfl (.cons rfl .nil))))) ?_
 have hs0 := hs
 refine sr (asg rfl rfl (nn (sq (sr (mv rfl rfl (nn ?_))))))
 refine cd rfl (fun c0 => ?_) (fun c0 => ?_)
 · subst c0
   have hle := freeL_le (l.take i).reverse (l.getD (i + a + b - 1) 0 - (a : Int) - 2 * (b : Int))
   refine sr (mv rfl rfl (mv rfl rfl (mv rfl rfl (s_add rfl rfl (wi6 (by omega)) rfl (mv rfl rfl (s_add rfl rfl (wi6 (by omega)) rfl (s_sub rfl rfl (wi6 (by omega)) rfl (s_idxL (p := (i + a + b - 1)) (0) rfl hs rfl el26 (by omega) (by omega) (by omega) rfl (fun ad23 hc23 => ?_)))))))))
   refine s_loadC0 rfl (hc23 _ hs) na3 rfl (mv rfl rfl (s_sub rfl rfl (wi6 (by omega)) rfl (mv rfl rfl (s_mul rfl rfl (wi6 (by omega)) rfl (s_sub rfl rfl (wi6 (by omega)) rfl (asg rfl rfl (kpL [(0, _), (1, _), (11, _)] (.cons rfl (.cons rfl (.cons rfl .nil))) (nn (sq (sr (mv rfl rfl ?_)))))))))))
   refine s_add rfl rfl (wi6 (by omega)) rfl (lt' rfl rfl rfl (nn ?_))
   refine cd rfl (fun c1 => ?_) (fun c1 => ?_)
   · refine sr (asg rfl rfl (nn (rt (tr (tr (r1 Tryd.results6 rfl ?_))))))
     exact ⟨_, rfl, by first | rw [decide_eq_true (fit_t.2 (by omega))] | rw [decide_eq_true (fit_f.2 (by omega))] | rw [decide_eq_false (fun h => by have := fit_t.1 h; omega)] | rw [decide_eq_false (fun h => by have := fit_f.1 h; omega)], (Fr.refl _ _)⟩
   · refine sk (tn (sq (sr (mv rfl rfl (s_sub rfl rfl (wi6 (by omega)) rfl (asg rfl rfl (nn (bl ?_))))))))
     refine lpK (ι := Nat × Int × Int) [(0, _)] (fun p => [(11, .int .i64 p.2.1), (12, .int .i64 p.2.2)]) (fun p w' => Fr [] w0 w' ∧ p.1 ≤ i ∧ p.2.1 = frL l (l.getD (i + a + b - 1) 0 - (a : Int) - 2 * (b : Int)) i p.1 ∧ p.2.2 = (i : Int) - 1 - p.1 ∧ 0 ≤ p.2.1 ∧ p.2.1 ≤ 1000) (fun p => i - p.1) (0, (l.getD (i + a + b - 1) 0 - (a : Int) - 2 * (b : Int)), (i : Int) - 1) (.cons rfl (.cons rfl (.cons rfl .nil))) ⟨Fr.refl _ _, ⟨Nat.zero_le _, rfl, by simp only; omega, by simp only; omega, by simp only; omega⟩⟩ ?_
     rintro ⟨m, L, k⟩ w1 ⟨q1, ⟨hm, hL, hk, hL0, hL1⟩⟩
     simp only at hm hL hk hL0 hL1
     have z1 := q1.size
     refine kpC [(0, _), (11, .int .i64 L), (12, .int .i64 k)] (.cons rfl (.cons rfl (.cons rfl .nil))) ?_
     refine sq (sr (mv rfl rfl (ge' rfl rfl rfl (nn ?_))))
     refine cd rfl (fun c2 => ?_) (fun c2 => ?_)
     · have hsu := frL_succ (l := l) (F := (l.getD (i + a + b - 1) 0 - (a : Int) - 2 * (b : Int))) (i := i) (m := m) (by omega) (by omega)
       rw [← show k.toNat = i - 1 - m by omega] at hsu
       have hbk := ha k.toNat (by omega)
       have hge := frL_ge l (l.getD (i + a + b - 1) 0 - (a : Int) - 2 * (b : Int)) i (m + 1)
       refine sk (tn (sq (bl (sr (mv rfl rfl (mv rfl rfl (mv rfl rfl ?_)))))))
       replace hs := hs0.ext q1
       refine s_idxL (p := k.toNat) (0) rfl hs rfl el26 (by omega) (by omega) (by omega) rfl (fun ad42 hc42 => ?_)
       refine s_loadC0 rfl (hc42 _ hs) na3 rfl (s_min rfl rfl rfl (asg rfl rfl (kpL [(0, _), (11, _), (12, _)] (.cons rfl (.cons rfl (.cons rfl .nil))) (nn (sq (sr (mv rfl rfl (lt' rfl rfl rfl (nn ?_)))))))))
       refine cd rfl (fun c3 => ?_) (fun c3 => ?_)
       · refine sr (asg rfl rfl (nn (rt (tr (rb (tr (tr (rb (tr (tr (r1 Tryd.results6 rfl ?_)))))))))))
         exact ⟨_, rfl, by first | rw [decide_eq_true (fit_t.2 (by omega))] | rw [decide_eq_true (fit_f.2 (by omega))] | rw [decide_eq_false (fun h => by have := fit_t.1 h; omega)] | rw [decide_eq_false (fun h => by have := fit_f.1 h; omega)], q1⟩
       · refine sk (tn (rg (mv rfl rfl (s_sub rfl rfl (wi6 (by omega)) rfl (asg rfl rfl (nl (bn' (tn (rg (mv rfl rfl (s_sub rfl rfl (wi6 (by omega)) rfl ?_)))))))))))
         refine asg rfl rfl (nl ?_)
         exact lpE ((m + 1, min L (l.getD k.toNat 0) - 1, k - 1)) (.cons rfl (.cons rfl (.cons rfl .nil))) ⟨q1, ⟨by simp only; omega, by simp only; omega, by simp only; omega, by simp only; omega, by simp only; omega⟩⟩ (by simp only; omega)
     · obtain rfl : m = i := by omega
       rw [frL_all (by omega)] at hL
       refine ex (te (te (xh (tn (sr (asg rfl rfl (nn (rt (tr (r1 Tryd.results6 rfl ?_))))))))))
       exact ⟨_, rfl, by first | rw [decide_eq_true (fit_t.2 (by omega))] | rw [decide_eq_true (fit_f.2 (by omega))] | rw [decide_eq_false (fun h => by have := fit_t.1 h; omega)] | rw [decide_eq_false (fun h => by have := fit_f.1 h; omega)], q1⟩
 · obtain rfl : fr = false := by simpa using c0
   have hle := freeR_ge (l.drop (i + a + b)) (l.getD i 0 + 2 * (a : Int) + (b : Int))
   refine sk (tn (sr (mv rfl rfl (mv rfl rfl (s_idxL (p := i) (0) rfl hs rfl el26 (by omega) (by omega) (by omega) rfl (fun ad51 hc51 => ?_))))))
   refine s_loadC0 rfl (hc51 _ hs) na3 rfl (mv rfl rfl (s_mul rfl rfl (wi6 (by omega)) rfl (s_add rfl rfl (wi6 (by omega)) rfl (mv rfl rfl (s_add rfl rfl (wi6 (by omega)) rfl (asg rfl rfl (kpL [(0, _), (1, _), (2, _), (3, _), (13, _)] (.cons rfl (.cons rfl (.cons rfl (.cons rfl (.cons rfl .nil))))) (nn (sq (sr (mv rfl rfl ?_)))))))))))
   refine s_sub rfl rfl (wi6 (by omega)) rfl (gt' rfl rfl rfl (nn ?_))
   refine cd rfl (fun c4 => ?_) (fun c4 => ?_)
   · refine sr (asg rfl rfl (kpL [(10, _)] (.cons rfl .nil) (nn (rt (tr (r1 Tryd.results6 rfl ?_))))))
     exact ⟨_, rfl, by first | rw [decide_eq_true (fit_t.2 (by omega))] | rw [decide_eq_true (fit_f.2 (by omega))] | rw [decide_eq_false (fun h => by have := fit_t.1 h; omega)] | rw [decide_eq_false (fun h => by have := fit_f.1 h; omega)], (Fr.refl _ _)⟩
   · refine sk (tn (sq (sr (mv rfl rfl (mv rfl rfl (s_add rfl rfl (wi6 (by omega)) rfl (mv rfl rfl (s_add rfl rfl (wi6 (by omega)) rfl (asg rfl rfl (kpL [(0, _), (13, _), (14, _)] (.cons rfl (.cons rfl (.cons rfl .nil))) (nn ?_)))))))))))
     refine bl ?_
     refine lpK (ι := Nat × Int × Int) [(0, _)] (fun p => [(13, .int .i64 p.2.1), (14, .int .i64 p.2.2)]) (fun p w' => Fr [] w0 w' ∧ i + a + b + p.1 ≤ l.length ∧ p.2.1 = frR l (l.getD i 0 + 2 * (a : Int) + (b : Int)) (i + a + b) p.1 ∧ p.2.2 = (i : Int) + a + b + p.1 ∧ p.2.1 ≤ 41 ∧ -1000 ≤ p.2.1) (fun p => l.length - p.1) (0, (l.getD i 0 + 2 * (a : Int) + (b : Int)), (i : Int) + (a : Int) + (b : Int)) (.cons rfl (.cons rfl (.cons rfl .nil))) ⟨Fr.refl _ _, ⟨by simp only; omega, rfl, by simp only; omega, by simp only; omega, by simp only; omega⟩⟩ ?_
     rintro ⟨m, L, k⟩ w2 ⟨q2, ⟨hm, hL, hk, hL0, hL1⟩⟩
     simp only at hm hL hk hL0 hL1
     have z2 := q2.size
     refine kpC [(0, _), (13, .int .i64 L), (14, .int .i64 k)] (.cons rfl (.cons rfl (.cons rfl .nil))) ?_
     refine sq (sr (mv rfl rfl (mv rfl rfl (lnS rfl Tryd.underlying26 rfl (lt' rfl rfl rfl (nn ?_))))))
     refine cd rfl (fun c5 => ?_) (fun c5 => ?_)
     · have hsu := frR_succ (l := l) (F := (l.getD i 0 + 2 * (a : Int) + (b : Int))) (s := i + a + b) (m := m) (by omega)
       rw [← show k.toNat = i + a + b + m by omega] at hsu
       have hbk := ha k.toNat (by omega)
       have hge := frR_le l (l.getD i 0 + 2 * (a : Int) + (b : Int)) (i + a + b) (m + 1)
       refine sk (tn (sq (bl (sr (mv rfl rfl (mv rfl rfl (mv rfl rfl ?_)))))))
       replace hs := hs0.ext q2
       refine s_idxL (p := k.toNat) (0) rfl hs rfl el26 (by omega) (by omega) (by omega) rfl (fun ad75 hc75 => ?_)
       refine s_loadC0 rfl (hc75 _ hs) na3 rfl (s_max rfl rfl rfl (asg rfl rfl (kpL [(0, _), (13, _), (14, _)] (.cons rfl (.cons rfl (.cons rfl .nil))) (nn (sq (sr (mv rfl rfl (gt' rfl rfl rfl (nn ?_)))))))))
       refine cd rfl (fun c6 => ?_) (fun c6 => ?_)
       · refine sr (asg rfl rfl (nn (rt (tr (rb (tr (tr (rb (tr (r1 Tryd.results6 rfl ?_))))))))))
         exact ⟨_, rfl, by first | rw [decide_eq_true (fit_t.2 (by omega))] | rw [decide_eq_true (fit_f.2 (by omega))] | rw [decide_eq_false (fun h => by have := fit_t.1 h; omega)] | rw [decide_eq_false (fun h => by have := fit_f.1 h; omega)], q2⟩
       · refine sk (tn (rg (mv rfl rfl (s_add rfl rfl (wi6 (by omega)) rfl (asg rfl rfl (nl (bn' (tn (rg (mv rfl rfl (s_add rfl rfl (wi6 (by omega)) rfl ?_)))))))))))
         refine asg rfl rfl (nl ?_)
         exact lpE ((m + 1, max L (l.getD k.toNat 0) + 1, k + 1)) (.cons rfl (.cons rfl (.cons rfl .nil))) ⟨q2, ⟨by simp only; omega, by simp only; omega, by simp only; omega, by simp only; omega, by simp only; omega⟩⟩ (by simp only; omega)
     · rw [frR_all (by omega)] at hL
       refine ex (te (te (xh (tn (sr (asg rfl rfl (nn (rt (r1 Tryd.results6 rfl ?_)))))))))
       exact ⟨_, rfl, by first | rw [decide_eq_true (fit_t.2 (by omega))] | rw [decide_eq_true (fit_f.2 (by omega))] | rw [decide_eq_false (fun h => by have := fit_t.1 h; omega)] | rw [decide_eq_false (fun h => by have := fit_f.1 h; omega)], q2⟩
end Go.Proofs.YtacclnebhbakmaaDoor
