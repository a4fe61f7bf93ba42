/- Texts of the proof, joined: V3 V7 XCopy Shelf V4 XSI XSJ XSK V5 V6 V8 XTbl V9 XLine XReadLaw XWrite -/
import Derived.Test.YthehggmdcmpjeaaDoorRows
import Derived.Laws.CopyRow
import Derived.Shelf.Strings.Builder1
import Derived.Shelf.Strings.Builder2
import Derived.Shelf.Strings.OnBuilder
import Derived.Shelf.Strconv.Itoa0
import Derived.Shelf.Strconv.Itoa1
import Derived.Shelf.LaysM
import Derived.Shelf.Strconv.Itoa2
import Derived.Shelf.Strconv.Itoa3
import Derived.Shelf.Bits.Mul64
import Derived.Test.YthehggmdcmpjeaaDoorProg
import Derived.Lib.IndexMore
import Derived.Lib.ItoaNum
import Derived.Test.YthehggmdcmpjeaaDoorB4
set_option linter.unusedVariables false
set_option linter.unusedSimpArgs false
namespace Go.Proofs.YthehggmdcmpjeaaDoor
open Go.Lw Go.G14
theorem ag49 : AggOf Tryd.prog 49 3 := ⟨fun _ => by kernel_rfl, fun _ => by kernel_rfl⟩
theorem ag51 : AggOf Tryd.prog 51 8 := ⟨fun _ => by kernel_rfl, fun _ => by kernel_rfl⟩
theorem co23 : CallOf Tryd.prog 23 := CallOf.mk' Tryd.func23 (by kernel_rfl) (by kernel_rfl)
theorem co26 : CallOf Tryd.prog 26 := CallOf.mk' Tryd.func26 (by kernel_rfl) (by kernel_rfl)
theorem co27 : CallOf Tryd.prog 27 := CallOf.mk' Tryd.func27 (by kernel_rfl) (by kernel_rfl)
theorem co28 : CallOf Tryd.prog 28 := CallOf.mk' Tryd.func28 (by kernel_rfl) (by kernel_rfl)
theorem el22 : ElemOf Tryd.prog 22 51 encPq 120 := ElemOf.mk' (z := (.agg #[(S []), (.slice none 0 0), (.slice none 0 0), (.slice none 0 0), (.int .i64 0), (.int .i64 0), (.int .i64 0), (.int .i64 0)])) Tryd.underlying22 (by kernel_rfl) rfl
theorem fa24_0 : FieldAt Tryd.prog 24 0 0 := fun _ _ => by kernel_rfl
theorem fa24_1 : FieldAt Tryd.prog 24 1 1 := fun _ _ => by kernel_rfl
theorem fa51_0 : FieldAt Tryd.prog 51 0 0 := fun _ _ => by kernel_rfl
theorem fa51_1 : FieldAt Tryd.prog 51 1 1 := fun _ _ => by kernel_rfl
theorem fa51_2 : FieldAt Tryd.prog 51 2 4 := fun _ _ => by kernel_rfl
theorem fa51_3 : FieldAt Tryd.prog 51 3 5 := fun _ _ => by kernel_rfl
theorem fa51_4 : FieldAt Tryd.prog 51 4 6 := fun _ _ => by kernel_rfl
theorem fa51_5 : FieldAt Tryd.prog 51 5 7 := fun _ _ => by kernel_rfl
theorem na22 : NotAgg Tryd.prog 22 := fun _ => by kernel_rfl
theorem sz51 : SizeOf Tryd.prog 51 8 := fun _ => by kernel_rfl
theorem zv51 (w : World) : (zeroValue 51).run Tryd.prog w = .ok (.agg #[(S []), (.slice none 0 0), (.slice none 0 0), (.slice none 0 0), (.int .i64 0), (.int .i64 0), (.int .i64 0), (.int .i64 0)]) w := by kernel_rfl
theorem right_iff (p : Pc) : rightB p = true ↔ nameB p.nm = true ∧ 1 ≤ p.ba ∧ p.ba ≤ 16 ∧ 0 ≤ p.st ∧ p.st ≤ 4 ∧ 1 ≤ p.up ∧ p.up ≤ 31 ∧ 1 ≤ p.ct ∧ p.ct ≤ 9 := by
  unfold rightB; rw [Bool.and_eq_true, decide_eq_true_eq]
theorem bnot_pos {b : Bool} (h : (!b) = true) : ¬ b = true := by cases b; decide; cases h
theorem bnot_neg {b : Bool} (h : ¬ (!b) = true) : b = true := by cases b; exact absurd rfl h; rfl
section
variable {nm : List UInt8} {qs : List PQ}
abbrev PcAt (qs : List PQ) (i : Nat) : Pc := (qs.getD i pq0).p
theorem pcs_len (qs : List PQ) : (pcs qs).length = qs.length := by simp
theorem gar_a (h : 8 < qs.length) : garE nm (pcs qs) = 3 := by unfold garE; rw [if_pos (by rw [pcs_len]; exact h)]
theorem gar_b (h : ¬ 8 < qs.length) (h2 : qs.length = 0 ∨ ¬ nameB nm = true) : garE nm (pcs qs) = 1 := by
  unfold garE; rw [if_neg (by rw [pcs_len]; exact h), if_pos (by rw [pcs_len]; exact h2.imp id fun e => by cases h : nameB nm; rfl; exact absurd h e)]
theorem gar_nb (h2 : ¬ (qs.length = 0 ∨ ¬ nameB nm = true)) : ¬ ((pcs qs).length = 0 ∨ nameB nm = false) := by
  rw [pcs_len]; exact fun e => h2 (e.imp id fun e h => by rw [e] at h; cases h)
theorem gar_c (h : ¬ 8 < qs.length) (h2 : ¬ (qs.length = 0 ∨ ¬ nameB nm = true)) {i : Nat} (hi : i < qs.length) (hr : ¬ rightB (PcAt qs i) = true) : garE nm (pcs qs) = 1 := by
  unfold garE; rw [if_neg (by rw [pcs_len]; exact h), if_neg (gar_nb h2), if_pos]
  rw [Bool.eq_false_iff]; intro e
  exact hr (List.all_eq_true.1 e _ (List.mem_map.2 ⟨_, getD_memS hi, rfl⟩))
theorem all_right (hr : ∀ j, j < qs.length → rightB (PcAt qs j) = true) : ¬ (pcs qs).all rightB = false := by
  have : (pcs qs).all rightB = true := List.all_eq_true.2 fun p hp => by
    obtain ⟨q, hq, rfl⟩ := List.mem_map.1 hp
    exact all_lt (d := pq0) (p := fun q => rightB q.p = true) hr q hq
  rw [this]; decide
theorem dup_yes {i k : Nat} (hi : i < qs.length) (hk : k < i) (he : (PcAt qs i).nm = (PcAt qs k).nm) : dupB (pcs qs) = true := by
  unfold dupB
  rw [List.any_eq_true]
  refine ⟨i, by rw [pcs_len]; exact List.mem_range.2 hi, ?_⟩
  rw [List.any_eq_true]
  exact ⟨k, List.mem_range.2 hk, by rw [pcs_get, pcs_get]; exact decide_eq_true he⟩
theorem dup_no (h : ∀ i, i < qs.length → ∀ k, k < i → ¬ (PcAt qs i).nm = (PcAt qs k).nm) : ¬ dupB (pcs qs) = true := by
  unfold dupB
  rw [List.any_eq_true]
  rintro ⟨i, hi, h2⟩
  rw [List.any_eq_true] at h2
  obtain ⟨k, hk, h3⟩ := h2
  rw [pcs_len] at hi
  rw [pcs_get, pcs_get] at h3
  exact h i (List.mem_range.1 hi) k (List.mem_range.1 hk) (of_decide_eq_true h3)
theorem gar_d (h : ¬ 8 < qs.length) (h2 : ¬ (qs.length = 0 ∨ ¬ nameB nm = true)) (hr : ∀ j, j < qs.length → rightB (PcAt qs j) = true) (hd : dupB (pcs qs) = true) : garE nm (pcs qs) = 8 := by
  unfold garE; rw [if_neg (by rw [pcs_len]; exact h), if_neg (gar_nb h2), if_neg (all_right hr), if_pos hd]
theorem gar_e (h : ¬ 8 < qs.length) (h2 : ¬ (qs.length = 0 ∨ ¬ nameB nm = true)) (hr : ∀ j, j < qs.length → rightB (PcAt qs j) = true) (hd : ¬ dupB (pcs qs) = true) : garE nm (pcs qs) = motsE (pcs qs) := by
  unfold garE; rw [if_neg (by rw [pcs_len]; exact h), if_neg (gar_nb h2), if_neg (all_right hr), if_neg hd]
theorem mots_at : ∀ {qs : List PQ} {i : Nat}, i < qs.length → (∀ j, j < i → motE (PcAt qs j).mot = 0) → motE (PcAt qs i).mot ≠ 0 → motsE (pcs qs) = motE (PcAt qs i).mot
  | [], i, h, _, _ => by simp at h
  | q :: qs, 0, _, _, h => by show (if motE q.p.mot ≠ 0 then _ else _) = _; rw [if_pos (show motE q.p.mot ≠ 0 from h)]; rfl
  | q :: qs, i + 1, hl, hb, h => by
    have h0 : motE q.p.mot = 0 := hb 0 (by omega)
    show (if motE q.p.mot ≠ 0 then _ else motsE (pcs qs)) = _
    rw [if_neg (by omega)]
    exact mots_at (qs := qs) (i := i) (by simp at hl; omega) (fun j hj => hb (j + 1) (by omega)) h
theorem mots_no : ∀ {qs : List PQ}, (∀ j, j < qs.length → motE (PcAt qs j).mot = 0) → motsE (pcs qs) = 0
  | [], _ => rfl
  | q :: qs, hb => by
    have h0 : motE q.p.mot = 0 := hb 0 (by simp)
    show (if motE q.p.mot ≠ 0 then _ else motsE (pcs qs)) = _
    rw [if_neg (by omega)]
    exact mots_no (qs := qs) (fun j hj => hb (j + 1) (by simp; omega))
theorem take_pq {i k : Nat} (h : k < i) : (qs.take i).getD k pq0 = qs.getD k pq0 := by
  rw [List.getD, List.getD, List.getElem?_take, if_pos h]
end
theorem right_ok (q : PQ) (w0 : World) : Rets Tryd.prog 27 #[.agg #[S q.p.nm, .slice q.l.1 q.l.2.1 q.l.2.2, .slice q.t.1 q.t.2.1 q.t.2.2, .slice q.r.1 q.r.2.1 q.r.2.2, .int .i64 q.p.ba, .int .i64 q.p.st, .int .i64 q.p.up, .int .i64 q.p.ct]] w0 fun v w' => v = .bool (rightB q.p) ∧ Fr [] w0 w' := by
 refine we [(0, .agg #[S q.p.nm, .slice q.l.1 q.l.2.1 q.l.2.2, .slice q.t.1 q.t.2.1 q.t.2.2, .slice q.r.1 q.r.2.1 q.r.2.2, .int .i64 q.p.ba, .int .i64 q.p.st, .int .i64 q.p.up, .int .i64 q.p.ct])] Tryd.func27 rfl Tryd.ntmps27 rfl (.cons rfl .nil) ?_
 refine sr (bx rfl rfl rfl (fun g1 w1 hg1 hb1 q1 z1 => ?_))
 refine asg rfl rfl (nn (sq ?_))
 refine rboF (r := 2) (L' := []) ((((((nameB q.p.nm = true) ∧ (1 ≤ q.p.ba ∧ q.p.ba ≤ 16)) ∧ (0 ≤ q.p.st ∧ q.p.st ≤ 4)) ∧ (1 ≤ q.p.up ∧ q.p.up ≤ 31)) ∧ (1 ≤ q.p.ct ∧ q.p.ct ≤ 9))) .nil ?_ ?_
 · refine fad rfl fa51_0 rfl (s_loadB rfl hb1 rfl na9 rfl ?_)
   refine cl (ev1 rfl) co26 (named_ok _ _) rfl ?_
   rintro _ w2 ⟨rfl, q2⟩
   have z2 := q2.size
   refine mv rfl rfl ?_
   refine gs 6 rfl (fun g0 => ?_) (fun g0 => ?_)
   · refine gY rfl (fad rfl fa51_2 rfl (gY rfl ?_))
     replace hb1 := hb1.ext q2
     refine s_loadB rfl hb1 rfl na3 rfl (gY rfl ?_)
     refine cl (ev3 rfl rfl rfl) co23 (within_ok _ _ _ _) rfl ?_
     rintro _ w3 ⟨rfl, q3⟩
     have z3 := q3.size
     refine pkt rfl rfl rfl rfl (mv rfl rfl ?_)
     refine gs 11 rfl (fun g1 => ?_) (fun g1 => ?_)
     · refine gY rfl (fad rfl fa51_3 rfl (gY rfl ?_))
       replace hb1 := hb1.ext q3
       refine s_loadB rfl hb1 rfl na3 rfl (gY rfl ?_)
       refine cl (ev3 rfl rfl rfl) co23 (within_ok _ _ _ _) rfl ?_
       rintro _ w4 ⟨rfl, q4⟩
       have z4 := q4.size
       refine pkt rfl rfl rfl rfl (mv rfl rfl ?_)
       refine gs 16 rfl (fun g2 => ?_) (fun g2 => ?_)
       · refine gY rfl (fad rfl fa51_4 rfl (gY rfl ?_))
         replace hb1 := hb1.ext q4
         refine s_loadB rfl hb1 rfl na3 rfl (gY rfl ?_)
         refine cl (ev3 rfl rfl rfl) co23 (within_ok _ _ _ _) rfl ?_
         rintro _ w5 ⟨rfl, q5⟩
         have z5 := q5.size
         refine pkt rfl rfl rfl rfl (mv rfl rfl ?_)
         refine gs 21 rfl (fun g3 => ?_) (fun g3 => ?_)
         · refine gY rfl (fad rfl fa51_5 rfl (gY rfl ?_))
           replace hb1 := hb1.ext q5
           refine s_loadB rfl hb1 rfl na3 rfl (gY rfl ?_)
           refine cl (ev3 rfl rfl rfl) co23 (within_ok _ _ _ _) rfl ?_
           rintro _ w6 ⟨rfl, q6⟩
           have z6 := q6.size
           exact pkt rfl rfl rfl rfl (asg rfl rfl (rbeF rfl (by first | exact bt (by omega) | exact bf (by omega) | exact bi (by omega) | exact bn (by omega) | (simp_all; done) | (simp_all; omega)) .nil ((((q2.next q3).next q4).next q5).next q6)))
         · exact gN rfl rfl rfl (gN rfl rfl rfl (gN rfl rfl rfl (pkf rfl rfl rfl rfl (asg rfl rfl (rbeF rfl (by first | exact bt (by omega) | exact bf (by omega) | exact bi (by omega) | exact bn (by omega) | (simp_all; done) | (simp_all; omega)) .nil (((q2.next q3).next q4).next q5))))))
       · exact gN rfl rfl rfl (gN rfl rfl rfl (gN rfl rfl rfl (pkf rfl rfl rfl rfl (mv rfl rfl (gN rfl rfl rfl (gN rfl rfl rfl (gN rfl rfl rfl (pkf rfl rfl rfl rfl (asg rfl rfl (rbeF rfl (by first | exact bt (by omega) | exact bf (by omega) | exact bi (by omega) | exact bn (by omega) | (simp_all; done) | (simp_all; omega)) .nil ((q2.next q3).next q4)))))))))))
     · refine gN rfl rfl rfl (gN rfl rfl rfl (gN rfl rfl rfl (pkf rfl rfl rfl rfl (mv rfl rfl (gN rfl rfl rfl (gN rfl rfl rfl (gN rfl rfl rfl (pkf rfl rfl rfl rfl (mv rfl rfl (gN rfl rfl rfl (gN rfl rfl rfl ?_)))))))))))
       exact gN rfl rfl rfl (pkf rfl rfl rfl rfl (asg rfl rfl (rbeF rfl (by first | exact bt (by omega) | exact bf (by omega) | exact bi (by omega) | exact bn (by omega) | (simp_all; done) | (simp_all; omega)) .nil (q2.next q3))))
   · refine gN rfl rfl rfl (gN rfl rfl rfl (gN rfl rfl rfl (pkf rfl rfl rfl rfl (mv rfl rfl (gN rfl rfl rfl (gN rfl rfl rfl (gN rfl rfl rfl (pkf rfl rfl rfl rfl (mv rfl rfl (gN rfl rfl rfl (gN rfl rfl rfl ?_)))))))))))
     exact gN rfl rfl rfl (pkf rfl rfl rfl rfl (mv rfl rfl (gN rfl rfl rfl (gN rfl rfl rfl (gN rfl rfl rfl (pkf rfl rfl rfl rfl (asg rfl rfl (rbeF rfl (by first | exact bt (by omega) | exact bf (by omega) | exact bi (by omega) | exact bn (by omega) | (simp_all; done) | (simp_all; omega)) .nil q2))))))))
 · intro w7 q7; have z7 := q7.size
   refine tn (rt (r1 Tryd.results27 rfl ?_))
   exact ⟨_, rfl, congrArg Value.bool (by rw [Bool.eq_iff_iff, decide_eq_true_iff, right_iff]; exact ⟨fun ⟨⟨⟨⟨a, b⟩, c⟩, d⟩, e⟩ => ⟨a, by omega⟩, fun ⟨a, b⟩ => ⟨⟨⟨⟨a, by omega⟩, by omega⟩, by omega⟩, by omega⟩⟩), (q1.next q7)⟩
set_option maxHeartbeats 1000000 in
theorem gcheck_ok (nm : List UInt8) (v : Value) (qs : List PQ) (w0 : World) (hs : Sl encPq w0 v qs) (hq : PcsQ w0 qs) : Rets Tryd.prog 10 #[.agg #[S nm, v]] w0 fun r w' => r = .int .i64 (garE nm (pcs qs)) ∧ Fr [] w0 w' := by
 obtain ⟨A, c, rfl, hcc, hM, hA⟩ := id hs
 clear hA
 unfold maxLen at hM
 refine we [(0, .agg #[S nm, .slice A qs.length c])] Tryd.func10 rfl Tryd.ntmps10 rfl (.cons rfl .nil) ?_
 have hs0 := hs
 have hq0 := hq
 refine sr (bx rfl rfl rfl (fun g1 w1 hg1 hb1 q1 z1 => ?_))
 refine asg rfl rfl (nn (sq (sr (fad rfl fa24_1 rfl (s_loadB rfl hb1 rfl na22 rfl (lnS rfl Tryd.underlying22 rfl (gt' rfl rfl rfl (nn ?_))))))))
 refine cd rfl (fun c0 => ?_) (fun c0 => ?_)
 · refine sr (asg rfl rfl (nn (rt (tr (r1 Tryd.results10 rfl ?_)))))
   exact ⟨_, rfl, by rw [gar_a (by omega)], q1⟩
 · refine sk (tn (sq (sq ?_)))
   refine rboF (r := 25) (L' := [(1, _)]) ((((qs.length : Int) = 0) ∨ (¬ (nameB nm = true)))) (.cons rfl .nil) ?_ ?_
   · refine fad rfl fa24_1 rfl (s_loadB rfl hb1 rfl na22 rfl (lnS rfl Tryd.underlying22 rfl (eq' rfl rfl rfl (mv rfl rfl ?_))))
     refine gs 20 rfl (fun g0 => ?_) (fun g0 => ?_)
     · exact gN rfl rfl rfl (gN rfl rfl rfl (gN rfl rfl rfl (gN rfl rfl rfl (pkt rfl rfl rfl rfl (rbeF rfl (by first | exact bt (by omega) | exact bf (by omega) | exact bi (by omega) | exact bn (by omega) | (simp_all; done) | (simp_all; omega)) (.cons rfl .nil) (Fr.refl _ _))))))
     · refine gY rfl (fad rfl fa24_0 rfl (gY rfl (s_loadB rfl hb1 rfl na9 rfl (gY rfl ?_))))
       refine cl (ev1 rfl) co26 (named_ok _ _) rfl ?_
       rintro _ w2 ⟨rfl, q2⟩
       have z2 := q2.size
       exact gY rfl (nt' rfl rfl (pkf rfl rfl rfl rfl (rbeF rfl (by first | exact bt (by omega) | exact bf (by omega) | exact bi (by omega) | exact bn (by omega) | (simp_all; done) | (simp_all; omega)) (.cons rfl .nil) q2)))
   · intro w3 q3; have z3 := q3.size
     refine tn ?_
     refine cd rfl (fun c1 => ?_) (fun c1 => ?_)
     · refine sr (asg rfl rfl (nn (rt (tr (r1 Tryd.results10 rfl ?_)))))
       exact ⟨_, rfl, by rw [gar_b (by omega) (by rcases c1 with h | h; exact .inl (by omega); exact .inr h)], (q1.next q3)⟩
     · refine sk (tn (sq (sr (fad rfl fa24_1 rfl ?_))))
       replace hb1 := hb1.ext q3
       refine s_loadB rfl hb1 rfl na22 rfl (lnS rfl Tryd.underlying22 rfl (mv rfl rfl (nn (bl ?_))))
       refine lpK (ι := Nat) [(1, _), (27, _), (28, _)] (fun i => [(29, .int .i64 (i : Int))]) (fun i w' => Fr [] w3 w' ∧ i ≤ qs.length ∧ ∀ j, j < i → rightB (PcAt qs j) = true) (fun i => qs.length - i) 0 (.cons rfl (.cons rfl (.cons rfl (.cons rfl .nil)))) ⟨Fr.refl _ _, ⟨Nat.zero_le _, fun j hj => absurd hj (Nat.not_lt_zero j)⟩⟩ ?_
       rintro i w4 ⟨q4, ⟨hi, hr⟩⟩
       have z4 := q4.size
       refine kpC [(1, _), (27, _), (28, _), (29, _)] (.cons rfl (.cons rfl (.cons rfl (.cons rfl .nil)))) ?_
       refine sr (lt' rfl rfl rfl (nn (sq ?_)))
       refine cd rfl (fun c2 => ?_) (fun c2 => ?_)
       · refine sk (tn (sq (bl (sr ?_))))
         replace hs := hs0.ext ((q1.next q3).next q4)
         refine s_idxL (pq0) rfl hs rfl el22 (by omega) (by omega) nat_of rfl (fun ad31 hc31 => ?_)
         refine s_loadA rfl (hc31 _ hs) ag51 rfl (al zv51 rfl rfl (fun g4 w5 hg4 hb4 q5 z5 => ?_))
         refine s_storeBA rfl rfl hb4 rfl (by first | (simp [Value.oneCell', S]; done) | exact Enc.one _ _) sz51 (fun w6 hb4 q6 z6 => ?_)
         refine nn (sr (s_loadBA rfl hb4 ag51 rfl ?_))
         refine cl (ev1 rfl) co27 (right_ok (qs.getD i pq0) _) rfl ?_
         rintro _ w7 ⟨rfl, q7⟩
         have z7 := q7.size
         refine nt' rfl rfl (nn ?_)
         refine cd rfl (fun c3 => ?_) (fun c3 => ?_)
         · refine sr (asg rfl rfl (nn (rt (rb (tr (tr (rb (tr (r1 Tryd.results10 rfl ?_)))))))))
           exact ⟨_, rfl, by rw [gar_c (by omega) (fun e => c1 (by rcases e with h | h; exact .inl (by omega); exact .inr h)) (i := i) (by omega) (bnot_pos c3)], (((((q1.next q3).next q4).next q5).step q6 (by first | (simp; done) | (simp; omega))).next q7)⟩
         · refine sk (bn' (tn (rg (s_add rfl rfl (wi6 (by omega)) rfl (mv rfl rfl (nl ?_))))))
           exact lpE (i + 1) (.cons rfl (.cons rfl (.cons rfl (.cons rfl .nil)))) ⟨(((q4.next q5).step q6 (by first | (simp; done) | (simp; omega))).next q7), ⟨by omega, all_step hr (bnot_neg c3)⟩⟩ (by omega)
       · obtain rfl : i = qs.length := by omega
         refine ex (te (te (xh (tn (sq (sr (fad rfl fa24_1 rfl ?_)))))))
         replace hb1 := hb1.ext q4
         refine s_loadB rfl hb1 rfl na22 rfl (lnS rfl Tryd.underlying22 rfl (mv rfl rfl (nn (bl ?_))))
         refine lpK (ι := Nat) [(1, _), (38, _), (39, _)] (fun i => [(40, .int .i64 (i : Int))]) (fun i w' => Fr [] w4 w' ∧ i ≤ qs.length ∧ ∀ a, a < i → ∀ b, b < a → ¬ (PcAt qs a).nm = (PcAt qs b).nm) (fun i => qs.length - i) 0 (.cons rfl (.cons rfl (.cons rfl (.cons rfl .nil)))) ⟨Fr.refl _ _, ⟨Nat.zero_le _, fun j hj => absurd hj (Nat.not_lt_zero j)⟩⟩ ?_
         rintro i w8 ⟨q8, ⟨hi, hd⟩⟩
         have z8 := q8.size
         refine kpC [(1, _), (38, _), (39, _), (40, _)] (.cons rfl (.cons rfl (.cons rfl (.cons rfl .nil)))) ?_
         refine sr (lt' rfl rfl rfl (nn (sq ?_)))
         refine cd rfl (fun c4 => ?_) (fun c4 => ?_)
         · refine sk (tn (sq (bl (sr (mv rfl rfl ?_)))))
           replace hs := hs0.ext (((q1.next q3).next q4).next q8)
           refine s_idxL (pq0) rfl hs rfl el22 (by omega) (by omega) nat_of rfl (fun ad43 hc43 => ?_)
           refine s_loadA rfl (hc43 _ hs) ag51 rfl (al zv51 rfl rfl (fun g6 w9 hg6 hb6 q9 z9 => ?_))
           refine asg rfl rfl (s_storeBA rfl rfl hb6 rfl (by first | (simp [Value.oneCell', S]; done) | exact Enc.one _ _) sz51 (fun w10 hb6 q10 z10 => ?_))
           refine nn (sr (fad rfl fa24_1 rfl ?_))
           replace hb1 := (hb1.ext (q8.next q9)).fr q10 (by first | (simp; done) | (simp; omega) | (simp [blks]; done) | (simp [blks]; omega))
           refine s_loadB rfl hb1 rfl na22 rfl (mv rfl rfl (s_sl_h (p := i) rfl rfl el22 (by omega) (by omega) (by omega) rfl (lnS rfl Tryd.underlying22 rfl (mv rfl rfl (nn (bl ?_))))))
           have htl : (qs.take i).length = i := by rw [List.length_take]; omega
           refine lpK (ι := Nat) [(1, _), (6, _), (38, _), (39, _), (40, _), (48, _), (49, _)] (fun k => [(50, .int .i64 (k : Int))]) (fun k w' => Fr [] w10 w' ∧ k ≤ i ∧ ∀ b, b < k → ¬ (PcAt qs i).nm = (PcAt qs b).nm) (fun k => i - k) 0 (.cons rfl (.cons rfl (.cons rfl (.cons rfl (.cons rfl (.cons rfl (.cons rfl (.cons rfl .nil)))))))) ⟨Fr.refl _ _, ⟨Nat.zero_le _, fun j hj => absurd hj (Nat.not_lt_zero j)⟩⟩ ?_
           rintro k w11 ⟨q11, ⟨hk, hn⟩⟩
           have z11 := q11.size
           refine kpC [(1, _), (6, _), (38, _), (39, _), (40, _), (48, _), (49, _), (50, _)] (.cons rfl (.cons rfl (.cons rfl (.cons rfl (.cons rfl (.cons rfl (.cons rfl (.cons rfl .nil)))))))) ?_
           refine sr (lt' rfl rfl rfl (nn (sq ?_)))
           refine cd rfl (fun c5 => ?_) (fun c5 => ?_)
           · refine sk (tn (sq (bl (sr ?_))))
             replace hs := hs0.ext ((((((q1.next q3).next q4).next q8).next q9).step q10 (by first | (simp; done) | (simp; omega))).next q11)
             refine s_idxL (pq0) rfl (hs.take rfl (m := i) (B := A) (by omega) (by omega) (by unfold maxLen; omega) (fun _ => rfl)) rfl el22 (by omega) (by omega) nat_of rfl (fun ad52 hc52 => ?_)
             refine s_loadA rfl (hc52 _ (hs.take rfl (m := i) (B := A) (by omega) (by omega) (by unfold maxLen; omega) (fun _ => rfl))) ag51 rfl (al zv51 rfl rfl (fun g8 w12 hg8 hb8 q12 z12 => ?_))
             refine s_storeBA rfl rfl hb8 rfl (by first | (simp [Value.oneCell', S]; done) | exact Enc.one _ _) sz51 (fun w13 hb8 q13 z13 => ?_)
             refine nn (sr (fad rfl fa51_0 rfl ?_))
             replace hb6 := (hb6.ext (q11.next q12)).fr q13 (by first | (simp; done) | (simp; omega) | (simp [blks]; done) | (simp [blks]; omega))
             refine s_loadB rfl hb6 rfl na9 rfl (fad rfl fa51_0 rfl (s_loadB rfl hb8 rfl na9 rfl (s_eqs rfl rfl rfl (nn ?_))))
             refine cd rfl (fun c6 => ?_) (fun c6 => ?_)
             · refine sr (asg rfl rfl (kpL [(2, _)] (.cons rfl .nil) (nn (rt (rb (tr (tr (rb (rb (tr (tr ?_)))))))))))
               refine rb (tr (r1 Tryd.results10 rfl ?_))
               exact ⟨_, rfl, by rw [gar_d (by omega) (fun e => c1 (by rcases e with h | h; exact .inl (by omega); exact .inr h)) hr (dup_yes (i := i) (k := k) (by omega) (by omega) (by rw [take_pq (by omega)] at c6; exact c6))], ((((((((q1.next q3).next q4).next q8).next q9).step q10 (by first | (simp; done) | (simp; omega))).next q11).next q12).step q13 (by first | (simp; done) | (simp; omega)))⟩
             · refine sk (bn' (tn (rg (s_add rfl rfl (wi6 (by omega)) rfl (mv rfl rfl (nl ?_))))))
               exact lpE (k + 1) (.cons rfl (.cons rfl (.cons rfl (.cons rfl (.cons rfl (.cons rfl (.cons rfl (.cons rfl .nil)))))))) ⟨((q11.next q12).step q13 (by first | (simp; done) | (simp; omega))), ⟨by omega, all_step hn (by rw [take_pq (by omega)] at c6; exact c6)⟩⟩ (by omega)
           · obtain rfl : i = k := by omega
             refine ex (te (te (xh (bn' (tn (rg (s_add rfl rfl (wi6 (by omega)) rfl (mv rfl rfl (kpL [(1, _), (38, _), (39, _), (40, _)] (.cons rfl (.cons rfl (.cons rfl (.cons rfl .nil)))) (nl ?_))))))))))
             exact lpE (i + 1) (.cons rfl (.cons rfl (.cons rfl (.cons rfl .nil)))) ⟨(((q8.next q9).step q10 (by first | (simp; done) | (simp; omega))).next q11), ⟨by omega, all_step hd hn⟩⟩ (by omega)
         · obtain rfl : i = qs.length := by omega
           refine ex (te (te (xh (tn (sq (sr (fad rfl fa24_1 rfl ?_)))))))
           replace hb1 := hb1.ext q8
           refine s_loadB rfl hb1 rfl na22 rfl (lnS rfl Tryd.underlying22 rfl (mv rfl rfl (kpL [(62, _), (63, _), (64, _)] (.cons rfl (.cons rfl (.cons rfl .nil))) (nn (bl ?_)))))
           refine lpK (ι := Nat) [(62, _), (63, _)] (fun i => [(64, .int .i64 (i : Int))]) (fun i w' => Fr [] w8 w' ∧ i ≤ qs.length ∧ ∀ a, a < i → motE (PcAt qs a).mot = 0) (fun i => qs.length - i) 0 (.cons rfl (.cons rfl (.cons rfl .nil))) ⟨Fr.refl _ _, ⟨Nat.zero_le _, fun j hj => absurd hj (Nat.not_lt_zero j)⟩⟩ ?_
           rintro i w14 ⟨q14, ⟨hi, hm⟩⟩
           have z14 := q14.size
           refine kpC [(62, _), (63, _), (64, _)] (.cons rfl (.cons rfl (.cons rfl .nil))) ?_
           refine sr (lt' rfl rfl rfl (nn (sq ?_)))
           refine cd rfl (fun c7 => ?_) (fun c7 => ?_)
           · refine sk (tn (sq (bl (sr ?_))))
             replace hs := hs0.ext ((((q1.next q3).next q4).next q8).next q14)
             refine s_idxL (pq0) rfl hs rfl el22 (by omega) (by omega) nat_of rfl (fun ad66 hc66 => ?_)
             refine s_loadA rfl (hc66 _ hs) ag51 rfl (al zv51 rfl rfl (fun g10 w15 hg10 hb10 q15 z15 => ?_))
             refine s_storeBA rfl rfl hb10 rfl (by first | (simp [Value.oneCell', S]; done) | exact Enc.one _ _) sz51 (fun w16 hb10 q16 z16 => ?_)
             refine nn (sr (fad rfl fa51_1 rfl (s_loadBP (vs := [_, _, _]) rfl hb10 ag49 rfl rfl ?_)))
             replace hq := hq0.ext ((((((q1.next q3).next q4).next q8).next q14).next q15).step q16 (by first | (simp; done) | (simp; omega)))
             refine cl (ev1 rfl) co28 (mcheck_ok (PcAt qs i).mot _ _ _ _ (hq.at (by omega))) rfl ?_
             rintro _ w17 ⟨rfl, q17⟩
             have z17 := q17.size
             refine asg rfl rfl (nn (sr (mv rfl rfl (ne' rfl rfl rfl (nn ?_)))))
             refine cd rfl (fun c8 => ?_) (fun c8 => ?_)
             · refine sr (mv rfl rfl (asg rfl rfl (kpL [(2, _)] (.cons rfl .nil) (nn (rt (rb (tr (tr (rb (tr (r1 Tryd.results10 rfl ?_)))))))))))
               exact ⟨_, rfl, by rw [gar_e (by omega) (fun e => c1 (by rcases e with h | h; exact .inl (by omega); exact .inr h)) hr (dup_no hd), mots_at (i := i) (by omega) hm (by omega)], (((((((q1.next q3).next q4).next q8).next q14).next q15).step q16 (by first | (simp; done) | (simp; omega))).next q17)⟩
             · refine sk (bn' (tn (rg (s_add rfl rfl (wi6 (by omega)) rfl (mv rfl rfl (nl ?_))))))
               exact lpE (i + 1) (.cons rfl (.cons rfl (.cons rfl .nil))) ⟨(((q14.next q15).step q16 (by first | (simp; done) | (simp; omega))).next q17), ⟨by omega, all_step hm (by omega)⟩⟩ (by omega)
           · obtain rfl : i = qs.length := by omega
             refine ex (te (te (xh (tn (sr (asg rfl rfl (nn (rt (r1 Tryd.results10 rfl ?_)))))))))
             exact ⟨_, rfl, by rw [gar_e (by omega) (fun e => c1 (by rcases e with h | h; exact .inl (by omega); exact .inr h)) hr (dup_no hd), mots_no hm], ((((q1.next q3).next q4).next q8).next q14)⟩
end Go.Proofs.YthehggmdcmpjeaaDoor
namespace Go.Proofs.YthehggmdcmpjeaaDoor
open Go.Lw Go.G14
theorem co21 : CallOf Tryd.prog 21 := CallOf.mk' Tryd.func21 (by kernel_rfl) (by kernel_rfl)
theorem co22 : CallOf Tryd.prog 22 := CallOf.mk' Tryd.func22 (by kernel_rfl) (by kernel_rfl)
theorem nrx {l : List UInt8} : ((if nameB l = true then 1 else 0 : Int) = 0) ↔ ¬ nameB l = true := by by_cases h : nameB l = true <;> simp [h]
set_option maxHeartbeats 2000000 in
theorem refgar_ok (nm : List UInt8) (v : Value) (qs : List PQ) (w0 : World) (hs : Sl encPq w0 v qs) (hq : PcsQ w0 qs) : Rets Tryd.prog 7 #[.agg #[S nm, v]] w0 fun r w' => r = .int .i64 (garE nm (pcs qs)) ∧ Fr [] w0 w' := by
 obtain ⟨A, c, rfl, hcc, hM, hA⟩ := id hs
 clear hA
 unfold maxLen at hM
 refine we [(0, .agg #[S nm, .slice A qs.length c])] Tryd.func7 rfl Tryd.ntmps7 rfl (.cons rfl .nil) ?_
 have hs0 := hs
 have hq0 := hq
 refine sr (bx rfl rfl rfl (fun g1 w1 hg1 hb1 q1 z1 => ?_))
 refine asg rfl rfl (nn (sr (fad rfl fa24_1 rfl (s_loadB rfl hb1 rfl na22 rfl (lnS rfl Tryd.underlying22 rfl (asg rfl rfl (nn (sq (sr (mv rfl rfl (gt' rfl rfl rfl ?_)))))))))))
 refine nn ?_
 refine cd rfl (fun c0 => ?_) (fun c0 => ?_)
 · refine sr (asg rfl rfl (nn (rt (tr (r1 Tryd.results7 rfl ?_)))))
   exact ⟨_, rfl, by rw [gar_a (by omega)], q1⟩
 · refine sk (tn (sq (sq ?_)))
   refine rboF (r := 22) (L' := [(1, _), (3, _)]) ((((qs.length : Int) = 0) ∨ ((if nameB nm = true then (1 : Int) else 0) = 0))) (.cons rfl (.cons rfl .nil)) ?_ ?_
   · refine mv rfl rfl (eq' rfl rfl rfl (mv rfl rfl ?_))
     refine gs 17 rfl (fun g0 => ?_) (fun g0 => ?_)
     · exact gN rfl rfl rfl (gN rfl rfl rfl (gN rfl rfl rfl (gN rfl rfl rfl (pkt rfl rfl rfl rfl (rbeF rfl (by first | exact bt (by omega) | exact bf (by omega) | exact bi (by omega) | exact bn (by omega) | (simp_all; done) | (simp_all; omega)) (.cons rfl (.cons rfl .nil)) (Fr.refl _ _))))))
     · refine gY rfl (fad rfl fa24_0 rfl (gY rfl (s_loadB rfl hb1 rfl na9 rfl (gY rfl ?_))))
       refine cl (ev1 rfl) co21 (refname_ok _ _) rfl ?_
       rintro _ w2 ⟨rfl, q2⟩
       have z2 := q2.size
       exact gY rfl (eq' rfl rfl rfl (pkf rfl rfl rfl rfl (rbeF rfl (by first | exact bt (by omega) | exact bf (by omega) | exact bi (by omega) | exact bn (by omega) | (simp_all; done) | (simp_all; omega)) (.cons rfl (.cons rfl .nil)) q2)))
   · intro w3 q3; have z3 := q3.size
     refine tn ?_
     refine cd rfl (fun c1 => ?_) (fun c1 => ?_)
     · refine sr (asg rfl rfl (nn (rt (tr (r1 Tryd.results7 rfl ?_)))))
       exact ⟨_, rfl, by rw [gar_b (by omega) (by rcases c1 with h | h; exact .inl (by omega); exact .inr (nrx.1 h))], (q1.next q3)⟩
     · refine sk (tn (sq (sr (asg rfl rfl (nn (bl ?_))))))
       refine lpK (ι := Nat) [(1, _), (3, _)] (fun i => [(4, .int .i64 (i : Int))]) (fun i w' => Fr [] w3 w' ∧ i ≤ qs.length ∧ ∀ j, j < i → rightB (PcAt qs j) = true) (fun i => qs.length - i) 0 (.cons rfl (.cons rfl (.cons rfl .nil))) ⟨Fr.refl _ _, ⟨Nat.zero_le _, fun j hj => absurd hj (Nat.not_lt_zero j)⟩⟩ ?_
       rintro i w4 ⟨q4, ⟨hi, hr⟩⟩
       have z4 := q4.size
       refine kpC [(1, _), (3, _), (4, _)] (.cons rfl (.cons rfl (.cons rfl .nil))) ?_
       refine sq (sr (mv rfl rfl (mv rfl rfl (lt' rfl rfl rfl (nn ?_)))))
       refine cd rfl (fun c2 => ?_) (fun c2 => ?_)
       · refine sk (tn (sq (bl (sr (fad rfl fa24_1 rfl ?_)))))
         replace hb1 := hb1.ext (q3.next q4)
         refine s_loadB rfl hb1 rfl na22 rfl (mv rfl rfl ?_)
         replace hs := hs0.ext ((q1.next q3).next q4)
         refine s_idxL (pq0) rfl hs rfl el22 (by omega) (by omega) nat_of rfl (fun ad31 hc31 => ?_)
         refine s_loadA rfl (hc31 _ hs) ag51 rfl (al zv51 rfl rfl (fun g5 w5 hg5 hb5 q5 z5 => ?_))
         refine s_storeBA rfl rfl hb5 rfl (by first | (simp [Value.oneCell', S]; done) | exact Enc.one _ _) sz51 (fun w6 hb5 q6 z6 => ?_)
         refine kpL [(1, _), (3, _), (4, _), (5, _)] (.cons rfl (.cons rfl (.cons rfl (.cons rfl .nil)))) (nn (sq ?_))
         refine rboF (r := 76) (L' := [(1, _), (3, _), (4, _)]) (((((((((((if nameB (qs.getD i pq0).p.nm = true then (1 : Int) else 0) = 0) ∨ ((qs.getD i pq0).p.ba < 1)) ∨ (16 < (qs.getD i pq0).p.ba)) ∨ ((qs.getD i pq0).p.st < 0)) ∨ (4 < (qs.getD i pq0).p.st)) ∨ ((qs.getD i pq0).p.up < 1)) ∨ (31 < (qs.getD i pq0).p.up)) ∨ ((qs.getD i pq0).p.ct < 1)) ∨ (9 < (qs.getD i pq0).p.ct))) (.cons rfl (.cons rfl (.cons rfl .nil))) ?_ ?_
         · refine fad rfl fa51_0 rfl (s_loadB rfl hb5 rfl na9 rfl ?_)
           refine cl (ev1 rfl) co21 (refname_ok _ _) rfl ?_
           rintro _ w7 ⟨rfl, q7⟩
           have z7 := q7.size
           refine eq' rfl rfl rfl (mv rfl rfl ?_)
           refine gs 37 rfl (fun g1 => ?_) (fun g1 => ?_)
           · refine gN rfl rfl rfl (gN rfl rfl rfl (gN rfl rfl rfl (pkt rfl rfl rfl rfl (mv rfl rfl (gN rfl rfl rfl (gN rfl rfl rfl (gN rfl rfl rfl (pkt rfl rfl rfl rfl (mv rfl rfl (gN rfl rfl rfl (gN rfl rfl rfl ?_)))))))))))
             refine gN rfl rfl rfl (pkt rfl rfl rfl rfl (mv rfl rfl (gN rfl rfl rfl (gN rfl rfl rfl (gN rfl rfl rfl (pkt rfl rfl rfl rfl (mv rfl rfl (gN rfl rfl rfl (gN rfl rfl rfl (gN rfl rfl rfl (pkt rfl rfl rfl rfl ?_)))))))))))
             refine mv rfl rfl (gN rfl rfl rfl (gN rfl rfl rfl (gN rfl rfl rfl (pkt rfl rfl rfl rfl (mv rfl rfl (gN rfl rfl rfl (gN rfl rfl rfl (gN rfl rfl rfl (pkt rfl rfl rfl rfl (mv rfl rfl (gN rfl rfl rfl ?_)))))))))))
             exact gN rfl rfl rfl (gN rfl rfl rfl (pkt rfl rfl rfl rfl (rbeF rfl (by first | exact bt (by omega) | exact bf (by omega) | exact bi (by omega) | exact bn (by omega) | (simp_all; done) | (simp_all; omega)) (.cons rfl (.cons rfl (.cons rfl .nil))) q7)))
           · refine gY rfl (fad rfl fa51_2 rfl (gY rfl ?_))
             replace hb5 := hb5.ext q7
             refine s_loadB rfl hb5 rfl na3 rfl (gY rfl (lt' rfl rfl rfl (pkf rfl rfl rfl rfl (mv rfl rfl ?_))))
             refine gs 42 rfl (fun g2 => ?_) (fun g2 => ?_)
             · refine gN rfl rfl rfl (gN rfl rfl rfl (gN rfl rfl rfl (pkt rfl rfl rfl rfl (mv rfl rfl (gN rfl rfl rfl (gN rfl rfl rfl (gN rfl rfl rfl (pkt rfl rfl rfl rfl (mv rfl rfl (gN rfl rfl rfl (gN rfl rfl rfl ?_)))))))))))
               refine gN rfl rfl rfl (pkt rfl rfl rfl rfl (mv rfl rfl (gN rfl rfl rfl (gN rfl rfl rfl (gN rfl rfl rfl (pkt rfl rfl rfl rfl (mv rfl rfl (gN rfl rfl rfl (gN rfl rfl rfl (gN rfl rfl rfl (pkt rfl rfl rfl rfl ?_)))))))))))
               exact mv rfl rfl (gN rfl rfl rfl (gN rfl rfl rfl (gN rfl rfl rfl (pkt rfl rfl rfl rfl (mv rfl rfl (gN rfl rfl rfl (gN rfl rfl rfl (gN rfl rfl rfl (pkt rfl rfl rfl rfl (rbeF rfl (by first | exact bt (by omega) | exact bf (by omega) | exact bi (by omega) | exact bn (by omega) | (simp_all; done) | (simp_all; omega)) (.cons rfl (.cons rfl (.cons rfl .nil))) q7))))))))))
             · refine gY rfl (fad rfl fa51_2 rfl (gY rfl (s_loadB rfl hb5 rfl na3 rfl (gY rfl (gt' rfl rfl rfl (pkf rfl rfl rfl rfl (mv rfl rfl ?_)))))))
               refine gs 47 rfl (fun g3 => ?_) (fun g3 => ?_)
               · refine gN rfl rfl rfl (gN rfl rfl rfl (gN rfl rfl rfl (pkt rfl rfl rfl rfl (mv rfl rfl (gN rfl rfl rfl (gN rfl rfl rfl (gN rfl rfl rfl (pkt rfl rfl rfl rfl (mv rfl rfl (gN rfl rfl rfl (gN rfl rfl rfl ?_)))))))))))
                 refine gN rfl rfl rfl (pkt rfl rfl rfl rfl (mv rfl rfl (gN rfl rfl rfl (gN rfl rfl rfl (gN rfl rfl rfl (pkt rfl rfl rfl rfl (mv rfl rfl (gN rfl rfl rfl (gN rfl rfl rfl (gN rfl rfl rfl (pkt rfl rfl rfl rfl ?_)))))))))))
                 exact mv rfl rfl (gN rfl rfl rfl (gN rfl rfl rfl (gN rfl rfl rfl (pkt rfl rfl rfl rfl (rbeF rfl (by first | exact bt (by omega) | exact bf (by omega) | exact bi (by omega) | exact bn (by omega) | (simp_all; done) | (simp_all; omega)) (.cons rfl (.cons rfl (.cons rfl .nil))) q7)))))
               · refine gY rfl (fad rfl fa51_3 rfl (gY rfl (s_loadB rfl hb5 rfl na3 rfl (gY rfl (lt' rfl rfl rfl (pkf rfl rfl rfl rfl (mv rfl rfl ?_)))))))
                 refine gs 52 rfl (fun g4 => ?_) (fun g4 => ?_)
                 · refine gN rfl rfl rfl (gN rfl rfl rfl (gN rfl rfl rfl (pkt rfl rfl rfl rfl (mv rfl rfl (gN rfl rfl rfl (gN rfl rfl rfl (gN rfl rfl rfl (pkt rfl rfl rfl rfl (mv rfl rfl (gN rfl rfl rfl (gN rfl rfl rfl ?_)))))))))))
                   refine gN rfl rfl rfl (pkt rfl rfl rfl rfl (mv rfl rfl (gN rfl rfl rfl (gN rfl rfl rfl (gN rfl rfl rfl (pkt rfl rfl rfl rfl (mv rfl rfl (gN rfl rfl rfl (gN rfl rfl rfl (gN rfl rfl rfl (pkt rfl rfl rfl rfl ?_)))))))))))
                   exact rbeF rfl (by first | exact bt (by omega) | exact bf (by omega) | exact bi (by omega) | exact bn (by omega) | (simp_all; done) | (simp_all; omega)) (.cons rfl (.cons rfl (.cons rfl .nil))) q7
                 · refine gY rfl (fad rfl fa51_3 rfl (gY rfl (s_loadB rfl hb5 rfl na3 rfl (gY rfl (gt' rfl rfl rfl (pkf rfl rfl rfl rfl (mv rfl rfl ?_)))))))
                   refine gs 57 rfl (fun g5 => ?_) (fun g5 => ?_)
                   · refine gN rfl rfl rfl (gN rfl rfl rfl (gN rfl rfl rfl (pkt rfl rfl rfl rfl (mv rfl rfl (gN rfl rfl rfl (gN rfl rfl rfl (gN rfl rfl rfl (pkt rfl rfl rfl rfl (mv rfl rfl (gN rfl rfl rfl (gN rfl rfl rfl ?_)))))))))))
                     exact gN rfl rfl rfl (pkt rfl rfl rfl rfl (mv rfl rfl (gN rfl rfl rfl (gN rfl rfl rfl (gN rfl rfl rfl (pkt rfl rfl rfl rfl (rbeF rfl (by first | exact bt (by omega) | exact bf (by omega) | exact bi (by omega) | exact bn (by omega) | (simp_all; done) | (simp_all; omega)) (.cons rfl (.cons rfl (.cons rfl .nil))) q7)))))))
                   · refine gY rfl (fad rfl fa51_4 rfl (gY rfl (s_loadB rfl hb5 rfl na3 rfl (gY rfl (lt' rfl rfl rfl (pkf rfl rfl rfl rfl (mv rfl rfl ?_)))))))
                     refine gs 62 rfl (fun g6 => ?_) (fun g6 => ?_)
                     · refine gN rfl rfl rfl (gN rfl rfl rfl (gN rfl rfl rfl (pkt rfl rfl rfl rfl (mv rfl rfl (gN rfl rfl rfl (gN rfl rfl rfl (gN rfl rfl rfl (pkt rfl rfl rfl rfl (mv rfl rfl (gN rfl rfl rfl (gN rfl rfl rfl ?_)))))))))))
                       exact gN rfl rfl rfl (pkt rfl rfl rfl rfl (rbeF rfl (by first | exact bt (by omega) | exact bf (by omega) | exact bi (by omega) | exact bn (by omega) | (simp_all; done) | (simp_all; omega)) (.cons rfl (.cons rfl (.cons rfl .nil))) q7))
                     · refine gY rfl (fad rfl fa51_4 rfl (gY rfl (s_loadB rfl hb5 rfl na3 rfl (gY rfl (gt' rfl rfl rfl (pkf rfl rfl rfl rfl (mv rfl rfl ?_)))))))
                       refine gs 67 rfl (fun g7 => ?_) (fun g7 => ?_)
                       · exact gN rfl rfl rfl (gN rfl rfl rfl (gN rfl rfl rfl (pkt rfl rfl rfl rfl (mv rfl rfl (gN rfl rfl rfl (gN rfl rfl rfl (gN rfl rfl rfl (pkt rfl rfl rfl rfl (rbeF rfl (by first | exact bt (by omega) | exact bf (by omega) | exact bi (by omega) | exact bn (by omega) | (simp_all; done) | (simp_all; omega)) (.cons rfl (.cons rfl (.cons rfl .nil))) q7)))))))))
                       · refine gY rfl (fad rfl fa51_5 rfl (gY rfl (s_loadB rfl hb5 rfl na3 rfl (gY rfl (lt' rfl rfl rfl (pkf rfl rfl rfl rfl (mv rfl rfl ?_)))))))
                         refine gs 72 rfl (fun g8 => ?_) (fun g8 => ?_)
                         · exact gN rfl rfl rfl (gN rfl rfl rfl (gN rfl rfl rfl (pkt rfl rfl rfl rfl (rbeF rfl (by first | exact bt (by omega) | exact bf (by omega) | exact bi (by omega) | exact bn (by omega) | (simp_all; done) | (simp_all; omega)) (.cons rfl (.cons rfl (.cons rfl .nil))) q7))))
                         · exact gY rfl (fad rfl fa51_5 rfl (gY rfl (s_loadB rfl hb5 rfl na3 rfl (gY rfl (gt' rfl rfl rfl (pkf rfl rfl rfl rfl (rbeF rfl (by first | exact bt (by omega) | exact bf (by omega) | exact bi (by omega) | exact bn (by omega) | (simp_all; done) | (simp_all; omega)) (.cons rfl (.cons rfl (.cons rfl .nil))) q7)))))))
         · intro w8 q8; have z8 := q8.size
           refine tn ?_
           refine cd rfl (fun c3 => ?_) (fun c3 => ?_)
           · refine sr (asg rfl rfl (nn (rt (rb (tr (tr (rb (tr (r1 Tryd.results7 rfl ?_)))))))))
             exact ⟨_, rfl, by rw [gar_c (by omega) (fun e => c1 (by rcases e with h | h; exact .inl (by omega); exact .inr (nrx.2 h))) (i := i) (by omega) (fun e => by have hh := (right_iff (qs.getD i pq0).p).1 e; rw [if_pos hh.1] at c3; omega)], (((((q1.next q3).next q4).next q5).step q6 (by first | (simp; done) | (simp; omega))).next q8)⟩
           · refine sk (bn' (tn (rg (mv rfl rfl (s_add rfl rfl (wi6 (by omega)) rfl (asg rfl rfl (nl ?_)))))))
             exact lpE (i + 1) (.cons rfl (.cons rfl (.cons rfl .nil))) ⟨(((q4.next q5).step q6 (by first | (simp; done) | (simp; omega))).next q8), ⟨by omega, all_step hr ((right_iff (qs.getD i pq0).p).2 ⟨Classical.not_not.1 fun e => c3 (by rw [if_neg e]; omega), by omega⟩)⟩⟩ (by omega)
       · obtain rfl : i = qs.length := by omega
         refine ex (te (te (xh (tn (sq (sr (asg rfl rfl (nn (bl ?_)))))))))
         refine lpK (ι := Nat) [(1, _), (3, _)] (fun i => [(6, .int .i64 (i : Int))]) (fun i w' => Fr [] w4 w' ∧ i ≤ qs.length ∧ ∀ a, a < i → ∀ b, b < a → ¬ (PcAt qs a).nm = (PcAt qs b).nm) (fun i => qs.length - i) 0 (.cons rfl (.cons rfl (.cons rfl .nil))) ⟨Fr.refl _ _, ⟨Nat.zero_le _, fun j hj => absurd hj (Nat.not_lt_zero j)⟩⟩ ?_
         rintro i w9 ⟨q9, ⟨hi, hd⟩⟩
         have z9 := q9.size
         refine kpC [(1, _), (3, _), (6, _)] (.cons rfl (.cons rfl (.cons rfl .nil))) ?_
         refine sq (sr (mv rfl rfl (mv rfl rfl (lt' rfl rfl rfl (nn ?_)))))
         refine cd rfl (fun c4 => ?_) (fun c4 => ?_)
         · refine sk (tn (sq (bl (sr (asg rfl rfl (nn (bl ?_)))))))
           refine lpK (ι := Nat) [(1, _), (3, _), (6, _)] (fun k => [(7, .int .i64 (k : Int))]) (fun k w' => Fr [] w9 w' ∧ k ≤ i ∧ ∀ b, b < k → ¬ (PcAt qs i).nm = (PcAt qs b).nm) (fun k => i - k) 0 (.cons rfl (.cons rfl (.cons rfl (.cons rfl .nil)))) ⟨Fr.refl _ _, ⟨Nat.zero_le _, fun j hj => absurd hj (Nat.not_lt_zero j)⟩⟩ ?_
           rintro k w10 ⟨q10, ⟨hk, hn⟩⟩
           have z10 := q10.size
           refine kpC [(1, _), (3, _), (6, _), (7, _)] (.cons rfl (.cons rfl (.cons rfl (.cons rfl .nil)))) ?_
           refine sq (sr (mv rfl rfl (mv rfl rfl (lt' rfl rfl rfl (nn ?_)))))
           refine cd rfl (fun c5 => ?_) (fun c5 => ?_)
           · refine sk (tn (sq (bl (sq ?_))))
             replace hs := hs0.ext ((((q1.next q3).next q4).next q9).next q10)
             replace hq := hq0.ext ((((q1.next q3).next q4).next q9).next q10)
             replace hb1 := hb1.ext (((q3.next q4).next q9).next q10)
             intro a h
             refine region_quiet hmix (by kernel_rfl) ?_
             refine qt_fieldAddr h rfl fa24_1 rfl ?_; clear h a; intro a h
             refine qt_loadB h rfl (fun _ hw => hb1.ext hw) rfl na22 rfl ?_; clear h a; intro a h
             refine qt_move h rfl rfl ?_; clear h a; intro a h
             refine qt_idxL (pq0) h rfl hs rfl el22 (by omega) (by omega) rfl rfl ?_; clear h a; intro ad90 hc90 a h
             refine qt_fieldAddr h rfl fa51_0 rfl ?_; clear h a; intro a h
             refine qt_loadC h rfl (fun _ hw => hc90 _ (hs.ext hw)) rfl na9 rfl ?_; clear h a; intro a h
             refine qt_fieldAddr h rfl fa24_1 rfl ?_; clear h a; intro a h
             refine qt_loadB h rfl (fun _ hw => hb1.ext hw) rfl na22 rfl ?_; clear h a; intro a h
             refine qt_move h rfl rfl ?_; clear h a; intro a h
             refine qt_idxL (pq0) h rfl hs rfl el22 (by omega) (by omega) rfl rfl ?_; clear h a; intro ad96 hc96 a h
             refine qt_fieldAddr h rfl fa51_0 rfl ?_; clear h a; intro a h
             refine qt_loadC h rfl (fun _ hw => hc96 _ (hs.ext hw)) rfl na9 rfl ?_; clear h a; intro a h
             refine qt_eqs h rfl rfl rfl ?_; clear h a; intro a h
             refine wpQuiet_nil ?_
             intro w11 q11
             have z11 := q11.size
             refine bk (h.sub (L' := [(1, _), (3, _), (6, _), (7, _), (99, _)]) (.cons rfl (.cons rfl (.cons rfl (.cons rfl (.cons rfl .nil)))))) ?_; clear h a
             refine tn ?_
             refine cd rfl (fun c6 => ?_) (fun c6 => ?_)
             · refine sr (asg rfl rfl (nn (rt (rb (tr (tr (rb (rb (tr (tr (rb ?_)))))))))))
               refine tr (r1 Tryd.results7 rfl ?_)
               exact ⟨_, rfl, by rw [gar_d (by omega) (fun e => c1 (by rcases e with h | h; exact .inl (by omega); exact .inr (nrx.2 h))) hr (dup_yes (i := i) (k := k) (by omega) (by omega) c6)], (((((q1.next q3).next q4).next q9).next q10).next q11)⟩
             · refine sk (bn' (tn (rg (mv rfl rfl (s_add rfl rfl (wi6 (by omega)) rfl (asg rfl rfl (nl ?_)))))))
               exact lpE (k + 1) (.cons rfl (.cons rfl (.cons rfl (.cons rfl .nil)))) ⟨(q10.next q11), ⟨by omega, all_step hn c6⟩⟩ (by omega)
           · obtain rfl : i = k := by omega
             refine ex (te (te (xh (bn' (tn (rg (mv rfl rfl (s_add rfl rfl (wi6 (by omega)) rfl (asg rfl rfl (nl ?_))))))))))
             exact lpE (i + 1) (.cons rfl (.cons rfl (.cons rfl .nil))) ⟨(q9.next q10), ⟨by omega, all_step hd hn⟩⟩ (by omega)
         · obtain rfl : i = qs.length := by omega
           refine ex (te (te (xh (tn (sq (sr (asg rfl rfl (nn (bl ?_)))))))))
           refine lpK (ι := Nat) [(1, _), (3, _)] (fun i => [(8, .int .i64 (i : Int))]) (fun i w' => Fr [] w9 w' ∧ i ≤ qs.length ∧ ∀ a, a < i → motE (PcAt qs a).mot = 0) (fun i => qs.length - i) 0 (.cons rfl (.cons rfl (.cons rfl .nil))) ⟨Fr.refl _ _, ⟨Nat.zero_le _, fun j hj => absurd hj (Nat.not_lt_zero j)⟩⟩ ?_
           rintro i w12 ⟨q12, ⟨hi, hm⟩⟩
           have z12 := q12.size
           refine kpC [(1, _), (3, _), (8, _)] (.cons rfl (.cons rfl (.cons rfl .nil))) ?_
           refine sq (sr (mv rfl rfl (mv rfl rfl (lt' rfl rfl rfl (nn ?_)))))
           refine cd rfl (fun c7 => ?_) (fun c7 => ?_)
           · refine sk (tn (sq (bl (sr (fad rfl fa24_1 rfl ?_)))))
             replace hb1 := hb1.ext (((q3.next q4).next q9).next q12)
             refine s_loadB rfl hb1 rfl na22 rfl (mv rfl rfl ?_)
             replace hs := hs0.ext ((((q1.next q3).next q4).next q9).next q12)
             refine s_idxL (pq0) rfl hs rfl el22 (by omega) (by omega) nat_of rfl (fun ad108 hc108 => ?_)
             refine fad rfl fa51_1 rfl (s_loadA rfl (cells_part (vs := [_, _, _]) (hc108 _ hs) rfl) ag49 rfl ?_)
             replace hq := hq0.ext ((((q1.next q3).next q4).next q9).next q12)
             refine cl (ev1 rfl) co22 (refmot_ok (PcAt qs i).mot _ _ _ _ (hq.at (by omega))) rfl ?_
             rintro _ w13 ⟨rfl, q13⟩
             have z13 := q13.size
             refine asg rfl rfl (kpL [(1, _), (3, _), (8, _), (9, _)] (.cons rfl (.cons rfl (.cons rfl (.cons rfl .nil)))) (nn (sr (mv rfl rfl (ne' rfl rfl rfl (nn ?_))))))
             refine cd rfl (fun c8 => ?_) (fun c8 => ?_)
             · refine sr (mv rfl rfl (asg rfl rfl (kpL [(2, _)] (.cons rfl .nil) (nn (rt (rb (tr (tr (rb (tr (r1 Tryd.results7 rfl ?_)))))))))))
               exact ⟨_, rfl, by rw [gar_e (by omega) (fun e => c1 (by rcases e with h | h; exact .inl (by omega); exact .inr (nrx.2 h))) hr (dup_no hd), mots_at (i := i) (by omega) hm (by omega)], (((((q1.next q3).next q4).next q9).next q12).next q13)⟩
             · refine sk (bn' (tn (rg (mv rfl rfl (s_add rfl rfl (wi6 (by omega)) rfl (asg rfl rfl (nl ?_)))))))
               exact lpE (i + 1) (.cons rfl (.cons rfl (.cons rfl .nil))) ⟨(q12.next q13), ⟨by omega, all_step hm (by omega)⟩⟩ (by omega)
           · obtain rfl : i = qs.length := by omega
             refine ex (te (te (xh (tn (sr (asg rfl rfl (nn (rt (r1 Tryd.results7 rfl ?_)))))))))
             exact ⟨_, rfl, by rw [gar_e (by omega) (fun e => c1 (by rcases e with h | h; exact .inl (by omega); exact .inr (nrx.2 h))) hr (dup_no hd), mots_no hm], ((((q1.next q3).next q4).next q9).next q12)⟩
theorem gd_l {α : Type} {l : List α} {j : Nat} {q d : α} (h : j < l.length) : (l ++ [q]).getD j d = l.getD j d := by
  rw [List.getD, List.getD, List.getElem?_append_left h]
theorem gd_r {α : Type} {l : List α} {j : Nat} {q d : α} (h : l.length = j) : (l ++ [q]).getD j d = q := by
  rw [List.getD, List.getElem?_append_right (by omega), h, Nat.sub_self]; rfl
theorem itm_snoc {size : Int} {qs : List PQ} {its : List IQ} {i : Nat} {q : IQ} (hl : its.length = i) (h : ∀ j, j < i → itmOf size (qs.getD j pq0).p (its.getD j iq0)) (hq : itmOf size (qs.getD i pq0).p q) : ∀ j, j < i + 1 → itmOf size (qs.getD j pq0).p ((its ++ [q]).getD j iq0) := fun j hj => by
  rcases Nat.lt_or_ge j i with h1 | h1
  · rw [gd_l (by omega)]; exact h j h1
  · obtain rfl : j = i := by omega
    rw [gd_r hl]; exact hq
theorem pcs_take {qs : List PQ} {i : Nat} (h : i < qs.length) : pcs (qs.take (i + 1)) = pcs (qs.take i) ++ [(qs.getD i pq0).p] := by
  unfold pcs; rw [take_one _ i pq0 h, List.map_append]; rfl
end Go.Proofs.YthehggmdcmpjeaaDoor
namespace Go.Lw
open Go.RowKit
section
variable {P : Program} {n : Nat} {L : List (Nat × Value)} {ds : List Nat} {w w' : World} {Q : Exit → Act → World → Prop} {ops : Array Oper} {rest : List Oper} {a : Act} {d : Nat} {ty T t : TypeId} {pos : String} {after : Array Edge} {v : Value} {x y : Operand}
end
end Go.Lw
namespace Go.Lw
open Go.RowKit
section
variable {P : Program} {n : Nat} {L : List (Nat × Value)} {ds : List Nat} {w w' : World} {Q : Exit → Act → World → Prop} {ops : Array Oper} {rest : List Oper} {a : Act} {d : Nat} {ty T t : TypeId} {pos : String} {after : Array Edge} {v : Value} {x y : Operand}
/-- copy into a slice of the call's own, from an element on. -/
theorem st_copyP {α : Type} {E : Enc α} {bytes base g m cap p k : Nat} {zs ys : List α} (h : AgM ds a n L) (hx : ev L x = some (.slice (some ((⟨g, 0, none⟩ : Addr).add (p * E.sz))) (m - p) (cap - p))) (hy : ev L y = some v) (ho : Own E T base w (.slice (some ⟨g, 0, none⟩) m cap) zs) (hs : Sl E w v ys) (hp : p ≤ m) (hk : k = min (m - p) ys.length) (he : ElemOf P t T E bytes) (hn : Nat.blt d n = true)
    (q : ∀ w', Own E T base w' (.slice (some ⟨g, 0, none⟩) m cap) (zs.take p ++ ys.take k ++ zs.drop (p + k)) → Fr [g] w w' → w'.heap.size = w.heap.size → ∀ a, AgM ds a n ((d, .int .i64 (k : Int)) :: L) → wpList P ops Q rest a w') : wpList P ops Q (⟨some d, .call ⟨.builtin .copy, #[x, y], #[t, t]⟩, ty, pos, after, none⟩ :: rest) a w := by
  obtain ⟨i, z, h1, h2, h3, h4, h5⟩ := he.info
  rcases ho with ⟨e, _⟩ | ⟨g', cap', cur, e, hb, hg, r1, r2, r3, r4⟩
  · cases e
  cases e
  obtain ⟨A0, c0, e0, _, hM0, _⟩ := id hs
  subst e0
  have hkl : k ≤ ys.length := by omega
  have hs2 := hs.take rfl (m := k) hkl (B := A0) (c' := c0) (by omega) hM0 (fun _ => rfl)
  obtain ⟨A, c, e2, hc, hM, hA⟩ := hs2.flat
  have hlk : (ys.take k).length = k := by rw [List.length_take]; omega
  rw [hlk] at e2
  simp only [Value.slice.injEq] at e2
  obtain ⟨rfl, -, rfl⟩ := e2
  obtain ⟨cs, hcs0⟩ : ∃ cs, (ys.take k).flatMap E.enc = cs := ⟨_, rfl⟩
  have hlen : cs.length = k * E.sz := by rw [← hcs0, E.flat_len, hlk]
  have hone := E.flat_one (ys.take k)
  rw [hcs0] at hone hA
  have hpk : p + k ≤ zs.length := by omega
  have hsz : p * E.sz + k * E.sz ≤ zs.length * E.sz := by rw [← Nat.add_mul]; exact Nat.mul_le_mul_right _ hpk
  have hcz : zs.length * E.sz ≤ cur.size := Nat.le_trans (Nat.mul_le_mul_right _ r1) r3
  have hst := run_storeCells_at P g (p * E.sz) T cs 0 cur w hg (by rw [hlen]; omega) hone
  rw [Nat.add_zero, hlen] at hst
  have hfc : (Builtin.firstCells E.sz k (.slice A0 ys.length c0)).run P w = .ok cs.toArray w := by
    by_cases hys : ys.take k = []
    · have h0 : k = 0 := by have := congrArg List.length hys; rw [hlk] at this; simpa using this
      have hc0 : cs = [] := by rw [← hcs0, hys]; rfl
      rw [h0, hc0]
      cases A0 with
      | none => simp [Builtin.firstCells]
      | some ad => simp [Builtin.firstCells, loadCells, loadCellsFrom]
    · obtain ⟨ad, rfl, hcs⟩ := hA hys
      have hload := run_loadCells_list (P := P) w ad cs hcs
      rw [hlen] at hload
      simpa [Builtin.firstCells] using hload
  have key : (Builtin.copy_ #[t, t] ty #[.slice (some ((⟨g, 0, none⟩ : Addr).add (p * E.sz))) (zs.length - p) (cap - p), .slice A0 ys.length c0]).run P w = .ok (.int .i64 (k : Int)) (w.setRow g (cur.toList.take (p * E.sz) ++ cs ++ cur.toList.drop (p * E.sz + k * E.sz)).toArray) := by
    rw [lit_add, Nat.zero_add]
    have hmin : Nat.min (zs.length - p) ys.length = k := hk.symm
    have hmin2 : Nat.min ys.length (zs.length - p) = k := (Nat.min_comm _ _).trans hk.symm
    simp only [Builtin.copy_, List.getElem?_toArray, List.getElem?_cons_zero, List.getElem?_cons_succ, Sem.run_bind, run_underlying he.und, Result.andThen_ok, Builtin.lenOf, Sem.run_pure, hmin, sizeOf, typeInfo]
    simp [h1, h3, hfc, hst, goInt, hmin2]
  obtain ⟨za, zb, zc, rfl, hza, hzb⟩ : ∃ za zb zc, zs = za ++ (zb ++ zc) ∧ za.length = p ∧ zb.length = k := ⟨zs.take p, (zs.drop p).take k, (zs.drop p).drop k, by rw [List.take_append_drop, List.take_append_drop], by rw [List.length_take]; omega, by rw [List.length_take, List.length_drop]; omega⟩
  have hnew : (za ++ (zb ++ zc)).take p ++ ys.take k ++ (za ++ (zb ++ zc)).drop (p + k) = za ++ (ys.take k ++ zc) := by
    rw [← hza, List.take_left, ← hzb, ← List.drop_drop, List.drop_left, List.drop_left, List.append_assoc]
  rw [hnew] at q
  have hl2 : (za ++ (ys.take k ++ zc)).length = (za ++ (zb ++ zc)).length := by simp only [List.length_append, hlk, hzb]
  have hcur : cur.toList = (za ++ (zb ++ zc)).flatMap E.enc ++ cur.toList.drop ((za ++ (zb ++ zc)).length * E.sz) := by
    rw [← r4, List.take_append_drop]
  have hfa : (za.flatMap E.enc).length = p * E.sz := by rw [E.flat_len, hza]
  have hfb : (zb.flatMap E.enc).length = k * E.sz := by rw [E.flat_len, hzb]
  have hrow : cur.toList.take (p * E.sz) ++ cs ++ cur.toList.drop (p * E.sz + k * E.sz) = (za ++ (ys.take k ++ zc)).flatMap E.enc ++ cur.toList.drop ((za ++ (zb ++ zc)).length * E.sz) := by
    generalize cur.toList.drop ((za ++ (zb ++ zc)).length * E.sz) = R at hcur ⊢
    rw [hcur]
    simp only [List.flatMap_append, List.append_assoc]
    rw [← hfa, List.take_left, ← hfb, ← List.drop_drop, List.drop_left, List.drop_left, hcs0]
  rw [hrow] at key
  refine st_ok h rfl rfl hn (w' := w.setRow g ((za ++ (ys.take k ++ zc)).flatMap E.enc ++ cur.toList.drop ((za ++ (zb ++ zc)).length * E.sz)).toArray) ?_ (q _ (.inr ⟨g, cap, _, by rw [hl2], hb, setRow_heap w g cur _ T (0, 0) hg, by rw [hl2]; exact r1, r2, ?_, ?_⟩) (Fr.setRow w g _) (by simp))
  · rw [exec_builtin]; unfold builtin
    simp only [List.map_toArray, List.map_cons, List.map_nil, h.eval hx, h.eval hy, Sem.run_bind, key, Result.andThen_ok, Sem.run_pure]
  · have e1 : ((za ++ (ys.take k ++ zc)).flatMap E.enc).length = (za ++ (zb ++ zc)).length * E.sz := by rw [E.flat_len, hl2]
    generalize (za ++ (ys.take k ++ zc)).flatMap E.enc = X at e1
    generalize (za ++ (zb ++ zc)).length * E.sz = M at e1 hcz
    simp only [List.size_toArray, List.length_append, List.length_drop, Array.length_toList]
    omega
  · show List.take _ _ = _
    rw [show (za ++ (ys.take k ++ zc)).length * E.sz = ((za ++ (ys.take k ++ zc)).flatMap E.enc).length by rw [E.flat_len]]
    exact List.take_left
theorem s_copyP {α : Type} {E : Enc α} {bytes base g m cap p k : Nat} {zs ys : List α} (hx : ev L x = some (.slice (some ((⟨g, 0, none⟩ : Addr).add (p * E.sz))) (m - p) (cap - p))) (hy : ev L y = some v) (ho : Own E T base w (.slice (some ⟨g, 0, none⟩) m cap) zs) (hs : Sl E w v ys) (hp : p ≤ m) (hk : k = min (m - p) ys.length) (he : ElemOf P t T E bytes) (hn : Nat.blt d n = true)
    (q : ∀ w', Own E T base w' (.slice (some ⟨g, 0, none⟩) m cap) (zs.take p ++ ys.take k ++ zs.drop (p + k)) → Fr [g] w w' → w'.heap.size = w.heap.size → WL P ops Q rest n ds w' ((d, .int .i64 (k : Int)) :: L)) : WL P ops Q (⟨some d, .call ⟨.builtin .copy, #[x, y], #[t, t]⟩, ty, pos, after, none⟩ :: rest) n ds w L := fun a h => st_copyP h hx hy ho hs hp hk he hn q
end
end Go.Lw
namespace Go.Proofs
open Go.Shelf
def Tryd.lays169_ren : Go.Shelf.Ren := ⟨fun | 169 => 34 | n => n, fun | 70 => 75 | 9 => 9 | 0 => 0 | 72 => 78 | 37 => 76 | 127 => 117 | 3 => 3 | 5 => 5 | n => n, fun | n => n⟩
theorem Tryd.lays169 : Go.Proofs.Lays.n169 Tryd.prog Tryd.lays169_ren := {
  mixed := by kernel_rfl
  f169 := Tryd.func34.trans (congrArg some (by kernel_rfl))
  t0 := Tryd.underlying0
  a0 := Tryd.isAgg0
  z0 := Tryd.sizeOf0
  v0 := Tryd.zeroValue0
  t3 := Tryd.underlying3
  a3 := Tryd.isAgg3
  z3 := Tryd.sizeOf3
  v3 := Tryd.zeroValue3
  t9 := Tryd.underlying9
  a9 := Tryd.isAgg9
  z9 := Tryd.sizeOf9
  v9 := Tryd.zeroValue9
  t37 := Tryd.underlying76
  a37 := Tryd.isAgg76
  z37 := Tryd.sizeOf76
  v37 := Tryd.zeroValue76
  t70 := Tryd.underlying75
  a70 := Tryd.isAgg75
  z70 := Tryd.sizeOf75
  v70 := Tryd.zeroValue75
  t72 := Tryd.underlying78
  a72 := Tryd.isAgg78
  z72 := Tryd.sizeOf78
  v72 := Tryd.zeroValue78
  t127 := Tryd.underlying117
  a127 := Tryd.isAgg117
  z127 := Tryd.sizeOf117
  v127 := Tryd.zeroValue117 }
theorem Tryd.Builder_Extra_169 : Builder.Extra Tryd.prog Tryd.lays169_ren := {
  sizeBuilder := by kernel_rfl
  liesBuilder := by kernel_rfl
  t5 := Tryd.underlying5
  a5 := Tryd.isAgg5
  z5 := Tryd.sizeOf5
  v5 := Tryd.zeroValue5
  infoByte := by kernel_rfl
  cellsByte := by kernel_rfl
  sizeByte := by kernel_rfl
  neB5 := by decide }
open Go.RowKit in
theorem Tryd.Builder_String_any (B b : Nat) (l : List UInt8) (w : World) (h : Lib.IsBuilder 78 5 B b (Lib.byteCells l) w) (hBw : B ≤ w.heap.size) :
    Calls Tryd.prog 34 #[.pointer (some ⟨b, 0, none⟩)] w fun e w' => e = .returned (.string ⟨l.toArray⟩) ∧ Below B w w' := Any.Builder_String_any Tryd.lays169 Tryd.Builder_Extra_169 B b l w h hBw
def Tryd.lays156_ren : Go.Shelf.Ren := ⟨fun | 156 => 57 | 165 => 77 | 166 => 31 | 169 => 34 | 240 => 54 | 241 => 93 | 276 => 74 | 277 => 104 | n => n, fun | 31 => 96 | 9 => 9 | 3 => 3 | 4 => 4 | 0 => 0 | 20 => 20 | 72 => 78 | 76 => 81 | 70 => 75 | 37 => 76 | 75 => 80 | 127 => 117 | 164 => 133 | 5 => 5 | 80 => 86 | n => n, fun | n => n⟩
theorem Tryd.lays156 : Go.Proofs.Lays.n156 Tryd.prog Tryd.lays156_ren := {
  mixed := by kernel_rfl
  f156 := Tryd.func57.trans (congrArg some (by kernel_rfl))
  f165 := Tryd.func77.trans (congrArg some (by kernel_rfl))
  f166 := Tryd.func31.trans (congrArg some (by kernel_rfl))
  f169 := Tryd.func34.trans (congrArg some (by kernel_rfl))
  f240 := Tryd.func54.trans (congrArg some (by kernel_rfl))
  f241 := Tryd.func93.trans (congrArg some (by kernel_rfl))
  f276 := Tryd.func74.trans (congrArg some (by kernel_rfl))
  f277 := Tryd.func104.trans (congrArg some (by kernel_rfl))
  t0 := Tryd.underlying0
  a0 := Tryd.isAgg0
  z0 := Tryd.sizeOf0
  v0 := Tryd.zeroValue0
  t3 := Tryd.underlying3
  a3 := Tryd.isAgg3
  z3 := Tryd.sizeOf3
  v3 := Tryd.zeroValue3
  t4 := Tryd.underlying4
  a4 := Tryd.isAgg4
  z4 := Tryd.sizeOf4
  v4 := Tryd.zeroValue4
  t9 := Tryd.underlying9
  a9 := Tryd.isAgg9
  z9 := Tryd.sizeOf9
  v9 := Tryd.zeroValue9
  t20 := Tryd.underlying20
  a20 := Tryd.isAgg20
  z20 := Tryd.sizeOf20
  v20 := Tryd.zeroValue20
  t31 := Tryd.underlying96
  a31 := Tryd.isAgg96
  z31 := Tryd.sizeOf96
  v31 := Tryd.zeroValue96
  t37 := Tryd.underlying76
  a37 := Tryd.isAgg76
  z37 := Tryd.sizeOf76
  v37 := Tryd.zeroValue76
  t70 := Tryd.underlying75
  a70 := Tryd.isAgg75
  z70 := Tryd.sizeOf75
  v70 := Tryd.zeroValue75
  t72 := Tryd.underlying78
  a72 := Tryd.isAgg78
  z72 := Tryd.sizeOf78
  v72 := Tryd.zeroValue78
  t75 := Tryd.underlying80
  a75 := Tryd.isAgg80
  z75 := Tryd.sizeOf80
  v75 := Tryd.zeroValue80
  t76 := Tryd.underlying81
  a76 := Tryd.isAgg81
  z76 := Tryd.sizeOf81
  v76 := Tryd.zeroValue81
  t127 := Tryd.underlying117
  a127 := Tryd.isAgg117
  z127 := Tryd.sizeOf117
  v127 := Tryd.zeroValue117
  t164 := Tryd.underlying133
  a164 := Tryd.isAgg133
  z164 := Tryd.sizeOf133
  v164 := Tryd.zeroValue133 }
theorem Tryd.Builder_Extra_156 : Builder.Extra Tryd.prog Tryd.lays156_ren := {
  sizeBuilder := by kernel_rfl
  liesBuilder := by kernel_rfl
  t5 := Tryd.underlying5
  a5 := Tryd.isAgg5
  z5 := Tryd.sizeOf5
  v5 := Tryd.zeroValue5
  infoByte := by kernel_rfl
  cellsByte := by kernel_rfl
  sizeByte := by kernel_rfl
  neB5 := by decide }
open Go.RowKit in
theorem Tryd.strings_Join (bk o c : Nat) (xs : List ByteArray) (sep : ByteArray) (w : World) (hcells : ∀ (j : Nat) x, xs[j]? = some x → w.cell? ⟨bk, o + j, none⟩ = some (.string x)) (hbk : bk < w.heap.size) (hN : xs.length ≤ 140737488355328) (hcap : xs.length ≤ c) (hlen : (Lib.join (xs.map (·.data.toList)) sep.data.toList).length ≤ 140737488355328) :
    Calls Tryd.prog 57 #[.slice (some ⟨bk, o, none⟩) xs.length c, .string sep] w fun e w' => e = .returned (.string ⟨(Lib.join (xs.map (·.data.toList)) sep.data.toList).toArray⟩) ∧ Below w.heap.size w w' := Any.strings_Join Tryd.lays156 Tryd.Builder_Extra_156 bk o c xs sep w hcells hbk hN hcap hlen
def Tryd.lays212_ren : Go.Shelf.Ren := ⟨fun | 212 => 64 | 263 => 81 | 264 => 82 | n => n, fun | 46 => 124 | 51 => 141 | 146 => 142 | 53 => 144 | 148 => 145 | n => n, fun | n => n⟩
theorem Tryd.lays212 : Go.Proofs.Lays.n212 Tryd.prog Tryd.lays212_ren := {
  mixed := by kernel_rfl
  f212 := Tryd.func64.trans (congrArg some (by kernel_rfl))
  f263 := Tryd.func81.trans (congrArg some (by kernel_rfl))
  f264 := Tryd.func82.trans (congrArg some (by kernel_rfl))
  t46 := Tryd.underlying124
  a46 := Tryd.isAgg124
  z46 := Tryd.sizeOf124
  v46 := Tryd.zeroValue124
  t51 := Tryd.underlying141
  a51 := Tryd.isAgg141
  z51 := Tryd.sizeOf141
  v51 := Tryd.zeroValue141
  t53 := Tryd.underlying144
  a53 := Tryd.isAgg144
  z53 := Tryd.sizeOf144
  v53 := Tryd.zeroValue144
  t146 := Tryd.underlying142
  a146 := Tryd.isAgg142
  z146 := Tryd.sizeOf142
  v146 := Tryd.zeroValue142
  t148 := Tryd.underlying145
  a148 := Tryd.isAgg145
  z148 := Tryd.sizeOf145
  v148 := Tryd.zeroValue145 }
open Go.RowKit Go.Lib in
theorem Tryd.bits_Mul (x y : Nat) (hx : x < 18446744073709551616) (hy : y < 18446744073709551616) (w : World) :
    Calls Tryd.prog 64 #[.int .u64 x, .int .u64 y] w fun e w' => e = .returned (.tuple #[.int .u64 ((x * y / 18446744073709551616 : Nat) : Int), .int .u64 ((x * y % 18446744073709551616 : Nat) : Int)]) ∧ w' = w := Any.bits_Mul Tryd.lays212 x y hx hy w
end Go.Proofs
namespace Go.Proofs.YthehggmdcmpjeaaDoor
open Go.Lw Go.G14
theorem co64 : CallOf Tryd.prog 64 := CallOf.mk' Tryd.func64 (by kernel_rfl) (by kernel_rfl)
theorem el140 : ElemOf Tryd.prog 140 34 encKq 24 := ElemOf.mk' (z := (.slice none 0 0)) Tryd.underlying140 (by kernel_rfl) rfl
theorem na34 : NotAgg Tryd.prog 34 := fun _ => by kernel_rfl
theorem joinc_ok (v : Value) (ks : List KQ) (w0 : World) (hs : Sl encKq w0 v ks) (hk : KsQ w0 ks) (hN : (ks.flatMap Prod.snd).length ≤ 1000000) : Rets Tryd.prog 62 #[v] w0 fun r w' => Lw.Own encCq 47 w0.heap.size w' r (ks.flatMap Prod.snd) ∧ Fr [] w0 w' := by
 obtain ⟨A, c, rfl, hcc, hM, hA⟩ := id hs
 clear hA
 unfold maxLen at hM
 refine we [(0, .slice A ks.length c)] Tryd.func62 rfl Tryd.ntmps62 rfl (.cons rfl .nil) ?_
 have hs0 := hs
 have hk0 := hk
 refine sr (asg rfl rfl (nn (sr (asg rfl rfl (nn (sq (sr (mv rfl rfl (lnS rfl Tryd.underlying140 rfl (mv rfl rfl (nn ?_)))))))))))
 refine bl ?_
 refine lpK (ι := Nat) [(0, _), (9, _), (10, _)] (fun i => [(11, .int .i64 (i : Int)), (3, .int .i64 (((ks.take i).flatMap Prod.snd).length : Int))]) (fun i w' => Fr [] w0 w' ∧ i ≤ ks.length) (fun i => ks.length - i) 0 (.cons rfl (.cons rfl (.cons rfl (.cons rfl (.cons rfl .nil))))) ⟨Fr.refl _ _, Nat.zero_le _⟩ ?_
 rintro i w1 ⟨q1, hi⟩
 have z1 := q1.size
 refine kpC [(0, _), (9, _), (10, _), (11, _), (3, _)] (.cons rfl (.cons rfl (.cons rfl (.cons rfl (.cons rfl .nil))))) ?_
 refine sr (lt' rfl rfl rfl (nn (sq ?_)))
 refine cd rfl (fun c0 => ?_) (fun c0 => ?_)
 · replace hk := hk0.ext q1
   have hpl := sl_len (hk (ks.getD i kq0) (getD_memS (by omega)))
   have hpM := (hk (ks.getD i kq0) (getD_memS (by omega))).len_le
   unfold maxLen at hpM
   have hfs := flat_succ Prod.snd ks i kq0 (by omega)
   have hfl := congrArg List.length hfs
   rw [List.length_append] at hfl
   have hf1 := flat_le Prod.snd ks (i + 1)
   refine sk (tn (sq (bl (sr ?_))))
   replace hs := hs0.ext q1
   refine s_idxL (kq0) rfl hs rfl el140 (by omega) (by omega) nat_of rfl (fun ad13 hc13 => ?_)
   refine s_loadC0 rfl (hc13 _ hs) na34 rfl (asg rfl rfl (nn (rg (mv rfl rfl (mv rfl rfl (lnS rfl Tryd.underlying34 rfl (s_add rfl rfl (wi6 (by omega)) rfl (asg rfl rfl (nl (bn' (tn ?_)))))))))))
   refine rg (s_add rfl rfl (wi6 (by omega)) rfl (mv rfl rfl (nl ?_)))
   exact lpE (i + 1) (.cons rfl (.cons rfl (.cons rfl (.cons rfl (.cons (congrArg (fun z => some (Value.int .i64 z)) (by omega)) .nil))))) ⟨q1, by omega⟩ (by omega)
 · obtain rfl : i = ks.length := by omega
   rw [List.take_length]
   refine ex (te (te (xh (tn (sr (mv rfl rfl ?_))))))
   refine s_makeSlice (m := 0) (c := (ks.flatMap Prod.snd).length) (cq0) rfl rfl el34 zv47 rfl (Nat.zero_le _) (by omega) (by unfold maxLen; omega) rfl (fun g21 w2 hg21 ho q2 z2 => ?_)
   replace ho := ho.low (b' := w0.heap.size) (by omega)
   refine asg rfl rfl (kpL [(0, _), (6, _)] (.cons rfl (.cons rfl .nil)) (nn (sq (sr (mv rfl rfl (lnS rfl Tryd.underlying140 rfl (mv rfl rfl (nn (bl ?_)))))))))
   refine lpK (ι := Nat × Value) [(22, _), (23, _)] (fun p => [(24, .int .i64 (p.1 : Int)), (6, p.2)]) (fun p w' => Fr [] w0 w' ∧ p.1 ≤ ks.length ∧ Lw.Own encCq 47 w0.heap.size w' p.2 ((ks.take p.1).flatMap Prod.snd)) (fun p => ks.length - p.1) (0, .slice (some ⟨g21, 0, none⟩) 0 (ks.flatMap Prod.snd).length) (.cons rfl (.cons rfl (.cons rfl (.cons rfl .nil)))) ⟨(q1.next q2), ⟨Nat.zero_le _, ho⟩⟩ ?_
   rintro ⟨i, vG⟩ w3 ⟨q3, ⟨hi, ho⟩⟩
   simp only at hi ho
   have z3 := q3.size
   refine kpC [(22, _), (23, _), (24, .int .i64 (i : Int)), (6, vG)] (.cons rfl (.cons rfl (.cons rfl (.cons rfl .nil)))) ?_
   refine sr (lt' rfl rfl rfl (nn (sq ?_)))
   refine cd rfl (fun c1 => ?_) (fun c1 => ?_)
   · replace hk := hk0.ext q3
     have hpl := sl_len (hk (ks.getD i kq0) (getD_memS (by omega)))
     have hpM := (hk (ks.getD i kq0) (getD_memS (by omega))).len_le
     unfold maxLen at hpM
     have hfs := flat_succ Prod.snd ks i kq0 (by omega)
     have hfl := congrArg List.length hfs
     rw [List.length_append] at hfl
     have hf1 := flat_le Prod.snd ks (i + 1)
     refine sk (tn (sq (bl (sr ?_))))
     replace hs := hs0.ext q3
     refine s_idxL (kq0) rfl hs rfl el140 (by omega) (by omega) nat_of rfl (fun ad26 hc26 => ?_)
     refine s_loadC0 rfl (hc26 _ hs) na34 rfl (asg rfl rfl (nn (rg (mv rfl rfl (mv rfl rfl ?_)))))
     have hoo30 := ho
     refine s_append rfl rfl ho (hk (ks.getD i kq0) (getD_memS (by omega))) el34 (by unfold maxLen; omega) (by omega) (by omega) rfl (fun v30 w4 ho q4 hor30 => ?_)
     have z4 := q4.size
     refine asg rfl rfl (nl (bn' (tn (rg (s_add rfl rfl (wi6 (by omega)) rfl (mv rfl rfl (nl ?_)))))))
     exact lpE ((i + 1, v30)) (.cons rfl (.cons rfl (.cons rfl (.cons rfl .nil)))) ⟨(q3.step q4 (fun k hk hlt => absurd (hoo30.blk k hk).1 (by omega))), ⟨by simp only; omega, by rw [hfs]; exact ho⟩⟩ (by simp only; omega)
   · obtain rfl : i = ks.length := by omega
     rw [List.take_length] at ho
     refine ex (te (te (xh (tn (sr (mv rfl rfl (asg rfl rfl (kpL [(2, _)] (.cons rfl .nil) (nn (rt (r1 Tryd.results62 rfl ?_)))))))))))
     exact ⟨_, rfl, ho, q3⟩
theorem joins_ok (v : Value) (ks : List RQ) (w0 : World) (hs : Sl encRq w0 v ks) (hk : RowsQ w0 ks) (hN : (ks.flatMap Prod.snd).length ≤ 1000000) : Rets Tryd.prog 63 #[v] w0 fun r w' => Lw.Own encSt 100 w0.heap.size w' r (ks.flatMap Prod.snd) ∧ Fr [] w0 w' := by
 obtain ⟨A, c, rfl, hcc, hM, hA⟩ := id hs
 clear hA
 unfold maxLen at hM
 refine we [(0, .slice A ks.length c)] Tryd.func63 rfl Tryd.ntmps63 rfl (.cons rfl .nil) ?_
 have hs0 := hs
 have hk0 := hk
 refine sr (asg rfl rfl (nn (sr (asg rfl rfl (nn (sq (sr (mv rfl rfl (lnS rfl Tryd.underlying45 rfl (mv rfl rfl (nn ?_)))))))))))
 refine bl ?_
 refine lpK (ι := Nat) [(0, _), (9, _), (10, _)] (fun i => [(11, .int .i64 (i : Int)), (3, .int .i64 (((ks.take i).flatMap Prod.snd).length : Int))]) (fun i w' => Fr [] w0 w' ∧ i ≤ ks.length) (fun i => ks.length - i) 0 (.cons rfl (.cons rfl (.cons rfl (.cons rfl (.cons rfl .nil))))) ⟨Fr.refl _ _, Nat.zero_le _⟩ ?_
 rintro i w1 ⟨q1, hi⟩
 have z1 := q1.size
 refine kpC [(0, _), (9, _), (10, _), (11, _), (3, _)] (.cons rfl (.cons rfl (.cons rfl (.cons rfl (.cons rfl .nil))))) ?_
 refine sr (lt' rfl rfl rfl (nn (sq ?_)))
 refine cd rfl (fun c0 => ?_) (fun c0 => ?_)
 · replace hk := hk0.ext q1
   have hpl := sl_len (hk (ks.getD i rq0) (getD_memS (by omega)))
   have hpM := (hk (ks.getD i rq0) (getD_memS (by omega))).len_le
   unfold maxLen at hpM
   have hfs := flat_succ Prod.snd ks i rq0 (by omega)
   have hfl := congrArg List.length hfs
   rw [List.length_append] at hfl
   have hf1 := flat_le Prod.snd ks (i + 1)
   refine sk (tn (sq (bl (sr ?_))))
   replace hs := hs0.ext q1
   refine s_idxL (rq0) rfl hs rfl er45 (by omega) (by omega) nat_of rfl (fun ad13 hc13 => ?_)
   refine s_loadC0 rfl (hc13 _ hs) na61 rfl (asg rfl rfl (nn (rg (mv rfl rfl (mv rfl rfl (lnS rfl Tryd.underlying61 rfl (s_add rfl rfl (wi6 (by omega)) rfl (asg rfl rfl (nl (bn' (tn ?_)))))))))))
   refine rg (s_add rfl rfl (wi6 (by omega)) rfl (mv rfl rfl (nl ?_)))
   exact lpE (i + 1) (.cons rfl (.cons rfl (.cons rfl (.cons rfl (.cons (congrArg (fun z => some (Value.int .i64 z)) (by omega)) .nil))))) ⟨q1, by omega⟩ (by omega)
 · obtain rfl : i = ks.length := by omega
   rw [List.take_length]
   refine ex (te (te (xh (tn (sr (mv rfl rfl ?_))))))
   refine s_makeSlice (m := 0) (c := (ks.flatMap Prod.snd).length) (zeroS) rfl rfl el61 zv100 rfl (Nat.zero_le _) (by omega) (by unfold maxLen; omega) rfl (fun g21 w2 hg21 ho q2 z2 => ?_)
   replace ho := ho.low (b' := w0.heap.size) (by omega)
   refine asg rfl rfl (kpL [(0, _), (6, _)] (.cons rfl (.cons rfl .nil)) (nn (sq (sr (mv rfl rfl (lnS rfl Tryd.underlying45 rfl (mv rfl rfl (nn (bl ?_)))))))))
   refine lpK (ι := Nat × Value) [(22, _), (23, _)] (fun p => [(24, .int .i64 (p.1 : Int)), (6, p.2)]) (fun p w' => Fr [] w0 w' ∧ p.1 ≤ ks.length ∧ Lw.Own encSt 100 w0.heap.size w' p.2 ((ks.take p.1).flatMap Prod.snd)) (fun p => ks.length - p.1) (0, .slice (some ⟨g21, 0, none⟩) 0 (ks.flatMap Prod.snd).length) (.cons rfl (.cons rfl (.cons rfl (.cons rfl .nil)))) ⟨(q1.next q2), ⟨Nat.zero_le _, ho⟩⟩ ?_
   rintro ⟨i, vG⟩ w3 ⟨q3, ⟨hi, ho⟩⟩
   simp only at hi ho
   have z3 := q3.size
   refine kpC [(22, _), (23, _), (24, .int .i64 (i : Int)), (6, vG)] (.cons rfl (.cons rfl (.cons rfl (.cons rfl .nil)))) ?_
   refine sr (lt' rfl rfl rfl (nn (sq ?_)))
   refine cd rfl (fun c1 => ?_) (fun c1 => ?_)
   · replace hk := hk0.ext q3
     have hpl := sl_len (hk (ks.getD i rq0) (getD_memS (by omega)))
     have hpM := (hk (ks.getD i rq0) (getD_memS (by omega))).len_le
     unfold maxLen at hpM
     have hfs := flat_succ Prod.snd ks i rq0 (by omega)
     have hfl := congrArg List.length hfs
     rw [List.length_append] at hfl
     have hf1 := flat_le Prod.snd ks (i + 1)
     refine sk (tn (sq (bl (sr ?_))))
     replace hs := hs0.ext q3
     refine s_idxL (rq0) rfl hs rfl er45 (by omega) (by omega) nat_of rfl (fun ad26 hc26 => ?_)
     refine s_loadC0 rfl (hc26 _ hs) na61 rfl (asg rfl rfl (nn (rg (mv rfl rfl (mv rfl rfl ?_)))))
     have hoo30 := ho
     refine s_append rfl rfl ho (hk (ks.getD i rq0) (getD_memS (by omega))) el61 (by unfold maxLen; omega) (by omega) (by omega) rfl (fun v30 w4 ho q4 hor30 => ?_)
     have z4 := q4.size
     refine asg rfl rfl (nl (bn' (tn (rg (s_add rfl rfl (wi6 (by omega)) rfl (mv rfl rfl (nl ?_)))))))
     exact lpE ((i + 1, v30)) (.cons rfl (.cons rfl (.cons rfl (.cons rfl .nil)))) ⟨(q3.step q4 (fun k hk hlt => absurd (hoo30.blk k hk).1 (by omega))), ⟨by simp only; omega, by rw [hfs]; exact ho⟩⟩ (by simp only; omega)
   · obtain rfl : i = ks.length := by omega
     rw [List.take_length] at ho
     refine ex (te (te (xh (tn (sr (mv rfl rfl (asg rfl rfl (kpL [(2, _)] (.cons rfl .nil) (nn (rt (r1 Tryd.results63 rfl ?_)))))))))))
     exact ⟨_, rfl, ho, q3⟩
theorem mul_ok (x y : Nat) (w0 : World) (h : x * y < 18446744073709551616) (hx : x < 18446744073709551616) (hy : y < 18446744073709551616) : Rets Tryd.prog 64 #[.int .u64 (x : Int), .int .u64 (y : Int)] w0 fun r w' => r = .tuple #[.int .u64 0, .int .u64 ((x * y : Nat) : Int)] ∧ w0 = w' := by
  refine Calls.mono (Tryd.bits_Mul x y hx hy w0) ?_
  rintro e w' ⟨rfl, rfl⟩
  exact ⟨_, rfl, by rw [Nat.div_eq_of_lt h, Nat.mod_eq_of_lt h]; rfl, rfl⟩
theorem mul1_ok (n : Nat) (w0 : World) (h : n < 1000000) : Rets Tryd.prog 64 #[.int .u64 1, .int .u64 (n : Int)] w0 fun r w' => r = .tuple #[.int .u64 0, .int .u64 (n : Int)] ∧ w0 = w' := by
  have := mul_ok 1 n w0 (by omega) (by omega) (by omega)
  rwa [Nat.one_mul] at this
set_option maxHeartbeats 1000000 in
theorem repeat_ok (v : Value) (q : CQ) (n : Nat) (w0 : World) (hs : Sl encCq w0 v [q]) (hn : 1 ≤ n ∧ n ≤ 1000) : Rets Tryd.prog 45 #[v, .int .i64 (n : Int)] w0 fun r w' => Lw.Own encCq 47 w0.heap.size w' r (List.replicate n q) ∧ Fr [] w0 w' := by
 obtain ⟨A, c, rfl, hcc, hM, hA⟩ := id hs
 clear hA
 obtain ⟨hn1, hn2⟩ := hn
 refine we [(0, .slice A 1 c), (1, .int .i64 (n : Int))] Tryd.func45 rfl Tryd.ntmps45 rfl (.cons rfl (.cons rfl .nil)) ?_
 have hs0 := hs
 refine sr (asg rfl rfl (nn (sq (sr (mv rfl rfl (lt' rfl rfl rfl (nn ?_)))))))
 refine cd rfl (fun c0 => ?_) (fun c0 => ?_)
 · exact absurd c0 (by omega)
 · refine sk (tn (sr (mv rfl rfl (lnS rfl Tryd.underlying34 rfl (s_conv rfl (us Tryd.underlying3) Tryd.underlying124 (IntWalk.u64_in _ (by omega)) rfl (mv rfl rfl (s_conv rfl (us Tryd.underlying3) Tryd.underlying124 (IntWalk.u64_in _ (by omega)) rfl ?_)))))))
   refine cl (ev2 rfl rfl) co64 (mul1_ok n _ (by omega)) rfl ?_
   rintro _ _ ⟨rfl, rfl⟩
   refine mv rfl rfl (xt rfl rfl rfl (xt rfl rfl rfl (asg rfl rfl (asg rfl rfl (kpL [(0, _), (5, _), (6, _)] (.cons rfl (.cons rfl (.cons rfl .nil))) (nn (sq (sq ?_))))))))
   refine rbo (r := 26) (L' := [(0, _), (6, _)]) (((0 < 0) ∨ (9223372036854775807 < (n : Int)))) (.cons rfl (.cons rfl .nil)) ?_ ?_
   · refine mv rfl rfl (gt' rfl rfl rfl (mv rfl rfl ?_))
     refine gs 23 rfl (fun g0 => ?_) (fun g0 => ?_)
     · exact gN rfl rfl rfl (gN rfl rfl rfl (pkt rfl rfl rfl rfl (rbe rfl (by first | exact bt (by omega) | exact bf (by omega) | exact bi (by omega) | exact bn (by omega) | (simp_all; done) | (simp_all; omega)) (.cons rfl (.cons rfl .nil)))))
     · exact gY rfl (mv rfl rfl (gY rfl (gt' rfl rfl rfl (pkf rfl rfl rfl rfl (rbe rfl (by first | exact bt (by omega) | exact bf (by omega) | exact bi (by omega) | exact bn (by omega) | (simp_all; done) | (simp_all; omega)) (.cons rfl (.cons rfl .nil)))))))
   · refine tn ?_
     refine cd rfl (fun c1 => ?_) (fun c1 => ?_)
     · exact absurd c1 (by omega)
     · refine sk (tn (sr (mv rfl rfl (s_conv rfl (us Tryd.underlying124) Tryd.underlying3 (wi6 (by omega)) rfl ?_))))
       refine s_makeSlice (m := n) (c := n) (cq0) rfl rfl el34 zv47 rfl (Nat.le_refl _) (by omega) (by unfold maxLen; omega) rfl (fun g30 w1 hg30 ho q1 z1 => ?_)
       refine asg rfl rfl (nn (sr (mv rfl rfl (mv rfl rfl ?_))))
       replace hs := hs0.ext q1
       refine s_copyP (p := 0) (k := 1) (m := n) (cap := n) (by rw [Nat.zero_mul, lit_add]; rfl) rfl ho hs (Nat.zero_le _) (by simp; omega) el34 rfl (fun w2 ho q2 z2 => ?_)
       replace ho : Lw.Own encCq 47 g30 w2 (.slice (some ⟨g30, 0, none⟩) n n) (List.replicate 1 q ++ List.replicate (n - 1) cq0) := by simpa using ho
       refine asg rfl rfl (nn (sq (bl ?_)))
       refine lpK (ι := Nat) [(7, _)] (fun m => [(8, .int .i64 (m : Int))]) (fun m w' => Fr [g30] w2 w' ∧ (1 ≤ m ∧ m ≤ n) ∧ Lw.Own encCq 47 g30 w' (.slice (some ⟨g30, 0, none⟩) n n) (List.replicate m q ++ List.replicate (n - m) cq0)) (fun m => n - m) 1 (.cons rfl (.cons rfl .nil)) ⟨Fr.refl _ _, ⟨⟨by omega, by omega⟩, ho⟩⟩ ?_
       rintro m w3 ⟨q3, ⟨hm, ho⟩⟩
       have z3 := q3.size
       refine kpC [(7, _), (8, _)] (.cons rfl (.cons rfl .nil)) ?_
       refine sq (sr (mv rfl rfl (mv rfl rfl (lnS rfl Tryd.underlying34 rfl (lt' rfl rfl rfl (nn ?_))))))
       refine cd rfl (fun c2 => ?_) (fun c2 => ?_)
       · refine sk (tn (bl ?_))
         intro a h
         have qh9 := Fr.refl [g30] w3
         refine region_held (fun wb w' => Fr [g30] wb w') hmix ?_; intro w4 hq
         have z4 := hq.size
         replace ho := ho.ext hq
         replace qh9 := qh9.next hq
         have hsz := hq.size; clear hq; have hC : Fr [g30] w4 w4 := Fr.refl _ _
         have ho_b := ho
         refine hd_move 0 (by kernel_rfl) (by kernel_rfl) (by kernel_rfl) hC h wn rfl rfl rfl ?_; clear h a; intro a h
         refine hd_move 1 (by kernel_rfl) (by kernel_rfl) (by kernel_rfl) hC h wn rfl rfl rfl ?_; clear h a; intro a h
         refine hd_move 2 (by kernel_rfl) (by kernel_rfl) (by kernel_rfl) hC h wn rfl rfl rfl ?_; clear h a; intro a h
         refine hd_sl_l 3 (by kernel_rfl) (by kernel_rfl) (by kernel_rfl) hC h wn rfl rfl el34 (by omega) (by omega) rfl rfl rfl ?_; clear h a; intro a h
         refine hd_move 4 (by kernel_rfl) (by kernel_rfl) (by kernel_rfl) hC h wn rfl rfl rfl ?_; clear h a; intro a h
         refine hd_move 5 (by kernel_rfl) (by kernel_rfl) (by kernel_rfl) hC h wn rfl rfl rfl ?_; clear h a; intro a h
         refine hd_sl_h 6 (by kernel_rfl) (by kernel_rfl) (by kernel_rfl) hC h wn rfl rfl el34 (by omega) (by omega) rfl rfl rfl ?_; clear h a; intro a h
         refine hd_one 7 (by kernel_rfl) rfl ?_
         refine st_copyP (p := m) (k := min (n - m) m) (m := n) (cap := n) h (by show some (Value.slice (if n = m then _ else _) _ _) = _; rw [if_neg (by omega)]; rfl) rfl ho (by have := ho.sl.take rfl (m := m) (by simp) (B := some ⟨g30, 0, none⟩) (c' := n) (by omega) (by unfold maxLen; omega) (fun _ => rfl); rwa [List.take_append_of_le_length (by simp), List.take_of_length_le (by simp)] at this) (by omega) (by simp) el34 rfl ?_; clear h a; intro w5 ho2 hq hz a h
         rw [rep_copy q cq0 rfl (by omega)] at ho2
         have z5 := hq.size
         replace qh9 := qh9.step hq (by first | (simp; done) | (simp; omega))
         replace hC := hC.step hq (by first | (simp; done) | (simp; omega))
         clear hq hz ho; have ho := ho2; clear ho2
         refine hd_next hC ?_
         refine hd_add 8 (by kernel_rfl) (by kernel_rfl) (by kernel_rfl) hC h wn rfl rfl (by first | exact IntWalk.i64_in _ (by omega) | rfl) rfl rfl ?_; clear h a; intro a h
         refine hd_one 9 (by kernel_rfl) rfl ?_
         refine st_assign h rfl rfl ?_; clear h a; intro a h
         refine hd_next hC ?_
         refine hd_end (by kernel_rfl) ?_
         clear hC ho_b
         have z5 := qh9.size
         refine bk (h.sub (L' := [(7, _), (8, _)]) (.cons rfl (.cons rfl .nil))) ?_; clear h a
         refine bn' ?_
         exact lpE (m + min (n - m) m) (.cons rfl (.cons (congrArg (fun z => some (Value.int .i64 z)) (by omega)) .nil)) ⟨(((Fr.refl [g30] _).step q3 (by first | (simp; done) | (simp; omega))).step qh9 (by first | (simp; done) | (simp; omega))), ⟨by omega, ho⟩⟩ (by omega)
       · obtain rfl : n = m := by omega
         rw [Nat.sub_self, List.replicate_zero, List.append_nil] at ho
         refine ex (te (te (xh (tn (sr (mv rfl rfl (asg rfl rfl (nn (rt (r1 Tryd.results45 rfl ?_))))))))))
         exact ⟨_, rfl, ho.low (by omega), ((q1.step q2 (by first | (simp; done) | (simp; omega))).step q3 (by first | (simp; done) | (simp; omega)))⟩
theorem edge_ok (q : CQ) (w0 : World) (hl : q.1.2.1 = q.2.length) : Rets Tryd.prog 60 #[.agg #[.slice q.1.1 q.1.2.1 q.1.2.2]] w0 fun r w' => ∃ A c, r = .slice A (edgeL q).length c ∧ Lw.Own encCq 47 w0.heap.size w' (.slice A (edgeL q).length c) (edgeL q) ∧ Fr [] w0 w' := by
 refine we [(0, .agg #[.slice q.1.1 q.1.2.1 q.1.2.2])] Tryd.func60 rfl Tryd.ntmps60 rfl (.cons rfl .nil) ?_
 refine sr (bx rfl rfl rfl (fun g1 w1 hg1 hb1 q1 z1 => ?_))
 refine asg rfl rfl (nn (sq (sr (fad rfl fa47_0 rfl (s_loadB rfl hb1 rfl na45 rfl (lnS rfl Tryd.underlying45 rfl (eq' rfl rfl rfl (nn ?_))))))))
 refine cd rfl (fun c0 => ?_) (fun c0 => ?_)
 · refine sr (asg rfl rfl (nn (rt (tr (r1 Tryd.results60 rfl ?_)))))
   exact ⟨_, rfl, none, 0, by rw [edgeL, if_pos (by omega)]; rfl, by rw [edgeL, if_pos (by omega)]; exact Own.nil _, q1⟩
 · refine sk (tn (sr (s_loadBA rfl hb1 ag47 rfl (s_bslice ([q]) (ev1 rfl) rfl rfl rfl el34 (Nat.le_of_ble_eq_true rfl) rfl (fun g8 w2 hg8 ho8 q2 z2 => ?_)))))
   refine asg rfl rfl (nn (rt (r1 Tryd.results60 rfl ?_)))
   have he : edgeL q = [q] := by rw [edgeL, if_neg (by omega)]
   exact ⟨_, rfl, _, _, by rw [he], by rw [he]; exact ho8.low (by omega), (q1.next q2)⟩
end Go.Proofs.YthehggmdcmpjeaaDoor
namespace Go.Lw
open Go.RowKit
section
variable {P : Program} {n N : Nat} {r : Option Nat} {L : List (Nat × Value)} {ds : List Nat} {w w' : World} {Q : Exit → Act → World → Prop} {ops : Array Oper} {rest : List Oper} {a : Act} {x y c : Code} {id : Nat}
theorem inl (h : EW Q .normal n ds w L) : WL P ops (NormEnd (Q .normal)) [] n ds w L := fun a ha => nm_end (h a ha)
end
end Go.Lw
namespace Go.Lw
open Go.RowKit
section
variable {P : Program} {n N : Nat} {ro : Option Nat} {L : List (Nat × Value)} {ds : List Nat} {w w' : World} {Q : Exit → Act → World → Prop} {ops : Array Oper} {rest : List Oper} {a : Act} {x y c : Code} {id : Nat}
section
variable {R : Ending → World → Prop} {fn : Func} {t u : Nat} {v z : Value}
end
/-- The block D holds no deferred call. -/
def DefAt (D : Nat) (w : World) : Prop := w.heap[D]? = some (.deferred (some []))
theorem DefAt.ext {D : Nat} (h : DefAt D w) (hf : Fr [] w w') : DefAt D w' := (hf.block D (Array.getElem?_eq_some_iff.1 h).1 (by simp)).trans h
theorem DefAt.fr {D : Nat} {S : List Nat} (h : DefAt D w) (hf : Fr S w w') (hS : D ∉ S) : DefAt D w' := (hf.block D (Array.getElem?_eq_some_iff.1 h).1 hS).trans h
theorem DefAt.lt {D : Nat} (h : DefAt D w) : D < w.heap.size := (Array.getElem?_eq_some_iff.1 h).1
/-- What the loop's body says of the list of rounds, where the iterator lets it stand. -/
def JAt {β : Type} (J : β → World → Prop) (B : Nat) (s : β) (w : World) : Prop := J s w ∧ AbidesFrom B J
theorem JAt.ext {β : Type} {J : β → World → Prop} {B : Nat} {s : β} (h : JAt J B s w) (hf : Fr [] w w') : JAt J B s w' :=
  ⟨h.2 s w w' none h.1 ⟨hf.os, hf.tape, hf.output, hf.size, fun k hk _ => hf.block k hk (by simp)⟩ (fun r e => by cases e), h.2⟩
theorem Keep.ext {B : List Nat} (hf : Fr [] w w') (hB : ∀ b ∈ B, b < w.heap.size) : Keep B w w' := fun b hb => hf.block b (hB b hb) (by simp)
theorem Keep.fr {B S : List Nat} (hf : Fr S w w') (hB : ∀ b ∈ B, b < w.heap.size) (hS : ∀ b ∈ B, b ∉ S) : Keep B w w' := fun b hb => hf.block b (hB b hb) (hS b hb)
/-- What a round keeps: the blocks of B, and all blocks that hold values of the types Ts. -/
def KeepT (Ts B : List Nat) (W W' : World) : Prop := Keep B W W' ∧ ∀ (b : Nat) (cs : Array Value) (T : TypeId) (f : Nat × Nat), T ∈ Ts → W.heap[b]? = some (.cells cs T f) → W'.heap[b]? = some (.cells cs T f)
theorem KeepT.trans {Ts B : List Nat} {w'' : World} (h : KeepT Ts B w w') (k : KeepT Ts B w' w'') : KeepT Ts B w w'' := ⟨fun b hb => (k.1 b hb).trans (h.1 b hb), fun b cs T f hT hc => k.2 b cs T f hT (h.2 b cs T f hT hc)⟩
theorem KeepT.ext {Ts B : List Nat} (hf : Fr [] w w') (hB : ∀ b ∈ B, b < w.heap.size) : KeepT Ts B w w' := ⟨Keep.ext hf hB, fun b cs T f _ hc => (hf.block b (Array.getElem?_eq_some_iff.1 hc).1 (by simp)).trans hc⟩
theorem KeepT.fr {Ts B S : List Nat} (hf : Fr S w w') (hB : ∀ b ∈ B, b < w.heap.size) (hd : ∀ b ∈ B, b ∉ S) (hS : ∀ k ∈ S, k < w.heap.size → ∃ cs T f, w.heap[k]? = some (.cells cs T f) ∧ T ∉ Ts) : KeepT Ts B w w' :=
  ⟨Keep.fr hf hB hd, fun b cs T f hT hc => (hf.block b (Array.getElem?_eq_some_iff.1 hc).1 (fun e => by
    obtain ⟨cs', T', f', h1, h2⟩ := hS b e (Array.getElem?_eq_some_iff.1 hc).1
    rw [hc] at h1; cases h1; exact h2 hT)).trans hc⟩
theorem KeepT.put {Ts B : List Nat} {l : Nat} {o o' : Obj} (hl : w.heap[l]? = some o) (ho : o.isCells = false) (hB : ∀ b ∈ B, b ≠ l) : KeepT Ts B w (w.putObj l o') :=
  ⟨fun b hb => World.putObj_heap_other (hB b hb), fun b cs T f _ hc => (World.putObj_heap_other (by rintro rfl; rw [hl] at hc; cases hc; cases ho)).trans hc⟩
end
end Go.Lw
namespace Go.Lw
open Go.RowKit
section
variable {P : Program} {n N : Nat} {L : List (Nat × Value)} {ds : List Nat} {w w' : World} {Q : Exit → Act → World → Prop}
/-- A block of another type is none of a slice's. -/
theorem Own.neB {α : Type} {E : Enc α} {T T' base g : Nat} {v : Value} {ys : List α} {cs : List Value} (h : Own E T base w v ys) (hb : Blk w g T' cs) (hT : T ≠ T') : g ∉ blks v := by
  rcases h with ⟨rfl, rfl⟩ | ⟨g', cap, cur, rfl, _, hg, _⟩
  · intro e; cases e
  · intro e
    simp [blks] at e; subst e
    rw [show w.heap[g]? = _ from hb] at hg
    cases hg; exact hT rfl
end
end Go.Lw
namespace Go.Proofs.YthehggmdcmpjeaaDoor
open Go.Lw Go.G14
theorem bo47 : BuildAt Tryd.prog 47 [(0, 1)] [(.slice none 0 0)] := BuildAt.struct Tryd.underlying47 (fun _ => by kernel_rfl) (fun _ => by kernel_rfl)
theorem co43 : CallOf Tryd.prog 43 := CallOf.mk' Tryd.func43 (by kernel_rfl) (by kernel_rfl)
theorem co44 : CallOf Tryd.prog 44 := CallOf.mk' Tryd.func44 (by kernel_rfl) (by kernel_rfl)
theorem co45 : CallOf Tryd.prog 45 := CallOf.mk' Tryd.func45 (by kernel_rfl) (by kernel_rfl)
theorem co46 : CallOf Tryd.prog 46 := CallOf.mk' Tryd.func46 (by kernel_rfl) (by kernel_rfl)
theorem co60 : CallOf Tryd.prog 60 := CallOf.mk' Tryd.func60 (by kernel_rfl) (by kernel_rfl)
theorem co61 : CallOf Tryd.prog 61 := CallOf.mk' Tryd.func61 (by kernel_rfl) (by kernel_rfl)
theorem co62 : CallOf Tryd.prog 62 := CallOf.mk' Tryd.func62 (by kernel_rfl) (by kernel_rfl)
theorem co63 : CallOf Tryd.prog 63 := CallOf.mk' Tryd.func63 (by kernel_rfl) (by kernel_rfl)
theorem sz61 : SizeOf Tryd.prog 61 1 := fun _ => by kernel_rfl
theorem zv61 (w : World) : (zeroValue 61).run Tryd.prog w = .ok (.slice none 0 0) w := by kernel_rfl
set_option maxHeartbeats 2000000 in
theorem beside_ok (v : Value) (qs : List CQ) (h : Nat) (w0 : World) (hs : Sl encCq w0 v qs) (hq : ChsQ w0 qs) (hne : 1 ≤ qs.length) (hn : qs.length ≤ 18) (hh : ∀ i, i < qs.length → (qs.getD i cq0).2.length = h) (h31 : h ≤ 31) (hw : ∀ q ∈ qs, ∀ x ∈ q.2, x.length ≤ 16) : Rets Tryd.prog 61 #[v] w0 fun r w' => ∃ X, r = .tuple #[.agg #[X], .int .i64 (besE qs h)] ∧ OwR 61 100 w0.heap.size w' X (if besE qs h = 0 then besS qs h else []) ∧ Fr [] w0 w' := by
 obtain ⟨A, c, rfl, hcc, hM, hA⟩ := id hs
 clear hA
 unfold maxLen at hM
 have h00 := (hq.at (i := 0) (by omega)).2
 rw [hh 0 (by omega)] at h00
 refine we [(0, .slice A qs.length c)] Tryd.func61 rfl Tryd.ntmps61 rfl (.cons rfl .nil) ?_
 have hs0 := hs
 have hq0 := hq
 refine sr (al zv47 rfl rfl (fun g2 w1 hg2 hb2 q1 z1 => ?_))
 refine asg rfl rfl (nn (sq (sr (mv rfl rfl (lnS rfl Tryd.underlying34 rfl (eq' rfl rfl rfl (nn ?_)))))))
 refine cd rfl (fun c0 => ?_) (fun c0 => ?_)
 · exact absurd c0 (by omega)
 · refine sk (tn (sr (mv rfl rfl ?_)))
   replace hs := hs0.ext q1
   refine s_idxL (p := 0) (cq0) rfl hs rfl el34 (by omega) (by omega) rfl rfl (fun ad18 hc18 => ?_)
   refine fad rfl fa47_0 rfl (s_loadC rfl (hc18 _ hs) rfl na45 rfl (lnS rfl Tryd.underlying45 rfl (asg rfl rfl ?_)))
   rw [h00]
   refine kpL [(0, _), (2, _), (4, _)] (.cons rfl (.cons rfl (.cons rfl .nil))) (nn (sq (sr (mv rfl rfl (lnS rfl Tryd.underlying34 rfl (mv rfl rfl (nn (bl ?_))))))))
   refine lpK (ι := Nat) [(0, _), (2, _), (4, _), (22, _), (23, _)] (fun i => [(24, .int .i64 (i : Int))]) (fun i w' => Fr [] w1 w' ∧ i ≤ qs.length) (fun i => qs.length - i) 0 (.cons rfl (.cons rfl (.cons rfl (.cons rfl (.cons rfl (.cons rfl .nil)))))) ⟨Fr.refl _ _, Nat.zero_le _⟩ ?_
   rintro i w2 ⟨q2, hi⟩
   have z2 := q2.size
   refine kpC [(0, _), (2, _), (4, _), (22, _), (23, _), (24, _)] (.cons rfl (.cons rfl (.cons rfl (.cons rfl (.cons rfl (.cons rfl .nil)))))) ?_
   refine sr (lt' rfl rfl rfl (nn (sq ?_)))
   refine cd rfl (fun c1 => ?_) (fun c1 => ?_)
   · replace hq := hq0.ext (q1.next q2)
     have hee := (hq.at (i := i) (by omega)).2
     have hhi := hh i (by omega)
     refine sk (tn (sq (bl (sr ?_))))
     replace hs := hs0.ext (q1.next q2)
     refine s_idxL (cq0) rfl hs rfl el34 (by omega) (by omega) nat_of rfl (fun ad26 hc26 => ?_)
     refine s_loadA rfl (hc26 _ hs) ag47 rfl (al zv47 rfl rfl (fun g6 w3 hg6 hb6 q3 z3 => ?_))
     refine s_storeBA rfl rfl hb6 rfl (by first | (simp [Value.oneCell', S]; done) | exact Enc.one _ _) sz47 (fun w4 hb6 q4 z4 => ?_)
     refine nn (sr (fad rfl fa47_0 rfl (s_loadB rfl hb6 rfl na45 rfl (lnS rfl Tryd.underlying45 rfl (mv rfl rfl (ne' rfl rfl rfl (nn ?_)))))))
     refine cd rfl (fun c2 => ?_) (fun c2 => ?_)
     · exact absurd c2 (by omega)
     · refine sk (bn' (tn (rg (s_add rfl rfl (wi6 (by omega)) rfl (mv rfl rfl (nl ?_))))))
       exact lpE (i + 1) (.cons rfl (.cons rfl (.cons rfl (.cons rfl (.cons rfl (.cons rfl .nil)))))) ⟨((q2.next q3).step q4 (by first | (simp; done) | (simp; omega))), by omega⟩ (by omega)
   · obtain rfl : i = qs.length := by omega
     refine ex (te (te (xh (tn (sq (sq ?_))))))
     refine rbo (r := 41) (L' := [(0, _), (2, _), (4, _)]) (((64 < (qs.length : Int)) ∨ (31 < (h : Int)))) (.cons rfl (.cons rfl (.cons rfl .nil))) ?_ ?_
     · refine mv rfl rfl (lnS rfl Tryd.underlying34 rfl (gt' rfl rfl rfl (mv rfl rfl ?_)))
       refine gs 38 rfl (fun g0 => ?_) (fun g0 => ?_)
       · exact gN rfl rfl rfl (gN rfl rfl rfl (pkt rfl rfl rfl rfl (rbe rfl (by first | exact bt (by omega) | exact bf (by omega) | exact bi (by omega) | exact bn (by omega) | (simp_all; done) | (simp_all; omega)) (.cons rfl (.cons rfl (.cons rfl .nil))))))
       · exact gY rfl (mv rfl rfl (gY rfl (gt' rfl rfl rfl (pkf rfl rfl rfl rfl (rbe rfl (by first | exact bt (by omega) | exact bf (by omega) | exact bi (by omega) | exact bn (by omega) | (simp_all; done) | (simp_all; omega)) (.cons rfl (.cons rfl (.cons rfl .nil))))))))
     · refine tn ?_
       refine cd rfl (fun c3 => ?_) (fun c3 => ?_)
       · exact absurd c3 (by omega)
       · refine sk (tn (sr (mv rfl rfl ?_)))
         refine s_makeSlice (m := h) (c := h) (rq0) rfl rfl er45 zv61 rfl (Nat.le_refl _) (by omega) (by unfold maxLen; omega) rfl (fun g44 w5 hg44 hoR q5 z5 => ?_)
         refine asg rfl rfl (nn (sq (sr (mv rfl rfl (lnS rfl Tryd.underlying45 rfl (mv rfl rfl (nn (bl ?_))))))))
         refine lpK (ι := Nat × List RQ) [(0, _), (2, _), (7, _), (46, _)] (fun p => [(47, .int .i64 (p.1 : Int))]) (fun p w' => Fr [g44] w5 w' ∧ (p.1 ≤ h ∧ p.2.length = p.1) ∧ p.2.map Prod.snd = (List.range p.1).map (besR qs) ∧ (∀ k, k < p.1 → ¬ 16 < (besR qs k).length) ∧ Lw.Own encRq 61 g44 w' (.slice (some ⟨g44, 0, none⟩) h h) (p.2 ++ List.replicate (h - p.1) rq0) ∧ RwO 100 (g44 + 1) w' p.2) (fun p => h - p.1) (0, []) (.cons rfl (.cons rfl (.cons rfl (.cons rfl (.cons rfl .nil))))) ⟨Fr.refl _ _, ⟨⟨Nat.zero_le _, rfl⟩, rfl, fun k hk => absurd hk (Nat.not_lt_zero k), hoR, RwO.nil⟩⟩ ?_
         rintro ⟨i, rw_⟩ w6 ⟨q6, ⟨⟨hi, hrwl⟩, hrwm, hrw16, hoR, hwr⟩⟩
         simp only at hi hrwl hrwm hrw16 hoR hwr
         have z6 := q6.size
         have hwr0 := hwr
         refine kpC [(0, _), (2, _), (7, _), (46, _), (47, .int .i64 (i : Int))] (.cons rfl (.cons rfl (.cons rfl (.cons rfl (.cons rfl .nil))))) ?_
         refine sr (lt' rfl rfl rfl (nn (sq ?_)))
         refine cd rfl (fun c4 => ?_) (fun c4 => ?_)
         · refine sk (tn (sq (bl (sr (mv rfl rfl (asg rfl rfl (nn (sr (mv rfl rfl (lnS rfl Tryd.underlying34 rfl ?_))))))))))
           refine s_makeSlice (m := qs.length) (c := qs.length) (rq0) rfl rfl er45 zv61 rfl (Nat.le_refl _) (by omega) (by unfold maxLen; omega) rfl (fun g52 w7 hg52 hoP q7 z7 => ?_)
           refine asg rfl rfl (nn (sr (asg rfl rfl (nn (sq (sr (mv rfl rfl (lnS rfl Tryd.underlying34 rfl (mv rfl rfl (nn (bl ?_)))))))))))
           replace hq := hq0.ext ((((q1.next q2).next q5).step q6 (by first | (simp; done) | (simp; omega))).next q7)
           refine lpK (ι := Nat × List RQ) [(0, _), (2, _), (7, _), (8, _), (9, _), (46, _), (47, _), (53, _), (54, _)] (fun p => [(10, .int .i64 (((p.2.flatMap Prod.snd).length : Nat) : Int)), (55, .int .i64 (p.1 : Int))]) (fun p w' => Fr [g52] w7 w' ∧ (p.1 ≤ qs.length ∧ p.2.length = p.1) ∧ p.2.map Prod.snd = (qs.take p.1).map (fun q => q.2.getD i []) ∧ RowsQ w0 p.2 ∧ Lw.Own encRq 61 g52 w' (.slice (some ⟨g52, 0, none⟩) qs.length qs.length) (p.2 ++ List.replicate (qs.length - p.1) rq0)) (fun p => qs.length - p.1) (0, []) (.cons rfl (.cons rfl (.cons rfl (.cons rfl (.cons rfl (.cons rfl (.cons rfl (.cons rfl (.cons rfl (.cons rfl (.cons rfl .nil))))))))))) ⟨Fr.refl _ _, ⟨⟨Nat.zero_le _, rfl⟩, rfl, fun q hq => by (cases hq), hoP⟩⟩ ?_
           rintro ⟨j, ps⟩ w8 ⟨q8, ⟨⟨hj, hpsl⟩, hpm, hpq, hoP⟩⟩
           simp only at hj hpsl hpm hpq hoP
           have z8 := q8.size
           have hpq0 := hpq
           refine kpC [(0, _), (2, _), (7, _), (8, _), (9, _), (46, _), (47, _), (53, _), (54, _), (10, .int .i64 (((ps.flatMap Prod.snd).length : Nat) : Int)), (55, .int .i64 (j : Int))] (.cons rfl (.cons rfl (.cons rfl (.cons rfl (.cons rfl (.cons rfl (.cons rfl (.cons rfl (.cons rfl (.cons rfl (.cons rfl .nil))))))))))) ?_
           have hpl3 := part_le (i := i) (j := j) hw
           rw [← flat_snd hpm] at hpl3
           refine sr (lt' rfl rfl rfl (nn (sq ?_)))
           refine cd rfl (fun c5 => ?_) (fun c5 => ?_)
           · obtain ⟨hqS, hqL⟩ := hq0.at (i := j) (by omega)
             obtain ⟨rs, hrs, hqr, hrm⟩ := Sll.opn hqS
             have hrl := sl_len hrs
             have hrc : rs.length = (qs.getD j cq0).2.length := by rw [← hrm, List.length_map]
             have hrM := hrs.len_le
             unfold maxLen at hrM
             have hgi := map_getD Prod.snd rs i rq0 []
             rw [hrm] at hgi
             have hrs0 := hrs
             have hqr0 := hqr
             have hhj := hh j (by omega)
             have hjl := sl_len (hqr (rs.getD i rq0) (getD_memS (by omega)))
             have hr16 := hw _ (getD_memS (d := cq0) (show j < qs.length by omega)) _ (by rw [← hrm]; exact mem_snd (d := rq0) (show i < rs.length by omega))
             skip
             refine sk (tn (sq (bl (sr (mv rfl rfl ?_)))))
             replace hs := hs0.ext (((((q1.next q2).next q5).step q6 (by first | (simp; done) | (simp; omega))).next q7).step q8 (by first | (simp; done) | (simp; omega)))
             refine s_idxL (cq0) rfl hs rfl el34 (by omega) (by omega) nat_of rfl (fun ad58 hc58 => ?_)
             refine s_loadA rfl (hc58 _ hs) ag47 rfl (al zv47 rfl rfl (fun g12 w9 hg12 hb12 q9 z9 => ?_))
             refine asg rfl rfl (s_storeBA rfl rfl hb12 rfl (by first | (simp [Value.oneCell', S]; done) | exact Enc.one _ _) sz47 (fun w10 hb12 q10 z10 => ?_))
             refine nn (sr (mv rfl rfl (mv rfl rfl (fad rfl fa47_0 rfl (s_loadB rfl hb12 rfl na45 rfl (mv rfl rfl ?_))))))
             replace hrs := hrs0.ext (((((((q1.next q2).next q5).step q6 (by first | (simp; done) | (simp; omega))).next q7).step q8 (by first | (simp; done) | (simp; omega))).next q9).step q10 (by first | (simp; done) | (simp; omega)))
             refine s_idxL (rq0) rfl hrs rfl er45 (by omega) (by omega) nat_of rfl (fun ad65 hc65 => ?_)
             refine s_loadC0 rfl (hc65 _ hrs) na61 rfl ?_
             replace hoP := (hoP.ext q9).fr q10 (by first | (simp; done) | (simp; omega) | (simp [blks]; done) | (simp [blks]; omega) | (intro k hk hb; simp at hk; subst hk; have := hoP.blk _ hb; omega))
             refine s_ixs (p := j) (rs.getD i rq0) rfl hoP rfl rfl (by intro e; cases e) er45 sz61 rfl (by omega) (by first | omega | (simp only [List.length_append, List.length_replicate, List.length_cons, List.length_nil]; omega)) (by omega) rfl rfl (fun w11 hoP q11 z11 => ?_)
             replace q11 : Fr [g52] _ _ := q11
             rw [show qs.length - j = (qs.length - (j + 1)) + 1 by omega, ← hpsl, set_at, hpsl] at hoP
             refine kpL [(0, _), (2, _), (7, _), (8, _), (9, _), (10, _), (12, _), (46, _), (47, _), (53, _), (54, _), (55, _)] (.cons rfl (.cons rfl (.cons rfl (.cons rfl (.cons rfl (.cons rfl (.cons rfl (.cons rfl (.cons rfl (.cons rfl (.cons rfl (.cons rfl .nil)))))))))))) (nn (rg (mv rfl rfl (fad rfl fa47_0 rfl ?_))))
             replace hb12 := hb12.fr q11 (by first | (simp; done) | (simp; omega) | (simp [blks]; done) | (simp [blks]; omega))
             refine s_loadB rfl hb12 rfl na45 rfl (mv rfl rfl ?_)
             replace hrs := hrs0.ext ((((((((q1.next q2).next q5).step q6 (by first | (simp; done) | (simp; omega))).next q7).step q8 (by first | (simp; done) | (simp; omega))).next q9).step q10 (by first | (simp; done) | (simp; omega))).step q11 (by first | (simp; done) | (simp; omega)))
             refine s_idxL (rq0) rfl hrs rfl er45 (by omega) (by omega) nat_of rfl (fun ad72 hc72 => ?_)
             refine s_loadC0 rfl (hc72 _ hrs) na61 rfl (lnS rfl Tryd.underlying61 rfl (s_add rfl rfl (wi6 (by omega)) rfl (asg rfl rfl (kpL [(0, _), (2, _), (7, _), (8, _), (9, _), (10, _), (46, _), (47, _), (53, _), (54, _), (55, _)] (.cons rfl (.cons rfl (.cons rfl (.cons rfl (.cons rfl (.cons rfl (.cons rfl (.cons rfl (.cons rfl (.cons rfl (.cons rfl .nil))))))))))) (nl (bn' (tn (rg (s_add rfl rfl (wi6 (by omega)) rfl (mv rfl rfl (nl ?_)))))))))))
             exact lpE ((j + 1, ps ++ [rs.getD i rq0])) (.cons rfl (.cons rfl (.cons rfl (.cons rfl (.cons rfl (.cons rfl (.cons rfl (.cons rfl (.cons rfl (.cons (congrArg (fun z => some (Value.int .i64 z)) (by simp only [List.flatMap_append, List.length_append, List.flatMap_cons, List.flatMap_nil, List.append_nil]; omega)) (.cons rfl .nil))))))))))) ⟨(((((Fr.refl [g52] _).step q8 (by first | (simp; done) | (simp; omega))).next q9).step q10 (by first | (simp; done) | (simp; omega))).step q11 (by first | (simp; done) | (simp; omega))), ⟨⟨by simp only; omega, by simp only [List.length_append, List.length_singleton]; omega⟩, by simp only [List.map_append, List.map_singleton, hpm]; rw [take_map _ qs j cq0 (by omega), hgi (by omega)], fun q hq' => (List.mem_append.1 hq').elim (hpq0 q) (fun e => by rw [List.mem_singleton.1 e]; exact hqr0 _ (getD_memS (by omega))), hoP⟩⟩ (by simp only; omega)
           · obtain rfl : j = qs.length := by omega
             rw [Nat.sub_self, List.replicate_zero, List.append_nil] at hoP
             rw [List.take_length] at hpm
             have hbf := bes_flat hpm
             have hpl2 := part_le (i := i) (j := qs.length) hw
             rw [List.take_length, ← flat_snd hpm] at hpl2
             refine ex (te (te (xh (tn (sq (sr (mv rfl rfl (gt' rfl rfl rfl (kpL [(0, _), (2, _), (7, _), (8, _), (9, _), (46, _), (47, _), (78, _)] (.cons rfl (.cons rfl (.cons rfl (.cons rfl (.cons rfl (.cons rfl (.cons rfl (.cons rfl .nil)))))))) (nn ?_))))))))))
             refine cd rfl (fun c6 => ?_) (fun c6 => ?_)
             · refine sr (s_lit (cs := [_]) evs_nil bo47 pok_nil rfl rfl ?_)
               replace hb2 := (((hb2.ext (q2.next q5)).fr q6 (by first | (simp; done) | (simp; omega) | (simp [blks]; done) | (simp [blks]; omega))).ext q7).fr q8 (by first | (simp; done) | (simp; omega) | (simp [blks]; done) | (simp [blks]; omega))
               refine s_storeBA rfl rfl hb2 rfl (by first | (simp [Value.oneCell', S]; done) | exact Enc.one _ _) sz47 (fun w12 hb2 q12 z12 => ?_)
               refine asg rfl rfl (kpL [(2, _), (3, _)] (.cons rfl (.cons rfl .nil)) (nn (rt (tr (rb (tr (tr (rb (tr (rCT Tryd.results61 rfl hb2 ag47 rfl ?_))))))))))
               have hbe := bes_bad (qs := qs) (h := h) (i := i) (by omega) (by rw [← hbf]; omega)
               exact ⟨_, rfl, .slice none 0 0, by rw [hbe], by rw [hbe, if_neg (by decide)]; exact OwR.nil _, ((((((q1.next q2).next q5).step q6 (by first | (simp; done) | (simp; omega))).next q7).step q8 (by first | (simp; done) | (simp; omega))).step q12 (by first | (simp; done) | (simp; omega)))⟩
             · refine sk (tn (rg (mv rfl rfl (mv rfl rfl (mv rfl rfl ?_)))))
               replace hpq := hpq0.ext (((((q1.next q2).next q5).step q6 (by first | (simp; done) | (simp; omega))).next q7).step q8 (by first | (simp; done) | (simp; omega)))
               refine cl (ev1 rfl) co63 (joins_ok _ ps _ hoP.sl hpq (by omega)) rfl ?_
               rintro _ w13 ⟨ho83, q13⟩
               have z13 := q13.size
               obtain ⟨A83, c83, rfl, _⟩ := ho83.sl.form
               replace ho83 := ho83.low (b' := g44 + 1) (by omega)
               replace hwr := hwr0.fr ((((Fr.refl [g2] _).next q7).step q8 (by first | (simp; done) | (simp; omega))).next q13) (by intro k hk; simp at hk; omega)
               have hwr2 := hwr.snoc (q := ((A83, (ps.flatMap Prod.snd).length, c83), ps.flatMap Prod.snd)) ho83
               replace hoR := ((hoR.ext q7).fr q8 (by first | (simp; done) | (simp; omega) | (simp [blks]; done) | (simp [blks]; omega) | (intro k hk hb; simp at hk; subst hk; have := hoR.blk _ hb; omega))).ext q13
               refine s_ixs (p := i) (((A83, (ps.flatMap Prod.snd).length, c83), ps.flatMap Prod.snd)) rfl hoR rfl rfl (by intro e; cases e) er45 sz61 rfl (by omega) (by first | omega | (simp only [List.length_append, List.length_replicate, List.length_cons, List.length_nil]; omega)) (by omega) rfl rfl (fun w14 hoR q14 z14 => ?_)
               replace q14 : Fr [g44] _ _ := q14
               rw [show h - i = (h - (i + 1)) + 1 by omega, ← hrwl, set_at, hrwl] at hoR
               replace hwr2 := hwr2.fr q14 (by intro k hk; simp at hk; omega)
               refine kpL [(0, _), (2, _), (7, _), (46, _), (47, _)] (.cons rfl (.cons rfl (.cons rfl (.cons rfl (.cons rfl .nil))))) (nl (bn' (tn (rg (s_add rfl rfl (wi6 (by omega)) rfl (mv rfl rfl (nl ?_)))))))
               exact lpE ((i + 1, rw_ ++ [((A83, (ps.flatMap Prod.snd).length, c83), ps.flatMap Prod.snd)])) (.cons rfl (.cons rfl (.cons rfl (.cons rfl (.cons rfl .nil))))) ⟨((((((Fr.refl [g44] _).step q6 (by first | (simp; done) | (simp; omega))).next q7).step q8 (by first | (simp; done) | (simp; omega))).next q13).step q14 (by first | (simp; done) | (simp; omega))), ⟨⟨by simp only; omega, by simp only [List.length_append, List.length_singleton]; omega⟩, by simp only [List.map_append, List.map_singleton, hrwm]; rw [range_map_succ, hbf], all_step hrw16 (by rw [← hbf]; omega), hoR, hwr2⟩⟩ (by simp only; omega)
         · obtain rfl : h = i := by omega
           rw [Nat.sub_self, List.replicate_zero, List.append_nil] at hoR
           refine ex (te (te (xh (tn (sr (mv rfl rfl (s_lit (cs := [_]) (ev1 rfl) bo47 (pok_cons rfl rfl rfl pok_nil) rfl rfl ?_)))))))
           replace hb2 := (hb2.ext (q2.next q5)).fr q6 (by first | (simp; done) | (simp; omega) | (simp [blks]; done) | (simp [blks]; omega))
           refine s_storeBA rfl rfl hb2 rfl (by first | (simp [Value.oneCell', S]; done) | exact Enc.one _ _) sz47 (fun w15 hb2 q15 z15 => ?_)
           refine asg rfl rfl (kpL [(2, _), (3, _)] (.cons rfl (.cons rfl .nil)) (nn (rt (rCT Tryd.results61 rfl hb2 ag47 rfl ?_))))
           replace hoR := hoR.fr q15 (by first | (simp; done) | (simp; omega) | (simp [blks]; done) | (simp [blks]; omega) | (intro k hk hb; simp at hk; subst hk; have := hoR.blk _ hb; omega))
           replace hwr := hwr0.fr ((Fr.refl [g2] _).step q15 (by first | (simp; done) | (simp; omega))) (by intro k hk; simp at hk; omega)
           exact ⟨_, rfl, (.slice (some ⟨g44, 0, none⟩) h h), by rw [bes_good hrw16], by rw [bes_good hrw16, if_pos rfl]; exact ⟨_, hoR.low (by omega), hwr.low (by omega), hrwm⟩, ((((q1.next q2).next q5).step q6 (by first | (simp; done) | (simp; omega))).step q15 (by first | (simp; done) | (simp; omega)))⟩
set_option maxHeartbeats 1000000 in
theorem block_ok (m : Mot) (l t r : SV) (n : Nat) (w0 : World) (hm : MotAt w0 m l t r) (h0 : motE m = 0) (hn : 1 ≤ n) : Rets Tryd.prog 43 #[.agg #[.slice l.1 l.2.1 l.2.2, .slice t.1 t.2.1 t.2.2, .slice r.1 r.2.1 r.2.2], .int .i64 (n : Int)] w0 fun v w' => ∃ X, v = .tuple #[.agg #[X], .int .i64 (blkE m n)] ∧ OwR 61 100 w0.heap.size w' X (if blkE m n = 0 then sideM m n else []) ∧ Fr [] w0 w' := by
 obtain ⟨hl1, hl2, hl3⟩ := hm.len
 obtain ⟨a1, a2, a3, a4, a5, a6, a7⟩ := mot_all h0
 have hlt := large_len a2
 have htl := tiles_len m l t r n
 refine we [(0, .agg #[.slice l.1 l.2.1 l.2.2, .slice t.1 t.2.1 t.2.2, .slice r.1 r.2.1 r.2.2]), (1, .int .i64 (n : Int))] Tryd.func43 rfl Tryd.ntmps43 rfl (.cons rfl (.cons rfl .nil)) ?_
 have hm0 := hm
 refine sr (bx rfl rfl rfl (fun g2 w1 hg2 hb2 q1 z1 => ?_))
 refine al zv47 rfl rfl (fun g4 w2 hg4 hb4 q2 z2 => ?_)
 refine asg rfl rfl (nn (sq (sr (mv rfl rfl (gt' rfl rfl rfl (nn ?_))))))
 refine cd rfl (fun c0 => ?_) (fun c0 => ?_)
 · refine sr (s_lit (cs := [_]) evs_nil bo47 pok_nil rfl rfl ?_)
   refine s_storeBA rfl rfl hb4 rfl (by first | (simp [Value.oneCell', S]; done) | exact Enc.one _ _) sz47 (fun w3 hb4 q3 z3 => ?_)
   refine asg rfl rfl (nn (rt (tr (rCT Tryd.results43 rfl hb4 ag47 rfl ?_))))
   have hbe : blkE m n = 3 := if_pos (by omega)
   exact ⟨_, rfl, .slice none 0 0, by rw [hbe], by rw [hbe, if_neg (by decide)]; exact OwR.nil _, ((q1.next q2).step q3 (by first | (simp; done) | (simp; omega)))⟩
 · have hn16 : n ≤ 16 := by omega
   refine sk (tn (sr (fad rfl fa49_1 rfl ?_)))
   replace hb2 := hb2.ext q2
   refine s_loadBP (vs := [_]) rfl hb2 ag47 rfl rfl (s_bslice ([((t, m.T) : CQ)]) (ev1 rfl) rfl rfl rfl el34 (Nat.le_of_ble_eq_true rfl) rfl (fun g13 w4 hg13 ho13 q4 z4 => ?_))
   refine mv rfl rfl ?_
   refine cl (ev2 rfl rfl) co45 (repeat_ok _ (t, m.T) n _ ho13.sl (by omega)) rfl ?_
   rintro _ w5 ⟨ho15, q5⟩
   have z5 := q5.size
   obtain ⟨A15, c15, rfl, hc15⟩ := ho15.sl.form
   rw [List.length_replicate] at ho15 hc15
   rw [List.length_replicate]
   refine asg rfl rfl (kpL [(2, _), (4, _), (6, _)] (.cons rfl (.cons rfl (.cons rfl .nil))) (nn (sr (asg rfl rfl (nn (sq ?_))))))
   replace hm := hm0.ext (((q1.next q2).next q4).next q5)
   replace hb2 := hb2.ext (q4.next q5)
   replace hb4 := hb4.ext (q4.next q5)
   intro a h
   have qh5 := Fr.refl [g4] w5
   refine region_held (fun wb w' => Fr [g4] wb w') hmix ?_; intro w6 hq
   have z6 := hq.size
   replace hm := hm.ext hq
   replace hb2 := hb2.ext hq
   replace hb4 := hb4.ext hq
   replace ho15 := ho15.ext hq
   replace qh5 := qh5.next hq
   have hsz := hq.size; clear hq; have hC : Fr [g4] w6 w6 := Fr.refl _ _
   have hm_b := hm
   have hb2_b := hb2
   have hb4_b := hb4
   have ho15_b := ho15
   refine hd_move 0 (by kernel_rfl) (by kernel_rfl) (by kernel_rfl) hC h wn rfl rfl rfl ?_; clear h a; intro a h
   refine hd_fieldAddr 1 (by kernel_rfl) (by kernel_rfl) (by kernel_rfl) hC h wn rfl fa49_0 rfl rfl ?_; clear h a; intro a h
   refine hd_loadBP (vs := [_]) 2 (by kernel_rfl) (by kernel_rfl) (by kernel_rfl) hC h wn rfl (fun _ hw => (hb2_b.fr hw (by first | (simp; done) | (simp; omega)))) ag47 rfl rfl rfl ?_; clear h a; intro a h
   refine hd_move 4 (by kernel_rfl) (by kernel_rfl) (by kernel_rfl) hC h wn rfl rfl rfl ?_; clear h a; intro a h
   refine hd_move 5 (by kernel_rfl) (by kernel_rfl) (by kernel_rfl) hC h wn rfl rfl rfl ?_; clear h a; intro a h
   refine hd_fieldAddr 6 (by kernel_rfl) (by kernel_rfl) (by kernel_rfl) hC h wn rfl fa49_2 rfl rfl ?_; clear h a; intro a h
   refine hd_loadBP (vs := [_]) 7 (by kernel_rfl) (by kernel_rfl) (by kernel_rfl) hC h wn rfl (fun _ hw => (hb2_b.fr hw (by first | (simp; done) | (simp; omega)))) ag47 rfl rfl rfl ?_; clear h a; intro a h
   refine hd_one 3 (by kernel_rfl) rfl ?_
   refine st_callv (us := []) (ws := []) h rfl (evs_cons rfl evs_nil) co60 (edge_ok (l, m.L) _ hl1) rfl (by intro g e; cases e) ?_; clear h a; rintro _ w7 ⟨A19, c19, rfl, ho19, hq⟩ a h
   have z7 := hq.size
   replace hm := hm.ext hq
   replace hb2 := hb2.ext hq
   replace hb4 := hb4.ext hq
   replace ho15 := ho15.ext hq
   replace qh5 := qh5.next hq
   replace hC := hC.next hq
   clear hq
   refine hd_next hC ?_
   refine hd_one 8 (by kernel_rfl) rfl ?_
   refine st_callv (us := []) (ws := []) h rfl (evs_cons rfl evs_nil) co60 (edge_ok (r, m.R) _ hl3) rfl (by intro g e; cases e) ?_; clear h a; rintro _ w8 ⟨A24, c24, rfl, ho24, hq⟩ a h
   have z8 := hq.size
   replace hm := hm.ext hq
   replace hb2 := hb2.ext hq
   replace hb4 := hb4.ext hq
   replace ho15 := ho15.ext hq
   replace qh5 := qh5.next hq
   replace hC := hC.next hq
   replace ho19 := ho19.ext hq
   clear hq
   refine hd_next hC ?_
   refine hd_one 9 (by kernel_rfl) rfl ?_
   refine st_bslice ([((A19, (edgeL (l, m.L)).length, c19), edgeL (l, m.L)), ((A15, n, c15), List.replicate n (t, m.T)), ((A24, (edgeL (r, m.R)).length, c24), edgeL (r, m.R))]) h (evs_cons rfl (evs_cons rfl (evs_cons rfl evs_nil))) rfl rfl rfl el140 (Nat.le_of_ble_eq_true rfl) rfl ?_; clear h a; intro g_25 w9 hg ho25 hq hz a h
   have hn__25 : g2 < g_25 := by have := hb2.lt; omega
   have hn__25 : g4 < g_25 := by have := hb4.lt; omega
   have z9 := hq.size
   replace hm := hm.ext hq
   replace hb2 := hb2.ext hq
   replace hb4 := hb4.ext hq
   replace ho15 := ho15.ext hq
   replace qh5 := qh5.next hq
   replace hC := hC.next hq
   replace ho19 := ho19.ext hq
   replace ho24 := ho24.ext hq
   clear hq
   refine hd_next hC ?_
   refine hd_one 10 (by kernel_rfl) rfl ?_
   refine st_call h (evs_cons rfl evs_nil) co62 (joinc_ok _ [((A19, (edgeL (l, m.L)).length, c19), edgeL (l, m.L)), ((A15, n, c15), List.replicate n (t, m.T)), ((A24, (edgeL (r, m.R)).length, c24), edgeL (r, m.R))] _ ho25.sl (fun q hq => by simp only [List.mem_cons, List.not_mem_nil, or_false] at hq; rcases hq with rfl | rfl | rfl; exact ho19.sl; exact ho15.sl; exact ho24.sl) (by have := edge_len (l, m.L); have := edge_len (r, m.R); simp only [List.flatMap_cons, List.flatMap_nil, List.append_nil, List.length_append, List.length_replicate]; omega)) rfl ?_; clear h a; rintro _ w10 ⟨ho26, hq⟩ a h
   skip
   have z10 := hq.size
   replace hm := hm.ext hq
   replace hb2 := hb2.ext hq
   replace hb4 := hb4.ext hq
   replace ho15 := ho15.ext hq
   replace qh5 := qh5.next hq
   replace hC := hC.next hq
   replace ho19 := ho19.ext hq
   replace ho24 := ho24.ext hq
   replace ho25 := ho25.ext hq
   clear hq
   rw [tks_flat] at ho26
   refine hd_next hC ?_
   refine hd_one 11 (by kernel_rfl) rfl ?_
   refine st_call h (evs_cons rfl evs_nil) co61 (beside_ok _ (tilesL m l t r n) m.T.length _ ho26.sl (tiles_chs hm) (by omega) (by omega) (fun i hi => (tiles_ok h0).1 _ (getD_memS hi)) (by omega) (tiles_ok h0).2) rfl ?_; clear h a; rintro _ w11 ⟨X27, rfl, hX, hq⟩ a h
   have z11 := hq.size
   replace hm := hm.ext hq
   replace hb2 := hb2.ext hq
   replace hb4 := hb4.ext hq
   replace ho15 := ho15.ext hq
   replace qh5 := qh5.next hq
   replace hC := hC.next hq
   replace ho19 := ho19.ext hq
   replace ho24 := ho24.ext hq
   replace ho25 := ho25.ext hq
   replace ho26 := ho26.ext hq
   clear hq
   obtain ⟨AX, cX, rfl, _⟩ := hX.form
   refine hd_next hC ?_
   refine hd_extract 12 (by kernel_rfl) (by kernel_rfl) (by kernel_rfl) hC h wn rfl rfl rfl rfl ?_; clear h a; intro a h
   refine hd_extract 13 (by kernel_rfl) (by kernel_rfl) (by kernel_rfl) hC h wn rfl rfl rfl rfl ?_; clear h a; intro a h
   refine hd_one 14 (by kernel_rfl) rfl ?_
   refine st_storeBA h rfl rfl hb4 rfl (by first | (simp [Value.oneCell', S]; done) | exact Enc.one _ _) sz47 ?_; clear h a; intro w12 hbn hq hz a h
   have z12 := hq.size
   replace hb2 := hb2.fr hq (by first | (simp; done) | (simp; omega) | (simp [blks]; done) | (simp [blks]; omega))
   replace qh5 := qh5.step hq (by first | (simp; done) | (simp; omega))
   replace hC := hC.step hq (by first | (simp; done) | (simp; omega))
   replace hX := hX.fr hq (by intro k hk; simp at hk; omega)
   clear hb4 hq hz; have hb4 : Blk w12 g4 _ [_] := hbn; clear hbn
   refine hd_next hC ?_
   refine hd_one 15 (by kernel_rfl) rfl ?_
   refine st_assign h rfl rfl ?_; clear h a; intro a h
   refine hd_next hC ?_
   refine hd_end (by kernel_rfl) ?_
   clear hC hm_b hb2_b hb4_b ho15_b
   have z12 := qh5.size
   refine bk (h.sub (L' := [(4, _), (5, _)]) (.cons rfl (.cons rfl .nil))) ?_; clear h a
   refine tn (rt (rCT Tryd.results43 rfl hb4 ag47 rfl ?_))
   have hbe := blk_bes (m := m) (l := l) (t := t) (r := r) (n := n) (by omega)
   rw [tiles_bes, hbe] at hX
   exact ⟨_, rfl, .slice AX (if blkE m n = 0 then sideM m n else []).length cX, by rw [tiles_bes, hbe]; rfl, hX.low (by omega), ((((q1.next q2).next q4).next q5).step qh5 (by first | (simp; done) | (simp; omega)))⟩
theorem abv3 {qs : List CQ} (h : ¬ ∀ q ∈ qs, largeB q.2 = false) : abvE qs = 3 := if_pos h
theorem abv3b {qs : List CQ} (h : ∀ q ∈ qs, largeB q.2 = false) (h2 : 31 < (qs.flatMap Prod.snd).length) : abvE qs = 3 := by rw [abvE, if_neg (fun e => e h), if_pos h2]
theorem abv0 {qs : List CQ} (h : ∀ q ∈ qs, largeB q.2 = false) (h2 : ¬ 31 < (qs.flatMap Prod.snd).length) : abvE qs = 0 := by rw [abvE, if_neg (fun e => e h), if_neg h2]
theorem flat_small {qs : List CQ} (h : ∀ q ∈ qs, largeB q.2 = false) : ∀ i, ((qs.take i).flatMap Prod.snd).length ≤ 31 * i
  | 0 => by simp
  | i + 1 => by
    have ih := flat_small h i
    by_cases hi : i < qs.length
    · rw [flat_succ Prod.snd qs i cq0 hi, List.length_append]
      have := (large_len (h _ (getD_memS (d := cq0) hi))).1
      omega
    · rw [List.take_of_length_le (by omega)] at ih ⊢; omega
theorem ap_rows {T : Nat} {Ro N : Nat} {w w' : World} {v : Value} {rw_ : List RQ} {xs : List RQ} (h : RwO T N w rw_) (ho : Lw.Own encRq Ro N w v xs) (hq : Fr (blks v) w w') (hT : Ro ≠ T) : RwO T N w' rw_ := h.frT hq ho hT
set_option maxHeartbeats 2000000 in
theorem above_ok (v : Value) (qs : List CQ) (w0 : World) (hs : Sl encCq w0 v qs) (hq : ChsQ w0 qs) (hn : qs.length ≤ 31) : Rets Tryd.prog 44 #[v] w0 fun r w' => ∃ X, r = .tuple #[.agg #[X], .int .i64 (abvE qs)] ∧ OwR 61 100 w0.heap.size w' X (if abvE qs = 0 then qs.flatMap Prod.snd else []) ∧ Fr [] w0 w' := by
 obtain ⟨A, c, rfl, hcc, hM, hA⟩ := id hs
 clear hA
 unfold maxLen at hM
 refine we [(0, .slice A qs.length c)] Tryd.func44 rfl Tryd.ntmps44 rfl (.cons rfl .nil) ?_
 have hs0 := hs
 have hq0 := hq
 refine sr (al zv47 rfl rfl (fun g2 w1 hg2 hb2 q1 z1 => ?_))
 refine asg rfl rfl (nn (sq (sq ?_)))
 refine rboF (r := 19) (L' := [(0, _), (2, _)]) (((64 < (qs.length : Int)) ∨ (¬ (∀ q ∈ qs, largeB q.2 = false)))) (.cons rfl (.cons rfl .nil)) ?_ ?_
 · refine mv rfl rfl (lnS rfl Tryd.underlying34 rfl (gt' rfl rfl rfl (mv rfl rfl ?_)))
   refine gs 15 rfl (fun g0 => ?_) (fun g0 => ?_)
   · exact gN rfl rfl rfl (gN rfl rfl rfl (gN rfl rfl rfl (pkt rfl rfl rfl rfl (rbeF rfl (by first | exact bt (by omega) | exact bf (by omega) | exact bi (by omega) | exact bn (by omega) | (simp_all; done) | (simp_all; omega)) (.cons rfl (.cons rfl .nil)) (Fr.refl _ _)))))
   · refine gY rfl (mv rfl rfl (gY rfl ?_))
     replace hs := hs0.ext q1
     replace hq := hq0.ext q1
     refine cl (ev1 rfl) co51 (msmall_ok _ _ _ hs hq) rfl ?_
     rintro _ w2 ⟨rfl, q2⟩
     have z2 := q2.size
     exact gY rfl (nt' rfl rfl (pkf rfl rfl rfl rfl (rbeF rfl (by first | exact bt (by omega) | exact bf (by omega) | exact bi (by omega) | exact bn (by omega) | (simp_all; done) | (simp_all; omega)) (.cons rfl (.cons rfl .nil)) q2)))
 · intro w3 q3; have z3 := q3.size
   refine tn ?_
   refine cd rfl (fun c0 => ?_) (fun c0 => ?_)
   · refine sr (s_lit (cs := [_]) evs_nil bo47 pok_nil rfl rfl ?_)
     replace hb2 := hb2.ext q3
     refine s_storeBA rfl rfl hb2 rfl (by first | (simp [Value.oneCell', S]; done) | exact Enc.one _ _) sz47 (fun w4 hb2 q4 z4 => ?_)
     refine asg rfl rfl (nn (rt (tr (rCT Tryd.results44 rfl hb2 ag47 rfl ?_))))
     have hae : abvE qs = 3 := abv3 (fun hh => by rcases c0 with h | h; omega; exact h hh)
     exact ⟨_, rfl, .slice none 0 0, by rw [hae], by rw [hae, if_neg (by decide)]; exact OwR.nil _, ((q1.next q3).step q4 (by first | (simp; done) | (simp; omega)))⟩
   · have c0' : ∀ q ∈ qs, largeB q.2 = false := Classical.not_not.1 fun h => c0 (.inr h)
     refine sk (tn (sr (asg rfl rfl (nn (sq (sr (mv rfl rfl (lnS rfl Tryd.underlying34 rfl (mv rfl rfl (nn (bl ?_)))))))))))
     refine lpK (ι := Nat) [(0, _), (2, _), (21, _), (22, _)] (fun i => [(23, .int .i64 (i : Int)), (4, .int .i64 (((qs.take i).flatMap Prod.snd).length : Int))]) (fun i w' => Fr [] w3 w' ∧ i ≤ qs.length) (fun i => qs.length - i) 0 (.cons rfl (.cons rfl (.cons rfl (.cons rfl (.cons rfl (.cons rfl .nil)))))) ⟨Fr.refl _ _, Nat.zero_le _⟩ ?_
     rintro i w5 ⟨q5, hi⟩
     have z5 := q5.size
     refine kpC [(0, _), (2, _), (21, _), (22, _), (23, _), (4, _)] (.cons rfl (.cons rfl (.cons rfl (.cons rfl (.cons rfl (.cons rfl .nil)))))) ?_
     refine sr (lt' rfl rfl rfl (nn (sq ?_)))
     refine cd rfl (fun c1 => ?_) (fun c1 => ?_)
     · replace hq := hq0.ext ((q1.next q3).next q5)
       have hqL := (hq.at (i := i) (by omega)).2
       have hfs := flat_succ Prod.snd qs i cq0 (by omega)
       have hfl := congrArg List.length hfs
       rw [List.length_append] at hfl
       have hlg := (large_len (c0' _ (getD_memS (d := cq0) (show i < qs.length by omega)))).1
       have hfw := flat_small c0' i
       refine sk (tn (sq (bl (sr ?_))))
       replace hs := hs0.ext ((q1.next q3).next q5)
       refine s_idxL (cq0) rfl hs rfl el34 (by omega) (by omega) nat_of rfl (fun ad25 hc25 => ?_)
       refine s_loadA rfl (hc25 _ hs) ag47 rfl (al zv47 rfl rfl (fun g6 w6 hg6 hb6 q6 z6 => ?_))
       refine s_storeBA rfl rfl hb6 rfl (by first | (simp [Value.oneCell', S]; done) | exact Enc.one _ _) sz47 (fun w7 hb6 q7 z7 => ?_)
       refine nn (rg (mv rfl rfl (fad rfl fa47_0 rfl (s_loadB rfl hb6 rfl na45 rfl (lnS rfl Tryd.underlying45 rfl (s_add rfl rfl (wi6 (by omega)) rfl (asg rfl rfl (kpL [(0, _), (2, _), (4, _), (21, _), (22, _), (23, _)] (.cons rfl (.cons rfl (.cons rfl (.cons rfl (.cons rfl (.cons rfl .nil)))))) (nl (bn' (tn ?_)))))))))))
       refine rg (s_add rfl rfl (wi6 (by omega)) rfl (mv rfl rfl (nl ?_)))
       exact lpE (i + 1) (.cons rfl (.cons rfl (.cons rfl (.cons rfl (.cons rfl (.cons (congrArg (fun z => some (Value.int .i64 z)) (by omega)) .nil)))))) ⟨((q5.next q6).step q7 (by first | (simp; done) | (simp; omega))), by omega⟩ (by omega)
     · obtain rfl : i = qs.length := by omega
       rw [List.take_length]
       refine ex (te (te (xh (tn (sq (sr (mv rfl rfl (gt' rfl rfl rfl (nn ?_)))))))))
       refine cd rfl (fun c2 => ?_) (fun c2 => ?_)
       · refine sr (s_lit (cs := [_]) evs_nil bo47 pok_nil rfl rfl ?_)
         replace hb2 := hb2.ext (q3.next q5)
         refine s_storeBA rfl rfl hb2 rfl (by first | (simp [Value.oneCell', S]; done) | exact Enc.one _ _) sz47 (fun w8 hb2 q8 z8 => ?_)
         refine asg rfl rfl (nn (rt (tr (rCT Tryd.results44 rfl hb2 ag47 rfl ?_))))
         have hae : abvE qs = 3 := abv3b c0' (by omega)
         exact ⟨_, rfl, .slice none 0 0, by rw [hae], by rw [hae, if_neg (by decide)]; exact OwR.nil _, (((q1.next q3).next q5).step q8 (by first | (simp; done) | (simp; omega)))⟩
       · refine sk (tn (sr (mv rfl rfl ?_)))
         refine s_makeSlice (m := 0) (c := (qs.flatMap Prod.snd).length) (rq0) rfl rfl er45 zv61 rfl (Nat.zero_le _) (by omega) (by unfold maxLen; omega) rfl (fun g37 w9 hg37 hoR q9 z9 => ?_)
         replace hoR := hoR.low (b' := g2 + 1) (by omega)
         refine asg rfl rfl (nn (sq (sr (mv rfl rfl (lnS rfl Tryd.underlying34 rfl (mv rfl rfl (nn (bl ?_))))))))
         replace hb2 := hb2.ext ((q3.next q5).next q9)
         refine lpK (ι := Nat × Value × List RQ) [(2, _), (38, _), (39, _)] (fun p => [(40, .int .i64 (p.1 : Int)), (7, p.2.1)]) (fun p w' => Fr [] w0 w' ∧ p.1 ≤ qs.length ∧ p.2.2.map Prod.snd = (qs.take p.1).flatMap Prod.snd ∧ Blk w' g2 47 [.slice none 0 0] ∧ Lw.Own encRq 61 (g2 + 1) w' p.2.1 p.2.2 ∧ RwO 100 (g2 + 1) w' p.2.2) (fun p => qs.length - p.1) (0, .slice (some ⟨g37, 0, none⟩) 0 (qs.flatMap Prod.snd).length, []) (.cons rfl (.cons rfl (.cons rfl (.cons rfl (.cons rfl .nil))))) ⟨(((q1.next q3).next q5).next q9), ⟨Nat.zero_le _, rfl, hb2, hoR, RwO.nil⟩⟩ ?_
         rintro ⟨i, vG, rw_⟩ w10 ⟨q10, ⟨hi, hrm_, hb2, hoR, hwr⟩⟩
         simp only at hi hrm_ hb2 hoR hwr
         have z10 := q10.size
         have lt_hb2 := hb2.lt
         have hwr0 := hwr
         refine kpC [(2, _), (38, _), (39, _), (40, .int .i64 (i : Int)), (7, vG)] (.cons rfl (.cons rfl (.cons rfl (.cons rfl (.cons rfl .nil))))) ?_
         refine sr (lt' rfl rfl rfl (nn (sq ?_)))
         refine cd rfl (fun c3 => ?_) (fun c3 => ?_)
         · obtain ⟨hqS, hqL⟩ := hq0.at (i := i) (by omega)
           obtain ⟨rs, hrs, hqr, hrm⟩ := Sll.opn hqS
           have hrl := sl_len hrs
           have hrc : rs.length = (qs.getD i cq0).2.length := by rw [← hrm, List.length_map]
           have hrM := hrs.len_le
           unfold maxLen at hrM
           have hgi := map_getD Prod.snd rs i rq0 []
           rw [hrm] at hgi
           have hrs0 := hrs
           have hqr0 := hqr
           skip
           refine sk (tn (sq (bl (sr ?_))))
           replace hs := hs0.ext q10
           refine s_idxL (cq0) rfl hs rfl el34 (by omega) (by omega) nat_of rfl (fun ad42 hc42 => ?_)
           refine s_loadA rfl (hc42 _ hs) ag47 rfl (al zv47 rfl rfl (fun g9 w11 hg9 hb9 q11 z11 => ?_))
           refine s_storeBA rfl rfl hb9 rfl (by first | (simp [Value.oneCell', S]; done) | exact Enc.one _ _) sz47 (fun w12 hb9 q12 z12 => ?_)
           refine nn (sr (fad rfl fa47_0 rfl (s_loadB rfl hb9 rfl na45 rfl (lnS rfl Tryd.underlying45 rfl (mv rfl rfl (nn (bl ?_)))))))
           replace hb2 := (hb2.ext q11).fr q12 (by first | (simp; done) | (simp; omega) | (simp [blks]; done) | (simp [blks]; omega))
           replace hoR := (hoR.ext q11).fr q12 (by first | (simp; done) | (simp; omega) | (simp [blks]; done) | (simp [blks]; omega) | (intro k hk hb; simp at hk; subst hk; have := hoR.blk _ hb; omega))
           replace hwr := hwr0.fr (((Fr.refl [g2] _).next q11).step q12 (by first | (simp; done) | (simp; omega))) (by intro k hk; simp at hk; omega)
           refine lpK (ι := Nat × Value × List RQ) [(2, _), (38, _), (39, _), (40, _), (45, _), (46, _)] (fun p => [(47, .int .i64 (p.1 : Int)), (7, p.2.1)]) (fun p w' => Fr [] w0 w' ∧ p.1 ≤ rs.length ∧ p.2.2.map Prod.snd = (qs.take i).flatMap Prod.snd ++ (qs.getD i cq0).2.take p.1 ∧ Blk w' g2 47 [.slice none 0 0] ∧ Lw.Own encRq 61 (g2 + 1) w' p.2.1 p.2.2 ∧ RwO 100 (g2 + 1) w' p.2.2) (fun p => rs.length - p.1) (0, vG, rw_) (.cons rfl (.cons rfl (.cons rfl (.cons rfl (.cons rfl (.cons rfl (.cons rfl (.cons rfl .nil)))))))) ⟨((q10.next q11).step q12 (by first | (simp; done) | (simp; omega))), ⟨Nat.zero_le _, by rw [hrm_]; simp, hb2, hoR, hwr⟩⟩ ?_
           rintro ⟨j, vH, rx⟩ w13 ⟨q13, ⟨hj, hrx, hb2, hoR, hwr⟩⟩
           simp only at hj hrx hb2 hoR hwr
           have z13 := q13.size
           have lt_hb2 := hb2.lt
           have hwr0 := hwr
           refine kpC [(2, _), (38, _), (39, _), (40, _), (45, _), (46, _), (47, .int .i64 (j : Int)), (7, vH)] (.cons rfl (.cons rfl (.cons rfl (.cons rfl (.cons rfl (.cons rfl (.cons rfl (.cons rfl .nil)))))))) ?_
           refine sr (lt' rfl rfl rfl (nn (sq ?_)))
           refine cd rfl (fun c4 => ?_) (fun c4 => ?_)
           · have hjl := sl_len (hqr0 (rs.getD j rq0) (getD_memS (by omega)))
             have hr16 := (large_len (c0' _ (getD_memS (d := cq0) (show i < qs.length by omega)))).2 _ (by rw [← hrm]; exact mem_snd (d := rq0) (show j < rs.length by omega))
             have hgi := map_getD Prod.snd rs j rq0 []
             rw [hrm] at hgi
             have hxl := congrArg List.length hrx
             rw [List.length_append, List.length_map, List.length_take] at hxl
             have hfw := flat_small c0' i
             have hlg := (large_len (c0' _ (getD_memS (d := cq0) (show i < qs.length by omega)))).1
             refine sk (tn (sq (bl (sr ?_))))
             replace hrs := hrs0.ext q13
             refine s_idxL (rq0) rfl hrs rfl er45 (by omega) (by omega) nat_of rfl (fun ad49 hc49 => ?_)
             refine s_loadC0 rfl (hc49 _ hrs) na61 rfl (asg rfl rfl (nn (rg (mv rfl rfl (mv rfl rfl (s_bslice ([rs.getD j rq0]) (ev1 rfl) rfl rfl rfl er45 (Nat.le_of_ble_eq_true rfl) rfl (fun g53 w14 hg53 ho53 q14 z14 => ?_)))))))
             replace hq := hq0.ext (q13.next q14)
             replace hqr := hqr0.ext (q13.next q14)
             refine cl (ev1 rfl) co63 (joins_ok _ [rs.getD j rq0] _ ho53.sl (fun q hq => by rw [List.mem_singleton.1 hq]; exact hqr _ (getD_memS (by omega))) (by simp only [List.flatMap_cons, List.flatMap_nil, List.append_nil]; omega)) rfl ?_
             rintro _ w15 ⟨ho54, q15⟩
             have z15 := q15.size
             rw [show [rs.getD j rq0].flatMap Prod.snd = (rs.getD j rq0).2 by simp] at ho54
             obtain ⟨A54, c54, rfl, _⟩ := ho54.sl.form
             replace ho54 := ho54.low (b' := g2 + 1) (by omega)
             refine s_bslice ([((A54, (rs.getD j rq0).2.length, c54), (rs.getD j rq0).2)]) (ev1 rfl) rfl rfl rfl er45 (Nat.le_of_ble_eq_true rfl) rfl (fun g55 w16 hg55 ho55 q16 z16 => ?_)
             replace hwr := hwr0.fr ((((Fr.refl [g2] _).next q14).next q15).next q16) (by intro k hk; simp at hk; omega)
             replace ho54 := ho54.ext q16
             have hwr2 := hwr.snoc (q := ((A54, (rs.getD j rq0).2.length, c54), (rs.getD j rq0).2)) ho54
             replace hb2 := hb2.ext ((q14.next q15).next q16)
             replace hoR := hoR.ext ((q14.next q15).next q16)
             have hoo56 := hoR
             refine s_append rfl rfl hoR ho55.sl er45 (by unfold maxLen; simp only [List.length_cons, List.length_nil]; omega) (by simp only [List.length_cons, List.length_nil]; omega) (by omega) rfl (fun v56 w17 hoR q17 hor56 => ?_)
             have z17 := q17.size
             replace hb2 := hb2.fr q17 (hoo56.neB hb2 (by decide))
             replace hwr2 := ap_rows hwr2 hoo56 q17 (by decide)
             refine asg rfl rfl (kpL [(2, _), (7, _), (38, _), (39, _), (40, _), (45, _), (46, _), (47, _)] (.cons rfl (.cons rfl (.cons rfl (.cons rfl (.cons rfl (.cons rfl (.cons rfl (.cons rfl .nil)))))))) (nl (bn' (tn (rg (s_add rfl rfl (wi6 (by omega)) rfl (mv rfl rfl (nl ?_))))))))
             exact lpE ((j + 1, v56, rx ++ [((A54, (rs.getD j rq0).2.length, c54), (rs.getD j rq0).2)])) (.cons rfl (.cons rfl (.cons rfl (.cons rfl (.cons rfl (.cons rfl (.cons rfl (.cons rfl .nil)))))))) ⟨((((q13.next q14).next q15).next q16).step q17 (fun k hk hlt => absurd (hoo56.blk k hk).1 (by omega))), ⟨by simp only; omega, by simp only [List.map_append, List.map_singleton, hrx]; rw [List.append_assoc, take_one _ j [] (by omega), ← hgi (by omega)], hb2, hoR, hwr2⟩⟩ (by simp only; omega)
           · obtain rfl : j = rs.length := by omega
             refine ex (te (te (xh (bn' (tn (rg (s_add rfl rfl (wi6 (by omega)) rfl (mv rfl rfl (nl ?_)))))))))
             exact lpE ((i + 1, vH, rx)) (.cons rfl (.cons rfl (.cons rfl (.cons rfl (.cons rfl .nil))))) ⟨q13, ⟨by simp only; omega, by simp only [hrx]; rw [flat_succ Prod.snd qs i cq0 (by omega), hrc, List.take_length], hb2, hoR, hwr⟩⟩ (by simp only; omega)
         · obtain rfl : i = qs.length := by omega
           rw [List.take_length] at hrm_
           obtain ⟨AG, cG, rfl, _⟩ := hoR.sl.form
           refine ex (te (te (xh (tn (sr (mv rfl rfl (s_lit (cs := [_]) (ev1 rfl) bo47 (pok_cons rfl rfl rfl pok_nil) rfl rfl ?_)))))))
           refine s_storeBA rfl rfl hb2 rfl (by first | (simp [Value.oneCell', S]; done) | exact Enc.one _ _) sz47 (fun w18 hb2 q18 z18 => ?_)
           refine asg rfl rfl (kpL [(2, _), (3, _)] (.cons rfl (.cons rfl .nil)) (nn (rt (rCT Tryd.results44 rfl hb2 ag47 rfl ?_))))
           replace hoR := hoR.fr q18 (by first | (simp; done) | (simp; omega) | (simp [blks]; done) | (simp [blks]; omega) | (intro k hk hb; simp at hk; subst hk; have := hoR.blk _ hb; omega))
           replace hwr := hwr0.fr ((Fr.refl [g2] _).step q18 (by first | (simp; done) | (simp; omega))) (by intro k hk; simp at hk; omega)
           have hae : abvE qs = 0 := abv0 c0' (by omega)
           exact ⟨_, rfl, _, by rw [hae], by rw [hae, if_pos rfl]; exact ⟨_, hoR.low (by omega), hwr.low (by omega), hrm_⟩, (q10.step q18 (by first | (simp; done) | (simp; omega)))⟩
set_option maxHeartbeats 1000000 in
theorem stack_ok (m : Mot) (l t r : SV) (n up : Int) (w0 : World) (hm : MotAt w0 m l t r) : Rets Tryd.prog 24 #[.agg #[.slice l.1 l.2.1 l.2.2, .slice t.1 t.2.1 t.2.2, .slice r.1 r.2.1 r.2.2], .int .i64 n, .int .i64 up] w0 fun v w' => ∃ X, v = .tuple #[.agg #[X], .int .i64 (stackE m n up)] ∧ OwR 61 100 w0.heap.size w' X (stackS m n up) ∧ Fr [] w0 w' := by
 refine we [(0, .agg #[.slice l.1 l.2.1 l.2.2, .slice t.1 t.2.1 t.2.2, .slice r.1 r.2.1 r.2.2]), (1, .int .i64 n), (2, .int .i64 up)] Tryd.func24 rfl Tryd.ntmps24 rfl (.cons rfl (.cons rfl (.cons rfl .nil))) ?_
 have hm0 := hm
 refine sr (bx rfl rfl rfl (fun g3 w1 hg3 hb3 q1 z1 => ?_))
 refine al zv47 rfl rfl (fun g6 w2 hg6 hb6 q2 z2 => ?_)
 refine asg rfl rfl (nn (sq (sr ?_)))
 replace hb3 := hb3.ext q2
 refine s_loadBA rfl hb3 ag49 rfl ?_
 replace hm := hm0.ext (q1.next q2)
 refine cl (ev1 rfl) co28 (mcheck_ok _ _ _ _ _ hm) rfl ?_
 rintro _ w3 ⟨rfl, q3⟩
 have z3 := q3.size
 refine asg rfl rfl (nn (sr (mv rfl rfl (ne' rfl rfl rfl (nn ?_)))))
 refine cd rfl (fun c0 => ?_) (fun c0 => ?_)
 · refine sr (s_lit (cs := [_]) evs_nil bo47 pok_nil rfl rfl ?_)
   refine mv rfl rfl ?_
   replace hb6 := hb6.ext q3
   refine s_storeBA rfl rfl hb6 rfl (by first | (simp [Value.oneCell', S]; done) | exact Enc.one _ _) sz47 (fun w4 hb6 q4 z4 => ?_)
   refine asg rfl rfl (kpL [(6, _), (7, _)] (.cons rfl (.cons rfl .nil)) (nn (rt (tr (rCT Tryd.results24 rfl hb6 ag47 rfl ?_)))))
   have he := stk_mot (m := m) (n := n) (up := up) c0
   have hs : stackS m n up = [] := by rw [stackS, if_neg (by rw [he]; exact c0)]
   exact ⟨_, rfl, .slice none 0 0, by rw [he], by rw [hs]; exact OwR.nil _, (((q1.next q2).next q3).step q4 (by first | (simp; done) | (simp; omega)))⟩
 · have h0 : motE m = 0 := Classical.not_not.1 c0
   refine sk (tn (sq (sq ?_)))
   refine rbo (r := 24) (L' := [(1, _), (2, _), (3, _), (6, _)]) (((n < 1) ∨ (up < 1))) (.cons rfl (.cons rfl (.cons rfl (.cons rfl .nil)))) ?_ ?_
   · refine mv rfl rfl (lt' rfl rfl rfl (mv rfl rfl ?_))
     refine gs 21 rfl (fun g0 => ?_) (fun g0 => ?_)
     · exact gN rfl rfl rfl (gN rfl rfl rfl (pkt rfl rfl rfl rfl (rbe rfl (by first | exact bt (by omega) | exact bf (by omega) | exact bi (by omega) | exact bn (by omega) | (simp_all; done) | (simp_all; omega)) (.cons rfl (.cons rfl (.cons rfl (.cons rfl .nil)))))))
     · exact gY rfl (mv rfl rfl (gY rfl (lt' rfl rfl rfl (pkf rfl rfl rfl rfl (rbe rfl (by first | exact bt (by omega) | exact bf (by omega) | exact bi (by omega) | exact bn (by omega) | (simp_all; done) | (simp_all; omega)) (.cons rfl (.cons rfl (.cons rfl (.cons rfl .nil)))))))))
   · refine tn ?_
     refine cd rfl (fun c1 => ?_) (fun c1 => ?_)
     · refine sr (s_lit (cs := [_]) evs_nil bo47 pok_nil rfl rfl ?_)
       replace hb6 := hb6.ext q3
       refine s_storeBA rfl rfl hb6 rfl (by first | (simp [Value.oneCell', S]; done) | exact Enc.one _ _) sz47 (fun w5 hb6 q5 z5 => ?_)
       refine asg rfl rfl (nn (rt (tr (rCT Tryd.results24 rfl hb6 ag47 rfl ?_))))
       have he := stk_arg (m := m) (n := n) (up := up) h0 c1
       have hs : stackS m n up = [] := by rw [stackS, if_neg (by rw [he]; decide)]
       exact ⟨_, rfl, .slice none 0 0, by rw [he], by rw [hs]; exact OwR.nil _, (((q1.next q2).next q3).step q5 (by first | (simp; done) | (simp; omega)))⟩
     · obtain ⟨n', rfl⟩ := Int.eq_ofNat_of_zero_le (show 0 ≤ n by omega)
       obtain ⟨u', rfl⟩ := Int.eq_ofNat_of_zero_le (show 0 ≤ up by omega)
       refine sk (tn (sq (sr (mv rfl rfl (gt' rfl rfl rfl (nn ?_))))))
       refine cd rfl (fun c2 => ?_) (fun c2 => ?_)
       · refine sr (s_lit (cs := [_]) evs_nil bo47 pok_nil rfl rfl ?_)
         replace hb6 := hb6.ext q3
         refine s_storeBA rfl rfl hb6 rfl (by first | (simp [Value.oneCell', S]; done) | exact Enc.one _ _) sz47 (fun w6 hb6 q6 z6 => ?_)
         refine asg rfl rfl (nn (rt (tr (rCT Tryd.results24 rfl hb6 ag47 rfl ?_))))
         have he := stk_up (m := m) (n := (n' : Int)) (up := (u' : Int)) h0 c1 c2
         have hs : stackS m n' u' = [] := by rw [stackS, if_neg (by rw [he]; decide)]
         exact ⟨_, rfl, .slice none 0 0, by rw [he], by rw [hs]; exact OwR.nil _, (((q1.next q2).next q3).step q6 (by first | (simp; done) | (simp; omega)))⟩
       · refine sk (tn (sr ?_))
         replace hb3 := hb3.ext q3
         refine s_loadBA rfl hb3 ag49 rfl (mv rfl rfl ?_)
         replace hm := hm0.ext ((q1.next q2).next q3)
         refine cl (ev2 rfl rfl) co43 (block_ok m l t r n' _ hm h0 (by omega)) rfl ?_
         rintro _ w7 ⟨X32, rfl, hX, q7⟩
         have z7 := q7.size
         have hX0 := hX
         obtain ⟨AX, cX, rfl, _⟩ := hX.form
         refine mv rfl rfl (xt rfl rfl rfl (xt rfl rfl rfl (al zv47 rfl rfl (fun g9 w8 hg9 hb9 q8 z8 => ?_))))
         refine s_storeBA rfl rfl hb9 rfl (by first | (simp [Value.oneCell', S]; done) | exact Enc.one _ _) sz47 (fun w9 hb9 q9 z9 => ?_)
         refine asg rfl rfl (kpL [(2, _), (6, _), (9, _), (10, _)] (.cons rfl (.cons rfl (.cons rfl (.cons rfl .nil)))) (nn (sq (sr (mv rfl rfl (ne' rfl rfl rfl (nn ?_)))))))
         refine cd rfl (fun c3 => ?_) (fun c3 => ?_)
         · refine sr (s_lit (cs := [_]) evs_nil bo47 pok_nil rfl rfl ?_)
           refine mv rfl rfl ?_
           replace hb6 := (hb6.ext ((q3.next q7).next q8)).fr q9 (by first | (simp; done) | (simp; omega) | (simp [blks]; done) | (simp [blks]; omega))
           refine s_storeBA rfl rfl hb6 rfl (by first | (simp [Value.oneCell', S]; done) | exact Enc.one _ _) sz47 (fun w10 hb6 q10 z10 => ?_)
           refine asg rfl rfl (kpL [(6, _), (7, _)] (.cons rfl (.cons rfl .nil)) (nn (rt (tr (rCT Tryd.results24 rfl hb6 ag47 rfl ?_)))))
           have he := stk_blk (m := m) (n := (n' : Int)) (up := (u' : Int)) h0 c1 c3
           have hs : stackS m n' u' = [] := by rw [stackS, if_neg (by rw [he.1]; decide)]
           exact ⟨_, rfl, .slice none 0 0, by rw [he.1]; rw [show blkE m n' = 3 from he.2]; rfl, by rw [hs]; exact OwR.nil _, ((((((q1.next q2).next q3).next q7).next q8).step q9 (by first | (simp; done) | (simp; omega))).step q10 (by first | (simp; done) | (simp; omega)))⟩
         · replace hX := hX0.ext (q8.step q9 (by first | (simp; done) | (simp; omega)))
           have hb0 : blkE m n' = 0 := Classical.not_not.1 c3
           rw [if_pos hb0] at hX hX0 hb9
           refine sk (tn (sr (s_loadBA rfl hb9 ag47 rfl (s_bslice ([((AX, (sideM m n').length, cX), sideM m n')]) (ev1 rfl) rfl rfl rfl el34 (Nat.le_of_ble_eq_true rfl) rfl (fun g41 w11 hg41 ho41 q11 z11 => ?_)))))
           refine mv rfl rfl ?_
           refine cl (ev2 rfl rfl) co45 (repeat_ok _ ((AX, (sideM m n').length, cX), sideM m n') u' _ ho41.sl (by omega)) rfl ?_
           rintro _ w12 ⟨ho43, q12⟩
           have z12 := q12.size
           replace hX := hX0.ext (((q8.step q9 (by first | (simp; done) | (simp; omega))).next q11).next q12)
           refine cl (ev1 rfl) co44 (above_ok _ (List.replicate u' ((AX, (sideM m n').length, cX), sideM m n')) _ ho43.sl (fun q hq => by rw [List.eq_of_mem_replicate hq]; exact hX.sll) (by rw [List.length_replicate]; omega)) rfl ?_
           rintro _ w13 ⟨X44, rfl, hY, q13⟩
           have z13 := q13.size
           have hY0 := hY
           obtain ⟨AY, cY, rfl, _⟩ := hY.form
           refine mv rfl rfl (xt rfl rfl rfl (xt rfl rfl rfl (al zv47 rfl rfl (fun g11 w14 hg11 hb11 q14 z14 => ?_))))
           refine s_storeBA rfl rfl hb11 rfl (by first | (simp [Value.oneCell', S]; done) | exact Enc.one _ _) sz47 (fun w15 hb11 q15 z15 => ?_)
           refine asg rfl rfl (kpL [(6, _), (10, _), (11, _)] (.cons rfl (.cons rfl (.cons rfl .nil))) (nn (sq (sr (mv rfl rfl (ne' rfl rfl rfl (nn ?_)))))))
           refine cd rfl (fun c4 => ?_) (fun c4 => ?_)
           · have hab := stk_abv (s := (AX, (sideM m n').length, cX)) h0 c1 (show blkE m ((n' : Int).toNat) = 0 from hb0)
             refine sr (s_lit (cs := [_]) evs_nil bo47 pok_nil rfl rfl ?_)
             refine mv rfl rfl ?_
             replace hb6 := (((hb6.ext ((q3.next q7).next q8)).fr q9 (by first | (simp; done) | (simp; omega) | (simp [blks]; done) | (simp [blks]; omega))).ext (((q11.next q12).next q13).next q14)).fr q15 (by first | (simp; done) | (simp; omega) | (simp [blks]; done) | (simp [blks]; omega))
             refine s_storeBA rfl rfl hb6 rfl (by first | (simp [Value.oneCell', S]; done) | exact Enc.one _ _) sz47 (fun w16 hb6 q16 z16 => ?_)
             refine asg rfl rfl (nn (rt (tr (rCT Tryd.results24 rfl hb6 ag47 rfl ?_))))
             have he := hab.2.1 c4
             have h3 : abvE (List.replicate u' ((AX, (sideM m n').length, cX), sideM m n')) = 3 := by have h1 : abvE (List.replicate u' ((AX, (sideM m n').length, cX), sideM m n')) = _ := hab.1; rw [h1]; rw [h1] at c4; split at c4; rw [if_pos (by assumption)]; exact absurd rfl c4
             have hs : stackS m n' u' = [] := by rw [stackS, if_neg (by rw [he]; decide)]
             exact ⟨_, rfl, .slice none 0 0, by rw [he, h3]; rfl, by rw [hs]; exact OwR.nil _, (((((((((((q1.next q2).next q3).next q7).next q8).step q9 (by first | (simp; done) | (simp; omega))).next q11).next q12).next q13).next q14).step q15 (by first | (simp; done) | (simp; omega))).step q16 (by first | (simp; done) | (simp; omega)))⟩
           · replace hY := hY0.fr (((Fr.refl [g6] _).next q14).step q15 (by first | (simp; done) | (simp; omega))) (by intro k hk; simp at hk; omega)
             have ha0 : abvE (List.replicate u' ((AX, (sideM m n').length, cX), sideM m n')) = 0 := Classical.not_not.1 c4
             have hab := (stk_abv (s := (AX, (sideM m n').length, cX)) h0 c1 (show blkE m ((n' : Int).toNat) = 0 from hb0)).2.2 ha0
             rw [if_pos ha0] at hY hY0 hb11
             have hfl : (List.replicate u' ((AX, (sideM m n').length, cX), sideM m n')).flatMap Prod.snd = stackM m n' u' := rep_flat _ _
             rw [hfl] at hY hY0 hb11
             refine sk (tn (sq (sr (s_loadBA rfl hb11 ag47 rfl ?_))))
             refine cl (ev1 rfl) co46 (check_chart_ok _ (stackM m n' u') _ hY.sll) rfl ?_
             rintro _ w17 ⟨rfl, q17⟩
             have z17 := q17.size
             refine asg rfl rfl (nn (sr (mv rfl rfl (ne' rfl rfl rfl (nn ?_)))))
             refine cd rfl (fun c5 => ?_) (fun c5 => ?_)
             · refine sr (s_lit (cs := [_]) evs_nil bo47 pok_nil rfl rfl ?_)
               refine mv rfl rfl ?_
               replace hb6 := ((((hb6.ext ((q3.next q7).next q8)).fr q9 (by first | (simp; done) | (simp; omega) | (simp [blks]; done) | (simp [blks]; omega))).ext (((q11.next q12).next q13).next q14)).fr q15 (by first | (simp; done) | (simp; omega) | (simp [blks]; done) | (simp [blks]; omega))).ext q17
               refine s_storeBA rfl rfl hb6 rfl (by first | (simp [Value.oneCell', S]; done) | exact Enc.one _ _) sz47 (fun w18 hb6 q18 z18 => ?_)
               refine asg rfl rfl (nn (rt (tr (rCT Tryd.results24 rfl hb6 ag47 rfl ?_))))
               have hs : stackS m n' u' = [] := by rw [stackS, if_neg (by rw [hab]; exact c5)]
               exact ⟨_, rfl, .slice none 0 0, by rw [hab]; rfl, by rw [hs]; exact OwR.nil _, ((((((((((((q1.next q2).next q3).next q7).next q8).step q9 (by first | (simp; done) | (simp; omega))).next q11).next q12).next q13).next q14).step q15 (by first | (simp; done) | (simp; omega))).next q17).step q18 (by first | (simp; done) | (simp; omega)))⟩
             · refine sk (tn (sr ?_))
               replace hb11 := hb11.ext q17
               refine s_loadBA rfl hb11 ag47 rfl ?_
               replace hb6 := ((((hb6.ext ((q3.next q7).next q8)).fr q9 (by first | (simp; done) | (simp; omega) | (simp [blks]; done) | (simp [blks]; omega))).ext (((q11.next q12).next q13).next q14)).fr q15 (by first | (simp; done) | (simp; omega) | (simp [blks]; done) | (simp [blks]; omega))).ext q17
               refine s_storeBA rfl rfl hb6 rfl (by first | (simp [Value.oneCell', S]; done) | exact Enc.one _ _) sz47 (fun w19 hb6 q19 z19 => ?_)
               refine asg rfl rfl (nn (rt (rCT Tryd.results24 rfl hb6 ag47 rfl ?_)))
               replace hY := hY0.fr (((((Fr.refl [g6] _).next q14).step q15 (by first | (simp; done) | (simp; omega))).next q17).step q19 (by first | (simp; done) | (simp; omega))) (by intro k hk; simp at hk; omega)
               have hz : stackE m n' u' = 0 := by rw [hab]; exact Classical.not_not.1 c5
               have hs : stackS m n' u' = stackM m n' u' := by rw [stackS, if_pos hz]; rfl
               exact ⟨_, rfl, .slice AY (stackM m n' u').length cY, by rw [hz], by rw [hs]; exact hY.low (by omega), ((((((((((((q1.next q2).next q3).next q7).next q8).step q9 (by first | (simp; done) | (simp; omega))).next q11).next q12).next q13).next q14).step q15 (by first | (simp; done) | (simp; omega))).next q17).step q19 (by first | (simp; done) | (simp; omega)))⟩
end Go.Proofs.YthehggmdcmpjeaaDoor
namespace Go.Proofs.YthehggmdcmpjeaaDoor
open Go.Lw Go.G14
theorem co53 : CallOf Tryd.prog 53 := CallOf.mk' Tryd.func53 (by kernel_rfl) (by kernel_rfl)
set_option maxHeartbeats 4000000 in
theorem refstack_ok (m : Mot) (l t r : SV) (n up : Int) (w0 : World) (hm : MotAt w0 m l t r) (hn : n ≤ 100) (hu : up ≤ 100) : Rets Tryd.prog 29 #[.agg #[.slice l.1 l.2.1 l.2.2, .slice t.1 t.2.1 t.2.2, .slice r.1 r.2.1 r.2.2], .int .i64 n, .int .i64 up] w0 fun v w' => ∃ X, v = .tuple #[.agg #[X], .int .i64 (stackE m n up)] ∧ OwR 61 100 w0.heap.size w' X (stackS m n up) ∧ Fr [] w0 w' := by
 obtain ⟨rsL, hrsL, hqL, hmL⟩ := Sll.opn hm.L
 have hnL := sl_len hrsL
 have hlL : rsL.length = m.L.length := by rw [← hmL, List.length_map]
 obtain ⟨rsT, hrsT, hqT, hmT⟩ := Sll.opn hm.T
 have hnT := sl_len hrsT
 have hlT : rsT.length = m.T.length := by rw [← hmT, List.length_map]
 obtain ⟨rsR, hrsR, hqR, hmR⟩ := Sll.opn hm.R
 have hnR := sl_len hrsR
 have hlR : rsR.length = m.R.length := by rw [← hmR, List.length_map]
 refine we [(0, .agg #[.slice l.1 l.2.1 l.2.2, .slice t.1 t.2.1 t.2.2, .slice r.1 r.2.1 r.2.2]), (1, .int .i64 n), (2, .int .i64 up)] Tryd.func29 rfl Tryd.ntmps29 rfl (.cons rfl (.cons rfl (.cons rfl .nil))) ?_
 have hm0 := hm
 have hrsL0 := hrsL
 have hqL0 := hqL
 have hrsT0 := hrsT
 have hqT0 := hqT
 have hrsR0 := hrsR
 have hqR0 := hqR
 refine sr (bx rfl rfl rfl (fun g3 w1 hg3 hb3 q1 z1 => ?_))
 refine al zv47 rfl rfl (fun g6 w2 hg6 hb6 q2 z2 => ?_)
 refine asg rfl rfl (nn (sq (sr ?_)))
 replace hb3 := hb3.ext q2
 refine s_loadBA rfl hb3 ag49 rfl ?_
 replace hm := hm0.ext (q1.next q2)
 refine cl (ev1 rfl) co22 (refmot_ok _ _ _ _ _ hm) rfl ?_
 rintro _ w3 ⟨rfl, q3⟩
 have z3 := q3.size
 refine asg rfl rfl (nn (sr (mv rfl rfl (ne' rfl rfl rfl (nn ?_)))))
 refine cd rfl (fun c0 => ?_) (fun c0 => ?_)
 · refine sr (s_lit (cs := [_]) evs_nil bo47 pok_nil rfl rfl ?_)
   refine mv rfl rfl ?_
   replace hb6 := hb6.ext q3
   refine s_storeBA rfl rfl hb6 rfl (by first | (simp [Value.oneCell', S]; done) | exact Enc.one _ _) sz47 (fun w4 hb6 q4 z4 => ?_)
   refine asg rfl rfl (kpL [(6, _), (7, _)] (.cons rfl (.cons rfl .nil)) (nn (rt (tr (rCT Tryd.results29 rfl hb6 ag47 rfl ?_)))))
   have he := stk_mot (m := m) (n := n) (up := up) c0
   have hs : stackS m n up = [] := by rw [stackS, if_neg (by rw [he]; exact c0)]
   exact ⟨_, rfl, .slice none 0 0, by rw [he], by rw [hs]; exact OwR.nil _, (((q1.next q2).next q3).step q4 (by first | (simp; done) | (simp; omega)))⟩
 · have h0 : motE m = 0 := Classical.not_not.1 c0
   obtain ⟨a1, a2, a3, a4, a5, a6, a7⟩ := mot_all h0
   have hT31 := (large_len a2).1
   refine sk (tn (sq (sq ?_)))
   refine rbo (r := 27) (L' := [(1, _), (2, _), (3, _), (6, _)]) (((n < 1) ∨ (up < 1))) (.cons rfl (.cons rfl (.cons rfl (.cons rfl .nil)))) ?_ ?_
   · refine mv rfl rfl (lt' rfl rfl rfl (mv rfl rfl ?_))
     refine gs 24 rfl (fun g0 => ?_) (fun g0 => ?_)
     · exact gN rfl rfl rfl (gN rfl rfl rfl (pkt rfl rfl rfl rfl (rbe rfl (by first | exact bt (by omega) | exact bf (by omega) | exact bi (by omega) | exact bn (by omega) | (simp_all; done) | (simp_all; omega)) (.cons rfl (.cons rfl (.cons rfl (.cons rfl .nil)))))))
     · exact gY rfl (mv rfl rfl (gY rfl (lt' rfl rfl rfl (pkf rfl rfl rfl rfl (rbe rfl (by first | exact bt (by omega) | exact bf (by omega) | exact bi (by omega) | exact bn (by omega) | (simp_all; done) | (simp_all; omega)) (.cons rfl (.cons rfl (.cons rfl (.cons rfl .nil)))))))))
   · refine tn ?_
     refine cd rfl (fun c1 => ?_) (fun c1 => ?_)
     · refine sr (s_lit (cs := [_]) evs_nil bo47 pok_nil rfl rfl ?_)
       replace hb6 := hb6.ext q3
       refine s_storeBA rfl rfl hb6 rfl (by first | (simp [Value.oneCell', S]; done) | exact Enc.one _ _) sz47 (fun w5 hb6 q5 z5 => ?_)
       refine asg rfl rfl (nn (rt (tr (rCT Tryd.results29 rfl hb6 ag47 rfl ?_))))
       have he := stk_arg (m := m) (n := n) (up := up) h0 c1
       have hs : stackS m n up = [] := by rw [stackS, if_neg (by rw [he]; decide)]
       exact ⟨_, rfl, .slice none 0 0, by rw [he], by rw [hs]; exact OwR.nil _, (((q1.next q2).next q3).step q5 (by first | (simp; done) | (simp; omega)))⟩
     · obtain ⟨n', rfl⟩ := Int.eq_ofNat_of_zero_le (show 0 ≤ n by omega)
       obtain ⟨u', rfl⟩ := Int.eq_ofNat_of_zero_le (show 0 ≤ up by omega)
       refine sk (tn (sr (al zv47 rfl rfl (fun g9 w6 hg9 hb9 q6 z6 => ?_))))
       refine nn (sq (sr (asg rfl rfl (nn (bl ?_)))))
       replace hb3 := hb3.ext (q3.next q6)
       replace hb6 := hb6.ext (q3.next q6)
       skip
       have hb30 := hb3
       have hb60 := hb6
       skip
       refine lpK (ι := Nat × Value × List RQ) [(1, _), (2, _), (3, _), (6, _), (9, _)] (fun p => [(10, .int .i64 (p.1 : Int))]) (fun p w' => Fr [g9] w6 w' ∧ p.1 ≤ u' ∧ p.2.2.map Prod.snd = stackM m n' p.1 ∧ Blk w' g9 47 [p.2.1] ∧ Lw.Own encRq 61 (g9 + 1) w' p.2.1 p.2.2 ∧ RwO 100 (g9 + 1) w' p.2.2) (fun p => u' - p.1) (0, .slice none 0 0, []) (.cons rfl (.cons rfl (.cons rfl (.cons rfl (.cons rfl (.cons rfl .nil)))))) ⟨(Fr.refl _ _), ⟨Nat.zero_le _, rfl, hb9, Own.nil _, RwO.nil⟩⟩ ?_
       rintro ⟨u, vC, rx⟩ w7 ⟨q7, ⟨hiu, hrx, hb9, hoC, hwr⟩⟩
       simp only at hiu hrx hb9 hoC hwr
       have z7 := q7.size
       have lt_hb9 := hb9.lt
       have hwr0 := hwr
       refine kpC [(1, _), (2, _), (3, _), (6, _), (9, _), (10, .int .i64 (u : Int))] (.cons rfl (.cons rfl (.cons rfl (.cons rfl (.cons rfl (.cons rfl .nil)))))) ?_
       refine sq (sr (mv rfl rfl (mv rfl rfl (lt' rfl rfl rfl (nn ?_)))))
       refine cd rfl (fun c2 => ?_) (fun c2 => ?_)
       · refine sk (tn (sq (bl (sr (asg rfl rfl (nn (bl ?_)))))))
         refine lpK (ι := Nat × Value × List RQ) [(1, _), (2, _), (3, _), (6, _), (9, _), (10, _)] (fun p => [(11, .int .i64 (p.1 : Int))]) (fun p w' => Fr [g9] w6 w' ∧ p.1 ≤ m.T.length ∧ p.2.2.map Prod.snd = stackM m n' u ++ (sideM m n').take p.1 ∧ Blk w' g9 47 [p.2.1] ∧ Lw.Own encRq 61 (g9 + 1) w' p.2.1 p.2.2 ∧ RwO 100 (g9 + 1) w' p.2.2) (fun p => m.T.length - p.1) (0, vC, rx) (.cons rfl (.cons rfl (.cons rfl (.cons rfl (.cons rfl (.cons rfl (.cons rfl .nil))))))) ⟨((Fr.refl [g9] _).step q7 (by first | (simp; done) | (simp; omega))), ⟨Nat.zero_le _, by simpa using hrx, hb9, hoC, hwr⟩⟩ ?_
         rintro ⟨i, vC, rx⟩ w8 ⟨q8, ⟨hii, hrx, hb9, hoC, hwr⟩⟩
         simp only at hii hrx hb9 hoC hwr
         have z8 := q8.size
         have lt_hb9 := hb9.lt
         have hwr0 := hwr
         refine kpC [(1, _), (2, _), (3, _), (6, _), (9, _), (10, _), (11, .int .i64 (i : Int))] (.cons rfl (.cons rfl (.cons rfl (.cons rfl (.cons rfl (.cons rfl (.cons rfl .nil))))))) ?_
         refine sq (sr (mv rfl rfl (fad rfl fa49_1 rfl (s_fad2 rfl fa47_0 rfl ?_))))
         replace hb3 := hb30.fr ((Fr.refl [g9] _).step q8 (by first | (simp; done) | (simp; omega))) (by first | (simp; done) | (simp; omega))
         refine s_loadB rfl hb3 rfl na45 rfl (lnS rfl Tryd.underlying45 rfl (lt' rfl rfl rfl (nn ?_)))
         refine cd rfl (fun c3 => ?_) (fun c3 => ?_)
         · have hgL := map_getD Prod.snd rsL i rq0 []
           rw [hmL] at hgL
           have hgT := map_getD Prod.snd rsT i rq0 []
           rw [hmT] at hgT
           have hgR := map_getD Prod.snd rsR i rq0 []
           rw [hmR] at hgR
           have h16L : (m.L.getD i []).length ≤ 16 := by
             rcases Nat.lt_or_ge i m.L.length with h | h
             · exact (large_len a1).2 _ (getD_memS h)
             · rw [List.getD, List.getElem?_eq_none h]; simp
           have h16T : (m.T.getD i []).length ≤ 16 := (large_len a2).2 _ (getD_memS (by omega))
           have h16R : (m.R.getD i []).length ≤ 16 := by
             rcases Nat.lt_or_ge i m.R.length with h | h
             · exact (large_len a3).2 _ (getD_memS h)
             · rw [List.getD, List.getElem?_eq_none h]; simp
           have hrwl := congrArg List.length hrx
           rw [List.length_append, List.length_map, stackM_len, List.length_take, sideM_len] at hrwl
           have hub : u * m.T.length ≤ 100 * 31 := Nat.mul_le_mul (by omega) (by omega)
           have hb90 := hb9
           have hoC0 := hoC
           have hwr0 := hwr
           obtain ⟨NR, hNR⟩ : ∃ N, N = w8.heap.size := ⟨_, rfl⟩
           refine sk (tn (sq (bl (sr (asg rfl rfl (nn ?_))))))
           refine jn (ι := Value) [(1, _), (2, _), (3, _), (6, _), (9, _), (10, _), (11, _)] (fun vR => [(12, vR)]) (fun vR w' => Fr [] w8 w' ∧ Lw.Own encSt 100 NR w' vR (m.L.getD i [])) (.cons rfl (.cons rfl (.cons rfl (.cons rfl (.cons rfl (.cons rfl (.cons rfl .nil))))))) ?_ ?_
           · refine sr (fad rfl fa49_0 rfl (s_fad2 rfl fa47_0 rfl (s_loadB rfl hb3 rfl na45 rfl (lnS rfl Tryd.underlying45 rfl (gt' rfl rfl rfl (nn ?_))))))
             refine cd rfl (fun c4 => ?_) (fun c4 => ?_)
             · refine rg (mv rfl rfl (fad rfl fa49_0 rfl (s_fad2 rfl fa47_0 rfl (s_loadB rfl hb3 rfl na45 rfl (mv rfl rfl ?_)))))
               replace hrsL := hrsL0.ext ((((q1.next q2).next q3).next q6).step q8 (by first | (simp; done) | (simp; omega)))
               refine s_idxL (rq0) rfl hrsL rfl er45 (by omega) (by omega) nat_of rfl (fun ad52 hc52 => ?_)
               refine s_loadC0 rfl (hc52 _ hrsL) na61 rfl ?_
               have hgL2 := congrArg List.length (hgL (by omega))
               replace hqL := hqL0.ext ((((q1.next q2).next q3).next q6).step q8 (by first | (simp; done) | (simp; omega)))
               refine s_append (base := NR) rfl rfl (Own.nil _) (hqL (rsL.getD i rq0) (getD_memS (by omega))) el61 (by unfold maxLen; simp only [List.length_nil]; omega) (by simp only [List.length_nil]; omega) (by omega) rfl (fun v54 w9 hoR q9 hor54 => ?_)
               have z9 := q9.size
               rw [List.nil_append, ← hgL (by omega)] at hoR
               refine asg rfl rfl (kpL [(1, _), (2, _), (3, _), (6, _), (9, _), (10, _), (11, _), (12, _)] (.cons rfl (.cons rfl (.cons rfl (.cons rfl (.cons rfl (.cons rfl (.cons rfl (.cons rfl .nil)))))))) (nl ?_))
               exact jE (v54) (.cons rfl (.cons rfl (.cons rfl (.cons rfl (.cons rfl (.cons rfl (.cons rfl (.cons rfl .nil)))))))) ⟨q9, hoR⟩
             · refine sk ?_
               exact jE (.slice none 0 0) (.cons rfl (.cons rfl (.cons rfl (.cons rfl (.cons rfl (.cons rfl (.cons rfl (.cons rfl .nil)))))))) ⟨(Fr.refl _ _), (by rw [getD_nil (by omega)]; exact Own.nil _)⟩
           · rintro vR w10 ⟨q10, hoR⟩
             have z10 := q10.size
             refine kpC [(1, _), (2, _), (3, _), (6, _), (9, _), (10, _), (11, _), (12, _)] (.cons rfl (.cons rfl (.cons rfl (.cons rfl (.cons rfl (.cons rfl (.cons rfl (.cons rfl .nil)))))))) ?_
             refine sq (sr (asg rfl rfl (nn (bl ?_))))
             refine lpK (ι := Nat × Value) [(1, _), (2, _), (3, _), (6, _), (9, _), (10, _), (11, _)] (fun p => [(13, .int .i64 (p.1 : Int)), (12, p.2)]) (fun p w' => Fr [] w8 w' ∧ p.1 ≤ n' ∧ Lw.Own encSt 100 NR w' p.2 (m.L.getD i [] ++ (List.replicate p.1 (m.T.getD i [])).flatten)) (fun p => n' - p.1) (0, vR) (.cons rfl (.cons rfl (.cons rfl (.cons rfl (.cons rfl (.cons rfl (.cons rfl (.cons rfl (.cons rfl .nil))))))))) ⟨q10, ⟨Nat.zero_le _, by simpa using hoR⟩⟩ ?_
             rintro ⟨k, vK⟩ w11 ⟨q11, ⟨hik, hoR⟩⟩
             simp only at hik hoR
             have z11 := q11.size
             refine kpC [(1, _), (2, _), (3, _), (6, _), (9, _), (10, _), (11, _), (13, .int .i64 (k : Int)), (12, vK)] (.cons rfl (.cons rfl (.cons rfl (.cons rfl (.cons rfl (.cons rfl (.cons rfl (.cons rfl (.cons rfl .nil))))))))) ?_
             refine sq (sr (mv rfl rfl (mv rfl rfl (lt' rfl rfl rfl (nn ?_)))))
             refine cd rfl (fun c5 => ?_) (fun c5 => ?_)
             · refine sk (tn (sq (bl (rg (mv rfl rfl (fad rfl fa49_1 rfl (s_fad2 rfl fa47_0 rfl ?_)))))))
               replace hb3 := hb30.fr (((Fr.refl [g9] _).step q8 (by first | (simp; done) | (simp; omega))).next q11) (by first | (simp; done) | (simp; omega))
               refine s_loadB rfl hb3 rfl na45 rfl (mv rfl rfl ?_)
               replace hrsT := hrsT0.ext (((((q1.next q2).next q3).next q6).step q8 (by first | (simp; done) | (simp; omega))).next q11)
               refine s_idxL (rq0) rfl hrsT rfl er45 (by omega) (by omega) nat_of rfl (fun ad65 hc65 => ?_)
               refine s_loadC0 rfl (hc65 _ hrsT) na61 rfl ?_
               have hrl := row_rep_le h16T k
               have hgT2 := congrArg List.length (hgT (by omega))
               replace hqT := hqT0.ext (((((q1.next q2).next q3).next q6).step q8 (by first | (simp; done) | (simp; omega))).next q11)
               have hoo67 := hoR
               refine s_append rfl rfl hoR (hqT (rsT.getD i rq0) (getD_memS (by omega))) el61 (by unfold maxLen; simp only [List.length_append]; omega) (by simp only [List.length_append]; omega) (by omega) rfl (fun v67 w12 hoR q12 hor67 => ?_)
               have z12 := q12.size
               refine asg rfl rfl (kpL [(1, _), (2, _), (3, _), (6, _), (9, _), (10, _), (11, _), (12, _), (13, _)] (.cons rfl (.cons rfl (.cons rfl (.cons rfl (.cons rfl (.cons rfl (.cons rfl (.cons rfl (.cons rfl .nil))))))))) (nl (bn' (tn (rg (mv rfl rfl (s_add rfl rfl (wi6 (by omega)) rfl (asg rfl rfl (nl ?_)))))))))
               exact lpE ((k + 1, v67)) (.cons rfl (.cons rfl (.cons rfl (.cons rfl (.cons rfl (.cons rfl (.cons rfl (.cons rfl (.cons rfl .nil))))))))) ⟨(q11.step q12 (fun k hk hlt => absurd (hoo67.blk k hk).1 (by omega))), ⟨by simp only; omega, by rw [rep_flat_succ, ← List.append_assoc, hgT (by omega)]; rw [hgT (by omega)] at hoR; exact hoR⟩⟩ (by simp only; omega)
             · obtain rfl : n' = k := by omega
               refine ex (te (te (xh (tn (sq (sr (fad rfl fa49_2 rfl (s_fad2 rfl fa47_0 rfl ?_))))))))
               replace hb3 := hb30.fr (((Fr.refl [g9] _).step q8 (by first | (simp; done) | (simp; omega))).next q11) (by first | (simp; done) | (simp; omega))
               refine s_loadB rfl hb3 rfl na45 rfl (lnS rfl Tryd.underlying45 rfl (gt' rfl rfl rfl (kpL [(1, _), (2, _), (3, _), (6, _), (9, _), (10, _), (11, _), (12, _), (72, _)] (.cons rfl (.cons rfl (.cons rfl (.cons rfl (.cons rfl (.cons rfl (.cons rfl (.cons rfl (.cons rfl .nil))))))))) (nn ?_))))
               refine cd rfl (fun c6 => ?_) (fun c6 => ?_)
               · refine rg (mv rfl rfl (fad rfl fa49_2 rfl (s_fad2 rfl fa47_0 rfl (s_loadB rfl hb3 rfl na45 rfl (mv rfl rfl ?_)))))
                 replace hrsR := hrsR0.ext (((((q1.next q2).next q3).next q6).step q8 (by first | (simp; done) | (simp; omega))).next q11)
                 refine s_idxL (rq0) rfl hrsR rfl er45 (by omega) (by omega) nat_of rfl (fun ad78 hc78 => ?_)
                 refine s_loadC0 rfl (hc78 _ hrsR) na61 rfl ?_
                 have hrl := row_rep_le h16T n'
                 have hgR2 := congrArg List.length (hgR (by omega))
                 replace hqR := hqR0.ext (((((q1.next q2).next q3).next q6).step q8 (by first | (simp; done) | (simp; omega))).next q11)
                 have hoo80 := hoR
                 refine s_append rfl rfl hoR (hqR (rsR.getD i rq0) (getD_memS (by omega))) el61 (by unfold maxLen; simp only [List.length_append]; omega) (by simp only [List.length_append]; omega) (by omega) rfl (fun v80 w13 hoR q13 hor80 => ?_)
                 have z13 := q13.size
                 replace hoR : Lw.Own encSt 100 NR w13 v80 (sideR m n' i) := by rw [← hgR (by omega), List.append_assoc] at hoR; exact hoR
                 obtain ⟨AR, cR, rfl, _⟩ := hoR.sl.form
                 refine asg rfl rfl (kpL [(1, _), (2, _), (3, _), (6, _), (9, _), (10, _), (11, _), (12, _)] (.cons rfl (.cons rfl (.cons rfl (.cons rfl (.cons rfl (.cons rfl (.cons rfl (.cons rfl .nil)))))))) (nl (tn (rg (fad rfl fa47_0 rfl ?_)))))
                 replace hb9 := hb90.ext (q11.step q13 (fun k hk hlt => absurd (hoo80.blk k hk).1 (by omega)))
                 refine s_loadB rfl hb9 rfl na45 rfl (mv rfl rfl (s_bslice ([((AR, (sideR m n' i).length, cR), sideR m n' i)]) (ev1 rfl) rfl rfl rfl er45 (Nat.le_of_ble_eq_true rfl) rfl (fun g84 w14 hg84 ho84 q14 z14 => ?_)))
                 replace hwr := hwr0.fr ((((Fr.refl [g9, g6] _).next q11).step q13 (fun k hk hlt => absurd (hoo80.blk k hk).1 (by omega))).next q14) (by intro k hk; simp at hk; omega)
                 replace hoR := hoR.ext q14
                 have hwr2 := hwr.snoc (q := ((AR, (sideR m n' i).length, cR), sideR m n' i)) (hoR.low (by omega))
                 replace hb9 := hb90.ext ((q11.step q13 (fun k hk hlt => absurd (hoo80.blk k hk).1 (by omega))).next q14)
                 replace hoC := hoC0.ext ((q11.step q13 (fun k hk hlt => absurd (hoo80.blk k hk).1 (by omega))).next q14)
                 have hoo85 := hoC
                 refine s_append rfl rfl hoC ho84.sl er45 (by unfold maxLen; simp only [List.length_cons, List.length_nil]; omega) (by simp only [List.length_cons, List.length_nil]; omega) (by omega) rfl (fun v85 w15 hoC q15 hor85 => ?_)
                 have z15 := q15.size
                 replace hb9 := hb9.fr q15 (hoo85.neB hb9 (by decide))
                 replace hwr2 := ap_rows hwr2 hoo85 q15 (by decide)
                 obtain ⟨AC, cC, rfl, _⟩ := hoC.sl.form
                 skip
                 refine fad rfl fa47_0 rfl (s_storeB rfl rfl hb9 rfl rfl rfl sz45 (fun w16 hb9 q16 z16 => ?_))
                 replace hb9 : Blk w16 g9 _ [_] := hb9
                 refine kpL [(1, _), (2, _), (3, _), (6, _), (9, _), (10, _), (11, _)] (.cons rfl (.cons rfl (.cons rfl (.cons rfl (.cons rfl (.cons rfl (.cons rfl .nil))))))) (nl (bn' (tn (rg (mv rfl rfl (s_add rfl rfl (wi6 (by omega)) rfl (asg rfl rfl (nl ?_))))))))
                 replace hoC := hoC.fr q16 (by first | (simp; done) | (simp; omega) | (simp [blks]; done) | (simp [blks]; omega) | (intro k hk hb; simp at hk; subst hk; have := hoC.blk _ hb; omega))
                 replace hwr2 := hwr2.fr q16 (by intro k hk; simp at hk; omega)
                 exact lpE ((i + 1, _, rx ++ [((AR, (sideR m n' i).length, cR), sideR m n' i)])) (.cons rfl (.cons rfl (.cons rfl (.cons rfl (.cons rfl (.cons rfl (.cons rfl .nil))))))) ⟨(((((((Fr.refl [g9] _).step q8 (by first | (simp; done) | (simp; omega))).next q11).step q13 (fun k hk hlt => absurd (hoo80.blk k hk).1 (by omega))).next q14).step q15 (fun k hk hlt => absurd (hoo85.blk k hk).1 (by omega))).step q16 (by first | (simp; done) | (simp; omega))), ⟨by simp only; omega, by simp only [List.map_append, List.map_singleton, hrx]; rw [stackM_take m n' u i (by omega), List.append_assoc], hb9, hoC, hwr2⟩⟩ (by simp only; omega)
               · replace hoR : Lw.Own encSt 100 NR w11 vK (sideR m n' i) := by unfold sideR; rw [getD_nil (c := m.R) (by omega), List.append_nil]; exact hoR
                 obtain ⟨AR, cR, rfl, _⟩ := hoR.sl.form
                 refine sk (tn (rg (fad rfl fa47_0 rfl ?_)))
                 replace hb9 := hb90.ext q11
                 refine s_loadB rfl hb9 rfl na45 rfl (mv rfl rfl (s_bslice ([((AR, (sideR m n' i).length, cR), sideR m n' i)]) (ev1 rfl) rfl rfl rfl er45 (Nat.le_of_ble_eq_true rfl) rfl (fun g84 w17 hg84 ho84 q17 z17 => ?_)))
                 replace hwr := hwr0.fr (((Fr.refl [g9, g6] _).next q11).next q17) (by intro k hk; simp at hk; omega)
                 replace hoR := hoR.ext q17
                 have hwr2 := hwr.snoc (q := ((AR, (sideR m n' i).length, cR), sideR m n' i)) (hoR.low (by omega))
                 replace hb9 := hb90.ext (q11.next q17)
                 replace hoC := hoC0.ext (q11.next q17)
                 have hoo85 := hoC
                 refine s_append rfl rfl hoC ho84.sl er45 (by unfold maxLen; simp only [List.length_cons, List.length_nil]; omega) (by simp only [List.length_cons, List.length_nil]; omega) (by omega) rfl (fun v85 w18 hoC q18 hor85 => ?_)
                 have z18 := q18.size
                 replace hb9 := hb9.fr q18 (hoo85.neB hb9 (by decide))
                 replace hwr2 := ap_rows hwr2 hoo85 q18 (by decide)
                 obtain ⟨AC, cC, rfl, _⟩ := hoC.sl.form
                 skip
                 refine fad rfl fa47_0 rfl (s_storeB rfl rfl hb9 rfl rfl rfl sz45 (fun w19 hb9 q19 z19 => ?_))
                 replace hb9 : Blk w19 g9 _ [_] := hb9
                 refine kpL [(1, _), (2, _), (3, _), (6, _), (9, _), (10, _), (11, _)] (.cons rfl (.cons rfl (.cons rfl (.cons rfl (.cons rfl (.cons rfl (.cons rfl .nil))))))) (nl (bn' (tn (rg (mv rfl rfl (s_add rfl rfl (wi6 (by omega)) rfl (asg rfl rfl (nl ?_))))))))
                 replace hoC := hoC.fr q19 (by first | (simp; done) | (simp; omega) | (simp [blks]; done) | (simp [blks]; omega) | (intro k hk hb; simp at hk; subst hk; have := hoC.blk _ hb; omega))
                 replace hwr2 := hwr2.fr q19 (by intro k hk; simp at hk; omega)
                 exact lpE ((i + 1, _, rx ++ [((AR, (sideR m n' i).length, cR), sideR m n' i)])) (.cons rfl (.cons rfl (.cons rfl (.cons rfl (.cons rfl (.cons rfl (.cons rfl .nil))))))) ⟨((((((Fr.refl [g9] _).step q8 (by first | (simp; done) | (simp; omega))).next q11).next q17).step q18 (fun k hk hlt => absurd (hoo85.blk k hk).1 (by omega))).step q19 (by first | (simp; done) | (simp; omega))), ⟨by simp only; omega, by simp only [List.map_append, List.map_singleton, hrx]; rw [stackM_take m n' u i (by omega), List.append_assoc], hb9, hoC, hwr2⟩⟩ (by simp only; omega)
         · obtain rfl : i = m.T.length := by omega
           refine ex (te (te (xh (bn' (tn (rg (mv rfl rfl (s_add rfl rfl (wi6 (by omega)) rfl (asg rfl rfl (nl ?_))))))))))
           exact lpE ((u + 1, vC, rx)) (.cons rfl (.cons rfl (.cons rfl (.cons rfl (.cons rfl (.cons rfl .nil)))))) ⟨((Fr.refl [g9] _).step q8 (by first | (simp; done) | (simp; omega))), ⟨by simp only; omega, by simp only [hrx]; rw [stackM_succ', List.take_of_length_le (by rw [sideM_len]; omega)], hb9, hoC, hwr⟩⟩ (by simp only; omega)
       · obtain rfl : u' = u := by omega
         obtain ⟨AC, cC, rfl, _⟩ := hoC.sl.form
         refine ex (te (te (xh (tn (sq (sr (s_loadBA rfl hb9 ag47 rfl ?_)))))))
         refine cl (ev1 rfl) co41 (large_ok _ (stackM m n' u') _ (hrx ▸ sll_of hoC.sl hwr.q)) rfl ?_
         rintro _ w20 ⟨rfl, q20⟩
         have z20 := q20.size
         refine eq' rfl rfl rfl (kpL [(6, _), (9, _), (89, _)] (.cons rfl (.cons rfl (.cons rfl .nil))) (nn ?_))
         refine cd rfl (fun c7 => ?_) (fun c7 => ?_)
         · refine sr (s_lit (cs := [_]) evs_nil bo47 pok_nil rfl rfl ?_)
           replace hb6 := hb60.fr (((Fr.refl [g9] _).step q7 (by first | (simp; done) | (simp; omega))).next q20) (by first | (simp; done) | (simp; omega))
           refine s_storeBA rfl rfl hb6 rfl (by first | (simp [Value.oneCell', S]; done) | exact Enc.one _ _) sz47 (fun w21 hb6 q21 z21 => ?_)
           refine asg rfl rfl (nn (rt (tr (rCT Tryd.results29 rfl hb6 ag47 rfl ?_))))
           have hlg : largeB (stackM m n' u') = true := by cases e : largeB (stackM m n' u'); rw [e] at c7; exact absurd c7 (by decide); rfl
           have he := stk_large (m := m) (n := (n' : Int)) (up := (u' : Int)) h0 c1 hlg
           have hs : stackS m n' u' = [] := by rw [stackS, if_neg (by rw [he]; decide)]
           exact ⟨_, rfl, .slice none 0 0, by rw [he], by rw [hs]; exact OwR.nil _, ((((((q1.next q2).next q3).next q6).step q7 (by first | (simp; done) | (simp; omega))).next q20).step q21 (by first | (simp; done) | (simp; omega)))⟩
         · refine sk (tn (sq (sr ?_)))
           replace hb9 := hb9.ext q20
           refine s_loadBA rfl hb9 ag47 rfl ?_
           replace hoC := hoC.ext q20
           replace hwr := hwr0.fr ((Fr.refl [g9, g6] _).next q20) (by intro k hk; simp at hk; omega)
           refine cl (ev1 rfl) co53 (refchart_ok _ (stackM m n' u') _ (hrx ▸ sll_of hoC.sl hwr.q) (side_rng hm0.gL hm0.gT hm0.gR n' u')) rfl ?_
           rintro _ w22 ⟨XL, rfl, q22⟩
           have z22 := q22.size
           refine mv rfl rfl (xt rfl rfl rfl (xt rfl rfl rfl (asg rfl rfl (asg rfl rfl (kpL [(6, _), (9, _), (15, _)] (.cons rfl (.cons rfl (.cons rfl .nil))) (nn (sr (mv rfl rfl (ne' rfl rfl rfl (nn ?_))))))))))
           refine cd rfl (fun c8 => ?_) (fun c8 => ?_)
           · refine sr (s_lit (cs := [_]) evs_nil bo47 pok_nil rfl rfl ?_)
             refine mv rfl rfl ?_
             replace hb6 := hb60.fr ((((Fr.refl [g9] _).step q7 (by first | (simp; done) | (simp; omega))).next q20).next q22) (by first | (simp; done) | (simp; omega))
             refine s_storeBA rfl rfl hb6 rfl (by first | (simp [Value.oneCell', S]; done) | exact Enc.one _ _) sz47 (fun w23 hb6 q23 z23 => ?_)
             refine asg rfl rfl (nn (rt (tr (rCT Tryd.results29 rfl hb6 ag47 rfl ?_))))
             have hlg : ¬ largeB (stackM m n' u') = true := fun e => c7 (if_pos e)
             have he : stackE m n' u' = chartE (stackM m n' u') := stk_chart (m := m) (n := (n' : Int)) (up := (u' : Int)) h0 c1 hlg
             have hs : stackS m n' u' = [] := by rw [stackS, if_neg (by rw [he]; exact c8)]
             exact ⟨_, rfl, .slice none 0 0, by rw [he]; rfl, by rw [hs]; exact OwR.nil _, (((((((q1.next q2).next q3).next q6).step q7 (by first | (simp; done) | (simp; omega))).next q20).next q22).step q23 (by first | (simp; done) | (simp; omega)))⟩
           · refine sk (tn (sr ?_))
             replace hb9 := hb9.ext q22
             refine s_loadBA rfl hb9 ag47 rfl ?_
             replace hb6 := hb60.fr ((((Fr.refl [g9] _).step q7 (by first | (simp; done) | (simp; omega))).next q20).next q22) (by first | (simp; done) | (simp; omega))
             refine s_storeBA rfl rfl hb6 rfl (by first | (simp [Value.oneCell', S]; done) | exact Enc.one _ _) sz47 (fun w24 hb6 q24 z24 => ?_)
             refine asg rfl rfl (nn (rt (rCT Tryd.results29 rfl hb6 ag47 rfl ?_)))
             replace hoC := (hoC.ext q22).fr q24 (by first | (simp; done) | (simp; omega) | (simp [blks]; done) | (simp [blks]; omega) | (intro k hk hb; simp at hk; subst hk; have := hoC.blk _ hb; omega))
             replace hwr := hwr0.fr ((((Fr.refl [g9, g6] _).next q20).next q22).step q24 (by first | (simp; done) | (simp; omega))) (by intro k hk; simp at hk; omega)
             have hlg : ¬ largeB (stackM m n' u') = true := fun e => c7 (if_pos e)
             have he : stackE m n' u' = chartE (stackM m n' u') := stk_chart (m := m) (n := (n' : Int)) (up := (u' : Int)) h0 c1 hlg
             have hz : stackE m n' u' = 0 := by rw [he]; exact Classical.not_not.1 c8
             have hs : stackS m n' u' = stackM m n' u' := by rw [stackS, if_pos hz]; rfl
             exact ⟨_, rfl, _, by rw [hz], by rw [hs]; exact ⟨_, hoC.low (by omega), hwr.low (by omega), hrx⟩, (((((((q1.next q2).next q3).next q6).step q7 (by first | (simp; done) | (simp; omega))).next q20).next q22).step q24 (by first | (simp; done) | (simp; omega)))⟩
end Go.Proofs.YthehggmdcmpjeaaDoor
namespace Go.Proofs.YthehggmdcmpjeaaDoor
open Go.Lw Go.G14
theorem ag24 : AggOf Tryd.prog 24 2 := ⟨fun _ => by kernel_rfl, fun _ => by kernel_rfl⟩
theorem bo56 : BuildAt Tryd.prog 56 [(0, 1), (1, 1), (2, 1)] [(S []), (.slice none 0 0), (.int .i64 0)] := BuildAt.struct Tryd.underlying56 (fun _ => by kernel_rfl) (fun _ => by kernel_rfl)
theorem co7 : CallOf Tryd.prog 7 := CallOf.mk' Tryd.func7 (by kernel_rfl) (by kernel_rfl)
theorem co8 : CallOf Tryd.prog 8 := CallOf.mk' Tryd.func8 (by kernel_rfl) (by kernel_rfl)
theorem co10 : CallOf Tryd.prog 10 := CallOf.mk' Tryd.func10 (by kernel_rfl) (by kernel_rfl)
theorem co24 : CallOf Tryd.prog 24 := CallOf.mk' Tryd.func24 (by kernel_rfl) (by kernel_rfl)
theorem co29 : CallOf Tryd.prog 29 := CallOf.mk' Tryd.func29 (by kernel_rfl) (by kernel_rfl)
theorem co30 : CallOf Tryd.prog 30 := CallOf.mk' Tryd.func30 (by kernel_rfl) (by kernel_rfl)
theorem el26 : ElemOf Tryd.prog 26 56 encIq 48 := ElemOf.mk' (z := (.agg #[(S []), (.slice none 0 0), (.int .i64 0)])) Tryd.underlying26 (by kernel_rfl) rfl
theorem sz56 : SizeOf Tryd.prog 56 3 := fun _ => by kernel_rfl
theorem zv56 (w : World) : (zeroValue 56).run Tryd.prog w = .ok (.agg #[(S []), (.slice none 0 0), (.int .i64 0)]) w := by kernel_rfl
set_option maxHeartbeats 2000000 in
theorem gmake_ok (nm : List UInt8) (v : Value) (qs : List PQ) (size : Int) (w0 : World) (hs : Sl encPq w0 v qs) (hq : PcsQ w0 qs) : Rets Tryd.prog 8 #[.agg #[S nm, v], .int .i64 size] w0 fun r w' => ∃ V its, r = .tuple #[V, .int .i64 (makeE nm (pcs qs) size)] ∧ Lw.Own encIq 56 w0.heap.size w' V its ∧ ItmO 61 100 w0.heap.size w' its ∧ (makeE nm (pcs qs) size ≠ 0 → V = .slice none 0 0 ∧ its = []) ∧ (makeE nm (pcs qs) size = 0 → (∃ A, V = .slice A qs.length qs.length) ∧ its.length = qs.length ∧ ∀ i, i < qs.length → itmOf size (qs.getD i pq0).p (its.getD i iq0)) ∧ Fr [] w0 w' := by
 obtain ⟨A, c, rfl, hcc, hM, hA⟩ := id hs
 clear hA
 unfold maxLen at hM
 refine we [(0, .agg #[S nm, .slice A qs.length c]), (1, .int .i64 size)] Tryd.func8 rfl Tryd.ntmps8 rfl (.cons rfl (.cons rfl .nil)) ?_
 have hs0 := hs
 have hq0 := hq
 refine sr (bx rfl rfl rfl (fun g2 w1 hg2 hb2 q1 z1 => ?_))
 refine asg rfl rfl (asg rfl rfl (nn (sq (sr (s_loadBA rfl hb2 ag24 rfl ?_)))))
 replace hs := hs0.ext q1
 replace hq := hq0.ext q1
 refine cl (ev1 rfl) co10 (gcheck_ok nm _ qs _ hs hq) rfl ?_
 rintro _ w2 ⟨rfl, q2⟩
 have z2 := q2.size
 refine asg rfl rfl (nn (sr (mv rfl rfl (ne' rfl rfl rfl (nn ?_)))))
 refine cd rfl (fun c0 => ?_) (fun c0 => ?_)
 · refine sr (mv rfl rfl (asg rfl rfl (asg rfl rfl (nn (rt (tr (r2 Tryd.results8 rfl rfl ?_)))))))
   have he := make_a (nm := nm) (ps := pcs qs) (size := size) c0
   exact ⟨_, rfl, .slice none 0 0, [], by first | (rw [he]; done) | (rw [he]; rfl), Own.nil _, ItmO.nil, fun _ => ⟨rfl, rfl⟩, fun h => absurd h (by rw [he]; first | decide | assumption), (q1.next q2)⟩
 · have hgr := gar_of (Classical.not_not.1 c0)
   rw [pcs_len] at hgr
   refine sk (tn (sq (sr (mv rfl rfl ?_))))
   refine cl (ev3 rfl rfl rfl) co23 (within_ok _ _ _ _) rfl ?_
   rintro _ w3 ⟨rfl, q3⟩
   have z3 := q3.size
   refine nt' rfl rfl (nn ?_)
   refine cd rfl (fun c1 => ?_) (fun c1 => ?_)
   · refine sr (asg rfl rfl (asg rfl rfl (nn (rt (tr (r2 Tryd.results8 rfl rfl ?_))))))
     have he := make_b (nm := nm) (ps := pcs qs) (size := size) (Classical.not_not.1 c0) (by omega)
     exact ⟨_, rfl, .slice none 0 0, [], by first | (rw [he]; done) | (rw [he]; rfl), Own.nil _, ItmO.nil, fun _ => ⟨rfl, rfl⟩, fun h => absurd h (by rw [he]; first | decide | assumption), ((q1.next q2).next q3)⟩
   · refine sk (tn (sr (fad rfl fa24_1 rfl ?_)))
     replace hb2 := hb2.ext (q2.next q3)
     refine s_loadB rfl hb2 rfl na22 rfl (lnS rfl Tryd.underlying22 rfl ?_)
     refine s_makeSlice (m := qs.length) (c := qs.length) (iq0) rfl rfl el26 zv56 rfl (Nat.le_refl _) (by omega) (by unfold maxLen; omega) rfl (fun g23 w4 hg23 hoI q4 z4 => ?_)
     refine asg rfl rfl (nn (sq (sr (fad rfl fa24_1 rfl ?_))))
     replace hb2 := hb2.ext q4
     refine s_loadB rfl hb2 rfl na22 rfl (lnS rfl Tryd.underlying22 rfl (mv rfl rfl (nn (bl ?_))))
     refine lpK (ι := Nat × List IQ) [(1, _), (7, _), (25, _), (26, _)] (fun p => [(27, .int .i64 (p.1 : Int))]) (fun p w' => Fr [g23] w4 w' ∧ (p.1 ≤ qs.length ∧ p.2.length = p.1) ∧ (∀ j, j < p.1 → itmOf size (qs.getD j pq0).p (p.2.getD j iq0)) ∧ (∀ j, j < p.1 → stackE (qs.getD j pq0).p.mot (tiles (qs.getD j pq0).p size) (qs.getD j pq0).p.up = 0) ∧ Lw.Own encIq 56 g23 w' (.slice (some ⟨g23, 0, none⟩) qs.length qs.length) (p.2 ++ List.replicate (qs.length - p.1) iq0) ∧ ItmO 61 100 (g23 + 1) w' p.2) (fun p => qs.length - p.1) (0, []) (.cons rfl (.cons rfl (.cons rfl (.cons rfl (.cons rfl .nil))))) ⟨Fr.refl _ _, ⟨⟨Nat.zero_le _, rfl⟩, fun j hj => absurd hj (Nat.not_lt_zero j), fun j hj => absurd hj (Nat.not_lt_zero j), hoI, ItmO.nil⟩⟩ ?_
     rintro ⟨i, its⟩ w5 ⟨q5, ⟨⟨hi, hil⟩, hit, hst, hoI, hio⟩⟩
     simp only at hi hil hit hst hoI hio
     have z5 := q5.size
     have hio0 := hio
     refine kpC [(1, _), (7, _), (25, _), (26, _), (27, .int .i64 (i : Int))] (.cons rfl (.cons rfl (.cons rfl (.cons rfl (.cons rfl .nil))))) ?_
     refine sr (lt' rfl rfl rfl (nn (sq ?_)))
     refine cd rfl (fun c2 => ?_) (fun c2 => ?_)
     · have htr := tiles_rng (p := (qs.getD i pq0).p) (size := size) (hgr.2.2.2.1 _ (List.mem_map.2 ⟨_, getD_memS (d := pq0) (show i < qs.length by omega), rfl⟩)) (by omega) (by omega)
       have hup := right_of (hgr.2.2.2.1 _ (List.mem_map.2 ⟨_, getD_memS (d := pq0) (show i < qs.length by omega), rfl⟩))
       refine sk (tn (sq (bl (sr (mv rfl rfl ?_)))))
       replace hs := hs0.ext ((((q1.next q2).next q3).next q4).step q5 (by first | (simp; done) | (simp; omega)))
       refine s_idxL (pq0) rfl hs rfl el22 (by omega) (by omega) nat_of rfl (fun ad30 hc30 => ?_)
       refine s_loadA rfl (hc30 _ hs) ag51 rfl (al zv51 rfl rfl (fun g9 w6 hg9 hb9 q6 z6 => ?_))
       refine asg rfl rfl (s_storeBA rfl rfl hb9 rfl (by first | (simp [Value.oneCell', S]; done) | exact Enc.one _ _) sz51 (fun w7 hb9 q7 z7 => ?_))
       refine nn (sr (fad rfl fa51_1 rfl (s_loadBP (vs := [_, _, _]) rfl hb9 ag49 rfl rfl (fad rfl fa51_2 rfl (s_loadB rfl hb9 rfl na3 rfl (mv rfl rfl (fad rfl fa51_3 rfl (s_loadB rfl hb9 rfl na3 rfl (s_mul rfl rfl (wi6 (by omega)) rfl (s_add rfl rfl (wi6 (by omega)) rfl (fad rfl fa51_4 rfl ?_)))))))))))
       refine s_loadB rfl hb9 rfl na3 rfl ?_
       replace hq := hq0.ext ((((((q1.next q2).next q3).next q4).step q5 (by first | (simp; done) | (simp; omega))).next q6).step q7 (by first | (simp; done) | (simp; omega)))
       refine cl (ev3 rfl rfl rfl) co24 (stack_ok (qs.getD i pq0).p.mot _ _ _ (tiles (qs.getD i pq0).p size) (qs.getD i pq0).p.up _ (hq.at (by omega))) rfl ?_
       rintro _ w8 ⟨X44, rfl, hX, q8⟩
       have z8 := q8.size
       have hX0 := hX
       obtain ⟨AX, cX, rfl, _⟩ := hX.form
       refine mv rfl rfl (xt rfl rfl rfl (xt rfl rfl rfl (al zv47 rfl rfl (fun g10 w9 hg10 hb10 q9 z9 => ?_))))
       refine s_storeBA rfl rfl hb10 rfl (by first | (simp [Value.oneCell', S]; done) | exact Enc.one _ _) sz47 (fun w10 hb10 q10 z10 => ?_)
       refine asg rfl rfl (kpL [(1, _), (7, _), (8, _), (9, _), (10, _), (11, _), (25, _), (26, _), (27, _)] (.cons rfl (.cons rfl (.cons rfl (.cons rfl (.cons rfl (.cons rfl (.cons rfl (.cons rfl (.cons rfl .nil))))))))) (nn (sq (sr (mv rfl rfl (ne' rfl rfl rfl (nn ?_)))))))
       refine cd rfl (fun c3 => ?_) (fun c3 => ?_)
       · refine sr (mv rfl rfl (asg rfl rfl (asg rfl rfl (kpL [(4, _), (5, _)] (.cons rfl (.cons rfl .nil)) (nn (rt (tr (rb (tr (tr (rb ?_)))))))))))
         refine tr (r2 Tryd.results8 rfl rfl ?_)
         have he := (make_c (nm := nm) (ps := pcs qs) (size := size) (Classical.not_not.1 c0) (by omega)).trans (charts_at (i := i) (by omega) hst c3)
         exact ⟨_, rfl, .slice none 0 0, [], by first | (rw [he]; done) | (rw [he]; rfl), Own.nil _, ItmO.nil, fun _ => ⟨rfl, rfl⟩, fun h => absurd h (by rw [he]; first | decide | assumption), (((((((((q1.next q2).next q3).next q4).step q5 (by first | (simp; done) | (simp; omega))).next q6).step q7 (by first | (simp; done) | (simp; omega))).next q8).next q9).step q10 (by first | (simp; done) | (simp; omega)))⟩
       · have hz : (stackE (qs.getD i pq0).p.mot (tiles (qs.getD i pq0).p size) (qs.getD i pq0).p.up) = 0 := Classical.not_not.1 c3
         refine sk (tn (rg (mv rfl rfl (mv rfl rfl (fad rfl fa51_0 rfl ?_)))))
         replace hb9 := (hb9.ext (q8.next q9)).fr q10 (by first | (simp; done) | (simp; omega) | (simp [blks]; done) | (simp [blks]; omega))
         refine s_loadB rfl hb9 rfl na9 rfl (s_loadBA rfl hb10 ag47 rfl (fad rfl fa51_5 rfl (s_loadB rfl hb9 rfl na3 rfl (s_lit (cs := [_, _, _]) (ev3 rfl rfl rfl) bo56 (pok_cons rfl rfl rfl (pok_cons rfl rfl rfl (pok_cons rfl rfl rfl pok_nil))) rfl rfl ?_))))
         replace hoI := (((hoI.ext q6).fr q7 (by first | (simp; done) | (simp; omega) | (simp [blks]; done) | (simp [blks]; omega) | (intro k hk hb; simp at hk; subst hk; have := hoI.blk _ hb; omega))).ext (q8.next q9)).fr q10 (by first | (simp; done) | (simp; omega) | (simp [blks]; done) | (simp [blks]; omega) | (intro k hk hb; simp at hk; subst hk; have := hoI.blk _ hb; omega))
         refine s_ixs (p := i) ((⟨(qs.getD i pq0).p.nm, (AX, (stackS (qs.getD i pq0).p.mot (tiles (qs.getD i pq0).p size) (qs.getD i pq0).p.up).length, cX), (qs.getD i pq0).p.ct, (stackS (qs.getD i pq0).p.mot (tiles (qs.getD i pq0).p size) (qs.getD i pq0).p.up)⟩ : IQ)) rfl hoI rfl rfl (by intro e; cases e) el26 sz56 rfl (by omega) (by first | omega | (simp only [List.length_append, List.length_replicate, List.length_cons, List.length_nil]; omega)) (by omega) rfl rfl (fun w11 hoI q11 z11 => ?_)
         replace q11 : Fr [g23] _ _ := q11
         rw [show qs.length - i = (qs.length - (i + 1)) + 1 by omega, ← hil, set_at, hil] at hoI
         refine kpL [(1, _), (7, _), (25, _), (26, _), (27, _)] (.cons rfl (.cons rfl (.cons rfl (.cons rfl (.cons rfl .nil))))) (nl (bn' (tn (rg (s_add rfl rfl (wi6 (by omega)) rfl (mv rfl rfl (nl ?_)))))))
         replace hio := hio0.fr (((((((Fr.refl [g23] _).next q6).step q7 (by first | (simp; done) | (simp; omega))).next q8).next q9).step q10 (by first | (simp; done) | (simp; omega))).step q11 (by first | (simp; done) | (simp; omega))) (by intro k hk; simp at hk; omega)
         replace hX := hX0.fr ((((Fr.refl [g23] _).next q9).step q10 (by first | (simp; done) | (simp; omega))).step q11 (by first | (simp; done) | (simp; omega))) (by intro k hk; simp at hk; omega)
         exact lpE ((i + 1, its ++ [(⟨(qs.getD i pq0).p.nm, (AX, (stackS (qs.getD i pq0).p.mot (tiles (qs.getD i pq0).p size) (qs.getD i pq0).p.up).length, cX), (qs.getD i pq0).p.ct, (stackS (qs.getD i pq0).p.mot (tiles (qs.getD i pq0).p size) (qs.getD i pq0).p.up)⟩ : IQ)])) (.cons rfl (.cons rfl (.cons rfl (.cons rfl (.cons rfl .nil))))) ⟨((((((((Fr.refl [g23] _).step q5 (by first | (simp; done) | (simp; omega))).next q6).step q7 (by first | (simp; done) | (simp; omega))).next q8).next q9).step q10 (by first | (simp; done) | (simp; omega))).step q11 (by first | (simp; done) | (simp; omega))), ⟨⟨by simp only; omega, by simp only [List.length_append, List.length_singleton]; omega⟩, itm_snoc hil hit ⟨rfl, rfl, by show stackS _ _ _ = _; rw [stackS, if_pos hz]; rfl⟩, all_step hst hz, hoI, hio.snoc (hX.low (by omega))⟩⟩ (by simp only; omega)
     · obtain rfl : i = qs.length := by omega
       rw [Nat.sub_self, List.replicate_zero, List.append_nil] at hoI
       refine ex (te (te (xh (tn (sr (mv rfl rfl (asg rfl rfl (asg rfl rfl (kpL [(4, _), (5, _)] (.cons rfl (.cons rfl .nil)) (nn (rt ?_)))))))))))
       refine r2 Tryd.results8 rfl rfl ?_
       have he := (make_c (nm := nm) (ps := pcs qs) (size := size) (Classical.not_not.1 c0) (by omega)).trans (charts_no hst)
       exact ⟨_, rfl, _, its, by first | (rw [he]; done) | (rw [he]; rfl), by rw [← hil] at hoI ⊢; exact hoI.low (by omega), hio.low (by omega), fun h => absurd he h, fun _ => ⟨⟨_, rfl⟩, hil, hit⟩, ((((q1.next q2).next q3).next q4).step q5 (by first | (simp; done) | (simp; omega)))⟩
set_option maxHeartbeats 2000000 in
theorem refmake_ok (nm : List UInt8) (v : Value) (qs : List PQ) (size : Int) (w0 : World) (hs : Sl encPq w0 v qs) (hq : PcsQ w0 qs) : Rets Tryd.prog 11 #[.agg #[S nm, v], .int .i64 size] w0 fun r w' => ∃ V cs, r = .tuple #[V, .int .i64 (makeE nm (pcs qs) size)] ∧ Lw.Own encCq 47 w0.heap.size w' V cs ∧ ChO 61 100 w0.heap.size w' cs ∧ (makeE nm (pcs qs) size ≠ 0 → V = .slice none 0 0 ∧ cs = []) ∧ (makeE nm (pcs qs) size = 0 → cs.map Prod.snd = (pcs qs).map (chartP size)) ∧ Fr [] w0 w' := by
 obtain ⟨A, c, rfl, hcc, hM, hA⟩ := id hs
 clear hA
 unfold maxLen at hM
 refine we [(0, .agg #[S nm, .slice A qs.length c]), (1, .int .i64 size)] Tryd.func11 rfl Tryd.ntmps11 rfl (.cons rfl (.cons rfl .nil)) ?_
 have hs0 := hs
 have hq0 := hq
 refine sr (bx rfl rfl rfl (fun g2 w1 hg2 hb2 q1 z1 => ?_))
 refine asg rfl rfl (asg rfl rfl (nn (sq (sr (s_loadBA rfl hb2 ag24 rfl ?_)))))
 replace hs := hs0.ext q1
 replace hq := hq0.ext q1
 refine cl (ev1 rfl) co7 (refgar_ok nm _ qs _ hs hq) rfl ?_
 rintro _ w2 ⟨rfl, q2⟩
 have z2 := q2.size
 refine asg rfl rfl (nn (sr (mv rfl rfl (ne' rfl rfl rfl (nn ?_)))))
 refine cd rfl (fun c0 => ?_) (fun c0 => ?_)
 · refine sr (mv rfl rfl (asg rfl rfl (asg rfl rfl (nn (rt (tr (r2 Tryd.results11 rfl rfl ?_)))))))
   have he := make_a (nm := nm) (ps := pcs qs) (size := size) c0
   exact ⟨_, rfl, .slice none 0 0, [], by first | (rw [he]; done) | (rw [he]; rfl), Own.nil _, ChO.nil, fun _ => ⟨rfl, rfl⟩, fun h => absurd h (by rw [he]; first | decide | assumption), (q1.next q2)⟩
 · have hgr := gar_of (Classical.not_not.1 c0)
   rw [pcs_len] at hgr
   refine sk (tn (sq (sq ?_)))
   refine rbo (r := 22) (L' := [(1, _), (2, _)]) (((size < 0) ∨ (9 < size))) (.cons rfl (.cons rfl .nil)) ?_ ?_
   · refine mv rfl rfl (lt' rfl rfl rfl (mv rfl rfl ?_))
     refine gs 19 rfl (fun g0 => ?_) (fun g0 => ?_)
     · exact gN rfl rfl rfl (gN rfl rfl rfl (pkt rfl rfl rfl rfl (rbe rfl (by first | exact bt (by omega) | exact bf (by omega) | exact bi (by omega) | exact bn (by omega) | (simp_all; done) | (simp_all; omega)) (.cons rfl (.cons rfl .nil)))))
     · exact gY rfl (mv rfl rfl (gY rfl (gt' rfl rfl rfl (pkf rfl rfl rfl rfl (rbe rfl (by first | exact bt (by omega) | exact bf (by omega) | exact bi (by omega) | exact bn (by omega) | (simp_all; done) | (simp_all; omega)) (.cons rfl (.cons rfl .nil)))))))
   · refine tn ?_
     refine cd rfl (fun c1 => ?_) (fun c1 => ?_)
     · refine sr (asg rfl rfl (asg rfl rfl (nn (rt (tr (r2 Tryd.results11 rfl rfl ?_))))))
       have he := make_b (nm := nm) (ps := pcs qs) (size := size) (Classical.not_not.1 c0) (by omega)
       exact ⟨_, rfl, .slice none 0 0, [], by first | (rw [he]; done) | (rw [he]; rfl), Own.nil _, ChO.nil, fun _ => ⟨rfl, rfl⟩, fun h => absurd h (by rw [he]; first | decide | assumption), (q1.next q2)⟩
     · refine sk (tn (sr (asg rfl rfl (nn (sq (sr (asg rfl rfl (nn (bl ?_)))))))))
       replace hb2 := hb2.ext q2
       skip
       have hb20 := hb2
       obtain ⟨NL, hNL⟩ : ∃ N, N = w2.heap.size := ⟨_, rfl⟩
       refine lpK (ι := Nat × Value × List CQ) [(1, _), (2, _)] (fun p => [(8, .int .i64 (p.1 : Int)), (7, p.2.1)]) (fun p w' => Fr [] w2 w' ∧ (p.1 ≤ qs.length ∧ p.2.2.length = p.1) ∧ p.2.2.map Prod.snd = (pcs (qs.take p.1)).map (chartP size) ∧ (∀ j, j < p.1 → stackE (qs.getD j pq0).p.mot (tiles (qs.getD j pq0).p size) (qs.getD j pq0).p.up = 0) ∧ Lw.Own encCq 47 NL w' p.2.1 p.2.2 ∧ ChO 61 100 w0.heap.size w' p.2.2) (fun p => qs.length - p.1) (0, .slice none 0 0, []) (.cons rfl (.cons rfl (.cons rfl (.cons rfl .nil)))) ⟨(Fr.refl _ _), ⟨⟨Nat.zero_le _, rfl⟩, rfl, fun j hj => absurd hj (Nat.not_lt_zero j), Own.nil _, ChO.nil⟩⟩ ?_
       rintro ⟨i, vO, its⟩ w3 ⟨q3, ⟨⟨hi, hil⟩, hit, hst, hoI, hio⟩⟩
       simp only at hi hil hit hst hoI hio
       have z3 := q3.size
       have hio0 := hio
       refine kpC [(1, _), (2, _), (8, .int .i64 (i : Int)), (7, vO)] (.cons rfl (.cons rfl (.cons rfl (.cons rfl .nil)))) ?_
       refine sq (sr (mv rfl rfl (fad rfl fa24_1 rfl ?_)))
       replace hb2 := hb20.ext q3
       refine s_loadB rfl hb2 rfl na22 rfl (lnS rfl Tryd.underlying22 rfl (lt' rfl rfl rfl (nn ?_)))
       refine cd rfl (fun c2 => ?_) (fun c2 => ?_)
       · have htr := tiles_rng (p := (qs.getD i pq0).p) (size := size) (hgr.2.2.2.1 _ (List.mem_map.2 ⟨_, getD_memS (d := pq0) (show i < qs.length by omega), rfl⟩)) (by omega) (by omega)
         have hup := right_of (hgr.2.2.2.1 _ (List.mem_map.2 ⟨_, getD_memS (d := pq0) (show i < qs.length by omega), rfl⟩))
         refine sk (tn (sq (bl (sr (fad rfl fa24_1 rfl (s_loadB rfl hb2 rfl na22 rfl (mv rfl rfl ?_)))))))
         replace hs := hs0.ext ((q1.next q2).next q3)
         refine s_idxL (pq0) rfl hs rfl el22 (by omega) (by omega) nat_of rfl (fun ad33 hc33 => ?_)
         refine s_loadA rfl (hc33 _ hs) ag51 rfl (al zv51 rfl rfl (fun g9 w4 hg9 hb9 q4 z4 => ?_))
         refine s_storeBA rfl rfl hb9 rfl (by first | (simp [Value.oneCell', S]; done) | exact Enc.one _ _) sz51 (fun w5 hb9 q5 z5 => ?_)
         refine kpL [(1, _), (2, _), (7, _), (8, _), (9, _)] (.cons rfl (.cons rfl (.cons rfl (.cons rfl (.cons rfl .nil))))) (nn (sr (fad rfl fa51_1 rfl (s_loadBP (vs := [_, _, _]) rfl hb9 ag49 rfl rfl (fad rfl fa51_2 rfl (s_loadB rfl hb9 rfl na3 rfl (mv rfl rfl (fad rfl fa51_3 rfl (s_loadB rfl hb9 rfl na3 rfl (s_mul rfl rfl (wi6 (by omega)) rfl (s_add rfl rfl (wi6 (by omega)) rfl ?_)))))))))))
         refine fad rfl fa51_4 rfl (s_loadB rfl hb9 rfl na3 rfl ?_)
         replace hq := hq0.ext ((((q1.next q2).next q3).next q4).step q5 (by first | (simp; done) | (simp; omega)))
         refine cl (ev3 rfl rfl rfl) co29 (refstack_ok (qs.getD i pq0).p.mot _ _ _ (tiles (qs.getD i pq0).p size) (qs.getD i pq0).p.up _ (hq.at (by omega)) (by omega) (by omega)) rfl ?_
         rintro _ w6 ⟨X44, rfl, hX, q6⟩
         have z6 := q6.size
         have hX0 := hX
         obtain ⟨AX, cX, rfl, _⟩ := hX.form
         refine mv rfl rfl (xt rfl rfl rfl (xt rfl rfl rfl (al zv47 rfl rfl (fun g10 w7 hg10 hb10 q7 z7 => ?_))))
         refine s_storeBA rfl rfl hb10 rfl (by first | (simp [Value.oneCell', S]; done) | exact Enc.one _ _) sz47 (fun w8 hb10 q8 z8 => ?_)
         refine asg rfl rfl (kpL [(1, _), (2, _), (7, _), (8, _), (10, _), (11, _)] (.cons rfl (.cons rfl (.cons rfl (.cons rfl (.cons rfl (.cons rfl .nil)))))) (nn (sq (sr (mv rfl rfl (ne' rfl rfl rfl (nn ?_)))))))
         refine cd rfl (fun c3 => ?_) (fun c3 => ?_)
         · refine sr (mv rfl rfl (asg rfl rfl (asg rfl rfl (kpL [(4, _), (5, _)] (.cons rfl (.cons rfl .nil)) (nn (rt (tr (rb (tr (tr (rb ?_)))))))))))
           refine tr (r2 Tryd.results11 rfl rfl ?_)
           have he := (make_c (nm := nm) (ps := pcs qs) (size := size) (Classical.not_not.1 c0) (by omega)).trans (charts_at (i := i) (by omega) hst c3)
           exact ⟨_, rfl, .slice none 0 0, [], by first | (rw [he]; done) | (rw [he]; rfl), Own.nil _, ChO.nil, fun _ => ⟨rfl, rfl⟩, fun h => absurd h (by rw [he]; first | decide | assumption), (((((((q1.next q2).next q3).next q4).step q5 (by first | (simp; done) | (simp; omega))).next q6).next q7).step q8 (by first | (simp; done) | (simp; omega)))⟩
         · have hz : (stackE (qs.getD i pq0).p.mot (tiles (qs.getD i pq0).p size) (qs.getD i pq0).p.up) = 0 := Classical.not_not.1 c3
           refine sk (tn (rg (mv rfl rfl (s_loadBA rfl hb10 ag47 rfl (s_bslice ([((AX, (stackS (qs.getD i pq0).p.mot (tiles (qs.getD i pq0).p size) (qs.getD i pq0).p.up).length, cX), (stackS (qs.getD i pq0).p.mot (tiles (qs.getD i pq0).p size) (qs.getD i pq0).p.up))]) (ev1 rfl) rfl rfl rfl el34 (Nat.le_of_ble_eq_true rfl) rfl (fun g55 w9 hg55 ho55 q9 z9 => ?_))))))
           replace hio := hio0.ext (((((q4.step q5 (by first | (simp; done) | (simp; omega))).next q6).next q7).step q8 (by first | (simp; done) | (simp; omega))).next q9)
           replace hX := hX0.ext ((q7.step q8 (by first | (simp; done) | (simp; omega))).next q9)
           have hio2 := hio.snoc (q := ((AX, (stackS (qs.getD i pq0).p.mot (tiles (qs.getD i pq0).p size) (qs.getD i pq0).p.up).length, cX), (stackS (qs.getD i pq0).p.mot (tiles (qs.getD i pq0).p size) (qs.getD i pq0).p.up))) (hX.low (by omega))
           replace hoI := ((((hoI.ext q4).fr q5 (by first | (simp; done) | (simp; omega) | (simp [blks]; done) | (simp [blks]; omega) | (intro k hk hb; simp at hk; subst hk; have := hoI.blk _ hb; omega))).ext (q6.next q7)).fr q8 (by first | (simp; done) | (simp; omega) | (simp [blks]; done) | (simp [blks]; omega) | (intro k hk hb; simp at hk; subst hk; have := hoI.blk _ hb; omega))).ext q9
           have hoo56 := hoI
           refine s_append rfl rfl hoI ho55.sl el34 (by unfold maxLen; simp only [List.length_cons, List.length_nil]; omega) (by simp only [List.length_cons, List.length_nil]; omega) (by omega) rfl (fun v56 w10 hoI q10 hor56 => ?_)
           have z10 := q10.size
           replace hio2 := hio2.frT q10 hoo56 (by decide) (by decide)
           refine asg rfl rfl (kpL [(1, _), (2, _), (7, _), (8, _)] (.cons rfl (.cons rfl (.cons rfl (.cons rfl .nil)))) (nl (bn' (tn (rg (mv rfl rfl (s_add rfl rfl (wi6 (by omega)) rfl (asg rfl rfl (nl ?_)))))))))
           exact lpE ((i + 1, v56, its ++ [((AX, (stackS (qs.getD i pq0).p.mot (tiles (qs.getD i pq0).p size) (qs.getD i pq0).p.up).length, cX), (stackS (qs.getD i pq0).p.mot (tiles (qs.getD i pq0).p size) (qs.getD i pq0).p.up))])) (.cons rfl (.cons rfl (.cons rfl (.cons rfl .nil)))) ⟨(((((((q3.next q4).step q5 (by first | (simp; done) | (simp; omega))).next q6).next q7).step q8 (by first | (simp; done) | (simp; omega))).next q9).step q10 (fun k hk hlt => absurd (hoo56.blk k hk).1 (by omega))), ⟨⟨by simp only; omega, by simp only [List.length_append, List.length_singleton]; omega⟩, by simp only [List.map_append, List.map_singleton, hit]; rw [pcs_take (by omega), List.map_append, show (stackS (qs.getD i pq0).p.mot (tiles (qs.getD i pq0).p size) (qs.getD i pq0).p.up) = chartP size (qs.getD i pq0).p from by rw [stackS, if_pos hz]; rfl]; rfl, all_step hst hz, hoI, hio2⟩⟩ (by simp only; omega)
       · obtain rfl : i = qs.length := by omega
         rw [List.take_length] at hit
         refine ex (te (te (xh (tn (sr (mv rfl rfl (asg rfl rfl (asg rfl rfl (kpL [(4, _), (5, _)] (.cons rfl (.cons rfl .nil)) (nn (rt ?_)))))))))))
         refine r2 Tryd.results11 rfl rfl ?_
         have he := (make_c (nm := nm) (ps := pcs qs) (size := size) (Classical.not_not.1 c0) (by omega)).trans (charts_no hst)
         exact ⟨_, rfl, _, its, by first | (rw [he]; done) | (rw [he]; rfl), hoI.low (by omega), hio, fun h => absurd he h, fun _ => hit, ((q1.next q2).next q3)⟩
theorem clipi_ok (A : Option Addr) (m c : Nat) (w0 : World) (hc : m ≤ c) : Rets Tryd.prog 30 #[.slice A m c] w0 fun v w' => v = .slice A m m ∧ w0 = w' := by
 refine we [(0, .slice A m c)] Tryd.func30 rfl Tryd.ntmps30 rfl (.cons rfl .nil) ?_
 refine sr (asg rfl rfl (nn (sr (mv rfl rfl (mv rfl rfl (lnS rfl Tryd.underlying30 rfl (mv rfl rfl (lnS rfl Tryd.underlying30 rfl (s_sl_hm rfl rfl rfl el30 (by omega) (by omega) (by omega) nat_of nat_of rfl (asg rfl rfl (kpL [(2, _)] (.cons rfl .nil) ?_)))))))))))
 refine nn (rt (r1 Tryd.results30 rfl ?_))
 exact ⟨_, rfl, rfl, rfl⟩
set_option maxHeartbeats 1000000 in
theorem sizes_ok (nm : List UInt8) (v : Value) (qs : List PQ) (w0 : World) (hs : Sl encPq w0 v qs) (hq : PcsQ w0 qs) : Rets Tryd.prog 12 #[.agg #[S nm, v]] w0 fun r w' => ∃ A, r = .slice A (sizesTo nm (pcs qs) 10).length (sizesTo nm (pcs qs) 10).length ∧ Lw.Own Enc.i64 3 w0.heap.size w' r (sizesTo nm (pcs qs) 10) ∧ Fr [] w0 w' := by
 obtain ⟨A, c, rfl, hcc, hM, hA⟩ := id hs
 clear hA
 unfold maxLen at hM
 refine we [(0, .agg #[S nm, .slice A qs.length c])] Tryd.func12 rfl Tryd.ntmps12 rfl (.cons rfl .nil) ?_
 have hs0 := hs
 have hq0 := hq
 refine sr (bx rfl rfl rfl (fun g1 w1 hg1 hb1 q1 z1 => ?_))
 refine asg rfl rfl (nn (sr (asg rfl rfl (nn (sq (sr (mv rfl rfl (nn (bl ?_)))))))))
 skip
 have hb10 := hb1
 skip
 refine lpK (ι := Nat × Value) [(1, _)] (fun p => [(7, .int .i64 (p.1 : Int)), (3, p.2)]) (fun p w' => Fr [] w1 w' ∧ p.1 ≤ 10 ∧ Lw.Own Enc.i64 3 (g1 + 1) w' p.2 (sizesTo nm (pcs qs) p.1)) (fun p => 10 - p.1) (0, .slice none 0 0) (.cons rfl (.cons rfl (.cons rfl .nil))) ⟨(Fr.refl _ _), ⟨Nat.zero_le _, Own.nil _⟩⟩ ?_
 rintro ⟨i, vO⟩ w2 ⟨q2, ⟨hi, hoI⟩⟩
 simp only at hi hoI
 have z2 := q2.size
 refine kpC [(1, _), (7, .int .i64 (i : Int)), (3, vO)] (.cons rfl (.cons rfl (.cons rfl .nil))) ?_
 refine sr (lt' rfl rfl rfl (nn (sq ?_)))
 refine cd rfl (fun c0 => ?_) (fun c0 => ?_)
 · have hzl := sizes_len nm (pcs qs) i
   refine sk (tn (sq (bl (sr (mv rfl rfl (asg rfl rfl (nn (sr ?_))))))))
   replace hb1 := hb10.ext q2
   refine s_loadBA rfl hb1 ag24 rfl (mv rfl rfl ?_)
   replace hs := hs0.ext (q1.next q2)
   replace hq := hq0.ext (q1.next q2)
   refine cl (ev2 rfl rfl) co8 (gmake_ok nm _ qs (i : Int) _ hs hq) rfl ?_
   rintro _ w3 ⟨V13, its, rfl, -, -, -, -, q3⟩
   have z3 := q3.size
   refine mv rfl rfl (xt rfl rfl rfl (xt rfl rfl rfl (asg rfl rfl (asg rfl rfl (kpL [(1, _), (3, _), (4, _), (6, _), (7, _)] (.cons rfl (.cons rfl (.cons rfl (.cons rfl (.cons rfl .nil))))) (nn (sr (mv rfl rfl (eq' rfl rfl rfl (nn ?_))))))))))
   refine cd rfl (fun c1 => ?_) (fun c1 => ?_)
   · refine rg (mv rfl rfl (mv rfl rfl (s_bslice ([(i : Int)]) (ev1 rfl) rfl rfl rfl el30 (Nat.le_of_ble_eq_true rfl) rfl (fun g20 w4 hg20 ho20 q4 z4 => ?_))))
     replace hoI := hoI.ext (q3.next q4)
     have hoo21 := hoI
     refine s_append rfl rfl hoI ho20.sl el30 (by unfold maxLen; simp only [List.length_cons, List.length_nil]; omega) (by simp only [List.length_cons, List.length_nil]; omega) (by omega) rfl (fun v21 w5 hoI q5 hor21 => ?_)
     have z5 := q5.size
     refine asg rfl rfl (kpL [(1, _), (3, _), (7, _)] (.cons rfl (.cons rfl (.cons rfl .nil))) (nl (bn' (tn (rg (s_add rfl rfl (wi6 (by omega)) rfl (mv rfl rfl (nl ?_))))))))
     exact lpE ((i + 1, v21)) (.cons rfl (.cons rfl (.cons rfl .nil))) ⟨(((q2.next q3).next q4).step q5 (fun k hk hlt => absurd (hoo21.blk k hk).1 (by omega))), ⟨by simp only; omega, by rw [sizes_yes c1]; exact hoI⟩⟩ (by simp only; omega)
   · refine sk (bn' (tn (rg (s_add rfl rfl (wi6 (by omega)) rfl (mv rfl rfl (nl ?_))))))
     replace hoI := hoI.ext q3
     exact lpE ((i + 1, vO)) (.cons rfl (.cons rfl (.cons rfl .nil))) ⟨(q2.next q3), ⟨by simp only; omega, by rw [sizes_no c1]; exact hoI⟩⟩ (by simp only; omega)
 · obtain rfl : i = 10 := by omega
   obtain ⟨AI, cI, rfl, hcI⟩ := hoI.sl.form
   refine ex (te (te (xh (tn (sr (mv rfl rfl ?_))))))
   refine cl (ev1 rfl) co30 (clipi_ok AI _ cI _ hcI) rfl ?_
   rintro _ _ ⟨rfl, rfl⟩
   refine asg rfl rfl (kpL [(2, _)] (.cons rfl .nil) (nn (rt (r1 Tryd.results12 rfl ?_))))
   exact ⟨_, rfl, AI, rfl, by have := hoI.take rfl (Nat.le_refl _) hcI (Nat.le_refl _); rw [List.take_length] at this; exact this.low (by omega), (q1.next q2)⟩
end Go.Proofs.YthehggmdcmpjeaaDoor
namespace Go.G14
open Go.Lw
def tbl (F : Int → Int) : List Int := (List.range 6).map fun y : Nat => F ((y : Int) + 1)
theorem tbl_len (F : Int → Int) : (tbl F).length = 6 := by simp [tbl]
theorem tbl_congr {F G : Int → Int} (h : ∀ y, 1 ≤ y → y ≤ 6 → F y = G y) : tbl F = tbl G := by
  unfold tbl
  refine List.map_congr_left fun y hy => h _ (by omega) ?_
  have := List.mem_range.1 hy; omega
theorem tbl_get (F : Int → Int) {k : Int} (h1 : 1 ≤ k) (h6 : k ≤ 6) : (tbl F).getD (k - 1).toNat 0 = F k := by
  obtain ⟨n, rfl⟩ : ∃ n : Nat, k = (n : Int) + 1 := ⟨(k - 1).toNat, by omega⟩
  rw [show ((n : Int) + 1 - 1).toNat = n by omega]
  exact tab_get (fun y : Nat => F ((y : Int) + 1)) (show n < 6 by omega)
theorem tbl_add (F : Int → Int) {k : Int} (h1 : 1 ≤ k) (h6 : k ≤ 6) (z : Int) : (tbl F).set (k - 1).toNat (F k + z) = tbl fun y => F y + if k = y then z else 0 := by
  obtain ⟨n, rfl⟩ : ∃ n : Nat, k = (n : Int) + 1 := ⟨(k - 1).toNat, by omega⟩
  rw [show ((n : Int) + 1 - 1).toNat = n by omega]
  refine (tab_add (fun y : Nat => F ((y : Int) + 1)) 6 n z (by omega)).trans ?_
  unfold tbl
  refine List.map_congr_left fun y _ => ?_
  show F _ + _ = F _ + _
  by_cases e : y = n
  · subst e; rw [if_pos rfl, if_pos rfl]
  · rw [if_neg e, if_neg (by omega)]
def cnt1 (c : RowL) (y : Int) : Int := 0 + if firstY (c.getD 0 []) = y then needsR (c.getD 0 []) else 0
def cnt2 (c : RowL) (y : Int) : Int := cnt1 c y + if firstY (c.getD (c.length - 1) []) = y then makesR (c.getD (c.length - 1) []) else 0
def cnt3 (c : RowL) (i : Nat) (y : Int) : Int := cnt2 c y + ((c.take i).map (rowC y)).sum
def cnt4 (c : RowL) (i j : Nat) (y : Int) : Int := cnt3 c i y + rowC y ((c.getD i []).take j)
theorem cnt_all (c : RowL) (y : Int) : cnt3 c c.length y = cntY c y := by
  unfold cnt3 cnt2 cnt1 cntY; rw [List.take_length]; omega
theorem cnt3_zero (c : RowL) : tbl (cnt3 c 0) = tbl (cnt2 c) := tbl_congr fun y _ _ => by simp [cnt3]
theorem cnt4_zero (c : RowL) (i : Nat) : tbl (cnt4 c i 0) = tbl (cnt3 c i) := tbl_congr fun y _ _ => by simp [cnt4, rowC]
theorem cnt4_all {c : RowL} {i j : Nat} (h : i < c.length) (hj : (c.getD i []).length ≤ j) : tbl (cnt4 c i j) = tbl (cnt3 c (i + 1)) := tbl_congr fun y _ _ => by
  unfold cnt4 cnt3
  rw [List.take_of_length_le hj, take_one c i [] h, List.map_append, List.sum_append]
  simp only [List.map_cons, List.map_nil, List.sum_cons, List.sum_nil]; omega
theorem rowC_succ {r : List Stitch} {j : Nat} (h : j < r.length) (y : Int) : rowC y (r.take (j + 1)) = rowC y (r.take j) + if (r.getD j zeroS).k ≠ 7 ∧ (r.getD j zeroS).y = y then makesS (r.getD j zeroS) else 0 := by
  unfold rowC
  rw [take_one r j zeroS h, List.map_append, List.sum_append]
  simp only [List.map_cons, List.map_nil, List.sum_cons, List.sum_nil]; omega
theorem cnt4_skip {c : RowL} {i j : Nat} (h : j < (c.getD i []).length) (h7 : ((c.getD i []).getD j zeroS).k = 7) : tbl (cnt4 c i (j + 1)) = tbl (cnt4 c i j) := tbl_congr fun y _ _ => by
  unfold cnt4; rw [rowC_succ h, if_neg (fun e => e.1 h7)]; omega
theorem cnt4_step {c : RowL} {i j : Nat} (h : j < (c.getD i []).length) (h7 : ¬ ((c.getD i []).getD j zeroS).k = 7) (h1 : 1 ≤ ((c.getD i []).getD j zeroS).y) (h6 : ((c.getD i []).getD j zeroS).y ≤ 6) :
    (tbl (cnt4 c i j)).set (((c.getD i []).getD j zeroS).y - 1).toNat (cnt4 c i j ((c.getD i []).getD j zeroS).y + makesS ((c.getD i []).getD j zeroS)) = tbl (cnt4 c i (j + 1)) := by
  rw [tbl_add _ h1 h6]
  refine tbl_congr fun y _ _ => ?_
  unfold cnt4
  rw [rowC_succ h]
  by_cases e : ((c.getD i []).getD j zeroS).y = y
  · rw [if_pos e, if_pos ⟨h7, e⟩]; omega
  · rw [if_neg e, if_neg (fun q => e q.2)]; omega
theorem first_rng {r : List Stitch} (h : rowE r = 0) : 1 ≤ firstY r ∧ firstY r ≤ 6 := by
  obtain ⟨_, h1, ha, _⟩ := row_ok_of h
  obtain ⟨⟨s, hs, e⟩, _⟩ := first_spec (r := r) (fun e => by subst e; simp at h1)
  have := check_rng ((okB_iff s).1 (List.all_eq_true.1 ha s hs))
  omega
theorem rows_good {c : RowL} (h : chartE c = 0) : (1 ≤ c.length ∧ c.length ≤ 31) ∧ ∀ i, i < c.length → rowE (c.getD i []) = 0 := by
  have h0 : rowsE c = 0 := Classical.not_not.1 fun e => e (chart_bad rfl e ▸ h)
  obtain ⟨a, b, d, _⟩ := rows_of h0
  exact ⟨by omega, fun i hi => d i _ (by rw [List.getD, List.getElem?_eq_getElem hi]; rfl)⟩
theorem sum_le_of {α : Type} {f : α → Int} {b : Int} : ∀ {l : List α}, (∀ x ∈ l, 0 ≤ f x ∧ f x ≤ b) → 0 ≤ (l.map f).sum ∧ (l.map f).sum ≤ l.length * b
  | [], _ => by simp
  | x :: xs, h => by
    have h1 := h x (by simp)
    have ih := sum_le_of (f := f) (b := b) (l := xs) fun y hy => h y (by simp [hy])
    rw [List.map_cons, List.sum_cons, List.length_cons, Int.natCast_succ, Int.add_mul]
    omega
theorem rowC_le {r : List Stitch} (h : rowE r = 0) (y : Int) (j : Nat) : 0 ≤ rowC y (r.take j) ∧ rowC y (r.take j) ≤ 64 := by
  have h1 := (row_ok_of h).1
  have := rowC_pos y (r.take j)
  have h2 : (r.take j).length ≤ 16 := by rw [List.length_take]; omega
  omega
theorem mem_at {α : Type} {l : List α} {x d : α} (h : x ∈ l) : ∃ i, i < l.length ∧ l.getD i d = x := by
  obtain ⟨i, hi⟩ := List.getElem?_of_mem h
  exact ⟨i, (List.getElem?_eq_some_iff.1 hi).1, by rw [List.getD, hi]; rfl⟩
theorem cnt3_le {c : RowL} (h : chartE c = 0) (i : Nat) (y : Int) : 0 ≤ cnt3 c i y ∧ cnt3 c i y ≤ 2100 := by
  obtain ⟨⟨l1, l2⟩, hr⟩ := rows_good h
  have a := row_ok_of (hr 0 (by omega)); have b := row_ok_of (hr (c.length - 1) (by omega))
  have hs : ∀ x ∈ c.take i, 0 ≤ rowC y x ∧ rowC y x ≤ 64 := fun x hx => by
    obtain ⟨k, hk, e⟩ := mem_at (d := []) (List.mem_of_mem_take hx)
    have := rowC_le (hr k hk) y (c.getD k []).length
    rwa [List.take_length, e] at this
  have hq := sum_le_of hs
  have hl : (c.take i).length ≤ 31 := by rw [List.length_take]; omega
  unfold cnt3 cnt2 cnt1
  split <;> split <;> omega
theorem cnt4_le {c : RowL} (h : chartE c = 0) {i : Nat} (hi : i < c.length) (j : Nat) (y : Int) : 0 ≤ cnt4 c i j y ∧ cnt4 c i j y ≤ 2200 := by
  have a := cnt3_le h i y
  have b := rowC_le ((rows_good h).2 i hi) y j
  unfold cnt4; omega
theorem cnt1_le {c : RowL} (h : chartE c = 0) (y : Int) : 0 ≤ cnt1 c y ∧ cnt1 c y ≤ 16 := by
  obtain ⟨⟨l1, l2⟩, hr⟩ := rows_good h
  have a := row_ok_of (hr 0 (by omega))
  unfold cnt1; split <;> omega
theorem cnt_le {c : RowL} (h : chartE c = 0) (y : Int) : 0 ≤ cntY c y ∧ cntY c y ≤ 2100 := by rw [← cnt_all]; exact cnt3_le h _ y
/-- First, step by step. -/
theorem first_succ {r : List Stitch} {j : Nat} (h1 : 1 ≤ j) (h : j < r.length) : firstY (r.take (j + 1)) = min (firstY (r.take j)) (r.getD j zeroS).y := by
  match r, h with
  | x :: xs, h =>
    obtain ⟨k, rfl⟩ : ∃ k, j = k + 1 := ⟨j - 1, by omega⟩
    have hk : k < xs.length := by simpa using h
    have hg : ((x :: xs).getD (k + 1) zeroS) = xs[k] := by rw [List.getD, List.getElem?_cons_succ, List.getElem?_eq_getElem hk]; rfl
    rw [hg]
    show (xs.take (k + 1)).foldl _ x.y = min ((xs.take k).foldl _ x.y) _
    rw [List.take_add_one, List.getElem?_eq_getElem hk, List.foldl_append]; rfl
theorem first_self {r : List Stitch} (h : 1 ≤ r.length) : firstY (r.take 1) = (r.getD 0 zeroS).y := by
  match r, h with
  | x :: xs, _ => rfl
/-- The sums of a garment, step by step. -/
def gsum (ps : List Pc) (size : Int) (k : Nat) (y : Int) : Int := ((ps.take k).map fun p => p.ct * cntY (chartP size p) y).sum
theorem gsum_succ {ps : List Pc} {k : Nat} {p : Pc} (h : ps[k]? = some p) (size y : Int) : gsum ps size (k + 1) y = gsum ps size k y + p.ct * cntY (chartP size p) y := by
  unfold gsum; rw [List.take_add_one, h]; simp
theorem need_eq (ps : List Pc) (size : Int) : needL ps size = tbl (gsum ps size ps.length) := by
  unfold needL tbl
  refine List.map_congr_left fun y _ => ?_
  unfold needY gsum; rw [List.take_length]; rfl
/-- Up to the yarn y the sums hold k + 1 pieces, from there on k. -/
def gmix (ps : List Pc) (size : Int) (k z : Nat) (y : Int) : Int := if y ≤ z then gsum ps size (k + 1) y else gsum ps size k y
theorem gmix_zero (ps : List Pc) (size : Int) (k : Nat) : tbl (gmix ps size k 0) = tbl (gsum ps size k) := tbl_congr fun y h _ => by unfold gmix; rw [if_neg (by omega)]
theorem gmix_all (ps : List Pc) (size : Int) (k : Nat) : tbl (gmix ps size k 6) = tbl (gsum ps size (k + 1)) := tbl_congr fun y _ h => by unfold gmix; rw [if_pos (by omega)]
theorem gmix_step {ps : List Pc} {size : Int} {k z : Nat} {p : Pc} (h : ps[k]? = some p) (hz : z < 6) :
    (tbl (gmix ps size k z)).set z (gsum ps size k ((z : Int) + 1) + p.ct * cntY (chartP size p) ((z : Int) + 1)) = tbl (gmix ps size k (z + 1)) := by
  apply List.ext_getElem?
  intro i
  unfold tbl
  rw [List.getElem?_set]
  by_cases e : z = i
  · subst e
    rw [if_pos rfl, if_pos (by simpa using hz), List.getElem?_map, List.getElem?_range hz]
    simp only [Option.map_some, gmix]
    rw [if_pos (by omega), gsum_succ h]
  · rw [if_neg e, List.getElem?_map, List.getElem?_map]
    by_cases hi : i < 6
    · rw [List.getElem?_range hi]; simp only [Option.map_some, gmix]
      by_cases h1 : i < z
      · rw [if_pos (by omega), if_pos (by omega)]
      · rw [if_neg (by omega), if_neg (by omega)]
    · rw [List.getElem?_eq_none (by simpa using hi)]; rfl
theorem tbl_at (F : Int → Int) {z : Nat} (hz : z < 6) : (tbl F).getD z 0 = F ((z : Int) + 1) := tab_get (fun y : Nat => F ((y : Int) + 1)) hz
theorem gsum_le {ps : List Pc} {size : Int} (h : ∀ p ∈ ps, (0 ≤ p.ct ∧ p.ct ≤ 9) ∧ chartE (chartP size p) = 0) (k : Nat) (y : Int) : 0 ≤ gsum ps size k y ∧ gsum ps size k y ≤ ((ps.take k).length : Int) * 18900 := by
  refine sum_le_of (f := fun p => p.ct * cntY (chartP size p) y) fun p hp => ?_
  obtain ⟨⟨a, b⟩, c⟩ := h p (List.mem_of_mem_take hp)
  have d := cnt_le c y
  have e1 := Int.mul_nonneg a d.1
  have e2 := Int.mul_le_mul b d.2 d.1 (by omega : (0:Int) ≤ 9)
  omega
theorem pc_mul {a b : Int} (h1 : 0 ≤ a ∧ a ≤ 9) (h2 : 0 ≤ b ∧ b ≤ 2100) : 0 ≤ a * b ∧ a * b ≤ 18900 := by
  have e1 := Int.mul_nonneg h1.1 h2.1
  have e2 := Int.mul_le_mul h1.2 h2.2 h2.1 (by omega : (0:Int) ≤ 9)
  omega
/-! The array in memory. -/
theorem arr_ld (F : Int → Int) {k : Int} (h1 : 1 ≤ k) (h6 : k ≤ 6) : (ivs (tbl F))[(k - 1).toNat * 1]? = some (.int .i64 (F k)) := by
  rw [Nat.mul_one, ivs_get (by rw [tbl_len]; omega), tbl_get F h1 h6]
theorem arr_z (F : Int → Int) {z : Nat} (hz : z < 6) : (ivs (tbl F))[((z : Int)).toNat * 1]? = some (.int .i64 (F ((z : Int) + 1))) := by
  rw [Nat.mul_one, Int.toNat_natCast, ivs_get (by rw [tbl_len]; omega), tbl_at F hz]
theorem arr_lt (F : Int → Int) {k : Int} (h6 : k ≤ 6) : Nat.blt ((k - 1).toNat * 1) (ivs (tbl F)).length = true := by
  rw [Nat.blt_eq, ivs_len, tbl_len]; omega
theorem arr_zt (F : Int → Int) {z : Nat} (hz : z < 6) : Nat.blt ((z : Int).toNat * 1) (ivs (tbl F)).length = true := by
  rw [Nat.blt_eq, ivs_len, tbl_len]; omega
theorem arr1 {c : RowL} {r : List Stitch} (hr : c.getD 0 [] = r) (h : rowE r = 0) : (ivs (tbl fun _ => 0)).set ((firstY r - 1).toNat * 1) (.int .i64 (0 + needsR r)) = ivs (tbl (cnt1 c)) := by
  subst hr
  obtain ⟨a, b⟩ := first_rng h
  rw [Nat.mul_one, ivs_set, tbl_add (fun _ => 0) a b]; rfl
theorem arr2 {c : RowL} {r : List Stitch} (hr : c.getD (c.length - 1) [] = r) (h : rowE r = 0) : (ivs (tbl (cnt1 c))).set ((firstY r - 1).toNat * 1) (.int .i64 (cnt1 c (firstY r) + makesR r)) = ivs (tbl (cnt2 c)) := by
  subst hr
  obtain ⟨a, b⟩ := first_rng h
  rw [Nat.mul_one, ivs_set, tbl_add (cnt1 c) a b]; rfl
theorem arr4 {c : RowL} {i j : Nat} {r : List Stitch} (hr : c.getD i [] = r) (h : j < r.length) (h7 : ¬ (r.getD j zeroS).k = 7) (h1 : 1 ≤ (r.getD j zeroS).y) (h6 : (r.getD j zeroS).y ≤ 6) :
    (ivs (tbl (cnt4 c i j))).set (((r.getD j zeroS).y - 1).toNat * 1) (.int .i64 (cnt4 c i j (r.getD j zeroS).y + makesS (r.getD j zeroS))) = ivs (tbl (cnt4 c i (j + 1))) := by
  subst hr
  rw [Nat.mul_one, ivs_set, cnt4_step h h7 h1 h6]
theorem arr4s {c : RowL} {i j : Nat} {r : List Stitch} (hr : c.getD i [] = r) (h : j < r.length) (h7 : (r.getD j zeroS).k = 7) : tbl (cnt4 c i (j + 1)) = tbl (cnt4 c i j) := by
  subst hr
  exact cnt4_skip h h7
theorem arrG {ps : List Pc} {size : Int} {k z : Nat} {p : Pc} (h : ps[k]? = some p) (hz : z < 6) :
    (ivs (tbl (gmix ps size k z))).set ((z : Int).toNat * 1) (.int .i64 (gmix ps size k z ((z : Int) + 1) + p.ct * cntY (chartP size p) ((z : Int) + 1))) = ivs (tbl (gmix ps size k (z + 1))) := by
  rw [Nat.mul_one, Int.toNat_natCast, ivs_set, show gmix ps size k z ((z : Int) + 1) = gsum ps size k ((z : Int) + 1) from if_neg (by omega), gmix_step h hz]
theorem first_max {r : List Stitch} {i : Nat} (h : i < r.length) : min (firstY (r.take (max i 1))) (r.getD i zeroS).y = firstY (r.take (max (i + 1) 1)) := by
  rcases Nat.eq_zero_or_pos i with rfl | h0
  · show min (firstY (r.take 1)) _ = firstY (r.take 1)
    rw [first_self (by omega)]; omega
  · rw [show max i 1 = i by omega, show max (i + 1) 1 = i + 1 by omega, first_succ h0 h]
theorem first_zero {r : List Stitch} (h : ¬ r.length = 0) : (r.getD 0 zeroS).y = firstY (r.take (max 0 1)) := (first_self (by omega)).symm
theorem gd_rows {c : RowL} {rs : List RQ} (h : rs.map Prod.snd = c) {i : Nat} (hi : i < rs.length) : c.getD i [] = (rs.getD i rq0).2 := by
  subst h; exact map_getD Prod.snd rs i rq0 [] hi
theorem at_y {r : List Stitch} (h : rowE r = 0) {j : Nat} (hj : j < r.length) : 1 ≤ (r.getD j zeroS).y ∧ (r.getD j zeroS).y ≤ 6 := by
  obtain ⟨_, _, ha, _⟩ := row_ok_of h
  have := check_rng ((okB_iff _).1 (List.all_eq_true.1 ha _ (getD_memS (d := zeroS) hj)))
  omega
theorem set_tk {F : Int → Int} {i n : Nat} (h : i < 6) : ((tbl F).take i ++ List.replicate (n + 1) (0 : Int)).set i (F ((i : Int) + 1)) = (tbl F).take (i + 1) ++ List.replicate n 0 := by
  have hl : ((tbl F).take i).length = i := by rw [List.length_take, tbl_len]; omega
  rw [List.set_append_right _ _ (by omega), hl, Nat.sub_self, List.replicate_succ, List.set_cons_zero, take_one _ i 0 (by rw [tbl_len]; omega), tbl_at F h, List.append_assoc]; rfl
theorem made {nm : List UInt8} {ps : List Pc} {size : Int} (h : makeE nm ps size = 0) : ps.length ≤ 8 ∧ ∀ p ∈ ps, (0 ≤ p.ct ∧ p.ct ≤ 9) ∧ chartE (chartP size p) = 0 := by
  obtain ⟨hg, h0, h9, hc⟩ := make_of h
  obtain ⟨l, _, _, hr, _, _⟩ := gar_of hg
  refine ⟨l, fun p hp => ⟨?_, (stack_of (charts_of hc p hp)).2.2.2.2⟩⟩
  have := right_of (hr p hp); omega
theorem pcs_some {qs : List PQ} {k : Nat} (h : k < qs.length) : (pcs qs)[k]? = some (qs.getD k pq0).p := by
  rw [List.getElem?_map, List.getElem?_eq_getElem h, List.getD, List.getElem?_eq_getElem h]; rfl
theorem pcs_mem {qs : List PQ} {k : Nat} (h : k < qs.length) : (qs.getD k pq0).p ∈ pcs qs := List.mem_map.2 ⟨_, getD_memS h, rfl⟩
theorem gmix_le {ps : List Pc} {size : Int} (hl : ps.length ≤ 8) (h : ∀ p ∈ ps, (0 ≤ p.ct ∧ p.ct ≤ 9) ∧ chartE (chartP size p) = 0) (k z : Nat) : 0 ≤ gmix ps size k z ((z : Int) + 1) ∧ gmix ps size k z ((z : Int) + 1) ≤ 151200 := by
  have := gsum_le (size := size) h k ((z : Int) + 1)
  have e : gmix ps size k z ((z : Int) + 1) = gsum ps size k ((z : Int) + 1) := if_neg (by omega)
  have hl2 : (ps.take k).length ≤ 8 := by rw [List.length_take]; omega
  rw [e]; omega
theorem needL_len (ps : List Pc) (size : Int) : (needL ps size).length = 6 := by simp [needL]
theorem blk_own6 {w : World} {g T N : Nat} {c : List Int} (h : Blk w g T (ivs c)) (hN : N ≤ g) (hl : c.length = 6) : Lw.Own Enc.i64 T N w (.slice (some ⟨g, 0, none⟩) 6 6) c := by
  have := blk_own h hN (by rw [hl]; unfold maxLen; omega)
  rwa [hl] at this
/-! The law's own functions. -/
def wrdS (n : Int) : Stitch := ⟨n, 1, 0, 0, false⟩
end Go.G14
namespace Go.Proofs.YthehggmdcmpjeaaDoor
open Go.Lw Go.G14
theorem ag56 : AggOf Tryd.prog 56 3 := ⟨fun _ => by kernel_rfl, fun _ => by kernel_rfl⟩
theorem co25 : CallOf Tryd.prog 25 := CallOf.mk' Tryd.func25 (by kernel_rfl) (by kernel_rfl)
theorem co47 : CallOf Tryd.prog 47 := CallOf.mk' Tryd.func47 (by kernel_rfl) (by kernel_rfl)
theorem fa56_1 : FieldAt Tryd.prog 56 1 1 := fun _ _ => by kernel_rfl
theorem fa56_2 : FieldAt Tryd.prog 56 2 2 := fun _ _ => by kernel_rfl
theorem zv67 (w : World) : (zeroValue 67).run Tryd.prog w = .ok (.agg #[(.int .i64 0), (.int .i64 0), (.int .i64 0), (.int .i64 0), (.int .i64 0), (.int .i64 0)]) w := by kernel_rfl
theorem first_ok (v : Value) (r : List Stitch) (w0 : World) (hs : Sl encSt w0 v r) : Rets Tryd.prog 47 #[v] w0 fun v w' => v = .int .u8 (firstY r) ∧ Fr [] w0 w' := by
 obtain ⟨A, c, rfl, hcc, hM, hA⟩ := id hs
 clear hA
 unfold maxLen at hM
 refine we [(0, .slice A r.length c)] Tryd.func47 rfl Tryd.ntmps47 rfl (.cons rfl .nil) ?_
 have hs0 := hs
 refine sr (asg rfl rfl (nn (sq (sr (mv rfl rfl (lnS rfl Tryd.underlying61 rfl (eq' rfl rfl rfl (nn ?_))))))))
 refine cd rfl (fun c0 => ?_) (fun c0 => ?_)
 · refine sr (asg rfl rfl (nn (rt (tr (r1 Tryd.results47 rfl ?_)))))
   exact ⟨_, rfl, by rw [show r = [] from List.length_eq_zero_iff.1 (by omega)]; rfl, (Fr.refl _ _)⟩
 · refine sk (tn (sr (mv rfl rfl (s_idxL (p := 0) (zeroS) rfl hs rfl el61 (by omega) (by omega) rfl rfl (fun ad10 hc10 => ?_)))))
   refine fad rfl fa100_1 rfl (s_loadC rfl (hc10 _ hs) rfl na5 rfl (asg rfl rfl (nn (sq (sr (mv rfl rfl (lnS rfl Tryd.underlying61 rfl (mv rfl rfl (nn (bl ?_))))))))))
   refine lpK (ι := Nat) [(13, _), (14, _)] (fun i => [(15, .int .i64 (i : Int)), (3, .int .u8 (firstY (r.take (max i 1))))]) (fun i w' => Fr [] w0 w' ∧ i ≤ r.length) (fun i => r.length - i) 0 (.cons rfl (.cons rfl (.cons rfl (.cons (congrArg (fun z => some (Value.int .u8 z)) (first_zero (by omega))) .nil)))) ⟨Fr.refl _ _, Nat.zero_le _⟩ ?_
   rintro i w1 ⟨q1, hi⟩
   have z1 := q1.size
   refine kpC [(13, _), (14, _), (15, _), (3, _)] (.cons rfl (.cons rfl (.cons rfl (.cons rfl .nil)))) ?_
   refine sr (lt' rfl rfl rfl (nn (sq ?_)))
   refine cd rfl (fun c1 => ?_) (fun c1 => ?_)
   · refine sk (tn (sq (bl (sr ?_))))
     replace hs := hs0.ext q1
     refine s_idxL (zeroS) rfl hs rfl el61 (by omega) (by omega) nat_of rfl (fun ad17 hc17 => ?_)
     refine s_loadA rfl (hc17 _ hs) ag100 rfl (al zv100 rfl rfl (fun g5 w2 hg5 hb5 q2 z2 => ?_))
     refine s_storeBA rfl rfl hb5 rfl (by first | (simp [Value.oneCell', S]; done) | exact Enc.one _ _) sz100 (fun w3 hb5 q3 z3 => ?_)
     refine nn (rg (mv rfl rfl (fad rfl fa100_1 rfl (s_loadB rfl hb5 rfl na5 rfl (s_min rfl rfl rfl (asg rfl rfl (nl (bn' (tn (rg (s_add rfl rfl (wi6 (by omega)) rfl ?_)))))))))))
     refine mv rfl rfl (nl ?_)
     exact lpE (i + 1) (.cons rfl (.cons rfl (.cons rfl (.cons (congrArg (fun z => some (Value.int .u8 z)) (first_max (by omega))) .nil)))) ⟨((q1.next q2).step q3 (by first | (simp; done) | (simp; omega))), by omega⟩ (by omega)
   · obtain rfl : i = r.length := by omega
     rw [show max r.length 1 = r.length by omega, List.take_length]
     refine ex (te (te (xh (tn (sr (mv rfl rfl (asg rfl rfl (kpL [(2, _)] (.cons rfl .nil) (nn (rt (r1 Tryd.results47 rfl ?_)))))))))))
     exact ⟨_, rfl, rfl, q1⟩
set_option maxHeartbeats 1000000 in
theorem loops_ok (v : Value) (c : RowL) (w0 : World) (hs : Sll encSt w0 v c) : Rets Tryd.prog 25 #[.agg #[v]] w0 fun r w' => ∃ V, r = .tuple #[V, .int .i64 (chartE c)] ∧ (chartE c ≠ 0 → V = .slice none 0 0) ∧ (chartE c = 0 → (∃ A, V = .slice A 6 6) ∧ Lw.Own Enc.i64 3 w0.heap.size w' V (tbl (cntY c))) ∧ Fr [] w0 w' := by
 obtain ⟨rs, hrs, hqr, hrm⟩ := Sll.opn hs
 have hrc : rs.length = c.length := by rw [← hrm, List.length_map]
 obtain ⟨A, cp, rfl, hcc, hM, hA⟩ := id hrs
 clear hA
 unfold maxLen at hM
 have hgd := fun i (hi : i < rs.length) => gd_rows hrm hi
 refine we [(0, .agg #[.slice A rs.length cp])] Tryd.func25 rfl Tryd.ntmps25 rfl (.cons rfl .nil) ?_
 have hs0 := hs
 have hrs0 := hrs
 have hqr0 := hqr
 refine sr (bx rfl rfl rfl (fun g1 w1 hg1 hb1 q1 z1 => ?_))
 refine asg rfl rfl (asg rfl rfl (nn (sq (sr (s_loadBA rfl hb1 ag47 rfl ?_)))))
 replace hs := hs0.ext q1
 refine cl (ev1 rfl) co46 (check_chart_ok _ c _ hs) rfl ?_
 rintro _ w2 ⟨rfl, q2⟩
 have z2 := q2.size
 refine asg rfl rfl (nn (sr (mv rfl rfl (ne' rfl rfl rfl (nn ?_)))))
 refine cd rfl (fun c0 => ?_) (fun c0 => ?_)
 · refine sr (mv rfl rfl (asg rfl rfl (asg rfl rfl (nn (rt (tr (r2 Tryd.results25 rfl rfl ?_)))))))
   exact ⟨_, rfl, _, rfl, fun _ => rfl, fun h => absurd h c0, (q1.next q2)⟩
 · have hce : chartE c = 0 := Classical.not_not.1 c0
   obtain ⟨hcl, hcr⟩ := rows_good hce
   have hr0 := hcr 0 (by omega)
   have hrL := hcr (c.length - 1) (by omega)
   have hg0 := hgd 0 (by omega)
   have hgL := hgd (rs.length - 1) (by omega)
   rw [hg0] at hr0
   rw [← hrc, hgL] at hrL
   have hf0 := first_rng hr0
   have hfL := first_rng hrL
   have hw0 := row_ok_of hr0
   have hwL := row_ok_of hrL
   have hc1 := cnt1_le hce (firstY (rs.getD (rs.length - 1) rq0).2)
   refine sk (tn (sr (al zv67 rfl rfl (fun g5 w3 hg5 hb5 q3 z3 => ?_))))
   replace hb5 : Blk w3 g5 _ (ivs (tbl fun _ => 0)) := hb5
   refine nn (sr (fad rfl fa47_0 rfl ?_))
   replace hb1 := hb1.ext (q2.next q3)
   refine s_loadB rfl hb1 rfl na45 rfl (fad rfl fa47_0 rfl (s_loadB rfl hb1 rfl na45 rfl (lnS rfl Tryd.underlying45 rfl (s_sub rfl rfl (wi6 (by omega)) rfl ?_))))
   replace hrs := hrs0.ext ((q1.next q2).next q3)
   refine s_idxL (p := (rs.length - 1)) (rq0) rfl hrs rfl er45 (by omega) (by omega) (by omega) rfl (fun ad24 hc24 => ?_)
   refine s_loadC0 rfl (hc24 _ hrs) na61 rfl (asg rfl rfl (kpL [(1, _), (5, _), (6, _)] (.cons rfl (.cons rfl (.cons rfl .nil))) (nn (sq ?_))))
   replace hqr := hqr0.ext ((q1.next q2).next q3)
   intro a h
   refine region_heldP (some 15) (fun wb w' => Fr [] wb w') hmix ?_; intro w4 hq
   have z4 := hq.size
   replace hrs := hrs.ext hq
   replace hqr := hqr.ext hq
   replace hb1 := hb1.ext hq
   replace hb5 := hb5.ext hq
   have q4 := hq
   clear hq; have hC : Fr [] w4 w4 := Fr.refl _ _
   have hrs_b := hrs
   have hqr_b := hqr
   have hb1_b := hb1
   have hb5_b := hb5
   refine hd_fieldAddr 0 (by kernel_rfl) (by kernel_rfl) (by kernel_rfl) hC h wn rfl fa47_0 rfl rfl ?_; clear h a; intro a h
   refine hd_loadB 1 (by kernel_rfl) (by kernel_rfl) (by kernel_rfl) hC h wn rfl (fun _ hw => hb1_b.ext hw) rfl na45 rfl rfl ?_; clear h a; intro a h
   refine hd_idxL (p := 0) (rq0) 2 (by kernel_rfl) (by kernel_rfl) (by kernel_rfl) hC h wn rfl hrs rfl er45 (by omega) (by omega) rfl rfl rfl ?_; clear h a; intro ad28 hc28 a h
   refine hd_loadC0 3 (by kernel_rfl) (by kernel_rfl) (by kernel_rfl) hC h wn rfl (fun _ hw => hc28 _ (hrs_b.ext hw)) na61 rfl rfl ?_; clear h a; intro a h
   refine hd_fieldAddr 8 (by kernel_rfl) (by kernel_rfl) (by kernel_rfl) hC h wn rfl fa47_0 rfl rfl ?_; clear h a; intro a h
   refine hd_loadB 9 (by kernel_rfl) (by kernel_rfl) (by kernel_rfl) hC h wn rfl (fun _ hw => hb1_b.ext hw) rfl na45 rfl rfl ?_; clear h a; intro a h
   refine hd_idxL (p := 0) (rq0) 10 (by kernel_rfl) (by kernel_rfl) (by kernel_rfl) hC h wn rfl hrs rfl er45 (by omega) (by omega) rfl rfl rfl ?_; clear h a; intro ad36 hc36 a h
   refine hd_loadC0 11 (by kernel_rfl) (by kernel_rfl) (by kernel_rfl) hC h wn rfl (fun _ hw => hc36 _ (hrs_b.ext hw)) na61 rfl rfl ?_; clear h a; intro a h
   refine hd_one 4 (by kernel_rfl) rfl ?_
   refine st_call h (evs_cons rfl evs_nil) co47 (first_ok _ (rs.getD 0 rq0).2 _ (hqr _ (getD_memS (by omega)))) rfl ?_; clear h a; rintro _ w5 ⟨rfl, hq⟩ a h
   have z5 := hq.size
   replace hrs := hrs.ext hq
   replace hqr := hqr.ext hq
   replace hb1 := hb1.ext hq
   replace hb5 := hb5.ext hq
   replace hC := hC.next hq
   have q5 := hq
   clear hq
   refine hd_next hC ?_
   refine hd_sub 5 (by kernel_rfl) (by kernel_rfl) (by kernel_rfl) hC h wn rfl rfl (by first | exact IntWalk.u8_in _ (by omega) | rfl) rfl rfl ?_; clear h a; intro a h
   refine hd_idxA 6 (by kernel_rfl) (by kernel_rfl) (by kernel_rfl) hC h wn rfl rfl Tryd.underlying67 sz3 (by omega) (by omega) rfl rfl ?_; clear h a; intro a h
   refine hd_loadB 7 (by kernel_rfl) (by kernel_rfl) (by kernel_rfl) hC h wn rfl (fun _ hw => hb5_b.ext hw) (arr_ld (fun _ => 0) hf0.1 hf0.2) na3 rfl rfl ?_; clear h a; intro a h
   refine hd_one 12 (by kernel_rfl) rfl ?_
   refine st_call h (evs_cons rfl evs_nil) co48 (cneeds_ok _ (rs.getD 0 rq0).2 _ (hqr _ (getD_memS (by omega))) (by omega)) rfl ?_; clear h a; rintro _ w6 ⟨rfl, hq⟩ a h
   have z6 := hq.size
   replace hrs := hrs.ext hq
   replace hqr := hqr.ext hq
   replace hb1 := hb1.ext hq
   replace hb5 := hb5.ext hq
   replace hC := hC.next hq
   have q6 := hq
   clear hq
   refine hd_next hC ?_
   refine hd_add 13 (by kernel_rfl) (by kernel_rfl) (by kernel_rfl) hC h wn rfl rfl (by first | exact IntWalk.i64_in _ (by omega) | rfl) rfl rfl ?_; clear h a; intro a h
   refine hd_idxA 14 (by kernel_rfl) (by kernel_rfl) (by kernel_rfl) hC h wn rfl rfl Tryd.underlying67 sz3 (by omega) (by omega) rfl rfl ?_; clear h a; intro a h
   refine hd_one 15 (by kernel_rfl) rfl ?_
   refine st_storeB h rfl rfl hb5 (arr_lt _ hf0.2) rfl rfl sz3 ?_; clear h a; intro w7 hbn hq hz a h
   have z7 := hq.size
   replace hb1 := hb1.fr hq (by first | (simp; done) | (simp; omega) | (simp [blks]; done) | (simp [blks]; omega))
   have q7 := hq
   rw [arr1 hg0 hr0] at hbn; clear hb5 hq hz; have hb5 : Blk w7 g5 _ _ := hbn; clear hbn
   refine hd_past (by kernel_rfl) ?_
   refine hd_end (by kernel_rfl) ?_
   clear hC hrs_b hqr_b hb1_b hb5_b
   refine bk (h.sub (L' := [(1, _), (5, _), (6, _)]) (.cons rfl (.cons rfl (.cons rfl .nil)))) ?_; clear h a
   refine tn (sq ?_)
   replace hrs := hrs0.ext ((((((q1.next q2).next q3).next q4).next q5).next q6).step q7 (by first | (simp; done) | (simp; omega)))
   replace hqr := hqr0.ext ((((((q1.next q2).next q3).next q4).next q5).next q6).step q7 (by first | (simp; done) | (simp; omega)))
   intro a h
   refine region_heldP (some 9) (fun wb w' => Fr [] wb w') hmix ?_; intro w8 hq
   have z8 := hq.size
   replace hrs := hrs.ext hq
   replace hqr := hqr.ext hq
   replace hb5 := hb5.ext hq
   have q8 := hq
   clear hq; have hC : Fr [] w8 w8 := Fr.refl _ _
   have hrs_b := hrs
   have hqr_b := hqr
   have hb5_b := hb5
   refine hd_move 0 (by kernel_rfl) (by kernel_rfl) (by kernel_rfl) hC h wn rfl rfl rfl ?_; clear h a; intro a h
   refine hd_move 5 (by kernel_rfl) (by kernel_rfl) (by kernel_rfl) hC h wn rfl rfl rfl ?_; clear h a; intro a h
   refine hd_one 1 (by kernel_rfl) rfl ?_
   refine st_call h (evs_cons rfl evs_nil) co47 (first_ok _ (rs.getD (rs.length - 1) rq0).2 _ (hqr _ (getD_memS (by omega)))) rfl ?_; clear h a; rintro _ w9 ⟨rfl, hq⟩ a h
   have z9 := hq.size
   replace hrs := hrs.ext hq
   replace hqr := hqr.ext hq
   replace hb5 := hb5.ext hq
   replace hC := hC.next hq
   have q9 := hq
   clear hq
   refine hd_next hC ?_
   refine hd_sub 2 (by kernel_rfl) (by kernel_rfl) (by kernel_rfl) hC h wn rfl rfl (by first | exact IntWalk.u8_in _ (by omega) | rfl) rfl rfl ?_; clear h a; intro a h
   refine hd_idxA 3 (by kernel_rfl) (by kernel_rfl) (by kernel_rfl) hC h wn rfl rfl Tryd.underlying67 sz3 (by omega) (by omega) rfl rfl ?_; clear h a; intro a h
   refine hd_loadB 4 (by kernel_rfl) (by kernel_rfl) (by kernel_rfl) hC h wn rfl (fun _ hw => hb5_b.ext hw) (arr_ld (cnt1 c) hfL.1 hfL.2) na3 rfl rfl ?_; clear h a; intro a h
   refine hd_one 6 (by kernel_rfl) rfl ?_
   refine st_call h (evs_cons rfl evs_nil) co49 (cmakes_ok _ (rs.getD (rs.length - 1) rq0).2 _ (hqr _ (getD_memS (by omega))) (by omega)) rfl ?_; clear h a; rintro _ w10 ⟨rfl, hq⟩ a h
   have z10 := hq.size
   replace hrs := hrs.ext hq
   replace hqr := hqr.ext hq
   replace hb5 := hb5.ext hq
   replace hC := hC.next hq
   have q10 := hq
   clear hq
   refine hd_next hC ?_
   refine hd_add 7 (by kernel_rfl) (by kernel_rfl) (by kernel_rfl) hC h wn rfl rfl (by first | exact IntWalk.i64_in _ (by omega) | rfl) rfl rfl ?_; clear h a; intro a h
   refine hd_idxA 8 (by kernel_rfl) (by kernel_rfl) (by kernel_rfl) hC h wn rfl rfl Tryd.underlying67 sz3 (by omega) (by omega) rfl rfl ?_; clear h a; intro a h
   refine hd_one 9 (by kernel_rfl) rfl ?_
   refine st_storeB h rfl rfl hb5 (arr_lt _ hfL.2) rfl rfl sz3 ?_; clear h a; intro w11 hbn hq hz a h
   have z11 := hq.size
   have q11 := hq
   rw [arr2 (hrc ▸ hgL) hrL] at hbn; clear hb5 hq hz; have hb5 : Blk w11 g5 _ _ := hbn; clear hbn
   refine hd_past (by kernel_rfl) ?_
   refine hd_end (by kernel_rfl) ?_
   clear hC hrs_b hqr_b hb5_b
   refine bk (h.sub (L' := [(1, _), (5, _)]) (.cons rfl (.cons rfl .nil))) ?_; clear h a
   refine tn (sq (sr (fad rfl fa47_0 rfl ?_)))
   replace hb1 := (hb1.ext ((q8.next q9).next q10)).fr q11 (by first | (simp; done) | (simp; omega) | (simp [blks]; done) | (simp [blks]; omega))
   refine s_loadB rfl hb1 rfl na45 rfl (lnS rfl Tryd.underlying45 rfl (mv rfl rfl (nn (bl ?_))))
   refine lpK (ι := Nat) [(5, _), (51, _), (52, _)] (fun i => [(53, .int .i64 (i : Int))]) (fun i w' => Fr [g5] w11 w' ∧ i ≤ rs.length ∧ Blk w' g5 67 (ivs (tbl (cnt3 c i)))) (fun i => rs.length - i) 0 (.cons rfl (.cons rfl (.cons rfl (.cons rfl .nil)))) ⟨Fr.refl _ _, ⟨Nat.zero_le _, by rw [cnt3_zero]; exact hb5⟩⟩ ?_
   rintro i w12 ⟨q12, ⟨hi, hb5⟩⟩
   have z12 := q12.size
   have lt_hb5 := hb5.lt
   refine kpC [(5, _), (51, _), (52, _), (53, _)] (.cons rfl (.cons rfl (.cons rfl (.cons rfl .nil)))) ?_
   refine sr (lt' rfl rfl rfl (nn (sq ?_)))
   refine cd rfl (fun c1 => ?_) (fun c1 => ?_)
   · replace hqr := hqr0.ext (((((((((((q1.next q2).next q3).next q4).next q5).next q6).step q7 (by first | (simp; done) | (simp; omega))).next q8).next q9).next q10).step q11 (by first | (simp; done) | (simp; omega))).step q12 (by first | (simp; done) | (simp; omega)))
     have hgi := hgd i (by omega)
     have hri := hcr i (by omega)
     rw [hgi] at hri
     have hwi := row_ok_of hri
     have hjl := sl_len (hqr (rs.getD i rq0) (getD_memS (by omega)))
     refine sk (tn (sq (bl (sr ?_))))
     replace hrs := hrs0.ext (((((((((((q1.next q2).next q3).next q4).next q5).next q6).step q7 (by first | (simp; done) | (simp; omega))).next q8).next q9).next q10).step q11 (by first | (simp; done) | (simp; omega))).step q12 (by first | (simp; done) | (simp; omega)))
     refine s_idxL (rq0) rfl hrs rfl er45 (by omega) (by omega) nat_of rfl (fun ad55 hc55 => ?_)
     refine s_loadC0 rfl (hc55 _ hrs) na61 rfl (asg rfl rfl (nn (sr (mv rfl rfl (lnS rfl Tryd.underlying61 rfl (mv rfl rfl (nn (bl ?_))))))))
     refine lpK (ι := Nat) [(5, _), (51, _), (52, _), (53, _), (57, _), (58, _)] (fun j => [(59, .int .i64 (j : Int))]) (fun j w' => Fr [g5] w12 w' ∧ j ≤ (rs.getD i rq0).2.length ∧ Blk w' g5 67 (ivs (tbl (cnt4 c i j)))) (fun j => (rs.getD i rq0).2.length - j) 0 (.cons rfl (.cons rfl (.cons rfl (.cons rfl (.cons rfl (.cons rfl (.cons rfl .nil))))))) ⟨Fr.refl _ _, ⟨Nat.zero_le _, by rw [cnt4_zero]; exact hb5⟩⟩ ?_
     rintro j w13 ⟨q13, ⟨hj, hb5⟩⟩
     have z13 := q13.size
     have lt_hb5 := hb5.lt
     refine kpC [(5, _), (51, _), (52, _), (53, _), (57, _), (58, _), (59, _)] (.cons rfl (.cons rfl (.cons rfl (.cons rfl (.cons rfl (.cons rfl (.cons rfl .nil))))))) ?_
     refine sr (lt' rfl rfl rfl (nn (sq ?_)))
     refine cd rfl (fun c2 => ?_) (fun c2 => ?_)
     · have hy := at_y hri (j := j) (by omega)
       have hc4 := cnt4_le hce (i := i) (by omega) j ((rs.getD i rq0).2.getD j zeroS).y
       have hmk := makes_rng ((rs.getD i rq0).2.getD j zeroS)
       refine sk (tn (sq (bl (sr ?_))))
       replace hqr := hqr0.ext ((((((((((((q1.next q2).next q3).next q4).next q5).next q6).step q7 (by first | (simp; done) | (simp; omega))).next q8).next q9).next q10).step q11 (by first | (simp; done) | (simp; omega))).step q12 (by first | (simp; done) | (simp; omega))).step q13 (by first | (simp; done) | (simp; omega)))
       refine s_idxL (zeroS) rfl (hqr (rs.getD i rq0) (getD_memS (by omega))) rfl el61 (by omega) (by omega) nat_of rfl (fun ad61 hc61 => ?_)
       refine s_loadA rfl (hc61 _ (hqr (rs.getD i rq0) (getD_memS (by omega)))) ag100 rfl (al zv100 rfl rfl (fun g10 w14 hg10 hb10 q14 z14 => ?_))
       refine s_storeBA rfl rfl hb10 rfl (by first | (simp [Value.oneCell', S]; done) | exact Enc.one _ _) sz100 (fun w15 hb10 q15 z15 => ?_)
       refine nn (sr (fad rfl fa100_0 rfl (s_loadB rfl hb10 rfl na87 rfl (ne' rfl rfl rfl (nn ?_)))))
       refine cd rfl (fun c3 => ?_) (fun c3 => ?_)
       · replace hrs := hrs0.ext ((((((((((((((q1.next q2).next q3).next q4).next q5).next q6).step q7 (by first | (simp; done) | (simp; omega))).next q8).next q9).next q10).step q11 (by first | (simp; done) | (simp; omega))).step q12 (by first | (simp; done) | (simp; omega))).step q13 (by first | (simp; done) | (simp; omega))).next q14).step q15 (by first | (simp; done) | (simp; omega)))
         replace hqr := hqr0.ext ((((((((((((((q1.next q2).next q3).next q4).next q5).next q6).step q7 (by first | (simp; done) | (simp; omega))).next q8).next q9).next q10).step q11 (by first | (simp; done) | (simp; omega))).step q12 (by first | (simp; done) | (simp; omega))).step q13 (by first | (simp; done) | (simp; omega))).next q14).step q15 (by first | (simp; done) | (simp; omega)))
         replace hb5 := (hb5.ext q14).fr q15 (by first | (simp; done) | (simp; omega) | (simp [blks]; done) | (simp [blks]; omega))
         intro a h
         refine region_heldP (some 9) (fun wb w' => Fr [] wb w') hmix ?_; intro w16 hq
         have z16 := hq.size
         replace hrs := hrs.ext hq
         replace hqr := hqr.ext hq
         replace hb5 := hb5.ext hq
         replace hb10 := hb10.ext hq
         have q16 := hq
         clear hq; have hC : Fr [] w16 w16 := Fr.refl _ _
         have hrs_b := hrs
         have hqr_b := hqr
         have hb5_b := hb5
         have hb10_b := hb10
         refine hd_fieldAddr 0 (by kernel_rfl) (by kernel_rfl) (by kernel_rfl) hC h wn rfl fa100_1 rfl rfl ?_; clear h a; intro a h
         refine hd_loadB 1 (by kernel_rfl) (by kernel_rfl) (by kernel_rfl) hC h wn rfl (fun _ hw => hb10_b.ext hw) rfl na5 rfl rfl ?_; clear h a; intro a h
         refine hd_sub 2 (by kernel_rfl) (by kernel_rfl) (by kernel_rfl) hC h wn rfl rfl (by first | exact IntWalk.u8_in _ (by omega) | rfl) rfl rfl ?_; clear h a; intro a h
         refine hd_idxA 3 (by kernel_rfl) (by kernel_rfl) (by kernel_rfl) hC h wn rfl rfl Tryd.underlying67 sz3 (by omega) (by omega) rfl rfl ?_; clear h a; intro a h
         refine hd_loadB 4 (by kernel_rfl) (by kernel_rfl) (by kernel_rfl) hC h wn rfl (fun _ hw => hb5_b.ext hw) (arr_ld (cnt4 c i j) hy.1 hy.2) na3 rfl rfl ?_; clear h a; intro a h
         refine hd_loadBA 5 (by kernel_rfl) (by kernel_rfl) (by kernel_rfl) hC h wn rfl (fun _ hw => hb10_b.ext hw) ag100 rfl rfl ?_; clear h a; intro a h
         refine hd_one 6 (by kernel_rfl) rfl ?_
         refine st_call h (evs_cons rfl evs_nil) co50 (makes_ok ((rs.getD i rq0).2.getD j zeroS) _) rfl ?_; clear h a; rintro _ w17 ⟨rfl, hq⟩ a h
         have z17 := hq.size
         replace hrs := hrs.ext hq
         replace hqr := hqr.ext hq
         replace hb5 := hb5.ext hq
         replace hb10 := hb10.ext hq
         replace hC := hC.next hq
         have q17 := hq
         clear hq
         refine hd_next hC ?_
         refine hd_add 7 (by kernel_rfl) (by kernel_rfl) (by kernel_rfl) hC h wn rfl rfl (by first | exact IntWalk.i64_in _ (by omega) | rfl) rfl rfl ?_; clear h a; intro a h
         refine hd_idxA 8 (by kernel_rfl) (by kernel_rfl) (by kernel_rfl) hC h wn rfl rfl Tryd.underlying67 sz3 (by omega) (by omega) rfl rfl ?_; clear h a; intro a h
         refine hd_one 9 (by kernel_rfl) rfl ?_
         refine st_storeB h rfl rfl hb5 (arr_lt _ hy.2) rfl rfl sz3 ?_; clear h a; intro w18 hbn hq hz a h
         have z18 := hq.size
         replace hb10 := hb10.fr hq (by first | (simp; done) | (simp; omega) | (simp [blks]; done) | (simp [blks]; omega))
         have q18 := hq
         rw [arr4 hgi (by omega) c3 hy.1 hy.2] at hbn; clear hb5 hq hz; have hb5 : Blk w18 g5 _ _ := hbn; clear hbn
         refine hd_past (by kernel_rfl) ?_
         refine hd_end (by kernel_rfl) ?_
         clear hC hrs_b hqr_b hb5_b hb10_b
         refine bk (h.sub (L' := [(5, _), (51, _), (52, _), (53, _), (57, _), (58, _), (59, _)]) (.cons rfl (.cons rfl (.cons rfl (.cons rfl (.cons rfl (.cons rfl (.cons rfl .nil)))))))) ?_; clear h a
         refine bn' (tn (rg (s_add rfl rfl (wi6 (by omega)) rfl (mv rfl rfl (nl ?_)))))
         exact lpE (j + 1) (.cons rfl (.cons rfl (.cons rfl (.cons rfl (.cons rfl (.cons rfl (.cons rfl .nil))))))) ⟨(((((((Fr.refl [g5] _).step q13 (by first | (simp; done) | (simp; omega))).next q14).step q15 (by first | (simp; done) | (simp; omega))).next q16).next q17).step q18 (by first | (simp; done) | (simp; omega))), ⟨by omega, by first | exact hb5 | (rw [arr4s hgi (by omega) (by omega)]; exact hb5)⟩⟩ (by omega)
       · refine sk (bn' (tn (rg (s_add rfl rfl (wi6 (by omega)) rfl (mv rfl rfl (nl ?_))))))
         replace hb5 := (hb5.ext q14).fr q15 (by first | (simp; done) | (simp; omega) | (simp [blks]; done) | (simp [blks]; omega))
         exact lpE (j + 1) (.cons rfl (.cons rfl (.cons rfl (.cons rfl (.cons rfl (.cons rfl (.cons rfl .nil))))))) ⟨((((Fr.refl [g5] _).step q13 (by first | (simp; done) | (simp; omega))).next q14).step q15 (by first | (simp; done) | (simp; omega))), ⟨by omega, by first | exact hb5 | (rw [arr4s hgi (by omega) (by omega)]; exact hb5)⟩⟩ (by omega)
     · obtain rfl : j = (rs.getD i rq0).2.length := by omega
       refine ex (te (te (xh (bn' (tn (rg (s_add rfl rfl (wi6 (by omega)) rfl (mv rfl rfl (nl ?_)))))))))
       exact lpE (i + 1) (.cons rfl (.cons rfl (.cons rfl (.cons rfl .nil)))) ⟨(((Fr.refl [g5] _).step q12 (by first | (simp; done) | (simp; omega))).step q13 (by first | (simp; done) | (simp; omega))), ⟨by omega, by rw [← cnt4_all (j := (rs.getD i rq0).2.length) (by omega) (by rw [hgi]; exact Nat.le_refl _)]; exact hb5⟩⟩ (by omega)
   · obtain rfl : i = rs.length := by omega
     rw [hrc, show cnt3 c c.length = cntY c from funext (cnt_all c)] at hb5
     refine ex (te (te (xh (tn (sr ?_)))))
     refine s_makeSlice (m := 6) (c := 6) (0) rfl rfl el30 zv3 rfl (Nat.le_refl _) (by omega) (by unfold maxLen; omega) rfl (fun g77 w19 hg77 hoR q19 z19 => ?_)
     refine asg rfl rfl (nn (sq (sr (mv rfl rfl (nn (bl ?_))))))
     refine lpK (ι := Nat) [(5, _), (11, _)] (fun i => [(78, .int .i64 (i : Int))]) (fun i w' => Fr [g77] w19 w' ∧ i ≤ 6 ∧ Lw.Own Enc.i64 3 g77 w' (.slice (some ⟨g77, 0, none⟩) 6 6) ((tbl (cntY c)).take i ++ List.replicate (6 - i) 0)) (fun i => 6 - i) 0 (.cons rfl (.cons rfl (.cons rfl .nil))) ⟨Fr.refl _ _, ⟨Nat.zero_le _, hoR⟩⟩ ?_
     rintro i w20 ⟨q20, ⟨hi, hoR⟩⟩
     have z20 := q20.size
     refine kpC [(5, _), (11, _), (78, _)] (.cons rfl (.cons rfl (.cons rfl .nil))) ?_
     refine sr (lt' rfl rfl rfl (nn (sq ?_)))
     refine cd rfl (fun c4 => ?_) (fun c4 => ?_)
     · refine sk (tn (sq (bl (sr (mv rfl rfl (asg rfl rfl (nn (rg (mv rfl rfl (mv rfl rfl (mv rfl rfl ?_)))))))))))
       refine s_idxA rfl rfl Tryd.underlying67 sz3 (by omega) (by omega) rfl ?_
       replace hb5 := (hb5.ext q19).fr q20 (by first | (simp; done) | (simp; omega) | (simp [blks]; done) | (simp [blks]; omega))
       refine s_loadB rfl hb5 (arr_z (cntY c) (by omega)) na3 rfl ?_
       refine s_ixs (p := i) ((cntY c ((i : Int) + 1))) rfl hoR rfl rfl (by intro e; cases e) el30 sz3 rfl (by omega) (by first | omega | (simp only [List.length_append, List.length_replicate, List.length_take, tbl_len, List.length_nil]; omega)) (by omega) rfl rfl (fun w21 hoR q21 z21 => ?_)
       replace q21 : Fr [g77] _ _ := q21
       rw [show 6 - i = (6 - (i + 1)) + 1 by omega, set_tk (F := cntY c) (by omega)] at hoR
       refine kpL [(5, _), (11, _), (78, _)] (.cons rfl (.cons rfl (.cons rfl .nil))) (nl (bn' (tn (rg (s_add rfl rfl (wi6 (by omega)) rfl (mv rfl rfl (nl ?_)))))))
       exact lpE (i + 1) (.cons rfl (.cons rfl (.cons rfl .nil))) ⟨(((Fr.refl [g77] _).step q20 (by first | (simp; done) | (simp; omega))).step q21 (by first | (simp; done) | (simp; omega))), ⟨by omega, hoR⟩⟩ (by omega)
     · obtain rfl : i = 6 := by omega
       refine ex (te (te (xh (tn (sr (mv rfl rfl (asg rfl rfl (asg rfl rfl (nn (rt (r2 Tryd.results25 rfl rfl ?_)))))))))))
       exact ⟨_, rfl, _, by rw [hce], fun h => absurd hce h, fun _ => ⟨⟨_, rfl⟩, by have := hoR.low (by omega : w0.heap.size ≤ g77); rwa [Nat.sub_self, List.replicate_zero, List.append_nil, List.take_of_length_le (by rw [tbl_len]; omega)] at this⟩, (((((((((((((q1.next q2).next q3).next q4).next q5).next q6).step q7 (by first | (simp; done) | (simp; omega))).next q8).next q9).next q10).step q11 (by first | (simp; done) | (simp; omega))).step q12 (by first | (simp; done) | (simp; omega))).next q19).step q20 (by first | (simp; done) | (simp; omega)))⟩
set_option maxHeartbeats 1000000 in
theorem gneeds_ok (nm : List UInt8) (v : Value) (qs : List PQ) (size : Int) (w0 : World) (hs : Sl encPq w0 v qs) (hq : PcsQ w0 qs) : Rets Tryd.prog 9 #[.agg #[S nm, v], .int .i64 size] w0 fun r w' => ∃ V, r = .tuple #[V, .int .i64 (makeE nm (pcs qs) size)] ∧ (makeE nm (pcs qs) size ≠ 0 → V = .slice none 0 0) ∧ (makeE nm (pcs qs) size = 0 → (∃ A, V = .slice A 6 6) ∧ Lw.Own Enc.i64 67 w0.heap.size w' V (needL (pcs qs) size)) ∧ Fr [] w0 w' := by
 obtain ⟨A, c, rfl, hcc, hM, hA⟩ := id hs
 clear hA
 unfold maxLen at hM
 refine we [(0, .agg #[S nm, .slice A qs.length c]), (1, .int .i64 size)] Tryd.func9 rfl Tryd.ntmps9 rfl (.cons rfl (.cons rfl .nil)) ?_
 have hs0 := hs
 have hq0 := hq
 refine sr (bx rfl rfl rfl (fun g2 w1 hg2 hb2 q1 z1 => ?_))
 refine asg rfl rfl (asg rfl rfl (nn (sr (s_loadBA rfl hb2 ag24 rfl (mv rfl rfl ?_)))))
 replace hs := hs0.ext q1
 replace hq := hq0.ext q1
 refine cl (ev2 rfl rfl) co8 (gmake_ok nm _ qs size _ hs hq) rfl ?_
 rintro _ w2 ⟨V17, its, rfl, hoI, hio, hmn, hmz, q2⟩
 have z2 := q2.size
 have hoI0 := hoI
 have hio0 := hio
 refine mv rfl rfl (xt rfl rfl rfl (xt rfl rfl rfl (asg rfl rfl (asg rfl rfl (kpL [(6, _), (7, _)] (.cons rfl (.cons rfl .nil)) (nn (sq (sr (mv rfl rfl (ne' rfl rfl rfl (nn ?_)))))))))))
 refine cd rfl (fun c0 => ?_) (fun c0 => ?_)
 · refine sr (mv rfl rfl (asg rfl rfl (asg rfl rfl (nn (rt (tr (r2 Tryd.results9 rfl rfl ?_)))))))
   exact ⟨_, rfl, _, rfl, fun h => rfl, fun h => absurd h c0, (q1.next q2)⟩
 · have h0 : makeE nm (pcs qs) size = 0 := Classical.not_not.1 c0
   obtain ⟨hpl, hpm⟩ := made h0
   rw [pcs_len] at hpl
   obtain ⟨⟨A17, rfl⟩, hil, hit⟩ := hmz h0
   refine sk (tn (sr (al zv67 rfl rfl (fun g8 w3 hg8 hb8 q3 z3 => ?_))))
   replace hb8 : Blk w3 g8 _ (ivs (tbl fun _ => 0)) := hb8
   refine nn (sq (sr (mv rfl rfl (lnS rfl Tryd.underlying26 rfl (mv rfl rfl (nn (bl ?_)))))))
   refine lpK (ι := Nat) [(8, _), (23, _), (24, _)] (fun k => [(25, .int .i64 (k : Int))]) (fun k w' => Fr [g8] w3 w' ∧ k ≤ qs.length ∧ Blk w' g8 67 (ivs (tbl (gsum (pcs qs) size k)))) (fun k => qs.length - k) 0 (.cons rfl (.cons rfl (.cons rfl (.cons rfl .nil)))) ⟨Fr.refl _ _, ⟨Nat.zero_le _, hb8⟩⟩ ?_
   rintro k w4 ⟨q4, ⟨hk, hb8⟩⟩
   have z4 := q4.size
   have lt_hb8 := hb8.lt
   refine kpC [(8, _), (23, _), (24, _), (25, _)] (.cons rfl (.cons rfl (.cons rfl (.cons rfl .nil)))) ?_
   refine sr (lt' rfl rfl rfl (nn (sq ?_)))
   refine cd rfl (fun c1 => ?_) (fun c1 => ?_)
   · obtain ⟨-, hct, hrw⟩ := hit k (by omega)
     have hpk := hpm _ (pcs_mem (show k < qs.length by omega))
     have hce : chartE (its.getD k iq0).rows = 0 := by rw [hrw]; exact hpk.2
     refine sk (tn (sq (bl (sr ?_))))
     replace hoI := hoI0.ext (q3.step q4 (by first | (simp; done) | (simp; omega)))
     refine s_idxL (iq0) rfl hoI.sl rfl el26 (by omega) (by omega) nat_of rfl (fun ad27 hc27 => ?_)
     refine s_loadA rfl (hc27 _ hoI.sl) ag56 rfl (al zv56 rfl rfl (fun g10 w5 hg10 hb10 q5 z5 => ?_))
     refine s_storeBA rfl rfl hb10 rfl (by first | (simp [Value.oneCell', S]; done) | exact Enc.one _ _) sz56 (fun w6 hb10 q6 z6 => ?_)
     refine nn (sr (fad rfl fa56_1 rfl (s_loadBP (vs := [_]) rfl hb10 ag47 rfl rfl ?_)))
     replace hio := hio0.ext (((q3.step q4 (by first | (simp; done) | (simp; omega))).next q5).step q6 (by first | (simp; done) | (simp; omega)))
     refine cl (ev1 rfl) co25 (loops_ok _ (its.getD k iq0).rows _ ((hio _ (getD_memS (by omega))).sll)) rfl ?_
     rintro _ w7 ⟨V32, rfl, hln, hlz, q7⟩
     have z7 := q7.size
     refine mv rfl rfl (xt rfl rfl rfl (xt rfl rfl rfl (asg rfl rfl (asg rfl rfl (kpL [(8, _), (10, _), (11, _), (12, _), (23, _), (24, _), (25, _)] (.cons rfl (.cons rfl (.cons rfl (.cons rfl (.cons rfl (.cons rfl (.cons rfl .nil))))))) (nn (sq (sr (mv rfl rfl (ne' rfl rfl rfl (nn ?_)))))))))))
     refine cd rfl (fun c2 => ?_) (fun c2 => ?_)
     · exact absurd hce c2
     · obtain ⟨⟨A32, rfl⟩, hoC⟩ := hlz hce
       refine sk (tn (sr (mv rfl rfl (nn (bl ?_)))))
       replace hb8 := ((hb8.ext q5).fr q6 (by first | (simp; done) | (simp; omega) | (simp [blks]; done) | (simp [blks]; omega))).ext q7
       refine lpK (ι := Nat) [(8, _), (10, _), (11, _), (23, _), (24, _), (25, _)] (fun z => [(38, .int .i64 (z : Int))]) (fun z w' => Fr [g8] w7 w' ∧ z ≤ 6 ∧ Blk w' g8 67 (ivs (tbl (gmix (pcs qs) size k z)))) (fun z => 6 - z) 0 (.cons rfl (.cons rfl (.cons rfl (.cons rfl (.cons rfl (.cons rfl (.cons rfl .nil))))))) ⟨Fr.refl _ _, ⟨Nat.zero_le _, by rw [gmix_zero]; exact hb8⟩⟩ ?_
       rintro z w8 ⟨q8, ⟨hz, hb8⟩⟩
       have z8 := q8.size
       have lt_hb8 := hb8.lt
       refine kpC [(8, _), (10, _), (11, _), (23, _), (24, _), (25, _), (38, _)] (.cons rfl (.cons rfl (.cons rfl (.cons rfl (.cons rfl (.cons rfl (.cons rfl .nil))))))) ?_
       refine sr (lt' rfl rfl rfl (nn (sq ?_)))
       refine cd rfl (fun c3 => ?_) (fun c3 => ?_)
       · have hpz : 0 ≤ (its.getD k iq0).ct * (tbl (cntY (its.getD k iq0).rows)).getD z 0 ∧ (its.getD k iq0).ct * (tbl (cntY (its.getD k iq0).rows)).getD z 0 ≤ 18900 := by rw [tbl_at _ (by omega)]; exact pc_mul (by rw [hct]; exact hpk.1) (cnt_le hce _)
         have htl := tbl_len (cntY (its.getD k iq0).rows)
         have hgx := gmix_le (by rw [pcs_len]; exact hpl) hpm k z
         refine sk (tn (sq (bl (sr (mv rfl rfl (asg rfl rfl (nn ?_)))))))
         replace hb10 := (hb10.ext q7).fr q8 (by first | (simp; done) | (simp; omega) | (simp [blks]; done) | (simp [blks]; omega))
         replace hoC := hoC.fr q8 (by intro k hk hb; simp at hk; subst hk; have := hoC.blk _ hb; omega)
         intro a h
         refine region_heldP (some 12) (fun wb w' => Fr [] wb w') hmix ?_; intro w9 hq
         have z9 := hq.size
         replace hb10 := hb10.ext hq
         replace hoC := hoC.ext hq
         replace hb8 := hb8.ext hq
         have q9 := hq
         clear hq; have hC : Fr [] w9 w9 := Fr.refl _ _
         have hb10_b := hb10
         have hoC_b := hoC
         have hb8_b := hb8
         refine hd_move 0 (by kernel_rfl) (by kernel_rfl) (by kernel_rfl) hC h wn rfl rfl rfl ?_; clear h a; intro a h
         refine hd_idxA 1 (by kernel_rfl) (by kernel_rfl) (by kernel_rfl) hC h wn rfl rfl Tryd.underlying67 sz3 (by omega) (by omega) rfl rfl ?_; clear h a; intro a h
         refine hd_loadB 2 (by kernel_rfl) (by kernel_rfl) (by kernel_rfl) hC h wn rfl (fun _ hw => hb8_b.ext hw) (arr_z (gmix (pcs qs) size k z) (by omega)) na3 rfl rfl ?_; clear h a; intro a h
         refine hd_fieldAddr 3 (by kernel_rfl) (by kernel_rfl) (by kernel_rfl) hC h wn rfl fa56_2 rfl rfl ?_; clear h a; intro a h
         refine hd_loadB 4 (by kernel_rfl) (by kernel_rfl) (by kernel_rfl) hC h wn rfl (fun _ hw => hb10_b.ext hw) rfl na3 rfl rfl ?_; clear h a; intro a h
         refine hd_move 5 (by kernel_rfl) (by kernel_rfl) (by kernel_rfl) hC h wn rfl rfl rfl ?_; clear h a; intro a h
         refine hd_move 6 (by kernel_rfl) (by kernel_rfl) (by kernel_rfl) hC h wn rfl rfl rfl ?_; clear h a; intro a h
         refine hd_idxL (p := z) (0) 7 (by kernel_rfl) (by kernel_rfl) (by kernel_rfl) hC h wn rfl hoC.sl rfl el30 (by omega) (by omega) (by omega) rfl rfl ?_; clear h a; intro ad48 hc48 a h
         refine hd_loadC0 8 (by kernel_rfl) (by kernel_rfl) (by kernel_rfl) hC h wn rfl (fun _ hw => hc48 _ (hoC_b.sl.ext hw)) na3 rfl rfl ?_; clear h a; intro a h
         refine hd_mul 9 (by kernel_rfl) (by kernel_rfl) (by kernel_rfl) hC h wn rfl rfl (by first | exact IntWalk.i64_in _ (by omega) | rfl) rfl rfl ?_; clear h a; intro a h
         refine hd_add 10 (by kernel_rfl) (by kernel_rfl) (by kernel_rfl) hC h wn rfl rfl (by first | exact IntWalk.i64_in _ (by omega) | rfl) rfl rfl ?_; clear h a; intro a h
         refine hd_idxA 11 (by kernel_rfl) (by kernel_rfl) (by kernel_rfl) hC h wn rfl rfl Tryd.underlying67 sz3 (by omega) (by omega) rfl rfl ?_; clear h a; intro a h
         refine hd_one 12 (by kernel_rfl) rfl ?_
         refine st_storeB h rfl rfl hb8 (arr_zt _ (by omega)) rfl rfl sz3 ?_; clear h a; intro w10 hbn hq hz a h
         have z10 := hq.size
         replace hb10 := hb10.fr hq (by first | (simp; done) | (simp; omega) | (simp [blks]; done) | (simp [blks]; omega))
         replace hoC := hoC.fr hq (by intro k hk hb; simp at hk; subst hk; have := hoC.blk _ hb; omega)
         have q10 := hq
         rw [tbl_at _ (by omega), hct, hrw, arrG (pcs_some (by omega)) (by omega)] at hbn; clear hb8 hq hz; have hb8 : Blk w10 g8 _ _ := hbn; clear hbn
         refine hd_past (by kernel_rfl) ?_
         refine hd_end (by kernel_rfl) ?_
         clear hC hb10_b hoC_b hb8_b
         refine bk (h.sub (L' := [(8, _), (10, _), (11, _), (23, _), (24, _), (25, _), (38, _)]) (.cons rfl (.cons rfl (.cons rfl (.cons rfl (.cons rfl (.cons rfl (.cons rfl .nil)))))))) ?_; clear h a
         refine bn' (tn (rg (s_add rfl rfl (wi6 (by omega)) rfl (mv rfl rfl (nl ?_)))))
         exact lpE (z + 1) (.cons rfl (.cons rfl (.cons rfl (.cons rfl (.cons rfl (.cons rfl (.cons rfl .nil))))))) ⟨((((Fr.refl [g8] _).step q8 (by first | (simp; done) | (simp; omega))).next q9).step q10 (by first | (simp; done) | (simp; omega))), ⟨by omega, hb8⟩⟩ (by omega)
       · obtain rfl : z = 6 := by omega
         refine ex (te (te (xh (bn' (tn (rg (s_add rfl rfl (wi6 (by omega)) rfl (mv rfl rfl (nl ?_)))))))))
         exact lpE (k + 1) (.cons rfl (.cons rfl (.cons rfl (.cons rfl .nil)))) ⟨((((((Fr.refl [g8] _).step q4 (by first | (simp; done) | (simp; omega))).next q5).step q6 (by first | (simp; done) | (simp; omega))).next q7).step q8 (by first | (simp; done) | (simp; omega))), ⟨by omega, by rw [← gmix_all]; exact hb8⟩⟩ (by omega)
   · obtain rfl : k = qs.length := by omega
     rw [← pcs_len qs, ← need_eq] at hb8
     refine ex (te (te (xh (tn (sr ?_)))))
     refine s_slArr rfl Tryd.underlying67 sz3 rfl rfl ?_
     refine asg rfl rfl (asg rfl rfl (kpL [(4, _), (5, _)] (.cons rfl (.cons rfl .nil)) (nn (rt (r2 Tryd.results9 rfl rfl ?_)))))
     exact ⟨_, rfl, _, by rw [h0], fun h => absurd h0 h, fun _ => ⟨⟨_, rfl⟩, blk_own6 hb8 (by omega) (needL_len _ _)⟩, (((q1.next q2).next q3).step q4 (by first | (simp; done) | (simp; omega)))⟩
end Go.Proofs.YthehggmdcmpjeaaDoor
namespace Go.G14
open Go.Lw

end Go.G14
namespace Go.G14
open Go.Lw

end Go.G14
namespace Go.G14
open Go.Lw

end Go.G14
