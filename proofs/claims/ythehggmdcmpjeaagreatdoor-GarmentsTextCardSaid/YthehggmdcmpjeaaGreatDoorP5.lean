/- Texts of the proof, joined. -/
import Derived.Test.YthehggmdcmpjeaaGreatDoorRows
import Derived.Lib.IndexMore
import Derived.Lib.ItoaNum
import Derived.Lib.Join
import Derived.Test.YthehggmdcmpjeaaGreatDoorP4
set_option linter.unusedVariables false
set_option linter.unusedSimpArgs false
namespace Go.Proofs.YthehggmdcmpjeaaGreatDoor
open Go.Lw Go.G14
theorem co85 : CallOf Tryz.prog 85 := mkC Tryz.func85
theorem el209 : ElemOf Tryz.prog 209 36 encKq 24 := ElemOf.mk' (z := (.slice none 0 0)) Tryz.underlying209 (by kernel_rfl) rfl
theorem na36 : NotAgg Tryz.prog 36 := fun _ => by kernel_rfl
theorem joinc_ok (v : Value) (ks : List KQ) (w0 : World) (hs : Sl encKq w0 v ks) (hk : KsQ w0 ks) (hN : (ks.flatMap Prod.snd).length ≤ 1000000) : Rets Tryz.prog 83 #[v] w0 fun r w' => Lw.Own encCq 42 w0.heap.size w' r (ks.flatMap Prod.snd) ∧ Fr [] w0 w' := by
 obtain ⟨A, c, rfl, hcc, hM, hA⟩ := id hs
 clear hA
 unfold maxLen at hM
 refine we [(0, .slice A ks.length c)] Tryz.func83 rfl Tryz.ntmps83 rfl (.cons rfl .nil) ?_
 have hs0 := hs
 have hk0 := hk
 refine sr (asg rfl (nn (sr (asg rfl (nn (sq (sr (mv rfl (lnS rfl Tryz.underlying209 (mv rfl (nn ?_)))))))))))
 refine bl ?_
 refine lpK (ι := Nat) [(0, _), (9, _), (10, _)] (fun i => [(11, .int .i64 (i : Int)), (3, .int .i64 (((ks.take i).flatMap Prod.snd).length : Int))]) (fun i w' => Fr [] w0 w' ∧ i ≤ ks.length) (fun i => ks.length - i) 0 (.c5 rfl rfl rfl rfl rfl) ⟨Fr.refl _ _, Nat.zero_le _⟩ ?_
 rintro i w1 ⟨q1, hi⟩
 have z1 := q1.size
 refine kpC [(0, _), (9, _), (10, _), (11, _), (3, _)] (.c5 rfl rfl rfl rfl rfl) ?_
 refine sr (lt' rfl rfl (nn (sq ?_)))
 refine cd rfl (fun c0 => ?_) (fun c0 => ?_)
 ·replace hk := hk0.ext q1
  have hpl := sl_len (hk (ks.getD i kq0) (getD_memS (by omega)))
  have hpM := (hk (ks.getD i kq0) (getD_memS (by omega))).len_le
  unfold maxLen at hpM
  have hfs := flat_succ Prod.snd ks i kq0 (by omega)
  have hfl := congrArg List.length hfs
  rw [List.length_append] at hfl
  have hf1 := flat_le Prod.snd ks (i + 1)
  refine sk (tn (sq (bl (sr ?_))))
  replace hs := hs0.ext q1
  refine s_idxL (kq0) rfl hs rfl el209 nat_of (fun ad13 hc13 => ?_)
  refine s_loadC0 rfl (hc13 _ hs) na36 (asg rfl (nn (rg (mv rfl (mv rfl (lnS rfl Tryz.underlying36 (s_add rfl rfl (wi6 (by omega)) (asg rfl (nl (bn' (tn ?_)))))))))))
  refine rg (s_add rfl rfl (wi6 (by omega)) (mv rfl (nl ?_)))
  exact lpE (i + 1) (.c5 rfl rfl rfl rfl (congrArg (fun z => some (Value.int .i64 z)) (by omega))) ⟨q1, by omega⟩ (by omega)
 obtain rfl : i = ks.length := by omega
 rw [List.take_length]
 refine ex (te (te (xh (tn (sr (mv rfl ?_))))))
 refine s_makeSlice (m := 0) (c := (ks.flatMap Prod.snd).length) (cq0) rfl rfl el36 zv42 rfl (Nat.zero_le _) (by unfold maxLen; omega) (fun g21 w2 hg21 ho q2 z2 => ?_)
 replace ho := ho.low (b' := w0.heap.size) (by omega)
 refine asg rfl (kpL [(0, _), (6, _)] (.c2 rfl rfl) (nn (sq (sr (mv rfl (lnS rfl Tryz.underlying209 (mv rfl (nn (bl ?_)))))))))
 refine lpK (ι := Nat × Value) [(22, _), (23, _)] (fun p => [(24, .int .i64 (p.1 : Int)), (6, p.2)]) (fun p w' => Fr [] w0 w' ∧ p.1 ≤ ks.length ∧ Lw.Own encCq 42 w0.heap.size w' p.2 ((ks.take p.1).flatMap Prod.snd)) (fun p => ks.length - p.1) (0, .slice (some ⟨g21, 0, none⟩) 0 (ks.flatMap Prod.snd).length) (.c4 rfl rfl rfl rfl) ⟨(q1.n1 q2), ⟨Nat.zero_le _, ho⟩⟩ ?_
 rintro ⟨i, vG⟩ w3 ⟨q3, ⟨hi, ho⟩⟩
 simp only at hi ho
 have z3 := q3.size
 refine kpC [(22, _), (23, _), (24, .int .i64 (i : Int)), (6, vG)] (.c4 rfl rfl rfl rfl) ?_
 refine sr (lt' rfl rfl (nn (sq ?_)))
 refine cd rfl (fun c1 => ?_) (fun c1 => ?_)
 ·replace hk := hk0.ext q3
  have hpl := sl_len (hk (ks.getD i kq0) (getD_memS (by omega)))
  have hpM := (hk (ks.getD i kq0) (getD_memS (by omega))).len_le
  unfold maxLen at hpM
  have hfs := flat_succ Prod.snd ks i kq0 (by omega)
  have hfl := congrArg List.length hfs
  rw [List.length_append] at hfl
  have hf1 := flat_le Prod.snd ks (i + 1)
  refine sk (tn (sq (bl (sr ?_))))
  replace hs := hs0.ext q3
  refine s_idxL (kq0) rfl hs rfl el209 nat_of (fun ad26 hc26 => ?_)
  refine s_loadC0 rfl (hc26 _ hs) na36 (asg rfl (nn (rg (mv rfl (mv rfl ?_)))))
  have hoo30 := ho
  refine s_append rfl rfl ho (hk (ks.getD i kq0) (getD_memS (by omega))) el36 (fun v30 w4 ho q4 hor30 => ?_) (hM := (by unfold maxLen; omega)) (hb := (by omega))
  have z4 := q4.size
  refine asg rfl (nl (bn' (tn (rg (s_add rfl rfl (wi6 (by omega)) (mv rfl (nl ?_)))))))
  exact lpE ((i + 1, v30)) (.c4 rfl rfl rfl rfl) ⟨(q3.step q4 (fun k hk hlt => absurd (hoo30.blk k hk).1 (by omega))), ⟨by simp only; omega, by rw [hfs]; exact ho⟩⟩ (by simp only; omega)
 obtain rfl : i = ks.length := by omega
 rw [List.take_length] at ho
 refine ex (te (te (xh (tn (sr (mv rfl (asg rfl (kpL [(2, _)] (.cons rfl .nil) (nn (rt (r1 Tryz.results83 rfl ?_)))))))))))
 exact ⟨_, rfl, ho, q3⟩
theorem joins_ok (v : Value) (ks : List RQ) (w0 : World) (hs : Sl encRq w0 v ks) (hk : RowsQ w0 ks) (hN : (ks.flatMap Prod.snd).length ≤ 1000000) : Rets Tryz.prog 84 #[v] w0 fun r w' => Lw.Own encSt 91 w0.heap.size w' r (ks.flatMap Prod.snd) ∧ Fr [] w0 w' := by
 obtain ⟨A, c, rfl, hcc, hM, hA⟩ := id hs
 clear hA
 unfold maxLen at hM
 refine we [(0, .slice A ks.length c)] Tryz.func84 rfl Tryz.ntmps84 rfl (.cons rfl .nil) ?_
 have hs0 := hs
 have hk0 := hk
 refine sr (asg rfl (nn (sr (asg rfl (nn (sq (sr (mv rfl (lnS rfl Tryz.underlying40 (mv rfl (nn ?_)))))))))))
 refine bl ?_
 refine lpK (ι := Nat) [(0, _), (9, _), (10, _)] (fun i => [(11, .int .i64 (i : Int)), (3, .int .i64 (((ks.take i).flatMap Prod.snd).length : Int))]) (fun i w' => Fr [] w0 w' ∧ i ≤ ks.length) (fun i => ks.length - i) 0 (.c5 rfl rfl rfl rfl rfl) ⟨Fr.refl _ _, Nat.zero_le _⟩ ?_
 rintro i w1 ⟨q1, hi⟩
 have z1 := q1.size
 refine kpC [(0, _), (9, _), (10, _), (11, _), (3, _)] (.c5 rfl rfl rfl rfl rfl) ?_
 refine sr (lt' rfl rfl (nn (sq ?_)))
 refine cd rfl (fun c0 => ?_) (fun c0 => ?_)
 ·replace hk := hk0.ext q1
  have hpl := sl_len (hk (ks.getD i rq0) (getD_memS (by omega)))
  have hpM := (hk (ks.getD i rq0) (getD_memS (by omega))).len_le
  unfold maxLen at hpM
  have hfs := flat_succ Prod.snd ks i rq0 (by omega)
  have hfl := congrArg List.length hfs
  rw [List.length_append] at hfl
  have hf1 := flat_le Prod.snd ks (i + 1)
  refine sk (tn (sq (bl (sr ?_))))
  replace hs := hs0.ext q1
  refine s_idxL (rq0) rfl hs rfl er40 nat_of (fun ad13 hc13 => ?_)
  refine s_loadC0 rfl (hc13 _ hs) na88 (asg rfl (nn (rg (mv rfl (mv rfl (lnS rfl Tryz.underlying88 (s_add rfl rfl (wi6 (by omega)) (asg rfl (nl (bn' (tn ?_)))))))))))
  refine rg (s_add rfl rfl (wi6 (by omega)) (mv rfl (nl ?_)))
  exact lpE (i + 1) (.c5 rfl rfl rfl rfl (congrArg (fun z => some (Value.int .i64 z)) (by omega))) ⟨q1, by omega⟩ (by omega)
 obtain rfl : i = ks.length := by omega
 rw [List.take_length]
 refine ex (te (te (xh (tn (sr (mv rfl ?_))))))
 refine s_makeSlice (m := 0) (c := (ks.flatMap Prod.snd).length) (zeroS) rfl rfl el88 zv91 rfl (Nat.zero_le _) (by unfold maxLen; omega) (fun g21 w2 hg21 ho q2 z2 => ?_)
 replace ho := ho.low (b' := w0.heap.size) (by omega)
 refine asg rfl (kpL [(0, _), (6, _)] (.c2 rfl rfl) (nn (sq (sr (mv rfl (lnS rfl Tryz.underlying40 (mv rfl (nn (bl ?_)))))))))
 refine lpK (ι := Nat × Value) [(22, _), (23, _)] (fun p => [(24, .int .i64 (p.1 : Int)), (6, p.2)]) (fun p w' => Fr [] w0 w' ∧ p.1 ≤ ks.length ∧ Lw.Own encSt 91 w0.heap.size w' p.2 ((ks.take p.1).flatMap Prod.snd)) (fun p => ks.length - p.1) (0, .slice (some ⟨g21, 0, none⟩) 0 (ks.flatMap Prod.snd).length) (.c4 rfl rfl rfl rfl) ⟨(q1.n1 q2), ⟨Nat.zero_le _, ho⟩⟩ ?_
 rintro ⟨i, vG⟩ w3 ⟨q3, ⟨hi, ho⟩⟩
 simp only at hi ho
 have z3 := q3.size
 refine kpC [(22, _), (23, _), (24, .int .i64 (i : Int)), (6, vG)] (.c4 rfl rfl rfl rfl) ?_
 refine sr (lt' rfl rfl (nn (sq ?_)))
 refine cd rfl (fun c1 => ?_) (fun c1 => ?_)
 ·replace hk := hk0.ext q3
  have hpl := sl_len (hk (ks.getD i rq0) (getD_memS (by omega)))
  have hpM := (hk (ks.getD i rq0) (getD_memS (by omega))).len_le
  unfold maxLen at hpM
  have hfs := flat_succ Prod.snd ks i rq0 (by omega)
  have hfl := congrArg List.length hfs
  rw [List.length_append] at hfl
  have hf1 := flat_le Prod.snd ks (i + 1)
  refine sk (tn (sq (bl (sr ?_))))
  replace hs := hs0.ext q3
  refine s_idxL (rq0) rfl hs rfl er40 nat_of (fun ad26 hc26 => ?_)
  refine s_loadC0 rfl (hc26 _ hs) na88 (asg rfl (nn (rg (mv rfl (mv rfl ?_)))))
  have hoo30 := ho
  refine s_append rfl rfl ho (hk (ks.getD i rq0) (getD_memS (by omega))) el88 (fun v30 w4 ho q4 hor30 => ?_) (hM := (by unfold maxLen; omega)) (hb := (by omega))
  have z4 := q4.size
  refine asg rfl (nl (bn' (tn (rg (s_add rfl rfl (wi6 (by omega)) (mv rfl (nl ?_)))))))
  exact lpE ((i + 1, v30)) (.c4 rfl rfl rfl rfl) ⟨(q3.step q4 (fun k hk hlt => absurd (hoo30.blk k hk).1 (by omega))), ⟨by simp only; omega, by rw [hfs]; exact ho⟩⟩ (by simp only; omega)
 obtain rfl : i = ks.length := by omega
 rw [List.take_length] at ho
 refine ex (te (te (xh (tn (sr (mv rfl (asg rfl (kpL [(2, _)] (.cons rfl .nil) (nn (rt (r1 Tryz.results84 rfl ?_)))))))))))
 exact ⟨_, rfl, ho, q3⟩
theorem mul_ok (x y : Nat) (w0 : World) (h : x * y < 18446744073709551616) (hx : x < 18446744073709551616) (hy : y < 18446744073709551616) : Rets Tryz.prog 85 #[.int .u64 (x : Int), .int .u64 (y : Int)] w0 fun r w' => r = .tuple #[.int .u64 0, .int .u64 ((x * y : Nat) : Int)] ∧ w0 = w' := by
 refine Calls.mono (Tryz.bits_Mul x y hx hy w0) ?_
 rintro e w' ⟨rfl, rfl⟩
 exact ⟨_, rfl, by rw [Nat.div_eq_of_lt h, Nat.mod_eq_of_lt h]; rfl, rfl⟩
theorem mul1_ok (n : Nat) (w0 : World) (h : n < 1000000) : Rets Tryz.prog 85 #[.int .u64 1, .int .u64 (n : Int)] w0 fun r w' => r = .tuple #[.int .u64 0, .int .u64 (n : Int)] ∧ w0 = w' := by
 have := mul_ok 1 n w0 (by omega) (by omega) (by omega)
 rwa [Nat.one_mul] at this
set_option maxHeartbeats 1000000 in
theorem repeat_ok (v : Value) (q : CQ) (n : Nat) (w0 : World) (hs : Sl encCq w0 v [q]) (hn : 1 ≤ n ∧ n ≤ 1000) : Rets Tryz.prog 52 #[v, .int .i64 (n : Int)] w0 fun r w' => Lw.Own encCq 42 w0.heap.size w' r (List.replicate n q) ∧ Fr [] w0 w' := by
 obtain ⟨A, c, rfl, hcc, hM, hA⟩ := id hs
 clear hA
 obtain ⟨hn1, hn2⟩ := hn
 refine we [(0, .slice A 1 c), (1, .int .i64 (n : Int))] Tryz.func52 rfl Tryz.ntmps52 rfl (.c2 rfl rfl) ?_
 have hs0 := hs
 refine sr (asg rfl (nn (sq (sr (mv rfl (lt' rfl rfl (nn ?_)))))))
 refine cd rfl (fun c0 => ?_) (fun c0 => ?_)
 ·exact absurd c0 (by omega)
 refine sk (tn (sr (mv rfl (lnS rfl Tryz.underlying36 (s_conv rfl (us Tryz.underlying3) Tryz.underlying175 (IntWalk.u64_in _ (by omega)) (mv rfl (s_conv rfl (us Tryz.underlying3) Tryz.underlying175 (IntWalk.u64_in _ (by omega)) ?_)))))))
 refine cl (ev2 rfl rfl) co85 (mul1_ok n _ (by omega)) rfl ?_
 rintro _ _ ⟨rfl, rfl⟩
 refine mv rfl (xt rfl rfl (xt rfl rfl (asg rfl (asg rfl (kpL [(0, _), (5, _), (6, _)] (.c3 rfl rfl rfl) (nn (sq (sq ?_))))))))
 refine rbo (r := 26) (L' := [(0, _), (6, _)]) (((0 < 0) ∨ (9223372036854775807 < (n : Int)))) (.c2 rfl rfl) ?_ ?_
 ·refine mv rfl (gt' rfl rfl (mv rfl ?_))
  refine gs 23 rfl (fun g0 => ?_) (fun g0 => ?_)
  ·exact gN rfl rfl rfl (gN rfl rfl rfl (pkt rfl rfl (rbe rfl (.c2 rfl rfl))))
  exact gY rfl (mv rfl (gY rfl (gt' rfl rfl (pkf rfl rfl (rbe rfl (.c2 rfl rfl))))))
 refine tn ?_
 refine cd rfl (fun c1 => ?_) (fun c1 => ?_)
 ·exact absurd c1 (by omega)
 refine sk (tn (sr (mv rfl (s_conv rfl (us Tryz.underlying175) Tryz.underlying3 (wi6 (by omega)) ?_))))
 refine s_makeSlice (m := n) (c := n) (cq0) rfl rfl el36 zv42 rfl (Nat.le_refl _) (by unfold maxLen; omega) (fun g30 w1 hg30 ho q1 z1 => ?_)
 refine asg rfl (nn (sr (mv rfl (mv rfl ?_))))
 replace hs := hs0.ext q1
 refine s_copyP (p := 0) (k := 1) (m := n) (cap := n) (by rw [Nat.zero_mul, lit_add]; rfl) rfl ho hs (Nat.zero_le _) (by simp; omega) el36 rfl (fun w2 ho q2 z2 => ?_)
 replace ho : Lw.Own encCq 42 g30 w2 (.slice (some ⟨g30, 0, none⟩) n n) (List.replicate 1 q ++ List.replicate (n - 1) cq0) := by simpa using ho
 refine asg rfl (nn (sq (bl ?_)))
 refine lpK (ι := Nat) [(7, _)] (fun m => [(8, .int .i64 (m : Int))]) (fun m w' => Fr [g30] w2 w' ∧ (1 ≤ m ∧ m ≤ n) ∧ Lw.Own encCq 42 g30 w' (.slice (some ⟨g30, 0, none⟩) n n) (List.replicate m q ++ List.replicate (n - m) cq0)) (fun m => n - m) 1 (.c2 rfl rfl) ⟨Fr.refl _ _, ⟨⟨by omega, by omega⟩, ho⟩⟩ ?_
 rintro m w3 ⟨q3, ⟨hm, ho⟩⟩
 have z3 := q3.size
 refine kpC [(7, _), (8, _)] (.c2 rfl rfl) ?_
 refine sq (sr (mv rfl (mv rfl (lnS rfl Tryz.underlying36 (lt' rfl rfl (nn ?_))))))
 refine cd rfl (fun c2 => ?_) (fun c2 => ?_)
 ·refine sk (tn (bl ?_))
  intro a h
  have qh9 := Fr.refl [g30] w3
  refine region_held (fun wb w' => Fr [g30] wb w') hmix ?_; intro w4 hq
  have z4 := hq.size
  replace ho := ho.ext hq
  replace qh9 := qh9.next hq
  have hsz := hq.size; clear hq; have hC : Fr [g30] w4 w4 := Fr.refl _ _
  have ho_b := ho
  refine hd_move 0 hC h wn rfl rfl ?_; clear h a; intro a h
  refine hd_move 1 hC h wn rfl rfl ?_; clear h a; intro a h
  refine hd_move 2 hC h wn rfl rfl ?_; clear h a; intro a h
  refine hd_sl_l 3 (by kernel_rfl) (by kernel_rfl) (by kernel_rfl) hC h wn rfl rfl el36 (by omega) (by omega) rfl rfl rfl ?_; clear h a; intro a h
  refine hd_move 4 hC h wn rfl rfl ?_; clear h a; intro a h
  refine hd_move 5 hC h wn rfl rfl ?_; clear h a; intro a h
  refine hd_sl_h 6 hC h wn rfl rfl el36 (by omega) (by omega) rfl rfl rfl ?_; clear h a; intro a h
  refine hd_one 7 rfl ?_
  refine st_copyP (p := m) (k := min (n - m) m) (m := n) (cap := n) h (by show some (Value.slice (if n = m then _ else _) _ _) = _; rw [if_neg (by omega)]; rfl) rfl ho (by have := ho.sl.take rfl (m := m) (by simp) (B := some ⟨g30, 0, none⟩) (c' := n) (by omega) (by unfold maxLen; omega) (fun _ => rfl); rwa [List.take_append_of_le_length (by simp), List.take_of_length_le (by simp)] at this) (by omega) (by simp) el36 rfl ?_; clear h a; intro w5 ho2 hq hz a h
  rw [rep_copy q cq0 rfl (by omega)] at ho2
  have z5 := hq.size
  replace qh9 := qh9.sp hq
  replace hC := hC.sp hq
  clear hq hz ho; have ho := ho2; clear ho2
  refine hd_next hC ?_
  refine hd_add 8 hC h wn rfl rfl (by first | exact i6 (by omega) | rfl) rfl ?_; clear h a; intro a h
  refine hd_one 9 rfl ?_
  refine st_assign h rfl ?_; clear h a; intro a h
  refine hd_next hC ?_
  refine hd_end ?_
  clear hC ho_b
  have z5 := qh9.size
  refine bk (h.sub (L' := [(7, _), (8, _)]) (.c2 rfl rfl)) ?_; clear h a
  refine bn' ?_
  exact lpE (m + min (n - m) m) (.c2 rfl (congrArg (fun z => some (Value.int .i64 z)) (by omega))) ⟨((Fr.refl [g30] _).z2 q3 qh9), ⟨by omega, ho⟩⟩ (by omega)
 obtain rfl : n = m := by omega
 rw [Nat.sub_self, List.replicate_zero, List.append_nil] at ho
 refine ex (te (te (xh (tn (sr (mv rfl (asg rfl (nn (rt (r1 Tryz.results52 rfl ?_))))))))))
 exact ⟨_, rfl, ho.low (by omega), (q1.z2 q2 q3)⟩
theorem edge_ok (q : CQ) (w0 : World) (hl : q.1.2.1 = q.2.length) : Rets Tryz.prog 81 #[.agg #[.slice q.1.1 q.1.2.1 q.1.2.2]] w0 fun r w' => ∃ A c, r = .slice A (edgeL q).length c ∧ Lw.Own encCq 42 w0.heap.size w' (.slice A (edgeL q).length c) (edgeL q) ∧ Fr [] w0 w' := by
 refine we [(0, .agg #[.slice q.1.1 q.1.2.1 q.1.2.2])] Tryz.func81 rfl Tryz.ntmps81 rfl (.cons rfl .nil) ?_
 refine sr (bx rfl rfl rfl (fun g1 w1 hg1 hb1 q1 z1 => ?_))
 refine asg rfl (nn (sq (sr (fad rfl fa42_0 (s_loadB rfl hb1 rfl na40 (lnS rfl Tryz.underlying40 (eq' rfl rfl (nn ?_))))))))
 refine cd rfl (fun c0 => ?_) (fun c0 => ?_)
 ·refine sr (asg rfl (nn (rt (tr (r1 Tryz.results81 rfl ?_)))))
  exact ⟨_, rfl, none, 0, by rw [edgeL, if_pos (by omega)]; rfl, by rw [edgeL, if_pos (by omega)]; exact Own.nil _, q1⟩
 refine sk (tn (sr (s_loadBA rfl hb1 ag42 (s_bslice ([q]) (ev1 rfl) rfl rfl rfl el36 (Nat.le_of_ble_eq_true rfl) (fun g8 w2 hg8 ho8 q2 z2 => ?_)))))
 refine asg rfl (nn (rt (r1 Tryz.results81 rfl ?_)))
 have he : edgeL q = [q] := by rw [edgeL, if_neg (by omega)]
 exact ⟨_, rfl, _, _, by rw [he], by rw [he]; exact ho8.low (by omega), (q1.n1 q2)⟩
end Go.Proofs.YthehggmdcmpjeaaGreatDoor
namespace Go.Lw
open Go.RowKit
section
variable {P : Program} {n N : Nat} {r : Option Nat} {L : List (Nat × Value)} {ds : List Nat} {w w' : World} {Q : Exit → Act → World → Prop} {ops : Array Oper} {rest : List Oper} {a : Act} {x y c : Code} {id : Nat}
theorem inl (h : EW Q .normal n ds w L) : WL P ops (NormEnd (Q .normal)) [] n ds w L := fun a ha => nm_end (h a ha)
end
end Go.Lw
namespace Go.Lw
open Go.RowKit
section
variable {P : Program} {n N : Nat} {ro : Option Nat} {L : List (Nat × Value)} {ds : List Nat} {w w' : World} {Q : Exit → Act → World → Prop} {ops : Array Oper} {rest : List Oper} {a : Act} {x y c : Code} {id : Nat}
section
variable {R : Ending → World → Prop} {fn : Func} {t u : Nat} {v z : Value}
end
end
end Go.Lw
namespace Go.Lw
open Go.RowKit
section
variable {P : Program} {n N : Nat} {L : List (Nat × Value)} {ds : List Nat} {w w' : World} {Q : Exit → Act → World → Prop}
theorem Own.neB {α : Type} {E : Enc α} {T T' base g : Nat} {v : Value} {ys : List α} {cs : List Value} (h : Own E T base w v ys) (hb : Blk w g T' cs) (hT : T ≠ T') : g ∉ blks v := by
 rcases h with ⟨rfl, rfl⟩ | ⟨g', cap, cur, rfl, _, hg, _⟩
 ·intro e; cases e
 intro e
 simp [blks] at e; subst e
 rw [show w.heap[g]? = _ from hb] at hg
 cases hg; exact hT rfl
end
end Go.Lw
namespace Go.Proofs.YthehggmdcmpjeaaGreatDoor
open Go.Lw Go.G14
theorem bo42 : BuildAt Tryz.prog 42 [(0, 1)] [(.slice none 0 0)] := BuildAt.struct Tryz.underlying42 (fun _ => by kernel_rfl) (fun _ => by kernel_rfl)
theorem co50 : CallOf Tryz.prog 50 := mkC Tryz.func50
theorem co51 : CallOf Tryz.prog 51 := mkC Tryz.func51
theorem co52 : CallOf Tryz.prog 52 := mkC Tryz.func52
theorem co53 : CallOf Tryz.prog 53 := mkC Tryz.func53
theorem co81 : CallOf Tryz.prog 81 := mkC Tryz.func81
theorem co82 : CallOf Tryz.prog 82 := mkC Tryz.func82
theorem co83 : CallOf Tryz.prog 83 := mkC Tryz.func83
theorem co84 : CallOf Tryz.prog 84 := mkC Tryz.func84
theorem sz88 : SizeOf Tryz.prog 88 1 := fun _ => by kernel_rfl
theorem zv88 (w : World) : (zeroValue 88).run Tryz.prog w = .ok (.slice none 0 0) w := by kernel_rfl
set_option maxHeartbeats 2000000 in
theorem beside_ok (v : Value) (qs : List CQ) (h : Nat) (w0 : World) (hs : Sl encCq w0 v qs) (hq : ChsQ w0 qs) (hne : 1 ≤ qs.length) (hn : qs.length ≤ 18) (hh : ∀ i, i < qs.length → (qs.getD i cq0).2.length = h) (h31 : h ≤ 31) (hw : ∀ q ∈ qs, ∀ x ∈ q.2, x.length ≤ 16) : Rets Tryz.prog 82 #[v] w0 fun r w' => ∃ X, r = .tuple #[.agg #[X], .int .i64 (besE qs h)] ∧ OwR 88 91 w0.heap.size w' X (if besE qs h = 0 then besS qs h else []) ∧ Fr [] w0 w' := by
 obtain ⟨A, c, rfl, hcc, hM, hA⟩ := id hs
 clear hA
 unfold maxLen at hM
 have h00 := (hq.at (i := 0) (by omega)).2
 rw [hh 0 (by omega)] at h00
 refine we [(0, .slice A qs.length c)] Tryz.func82 rfl Tryz.ntmps82 rfl (.cons rfl .nil) ?_
 have hs0 := hs
 have hq0 := hq
 refine sr (al zv42 rfl rfl (fun g2 w1 hg2 hb2 q1 z1 => ?_))
 refine asg rfl (nn (sq (sr (mv rfl (lnS rfl Tryz.underlying36 (eq' rfl rfl (nn ?_)))))))
 refine cd rfl (fun c0 => ?_) (fun c0 => ?_)
 ·exact absurd c0 (by omega)
 refine sk (tn (sr (mv rfl ?_)))
 replace hs := hs0.ext q1
 refine s_idxL (p := 0) (cq0) rfl hs rfl el36 rfl (fun ad18 hc18 => ?_)
 refine fad rfl fa42_0 (s_loadC rfl (hc18 _ hs) rfl na40 rfl (lnS rfl Tryz.underlying40 (asg rfl ?_)))
 rw [h00]
 refine kpL [(0, _), (2, _), (4, _)] (.c3 rfl rfl rfl) (nn (sq (sr (mv rfl (lnS rfl Tryz.underlying36 (mv rfl (nn (bl ?_))))))))
 refine lpK (ι := Nat) [(0, _), (2, _), (4, _), (22, _), (23, _)] (fun i => [(24, .int .i64 (i : Int))]) (fun i w' => Fr [] w1 w' ∧ i ≤ qs.length) (fun i => qs.length - i) 0 (.c6 rfl rfl rfl rfl rfl rfl) ⟨Fr.refl _ _, Nat.zero_le _⟩ ?_
 rintro i w2 ⟨q2, hi⟩
 have z2 := q2.size
 refine kpC [(0, _), (2, _), (4, _), (22, _), (23, _), (24, _)] (.c6 rfl rfl rfl rfl rfl rfl) ?_
 refine sr (lt' rfl rfl (nn (sq ?_)))
 refine cd rfl (fun c1 => ?_) (fun c1 => ?_)
 ·replace hq := hq0.ext (q1.n1 q2)
  have hee := (hq.at (i := i) (by omega)).2
  have hhi := hh i (by omega)
  refine sk (tn (sq (bl (sr ?_))))
  replace hs := hs0.ext (q1.n1 q2)
  refine s_idxL (cq0) rfl hs rfl el36 nat_of (fun ad26 hc26 => ?_)
  refine s_loadA rfl (hc26 _ hs) ag42 (al zv42 rfl rfl (fun g6 w3 hg6 hb6 q3 z3 => ?_))
  refine s_storeBA rfl rfl hb6 rfl sz42 (fun w4 hb6 q4 z4 => ?_)
  refine nn (sr (fad rfl fa42_0 (s_loadB rfl hb6 rfl na40 (lnS rfl Tryz.underlying40 (mv rfl (ne' rfl rfl (nn ?_)))))))
  refine cd rfl (fun c2 => ?_) (fun c2 => ?_)
  ·exact absurd c2 (by omega)
  refine sk (bn' (tn (rg (s_add rfl rfl (wi6 (by omega)) (mv rfl (nl ?_))))))
  exact lpE (i + 1) (.c6 rfl rfl rfl rfl rfl rfl) ⟨(q2.z2 q3 q4), by omega⟩ (by omega)
 obtain rfl : i = qs.length := by omega
 refine ex (te (te (xh (tn (sq (sq ?_))))))
 refine rbo (r := 41) (L' := [(0, _), (2, _), (4, _)]) (((64 < (qs.length : Int)) ∨ (31 < (h : Int)))) (.c3 rfl rfl rfl) ?_ ?_
 ·refine mv rfl (lnS rfl Tryz.underlying36 (gt' rfl rfl (mv rfl ?_)))
  refine gs 38 rfl (fun g0 => ?_) (fun g0 => ?_)
  ·exact gN rfl rfl rfl (gN rfl rfl rfl (pkt rfl rfl (rbe rfl (.c3 rfl rfl rfl))))
  exact gY rfl (mv rfl (gY rfl (gt' rfl rfl (pkf rfl rfl (rbe rfl (.c3 rfl rfl rfl))))))
 refine tn ?_
 refine cd rfl (fun c3 => ?_) (fun c3 => ?_)
 ·exact absurd c3 (by omega)
 refine sk (tn (sr (mv rfl ?_)))
 refine s_makeSlice (m := h) (c := h) (rq0) rfl rfl er40 zv88 rfl (Nat.le_refl _) (by unfold maxLen; omega) (fun g44 w5 hg44 hoR q5 z5 => ?_)
 refine asg rfl (nn (sq (sr (mv rfl (lnS rfl Tryz.underlying40 (mv rfl (nn (bl ?_))))))))
 refine lpK (ι := Nat × List RQ) [(0, _), (2, _), (7, _), (46, _)] (fun p => [(47, .int .i64 (p.1 : Int))]) (fun p w' => Fr [g44] w5 w' ∧ (p.1 ≤ h ∧ p.2.length = p.1) ∧ p.2.map Prod.snd = (List.range p.1).map (besR qs) ∧ (∀ k, k < p.1 → ¬ 16 < (besR qs k).length) ∧ Lw.Own encRq 88 g44 w' (.slice (some ⟨g44, 0, none⟩) h h) (p.2 ++ List.replicate (h - p.1) rq0) ∧ RwO 91 (g44 + 1) w' p.2) (fun p => h - p.1) (0, []) (.c5 rfl rfl rfl rfl rfl) ⟨Fr.refl _ _, ⟨⟨Nat.zero_le _, rfl⟩, rfl, fun k hk => absurd hk (Nat.not_lt_zero k), hoR, RwO.nil⟩⟩ ?_
 rintro ⟨i, rw_⟩ w6 ⟨q6, ⟨⟨hi, hrwl⟩, hrwm, hrw16, hoR, hwr⟩⟩
 simp only at hi hrwl hrwm hrw16 hoR hwr
 have z6 := q6.size
 have hwr0 := hwr
 refine kpC [(0, _), (2, _), (7, _), (46, _), (47, .int .i64 (i : Int))] (.c5 rfl rfl rfl rfl rfl) ?_
 refine sr (lt' rfl rfl (nn (sq ?_)))
 refine cd rfl (fun c4 => ?_) (fun c4 => ?_)
 ·refine sk (tn (sq (bl (sr (mv rfl (asg rfl (nn (sr (mv rfl (lnS rfl Tryz.underlying36 ?_))))))))))
  refine s_makeSlice (m := qs.length) (c := qs.length) (rq0) rfl rfl er40 zv88 rfl (Nat.le_refl _) (by unfold maxLen; omega) (fun g52 w7 hg52 hoP q7 z7 => ?_)
  refine asg rfl (nn (sr (asg rfl (nn (sq (sr (mv rfl (lnS rfl Tryz.underlying36 (mv rfl (nn (bl ?_)))))))))))
  replace hq := hq0.ext (q1.z4 q2 q5 q6 q7)
  refine lpK (ι := Nat × List RQ) [(0, _), (2, _), (7, _), (8, _), (9, _), (46, _), (47, _), (53, _), (54, _)] (fun p => [(10, .int .i64 (((p.2.flatMap Prod.snd).length : Nat) : Int)), (55, .int .i64 (p.1 : Int))]) (fun p w' => Fr [g52] w7 w' ∧ (p.1 ≤ qs.length ∧ p.2.length = p.1) ∧ p.2.map Prod.snd = (qs.take p.1).map (fun q => q.2.getD i []) ∧ RowsQ w0 p.2 ∧ Lw.Own encRq 88 g52 w' (.slice (some ⟨g52, 0, none⟩) qs.length qs.length) (p.2 ++ List.replicate (qs.length - p.1) rq0)) (fun p => qs.length - p.1) (0, []) (.d8 rfl rfl rfl rfl rfl rfl rfl rfl (.c3 rfl rfl rfl)) ⟨Fr.refl _ _, ⟨⟨Nat.zero_le _, rfl⟩, rfl, fun q hq => by (cases hq), hoP⟩⟩ ?_
  rintro ⟨j, ps⟩ w8 ⟨q8, ⟨⟨hj, hpsl⟩, hpm, hpq, hoP⟩⟩
  simp only at hj hpsl hpm hpq hoP
  have z8 := q8.size
  have hpq0 := hpq
  refine kpC [(0, _), (2, _), (7, _), (8, _), (9, _), (46, _), (47, _), (53, _), (54, _), (10, .int .i64 (((ps.flatMap Prod.snd).length : Nat) : Int)), (55, .int .i64 (j : Int))] (.d8 rfl rfl rfl rfl rfl rfl rfl rfl (.c3 rfl rfl rfl)) ?_
  have hpl3 := part_le (i := i) (j := j) hw
  rw [← flat_snd hpm] at hpl3
  refine sr (lt' rfl rfl (nn (sq ?_)))
  refine cd rfl (fun c5 => ?_) (fun c5 => ?_)
  ·obtain ⟨hqS, hqL⟩ := hq0.at (i := j) (by omega)
   obtain ⟨rs, hrs, hqr, hrm⟩ := Sll.opn hqS
   have hrl := sl_len hrs
   have hrc : rs.length = (qs.getD j cq0).2.length := by rw [← hrm, List.length_map]
   have hrM := hrs.len_le
   unfold maxLen at hrM
   have hgi := map_getD Prod.snd rs i rq0 []
   rw [hrm] at hgi
   have hrs0 := hrs
   have hqr0 := hqr
   have hhj := hh j (by omega)
   have hjl := sl_len (hqr (rs.getD i rq0) (getD_memS (by omega)))
   have hr16 := hw _ (getD_memS (d := cq0) (show j < qs.length by omega)) _ (by rw [← hrm]; exact mem_snd (d := rq0) (show i < rs.length by omega))
   skip
   refine sk (tn (sq (bl (sr (mv rfl ?_)))))
   replace hs := hs0.ext (q1.z5 q2 q5 q6 q7 q8)
   refine s_idxL (cq0) rfl hs rfl el36 nat_of (fun ad58 hc58 => ?_)
   refine s_loadA rfl (hc58 _ hs) ag42 (al zv42 rfl rfl (fun g12 w9 hg12 hb12 q9 z9 => ?_))
   refine asg rfl (s_storeBA rfl rfl hb12 rfl sz42 (fun w10 hb12 q10 z10 => ?_))
   refine nn (sr (mv rfl (mv rfl (fad rfl fa42_0 (s_loadB rfl hb12 rfl na40 (mv rfl ?_))))))
   replace hrs := hrs0.ext ((q1.z6 q2 q5 q6 q7 q8 q9).z1 q10)
   refine s_idxL (rq0) rfl hrs rfl er40 nat_of (fun ad65 hc65 => ?_)
   refine s_loadC0 rfl (hc65 _ hrs) na88 ?_
   replace hoP := (hoP.ext q9).fr q10 (by first|exact nfl_ hoP (by omega)|simp[blks]<;>omega)
   refine s_ixs (p := j) (rs.getD i rq0) rfl hoP rfl rfl (by intro e; cases e) er40 sz88 rfl (by first | omega | (simp only [List.length_append, List.length_replicate, List.length_cons, List.length_nil]; omega)) rfl (fun w11 hoP q11 z11 => ?_)
   replace q11 : Fr [g52] _ _ := q11
   rw [show qs.length - j = (qs.length - (j + 1)) + 1 by omega, ← hpsl, set_at, hpsl] at hoP
   refine kpL [(0, _), (2, _), (7, _), (8, _), (9, _), (10, _), (12, _), (46, _), (47, _), (53, _), (54, _), (55, _)] (.d8 rfl rfl rfl rfl rfl rfl rfl rfl (.c4 rfl rfl rfl rfl)) (nn (rg (mv rfl (fad rfl fa42_0 ?_))))
   replace hb12 := hb12.fr q11 (by simp[blks]<;>omega)
   refine s_loadB rfl hb12 rfl na40 (mv rfl ?_)
   replace hrs := hrs0.ext (((q1.z6 q2 q5 q6 q7 q8 q9).z1 q10).z1 q11)
   refine s_idxL (rq0) rfl hrs rfl er40 nat_of (fun ad72 hc72 => ?_)
   refine s_loadC0 rfl (hc72 _ hrs) na88 (lnS rfl Tryz.underlying88 (s_add rfl rfl (wi6 (by omega)) (asg rfl (kpL [(0, _), (2, _), (7, _), (8, _), (9, _), (10, _), (46, _), (47, _), (53, _), (54, _), (55, _)] (.d8 rfl rfl rfl rfl rfl rfl rfl rfl (.c3 rfl rfl rfl)) (nl (bn' (tn (rg (s_add rfl rfl (wi6 (by omega)) (mv rfl (nl ?_)))))))))))
   exact lpE ((j + 1, ps ++ [rs.getD i rq0])) (.d8 rfl rfl rfl rfl rfl rfl rfl rfl (.c3 rfl (congrArg (fun z => some (Value.int .i64 z)) (by simp only [List.flatMap_append, List.length_append, List.flatMap_cons, List.flatMap_nil, List.append_nil]; omega)) rfl)) ⟨((Fr.refl [g52] _).z4 q8 q9 q10 q11), ⟨⟨by simp only; omega, by simp only [List.length_append, List.length_singleton]; omega⟩, by simp only [List.map_append, List.map_singleton, hpm]; rw [take_map _ qs j cq0 (by omega), hgi (by omega)], fun q hq' => (List.mem_append.1 hq').elim (hpq0 q) (fun e => by rw [List.mem_singleton.1 e]; exact hqr0 _ (getD_memS (by omega))), hoP⟩⟩ (by simp only; omega)
  obtain rfl : j = qs.length := by omega
  rw [Nat.sub_self, List.replicate_zero, List.append_nil] at hoP
  rw [List.take_length] at hpm
  have hbf := bes_flat hpm
  have hpl2 := part_le (i := i) (j := qs.length) hw
  rw [List.take_length, ← flat_snd hpm] at hpl2
  refine ex (te (te (xh (tn (sq (sr (mv rfl (gt' rfl rfl (kpL [(0, _), (2, _), (7, _), (8, _), (9, _), (46, _), (47, _), (78, _)] (.c8 rfl rfl rfl rfl rfl rfl rfl rfl) (nn ?_))))))))))
  refine cd rfl (fun c6 => ?_) (fun c6 => ?_)
  ·refine sr (s_lit (cs := [_]) evs_nil bo42 pok_nil rfl ?_)
   replace hb2 := (((hb2.ext (q2.n1 q5)).fr q6 (by simp[blks]<;>omega)).ext q7).fr q8 (by simp[blks]<;>omega)
   refine s_storeBA rfl rfl hb2 rfl sz42 (fun w12 hb2 q12 z12 => ?_)
   refine asg rfl (kpL [(2, _), (3, _)] (.c2 rfl rfl) (nn (rt (tr (rb (tr (tr (rb (tr (rCT Tryz.results82 rfl hb2 ag42 rfl ?_))))))))))
   have hbe := bes_bad (qs := qs) (h := h) (i := i) (by omega) (by rw [← hbf]; omega)
   exact ⟨_, rfl, .slice none 0 0, by rw [hbe], by rw [hbe, if_neg (by decide)]; exact OwR.nil _, (q1.z6 q2 q5 q6 q7 q8 q12)⟩
  refine sk (tn (rg (mv rfl (mv rfl (mv rfl ?_)))))
  replace hpq := hpq0.ext (q1.z5 q2 q5 q6 q7 q8)
  refine cl (ev1 rfl) co84 (joins_ok _ ps _ hoP.sl hpq (by omega)) rfl ?_
  rintro _ w13 ⟨ho83, q13⟩
  have z13 := q13.size
  obtain ⟨A83, c83, rfl, _⟩ := ho83.sl.form
  replace ho83 := ho83.low (b' := g44 + 1) (by omega)
  replace hwr := hwr0.fr ((Fr.refl [g2] _).z3 q7 q8 q13) (by intro k hk; simp at hk; omega)
  have hwr2 := hwr.snoc (q := ((A83, (ps.flatMap Prod.snd).length, c83), ps.flatMap Prod.snd)) ho83
  replace hoR := ((hoR.ext q7).fr q8 (by first|exact nfl_ hoR (by omega)|simp[blks]<;>omega)).ext q13
  refine s_ixs (p := i) (((A83, (ps.flatMap Prod.snd).length, c83), ps.flatMap Prod.snd)) rfl hoR rfl rfl (by intro e; cases e) er40 sz88 rfl (by first | omega | (simp only [List.length_append, List.length_replicate, List.length_cons, List.length_nil]; omega)) rfl (fun w14 hoR q14 z14 => ?_)
  replace q14 : Fr [g44] _ _ := q14
  rw [show h - i = (h - (i + 1)) + 1 by omega, ← hrwl, set_at, hrwl] at hoR
  replace hwr2 := hwr2.fr q14 (by intro k hk; simp at hk; omega)
  refine kpL [(0, _), (2, _), (7, _), (46, _), (47, _)] (.c5 rfl rfl rfl rfl rfl) (nl (bn' (tn (rg (s_add rfl rfl (wi6 (by omega)) (mv rfl (nl ?_)))))))
  exact lpE ((i + 1, rw_ ++ [((A83, (ps.flatMap Prod.snd).length, c83), ps.flatMap Prod.snd)])) (.c5 rfl rfl rfl rfl rfl) ⟨((Fr.refl [g44] _).z5 q6 q7 q8 q13 q14), ⟨⟨by simp only; omega, by simp only [List.length_append, List.length_singleton]; omega⟩, by simp only [List.map_append, List.map_singleton, hrwm]; rw [range_map_succ, hbf], all_step hrw16 (by rw [← hbf]; omega), hoR, hwr2⟩⟩ (by simp only; omega)
 obtain rfl : h = i := by omega
 rw [Nat.sub_self, List.replicate_zero, List.append_nil] at hoR
 refine ex (te (te (xh (tn (sr (mv rfl (s_lit (cs := [_]) (ev1 rfl) bo42 (pok_cons rfl rfl rfl pok_nil) rfl ?_)))))))
 replace hb2 := (hb2.ext (q2.n1 q5)).fr q6 (by simp[blks]<;>omega)
 refine s_storeBA rfl rfl hb2 rfl sz42 (fun w15 hb2 q15 z15 => ?_)
 refine asg rfl (kpL [(2, _), (3, _)] (.c2 rfl rfl) (nn (rt (rCT Tryz.results82 rfl hb2 ag42 rfl ?_))))
 replace hoR := hoR.fr q15 (by first|exact nfl_ hoR (by omega)|simp[blks]<;>omega)
 replace hwr := hwr0.fr ((Fr.refl [g2] _).z1 q15) (by intro k hk; simp at hk; omega)
 exact ⟨_, rfl, (.slice (some ⟨g44, 0, none⟩) h h), by rw [bes_good hrw16], by rw [bes_good hrw16, if_pos rfl]; exact ⟨_, hoR.low (by omega), hwr.low (by omega), hrwm⟩, (q1.z4 q2 q5 q6 q15)⟩
set_option maxHeartbeats 1000000 in
theorem block_ok (m : Mot) (l t r : SV) (n : Nat) (w0 : World) (hm : MotAt w0 m l t r) (h0 : motE m = 0) (hn : 1 ≤ n) : Rets Tryz.prog 50 #[.agg #[.slice l.1 l.2.1 l.2.2, .slice t.1 t.2.1 t.2.2, .slice r.1 r.2.1 r.2.2], .int .i64 (n : Int)] w0 fun v w' => ∃ X, v = .tuple #[.agg #[X], .int .i64 (blkE m n)] ∧ OwR 88 91 w0.heap.size w' X (if blkE m n = 0 then sideM m n else []) ∧ Fr [] w0 w' := by
 obtain ⟨hl1, hl2, hl3⟩ := hm.len
 obtain ⟨a1, a2, a3, a4, a5, a6, a7⟩ := mot_all h0
 have hlt := large_len a2
 have htl := tiles_len m l t r n
 refine we [(0, .agg #[.slice l.1 l.2.1 l.2.2, .slice t.1 t.2.1 t.2.2, .slice r.1 r.2.1 r.2.2]), (1, .int .i64 (n : Int))] Tryz.func50 rfl Tryz.ntmps50 rfl (.c2 rfl rfl) ?_
 have hm0 := hm
 refine sr (bx rfl rfl rfl (fun g2 w1 hg2 hb2 q1 z1 => ?_))
 refine al zv42 rfl rfl (fun g4 w2 hg4 hb4 q2 z2 => ?_)
 refine asg rfl (nn (sq (sr (mv rfl (gt' rfl rfl (nn ?_))))))
 refine cd rfl (fun c0 => ?_) (fun c0 => ?_)
 ·refine sr (s_lit (cs := [_]) evs_nil bo42 pok_nil rfl ?_)
  refine s_storeBA rfl rfl hb4 rfl sz42 (fun w3 hb4 q3 z3 => ?_)
  refine asg rfl (nn (rt (tr (rCT Tryz.results50 rfl hb4 ag42 rfl ?_))))
  have hbe : blkE m n = 3 := if_pos (by omega)
  exact ⟨_, rfl, .slice none 0 0, by rw [hbe], by rw [hbe, if_neg (by decide)]; exact OwR.nil _, (q1.z2 q2 q3)⟩
 have hn16 : n ≤ 16 := by omega
 refine sk (tn (sr (fad rfl fa46_1 ?_)))
 replace hb2 := hb2.ext q2
 refine s_loadBP (vs := [_]) rfl hb2 ag42 rfl (s_bslice ([((t, m.T) : CQ)]) (ev1 rfl) rfl rfl rfl el36 (Nat.le_of_ble_eq_true rfl) (fun g13 w4 hg13 ho13 q4 z4 => ?_))
 refine mv rfl ?_
 refine cl (ev2 rfl rfl) co52 (repeat_ok _ (t, m.T) n _ ho13.sl (by omega)) rfl ?_
 rintro _ w5 ⟨ho15, q5⟩
 have z5 := q5.size
 obtain ⟨A15, c15, rfl, hc15⟩ := ho15.sl.form
 rw [List.length_replicate] at ho15 hc15
 rw [List.length_replicate]
 refine asg rfl (kpL [(2, _), (4, _), (6, _)] (.c3 rfl rfl rfl) (nn (sr (asg rfl (nn (sq ?_))))))
 replace hm := hm0.ext (q1.n3 q2 q4 q5)
 replace hb2 := hb2.ext (q4.n1 q5)
 replace hb4 := hb4.ext (q4.n1 q5)
 intro a h
 have qh5 := Fr.refl [g4] w5
 refine region_held (fun wb w' => Fr [g4] wb w') hmix ?_; intro w6 hq
 have z6 := hq.size
 replace hm := hm.ext hq
 replace hb2 := hb2.ext hq
 replace hb4 := hb4.ext hq
 replace ho15 := ho15.ext hq
 replace qh5 := qh5.next hq
 have hsz := hq.size; clear hq; have hC : Fr [g4] w6 w6 := Fr.refl _ _
 have hm_b := hm
 have hb2_b := hb2
 have hb4_b := hb4
 have ho15_b := ho15
 refine hd_move 0 hC h wn rfl rfl ?_; clear h a; intro a h
 refine hd_fieldAddr 1 hC h wn rfl fa46_0 rfl ?_; clear h a; intro a h
 refine hd_loadBP (vs := [_]) 2 hC h wn rfl (fun _ hw => (hb2_b.fr hw (by simp<;>omega))) ag42 rfl rfl ?_; clear h a; intro a h
 refine hd_move 4 hC h wn rfl rfl ?_; clear h a; intro a h
 refine hd_move 5 hC h wn rfl rfl ?_; clear h a; intro a h
 refine hd_fieldAddr 6 hC h wn rfl fa46_2 rfl ?_; clear h a; intro a h
 refine hd_loadBP (vs := [_]) 7 hC h wn rfl (fun _ hw => (hb2_b.fr hw (by simp<;>omega))) ag42 rfl rfl ?_; clear h a; intro a h
 refine hd_one 3 rfl ?_
 refine st_callv (us := []) (ws := []) h rfl (evs_cons rfl evs_nil) co81 (edge_ok (l, m.L) _ hl1) rfl (by intro g e; cases e) ?_; clear h a; rintro _ w7 ⟨A19, c19, rfl, ho19, hq⟩ a h
 have z7 := hq.size
 replace hm := hm.ext hq
 replace hb2 := hb2.ext hq
 replace hb4 := hb4.ext hq
 replace ho15 := ho15.ext hq
 replace qh5 := qh5.next hq
 replace hC := hC.next hq
 clear hq
 refine hd_next hC ?_
 refine hd_one 8 rfl ?_
 refine st_callv (us := []) (ws := []) h rfl (evs_cons rfl evs_nil) co81 (edge_ok (r, m.R) _ hl3) rfl (by intro g e; cases e) ?_; clear h a; rintro _ w8 ⟨A24, c24, rfl, ho24, hq⟩ a h
 have z8 := hq.size
 replace hm := hm.ext hq
 replace hb2 := hb2.ext hq
 replace hb4 := hb4.ext hq
 replace ho15 := ho15.ext hq
 replace qh5 := qh5.next hq
 replace hC := hC.next hq
 replace ho19 := ho19.ext hq
 clear hq
 refine hd_next hC ?_
 refine hd_one 9 rfl ?_
 refine st_bslice ([((A19, (edgeL (l, m.L)).length, c19), edgeL (l, m.L)), ((A15, n, c15), List.replicate n (t, m.T)), ((A24, (edgeL (r, m.R)).length, c24), edgeL (r, m.R))]) h (evs_cons rfl (evs_cons rfl (evs_cons rfl evs_nil))) rfl rfl rfl el209 (Nat.le_of_ble_eq_true rfl) ?_; clear h a; intro g_25 w9 hg ho25 hq hz a h
 have hn__25 : g2 < g_25 := by have := hb2.lt; omega
 have hn__25 : g4 < g_25 := by have := hb4.lt; omega
 have z9 := hq.size
 replace hm := hm.ext hq
 replace hb2 := hb2.ext hq
 replace hb4 := hb4.ext hq
 replace ho15 := ho15.ext hq
 replace qh5 := qh5.next hq
 replace hC := hC.next hq
 replace ho19 := ho19.ext hq
 replace ho24 := ho24.ext hq
 clear hq
 refine hd_next hC ?_
 refine hd_one 10 rfl ?_
 refine st_call h (evs_cons rfl evs_nil) co83 (joinc_ok _ [((A19, (edgeL (l, m.L)).length, c19), edgeL (l, m.L)), ((A15, n, c15), List.replicate n (t, m.T)), ((A24, (edgeL (r, m.R)).length, c24), edgeL (r, m.R))] _ ho25.sl (fun q hq => by simp only [List.mem_cons, List.not_mem_nil, or_false] at hq; rcases hq with rfl | rfl | rfl; exact ho19.sl; exact ho15.sl; exact ho24.sl) (by have := edge_len (l, m.L); have := edge_len (r, m.R); simp only [List.flatMap_cons, List.flatMap_nil, List.append_nil, List.length_append, List.length_replicate]; omega)) ?_; clear h a; rintro _ w10 ⟨ho26, hq⟩ a h
 skip
 have z10 := hq.size
 replace hm := hm.ext hq
 replace hb2 := hb2.ext hq
 replace hb4 := hb4.ext hq
 replace ho15 := ho15.ext hq
 replace qh5 := qh5.next hq
 replace hC := hC.next hq
 replace ho19 := ho19.ext hq
 replace ho24 := ho24.ext hq
 replace ho25 := ho25.ext hq
 clear hq
 rw [tks_flat] at ho26
 refine hd_next hC ?_
 refine hd_one 11 rfl ?_
 refine st_call h (evs_cons rfl evs_nil) co82 (beside_ok _ (tilesL m l t r n) m.T.length _ ho26.sl (tiles_chs hm) (by omega) (by omega) (fun i hi => (tiles_ok h0).1 _ (getD_memS hi)) (by omega) (tiles_ok h0).2) ?_; clear h a; rintro _ w11 ⟨X27, rfl, hX, hq⟩ a h
 have z11 := hq.size
 replace hm := hm.ext hq
 replace hb2 := hb2.ext hq
 replace hb4 := hb4.ext hq
 replace ho15 := ho15.ext hq
 replace qh5 := qh5.next hq
 replace hC := hC.next hq
 replace ho19 := ho19.ext hq
 replace ho24 := ho24.ext hq
 replace ho25 := ho25.ext hq
 replace ho26 := ho26.ext hq
 clear hq
 obtain ⟨AX, cX, rfl, _⟩ := hX.form
 refine hd_next hC ?_
 refine hd_extract 12 hC h wn rfl rfl rfl ?_; clear h a; intro a h
 refine hd_extract 13 hC h wn rfl rfl rfl ?_; clear h a; intro a h
 refine hd_one 14 rfl ?_
 refine st_storeBA h rfl rfl hb4 rfl sz42 ?_; clear h a; intro w12 hbn hq hz a h
 have z12 := hq.size
 replace hb2 := hb2.fr hq (by simp[blks]<;>omega)
 replace qh5 := qh5.sp hq
 replace hC := hC.sp hq
 replace hX := hX.fr hq (by intro k hk; simp at hk; omega)
 clear hb4 hq hz; have hb4 : Blk w12 g4 _ [_] := hbn; clear hbn
 refine hd_next hC ?_
 refine hd_one 15 rfl ?_
 refine st_assign h rfl ?_; clear h a; intro a h
 refine hd_next hC ?_
 refine hd_end ?_
 clear hC hm_b hb2_b hb4_b ho15_b
 have z12 := qh5.size
 refine bk (h.sub (L' := [(4, _), (5, _)]) (.c2 rfl rfl)) ?_; clear h a
 refine tn (rt (rCT Tryz.results50 rfl hb4 ag42 rfl ?_))
 have hbe := blk_bes (m := m) (l := l) (t := t) (r := r) (n := n) (by omega)
 rw [tiles_bes, hbe] at hX
 exact ⟨_, rfl, .slice AX (if blkE m n = 0 then sideM m n else []).length cX, by rw [tiles_bes, hbe]; rfl, hX.low (by omega), (q1.z4 q2 q4 q5 qh5)⟩
theorem abv3 {qs : List CQ} (h : ¬ ∀ q ∈ qs, largeB q.2 = false) : abvE qs = 3 := if_pos h
theorem abv3b {qs : List CQ} (h : ∀ q ∈ qs, largeB q.2 = false) (h2 : 31 < (qs.flatMap Prod.snd).length) : abvE qs = 3 := by rw [abvE, if_neg (fun e => e h), if_pos h2]
theorem abv0 {qs : List CQ} (h : ∀ q ∈ qs, largeB q.2 = false) (h2 : ¬ 31 < (qs.flatMap Prod.snd).length) : abvE qs = 0 := by rw [abvE, if_neg (fun e => e h), if_neg h2]
theorem flat_small {qs : List CQ} (h : ∀ q ∈ qs, largeB q.2 = false) : ∀ i, ((qs.take i).flatMap Prod.snd).length ≤ 31 * i
 | 0 => by simp
 | i + 1 => by
  have ih := flat_small h i
  by_cases hi : i < qs.length
  ·rw [flat_succ Prod.snd qs i cq0 hi, List.length_append]
   have := (large_len (h _ (getD_memS (d := cq0) hi))).1
   omega
  rw [List.take_of_length_le (by omega)] at ih ⊢; omega
theorem ap_rows {T : Nat} {Ro N : Nat} {w w' : World} {v : Value} {rw_ : List RQ} {xs : List RQ} (h : RwO T N w rw_) (ho : Lw.Own encRq Ro N w v xs) (hq : Fr (blks v) w w') (hT : Ro ≠ T) : RwO T N w' rw_ := h.frT hq ho hT
set_option maxHeartbeats 2000000 in
theorem above_ok (v : Value) (qs : List CQ) (w0 : World) (hs : Sl encCq w0 v qs) (hq : ChsQ w0 qs) (hn : qs.length ≤ 31) : Rets Tryz.prog 51 #[v] w0 fun r w' => ∃ X, r = .tuple #[.agg #[X], .int .i64 (abvE qs)] ∧ OwR 88 91 w0.heap.size w' X (if abvE qs = 0 then qs.flatMap Prod.snd else []) ∧ Fr [] w0 w' := by
 obtain ⟨A, c, rfl, hcc, hM, hA⟩ := id hs
 clear hA
 unfold maxLen at hM
 refine we [(0, .slice A qs.length c)] Tryz.func51 rfl Tryz.ntmps51 rfl (.cons rfl .nil) ?_
 have hs0 := hs
 have hq0 := hq
 refine sr (al zv42 rfl rfl (fun g2 w1 hg2 hb2 q1 z1 => ?_))
 refine asg rfl (nn (sq (sq ?_)))
 refine rboF (r := 19) (L' := [(0, _), (2, _)]) (((64 < (qs.length : Int)) ∨ (¬ (∀ q ∈ qs, largeB q.2 = false)))) (.c2 rfl rfl) ?_ ?_
 ·refine mv rfl (lnS rfl Tryz.underlying36 (gt' rfl rfl (mv rfl ?_)))
  refine gs 15 rfl (fun g0 => ?_) (fun g0 => ?_)
  ·exact gN rfl rfl rfl (gN rfl rfl rfl (gN rfl rfl rfl (pkt rfl rfl (rbeF rfl (.c2 rfl rfl) (Fr.refl _ _)))))
  refine gY rfl (mv rfl (gY rfl ?_))
  replace hs := hs0.ext q1
  replace hq := hq0.ext q1
  refine cl (ev1 rfl) co79 (msmall_ok _ _ _ hs hq) rfl ?_
  rintro _ w2 ⟨rfl, q2⟩
  have z2 := q2.size
  exact gY rfl (nt' rfl (pkf rfl rfl (rbeF rfl (.c2 rfl rfl) q2)))
 intro w3 q3; have z3 := q3.size
 refine tn ?_
 refine cd rfl (fun c0 => ?_) (fun c0 => ?_)
 ·refine sr (s_lit (cs := [_]) evs_nil bo42 pok_nil rfl ?_)
  replace hb2 := hb2.ext q3
  refine s_storeBA rfl rfl hb2 rfl sz42 (fun w4 hb2 q4 z4 => ?_)
  refine asg rfl (nn (rt (tr (rCT Tryz.results51 rfl hb2 ag42 rfl ?_))))
  have hae : abvE qs = 3 := abv3 (fun hh => by rcases c0 with h | h; omega; exact h hh)
  exact ⟨_, rfl, .slice none 0 0, by rw [hae], by rw [hae, if_neg (by decide)]; exact OwR.nil _, (q1.z2 q3 q4)⟩
 have c0' : ∀ q ∈ qs, largeB q.2 = false := Classical.not_not.1 fun h => c0 (.inr h)
 refine sk (tn (sr (asg rfl (nn (sq (sr (mv rfl (lnS rfl Tryz.underlying36 (mv rfl (nn (bl ?_)))))))))))
 refine lpK (ι := Nat) [(0, _), (2, _), (21, _), (22, _)] (fun i => [(23, .int .i64 (i : Int)), (4, .int .i64 (((qs.take i).flatMap Prod.snd).length : Int))]) (fun i w' => Fr [] w3 w' ∧ i ≤ qs.length) (fun i => qs.length - i) 0 (.c6 rfl rfl rfl rfl rfl rfl) ⟨Fr.refl _ _, Nat.zero_le _⟩ ?_
 rintro i w5 ⟨q5, hi⟩
 have z5 := q5.size
 refine kpC [(0, _), (2, _), (21, _), (22, _), (23, _), (4, _)] (.c6 rfl rfl rfl rfl rfl rfl) ?_
 refine sr (lt' rfl rfl (nn (sq ?_)))
 refine cd rfl (fun c1 => ?_) (fun c1 => ?_)
 ·replace hq := hq0.ext (q1.n2 q3 q5)
  have hqL := (hq.at (i := i) (by omega)).2
  have hfs := flat_succ Prod.snd qs i cq0 (by omega)
  have hfl := congrArg List.length hfs
  rw [List.length_append] at hfl
  have hlg := (large_len (c0' _ (getD_memS (d := cq0) (show i < qs.length by omega)))).1
  have hfw := flat_small c0' i
  refine sk (tn (sq (bl (sr ?_))))
  replace hs := hs0.ext (q1.n2 q3 q5)
  refine s_idxL (cq0) rfl hs rfl el36 nat_of (fun ad25 hc25 => ?_)
  refine s_loadA rfl (hc25 _ hs) ag42 (al zv42 rfl rfl (fun g6 w6 hg6 hb6 q6 z6 => ?_))
  refine s_storeBA rfl rfl hb6 rfl sz42 (fun w7 hb6 q7 z7 => ?_)
  refine nn (rg (mv rfl (fad rfl fa42_0 (s_loadB rfl hb6 rfl na40 (lnS rfl Tryz.underlying40 (s_add rfl rfl (wi6 (by omega)) (asg rfl (kpL [(0, _), (2, _), (4, _), (21, _), (22, _), (23, _)] (.c6 rfl rfl rfl rfl rfl rfl) (nl (bn' (tn ?_)))))))))))
  refine rg (s_add rfl rfl (wi6 (by omega)) (mv rfl (nl ?_)))
  exact lpE (i + 1) (.c6 rfl rfl rfl rfl rfl (congrArg (fun z => some (Value.int .i64 z)) (by omega))) ⟨(q5.z2 q6 q7), by omega⟩ (by omega)
 obtain rfl : i = qs.length := by omega
 rw [List.take_length]
 refine ex (te (te (xh (tn (sq (sr (mv rfl (gt' rfl rfl (nn ?_)))))))))
 refine cd rfl (fun c2 => ?_) (fun c2 => ?_)
 ·refine sr (s_lit (cs := [_]) evs_nil bo42 pok_nil rfl ?_)
  replace hb2 := hb2.ext (q3.n1 q5)
  refine s_storeBA rfl rfl hb2 rfl sz42 (fun w8 hb2 q8 z8 => ?_)
  refine asg rfl (nn (rt (tr (rCT Tryz.results51 rfl hb2 ag42 rfl ?_))))
  have hae : abvE qs = 3 := abv3b c0' (by omega)
  exact ⟨_, rfl, .slice none 0 0, by rw [hae], by rw [hae, if_neg (by decide)]; exact OwR.nil _, (q1.z3 q3 q5 q8)⟩
 refine sk (tn (sr (mv rfl ?_)))
 refine s_makeSlice (m := 0) (c := (qs.flatMap Prod.snd).length) (rq0) rfl rfl er40 zv88 rfl (Nat.zero_le _) (by unfold maxLen; omega) (fun g37 w9 hg37 hoR q9 z9 => ?_)
 replace hoR := hoR.low (b' := g2 + 1) (by omega)
 refine asg rfl (nn (sq (sr (mv rfl (lnS rfl Tryz.underlying36 (mv rfl (nn (bl ?_))))))))
 replace hb2 := hb2.ext (q3.n2 q5 q9)
 refine lpK (ι := Nat × Value × List RQ) [(2, _), (38, _), (39, _)] (fun p => [(40, .int .i64 (p.1 : Int)), (7, p.2.1)]) (fun p w' => Fr [] w0 w' ∧ p.1 ≤ qs.length ∧ p.2.2.map Prod.snd = (qs.take p.1).flatMap Prod.snd ∧ Blk w' g2 42 [.slice none 0 0] ∧ Lw.Own encRq 88 (g2 + 1) w' p.2.1 p.2.2 ∧ RwO 91 (g2 + 1) w' p.2.2) (fun p => qs.length - p.1) (0, .slice (some ⟨g37, 0, none⟩) 0 (qs.flatMap Prod.snd).length, []) (.c5 rfl rfl rfl rfl rfl) ⟨(q1.n3 q3 q5 q9), ⟨Nat.zero_le _, rfl, hb2, hoR, RwO.nil⟩⟩ ?_
 rintro ⟨i, vG, rw_⟩ w10 ⟨q10, ⟨hi, hrm_, hb2, hoR, hwr⟩⟩
 simp only at hi hrm_ hb2 hoR hwr
 have z10 := q10.size
 have lt_hb2 := hb2.lt
 have hwr0 := hwr
 refine kpC [(2, _), (38, _), (39, _), (40, .int .i64 (i : Int)), (7, vG)] (.c5 rfl rfl rfl rfl rfl) ?_
 refine sr (lt' rfl rfl (nn (sq ?_)))
 refine cd rfl (fun c3 => ?_) (fun c3 => ?_)
 ·obtain ⟨hqS, hqL⟩ := hq0.at (i := i) (by omega)
  obtain ⟨rs, hrs, hqr, hrm⟩ := Sll.opn hqS
  have hrl := sl_len hrs
  have hrc : rs.length = (qs.getD i cq0).2.length := by rw [← hrm, List.length_map]
  have hrM := hrs.len_le
  unfold maxLen at hrM
  have hgi := map_getD Prod.snd rs i rq0 []
  rw [hrm] at hgi
  have hrs0 := hrs
  have hqr0 := hqr
  skip
  refine sk (tn (sq (bl (sr ?_))))
  replace hs := hs0.ext q10
  refine s_idxL (cq0) rfl hs rfl el36 nat_of (fun ad42 hc42 => ?_)
  refine s_loadA rfl (hc42 _ hs) ag42 (al zv42 rfl rfl (fun g9 w11 hg9 hb9 q11 z11 => ?_))
  refine s_storeBA rfl rfl hb9 rfl sz42 (fun w12 hb9 q12 z12 => ?_)
  refine nn (sr (fad rfl fa42_0 (s_loadB rfl hb9 rfl na40 (lnS rfl Tryz.underlying40 (mv rfl (nn (bl ?_)))))))
  replace hb2 := (hb2.ext q11).fr q12 (by simp[blks]<;>omega)
  replace hoR := (hoR.ext q11).fr q12 (by first|exact nfl_ hoR (by omega)|simp[blks]<;>omega)
  replace hwr := hwr0.fr ((Fr.refl [g2] _).z2 q11 q12) (by intro k hk; simp at hk; omega)
  refine lpK (ι := Nat × Value × List RQ) [(2, _), (38, _), (39, _), (40, _), (45, _), (46, _)] (fun p => [(47, .int .i64 (p.1 : Int)), (7, p.2.1)]) (fun p w' => Fr [] w0 w' ∧ p.1 ≤ rs.length ∧ p.2.2.map Prod.snd = (qs.take i).flatMap Prod.snd ++ (qs.getD i cq0).2.take p.1 ∧ Blk w' g2 42 [.slice none 0 0] ∧ Lw.Own encRq 88 (g2 + 1) w' p.2.1 p.2.2 ∧ RwO 91 (g2 + 1) w' p.2.2) (fun p => rs.length - p.1) (0, vG, rw_) (.c8 rfl rfl rfl rfl rfl rfl rfl rfl) ⟨(q10.z2 q11 q12), ⟨Nat.zero_le _, by rw [hrm_]; simp, hb2, hoR, hwr⟩⟩ ?_
  rintro ⟨j, vH, rx⟩ w13 ⟨q13, ⟨hj, hrx, hb2, hoR, hwr⟩⟩
  simp only at hj hrx hb2 hoR hwr
  have z13 := q13.size
  have lt_hb2 := hb2.lt
  have hwr0 := hwr
  refine kpC [(2, _), (38, _), (39, _), (40, _), (45, _), (46, _), (47, .int .i64 (j : Int)), (7, vH)] (.c8 rfl rfl rfl rfl rfl rfl rfl rfl) ?_
  refine sr (lt' rfl rfl (nn (sq ?_)))
  refine cd rfl (fun c4 => ?_) (fun c4 => ?_)
  ·have hjl := sl_len (hqr0 (rs.getD j rq0) (getD_memS (by omega)))
   have hr16 := (large_len (c0' _ (getD_memS (d := cq0) (show i < qs.length by omega)))).2 _ (by rw [← hrm]; exact mem_snd (d := rq0) (show j < rs.length by omega))
   have hgi := map_getD Prod.snd rs j rq0 []
   rw [hrm] at hgi
   have hxl := congrArg List.length hrx
   rw [List.length_append, List.length_map, List.length_take] at hxl
   have hfw := flat_small c0' i
   have hlg := (large_len (c0' _ (getD_memS (d := cq0) (show i < qs.length by omega)))).1
   refine sk (tn (sq (bl (sr ?_))))
   replace hrs := hrs0.ext q13
   refine s_idxL (rq0) rfl hrs rfl er40 nat_of (fun ad49 hc49 => ?_)
   refine s_loadC0 rfl (hc49 _ hrs) na88 (asg rfl (nn (rg (mv rfl (mv rfl (s_bslice ([rs.getD j rq0]) (ev1 rfl) rfl rfl rfl er40 (Nat.le_of_ble_eq_true rfl) (fun g53 w14 hg53 ho53 q14 z14 => ?_)))))))
   replace hq := hq0.ext (q13.n1 q14)
   replace hqr := hqr0.ext (q13.n1 q14)
   refine cl (ev1 rfl) co84 (joins_ok _ [rs.getD j rq0] _ ho53.sl (fun q hq => by rw [List.mem_singleton.1 hq]; exact hqr _ (getD_memS (by omega))) (by simp only [List.flatMap_cons, List.flatMap_nil, List.append_nil]; omega)) rfl ?_
   rintro _ w15 ⟨ho54, q15⟩
   have z15 := q15.size
   rw [show [rs.getD j rq0].flatMap Prod.snd = (rs.getD j rq0).2 by simp] at ho54
   obtain ⟨A54, c54, rfl, _⟩ := ho54.sl.form
   replace ho54 := ho54.low (b' := g2 + 1) (by omega)
   refine s_bslice ([((A54, (rs.getD j rq0).2.length, c54), (rs.getD j rq0).2)]) (ev1 rfl) rfl rfl rfl er40 (Nat.le_of_ble_eq_true rfl) (fun g55 w16 hg55 ho55 q16 z16 => ?_)
   replace hwr := hwr0.fr ((Fr.refl [g2] _).n3 q14 q15 q16) (by intro k hk; simp at hk; omega)
   replace ho54 := ho54.ext q16
   have hwr2 := hwr.snoc (q := ((A54, (rs.getD j rq0).2.length, c54), (rs.getD j rq0).2)) ho54
   replace hb2 := hb2.ext (q14.n2 q15 q16)
   replace hoR := hoR.ext (q14.n2 q15 q16)
   have hoo56 := hoR
   refine s_append rfl rfl hoR ho55.sl er40 (fun v56 w17 hoR q17 hor56 => ?_)
   have z17 := q17.size
   replace hb2 := hb2.fr q17 (hoo56.neB hb2 (by decide))
   replace hwr2 := ap_rows hwr2 hoo56 q17 (by decide)
   refine asg rfl (kpL [(2, _), (7, _), (38, _), (39, _), (40, _), (45, _), (46, _), (47, _)] (.c8 rfl rfl rfl rfl rfl rfl rfl rfl) (nl (bn' (tn (rg (s_add rfl rfl (wi6 (by omega)) (mv rfl (nl ?_))))))))
   exact lpE ((j + 1, v56, rx ++ [((A54, (rs.getD j rq0).2.length, c54), (rs.getD j rq0).2)])) (.c8 rfl rfl rfl rfl rfl rfl rfl rfl) ⟨((q13.n3 q14 q15 q16).step q17 (fun k hk hlt => absurd (hoo56.blk k hk).1 (by omega))), ⟨by simp only; omega, by simp only [List.map_append, List.map_singleton, hrx]; rw [List.append_assoc, take_one _ j [] (by omega), ← hgi (by omega)], hb2, hoR, hwr2⟩⟩ (by simp only; omega)
  obtain rfl : j = rs.length := by omega
  refine ex (te (te (xh (bn' (tn (rg (s_add rfl rfl (wi6 (by omega)) (mv rfl (nl ?_)))))))))
  exact lpE ((i + 1, vH, rx)) (.c5 rfl rfl rfl rfl rfl) ⟨q13, ⟨by simp only; omega, by simp only [hrx]; rw [flat_succ Prod.snd qs i cq0 (by omega), hrc, List.take_length], hb2, hoR, hwr⟩⟩ (by simp only; omega)
 obtain rfl : i = qs.length := by omega
 rw [List.take_length] at hrm_
 obtain ⟨AG, cG, rfl, _⟩ := hoR.sl.form
 refine ex (te (te (xh (tn (sr (mv rfl (s_lit (cs := [_]) (ev1 rfl) bo42 (pok_cons rfl rfl rfl pok_nil) rfl ?_)))))))
 refine s_storeBA rfl rfl hb2 rfl sz42 (fun w18 hb2 q18 z18 => ?_)
 refine asg rfl (kpL [(2, _), (3, _)] (.c2 rfl rfl) (nn (rt (rCT Tryz.results51 rfl hb2 ag42 rfl ?_))))
 replace hoR := hoR.fr q18 (by first|exact nfl_ hoR (by omega)|simp[blks]<;>omega)
 replace hwr := hwr0.fr ((Fr.refl [g2] _).z1 q18) (by intro k hk; simp at hk; omega)
 have hae : abvE qs = 0 := abv0 c0' (by omega)
 exact ⟨_, rfl, _, by rw [hae], by rw [hae, if_pos rfl]; exact ⟨_, hoR.low (by omega), hwr.low (by omega), hrm_⟩, (q10.z1 q18)⟩
set_option maxHeartbeats 1000000 in
theorem stack_ok (m : Mot) (l t r : SV) (n up : Int) (w0 : World) (hm : MotAt w0 m l t r) : Rets Tryz.prog 25 #[.agg #[.slice l.1 l.2.1 l.2.2, .slice t.1 t.2.1 t.2.2, .slice r.1 r.2.1 r.2.2], .int .i64 n, .int .i64 up] w0 fun v w' => ∃ X, v = .tuple #[.agg #[X], .int .i64 (stackE m n up)] ∧ OwR 88 91 w0.heap.size w' X (stackS m n up) ∧ Fr [] w0 w' := by
 refine we [(0, .agg #[.slice l.1 l.2.1 l.2.2, .slice t.1 t.2.1 t.2.2, .slice r.1 r.2.1 r.2.2]), (1, .int .i64 n), (2, .int .i64 up)] Tryz.func25 rfl Tryz.ntmps25 rfl (.c3 rfl rfl rfl) ?_
 have hm0 := hm
 refine sr (bx rfl rfl rfl (fun g3 w1 hg3 hb3 q1 z1 => ?_))
 refine al zv42 rfl rfl (fun g6 w2 hg6 hb6 q2 z2 => ?_)
 refine asg rfl (nn (sq (sr ?_)))
 replace hb3 := hb3.ext q2
 refine s_loadBA rfl hb3 ag46 ?_
 replace hm := hm0.ext (q1.n1 q2)
 refine cl (ev1 rfl) co49 (mcheck_ok _ _ _ _ _ hm) rfl ?_
 rintro _ w3 ⟨rfl, q3⟩
 have z3 := q3.size
 refine asg rfl (nn (sr (mv rfl (ne' rfl rfl (nn ?_)))))
 refine cd rfl (fun c0 => ?_) (fun c0 => ?_)
 ·refine sr (s_lit (cs := [_]) evs_nil bo42 pok_nil rfl ?_)
  refine mv rfl ?_
  replace hb6 := hb6.ext q3
  refine s_storeBA rfl rfl hb6 rfl sz42 (fun w4 hb6 q4 z4 => ?_)
  refine asg rfl (kpL [(6, _), (7, _)] (.c2 rfl rfl) (nn (rt (tr (rCT Tryz.results25 rfl hb6 ag42 rfl ?_)))))
  have he := stk_mot (m := m) (n := n) (up := up) c0
  have hs : stackS m n up = [] := by rw [stackS, if_neg (by rw [he]; exact c0)]
  exact ⟨_, rfl, .slice none 0 0, by rw [he], by rw [hs]; exact OwR.nil _, (q1.z3 q2 q3 q4)⟩
 have h0 : motE m = 0 := Classical.not_not.1 c0
 refine sk (tn (sq (sq ?_)))
 refine rbo (r := 24) (L' := [(1, _), (2, _), (3, _), (6, _)]) (((n < 1) ∨ (up < 1))) (.c4 rfl rfl rfl rfl) ?_ ?_
 ·refine mv rfl (lt' rfl rfl (mv rfl ?_))
  refine gs 21 rfl (fun g0 => ?_) (fun g0 => ?_)
  ·exact gN rfl rfl rfl (gN rfl rfl rfl (pkt rfl rfl (rbe rfl (.c4 rfl rfl rfl rfl))))
  exact gY rfl (mv rfl (gY rfl (lt' rfl rfl (pkf rfl rfl (rbe rfl (.c4 rfl rfl rfl rfl))))))
 refine tn ?_
 refine cd rfl (fun c1 => ?_) (fun c1 => ?_)
 ·refine sr (s_lit (cs := [_]) evs_nil bo42 pok_nil rfl ?_)
  replace hb6 := hb6.ext q3
  refine s_storeBA rfl rfl hb6 rfl sz42 (fun w5 hb6 q5 z5 => ?_)
  refine asg rfl (nn (rt (tr (rCT Tryz.results25 rfl hb6 ag42 rfl ?_))))
  have he := stk_arg (m := m) (n := n) (up := up) h0 c1
  have hs : stackS m n up = [] := by rw [stackS, if_neg (by rw [he]; decide)]
  exact ⟨_, rfl, .slice none 0 0, by rw [he], by rw [hs]; exact OwR.nil _, (q1.z3 q2 q3 q5)⟩
 obtain ⟨n', rfl⟩ := Int.eq_ofNat_of_zero_le (show 0 ≤ n by omega)
 obtain ⟨u', rfl⟩ := Int.eq_ofNat_of_zero_le (show 0 ≤ up by omega)
 refine sk (tn (sq (sr (mv rfl (gt' rfl rfl (nn ?_))))))
 refine cd rfl (fun c2 => ?_) (fun c2 => ?_)
 ·refine sr (s_lit (cs := [_]) evs_nil bo42 pok_nil rfl ?_)
  replace hb6 := hb6.ext q3
  refine s_storeBA rfl rfl hb6 rfl sz42 (fun w6 hb6 q6 z6 => ?_)
  refine asg rfl (nn (rt (tr (rCT Tryz.results25 rfl hb6 ag42 rfl ?_))))
  have he := stk_up (m := m) (n := (n' : Int)) (up := (u' : Int)) h0 c1 c2
  have hs : stackS m n' u' = [] := by rw [stackS, if_neg (by rw [he]; decide)]
  exact ⟨_, rfl, .slice none 0 0, by rw [he], by rw [hs]; exact OwR.nil _, (q1.z3 q2 q3 q6)⟩
 refine sk (tn (sr ?_))
 replace hb3 := hb3.ext q3
 refine s_loadBA rfl hb3 ag46 (mv rfl ?_)
 replace hm := hm0.ext (q1.n2 q2 q3)
 refine cl (ev2 rfl rfl) co50 (block_ok m l t r n' _ hm h0 (by omega)) rfl ?_
 rintro _ w7 ⟨X32, rfl, hX, q7⟩
 have z7 := q7.size
 have hX0 := hX
 obtain ⟨AX, cX, rfl, _⟩ := hX.form
 refine mv rfl (xt rfl rfl (xt rfl rfl (al zv42 rfl rfl (fun g9 w8 hg9 hb9 q8 z8 => ?_))))
 refine s_storeBA rfl rfl hb9 rfl sz42 (fun w9 hb9 q9 z9 => ?_)
 refine asg rfl (kpL [(2, _), (6, _), (9, _), (10, _)] (.c4 rfl rfl rfl rfl) (nn (sq (sr (mv rfl (ne' rfl rfl (nn ?_)))))))
 refine cd rfl (fun c3 => ?_) (fun c3 => ?_)
 ·refine sr (s_lit (cs := [_]) evs_nil bo42 pok_nil rfl ?_)
  refine mv rfl ?_
  replace hb6 := (hb6.ext (q3.n2 q7 q8)).fr q9 (by simp[blks]<;>omega)
  refine s_storeBA rfl rfl hb6 rfl sz42 (fun w10 hb6 q10 z10 => ?_)
  refine asg rfl (kpL [(6, _), (7, _)] (.c2 rfl rfl) (nn (rt (tr (rCT Tryz.results25 rfl hb6 ag42 rfl ?_)))))
  have he := stk_blk (m := m) (n := (n' : Int)) (up := (u' : Int)) h0 c1 c3
  have hs : stackS m n' u' = [] := by rw [stackS, if_neg (by rw [he.1]; decide)]
  exact ⟨_, rfl, .slice none 0 0, by rw [he.1]; rw [show blkE m n' = 3 from he.2]; rfl, by rw [hs]; exact OwR.nil _, (q1.z6 q2 q3 q7 q8 q9 q10)⟩
 replace hX := hX0.ext (q8.z1 q9)
 have hb0 : blkE m n' = 0 := Classical.not_not.1 c3
 rw [if_pos hb0] at hX hX0 hb9
 refine sk (tn (sr (s_loadBA rfl hb9 ag42 (s_bslice ([((AX, (sideM m n').length, cX), sideM m n')]) (ev1 rfl) rfl rfl rfl el36 (Nat.le_of_ble_eq_true rfl) (fun g41 w11 hg41 ho41 q11 z11 => ?_)))))
 refine mv rfl ?_
 refine cl (ev2 rfl rfl) co52 (repeat_ok _ ((AX, (sideM m n').length, cX), sideM m n') u' _ ho41.sl (by omega)) rfl ?_
 rintro _ w12 ⟨ho43, q12⟩
 have z12 := q12.size
 replace hX := hX0.ext (q8.z3 q9 q11 q12)
 refine cl (ev1 rfl) co51 (above_ok _ (List.replicate u' ((AX, (sideM m n').length, cX), sideM m n')) _ ho43.sl (fun q hq => by rw [List.eq_of_mem_replicate hq]; exact hX.sll) (by rw [List.length_replicate]; omega)) rfl ?_
 rintro _ w13 ⟨X44, rfl, hY, q13⟩
 have z13 := q13.size
 have hY0 := hY
 obtain ⟨AY, cY, rfl, _⟩ := hY.form
 refine mv rfl (xt rfl rfl (xt rfl rfl (al zv42 rfl rfl (fun g11 w14 hg11 hb11 q14 z14 => ?_))))
 refine s_storeBA rfl rfl hb11 rfl sz42 (fun w15 hb11 q15 z15 => ?_)
 refine asg rfl (kpL [(6, _), (10, _), (11, _)] (.c3 rfl rfl rfl) (nn (sq (sr (mv rfl (ne' rfl rfl (nn ?_)))))))
 refine cd rfl (fun c4 => ?_) (fun c4 => ?_)
 ·have hab := stk_abv (s := (AX, (sideM m n').length, cX)) h0 c1 (show blkE m ((n' : Int).toNat) = 0 from hb0)
  refine sr (s_lit (cs := [_]) evs_nil bo42 pok_nil rfl ?_)
  refine mv rfl ?_
  replace hb6 := (((hb6.ext (q3.n2 q7 q8)).fr q9 (by simp[blks]<;>omega)).ext (q11.n3 q12 q13 q14)).fr q15 (by simp[blks]<;>omega)
  refine s_storeBA rfl rfl hb6 rfl sz42 (fun w16 hb6 q16 z16 => ?_)
  refine asg rfl (nn (rt (tr (rCT Tryz.results25 rfl hb6 ag42 rfl ?_))))
  have he := hab.2.1 c4
  have h3 : abvE (List.replicate u' ((AX, (sideM m n').length, cX), sideM m n')) = 3 := by have h1 : abvE (List.replicate u' ((AX, (sideM m n').length, cX), sideM m n')) = _ := hab.1; rw [h1]; rw [h1] at c4; split at c4; rw [if_pos (by assumption)]; exact absurd rfl c4
  have hs : stackS m n' u' = [] := by rw [stackS, if_neg (by rw [he]; decide)]
  exact ⟨_, rfl, .slice none 0 0, by rw [he, h3]; rfl, by rw [hs]; exact OwR.nil _, ((((q1.z6 q2 q3 q7 q8 q9 q11).n1 q12).n1 q13).z3 q14 q15 q16)⟩
 replace hY := hY0.fr ((Fr.refl [g6] _).z2 q14 q15) (by intro k hk; simp at hk; omega)
 have ha0 : abvE (List.replicate u' ((AX, (sideM m n').length, cX), sideM m n')) = 0 := Classical.not_not.1 c4
 have hab := (stk_abv (s := (AX, (sideM m n').length, cX)) h0 c1 (show blkE m ((n' : Int).toNat) = 0 from hb0)).2.2 ha0
 rw [if_pos ha0] at hY hY0 hb11
 have hfl : (List.replicate u' ((AX, (sideM m n').length, cX), sideM m n')).flatMap Prod.snd = stackM m n' u' := rep_flat _ _
 rw [hfl] at hY hY0 hb11
 refine sk (tn (sq (sr (s_loadBA rfl hb11 ag42 ?_))))
 refine cl (ev1 rfl) co53 (check_chart_ok _ (stackM m n' u') _ hY.sll) rfl ?_
 rintro _ w17 ⟨rfl, q17⟩
 have z17 := q17.size
 refine asg rfl (nn (sr (mv rfl (ne' rfl rfl (nn ?_)))))
 refine cd rfl (fun c5 => ?_) (fun c5 => ?_)
 ·refine sr (s_lit (cs := [_]) evs_nil bo42 pok_nil rfl ?_)
  refine mv rfl ?_
  replace hb6 := ((((hb6.ext (q3.n2 q7 q8)).fr q9 (by simp[blks]<;>omega)).ext (q11.n3 q12 q13 q14)).fr q15 (by simp[blks]<;>omega)).ext q17
  refine s_storeBA rfl rfl hb6 rfl sz42 (fun w18 hb6 q18 z18 => ?_)
  refine asg rfl (nn (rt (tr (rCT Tryz.results25 rfl hb6 ag42 rfl ?_))))
  have hs : stackS m n' u' = [] := by rw [stackS, if_neg (by rw [hab]; exact c5)]
  exact ⟨_, rfl, .slice none 0 0, by rw [hab]; rfl, by rw [hs]; exact OwR.nil _, ((((q1.z6 q2 q3 q7 q8 q9 q11).n1 q12).n1 q13).z4 q14 q15 q17 q18)⟩
 refine sk (tn (sr ?_))
 replace hb11 := hb11.ext q17
 refine s_loadBA rfl hb11 ag42 ?_
 replace hb6 := ((((hb6.ext (q3.n2 q7 q8)).fr q9 (by simp[blks]<;>omega)).ext (q11.n3 q12 q13 q14)).fr q15 (by simp[blks]<;>omega)).ext q17
 refine s_storeBA rfl rfl hb6 rfl sz42 (fun w19 hb6 q19 z19 => ?_)
 refine asg rfl (nn (rt (rCT Tryz.results25 rfl hb6 ag42 rfl ?_)))
 replace hY := hY0.fr ((Fr.refl [g6] _).z4 q14 q15 q17 q19) (by intro k hk; simp at hk; omega)
 have hz : stackE m n' u' = 0 := by rw [hab]; exact Classical.not_not.1 c5
 have hs : stackS m n' u' = stackM m n' u' := by rw [stackS, if_pos hz]; rfl
 exact ⟨_, rfl, .slice AY (stackM m n' u').length cY, by rw [hz], by rw [hs]; exact hY.low (by omega), ((((q1.z6 q2 q3 q7 q8 q9 q11).n1 q12).n1 q13).z4 q14 q15 q17 q19)⟩
end Go.Proofs.YthehggmdcmpjeaaGreatDoor
namespace Go.Proofs.YthehggmdcmpjeaaGreatDoor
open Go.Lw Go.G14
end Go.Proofs.YthehggmdcmpjeaaGreatDoor
namespace Go.Proofs.YthehggmdcmpjeaaGreatDoor
open Go.Lw Go.G14
theorem ag27 : AggOf Tryz.prog 27 2 := ⟨fun _ => by kernel_rfl, fun _ => by kernel_rfl⟩
theorem bo44 : BuildAt Tryz.prog 44 [(0, 1), (1, 1), (2, 1)] [(S []), (.slice none 0 0), (.int .i64 0)] := BuildAt.struct Tryz.underlying44 (fun _ => by kernel_rfl) (fun _ => by kernel_rfl)
theorem co8 : CallOf Tryz.prog 8 := mkC Tryz.func8
theorem co18 : CallOf Tryz.prog 18 := mkC Tryz.func18
theorem co23 : CallOf Tryz.prog 23 := mkC Tryz.func23
theorem co25 : CallOf Tryz.prog 25 := mkC Tryz.func25
theorem co64 : CallOf Tryz.prog 64 := mkC Tryz.func64
theorem el29 : ElemOf Tryz.prog 29 44 encIq 48 := ElemOf.mk' (z := (.agg #[(S []), (.slice none 0 0), (.int .i64 0)])) Tryz.underlying29 (by kernel_rfl) rfl
theorem sz44 : SizeOf Tryz.prog 44 3 := fun _ => by kernel_rfl
theorem zv44 (w : World) : (zeroValue 44).run Tryz.prog w = .ok (.agg #[(S []), (.slice none 0 0), (.int .i64 0)]) w := by kernel_rfl
set_option maxHeartbeats 2000000 in
theorem gmake_ok (nm : List UInt8) (v : Value) (qs : List PQ) (size : Int) (w0 : World) (hs : Sl encPq w0 v qs) (hq : PcsQ w0 qs) : Rets Tryz.prog 8 #[.agg #[S nm, v], .int .i64 size] w0 fun r w' => ∃ V its, r = .tuple #[V, .int .i64 (makeE nm (pcs qs) size)] ∧ Lw.Own encIq 44 w0.heap.size w' V its ∧ ItmO 88 91 w0.heap.size w' its ∧ (makeE nm (pcs qs) size ≠ 0 → V = .slice none 0 0 ∧ its = []) ∧ (makeE nm (pcs qs) size = 0 → (∃ A, V = .slice A qs.length qs.length) ∧ its.length = qs.length ∧ ∀ i, i < qs.length → itmOf size (qs.getD i pq0).p (its.getD i iq0)) ∧ Fr [] w0 w' := by
 obtain ⟨A, c, rfl, hcc, hM, hA⟩ := id hs
 clear hA
 unfold maxLen at hM
 refine we [(0, .agg #[S nm, .slice A qs.length c]), (1, .int .i64 size)] Tryz.func8 rfl Tryz.ntmps8 rfl (.c2 rfl rfl) ?_
 have hs0 := hs
 have hq0 := hq
 refine sr (bx rfl rfl rfl (fun g2 w1 hg2 hb2 q1 z1 => ?_))
 refine asg rfl (asg rfl (nn (sq (sr (s_loadBA rfl hb2 ag27 ?_)))))
 replace hs := hs0.ext q1
 replace hq := hq0.ext q1
 refine cl (ev1 rfl) co23 (gcheck_ok nm _ qs _ hs hq) rfl ?_
 rintro _ w2 ⟨rfl, q2⟩
 have z2 := q2.size
 refine asg rfl (nn (sr (mv rfl (ne' rfl rfl (nn ?_)))))
 refine cd rfl (fun c0 => ?_) (fun c0 => ?_)
 ·refine sr (mv rfl (asg rfl (asg rfl (nn (rt (tr (r2 Tryz.results8 rfl rfl ?_)))))))
  have he := make_a (nm := nm) (ps := pcs qs) (size := size) c0
  exact ⟨_, rfl, .slice none 0 0, [], by first | (rw [he]; done) | (rw [he]; rfl), Own.nil _, ItmO.nil, fun _ => ⟨rfl, rfl⟩, fun h => absurd h (by rw [he]; first | decide | assumption), (q1.n1 q2)⟩
 have hgr := gar_of (Classical.not_not.1 c0)
 rw [pcs_len] at hgr
 refine sk (tn (sq (sr (mv rfl ?_))))
 refine cl (ev3 rfl rfl rfl) co24 (within_ok _ _ _ _) rfl ?_
 rintro _ w3 ⟨rfl, q3⟩
 have z3 := q3.size
 refine nt' rfl (nn ?_)
 refine cd rfl (fun c1 => ?_) (fun c1 => ?_)
 ·refine sr (asg rfl (asg rfl (nn (rt (tr (r2 Tryz.results8 rfl rfl ?_))))))
  have he := make_b (nm := nm) (ps := pcs qs) (size := size) (Classical.not_not.1 c0) (by omega)
  exact ⟨_, rfl, .slice none 0 0, [], by first | (rw [he]; done) | (rw [he]; rfl), Own.nil _, ItmO.nil, fun _ => ⟨rfl, rfl⟩, fun h => absurd h (by rw [he]; first | decide | assumption), (q1.n2 q2 q3)⟩
 refine sk (tn (sr (fad rfl fa27_1 ?_)))
 replace hb2 := hb2.ext (q2.n1 q3)
 refine s_loadB rfl hb2 rfl na25 (lnS rfl Tryz.underlying25 ?_)
 refine s_makeSlice (m := qs.length) (c := qs.length) (iq0) rfl rfl el29 zv44 rfl (Nat.le_refl _) (by unfold maxLen; omega) (fun g23 w4 hg23 hoI q4 z4 => ?_)
 refine asg rfl (nn (sq (sr (fad rfl fa27_1 ?_))))
 replace hb2 := hb2.ext q4
 refine s_loadB rfl hb2 rfl na25 (lnS rfl Tryz.underlying25 (mv rfl (nn (bl ?_))))
 refine lpK (ι := Nat × List IQ) [(1, _), (7, _), (25, _), (26, _)] (fun p => [(27, .int .i64 (p.1 : Int))]) (fun p w' => Fr [g23] w4 w' ∧ (p.1 ≤ qs.length ∧ p.2.length = p.1) ∧ (∀ j, j < p.1 → itmOf size (qs.getD j pq0).p (p.2.getD j iq0)) ∧ (∀ j, j < p.1 → stackE (qs.getD j pq0).p.mot (tiles (qs.getD j pq0).p size) (qs.getD j pq0).p.up = 0) ∧ Lw.Own encIq 44 g23 w' (.slice (some ⟨g23, 0, none⟩) qs.length qs.length) (p.2 ++ List.replicate (qs.length - p.1) iq0) ∧ ItmO 88 91 (g23 + 1) w' p.2) (fun p => qs.length - p.1) (0, []) (.c5 rfl rfl rfl rfl rfl) ⟨Fr.refl _ _, ⟨⟨Nat.zero_le _, rfl⟩, fun j hj => absurd hj (Nat.not_lt_zero j), fun j hj => absurd hj (Nat.not_lt_zero j), hoI, ItmO.nil⟩⟩ ?_
 rintro ⟨i, its⟩ w5 ⟨q5, ⟨⟨hi, hil⟩, hit, hst, hoI, hio⟩⟩
 simp only at hi hil hit hst hoI hio
 have z5 := q5.size
 have hio0 := hio
 refine kpC [(1, _), (7, _), (25, _), (26, _), (27, .int .i64 (i : Int))] (.c5 rfl rfl rfl rfl rfl) ?_
 refine sr (lt' rfl rfl (nn (sq ?_)))
 refine cd rfl (fun c2 => ?_) (fun c2 => ?_)
 ·have htr := tiles_rng (p := (qs.getD i pq0).p) (size := size) (hgr.2.2.2.1 _ (List.mem_map.2 ⟨_, getD_memS (d := pq0) (show i < qs.length by omega), rfl⟩)) (by omega) (by omega)
  have hup := right_of (hgr.2.2.2.1 _ (List.mem_map.2 ⟨_, getD_memS (d := pq0) (show i < qs.length by omega), rfl⟩))
  refine sk (tn (sq (bl (sr (mv rfl ?_)))))
  replace hs := hs0.ext (q1.z4 q2 q3 q4 q5)
  refine s_idxL (pq0) rfl hs rfl el25 nat_of (fun ad30 hc30 => ?_)
  refine s_loadA rfl (hc30 _ hs) ag48 (al zv48 rfl rfl (fun g9 w6 hg9 hb9 q6 z6 => ?_))
  refine asg rfl (s_storeBA rfl rfl hb9 rfl sz48 (fun w7 hb9 q7 z7 => ?_))
  refine nn (sr (fad rfl fa48_1 (s_loadBP (vs := [_, _, _]) rfl hb9 ag46 rfl (fad rfl fa48_2 (s_loadB rfl hb9 rfl na3 (mv rfl (fad rfl fa48_3 (s_loadB rfl hb9 rfl na3 (s_mul rfl rfl (wi6 (by omega)) (s_add rfl rfl (wi6 (by omega)) (fad rfl fa48_4 ?_)))))))))))
  refine s_loadB rfl hb9 rfl na3 ?_
  replace hq := hq0.ext (q1.z6 q2 q3 q4 q5 q6 q7)
  refine cl (ev3 rfl rfl rfl) co25 (stack_ok (qs.getD i pq0).p.mot _ _ _ (tiles (qs.getD i pq0).p size) (qs.getD i pq0).p.up _ (hq.at (by omega))) rfl ?_
  rintro _ w8 ⟨X44, rfl, hX, q8⟩
  have z8 := q8.size
  have hX0 := hX
  obtain ⟨AX, cX, rfl, _⟩ := hX.form
  refine mv rfl (xt rfl rfl (xt rfl rfl (al zv42 rfl rfl (fun g10 w9 hg10 hb10 q9 z9 => ?_))))
  refine s_storeBA rfl rfl hb10 rfl sz42 (fun w10 hb10 q10 z10 => ?_)
  refine asg rfl (kpL [(1, _), (7, _), (8, _), (9, _), (10, _), (11, _), (25, _), (26, _), (27, _)] (.d8 rfl rfl rfl rfl rfl rfl rfl rfl (.cons rfl .nil)) (nn (sq (sr (mv rfl (ne' rfl rfl (nn ?_)))))))
  refine cd rfl (fun c3 => ?_) (fun c3 => ?_)
  ·refine sr (mv rfl (asg rfl (asg rfl (kpL [(4, _), (5, _)] (.c2 rfl rfl) (nn (rt (tr (rb (tr (tr (rb ?_)))))))))))
   refine tr (r2 Tryz.results8 rfl rfl ?_)
   have he := (make_c (nm := nm) (ps := pcs qs) (size := size) (Classical.not_not.1 c0) (by omega)).trans (charts_at (i := i) (by omega) hst c3)
   exact ⟨_, rfl, .slice none 0 0, [], by first | (rw [he]; done) | (rw [he]; rfl), Own.nil _, ItmO.nil, fun _ => ⟨rfl, rfl⟩, fun h => absurd h (by rw [he]; first | decide | assumption), ((((q1.z6 q2 q3 q4 q5 q6 q7).n1 q8).n1 q9).z1 q10)⟩
  have hz : (stackE (qs.getD i pq0).p.mot (tiles (qs.getD i pq0).p size) (qs.getD i pq0).p.up) = 0 := Classical.not_not.1 c3
  refine sk (tn (rg (mv rfl (mv rfl (fad rfl fa48_0 ?_)))))
  replace hb9 := (hb9.ext (q8.n1 q9)).fr q10 (by simp[blks]<;>omega)
  refine s_loadB rfl hb9 rfl na9 (s_loadBA rfl hb10 ag42 (fad rfl fa48_5 (s_loadB rfl hb9 rfl na3 (s_lit (cs := [_, _, _]) (ev3 rfl rfl rfl) bo44 (pok_cons rfl rfl rfl (pok_cons rfl rfl rfl (pok_cons rfl rfl rfl pok_nil))) rfl ?_))))
  replace hoI := (((hoI.ext q6).fr q7 (by first|exact nfl_ hoI (by omega)|simp[blks]<;>omega)).ext (q8.n1 q9)).fr q10 (by first|exact nfl_ hoI (by omega)|simp[blks]<;>omega)
  refine s_ixs (p := i) ((⟨(qs.getD i pq0).p.nm, (AX, (stackS (qs.getD i pq0).p.mot (tiles (qs.getD i pq0).p size) (qs.getD i pq0).p.up).length, cX), (qs.getD i pq0).p.ct, (stackS (qs.getD i pq0).p.mot (tiles (qs.getD i pq0).p size) (qs.getD i pq0).p.up)⟩ : IQ)) rfl hoI rfl rfl (by intro e; cases e) el29 sz44 rfl (by first | omega | (simp only [List.length_append, List.length_replicate, List.length_cons, List.length_nil]; omega)) rfl (fun w11 hoI q11 z11 => ?_)
  replace q11 : Fr [g23] _ _ := q11
  rw [show qs.length - i = (qs.length - (i + 1)) + 1 by omega, ← hil, set_at, hil] at hoI
  refine kpL [(1, _), (7, _), (25, _), (26, _), (27, _)] (.c5 rfl rfl rfl rfl rfl) (nl (bn' (tn (rg (s_add rfl rfl (wi6 (by omega)) (mv rfl (nl ?_)))))))
  replace hio := hio0.fr ((Fr.refl [g23] _).z6 q6 q7 q8 q9 q10 q11) (by intro k hk; simp at hk; omega)
  replace hX := hX0.fr ((Fr.refl [g23] _).z3 q9 q10 q11) (by intro k hk; simp at hk; omega)
  exact lpE ((i + 1, its ++ [(⟨(qs.getD i pq0).p.nm, (AX, (stackS (qs.getD i pq0).p.mot (tiles (qs.getD i pq0).p size) (qs.getD i pq0).p.up).length, cX), (qs.getD i pq0).p.ct, (stackS (qs.getD i pq0).p.mot (tiles (qs.getD i pq0).p size) (qs.getD i pq0).p.up)⟩ : IQ)])) (.c5 rfl rfl rfl rfl rfl) ⟨(((Fr.refl [g23] _).z6 q5 q6 q7 q8 q9 q10).z1 q11), ⟨⟨by simp only; omega, by simp only [List.length_append, List.length_singleton]; omega⟩, itm_snoc hil hit ⟨rfl, rfl, by show stackS _ _ _ = _; rw [stackS, if_pos hz]; rfl⟩, all_step hst hz, hoI, hio.snoc (hX.low (by omega))⟩⟩ (by simp only; omega)
 obtain rfl : i = qs.length := by omega
 rw [Nat.sub_self, List.replicate_zero, List.append_nil] at hoI
 refine ex (te (te (xh (tn (sr (mv rfl (asg rfl (asg rfl (kpL [(4, _), (5, _)] (.c2 rfl rfl) (nn (rt ?_)))))))))))
 refine r2 Tryz.results8 rfl rfl ?_
 have he := (make_c (nm := nm) (ps := pcs qs) (size := size) (Classical.not_not.1 c0) (by omega)).trans (charts_no hst)
 exact ⟨_, rfl, _, its, by first | (rw [he]; done) | (rw [he]; rfl), by rw [← hil] at hoI ⊢; exact hoI.low (by omega), hio.low (by omega), fun h => absurd he h, fun _ => ⟨⟨_, rfl⟩, hil, hit⟩, (q1.z4 q2 q3 q4 q5)⟩
theorem clipi_ok (A : Option Addr) (m c : Nat) (w0 : World) (hc : m ≤ c) : Rets Tryz.prog 64 #[.slice A m c] w0 fun v w' => v = .slice A m m ∧ w0 = w' := by
 refine we [(0, .slice A m c)] Tryz.func64 rfl Tryz.ntmps64 rfl (.cons rfl .nil) ?_
 refine sr (asg rfl (nn (sr (mv rfl (mv rfl (lnS rfl Tryz.underlying33 (mv rfl (lnS rfl Tryz.underlying33 (s_sl_hm rfl rfl rfl el33 nat_of nat_of rfl (asg rfl (kpL [(2, _)] (.cons rfl .nil) ?_)))))))))))
 refine nn (rt (r1 Tryz.results64 rfl ?_))
 exact ⟨_, rfl, rfl, rfl⟩
set_option maxHeartbeats 1000000 in
theorem sizes_ok (nm : List UInt8) (v : Value) (qs : List PQ) (w0 : World) (hs : Sl encPq w0 v qs) (hq : PcsQ w0 qs) : Rets Tryz.prog 32 #[.agg #[S nm, v]] w0 fun r w' => ∃ A, r = .slice A (sizesTo nm (pcs qs) 10).length (sizesTo nm (pcs qs) 10).length ∧ Lw.Own Enc.i64 3 w0.heap.size w' r (sizesTo nm (pcs qs) 10) ∧ Fr [] w0 w' := by
 obtain ⟨A, c, rfl, hcc, hM, hA⟩ := id hs
 clear hA
 unfold maxLen at hM
 refine we [(0, .agg #[S nm, .slice A qs.length c])] Tryz.func32 rfl Tryz.ntmps32 rfl (.cons rfl .nil) ?_
 have hs0 := hs
 have hq0 := hq
 refine sr (bx rfl rfl rfl (fun g1 w1 hg1 hb1 q1 z1 => ?_))
 refine asg rfl (nn (sr (asg rfl (nn (sq (sr (mv rfl (nn (bl ?_)))))))))
 skip
 have hb10 := hb1
 skip
 refine lpK (ι := Nat × Value) [(1, _)] (fun p => [(7, .int .i64 (p.1 : Int)), (3, p.2)]) (fun p w' => Fr [] w1 w' ∧ p.1 ≤ 10 ∧ Lw.Own Enc.i64 3 (g1 + 1) w' p.2 (sizesTo nm (pcs qs) p.1)) (fun p => 10 - p.1) (0, .slice none 0 0) (.c3 rfl rfl rfl) ⟨(Fr.refl _ _), ⟨Nat.zero_le _, Own.nil _⟩⟩ ?_
 rintro ⟨i, vO⟩ w2 ⟨q2, ⟨hi, hoI⟩⟩
 simp only at hi hoI
 have z2 := q2.size
 refine kpC [(1, _), (7, .int .i64 (i : Int)), (3, vO)] (.c3 rfl rfl rfl) ?_
 refine sr (lt' rfl rfl (nn (sq ?_)))
 refine cd rfl (fun c0 => ?_) (fun c0 => ?_)
 ·have hzl := sizes_len nm (pcs qs) i
  refine sk (tn (sq (bl (sr (mv rfl (asg rfl (nn (sr ?_))))))))
  replace hb1 := hb10.ext q2
  refine s_loadBA rfl hb1 ag27 (mv rfl ?_)
  replace hs := hs0.ext (q1.n1 q2)
  replace hq := hq0.ext (q1.n1 q2)
  refine cl (ev2 rfl rfl) co8 (gmake_ok nm _ qs (i : Int) _ hs hq) rfl ?_
  rintro _ w3 ⟨V13, its, rfl, -, -, -, -, q3⟩
  have z3 := q3.size
  refine mv rfl (xt rfl rfl (xt rfl rfl (asg rfl (asg rfl (kpL [(1, _), (3, _), (4, _), (6, _), (7, _)] (.c5 rfl rfl rfl rfl rfl) (nn (sr (mv rfl (eq' rfl rfl (nn ?_))))))))))
  refine cd rfl (fun c1 => ?_) (fun c1 => ?_)
  ·refine rg (mv rfl (mv rfl (s_bslice ([(i : Int)]) (ev1 rfl) rfl rfl rfl el33 (Nat.le_of_ble_eq_true rfl) (fun g20 w4 hg20 ho20 q4 z4 => ?_))))
   replace hoI := hoI.ext (q3.n1 q4)
   have hoo21 := hoI
   refine s_append rfl rfl hoI ho20.sl el33 (fun v21 w5 hoI q5 hor21 => ?_)
   have z5 := q5.size
   refine asg rfl (kpL [(1, _), (3, _), (7, _)] (.c3 rfl rfl rfl) (nl (bn' (tn (rg (s_add rfl rfl (wi6 (by omega)) (mv rfl (nl ?_))))))))
   exact lpE ((i + 1, v21)) (.c3 rfl rfl rfl) ⟨((q2.n2 q3 q4).step q5 (fun k hk hlt => absurd (hoo21.blk k hk).1 (by omega))), ⟨by simp only; omega, by rw [sizes_yes c1]; exact hoI⟩⟩ (by simp only; omega)
  refine sk (bn' (tn (rg (s_add rfl rfl (wi6 (by omega)) (mv rfl (nl ?_))))))
  replace hoI := hoI.ext q3
  exact lpE ((i + 1, vO)) (.c3 rfl rfl rfl) ⟨(q2.n1 q3), ⟨by simp only; omega, by rw [sizes_no c1]; exact hoI⟩⟩ (by simp only; omega)
 obtain rfl : i = 10 := by omega
 obtain ⟨AI, cI, rfl, hcI⟩ := hoI.sl.form
 refine ex (te (te (xh (tn (sr (mv rfl ?_))))))
 refine cl (ev1 rfl) co64 (clipi_ok AI _ cI _ hcI) rfl ?_
 rintro _ _ ⟨rfl, rfl⟩
 refine asg rfl (kpL [(2, _)] (.cons rfl .nil) (nn (rt (r1 Tryz.results32 rfl ?_))))
 exact ⟨_, rfl, AI, rfl, by have := hoI.take rfl (Nat.le_refl _) hcI (Nat.le_refl _); rw [List.take_length] at this; exact this.low (by omega), (q1.n1 q2)⟩
end Go.Proofs.YthehggmdcmpjeaaGreatDoor
namespace Go.G14
open Go.Lw
def tbl (F : Int → Int) : List Int := (List.range 6).map fun y : Nat => F ((y : Int) + 1)
theorem tbl_len (F : Int → Int) : (tbl F).length = 6 := by simp [tbl]
theorem tbl_congr {F G : Int → Int} (h : ∀ y, 1 ≤ y → y ≤ 6 → F y = G y) : tbl F = tbl G := by
 unfold tbl
 refine List.map_congr_left fun y hy => h _ (by omega) ?_
 have := List.mem_range.1 hy; omega
theorem tbl_get (F : Int → Int) {k : Int} (h1 : 1 ≤ k) (h6 : k ≤ 6) : (tbl F).getD (k - 1).toNat 0 = F k := by
 obtain ⟨n, rfl⟩ : ∃ n : Nat, k = (n : Int) + 1 := ⟨(k - 1).toNat, by omega⟩
 rw [show ((n : Int) + 1 - 1).toNat = n by omega]
 exact tab_get (fun y : Nat => F ((y : Int) + 1)) (show n < 6 by omega)
theorem tbl_add (F : Int → Int) {k : Int} (h1 : 1 ≤ k) (h6 : k ≤ 6) (z : Int) : (tbl F).set (k - 1).toNat (F k + z) = tbl fun y => F y + if k = y then z else 0 := by
 obtain ⟨n, rfl⟩ : ∃ n : Nat, k = (n : Int) + 1 := ⟨(k - 1).toNat, by omega⟩
 rw [show ((n : Int) + 1 - 1).toNat = n by omega]
 refine (tab_add (fun y : Nat => F ((y : Int) + 1)) 6 n z (by omega)).trans ?_
 unfold tbl
 refine List.map_congr_left fun y _ => ?_
 show F _ + _ = F _ + _
 by_cases e : y = n
 ·subst e; rw [if_pos rfl, if_pos rfl]
 rw [if_neg e, if_neg (by omega)]
def cnt1 (c : RowL) (y : Int) : Int := 0 + if firstY (c.getD 0 []) = y then needsR (c.getD 0 []) else 0
def cnt2 (c : RowL) (y : Int) : Int := cnt1 c y + if firstY (c.getD (c.length - 1) []) = y then makesR (c.getD (c.length - 1) []) else 0
def cnt3 (c : RowL) (i : Nat) (y : Int) : Int := cnt2 c y + ((c.take i).map (rowC y)).sum
def cnt4 (c : RowL) (i j : Nat) (y : Int) : Int := cnt3 c i y + rowC y ((c.getD i []).take j)
theorem cnt_all (c : RowL) (y : Int) : cnt3 c c.length y = cntY c y := by
 unfold cnt3 cnt2 cnt1 cntY; rw [List.take_length]; omega
theorem cnt3_zero (c : RowL) : tbl (cnt3 c 0) = tbl (cnt2 c) := tbl_congr fun y _ _ => by simp [cnt3]
theorem cnt4_zero (c : RowL) (i : Nat) : tbl (cnt4 c i 0) = tbl (cnt3 c i) := tbl_congr fun y _ _ => by simp [cnt4, rowC]
theorem cnt4_all {c : RowL} {i j : Nat} (h : i < c.length) (hj : (c.getD i []).length ≤ j) : tbl (cnt4 c i j) = tbl (cnt3 c (i + 1)) := tbl_congr fun y _ _ => by
 unfold cnt4 cnt3
 rw [List.take_of_length_le hj, take_one c i [] h, List.map_append, List.sum_append]
 simp only [List.map_cons, List.map_nil, List.sum_cons, List.sum_nil]; omega
theorem rowC_succ {r : List Stitch} {j : Nat} (h : j < r.length) (y : Int) : rowC y (r.take (j + 1)) = rowC y (r.take j) + if (r.getD j zeroS).k ≠ 7 ∧ (r.getD j zeroS).y = y then makesS (r.getD j zeroS) else 0 := by
 unfold rowC
 rw [take_one r j zeroS h, List.map_append, List.sum_append]
 simp only [List.map_cons, List.map_nil, List.sum_cons, List.sum_nil]; omega
theorem cnt4_skip {c : RowL} {i j : Nat} (h : j < (c.getD i []).length) (h7 : ((c.getD i []).getD j zeroS).k = 7) : tbl (cnt4 c i (j + 1)) = tbl (cnt4 c i j) := tbl_congr fun y _ _ => by
 unfold cnt4; rw [rowC_succ h, if_neg (fun e => e.1 h7)]; omega
theorem cnt4_step {c : RowL} {i j : Nat} (h : j < (c.getD i []).length) (h7 : ¬ ((c.getD i []).getD j zeroS).k = 7) (h1 : 1 ≤ ((c.getD i []).getD j zeroS).y) (h6 : ((c.getD i []).getD j zeroS).y ≤ 6) :
    (tbl (cnt4 c i j)).set (((c.getD i []).getD j zeroS).y - 1).toNat (cnt4 c i j ((c.getD i []).getD j zeroS).y + makesS ((c.getD i []).getD j zeroS)) = tbl (cnt4 c i (j + 1)) := by
  rw [tbl_add _ h1 h6]
  refine tbl_congr fun y _ _ => ?_
  unfold cnt4
  rw [rowC_succ h]
  by_cases e : ((c.getD i []).getD j zeroS).y = y
  · rw [if_pos e, if_pos ⟨h7, e⟩]; omega
  · rw [if_neg e, if_neg (fun q => e q.2)]; omega
theorem first_rng {r : List Stitch} (h : rowE r = 0) : 1 ≤ firstY r ∧ firstY r ≤ 6 := by
 obtain ⟨_, h1, ha, _⟩ := row_ok_of h
 obtain ⟨⟨s, hs, e⟩, _⟩ := first_spec (r := r) (fun e => by subst e; simp at h1)
 have := check_rng ((okB_iff s).1 (List.all_eq_true.1 ha s hs))
 omega
theorem rows_good {c : RowL} (h : chartE c = 0) : (1 ≤ c.length ∧ c.length ≤ 31) ∧ ∀ i, i < c.length → rowE (c.getD i []) = 0 := by
 have h0 : rowsE c = 0 := Classical.not_not.1 fun e => e (chart_bad rfl e ▸ h)
 obtain ⟨a, b, d, _⟩ := rows_of h0
 exact ⟨by omega, fun i hi => d i _ (by rw [List.getD, List.getElem?_eq_getElem hi]; rfl)⟩
theorem sum_le_of {α : Type} {f : α → Int} {b : Int} : ∀ {l : List α}, (∀ x ∈ l, 0 ≤ f x ∧ f x ≤ b) → 0 ≤ (l.map f).sum ∧ (l.map f).sum ≤ l.length * b
 | [], _ => by simp
 | x :: xs, h => by
  have h1 := h x (by simp)
  have ih := sum_le_of (f := f) (b := b) (l := xs) fun y hy => h y (by simp [hy])
  rw [List.map_cons, List.sum_cons, List.length_cons, Int.natCast_succ, Int.add_mul]
  omega
theorem rowC_le {r : List Stitch} (h : rowE r = 0) (y : Int) (j : Nat) : 0 ≤ rowC y (r.take j) ∧ rowC y (r.take j) ≤ 64 := by
 have h1 := (row_ok_of h).1
 have := rowC_pos y (r.take j)
 have h2 : (r.take j).length ≤ 16 := by rw [List.length_take]; omega
 omega
theorem mem_at {α : Type} {l : List α} {x d : α} (h : x ∈ l) : ∃ i, i < l.length ∧ l.getD i d = x := by
 obtain ⟨i, hi⟩ := List.getElem?_of_mem h
 exact ⟨i, (List.getElem?_eq_some_iff.1 hi).1, by rw [List.getD, hi]; rfl⟩
theorem cnt3_le {c : RowL} (h : chartE c = 0) (i : Nat) (y : Int) : 0 ≤ cnt3 c i y ∧ cnt3 c i y ≤ 2100 := by
 obtain ⟨⟨l1, l2⟩, hr⟩ := rows_good h
 have a := row_ok_of (hr 0 (by omega)); have b := row_ok_of (hr (c.length - 1) (by omega))
 have hs : ∀ x ∈ c.take i, 0 ≤ rowC y x ∧ rowC y x ≤ 64 := fun x hx => by
  obtain ⟨k, hk, e⟩ := mem_at (d := []) (List.mem_of_mem_take hx)
  have := rowC_le (hr k hk) y (c.getD k []).length
  rwa [List.take_length, e] at this
 have hq := sum_le_of hs
 have hl : (c.take i).length ≤ 31 := by rw [List.length_take]; omega
 unfold cnt3 cnt2 cnt1
 split <;> split <;> omega
theorem cnt4_le {c : RowL} (h : chartE c = 0) {i : Nat} (hi : i < c.length) (j : Nat) (y : Int) : 0 ≤ cnt4 c i j y ∧ cnt4 c i j y ≤ 2200 := by
 have a := cnt3_le h i y
 have b := rowC_le ((rows_good h).2 i hi) y j
 unfold cnt4; omega
theorem cnt1_le {c : RowL} (h : chartE c = 0) (y : Int) : 0 ≤ cnt1 c y ∧ cnt1 c y ≤ 16 := by
 obtain ⟨⟨l1, l2⟩, hr⟩ := rows_good h
 have a := row_ok_of (hr 0 (by omega))
 unfold cnt1; split <;> omega
theorem cnt_le {c : RowL} (h : chartE c = 0) (y : Int) : 0 ≤ cntY c y ∧ cntY c y ≤ 2100 := by rw [← cnt_all]; exact cnt3_le h _ y
theorem first_succ {r : List Stitch} {j : Nat} (h1 : 1 ≤ j) (h : j < r.length) : firstY (r.take (j + 1)) = min (firstY (r.take j)) (r.getD j zeroS).y := by
 match r, h with
 | x :: xs, h =>
  obtain ⟨k, rfl⟩ : ∃ k, j = k + 1 := ⟨j - 1, by omega⟩
  have hk : k < xs.length := by simpa using h
  have hg : ((x :: xs).getD (k + 1) zeroS) = xs[k] := by rw [List.getD, List.getElem?_cons_succ, List.getElem?_eq_getElem hk]; rfl
  rw [hg]
  show (xs.take (k + 1)).foldl _ x.y = min ((xs.take k).foldl _ x.y) _
  rw [List.take_add_one, List.getElem?_eq_getElem hk, List.foldl_append]; rfl
theorem first_self {r : List Stitch} (h : 1 ≤ r.length) : firstY (r.take 1) = (r.getD 0 zeroS).y := by
 match r, h with
 | x :: xs, _ => rfl
def gsum (ps : List Pc) (size : Int) (k : Nat) (y : Int) : Int := ((ps.take k).map fun p => p.ct * cntY (chartP size p) y).sum
theorem gsum_succ {ps : List Pc} {k : Nat} {p : Pc} (h : ps[k]? = some p) (size y : Int) : gsum ps size (k + 1) y = gsum ps size k y + p.ct * cntY (chartP size p) y := by
 unfold gsum; rw [List.take_add_one, h]; simp
theorem need_eq (ps : List Pc) (size : Int) : needL ps size = tbl (gsum ps size ps.length) := by
 unfold needL tbl
 refine List.map_congr_left fun y _ => ?_
 unfold needY gsum; rw [List.take_length]; rfl
def gmix (ps : List Pc) (size : Int) (k z : Nat) (y : Int) : Int := if y ≤ z then gsum ps size (k + 1) y else gsum ps size k y
theorem gmix_zero (ps : List Pc) (size : Int) (k : Nat) : tbl (gmix ps size k 0) = tbl (gsum ps size k) := tbl_congr fun y h _ => by unfold gmix; rw [if_neg (by omega)]
theorem gmix_all (ps : List Pc) (size : Int) (k : Nat) : tbl (gmix ps size k 6) = tbl (gsum ps size (k + 1)) := tbl_congr fun y _ h => by unfold gmix; rw [if_pos (by omega)]
theorem gmix_step {ps : List Pc} {size : Int} {k z : Nat} {p : Pc} (h : ps[k]? = some p) (hz : z < 6) :
    (tbl (gmix ps size k z)).set z (gsum ps size k ((z : Int) + 1) + p.ct * cntY (chartP size p) ((z : Int) + 1)) = tbl (gmix ps size k (z + 1)) := by
  apply List.ext_getElem?
  intro i
  unfold tbl
  rw [List.getElem?_set]
  by_cases e : z = i
  · subst e
    rw [if_pos rfl, if_pos (by simpa using hz), List.getElem?_map, List.getElem?_range hz]
    simp only [Option.map_some, gmix]
    rw [if_pos (by omega), gsum_succ h]
  · rw [if_neg e, List.getElem?_map, List.getElem?_map]
    by_cases hi : i < 6
    · rw [List.getElem?_range hi]; simp only [Option.map_some, gmix]
      by_cases h1 : i < z
      · rw [if_pos (by omega), if_pos (by omega)]
      · rw [if_neg (by omega), if_neg (by omega)]
    · rw [List.getElem?_eq_none (by simpa using hi)]; rfl
theorem tbl_at (F : Int → Int) {z : Nat} (hz : z < 6) : (tbl F).getD z 0 = F ((z : Int) + 1) := tab_get (fun y : Nat => F ((y : Int) + 1)) hz
theorem gsum_le {ps : List Pc} {size : Int} (h : ∀ p ∈ ps, (0 ≤ p.ct ∧ p.ct ≤ 9) ∧ chartE (chartP size p) = 0) (k : Nat) (y : Int) : 0 ≤ gsum ps size k y ∧ gsum ps size k y ≤ ((ps.take k).length : Int) * 18900 := by
 refine sum_le_of (f := fun p => p.ct * cntY (chartP size p) y) fun p hp => ?_
 obtain ⟨⟨a, b⟩, c⟩ := h p (List.mem_of_mem_take hp)
 have d := cnt_le c y
 have e1 := Int.mul_nonneg a d.1
 have e2 := Int.mul_le_mul b d.2 d.1 (by omega : (0:Int) ≤ 9)
 omega
theorem pc_mul {a b : Int} (h1 : 0 ≤ a ∧ a ≤ 9) (h2 : 0 ≤ b ∧ b ≤ 2100) : 0 ≤ a * b ∧ a * b ≤ 18900 := by
 have e1 := Int.mul_nonneg h1.1 h2.1
 have e2 := Int.mul_le_mul h1.2 h2.2 h2.1 (by omega : (0:Int) ≤ 9)
 omega
theorem arr_ld (F : Int → Int) {k : Int} (h1 : 1 ≤ k) (h6 : k ≤ 6) : (ivs (tbl F))[(k - 1).toNat * 1]? = some (.int .i64 (F k)) := by
 rw [Nat.mul_one, ivs_get (by rw [tbl_len]; omega), tbl_get F h1 h6]
theorem arr_z (F : Int → Int) {z : Nat} (hz : z < 6) : (ivs (tbl F))[((z : Int)).toNat * 1]? = some (.int .i64 (F ((z : Int) + 1))) := by
 rw [Nat.mul_one, Int.toNat_natCast, ivs_get (by rw [tbl_len]; omega), tbl_at F hz]
theorem arr_lt (F : Int → Int) {k : Int} (h6 : k ≤ 6) : Nat.blt ((k - 1).toNat * 1) (ivs (tbl F)).length = true := by
 rw [Nat.blt_eq, ivs_len, tbl_len]; omega
theorem arr_zt (F : Int → Int) {z : Nat} (hz : z < 6) : Nat.blt ((z : Int).toNat * 1) (ivs (tbl F)).length = true := by
 rw [Nat.blt_eq, ivs_len, tbl_len]; omega
theorem arr1 {c : RowL} {r : List Stitch} (hr : c.getD 0 [] = r) (h : rowE r = 0) : (ivs (tbl fun _ => 0)).set ((firstY r - 1).toNat * 1) (.int .i64 (0 + needsR r)) = ivs (tbl (cnt1 c)) := by
 subst hr
 obtain ⟨a, b⟩ := first_rng h
 rw [Nat.mul_one, ivs_set, tbl_add (fun _ => 0) a b]; rfl
theorem arr2 {c : RowL} {r : List Stitch} (hr : c.getD (c.length - 1) [] = r) (h : rowE r = 0) : (ivs (tbl (cnt1 c))).set ((firstY r - 1).toNat * 1) (.int .i64 (cnt1 c (firstY r) + makesR r)) = ivs (tbl (cnt2 c)) := by
 subst hr
 obtain ⟨a, b⟩ := first_rng h
 rw [Nat.mul_one, ivs_set, tbl_add (cnt1 c) a b]; rfl
theorem arr4 {c : RowL} {i j : Nat} {r : List Stitch} (hr : c.getD i [] = r) (h : j < r.length) (h7 : ¬ (r.getD j zeroS).k = 7) (h1 : 1 ≤ (r.getD j zeroS).y) (h6 : (r.getD j zeroS).y ≤ 6) :
    (ivs (tbl (cnt4 c i j))).set (((r.getD j zeroS).y - 1).toNat * 1) (.int .i64 (cnt4 c i j (r.getD j zeroS).y + makesS (r.getD j zeroS))) = ivs (tbl (cnt4 c i (j + 1))) := by
  subst hr
  rw [Nat.mul_one, ivs_set, cnt4_step h h7 h1 h6]
theorem arr4s {c : RowL} {i j : Nat} {r : List Stitch} (hr : c.getD i [] = r) (h : j < r.length) (h7 : (r.getD j zeroS).k = 7) : tbl (cnt4 c i (j + 1)) = tbl (cnt4 c i j) := by
 subst hr
 exact cnt4_skip h h7
theorem arrG {ps : List Pc} {size : Int} {k z : Nat} {p : Pc} (h : ps[k]? = some p) (hz : z < 6) :
    (ivs (tbl (gmix ps size k z))).set ((z : Int).toNat * 1) (.int .i64 (gmix ps size k z ((z : Int) + 1) + p.ct * cntY (chartP size p) ((z : Int) + 1))) = ivs (tbl (gmix ps size k (z + 1))) := by
  rw [Nat.mul_one, Int.toNat_natCast, ivs_set, show gmix ps size k z ((z : Int) + 1) = gsum ps size k ((z : Int) + 1) from if_neg (by omega), gmix_step h hz]
theorem first_max {r : List Stitch} {i : Nat} (h : i < r.length) : min (firstY (r.take (max i 1))) (r.getD i zeroS).y = firstY (r.take (max (i + 1) 1)) := by
 rcases Nat.eq_zero_or_pos i with rfl | h0
 ·show min (firstY (r.take 1)) _ = firstY (r.take 1)
  rw [first_self (by omega)]; omega
 rw [show max i 1 = i by omega, show max (i + 1) 1 = i + 1 by omega, first_succ h0 h]
theorem first_zero {r : List Stitch} (h : ¬ r.length = 0) : (r.getD 0 zeroS).y = firstY (r.take (max 0 1)) := (first_self (by omega)).symm
theorem gd_rows {c : RowL} {rs : List RQ} (h : rs.map Prod.snd = c) {i : Nat} (hi : i < rs.length) : c.getD i [] = (rs.getD i rq0).2 := by
 subst h; exact map_getD Prod.snd rs i rq0 [] hi
theorem at_y {r : List Stitch} (h : rowE r = 0) {j : Nat} (hj : j < r.length) : 1 ≤ (r.getD j zeroS).y ∧ (r.getD j zeroS).y ≤ 6 := by
 obtain ⟨_, _, ha, _⟩ := row_ok_of h
 have := check_rng ((okB_iff _).1 (List.all_eq_true.1 ha _ (getD_memS (d := zeroS) hj)))
 omega
theorem set_tk {F : Int → Int} {i n : Nat} (h : i < 6) : ((tbl F).take i ++ List.replicate (n + 1) (0 : Int)).set i (F ((i : Int) + 1)) = (tbl F).take (i + 1) ++ List.replicate n 0 := by
 have hl : ((tbl F).take i).length = i := by rw [List.length_take, tbl_len]; omega
 rw [List.set_append_right _ _ (by omega), hl, Nat.sub_self, List.replicate_succ, List.set_cons_zero, take_one _ i 0 (by rw [tbl_len]; omega), tbl_at F h, List.append_assoc]; rfl
theorem made {nm : List UInt8} {ps : List Pc} {size : Int} (h : makeE nm ps size = 0) : ps.length ≤ 8 ∧ ∀ p ∈ ps, (0 ≤ p.ct ∧ p.ct ≤ 9) ∧ chartE (chartP size p) = 0 := by
 obtain ⟨hg, h0, h9, hc⟩ := make_of h
 obtain ⟨l, _, _, hr, _, _⟩ := gar_of hg
 refine ⟨l, fun p hp => ⟨?_, (stack_of (charts_of hc p hp)).2.2.2.2⟩⟩
 have := right_of (hr p hp); omega
theorem pcs_some {qs : List PQ} {k : Nat} (h : k < qs.length) : (pcs qs)[k]? = some (qs.getD k pq0).p := by
 rw [List.getElem?_map, List.getElem?_eq_getElem h, List.getD, List.getElem?_eq_getElem h]; rfl
theorem pcs_mem {qs : List PQ} {k : Nat} (h : k < qs.length) : (qs.getD k pq0).p ∈ pcs qs := List.mem_map.2 ⟨_, getD_memS h, rfl⟩
theorem gmix_le {ps : List Pc} {size : Int} (hl : ps.length ≤ 8) (h : ∀ p ∈ ps, (0 ≤ p.ct ∧ p.ct ≤ 9) ∧ chartE (chartP size p) = 0) (k z : Nat) : 0 ≤ gmix ps size k z ((z : Int) + 1) ∧ gmix ps size k z ((z : Int) + 1) ≤ 151200 := by
 have := gsum_le (size := size) h k ((z : Int) + 1)
 have e : gmix ps size k z ((z : Int) + 1) = gsum ps size k ((z : Int) + 1) := if_neg (by omega)
 have hl2 : (ps.take k).length ≤ 8 := by rw [List.length_take]; omega
 rw [e]; omega
theorem needL_len (ps : List Pc) (size : Int) : (needL ps size).length = 6 := by simp [needL]
theorem blk_own6 {w : World} {g T N : Nat} {c : List Int} (h : Blk w g T (ivs c)) (hN : N ≤ g) (hl : c.length = 6) : Lw.Own Enc.i64 T N w (.slice (some ⟨g, 0, none⟩) 6 6) c := by
 have := blk_own h hN (by rw [hl]; unfold maxLen; omega)
 rwa [hl] at this
def b3 (l t r : SV) (k : Nat) : SV := if k = 0 then l else if k = 1 then t else r
def wrdS (n : Int) : Stitch := ⟨n, 1, 0, 0, false⟩
end Go.G14
namespace Go.Proofs.YthehggmdcmpjeaaGreatDoor
open Go.Lw Go.G14
theorem ag44 : AggOf Tryz.prog 44 3 := ⟨fun _ => by kernel_rfl, fun _ => by kernel_rfl⟩
theorem co26 : CallOf Tryz.prog 26 := mkC Tryz.func26
theorem co54 : CallOf Tryz.prog 54 := mkC Tryz.func54
theorem fa44_1 : FieldAt Tryz.prog 44 1 1 := fun _ _ => by kernel_rfl
theorem fa44_2 : FieldAt Tryz.prog 44 2 2 := fun _ _ => by kernel_rfl
theorem zv39 (w : World) : (zeroValue 39).run Tryz.prog w = .ok (.agg #[(.int .i64 0), (.int .i64 0), (.int .i64 0), (.int .i64 0), (.int .i64 0), (.int .i64 0)]) w := by kernel_rfl
theorem first_ok (v : Value) (r : List Stitch) (w0 : World) (hs : Sl encSt w0 v r) : Rets Tryz.prog 54 #[v] w0 fun v w' => v = .int .u8 (firstY r) ∧ Fr [] w0 w' := by
 obtain ⟨A, c, rfl, hcc, hM, hA⟩ := id hs
 clear hA
 unfold maxLen at hM
 refine we [(0, .slice A r.length c)] Tryz.func54 rfl Tryz.ntmps54 rfl (.cons rfl .nil) ?_
 have hs0 := hs
 refine sr (asg rfl (nn (sq (sr (mv rfl (lnS rfl Tryz.underlying88 (eq' rfl rfl (nn ?_))))))))
 refine cd rfl (fun c0 => ?_) (fun c0 => ?_)
 ·refine sr (asg rfl (nn (rt (tr (r1 Tryz.results54 rfl ?_)))))
  exact ⟨_, rfl, by rw [show r = [] from List.length_eq_zero_iff.1 (by omega)]; rfl, (Fr.refl _ _)⟩
 refine sk (tn (sr (mv rfl (s_idxL (p := 0) (zeroS) rfl hs rfl el88 rfl (fun ad10 hc10 => ?_)))))
 refine fad rfl fa91_1 (s_loadC rfl (hc10 _ hs) rfl na5 rfl (asg rfl (nn (sq (sr (mv rfl (lnS rfl Tryz.underlying88 (mv rfl (nn (bl ?_))))))))))
 refine lpK (ι := Nat) [(13, _), (14, _)] (fun i => [(15, .int .i64 (i : Int)), (3, .int .u8 (firstY (r.take (max i 1))))]) (fun i w' => Fr [] w0 w' ∧ i ≤ r.length) (fun i => r.length - i) 0 (.c4 rfl rfl rfl (congrArg (fun z => some (Value.int .u8 z)) (first_zero (by omega)))) ⟨Fr.refl _ _, Nat.zero_le _⟩ ?_
 rintro i w1 ⟨q1, hi⟩
 have z1 := q1.size
 refine kpC [(13, _), (14, _), (15, _), (3, _)] (.c4 rfl rfl rfl rfl) ?_
 refine sr (lt' rfl rfl (nn (sq ?_)))
 refine cd rfl (fun c1 => ?_) (fun c1 => ?_)
 ·refine sk (tn (sq (bl (sr ?_))))
  replace hs := hs0.ext q1
  refine s_idxL (zeroS) rfl hs rfl el88 nat_of (fun ad17 hc17 => ?_)
  refine s_loadA rfl (hc17 _ hs) ag91 (al zv91 rfl rfl (fun g5 w2 hg5 hb5 q2 z2 => ?_))
  refine s_storeBA rfl rfl hb5 rfl sz91 (fun w3 hb5 q3 z3 => ?_)
  refine nn (rg (mv rfl (fad rfl fa91_1 (s_loadB rfl hb5 rfl na5 (s_min rfl rfl rfl (asg rfl (nl (bn' (tn (rg (s_add rfl rfl (wi6 (by omega)) ?_)))))))))))
  refine mv rfl (nl ?_)
  exact lpE (i + 1) (.c4 rfl rfl rfl (congrArg (fun z => some (Value.int .u8 z)) (first_max (by omega)))) ⟨(q1.z2 q2 q3), by omega⟩ (by omega)
 obtain rfl : i = r.length := by omega
 rw [show max r.length 1 = r.length by omega, List.take_length]
 refine ex (te (te (xh (tn (sr (mv rfl (asg rfl (kpL [(2, _)] (.cons rfl .nil) (nn (rt (r1 Tryz.results54 rfl ?_)))))))))))
 exact ⟨_, rfl, rfl, q1⟩
set_option maxHeartbeats 1000000 in
theorem loops_ok (v : Value) (c : RowL) (w0 : World) (hs : Sll encSt w0 v c) : Rets Tryz.prog 26 #[.agg #[v]] w0 fun r w' => ∃ V, r = .tuple #[V, .int .i64 (chartE c)] ∧ (chartE c ≠ 0 → V = .slice none 0 0) ∧ (chartE c = 0 → (∃ A, V = .slice A 6 6) ∧ Lw.Own Enc.i64 3 w0.heap.size w' V (tbl (cntY c))) ∧ Fr [] w0 w' := by
 obtain ⟨rs, hrs, hqr, hrm⟩ := Sll.opn hs
 have hrc : rs.length = c.length := by rw [← hrm, List.length_map]
 obtain ⟨A, cp, rfl, hcc, hM, hA⟩ := id hrs
 clear hA
 unfold maxLen at hM
 have hgd := fun i (hi : i < rs.length) => gd_rows hrm hi
 refine we [(0, .agg #[.slice A rs.length cp])] Tryz.func26 rfl Tryz.ntmps26 rfl (.cons rfl .nil) ?_
 have hs0 := hs
 have hrs0 := hrs
 have hqr0 := hqr
 refine sr (bx rfl rfl rfl (fun g1 w1 hg1 hb1 q1 z1 => ?_))
 refine asg rfl (asg rfl (nn (sq (sr (s_loadBA rfl hb1 ag42 ?_)))))
 replace hs := hs0.ext q1
 refine cl (ev1 rfl) co53 (check_chart_ok _ c _ hs) rfl ?_
 rintro _ w2 ⟨rfl, q2⟩
 have z2 := q2.size
 refine asg rfl (nn (sr (mv rfl (ne' rfl rfl (nn ?_)))))
 refine cd rfl (fun c0 => ?_) (fun c0 => ?_)
 ·refine sr (mv rfl (asg rfl (asg rfl (nn (rt (tr (r2 Tryz.results26 rfl rfl ?_)))))))
  exact ⟨_, rfl, _, rfl, fun _ => rfl, fun h => absurd h c0, (q1.n1 q2)⟩
 have hce : chartE c = 0 := Classical.not_not.1 c0
 obtain ⟨hcl, hcr⟩ := rows_good hce
 have hr0 := hcr 0 (by omega)
 have hrL := hcr (c.length - 1) (by omega)
 have hg0 := hgd 0 (by omega)
 have hgL := hgd (rs.length - 1) (by omega)
 rw [hg0] at hr0
 rw [← hrc, hgL] at hrL
 have hf0 := first_rng hr0
 have hfL := first_rng hrL
 have hw0 := row_ok_of hr0
 have hwL := row_ok_of hrL
 have hc1 := cnt1_le hce (firstY (rs.getD (rs.length - 1) rq0).2)
 refine sk (tn (sr (al zv39 rfl rfl (fun g5 w3 hg5 hb5 q3 z3 => ?_))))
 replace hb5 : Blk w3 g5 _ (ivs (tbl fun _ => 0)) := hb5
 refine nn (sr (fad rfl fa42_0 ?_))
 replace hb1 := hb1.ext (q2.n1 q3)
 refine s_loadB rfl hb1 rfl na40 (fad rfl fa42_0 (s_loadB rfl hb1 rfl na40 (lnS rfl Tryz.underlying40 (s_sub rfl rfl (wi6 (by omega)) ?_))))
 replace hrs := hrs0.ext (q1.n2 q2 q3)
 refine s_idxL (p := (rs.length - 1)) (rq0) rfl hrs rfl er40 (by omega) (fun ad24 hc24 => ?_)
 refine s_loadC0 rfl (hc24 _ hrs) na88 (asg rfl (kpL [(1, _), (5, _), (6, _)] (.c3 rfl rfl rfl) (nn (sq ?_))))
 replace hqr := hqr0.ext (q1.n2 q2 q3)
 intro a h
 refine region_heldP (some 15) (fun wb w' => Fr [] wb w') hmix ?_; intro w4 hq
 have z4 := hq.size
 replace hrs := hrs.ext hq
 replace hqr := hqr.ext hq
 replace hb1 := hb1.ext hq
 replace hb5 := hb5.ext hq
 have q4 := hq
 clear hq; have hC : Fr [] w4 w4 := Fr.refl _ _
 have hrs_b := hrs
 have hqr_b := hqr
 have hb1_b := hb1
 have hb5_b := hb5
 refine hd_fieldAddr 0 hC h wn rfl fa42_0 rfl ?_; clear h a; intro a h
 refine hd_loadB 1 hC h wn rfl (fun _ hw => hb1_b.ext hw) rfl na40 rfl ?_; clear h a; intro a h
 refine hd_idxL (p := 0) (rq0) 2 hC h wn rfl hrs rfl er40 rfl ?_ (hp := rfl); clear h a; intro ad28 hc28 a h
 refine hd_loadC0 3 hC h wn rfl (fun _ hw => hc28 _ (hrs_b.ext hw)) na88 rfl ?_; clear h a; intro a h
 refine hd_fieldAddr 8 hC h wn rfl fa42_0 rfl ?_; clear h a; intro a h
 refine hd_loadB 9 hC h wn rfl (fun _ hw => hb1_b.ext hw) rfl na40 rfl ?_; clear h a; intro a h
 refine hd_idxL (p := 0) (rq0) 10 hC h wn rfl hrs rfl er40 rfl ?_ (hp := rfl); clear h a; intro ad36 hc36 a h
 refine hd_loadC0 11 hC h wn rfl (fun _ hw => hc36 _ (hrs_b.ext hw)) na88 rfl ?_; clear h a; intro a h
 refine hd_one 4 rfl ?_
 refine st_call h (evs_cons rfl evs_nil) co54 (first_ok _ (rs.getD 0 rq0).2 _ (hqr _ (getD_memS (by omega)))) ?_; clear h a; rintro _ w5 ⟨rfl, hq⟩ a h
 have z5 := hq.size
 replace hrs := hrs.ext hq
 replace hqr := hqr.ext hq
 replace hb1 := hb1.ext hq
 replace hb5 := hb5.ext hq
 replace hC := hC.next hq
 have q5 := hq
 clear hq
 refine hd_next hC ?_
 refine hd_sub 5 hC h wn rfl rfl (by first | exact IntWalk.u8_in _ (by omega) | rfl) rfl rfl ?_; clear h a; intro a h
 refine hd_idxA 6 hC h wn rfl rfl Tryz.underlying39 sz3 rfl ?_; clear h a; intro a h
 refine hd_loadB 7 hC h wn rfl (fun _ hw => hb5_b.ext hw) (arr_ld (fun _ => 0) hf0.1 hf0.2) na3 rfl ?_; clear h a; intro a h
 refine hd_one 12 rfl ?_
 refine st_call h (evs_cons rfl evs_nil) co55 (cneeds_ok _ (rs.getD 0 rq0).2 _ (hqr _ (getD_memS (by omega))) (by omega)) ?_; clear h a; rintro _ w6 ⟨rfl, hq⟩ a h
 have z6 := hq.size
 replace hrs := hrs.ext hq
 replace hqr := hqr.ext hq
 replace hb1 := hb1.ext hq
 replace hb5 := hb5.ext hq
 replace hC := hC.next hq
 have q6 := hq
 clear hq
 refine hd_next hC ?_
 refine hd_add 13 hC h wn rfl rfl (by first | exact i6 (by omega) | rfl) rfl ?_; clear h a; intro a h
 refine hd_idxA 14 hC h wn rfl rfl Tryz.underlying39 sz3 rfl ?_; clear h a; intro a h
 refine hd_one 15 rfl ?_
 refine st_storeB h rfl rfl hb5 (arr_lt _ hf0.2) rfl rfl sz3 ?_; clear h a; intro w7 hbn hq hz a h
 have z7 := hq.size
 replace hb1 := hb1.fr hq (by simp[blks]<;>omega)
 have q7 := hq
 rw [arr1 hg0 hr0] at hbn; clear hb5 hq hz; have hb5 : Blk w7 g5 _ _ := hbn; clear hbn
 refine hd_past ?_
 refine hd_end ?_
 clear hC hrs_b hqr_b hb1_b hb5_b
 refine bk (h.sub (L' := [(1, _), (5, _), (6, _)]) (.c3 rfl rfl rfl)) ?_; clear h a
 refine tn (sq ?_)
 replace hrs := hrs0.ext (q1.z6 q2 q3 q4 q5 q6 q7)
 replace hqr := hqr0.ext (q1.z6 q2 q3 q4 q5 q6 q7)
 intro a h
 refine region_heldP (some 9) (fun wb w' => Fr [] wb w') hmix ?_; intro w8 hq
 have z8 := hq.size
 replace hrs := hrs.ext hq
 replace hqr := hqr.ext hq
 replace hb5 := hb5.ext hq
 have q8 := hq
 clear hq; have hC : Fr [] w8 w8 := Fr.refl _ _
 have hrs_b := hrs
 have hqr_b := hqr
 have hb5_b := hb5
 refine hd_move 0 hC h wn rfl rfl ?_; clear h a; intro a h
 refine hd_move 5 hC h wn rfl rfl ?_; clear h a; intro a h
 refine hd_one 1 rfl ?_
 refine st_call h (evs_cons rfl evs_nil) co54 (first_ok _ (rs.getD (rs.length - 1) rq0).2 _ (hqr _ (getD_memS (by omega)))) ?_; clear h a; rintro _ w9 ⟨rfl, hq⟩ a h
 have z9 := hq.size
 replace hrs := hrs.ext hq
 replace hqr := hqr.ext hq
 replace hb5 := hb5.ext hq
 replace hC := hC.next hq
 have q9 := hq
 clear hq
 refine hd_next hC ?_
 refine hd_sub 2 hC h wn rfl rfl (by first | exact IntWalk.u8_in _ (by omega) | rfl) rfl rfl ?_; clear h a; intro a h
 refine hd_idxA 3 hC h wn rfl rfl Tryz.underlying39 sz3 rfl ?_; clear h a; intro a h
 refine hd_loadB 4 hC h wn rfl (fun _ hw => hb5_b.ext hw) (arr_ld (cnt1 c) hfL.1 hfL.2) na3 rfl ?_; clear h a; intro a h
 refine hd_one 6 rfl ?_
 refine st_call h (evs_cons rfl evs_nil) co56 (cmakes_ok _ (rs.getD (rs.length - 1) rq0).2 _ (hqr _ (getD_memS (by omega))) (by omega)) ?_; clear h a; rintro _ w10 ⟨rfl, hq⟩ a h
 have z10 := hq.size
 replace hrs := hrs.ext hq
 replace hqr := hqr.ext hq
 replace hb5 := hb5.ext hq
 replace hC := hC.next hq
 have q10 := hq
 clear hq
 refine hd_next hC ?_
 refine hd_add 7 hC h wn rfl rfl (by first | exact i6 (by omega) | rfl) rfl ?_; clear h a; intro a h
 refine hd_idxA 8 hC h wn rfl rfl Tryz.underlying39 sz3 rfl ?_; clear h a; intro a h
 refine hd_one 9 rfl ?_
 refine st_storeB h rfl rfl hb5 (arr_lt _ hfL.2) rfl rfl sz3 ?_; clear h a; intro w11 hbn hq hz a h
 have z11 := hq.size
 have q11 := hq
 rw [arr2 (hrc ▸ hgL) hrL] at hbn; clear hb5 hq hz; have hb5 : Blk w11 g5 _ _ := hbn; clear hbn
 refine hd_past ?_
 refine hd_end ?_
 clear hC hrs_b hqr_b hb5_b
 refine bk (h.sub (L' := [(1, _), (5, _)]) (.c2 rfl rfl)) ?_; clear h a
 refine tn (sq (sr (fad rfl fa42_0 ?_)))
 replace hb1 := (hb1.ext (q8.n2 q9 q10)).fr q11 (by simp[blks]<;>omega)
 refine s_loadB rfl hb1 rfl na40 (lnS rfl Tryz.underlying40 (mv rfl (nn (bl ?_))))
 refine lpK (ι := Nat) [(5, _), (51, _), (52, _)] (fun i => [(53, .int .i64 (i : Int))]) (fun i w' => Fr [g5] w11 w' ∧ i ≤ rs.length ∧ Blk w' g5 39 (ivs (tbl (cnt3 c i)))) (fun i => rs.length - i) 0 (.c4 rfl rfl rfl rfl) ⟨Fr.refl _ _, ⟨Nat.zero_le _, by rw [cnt3_zero]; exact hb5⟩⟩ ?_
 rintro i w12 ⟨q12, ⟨hi, hb5⟩⟩
 have z12 := q12.size
 have lt_hb5 := hb5.lt
 refine kpC [(5, _), (51, _), (52, _), (53, _)] (.c4 rfl rfl rfl rfl) ?_
 refine sr (lt' rfl rfl (nn (sq ?_)))
 refine cd rfl (fun c1 => ?_) (fun c1 => ?_)
 ·replace hqr := hqr0.ext ((((q1.z6 q2 q3 q4 q5 q6 q7).n1 q8).n1 q9).z3 q10 q11 q12)
  have hgi := hgd i (by omega)
  have hri := hcr i (by omega)
  rw [hgi] at hri
  have hwi := row_ok_of hri
  have hjl := sl_len (hqr (rs.getD i rq0) (getD_memS (by omega)))
  refine sk (tn (sq (bl (sr ?_))))
  replace hrs := hrs0.ext ((((q1.z6 q2 q3 q4 q5 q6 q7).n1 q8).n1 q9).z3 q10 q11 q12)
  refine s_idxL (rq0) rfl hrs rfl er40 nat_of (fun ad55 hc55 => ?_)
  refine s_loadC0 rfl (hc55 _ hrs) na88 (asg rfl (nn (sr (mv rfl (lnS rfl Tryz.underlying88 (mv rfl (nn (bl ?_))))))))
  refine lpK (ι := Nat) [(5, _), (51, _), (52, _), (53, _), (57, _), (58, _)] (fun j => [(59, .int .i64 (j : Int))]) (fun j w' => Fr [g5] w12 w' ∧ j ≤ (rs.getD i rq0).2.length ∧ Blk w' g5 39 (ivs (tbl (cnt4 c i j)))) (fun j => (rs.getD i rq0).2.length - j) 0 (.c7 rfl rfl rfl rfl rfl rfl rfl) ⟨Fr.refl _ _, ⟨Nat.zero_le _, by rw [cnt4_zero]; exact hb5⟩⟩ ?_
  rintro j w13 ⟨q13, ⟨hj, hb5⟩⟩
  have z13 := q13.size
  have lt_hb5 := hb5.lt
  refine kpC [(5, _), (51, _), (52, _), (53, _), (57, _), (58, _), (59, _)] (.c7 rfl rfl rfl rfl rfl rfl rfl) ?_
  refine sr (lt' rfl rfl (nn (sq ?_)))
  refine cd rfl (fun c2 => ?_) (fun c2 => ?_)
  ·have hy := at_y hri (j := j) (by omega)
   have hc4 := cnt4_le hce (i := i) (by omega) j ((rs.getD i rq0).2.getD j zeroS).y
   have hmk := makes_rng ((rs.getD i rq0).2.getD j zeroS)
   refine sk (tn (sq (bl (sr ?_))))
   replace hqr := hqr0.ext ((((q1.z6 q2 q3 q4 q5 q6 q7).n1 q8).n1 q9).z4 q10 q11 q12 q13)
   refine s_idxL (zeroS) rfl (hqr (rs.getD i rq0) (getD_memS (by omega))) rfl el88 nat_of (fun ad61 hc61 => ?_)
   refine s_loadA rfl (hc61 _ (hqr (rs.getD i rq0) (getD_memS (by omega)))) ag91 (al zv91 rfl rfl (fun g10 w14 hg10 hb10 q14 z14 => ?_))
   refine s_storeBA rfl rfl hb10 rfl sz91 (fun w15 hb10 q15 z15 => ?_)
   refine nn (sr (fad rfl fa91_0 (s_loadB rfl hb10 rfl na89 (ne' rfl rfl (nn ?_)))))
   refine cd rfl (fun c3 => ?_) (fun c3 => ?_)
   ·replace hrs := hrs0.ext ((((q1.z6 q2 q3 q4 q5 q6 q7).n1 q8).n1 q9).z6 q10 q11 q12 q13 q14 q15)
    replace hqr := hqr0.ext ((((q1.z6 q2 q3 q4 q5 q6 q7).n1 q8).n1 q9).z6 q10 q11 q12 q13 q14 q15)
    replace hb5 := (hb5.ext q14).fr q15 (by simp[blks]<;>omega)
    intro a h
    refine region_heldP (some 9) (fun wb w' => Fr [] wb w') hmix ?_; intro w16 hq
    have z16 := hq.size
    replace hrs := hrs.ext hq
    replace hqr := hqr.ext hq
    replace hb5 := hb5.ext hq
    replace hb10 := hb10.ext hq
    have q16 := hq
    clear hq; have hC : Fr [] w16 w16 := Fr.refl _ _
    have hrs_b := hrs
    have hqr_b := hqr
    have hb5_b := hb5
    have hb10_b := hb10
    refine hd_fieldAddr 0 hC h wn rfl fa91_1 rfl ?_; clear h a; intro a h
    refine hd_loadB 1 hC h wn rfl (fun _ hw => hb10_b.ext hw) rfl na5 rfl ?_; clear h a; intro a h
    refine hd_sub 2 hC h wn rfl rfl (by first | exact IntWalk.u8_in _ (by omega) | rfl) rfl rfl ?_; clear h a; intro a h
    refine hd_idxA 3 hC h wn rfl rfl Tryz.underlying39 sz3 rfl ?_; clear h a; intro a h
    refine hd_loadB 4 hC h wn rfl (fun _ hw => hb5_b.ext hw) (arr_ld (cnt4 c i j) hy.1 hy.2) na3 rfl ?_; clear h a; intro a h
    refine hd_loadBA 5 hC h wn rfl (fun _ hw => hb10_b.ext hw) ag91 rfl ?_; clear h a; intro a h
    refine hd_one 6 rfl ?_
    refine st_call h (evs_cons rfl evs_nil) co57 (makes_ok ((rs.getD i rq0).2.getD j zeroS) _) ?_; clear h a; rintro _ w17 ⟨rfl, hq⟩ a h
    have z17 := hq.size
    replace hrs := hrs.ext hq
    replace hqr := hqr.ext hq
    replace hb5 := hb5.ext hq
    replace hb10 := hb10.ext hq
    replace hC := hC.next hq
    have q17 := hq
    clear hq
    refine hd_next hC ?_
    refine hd_add 7 hC h wn rfl rfl (by first | exact i6 (by omega) | rfl) rfl ?_; clear h a; intro a h
    refine hd_idxA 8 hC h wn rfl rfl Tryz.underlying39 sz3 rfl ?_; clear h a; intro a h
    refine hd_one 9 rfl ?_
    refine st_storeB h rfl rfl hb5 (arr_lt _ hy.2) rfl rfl sz3 ?_; clear h a; intro w18 hbn hq hz a h
    have z18 := hq.size
    replace hb10 := hb10.fr hq (by simp[blks]<;>omega)
    have q18 := hq
    rw [arr4 hgi (by omega) c3 hy.1 hy.2] at hbn; clear hb5 hq hz; have hb5 : Blk w18 g5 _ _ := hbn; clear hbn
    refine hd_past ?_
    refine hd_end ?_
    clear hC hrs_b hqr_b hb5_b hb10_b
    refine bk (h.sub (L' := [(5, _), (51, _), (52, _), (53, _), (57, _), (58, _), (59, _)]) (.c7 rfl rfl rfl rfl rfl rfl rfl)) ?_; clear h a
    refine bn' (tn (rg (s_add rfl rfl (wi6 (by omega)) (mv rfl (nl ?_)))))
    exact lpE (j + 1) (.c7 rfl rfl rfl rfl rfl rfl rfl) ⟨((Fr.refl [g5] _).z6 q13 q14 q15 q16 q17 q18), ⟨by omega, by first | exact hb5 | (rw [arr4s hgi (by omega) (by omega)]; exact hb5)⟩⟩ (by omega)
   refine sk (bn' (tn (rg (s_add rfl rfl (wi6 (by omega)) (mv rfl (nl ?_))))))
   replace hb5 := (hb5.ext q14).fr q15 (by simp[blks]<;>omega)
   exact lpE (j + 1) (.c7 rfl rfl rfl rfl rfl rfl rfl) ⟨((Fr.refl [g5] _).z3 q13 q14 q15), ⟨by omega, by first | exact hb5 | (rw [arr4s hgi (by omega) (by omega)]; exact hb5)⟩⟩ (by omega)
  obtain rfl : j = (rs.getD i rq0).2.length := by omega
  refine ex (te (te (xh (bn' (tn (rg (s_add rfl rfl (wi6 (by omega)) (mv rfl (nl ?_)))))))))
  exact lpE (i + 1) (.c4 rfl rfl rfl rfl) ⟨((Fr.refl [g5] _).z2 q12 q13), ⟨by omega, by rw [← cnt4_all (j := (rs.getD i rq0).2.length) (by omega) (by rw [hgi]; exact Nat.le_refl _)]; exact hb5⟩⟩ (by omega)
 obtain rfl : i = rs.length := by omega
 rw [hrc, show cnt3 c c.length = cntY c from funext (cnt_all c)] at hb5
 refine ex (te (te (xh (tn (sr ?_)))))
 refine s_makeSlice (m := 6) (c := 6) (0) rfl rfl el33 zv3 rfl (Nat.le_refl _) (by unfold maxLen; omega) (fun g77 w19 hg77 hoR q19 z19 => ?_)
 refine asg rfl (nn (sq (sr (mv rfl (nn (bl ?_))))))
 refine lpK (ι := Nat) [(5, _), (11, _)] (fun i => [(78, .int .i64 (i : Int))]) (fun i w' => Fr [g77] w19 w' ∧ i ≤ 6 ∧ Lw.Own Enc.i64 3 g77 w' (.slice (some ⟨g77, 0, none⟩) 6 6) ((tbl (cntY c)).take i ++ List.replicate (6 - i) 0)) (fun i => 6 - i) 0 (.c3 rfl rfl rfl) ⟨Fr.refl _ _, ⟨Nat.zero_le _, hoR⟩⟩ ?_
 rintro i w20 ⟨q20, ⟨hi, hoR⟩⟩
 have z20 := q20.size
 refine kpC [(5, _), (11, _), (78, _)] (.c3 rfl rfl rfl) ?_
 refine sr (lt' rfl rfl (nn (sq ?_)))
 refine cd rfl (fun c4 => ?_) (fun c4 => ?_)
 ·refine sk (tn (sq (bl (sr (mv rfl (asg rfl (nn (rg (mv rfl (mv rfl (mv rfl ?_)))))))))))
  refine s_idxA rfl rfl Tryz.underlying39 sz3 ?_
  replace hb5 := (hb5.ext q19).fr q20 (by simp[blks]<;>omega)
  refine s_loadB rfl hb5 (arr_z (cntY c) (by omega)) na3 ?_
  refine s_ixs (p := i) ((cntY c ((i : Int) + 1))) rfl hoR rfl rfl (by intro e; cases e) el33 sz3 rfl (by first | omega | (simp only [List.length_append, List.length_replicate, List.length_take, tbl_len, List.length_nil]; omega)) rfl (fun w21 hoR q21 z21 => ?_)
  replace q21 : Fr [g77] _ _ := q21
  rw [show 6 - i = (6 - (i + 1)) + 1 by omega, set_tk (F := cntY c) (by omega)] at hoR
  refine kpL [(5, _), (11, _), (78, _)] (.c3 rfl rfl rfl) (nl (bn' (tn (rg (s_add rfl rfl (wi6 (by omega)) (mv rfl (nl ?_)))))))
  exact lpE (i + 1) (.c3 rfl rfl rfl) ⟨((Fr.refl [g77] _).z2 q20 q21), ⟨by omega, hoR⟩⟩ (by omega)
 obtain rfl : i = 6 := by omega
 refine ex (te (te (xh (tn (sr (mv rfl (asg rfl (asg rfl (nn (rt (r2 Tryz.results26 rfl rfl ?_)))))))))))
 exact ⟨_, rfl, _, by rw [hce], fun h => absurd hce h, fun _ => ⟨⟨_, rfl⟩, by have := hoR.low (by omega : w0.heap.size ≤ g77); rwa [Nat.sub_self, List.replicate_zero, List.append_nil, List.take_of_length_le (by rw [tbl_len]; omega)] at this⟩, ((((q1.z6 q2 q3 q4 q5 q6 q7).n1 q8).n1 q9).z5 q10 q11 q12 q19 q20)⟩
set_option maxHeartbeats 1000000 in
theorem gneeds_ok (nm : List UInt8) (v : Value) (qs : List PQ) (size : Int) (w0 : World) (hs : Sl encPq w0 v qs) (hq : PcsQ w0 qs) : Rets Tryz.prog 9 #[.agg #[S nm, v], .int .i64 size] w0 fun r w' => ∃ V, r = .tuple #[V, .int .i64 (makeE nm (pcs qs) size)] ∧ (makeE nm (pcs qs) size ≠ 0 → V = .slice none 0 0) ∧ (makeE nm (pcs qs) size = 0 → (∃ A, V = .slice A 6 6) ∧ Lw.Own Enc.i64 39 w0.heap.size w' V (needL (pcs qs) size)) ∧ Fr [] w0 w' := by
 obtain ⟨A, c, rfl, hcc, hM, hA⟩ := id hs
 clear hA
 unfold maxLen at hM
 refine we [(0, .agg #[S nm, .slice A qs.length c]), (1, .int .i64 size)] Tryz.func9 rfl Tryz.ntmps9 rfl (.c2 rfl rfl) ?_
 have hs0 := hs
 have hq0 := hq
 refine sr (bx rfl rfl rfl (fun g2 w1 hg2 hb2 q1 z1 => ?_))
 refine asg rfl (asg rfl (nn (sr (s_loadBA rfl hb2 ag27 (mv rfl ?_)))))
 replace hs := hs0.ext q1
 replace hq := hq0.ext q1
 refine cl (ev2 rfl rfl) co8 (gmake_ok nm _ qs size _ hs hq) rfl ?_
 rintro _ w2 ⟨V17, its, rfl, hoI, hio, hmn, hmz, q2⟩
 have z2 := q2.size
 have hoI0 := hoI
 have hio0 := hio
 refine mv rfl (xt rfl rfl (xt rfl rfl (asg rfl (asg rfl (kpL [(6, _), (7, _)] (.c2 rfl rfl) (nn (sq (sr (mv rfl (ne' rfl rfl (nn ?_)))))))))))
 refine cd rfl (fun c0 => ?_) (fun c0 => ?_)
 ·refine sr (mv rfl (asg rfl (asg rfl (nn (rt (tr (r2 Tryz.results9 rfl rfl ?_)))))))
  exact ⟨_, rfl, _, rfl, fun h => rfl, fun h => absurd h c0, (q1.n1 q2)⟩
 have h0 : makeE nm (pcs qs) size = 0 := Classical.not_not.1 c0
 obtain ⟨hpl, hpm⟩ := made h0
 rw [pcs_len] at hpl
 obtain ⟨⟨A17, rfl⟩, hil, hit⟩ := hmz h0
 refine sk (tn (sr (al zv39 rfl rfl (fun g8 w3 hg8 hb8 q3 z3 => ?_))))
 replace hb8 : Blk w3 g8 _ (ivs (tbl fun _ => 0)) := hb8
 refine nn (sq (sr (mv rfl (lnS rfl Tryz.underlying29 (mv rfl (nn (bl ?_)))))))
 refine lpK (ι := Nat) [(8, _), (23, _), (24, _)] (fun k => [(25, .int .i64 (k : Int))]) (fun k w' => Fr [g8] w3 w' ∧ k ≤ qs.length ∧ Blk w' g8 39 (ivs (tbl (gsum (pcs qs) size k)))) (fun k => qs.length - k) 0 (.c4 rfl rfl rfl rfl) ⟨Fr.refl _ _, ⟨Nat.zero_le _, hb8⟩⟩ ?_
 rintro k w4 ⟨q4, ⟨hk, hb8⟩⟩
 have z4 := q4.size
 have lt_hb8 := hb8.lt
 refine kpC [(8, _), (23, _), (24, _), (25, _)] (.c4 rfl rfl rfl rfl) ?_
 refine sr (lt' rfl rfl (nn (sq ?_)))
 refine cd rfl (fun c1 => ?_) (fun c1 => ?_)
 ·obtain ⟨-, hct, hrw⟩ := hit k (by omega)
  have hpk := hpm _ (pcs_mem (show k < qs.length by omega))
  have hce : chartE (its.getD k iq0).rows = 0 := by rw [hrw]; exact hpk.2
  refine sk (tn (sq (bl (sr ?_))))
  replace hoI := hoI0.ext (q3.z1 q4)
  refine s_idxL (iq0) rfl hoI.sl rfl el29 nat_of (fun ad27 hc27 => ?_)
  refine s_loadA rfl (hc27 _ hoI.sl) ag44 (al zv44 rfl rfl (fun g10 w5 hg10 hb10 q5 z5 => ?_))
  refine s_storeBA rfl rfl hb10 rfl sz44 (fun w6 hb10 q6 z6 => ?_)
  refine nn (sr (fad rfl fa44_1 (s_loadBP (vs := [_]) rfl hb10 ag42 rfl ?_)))
  replace hio := hio0.ext (q3.z3 q4 q5 q6)
  refine cl (ev1 rfl) co26 (loops_ok _ (its.getD k iq0).rows _ ((hio _ (getD_memS (by omega))).sll)) rfl ?_
  rintro _ w7 ⟨V32, rfl, hln, hlz, q7⟩
  have z7 := q7.size
  refine mv rfl (xt rfl rfl (xt rfl rfl (asg rfl (asg rfl (kpL [(8, _), (10, _), (11, _), (12, _), (23, _), (24, _), (25, _)] (.c7 rfl rfl rfl rfl rfl rfl rfl) (nn (sq (sr (mv rfl (ne' rfl rfl (nn ?_)))))))))))
  refine cd rfl (fun c2 => ?_) (fun c2 => ?_)
  ·exact absurd hce c2
  obtain ⟨⟨A32, rfl⟩, hoC⟩ := hlz hce
  refine sk (tn (sr (mv rfl (nn (bl ?_)))))
  replace hb8 := ((hb8.ext q5).fr q6 (by simp[blks]<;>omega)).ext q7
  refine lpK (ι := Nat) [(8, _), (10, _), (11, _), (23, _), (24, _), (25, _)] (fun z => [(38, .int .i64 (z : Int))]) (fun z w' => Fr [g8] w7 w' ∧ z ≤ 6 ∧ Blk w' g8 39 (ivs (tbl (gmix (pcs qs) size k z)))) (fun z => 6 - z) 0 (.c7 rfl rfl rfl rfl rfl rfl rfl) ⟨Fr.refl _ _, ⟨Nat.zero_le _, by rw [gmix_zero]; exact hb8⟩⟩ ?_
  rintro z w8 ⟨q8, ⟨hz, hb8⟩⟩
  have z8 := q8.size
  have lt_hb8 := hb8.lt
  refine kpC [(8, _), (10, _), (11, _), (23, _), (24, _), (25, _), (38, _)] (.c7 rfl rfl rfl rfl rfl rfl rfl) ?_
  refine sr (lt' rfl rfl (nn (sq ?_)))
  refine cd rfl (fun c3 => ?_) (fun c3 => ?_)
  ·have hpz : 0 ≤ (its.getD k iq0).ct * (tbl (cntY (its.getD k iq0).rows)).getD z 0 ∧ (its.getD k iq0).ct * (tbl (cntY (its.getD k iq0).rows)).getD z 0 ≤ 18900 := by rw [tbl_at _ (by omega)]; exact pc_mul (by rw [hct]; exact hpk.1) (cnt_le hce _)
   have htl := tbl_len (cntY (its.getD k iq0).rows)
   have hgx := gmix_le (by rw [pcs_len]; exact hpl) hpm k z
   refine sk (tn (sq (bl (sr (mv rfl (asg rfl (nn ?_)))))))
   replace hb10 := (hb10.ext q7).fr q8 (by simp[blks]<;>omega)
   replace hoC := hoC.fr q8 (by intro k hk hb; simp at hk; subst hk; have := hoC.blk _ hb; omega)
   intro a h
   refine region_heldP (some 12) (fun wb w' => Fr [] wb w') hmix ?_; intro w9 hq
   have z9 := hq.size
   replace hb10 := hb10.ext hq
   replace hoC := hoC.ext hq
   replace hb8 := hb8.ext hq
   have q9 := hq
   clear hq; have hC : Fr [] w9 w9 := Fr.refl _ _
   have hb10_b := hb10
   have hoC_b := hoC
   have hb8_b := hb8
   refine hd_move 0 hC h wn rfl rfl ?_; clear h a; intro a h
   refine hd_idxA 1 hC h wn rfl rfl Tryz.underlying39 sz3 rfl ?_; clear h a; intro a h
   refine hd_loadB 2 hC h wn rfl (fun _ hw => hb8_b.ext hw) (arr_z (gmix (pcs qs) size k z) (by omega)) na3 rfl ?_; clear h a; intro a h
   refine hd_fieldAddr 3 hC h wn rfl fa44_2 rfl ?_; clear h a; intro a h
   refine hd_loadB 4 hC h wn rfl (fun _ hw => hb10_b.ext hw) rfl na3 rfl ?_; clear h a; intro a h
   refine hd_move 5 hC h wn rfl rfl ?_; clear h a; intro a h
   refine hd_move 6 hC h wn rfl rfl ?_; clear h a; intro a h
   refine hd_idxL (p := z) (0) 7 hC h wn rfl hoC.sl rfl el33 rfl ?_; clear h a; intro ad48 hc48 a h
   refine hd_loadC0 8 hC h wn rfl (fun _ hw => hc48 _ (hoC_b.sl.ext hw)) na3 rfl ?_; clear h a; intro a h
   refine hd_mul 9 (by kernel_rfl) (by kernel_rfl) (by kernel_rfl) hC h wn rfl rfl (by first | exact i6 (by omega) | rfl) rfl rfl ?_; clear h a; intro a h
   refine hd_add 10 hC h wn rfl rfl (by first | exact i6 (by omega) | rfl) rfl ?_; clear h a; intro a h
   refine hd_idxA 11 hC h wn rfl rfl Tryz.underlying39 sz3 rfl ?_; clear h a; intro a h
   refine hd_one 12 rfl ?_
   refine st_storeB h rfl rfl hb8 (arr_zt _ (by omega)) rfl rfl sz3 ?_; clear h a; intro w10 hbn hq hz a h
   have z10 := hq.size
   replace hb10 := hb10.fr hq (by simp[blks]<;>omega)
   replace hoC := hoC.fr hq (by intro k hk hb; simp at hk; subst hk; have := hoC.blk _ hb; omega)
   have q10 := hq
   rw [tbl_at _ (by omega), hct, hrw, arrG (pcs_some (by omega)) (by omega)] at hbn; clear hb8 hq hz; have hb8 : Blk w10 g8 _ _ := hbn; clear hbn
   refine hd_past ?_
   refine hd_end ?_
   clear hC hb10_b hoC_b hb8_b
   refine bk (h.sub (L' := [(8, _), (10, _), (11, _), (23, _), (24, _), (25, _), (38, _)]) (.c7 rfl rfl rfl rfl rfl rfl rfl)) ?_; clear h a
   refine bn' (tn (rg (s_add rfl rfl (wi6 (by omega)) (mv rfl (nl ?_)))))
   exact lpE (z + 1) (.c7 rfl rfl rfl rfl rfl rfl rfl) ⟨((Fr.refl [g8] _).z3 q8 q9 q10), ⟨by omega, hb8⟩⟩ (by omega)
  obtain rfl : z = 6 := by omega
  refine ex (te (te (xh (bn' (tn (rg (s_add rfl rfl (wi6 (by omega)) (mv rfl (nl ?_)))))))))
  exact lpE (k + 1) (.c4 rfl rfl rfl rfl) ⟨((Fr.refl [g8] _).z5 q4 q5 q6 q7 q8), ⟨by omega, by rw [← gmix_all]; exact hb8⟩⟩ (by omega)
 obtain rfl : k = qs.length := by omega
 rw [← pcs_len qs, ← need_eq] at hb8
 refine ex (te (te (xh (tn (sr ?_)))))
 refine s_slArr rfl Tryz.underlying39 sz3 rfl rfl ?_
 refine asg rfl (asg rfl (kpL [(4, _), (5, _)] (.c2 rfl rfl) (nn (rt (r2 Tryz.results9 rfl rfl ?_)))))
 exact ⟨_, rfl, _, by rw [h0], fun h => absurd h0 h, fun _ => ⟨⟨_, rfl⟩, blk_own6 hb8 (by omega) (needL_len _ _)⟩, (q1.z3 q2 q3 q4)⟩
end Go.Proofs.YthehggmdcmpjeaaGreatDoor
namespace Go.G14
open Go.Lw
end Go.G14
namespace Go.G14
open Go.Lw
theorem take_add {α : Type} (rows : List α) (n k : Nat) (r : α) (rest : List α) (h : rows.length ≤ 32) (hk : k = min n (32 - rows.length)) : (rows ++ List.replicate k r ++ rest).take 32 = (rows ++ List.replicate n r ++ rest).take 32 := by
 rcases Nat.lt_or_ge (32 - rows.length) n with h1 | h1
 ·have e : k = 32 - rows.length := by omega
  have hL : (rows ++ List.replicate k r ++ rest).take 32 = rows ++ List.replicate k r := by
   rw [show 32 = (rows ++ List.replicate k r).length by simp; omega]; exact List.take_left
  have hR : (rows ++ List.replicate n r ++ rest).take 32 = rows ++ List.replicate k r := by
   rw [List.append_assoc, List.take_append, List.take_of_length_le h, List.take_append_of_le_length (by simp; omega), List.take_replicate]
   congr 2; omega
  rw [hL, hR]
 rw [show k = n by omega]
end Go.G14
namespace Go.G14
open Go.Lw
end Go.G14
namespace Go.G14
open Go.Lw
theorem jn0 (s : List UInt8) : Lib.join [] s = [] := by simp [Lib.join]
theorem jn1 (y s : List UInt8) : Lib.join [y] s = y := by simp [Lib.join]
theorem jn2 (y z s : List UInt8) (ys : List (List UInt8)) : Lib.join (y :: z :: ys) s = y ++ s ++ Lib.join (z :: ys) s := by simp [Lib.join, List.intercalate]
def wGarment : List UInt8 := [103, 97, 114, 109, 101, 110, 116]
def wPiece : List UInt8 := [112, 105, 101, 99, 101]
def wLeft : List UInt8 := [108, 101, 102, 116]
def wTile : List UInt8 := [116, 105, 108, 101]
def wRight : List UInt8 := [114, 105, 103, 104, 116]
def rowT (r : List Stitch) : List UInt8 := if r.length = 0 then [45] else shortS r
def barsT (c : RowL) : List UInt8 := Lib.join (c.map rowT) [32, 124, 32]
def rowsT (word : List UInt8) (c : RowL) : List UInt8 := if c.length = 0 then [] else word ++ [32] ++ barsT c ++ [10]
def numT (n : Int) : List UInt8 := itoaS n.toNat
def headT (p : Pc) : List UInt8 := wPiece ++ [32] ++ p.nm ++ ([32] ++ numT p.ct) ++ ([32] ++ numT p.ba) ++ ([32] ++ numT p.st) ++ ([32] ++ numT p.up) ++ [10]
def pieceT (p : Pc) : List UInt8 := headT p ++ rowsT wLeft p.mot.L ++ rowsT wTile p.mot.T ++ rowsT wRight p.mot.R
def textG (nm : List UInt8) (ps : List Pc) : List UInt8 := wGarment ++ [32] ++ nm ++ [10] ++ (ps.map pieceT).flatten
theorem large_of {c : RowL} (h : largeB c = false) : c.length ≤ 31 ∧ ∀ r ∈ c, r.length ≤ 16 := by
 unfold largeB at h
 rw [Bool.or_eq_false_iff, decide_eq_false_iff_not] at h
 refine ⟨by omega, fun r hr => ?_⟩
 have := List.any_eq_false.1 h.2 r hr
 rw [decide_eq_true_eq] at this; omega
theorem mot_of {m : Mot} (h : motE m = 0) : largeB m.L = false ∧ largeB m.T = false ∧ largeB m.R = false ∧ (m.L.length = 0 ∨ m.L.length = m.T.length) ∧ (m.R.length = 0 ∨ m.R.length = m.T.length) ∧ goodB m.L = true ∧ goodB m.T = true ∧ goodB m.R = true ∧ 1 ≤ m.T.length := by
 have ht := mot_tile h
 unfold motE at h
 split at h
 ·omega
 split at h
 ·omega
 split at h
 ·omega
 rename_i h1 h2 h3
 refine ⟨?_, ?_, ?_, by omega, by omega, ?_, ?_, ?_, ht.1⟩
 ·cases e : largeB m.L; rfl; exact absurd (.inl e) h1
 ·cases e : largeB m.T; rfl; exact absurd (.inr (.inl e)) h1
 ·cases e : largeB m.R; rfl; exact absurd (.inr (.inr e)) h1
 ·cases e : goodB m.L; exact absurd (.inr (.inl e)) h3; rfl
 ·cases e : goodB m.T; exact absurd (.inr (.inr (.inl e))) h3; rfl
 cases e : goodB m.R; exact absurd (.inr (.inr (.inr e))) h3; rfl
theorem rowT_len {r : List Stitch} (h : r.length ≤ 16) : 1 ≤ (rowT r).length ∧ (rowT r).length ≤ 192 ∨ (rowT r).length ≤ 192 := by
 right
 unfold rowT
 split
 ·simp
 have := short_len (xs := r) (by omega) h; omega
theorem rowT_le {r : List Stitch} (h : r.length ≤ 16) : (rowT r).length ≤ 192 := by
 have := rowT_len h; omega
theorem join_le (sep : List UInt8) (k : Nat) : ∀ ys : List (List UInt8), (∀ y ∈ ys, y.length ≤ k) → (Lib.join ys sep).length ≤ ys.length * (k + sep.length)
 | [], _ => by simp [jn0]
 | [y], h => by simp only [jn1, List.length_singleton]; have := h y (by simp); omega
 | y :: z :: ys, h => by
  have h1 := h y (by simp)
  have h2 := join_le sep k (z :: ys) (fun x hx => h x (by simp [hx]))
  simp only [jn2, List.length_append, List.length_cons] at h2 ⊢
  rw [Nat.add_mul]; omega
theorem bars_le {c : RowL} (h : largeB c = false) : (barsT c).length ≤ 31 * 195 := by
 obtain ⟨h1, h2⟩ := large_of h
 have := join_le [32, 124, 32] 192 (c.map rowT) (fun y hy => by obtain ⟨r, hr, rfl⟩ := List.mem_map.1 hy; exact rowT_le (h2 r hr))
 unfold barsT
 rw [List.length_map] at this
 have h3 : c.length * (192 + 3) ≤ 31 * 195 := Nat.mul_le_mul_right _ h1
 simp only [List.length_cons, List.length_nil] at this
 omega
theorem rows_le {w : List UInt8} {c : RowL} (h : largeB c = false) (hw : w.length ≤ 7) : (rowsT w c).length ≤ 7000 := by
 have := bars_le h
 unfold rowsT
 split
 ·simp
 simp only [List.length_append, List.length_cons, List.length_nil]; omega
def gT (nm : List UInt8) (ps : List Pc) (k : Nat) : List UInt8 := wGarment ++ [32] ++ nm ++ [10] ++ ((ps.take k).map pieceT).flatten
theorem gT_all (nm : List UInt8) (ps : List Pc) : gT nm ps ps.length = textG nm ps := by unfold gT textG; rw [List.take_length]
theorem gT_succ {nm : List UInt8} {ps : List Pc} {k : Nat} {p : Pc} (h : ps[k]? = some p) : gT nm ps (k + 1) = gT nm ps k ++ pieceT p := by
 unfold gT; rw [List.take_add_one, h]; simp
def numsT (p : Pc) (z : Nat) : List UInt8 := ([p.ct, p.ba, p.st, p.up].take z).flatMap fun n => [32] ++ numT n
theorem nums_succ (p : Pc) {z : Nat} {n : Int} (h : [p.ct, p.ba, p.st, p.up][z]? = some n) : numsT p (z + 1) = numsT p z ++ ([32] ++ numT n) := by
 unfold numsT; rw [List.take_add_one, h]; simp
theorem nums_all (p : Pc) (x : List UInt8) : x ++ (wPiece ++ [32] ++ p.nm) ++ numsT p 4 ++ [10] = x ++ headT p := by
 simp [numsT, headT]
theorem num_le : ∀ n, n < 100 → (itoaS n).length ≤ 2 := by decide +kernel
theorem numT_le {n : Int} (h : n < 100) : (numT n).length ≤ 2 := num_le _ (by omega)
theorem numsT_le {p : Pc} (h : rightB p = true) (z : Nat) : (numsT p z).length ≤ 12 := by
 have hr := right_of h
 have h1 := numT_le (n := p.ct) (by omega); have h2 := numT_le (n := p.ba) (by omega); have h3 := numT_le (n := p.st) (by omega); have h4 := numT_le (n := p.up) (by omega)
 unfold numsT
 match z with
 | 0 => simp
 | 1 => simp; omega
 | 2 => simp; omega
 | 3 => simp; omega
 | z + 4 => simp; omega
theorem name_le {l : List UInt8} (h : nameB l = true) : l.length ≤ 16 := by
 unfold nameB at h
 rw [Bool.and_eq_true, decide_eq_true_eq] at h; omega
theorem headT_le {p : Pc} (h : rightB p = true) : (headT p).length ≤ 40 := by
 have h1 := nums_all p []
 have h2 := numsT_le h 4
 have h3 := name_le (right_of h).1
 have h4 := congrArg List.length h1
 simp only [List.length_append, List.length_cons, List.length_nil, wPiece] at h4
 omega
theorem pieceT_le {p : Pc} (h : rightB p = true) (hm : motE p.mot = 0) : (pieceT p).length ≤ 21100 := by
 have h1 := headT_le h
 obtain ⟨a, b, c, _⟩ := mot_of hm
 have h2 := rows_le (w := wLeft) a (by simp [wLeft]); have h3 := rows_le (w := wTile) b (by simp [wTile]); have h4 := rows_le (w := wRight) c (by simp [wRight])
 unfold pieceT
 simp only [List.length_append]; omega
theorem flatT_le {α : Type} {f : α → List UInt8} {b : Nat} : ∀ {l : List α}, (∀ x ∈ l, (f x).length ≤ b) → ((l.map f).flatten).length ≤ l.length * b
 | [], _ => by simp
 | x :: xs, h => by
  have h1 := h x (by simp)
  have ih := flatT_le (f := f) (b := b) (l := xs) fun y hy => h y (by simp [hy])
  rw [List.map_cons, List.flatten_cons, List.length_append, List.length_cons, Nat.add_mul]; omega
theorem gT_le {nm : List UInt8} {ps : List Pc} (h : garE nm ps = 0) (k : Nat) : (gT nm ps k).length ≤ 170000 := by
 obtain ⟨h8, _, hn, hr, hm, _⟩ := gar_of h
 have h1 := name_le hn
 have h2 := flatT_le (f := pieceT) (b := 21100) (l := ps.take k) fun p hp => pieceT_le (hr p (List.mem_of_mem_take hp)) (hm p (List.mem_of_mem_take hp))
 have h3 : (ps.take k).length ≤ 8 := by rw [List.length_take]; omega
 have h4 := Nat.mul_le_mul_right 21100 h3
 unfold gT
 simp only [List.length_append, List.length_cons, List.length_nil, wGarment]; omega
def garText (nm : List UInt8) (ps : List Pc) : List UInt8 := if garE nm ps = 0 then textG nm ps else []
def stg {α : Type} (l : List α) (e : α) (i : Nat) : List α := l.take i ++ List.replicate (l.length - i) e
theorem stg_zero {α : Type} (l : List α) (e : α) : stg l e 0 = List.replicate l.length e := by simp [stg]
theorem stg_all {α : Type} {l : List α} {e : α} {n : Nat} (h : l.length ≤ n) : stg l e n = l := by
 unfold stg; rw [List.take_of_length_le h, show l.length - n = 0 by omega]; simp
theorem stg_len {α : Type} (l : List α) (e : α) (i : Nat) : (stg l e i).length = l.length := by unfold stg; rw [List.length_append, List.length_take, List.length_replicate]; omega
theorem stg_set {α : Type} {l : List α} {e x : α} {i : Nat} (h : l[i]? = some x) : (stg l e i).set i x = stg l e (i + 1) := by
 have hi := (List.getElem?_eq_some_iff.1 h).1
 unfold stg
 have hl : (l.take i).length = i := by rw [List.length_take]; omega
 rw [List.set_append_right _ _ (by omega), hl, Nat.sub_self, show l.length - i = (l.length - (i + 1)) + 1 by omega, List.replicate_succ, List.set_cons_zero, List.take_add_one, h, List.append_assoc]; rfl
theorem row_at {c : RowL} {i : Nat} {r : List Stitch} {x : List UInt8} (hr : c.getD i [] = r) (hi : i < c.length) (hx : rowT r = x) : (c.map rowT)[i]? = some x := by
 subst hr hx
 rw [List.getElem?_map, List.getElem?_eq_getElem hi, List.getD, List.getElem?_eq_getElem hi]; rfl
theorem good_at {c : RowL} {i : Nat} {r : List Stitch} (h : goodB c = true) (hr : c.getD i [] = r) (hi : i < c.length) : r.all okB = true := by
 subst hr
 exact List.all_eq_true.1 h _ (getD_memS hi)
theorem large_at {c : RowL} {i : Nat} {r : List Stitch} (h : largeB c = false) (hr : c.getD i [] = r) (hi : i < c.length) : r.length ≤ 16 := by
 subst hr
 exact (large_of h).2 _ (getD_memS hi)
theorem rowT_0 {r : List Stitch} (h : r.length = 0) : rowT r = [45] := if_pos h
theorem rowT_1 {r : List Stitch} (h : ¬ r.length = 0) : rowT r = shortS r := if_neg h
def bars2 (c : RowL) (i : Nat) : List UInt8 := ((c.take i).map fun r => [32, 124] ++ ([32] ++ rowT r)).flatten.drop 2
theorem bars_join : ∀ ys : List (List UInt8), ys ≠ [] → ((ys.map fun y => [32, 124] ++ ([32] ++ y)).flatten.drop 2 : List UInt8) = [32] ++ Lib.join ys [32, 124, 32]
 | [], h => absurd rfl h
 | [y], _ => by simp [jn1]
 | y :: z :: ys, _ => by
  have ih := bars_join (z :: ys) (by simp)
  rw [jn2]
  simp only [List.map_cons, List.flatten_cons, List.append_assoc, List.cons_append, List.nil_append, List.drop_succ_cons, List.drop_zero] at ih ⊢
  rw [ih]
theorem bars2_zero (c : RowL) : bars2 c 0 = [] := by simp [bars2]
theorem bars2_one {c : RowL} {r : List Stitch} (hr : c.getD 0 [] = r) (h : 0 < c.length) : bars2 c 1 = [32] ++ rowT r := by
 subst hr
 match c, h with
 | x :: xs, _ => simp [bars2]
theorem bars2_succ {c : RowL} {i : Nat} {r : List Stitch} (hr : c.getD i [] = r) (h1 : 0 < i) (h : i < c.length) : bars2 c (i + 1) = bars2 c i ++ [32, 124] ++ ([32] ++ rowT r) := by
 subst hr
 unfold bars2
 rw [take_one c i [] h, List.map_append, List.flatten_append, List.drop_append_of_le_length]
 ·simp
 match c, i, h1, h with
 | x :: xs, i + 1, _, _ => simp
theorem bars2_all {c : RowL} (h : ¬ c.length = 0) (word : List UInt8) : word ++ bars2 c c.length ++ [10] = rowsT word c := by
 unfold bars2 rowsT barsT
 rw [if_neg h, List.take_length]
 have := bars_join (c.map rowT) (fun e => h (by simpa using congrArg List.length e))
 rw [List.map_map] at this
 rw [show ((fun y : List UInt8 => [32, 124] ++ ([32] ++ y)) ∘ rowT) = fun r => [32, 124] ++ ([32] ++ rowT r) from rfl] at this
 rw [this]; simp only [List.append_assoc]
theorem bars2_le {c : RowL} (h : largeB c = false) (i : Nat) : (bars2 c i).length ≤ 31 * 195 := by
 obtain ⟨h1, h2⟩ := large_of h
 have := flatT_le (f := fun r => [32, 124] ++ ([32] ++ rowT r)) (b := 195) (l := c.take i) fun r hr => by
  have := rowT_le (h2 r (List.mem_of_mem_take hr))
  simp only [List.length_append, List.length_cons, List.length_nil]; omega
 have h3 : (c.take i).length ≤ 31 := by rw [List.length_take]; omega
 have h4 := Nat.mul_le_mul_right 195 h3
 unfold bars2
 rw [List.length_drop]; omega
theorem gT_zero (nm : List UInt8) (ps : List Pc) : gT nm ps 0 = [] ++ ([103, 97, 114, 109, 101, 110, 116, 32] ++ nm ++ [10]) := by simp [gT, wGarment]
theorem gT_step {nm : List UInt8} {ps : List Pc} {k : Nat} {p : Pc} (h : ps[k]? = some p) :
    gT nm ps k ++ (wPiece ++ [32] ++ p.nm) ++ numsT p 4 ++ [10] ++ rowsT wLeft p.mot.L ++ rowsT wTile p.mot.T ++ rowsT wRight p.mot.R = gT nm ps (k + 1) := by
  rw [nums_all, gT_succ h, pieceT]; simp only [List.append_assoc]
abbrev numL (p : Pc) : List Int := [p.ct, p.ba, p.st, p.up]
theorem num_at (p : Pc) {z : Nat} (hz : z < 4) : (numL p)[z]? = some ((numL p).getD z 0) := by
 match z, hz with
 | 0, _ => rfl
 | 1, _ => rfl
 | 2, _ => rfl
 | 3, _ => rfl
theorem num_cell (p : Pc) {z : Nat} (hz : z < 4) : ([.int .i64 p.ct, .int .i64 p.ba, .int .i64 p.st, .int .i64 p.up] : List Value)[((z : Int)).toNat]? = some (.int .i64 ((numL p).getD z 0)) := by
 rw [Int.toNat_natCast]
 match z, hz with
 | 0, _ => rfl
 | 1, _ => rfl
 | 2, _ => rfl
 | 3, _ => rfl
theorem num_rng {p : Pc} (h : rightB p = true) {z : Nat} (hz : z < 4) : 0 ≤ (numL p).getD z 0 ∧ (numL p).getD z 0 < 100 := by
 have hr := right_of h
 match z, hz with
 | 0, _ => show 0 ≤ p.ct ∧ p.ct < 100; omega
 | 1, _ => show 0 ≤ p.ba ∧ p.ba < 100; omega
 | 2, _ => show 0 ≤ p.st ∧ p.st < 100; omega
 | 3, _ => show 0 ≤ p.up ∧ p.up < 100; omega
theorem numT_small {n : Int} (h : 0 ≤ n ∧ n < 10) : numT n = [UInt8.ofNat (48 + n.toNat)] := by
 obtain ⟨k, rfl⟩ := Int.eq_ofNat_of_zero_le h.1
 have hk : k < 10 := by omega
 have : ∀ k, k < 10 → itoaS k = [UInt8.ofNat (48 + k)] := by decide +kernel
 unfold numT; rw [Int.toNat_natCast]; exact this k hk
theorem numT_big {n : Int} (h : 10 ≤ n ∧ n < 100) : numT n = numT (n / 10) ++ [UInt8.ofNat (48 + (n % 10).toNat)] := by
 obtain ⟨k, rfl⟩ := Int.eq_ofNat_of_zero_le (show 0 ≤ n by omega)
 have hk : k < 100 := by omega
 have : ∀ k, k < 100 → 10 ≤ k → itoaS k = itoaS (k / 10) ++ [UInt8.ofNat (48 + k % 10)] := by decide +kernel
 unfold numT
 rw [show ((k : Int) / 10).toNat = k / 10 by omega, show ((k : Int) % 10).toNat = k % 10 by omega, Int.toNat_natCast]
 exact this k hk (by omega)
theorem digc {n : Int} (h : 0 ≤ n ∧ n < 10) : [Value.int .u8 (48 + n)].map Value.cells = [UInt8.ofNat (48 + n.toNat)].map (fun y => (Enc.b.enc y).toArray) := by
 have e : ((UInt8.ofNat (48 + n.toNat)).toNat : Int) = 48 + n := by rw [UInt8.toNat_ofNat']; omega
 show [#[Value.int .u8 (48 + n)]] = [#[Value.int .u8 ((UInt8.ofNat (48 + n.toNat)).toNat : Int)]]
 rw [e]
theorem rows_nil {w : List UInt8} {c : RowL} (h : c.length = 0) : rowsT w c = [] := if_pos h
theorem sllen {w : World} {p : SV} {rows : RowL} (h : Sll encSt w (slv p) rows) : p.2.1 = rows.length := by
 obtain ⟨rs, h1, _, h2⟩ := Sll.opn h
 rw [sl_len h1, ← h2, List.length_map]
end Go.G14
namespace Go.Lw
open Go.RowKit
def Bld (T e b : Nat) (l : List UInt8) (w : World) : Prop := Lib.IsBuilder T e b b (Lib.byteCells l) w
theorem Bld.ext {T e b : Nat} {l : List UInt8} {w w' : World} (h : Bld T e b l w) (hf : Fr [] w w') : Bld T e b l w' := isB_fr h hf
theorem Bld.lt {T e b : Nat} {l : List UInt8} {w : World} (h : Bld T e b l w) : b < w.heap.size := h.elim Lib.BuilderAt.lt Lib.BuilderAt.lt
theorem Bld.new {T e b : Nat} {w : World} (h : Blk w b T [.pointer none, .slice none 0 0]) : Bld T e b [] w := .inl ⟨Nat.le_refl _, .slice none 0 0, h, ⟨rfl, .inl ⟨rfl, rfl⟩⟩, by simp [Value.ownBlock]⟩
theorem below_frS {w w' : World} {B : Nat} (h : Below B w w') : ∃ S : List Nat, (∀ k ∈ S, B ≤ k) ∧ Fr S w w' :=
 ⟨(List.range w.heap.size).filter (fun k => decide (B ≤ k)), fun k hk => by simpa using (List.mem_filter.1 hk).2, ⟨h.os, h.tape, h.output, h.size, fun k hk hn => h.block k (by
  rcases Nat.lt_or_ge k B with h' | h'
  ·exact h'
  exact absurd (List.mem_filter.2 ⟨List.mem_range.2 hk, by simpa using h'⟩) hn)⟩⟩
theorem bld_frame {w0 w1 w2 w3 : World} {b e : Nat} {v : Value} {n : Nat} {xs : List Value} (h1 : Fr [b] w0 w1) (hown : w1.ownsRow b e 1 v n xs) (h2 : Fr v.ownBlock.toList w1 w2) (h3 : Fr [b] w2 w3) :
    ∃ S : List Nat, (∀ k ∈ S, b ≤ k) ∧ (∀ k ∈ S, ∀ T cs, Blk w0 k T cs → k = b ∨ T = e) ∧ Fr S w0 w3 := by
  refine ⟨b :: v.ownBlock.toList, ?_, ?_, ?_⟩
  · intro k hk
    rcases List.mem_cons.1 hk with rfl | hk
    · exact Nat.le_refl _
    · exact own_ge hown k hk
  · intro k hk T cs hb
    by_cases e1 : k = b
    · exact .inl e1
    right
    have hk' : k ∈ v.ownBlock.toList := by
      rcases List.mem_cons.1 hk with h | h
      · exact absurd h e1
      · exact h
    have hb1 : Blk w1 k T cs := hb.fr h1 (by simpa using e1)
    obtain ⟨-, ⟨rfl, -⟩ | ⟨g, cap, cur, rfl, h2, hg, -⟩⟩ := hown
    · simp [Value.ownBlock] at hk'
    · obtain rfl : k = g := by simpa [Value.ownBlock] using hk'
      have hb2 : w1.heap[k]? = some (.cells cs.toArray T (0, 0)) := hb1
      rw [hg] at hb2
      cases hb2; rfl
  · refine ⟨by rw [h3.os, h2.os, h1.os], by rw [h3.tape, h2.tape, h1.tape], by rw [h3.output, h2.output, h1.output], Nat.le_trans h1.size (Nat.le_trans h2.size h3.size), fun k hk hn => ?_⟩
    have hn1 : k ∉ [b] := fun e => hn (by simp at e; simp [e])
    have hn2 : k ∉ v.ownBlock.toList := fun e => hn (List.mem_cons_of_mem _ e)
    rw [h3.block k (Nat.lt_of_lt_of_le hk (Nat.le_trans h1.size h2.size)) hn1, h2.block k (Nat.lt_of_lt_of_le hk h1.size) hn2, h1.block k hk hn1]
end Go.Lw
namespace Go.Proofs.YthehggmdcmpjeaaGreatDoor
open Go.Lw Go.G14
theorem co73 : CallOf Tryz.prog 73 := mkC Tryz.func73
theorem co74 : CallOf Tryz.prog 74 := mkC Tryz.func74
theorem join_ok (v : Value) (ys : List (List UInt8)) (sep : List UInt8) (base T : Nat) (w0 : World) (hO : Lw.Own Enc.str T base w0 v ys) (hne : ys ≠ []) (hl : (Lib.join ys sep).length ≤ 1000000) (hl2 : ys.length ≤ 1000000) : Rets Tryz.prog 74 #[v, S sep] w0 fun r w' => r = S (Lib.join ys sep) ∧ Fr [] w0 w' := by
 rcases hO with ⟨_, e⟩ | ⟨g, cap, cur, rfl, hb, hg, h1, h2, h3, h4⟩
 ·exact absurd e hne
 have hm : (ys.map (fun y => (⟨y.toArray⟩ : ByteArray))).map (·.data.toList) = ys := by rw [List.map_map]; simp [Function.comp_def]
 have hO : Lw.Own Enc.str T base w0 (.slice (some ⟨g, 0, none⟩) ys.length cap) ys := .inr ⟨g, cap, cur, rfl, hb, hg, h1, h2, h3, h4⟩
 have hj := Tryz.strings_Join g 0 cap (ys.map (fun y => (⟨y.toArray⟩ : ByteArray))) ⟨sep.toArray⟩ w0 (fun j x hx => by
  rw [List.getElem?_map, Option.map_eq_some_iff] at hx
  obtain ⟨y, hy, rfl⟩ := hx
  obtain ⟨A, c, e, _, _, hA⟩ := hO.sl
  cases e
  obtain ⟨ad, e1, hc⟩ := hA j y hy
  cases e1
  have := hc 0 (S y) rfl
  rw [lit_add, lit_add, Nat.add_zero, show Enc.str.sz = 1 from rfl, Nat.mul_one] at this
  exact this) ((Array.getElem?_eq_some_iff.1 hg).1) (by simp; omega) (by simp; omega) (by rw [hm]; simp; omega)
 rw [hm, List.length_map] at hj
 refine Calls.mono hj ?_
 rintro e w' ⟨rfl, hb⟩
 exact ⟨_, rfl, by simp [S], Fr.of_below hb⟩
theorem inum_ok (n : Int) (w0 : World) (h0 : 0 ≤ n) (h1 : n < 100) : Rets Tryz.prog 38 #[.int .i64 n] w0 fun v w' => v = S (numT n) ∧ w0 = w' := by
 obtain ⟨k, rfl⟩ := Int.eq_ofNat_of_zero_le h0
 exact itoa_ok k w0 (by omega)
theorem shortg_ok (u : Value) (xs : List Stitch) (w0 : World) (hu : Sl encSt w0 u xs) (hy : Sym w0) (hok : xs.all okB = true) (h1 : 1 ≤ xs.length) (h16 : xs.length ≤ 16) : Rets Tryz.prog 73 #[u] w0 fun v w' => v = .tuple #[S (shortS xs), .int .i64 0] ∧ Fr [] w0 w' := by
 have := shorten_ok u xs w0 hu hy
 rwa [shorten_good hok h1 h16] at this
set_option maxHeartbeats 1000000 in
theorem grows_ok (word : List UInt8) (v : Value) (c : RowL) (w0 : World) (hs : Sll encSt w0 v c) (hy : Sym w0) (hL : largeB c = false) (hg : goodB c = true) (hw : word.length ≤ 7) : Rets Tryz.prog 39 #[S word, .agg #[v]] w0 fun r w' => r = S (rowsT word c) ∧ Fr [] w0 w' := by
 have hlg := large_of hL
 obtain ⟨rs, hrs, hqr, hrm⟩ := Sll.opn hs
 have hrc : rs.length = c.length := by rw [← hrm, List.length_map]
 obtain ⟨A, cp, rfl, hcc, hM, hA⟩ := id hrs
 clear hA
 unfold maxLen at hM
 have hgd := fun i (hi : i < rs.length) => gd_rows hrm hi
 refine we [(0, S word), (1, .agg #[.slice A rs.length cp])] Tryz.func39 rfl Tryz.ntmps39 rfl (.c2 rfl rfl) ?_
 have hs0 := hs
 have hrs0 := hrs
 have hqr0 := hqr
 have hy0 := hy
 refine sr (bx rfl rfl rfl (fun g3 w1 hg3 hb3 q1 z1 => ?_))
 refine asg rfl (nn (sq (sr (fad rfl fa42_0 (s_loadB rfl hb3 rfl na40 (lnS rfl Tryz.underlying40 (eq' rfl rfl (nn ?_))))))))
 refine cd rfl (fun c0 => ?_) (fun c0 => ?_)
 ·refine sr (asg rfl (nn (rt (tr (r1 Tryz.results39 rfl ?_)))))
  exact ⟨_, rfl, by rw [rowsT, if_pos (by omega)]; rfl, q1⟩
 refine sk (tn (sr (fad rfl fa42_0 (s_loadB rfl hb3 rfl na40 (lnS rfl Tryz.underlying40 ?_)))))
 refine s_makeSlice (m := rs.length) (c := rs.length) (([] : List UInt8)) rfl rfl el67 zv9 rfl (Nat.le_refl _) (by unfold maxLen; omega) (fun g15 w2 hg15 hoT q2 z2 => ?_)
 replace hoT : Lw.Own Enc.str 9 g15 w2 (.slice (some ⟨g15, 0, none⟩) rs.length rs.length) (stg (c.map rowT) [] 0) := by rw [stg_zero, List.length_map, ← hrc]; exact hoT
 refine asg rfl (nn (sq (sr (fad rfl fa42_0 ?_))))
 replace hb3 := hb3.ext q2
 refine s_loadB rfl hb3 rfl na40 (lnS rfl Tryz.underlying40 (mv rfl (nn (bl ?_))))
 refine lpK (ι := Nat) [(0, _), (5, _), (17, _), (18, _)] (fun i => [(19, .int .i64 (i : Int))]) (fun i w' => Fr [g15] w2 w' ∧ i ≤ rs.length ∧ Lw.Own Enc.str 9 g15 w' (.slice (some ⟨g15, 0, none⟩) rs.length rs.length) (stg (c.map rowT) [] i)) (fun i => rs.length - i) 0 (.c5 rfl rfl rfl rfl rfl) ⟨Fr.refl _ _, ⟨Nat.zero_le _, hoT⟩⟩ ?_
 rintro i w3 ⟨q3, ⟨hi, hoT⟩⟩
 have z3 := q3.size
 refine kpC [(0, _), (5, _), (17, _), (18, _), (19, _)] (.c5 rfl rfl rfl rfl rfl) ?_
 refine sr (lt' rfl rfl (nn (sq ?_)))
 refine cd rfl (fun c1 => ?_) (fun c1 => ?_)
 ·replace hqr := hqr0.ext (q1.z2 q2 q3)
  have hgi := hgd i (by omega)
  have hri := good_at hg hgi (by omega)
  have hrl := large_at hL hgi (by omega)
  have hjl := sl_len (hqr (rs.getD i rq0) (getD_memS (by omega)))
  refine sk (tn (sq (bl (sr (mv rfl ?_)))))
  replace hrs := hrs0.ext (q1.z2 q2 q3)
  refine s_idxL (rq0) rfl hrs rfl er40 nat_of (fun ad22 hc22 => ?_)
  refine s_loadC0 rfl (hc22 _ hrs) na88 (asg rfl (asg rfl (nn (sr (mv rfl (mv rfl ?_))))))
  refine s_ixs (p := i) ([45]) rfl hoT rfl rfl (by intro e; cases e) el67 sz9 rfl (by first | omega | (simp only [List.length_append, List.length_replicate, stg_len, List.length_map, List.length_nil]; omega)) rfl (fun w4 hoT q4 z4 => ?_)
  replace q4 : Fr [g15] _ _ := q4
  refine nn (sr (mv rfl (lnS rfl Tryz.underlying88 (gt' rfl rfl (nn ?_)))))
  refine cd rfl (fun c2 => ?_) (fun c2 => ?_)
  ·refine rg (mv rfl (mv rfl (mv rfl ?_)))
   replace hqr := hqr0.ext (q1.z3 q2 q3 q4)
   replace hy := hy0.ext (q1.z3 q2 q3 q4)
   refine cl (ev1 rfl) co73 (shortg_ok _ (rs.getD i rq0).2 _ (hqr _ (getD_memS (by omega))) hy hri (by omega) hrl) rfl ?_
   rintro _ w5 ⟨rfl, q5⟩
   have z5 := q5.size
   refine mv rfl (xt rfl rfl (xt rfl rfl ?_))
   replace hoT := hoT.ext q5
   refine s_ixs (p := i) ((shortS (rs.getD i rq0).2)) rfl hoT rfl rfl (by intro e; cases e) el67 sz9 rfl (by first | omega | (simp only [List.length_append, List.length_replicate, List.length_set, stg_len, List.length_map, List.length_nil]; omega)) rfl (fun w6 hoT q6 z6 => ?_)
   replace q6 : Fr [g15] _ _ := q6
   refine kpL [(0, _), (5, _), (17, _), (18, _), (19, _)] (.c5 rfl rfl rfl rfl rfl) (nl (bn' (tn (rg (s_add rfl rfl (wi6 (by omega)) (mv rfl (nl ?_)))))))
   exact lpE (i + 1) (.c5 rfl rfl rfl rfl rfl) ⟨((Fr.refl [g15] _).z4 q3 q4 q5 q6), ⟨by omega, by first | (rw [List.set_set, stg_set (row_at hgi (by omega) (rowT_1 (by omega)))] at hoT; exact hoT) | (rw [stg_set (row_at hgi (by omega) (rowT_0 (by omega)))] at hoT; exact hoT)⟩⟩ (by omega)
  refine sk (bn' (tn (rg (s_add rfl rfl (wi6 (by omega)) (mv rfl (nl ?_))))))
  exact lpE (i + 1) (.c5 rfl rfl rfl rfl rfl) ⟨((Fr.refl [g15] _).z2 q3 q4), ⟨by omega, by first | (rw [List.set_set, stg_set (row_at hgi (by omega) (rowT_1 (by omega)))] at hoT; exact hoT) | (rw [stg_set (row_at hgi (by omega) (rowT_0 (by omega)))] at hoT; exact hoT)⟩⟩ (by omega)
 obtain rfl : i = rs.length := by omega
 rw [stg_all (by rw [List.length_map]; omega)] at hoT
 refine ex (te (te (xh (tn (sr (mv rfl (s_adds rfl rfl (mv rfl ?_) (hb := (by have := bars_le hL; unfold barsT at this; simp only [List.length_append, List.length_cons, List.length_nil]; omega)))))))))
 refine cl (ev2 rfl rfl) co74 (join_ok _ (c.map rowT) [32, 124, 32] _ _ _ hoT (fun e => by have := congrArg List.length e; rw [List.length_map, List.length_nil] at this; omega) (by have := bars_le hL; unfold barsT at this; omega) (by rw [List.length_map]; omega)) rfl ?_
 rintro _ w7 ⟨rfl, q7⟩
 have z7 := q7.size
 refine s_adds rfl rfl (s_adds rfl rfl (asg rfl (kpL [(4, _)] (.cons rfl .nil) (nn (rt (r1 Tryz.results39 rfl ?_))))) (hb := (by have := bars_le hL; unfold barsT at this; simp only [List.length_append, List.length_cons, List.length_nil]; omega))) (hb := (by have := bars_le hL; unfold barsT at this; simp only [List.length_append, List.length_cons, List.length_nil]; omega))
 exact ⟨_, rfl, by rw [rowsT, if_neg (by omega)]; rfl, (q1.z3 q2 q3 q7)⟩
end Go.Proofs.YthehggmdcmpjeaaGreatDoor
namespace Go.Proofs.YthehggmdcmpjeaaGreatDoor
open Go.Lw Go.G14
theorem co71 : CallOf Tryz.prog 71 := mkC Tryz.func71
theorem fa109_0 : FieldAt Tryz.prog 109 0 0 := fun _ _ => by kernel_rfl
theorem fa109_1 : FieldAt Tryz.prog 109 1 1 := fun _ _ => by kernel_rfl
theorem na107 : NotAgg Tryz.prog 107 := fun _ => by kernel_rfl
theorem sz75 : SizeOf Tryz.prog 75 1 := fun _ => by kernel_rfl
theorem sz107 : SizeOf Tryz.prog 107 1 := fun _ => by kernel_rfl
theorem infoBd : ∃ j, Tryz.prog.info? 109 = some j ∧ j.size = 2 := Option.map_eq_some_iff.1 (show (Tryz.prog.info? 109).map (·.size) = some 2 by kernel_rfl)
theorem infoBy : (Tryz.prog.info? 5).map (fun i => (i.zero, i.size, i.bytes)) = some (some (.int .u8 0), 1, 1) := by kernel_rfl
theorem liesBd : liesAt Tryz.prog Tryz.prog.depth 109 (2 / Tryz.prog.cellsOf 109) 0 109 1 = true := by kernel_rfl
theorem noEscape (u : Value) (w : World) : (callFunc 106 #[u]).run Tryz.prog w = .ok (.value u) w := by
 rw [run_callFunc_extern Tryz.func106 (by kernel_rfl) (by kernel_rfl) (by kernel_rfl) (e := Extern.AbiNoEscape.same) (by kernel_rfl), Lib.run_noEscape]; rfl
theorem copycheck_ok (B b : Nat) (bs : List Value) (w0 : World) (hI : Lib.IsBuilder 109 5 B b bs w0) : Rets Tryz.prog 71 #[.pointer (some ⟨b, 0, none⟩)] w0 fun v w' => Lib.BuilderAt 109 5 B b (.pointer (some ⟨b, 0, none⟩)) bs w' ∧ RowKit.Below B w0 w' ∧ Fr [b] w0 w' := by
 obtain ⟨po, hpo, hAt⟩ : ∃ po, (po = none ∨ po = some ⟨b, 0, none⟩) ∧ Lib.BuilderAt 109 5 B b (.pointer po) bs w0 := hI.elim (fun h => ⟨none, .inl rfl, h⟩) (fun h => ⟨_, .inr rfl, h⟩)
 have hsh := hAt.shape
 obtain ⟨j, hj, hj2⟩ := infoBd
 obtain ⟨hB, v, hbk, hown, hne⟩ := hAt
 have hbl : Blk w0 b 109 [.pointer po, v] := hbk
 refine enter [(0, .pointer (some ⟨b, 0, none⟩))] Tryz.func71 rfl Tryz.ntmps71 rfl (.cons rfl .nil) ?_
 intro a h
 refine wp_seq ?_
 refine wp_region_lit ?_
 refine tW h (mv rfl (nlc rfl (fad rfl fa109_0 (s_loadB rfl hbl rfl na107 (s_eqnilP rfl Tryz.underlying107 rfl (kL [(0, _), (6, _)] (.c2 rfl rfl) ?_)))))); clear h a; intro a h
 refine wpList_nil (norm_then ?_)
 refine cS h rfl (fun c0=>?_) (fun c0=>?_)
 ·obtain rfl : po = none := by cases po with | none => rfl | some x => cases c0
  refine wp_region_lit ?_
  refine tW h (mv rfl (mv rfl (s_toUnsafe rfl Tryz.underlying107 Tryz.underlying203 hj (by omega) hsh Nat.zero_lt_two rfl (s_same rfl noEscape rfl (s_fromUnsafe rfl Tryz.underlying203 Tryz.underlying107 hj hsh liesBd rfl (nlc rfl (fad rfl fa109_0 ?_))))))); clear h a; intro a h
  refine st_storeB h rfl rfl hbl rfl rfl rfl sz107 ?_; clear h a; intro w1 hbn hq hz a h
  replace h : Ag a 20 [] := h.sub .nil
  refine wpList_nil ?_
  refine ret0n h Tryz.results71  ?_
  exact ⟨_, rfl, bAt_mk hB hbn hown hq hne, below_of_fr hq (by simpa using hB) (Nat.le_trans hB (Nat.le_of_lt hbl.lt)), hq⟩
 obtain rfl : po = some ⟨b, 0, none⟩ := hpo.resolve_left (fun e => by rw [e] at c0; cases c0)
 refine wp_seq ?_
 refine wp_region_lit ?_
 refine tW h (mv rfl (nlc rfl (fad rfl fa109_0 (s_loadB rfl hbl rfl na107 (mv rfl (s_neSameP rfl rfl Tryz.underlying107 hj rfl (kL [(19, _)] (.cons rfl .nil) ?_))))))); clear h a; intro a h
 refine wpList_nil (norm_then ?_)
 refine cond_false h rfl ?_
 refine wp_skip ?_
 refine ret0n h Tryz.results71  ?_
 exact ⟨_, rfl, ⟨hB, v, hbk, hown, hne⟩, RowKit.Below.refl _ _, Fr.refl _ _⟩
theorem bws_ok (b : Nat) (l s : List UInt8) (w0 : World) (hI : Bld 109 5 b l w0) (hM : l.length + s.length ≤ 16777216) : Rets Tryz.prog 37 #[.pointer (some ⟨b, 0, none⟩), S s] w0 fun v w' => Bld 109 5 b (l ++ s) w' ∧ ∃ S, (∀ k ∈ S, b ≤ k) ∧ (∀ k ∈ S, ∀ T cs, Blk w0 k T cs → k = b ∨ T = 5) ∧ Fr S w0 w' := by
 have hI' := hI
 replace hI : Lib.IsBuilder 109 5 b b (Lib.byteCells l) w0 := hI'
 refine enter [(0, .pointer (some ⟨b, 0, none⟩)), (1, S s)] Tryz.func37 rfl Tryz.ntmps37 rfl (.c2 rfl rfl) ?_
 intro a h
 refine wp_seq ?_
 refine wp_region_lit ?_
 refine tW h (asg rfl (asg rfl (kL [(0, _), (1, _)] (.c2 rfl rfl) ?_))); clear h a; intro a h
 refine wpList_nil (norm_then ?_)
 refine wp_seq ?_
 refine wp_region_lit ?_
 refine st_move h rfl rfl ?_; clear h a; intro a h
 refine st_call h (evs_cons rfl evs_nil) co71 (copycheck_ok _ _ _ _ hI) ?_; clear h a; rintro _ w1 ⟨hAt, hq1, hqf⟩ a h
 obtain ⟨hB, v, hbk, hown, hne⟩ := hAt
 have hbl : Blk w1 b 109 [.pointer (some ⟨b, 0, none⟩), v] := hbk
 have hbz := hbl.lt
 rw [Lib.byteCells_length] at hown
 replace h : Ag a 19 [(0, _), (1, _)] := h.sub (.c2 rfl rfl)
 refine wpList_nil (norm_then ?_)
 refine wp_seq ?_
 refine wp_region_lit ?_
 refine tW h (mv rfl (mv rfl (nlc rfl (fad rfl fa109_1 (s_loadB rfl hbl rfl na75 (mv rfl ?_)))))); clear h a; intro a h
 refine st_appendStr h rfl rfl Tryz.underlying75 Tryz.underlying9 infoBy hown (by unfold maxLen; omega) (by omega) (by omega) rfl ?_; clear h a; intro v2 w2 hown2 hgr a h
 have hfg := fr_grown hgr
 have hbl2 := hbl.fr hfg (by simpa using hne)
 have hgz := hfg.size
 refine tW h (nlc rfl (fad rfl fa109_1 ?_)); clear h a; intro a h
 refine st_storeB h rfl rfl hbl2 rfl (own_one hown2).1 (own_one hown2).2 sz75 ?_; clear h a; intro w3 hbn hq hz a h
 replace h : Ag a 19 [(1, _)] := h.sub (.cons rfl .nil)
 refine wpList_nil (norm_then ?_)
 refine wp_seq ?_
 refine wp_region_lit ?_
 refine tW h (mv rfl (ln rfl Tryz.underlying9 (asg rfl (asg rfl (kL [(4, _), (5, _)] (.c2 rfl rfl) ?_))))); clear h a; intro a h
 refine wpList_nil (norm_then ?_)
 refine wp_ret (ret2 h Tryz.results37 rfl rfl ?_)
 exact ⟨_, rfl, .inr (bAt_mk hB hbn (row_str hown2) hq (Lib.ownBlock_ne hown2 hbl2 (by decide))), bld_frame hqf hown hfg hq⟩
theorem bst_ok (b : Nat) (l : List UInt8) (w0 : World) (hI : Bld 109 5 b l w0) : Rets Tryz.prog 40 #[.pointer (some ⟨b, 0, none⟩)] w0 fun v w' => v = S l ∧ ∃ S, (∀ k ∈ S, b ≤ k) ∧ Fr S w0 w' := by
 refine Calls.mono (Tryz.Builder_String_any b b l w0 hI (Nat.le_of_lt hI.lt)) ?_
 rintro e w' ⟨rfl, hb⟩
 exact ⟨_, rfl, rfl, below_frS hb⟩
end Go.Proofs.YthehggmdcmpjeaaGreatDoor
namespace Go.Proofs.YthehggmdcmpjeaaGreatDoor
open Go.Lw Go.G14
theorem bo114 : BuildAt Tryz.prog 114 [(0, 1), (1, 1), (2, 1), (3, 1)] [(.int .i64 0), (.int .i64 0), (.int .i64 0), (.int .i64 0)] := BuildAt.array (sz := 1) Tryz.underlying114 (fun _ => by kernel_rfl) (fun _ => by kernel_rfl) (fun i q h => by match i, h with | 0, h => simpa using h.symm | 1, h => simpa using h.symm | 2, h => simpa using h.symm | 3, h => simpa using h.symm | (k + 4), h => simp at h)
theorem co37 : CallOf Tryz.prog 37 := mkC Tryz.func37
theorem co39 : CallOf Tryz.prog 39 := mkC Tryz.func39
theorem co40 : CallOf Tryz.prog 40 := mkC Tryz.func40
theorem zv109 (w : World) : (zeroValue 109).run Tryz.prog w = .ok (.agg #[(.pointer none), (.slice none 0 0)]) w := by kernel_rfl
set_option maxHeartbeats 2000000 in
theorem gtext_ok (nm : List UInt8) (v : Value) (qs : List PQ) (w0 : World) (hs : Sl encPq w0 v qs) (hq : PcsQ w0 qs) (hy : Sym w0) : Rets Tryz.prog 16 #[.agg #[S nm, v]] w0 fun r w' => r = S (garText nm (pcs qs)) ∧ Fr [] w0 w' := by
 obtain ⟨A, c, rfl, hcc, hM, hA⟩ := id hs
 clear hA
 unfold maxLen at hM
 refine we [(0, .agg #[S nm, .slice A qs.length c])] Tryz.func16 rfl Tryz.ntmps16 rfl (.cons rfl .nil) ?_
 have hs0 := hs
 have hq0 := hq
 have hy0 := hy
 refine sr (bx rfl rfl rfl (fun g1 w1 hg1 hb1 q1 z1 => ?_))
 refine asg rfl (nn (sq (sr (s_loadBA rfl hb1 ag27 ?_))))
 replace hs := hs0.ext q1
 replace hq := hq0.ext q1
 refine cl (ev1 rfl) co23 (gcheck_ok nm _ qs _ hs hq) rfl ?_
 rintro _ w2 ⟨rfl, q2⟩
 have z2 := q2.size
 refine ne' rfl rfl (nn ?_)
 refine cd rfl (fun c0 => ?_) (fun c0 => ?_)
 ·refine sr (asg rfl (nn (rt (tr (r1 Tryz.results16 rfl ?_)))))
  exact ⟨_, rfl, by rw [garText, if_neg c0]; rfl, (q1.n1 q2)⟩
 have hg0 : garE nm (pcs qs) = 0 := Classical.not_not.1 c0
 have hga := gar_of hg0
 have hnl := name_le hga.2.2.1
 rw [pcs_len] at hga
 refine sk (tn (sr (al zv109 rfl rfl (fun g3 w3 hg3 hb3 q3 z3 => ?_))))
 have hB : Bld 109 5 g3 [] w3 := Bld.new hb3
 have hB0 := hB
 have hlt3 := hB.lt
 refine nn (sr (fad rfl fa27_0 ?_))
 replace hb1 := hb1.ext (q2.n1 q3)
 refine s_loadB rfl hb1 rfl na9 (s_adds rfl rfl (s_adds rfl rfl ?_))
 refine cl (ev2 rfl rfl) co37 (bws_ok _ _ _ _ hB (by simp only [List.length_append, List.length_cons, List.length_nil, wGarment, wPiece]; omega)) rfl ?_
 rintro _ w4 ⟨hB, Sx, hS4, hTx, q4⟩
 replace hb1 := hb1.fr q4 (fun hk => by have := hS4 g1 hk; omega)
 have z4 := q4.size
 have hB0 := hB
 refine nn (sq (sr (fad rfl fa27_1 (s_loadB rfl hb1 rfl na25 (lnS rfl Tryz.underlying25 (mv rfl (nn (bl ?_))))))))
 refine lpK (ι := Nat) [(3, _), (17, _), (18, _)] (fun k => [(19, .int .i64 (k : Int))]) (fun k w' => Fr [] w0 w' ∧ k ≤ qs.length ∧ Bld 109 5 g3 (gT nm (pcs qs) k) w') (fun k => qs.length - k) 0 (.c4 rfl rfl rfl rfl) ⟨((q1.n2 q2 q3).step q4 (fun k hk hlt => by have := hS4 k hk; first | (exfalso; omega) | (simp; omega))), ⟨Nat.zero_le _, by rw [gT_zero]; exact hB⟩⟩ ?_
 rintro k w5 ⟨q5, ⟨hk, hB⟩⟩
 have z5 := q5.size
 have hB0 := hB
 refine kpC [(3, _), (17, _), (18, _), (19, _)] (.c4 rfl rfl rfl rfl) ?_
 have hlt3 := hB.lt
 refine sr (lt' rfl rfl (nn (sq ?_)))
 refine cd rfl (fun c1 => ?_) (fun c1 => ?_)
 ·have hgl := gT_le hg0 k
  have hpr := hga.2.2.2.1 _ (pcs_mem (show k < qs.length by omega))
  have hpm := hga.2.2.2.2.1 _ (pcs_mem (show k < qs.length by omega))
  have hmo := mot_of hpm
  have hpn := name_le (right_of hpr).1
  have hr1 := rows_le (w := wLeft) hmo.1 (by decide)
  have hr2 := rows_le (w := wTile) hmo.2.1 (by decide)
  have hr3 := rows_le (w := wRight) hmo.2.2.1 (by decide)
  have hn4 := numsT_le hpr 4
  refine sk (tn (sq (bl (sr ?_))))
  replace hs := hs0.ext q5
  refine s_idxL (pq0) rfl hs rfl el25 nat_of (fun ad21 hc21 => ?_)
  refine s_loadA rfl (hc21 _ hs) ag48 (al zv48 rfl rfl (fun g5 w6 hg5 hb5 q6 z6 => ?_))
  refine s_storeBA rfl rfl hb5 rfl sz48 (fun w7 hb5 q7 z7 => ?_)
  refine nn (sr (fad rfl fa48_0 (s_loadB rfl hb5 rfl na9 (s_adds rfl rfl ?_))))
  replace hB := hB0.ext (q6.z1 q7)
  refine cl (ev2 rfl rfl) co37 (bws_ok _ _ _ _ hB (by simp only [List.length_append, List.length_cons, List.length_nil, wGarment, wPiece]; omega)) rfl ?_
  rintro _ w8 ⟨hB, Sx, hS8, hTx, q8⟩
  replace hb5 := hb5.fr q8 (fun hk => by rcases hTx g5 hk _ _ hb5 with e | e; omega; exact absurd e (by decide))
  have z8 := q8.size
  have hB0 := hB
  refine nn (sq (sr (fad rfl fa48_5 (s_loadB rfl hb5 rfl na3 (fad rfl fa48_2 (s_loadB rfl hb5 rfl na3 (fad rfl fa48_3 (s_loadB rfl hb5 rfl na3 (fad rfl fa48_4 (s_loadB rfl hb5 rfl na3 (s_lit (cs := [_, _, _, _]) (ev4 rfl rfl rfl rfl) bo114 (pok_cons rfl rfl rfl (pok_cons rfl rfl rfl (pok_cons rfl rfl rfl (pok_cons rfl rfl rfl pok_nil)))) rfl ?_)))))))))))
  refine mv rfl (kpL [(3, _), (5, _), (17, _), (18, _), (19, _), (35, _), (36, _)] (.c7 rfl rfl rfl rfl rfl rfl rfl) (nn (bl ?_)))
  refine lpK (ι := Nat) [(3, _), (5, _), (17, _), (18, _), (19, _), (35, _)] (fun z => [(36, .int .i64 (z : Int))]) (fun z w' => Fr [] w0 w' ∧ z ≤ 4 ∧ Blk w' g5 48 [S (qs.getD k pq0).p.nm, slv (qs.getD k pq0).l, slv (qs.getD k pq0).t, slv (qs.getD k pq0).r, .int .i64 (qs.getD k pq0).p.ba, .int .i64 (qs.getD k pq0).p.st, .int .i64 (qs.getD k pq0).p.up, .int .i64 (qs.getD k pq0).p.ct] ∧ Bld 109 5 g3 (gT nm (pcs qs) k ++ (wPiece ++ [32] ++ (qs.getD k pq0).p.nm) ++ numsT (qs.getD k pq0).p z) w') (fun z => 4 - z) 0 (.c7 rfl rfl rfl rfl rfl rfl rfl) ⟨((q5.z2 q6 q7).step q8 (fun k hk hlt => by have := hS8 k hk; first | (exfalso; omega) | (simp; omega))), ⟨Nat.zero_le _, ⟨hb5, by rw [show numsT (qs.getD k pq0).p 0 = [] from rfl, List.append_nil]; exact hB⟩⟩⟩ ?_
  rintro z w9 ⟨q9, ⟨hz, ⟨hb5, hB⟩⟩⟩
  have z9 := q9.size
  have lt_hb5 := hb5.lt
  have hB0 := hB
  refine kpC [(3, _), (5, _), (17, _), (18, _), (19, _), (35, _), (36, _)] (.c7 rfl rfl rfl rfl rfl rfl rfl) ?_
  have hlt3 := hB.lt
  refine sr (lt' rfl rfl (nn (sq ?_)))
  refine cd rfl (fun c2 => ?_) (fun c2 => ?_)
  ·have hnr := num_rng hpr (z := z) (by omega)
   have hnz := numsT_le hpr z
   have hnt := numT_le hnr.2
   refine sk (tn (sq (bl (sr ?_))))
   refine s_ixv (v := .int .i64 ((numL (qs.getD k pq0).p).getD z 0)) rfl rfl Tryz.underlying114 sz3 na3 (by omega) (by omega) (num_cell _ (by omega)) rfl ?_
   refine asg rfl (nn (rg (mv rfl ?_)))
   refine cl (ev1 rfl) co38 (inum_ok _ _ hnr.1 hnr.2) rfl ?_
   rintro _ _ ⟨rfl, rfl⟩
   refine s_adds rfl rfl ?_
   refine cl (ev2 rfl rfl) co37 (bws_ok _ _ _ _ hB (by simp only [List.length_append, List.length_cons, List.length_nil, wGarment, wPiece]; omega)) rfl ?_
   rintro _ w10 ⟨hB, Sx, hS10, hTx, q10⟩
   replace hb5 := hb5.fr q10 (fun hk => by rcases hTx g5 hk _ _ hb5 with e | e; omega; exact absurd e (by decide))
   have z10 := q10.size
   have hB0 := hB
   refine nl (bn' (tn (rg (s_add rfl rfl (wi6 (by omega)) (mv rfl (nl ?_))))))
   exact lpE (z + 1) (.c7 rfl rfl rfl rfl rfl rfl rfl) ⟨(q9.step q10 (fun k hk hlt => by have := hS10 k hk; first | (exfalso; omega) | (simp; omega))), ⟨by omega, ⟨hb5, by rw [nums_succ _ (num_at _ (by omega)), ← List.append_assoc]; exact hB⟩⟩⟩ (by omega)
  obtain rfl : z = 4 := by omega
  refine ex (te (te (xh (tn (sr ?_)))))
  refine cl (ev2 rfl rfl) co37 (bws_ok _ _ _ _ hB (by simp only [List.length_append, List.length_cons, List.length_nil, wGarment, wPiece]; omega)) rfl ?_
  rintro _ w11 ⟨hB, Sx, hS11, hTx, q11⟩
  replace hb5 := hb5.fr q11 (fun hk => by rcases hTx g5 hk _ _ hb5 with e | e; omega; exact absurd e (by decide))
  have z11 := q11.size
  have hB0 := hB
  refine nn (sr (fad rfl fa48_1 (s_fad2 rfl fa46_0 (s_loadBP (vs := [_]) rfl hb5 ag42 rfl ?_))))
  replace hq := hq0.ext (q9.step q11 (fun k hk hlt => by have := hS11 k hk; first | (exfalso; omega) | (simp; omega)))
  replace hy := hy0.ext (q9.step q11 (fun k hk hlt => by have := hS11 k hk; first | (exfalso; omega) | (simp; omega)))
  refine cl (ev2 rfl rfl) co39 (grows_ok wLeft _ _ _ (hq.at (show k < qs.length by omega)).L hy hmo.1 hmo.2.2.2.2.2.1 (by decide)) rfl ?_
  rintro _ w12 ⟨rfl, q12⟩
  have z12 := q12.size
  replace hb5 := hb5.ext q12
  replace hB := hB0.ext q12
  refine cl (ev2 rfl rfl) co37 (bws_ok _ _ _ _ hB (by simp only [List.length_append, List.length_cons, List.length_nil, wGarment, wPiece]; omega)) rfl ?_
  rintro _ w13 ⟨hB, Sx, hS13, hTx, q13⟩
  replace hb5 := hb5.fr q13 (fun hk => by rcases hTx g5 hk _ _ hb5 with e | e; omega; exact absurd e (by decide))
  have z13 := q13.size
  have hB0 := hB
  refine nn (sr (fad rfl fa48_1 (s_fad2 rfl fa46_1 (s_loadBP (vs := [_]) rfl hb5 ag42 rfl ?_))))
  replace hq := hq0.ext (((q9.step q11 (fun k hk hlt => by have := hS11 k hk; first | (exfalso; omega) | (simp; omega))).n1 q12).step q13 (fun k hk hlt => by have := hS13 k hk; first | (exfalso; omega) | (simp; omega)))
  replace hy := hy0.ext (((q9.step q11 (fun k hk hlt => by have := hS11 k hk; first | (exfalso; omega) | (simp; omega))).n1 q12).step q13 (fun k hk hlt => by have := hS13 k hk; first | (exfalso; omega) | (simp; omega)))
  refine cl (ev2 rfl rfl) co39 (grows_ok wTile _ _ _ (hq.at (show k < qs.length by omega)).T hy hmo.2.1 hmo.2.2.2.2.2.2.1 (by decide)) rfl ?_
  rintro _ w14 ⟨rfl, q14⟩
  have z14 := q14.size
  replace hb5 := hb5.ext q14
  replace hB := hB0.ext q14
  refine cl (ev2 rfl rfl) co37 (bws_ok _ _ _ _ hB (by simp only [List.length_append, List.length_cons, List.length_nil, wGarment, wPiece]; omega)) rfl ?_
  rintro _ w15 ⟨hB, Sx, hS15, hTx, q15⟩
  replace hb5 := hb5.fr q15 (fun hk => by rcases hTx g5 hk _ _ hb5 with e | e; omega; exact absurd e (by decide))
  have z15 := q15.size
  have hB0 := hB
  refine nn (rg (fad rfl fa48_1 (s_fad2 rfl fa46_2 (s_loadBP (vs := [_]) rfl hb5 ag42 rfl ?_))))
  replace hq := hq0.ext (((((q9.step q11 (fun k hk hlt => by have := hS11 k hk; first | (exfalso; omega) | (simp; omega))).n1 q12).step q13 (fun k hk hlt => by have := hS13 k hk; first | (exfalso; omega) | (simp; omega))).next q14).step q15 (fun k hk hlt => by have := hS15 k hk; first | (exfalso; omega) | (simp; omega)))
  replace hy := hy0.ext (((((q9.step q11 (fun k hk hlt => by have := hS11 k hk; first | (exfalso; omega) | (simp; omega))).n1 q12).step q13 (fun k hk hlt => by have := hS13 k hk; first | (exfalso; omega) | (simp; omega))).next q14).step q15 (fun k hk hlt => by have := hS15 k hk; first | (exfalso; omega) | (simp; omega)))
  refine cl (ev2 rfl rfl) co39 (grows_ok wRight _ _ _ (hq.at (show k < qs.length by omega)).R hy hmo.2.2.1 hmo.2.2.2.2.2.2.2.1 (by decide)) rfl ?_
  rintro _ w16 ⟨rfl, q16⟩
  have z16 := q16.size
  replace hb5 := hb5.ext q16
  replace hB := hB0.ext q16
  refine cl (ev2 rfl rfl) co37 (bws_ok _ _ _ _ hB (by simp only [List.length_append, List.length_cons, List.length_nil, wGarment, wPiece]; omega)) rfl ?_
  rintro _ w17 ⟨hB, Sx, hS17, hTx, q17⟩
  replace hb5 := hb5.fr q17 (fun hk => by rcases hTx g5 hk _ _ hb5 with e | e; omega; exact absurd e (by decide))
  have z17 := q17.size
  have hB0 := hB
  refine kpL [(3, _), (17, _), (18, _), (19, _)] (.c4 rfl rfl rfl rfl) (nl (bn' (tn (rg (s_add rfl rfl (wi6 (by omega)) (mv rfl (nl ?_)))))))
  exact lpE (k + 1) (.c4 rfl rfl rfl rfl) ⟨(((((((q9.step q11 (fun k hk hlt => by have := hS11 k hk; first | (exfalso; omega) | (simp; omega))).n1 q12).step q13 (fun k hk hlt => by have := hS13 k hk; first | (exfalso; omega) | (simp; omega))).next q14).step q15 (fun k hk hlt => by have := hS15 k hk; first | (exfalso; omega) | (simp; omega))).next q16).step q17 (fun k hk hlt => by have := hS17 k hk; first | (exfalso; omega) | (simp; omega))), ⟨by omega, by rw [← gT_step (pcs_some (by omega))]; exact hB⟩⟩ (by omega)
 obtain rfl : k = qs.length := by omega
 rw [← pcs_len qs, gT_all] at hB
 refine ex (te (te (xh (tn (sr ?_)))))
 refine cl (ev1 rfl) co40 (bst_ok _ _ _ hB) rfl ?_
 rintro _ w18 ⟨rfl, Sx, hS18, q18⟩
 have z18 := q18.size
 refine asg rfl (kpL [(2, _)] (.cons rfl .nil) (nn (rt (r1 Tryz.results16 rfl ?_))))
 exact ⟨_, rfl, by rw [garText, if_pos hg0], (q5.step q18 (fun k hk hlt => by have := hS18 k hk; first | (exfalso; omega) | (simp; omega)))⟩
end Go.Proofs.YthehggmdcmpjeaaGreatDoor
namespace Go.Proofs.YthehggmdcmpjeaaGreatDoor
open Go.Lw Go.G14
theorem co33 : CallOf Tryz.prog 33 := mkC Tryz.func33
theorem co34 : CallOf Tryz.prog 34 := mkC Tryz.func34
theorem co65 : CallOf Tryz.prog 65 := mkC Tryz.func65
theorem decimal_ok (m : Nat) : ∀ (n : Int) (w0 : World), 0 ≤ n ∧ n < 100 → n.toNat < m → Rets Tryz.prog 33 #[.int .i64 n] w0 fun v w' => v = S (numT n) ∧ Fr [] w0 w' := by
 induction m
 ·intro n w0 _ h; omega
 rename_i m ih
 intro n w0 hn hm
 refine we [(0, .int .i64 n)] Tryz.func33 rfl Tryz.ntmps33 rfl (.cons rfl .nil) ?_
 refine sr (asg rfl (nn (sq (sr (mv rfl (lt' rfl rfl (nn ?_)))))))
 refine cd rfl (fun c0 => ?_) (fun c0 => ?_)
 ·refine sr (mv rfl (s_add rfl rfl (wi6 (by omega)) (s_conv rfl (us Tryz.underlying3) Tryz.underlying5 (wi8 (by omega)) (s_bslice ([UInt8.ofNat (48 + n.toNat)]) (ev1 rfl) rfl (digc (by omega)) rfl el75 (Nat.le_of_ble_eq_true rfl) (fun g8 w1 hg8 ho8 q1 z1 => ?_)))))
  refine s_b2s rfl ho8.sl el75 Tryz.underlying5 Tryz.underlying9 rfl (asg rfl (kpL [(2, _)] (.cons rfl .nil) (nn (rt (tr (r1 Tryz.results33 rfl ?_))))))
  exact ⟨_, rfl, by rw [numT_small (by omega)], q1⟩
 have hl := numT_le (n := n / 10) (by omega)
 refine sk (tn ?_)
 refine jn (ι := Unit) [] (fun _j => [(2, S (numT (n / 10) ++ [UInt8.ofNat (48 + (n % 10).toNat)]))]) (fun _j w' => Fr [] w0 w') .nil ?_ ?_
 ·intro a h
  have qh3 := Fr.refl [] w0
  refine region_held (fun wb w' => Fr [] wb w') hmix ?_; intro w2 hq
  have z2 := hq.size
  replace qh3 := qh3.next hq
  have hsz := hq.size; clear hq; have hC : Fr [] w2 w2 := Fr.refl _ _
  refine hd_move 0 hC h wn rfl rfl ?_; clear h a; intro a h
  refine hd_quo 1 (by kernel_rfl) (by kernel_rfl) (by kernel_rfl) hC h wn rfl rfl (by omega) (by first | exact IntWalk.i64_quo _ _ (by omega) | rfl) rfl rfl ?_; clear h a; intro a h
  refine hd_move 3 hC h wn rfl rfl ?_; clear h a; intro a h
  refine hd_rem 4 hC h wn rfl rfl (by first | exact IntWalk.rem_in _ _ (by omega) | rfl) rfl rfl ?_; clear h a; intro a h
  refine hd_add 5 hC h wn rfl rfl (by first | exact i6 (by omega) | rfl) rfl ?_; clear h a; intro a h
  refine hd_conv 6 hC h wn rfl (by rw [Tryz.underlying3]; rfl) Tryz.underlying5 (by first | exact IntWalk.u8_in _ (by omega) | rfl) rfl rfl ?_; clear h a; intro a h
  refine hd_two 2 7 (by kernel_rfl) rfl rfl ?_ ?_
  ·refine st_call h (evs_cons rfl evs_nil) co33 (ih _ _ (by omega) (by omega)) ?_; clear h a; rintro _ w3 ⟨rfl, hq⟩ a h
   have z3 := hq.size
   replace qh3 := qh3.next hq
   replace hC := hC.next hq
   clear hq
   refine hd_next hC ?_
   refine hd_one 7 rfl ?_
   refine st_bslice ([UInt8.ofNat (48 + (n % 10).toNat)]) h (evs_cons rfl evs_nil) rfl (digc (by omega)) rfl el75 (Nat.le_of_ble_eq_true rfl) ?_; clear h a; intro g_17 w4 hg ho17 hq hz a h
   have z4 := hq.size
   replace qh3 := qh3.next hq
   replace hC := hC.next hq
   clear hq
   refine hd_next hC ?_
   refine hd_one 8 rfl ?_
   refine st_b2s h rfl ho17.sl el75 Tryz.underlying5 Tryz.underlying9 rfl ?_; clear h a; intro a h
   refine hd_next hC ?_
   refine hd_adds 9 hC h wn rfl rfl rfl ?_ (hb := (by first | (simp only [List.length_append, List.length_cons, List.length_nil]; omega) | omega | (simp; done) | (simp; omega))); clear h a; intro a h
   refine hd_one 10 rfl ?_
   refine st_assign h rfl ?_; clear h a; intro a h
   refine hd_next hC ?_
   refine hd_end ?_
   clear hC
   have z4 := qh3.size
   refine bk (h.sub (L' := [(2, _)]) (.cons rfl .nil)) ?_; clear h a
   exact jE (()) (.cons rfl .nil) qh3
  refine st_bslice ([UInt8.ofNat (48 + (n % 10).toNat)]) h (evs_cons rfl evs_nil) rfl (digc (by omega)) rfl el75 (Nat.le_of_ble_eq_true rfl) ?_; clear h a; intro g_17 w5 hg ho17 hq hz a h
  have z5 := hq.size
  replace qh3 := qh3.next hq
  replace hC := hC.next hq
  clear hq
  refine hd_next hC ?_
  refine hd_two 2 8 (by kernel_rfl) rfl rfl ?_ ?_
  ·refine st_call h (evs_cons rfl evs_nil) co33 (ih _ _ (by omega) (by omega)) ?_; clear h a; rintro _ w6 ⟨rfl, hq⟩ a h
   have z6 := hq.size
   replace qh3 := qh3.next hq
   replace hC := hC.next hq
   replace ho17 := ho17.ext hq
   clear hq
   refine hd_next hC ?_
   refine hd_one 8 rfl ?_
   refine st_b2s h rfl ho17.sl el75 Tryz.underlying5 Tryz.underlying9 rfl ?_; clear h a; intro a h
   refine hd_next hC ?_
   refine hd_adds 9 hC h wn rfl rfl rfl ?_ (hb := (by first | (simp only [List.length_append, List.length_cons, List.length_nil]; omega) | omega | (simp; done) | (simp; omega))); clear h a; intro a h
   refine hd_one 10 rfl ?_
   refine st_assign h rfl ?_; clear h a; intro a h
   refine hd_next hC ?_
   refine hd_end ?_
   clear hC
   have z6 := qh3.size
   refine bk (h.sub (L' := [(2, _)]) (.cons rfl .nil)) ?_; clear h a
   exact jE (()) (.cons rfl .nil) qh3
  refine st_b2s h rfl ho17.sl el75 Tryz.underlying5 Tryz.underlying9 rfl ?_; clear h a; intro a h
  refine hd_next hC ?_
  refine hd_one 2 rfl ?_
  refine st_call h (evs_cons rfl evs_nil) co33 (ih _ _ (by omega) (by omega)) ?_; clear h a; rintro _ w7 ⟨rfl, hq⟩ a h
  have z7 := hq.size
  replace qh3 := qh3.next hq
  replace hC := hC.next hq
  replace ho17 := ho17.ext hq
  clear hq
  refine hd_next hC ?_
  refine hd_adds 9 hC h wn rfl rfl rfl ?_ (hb := (by first | (simp only [List.length_append, List.length_cons, List.length_nil]; omega) | omega | (simp; done) | (simp; omega))); clear h a; intro a h
  refine hd_one 10 rfl ?_
  refine st_assign h rfl ?_; clear h a; intro a h
  refine hd_next hC ?_
  refine hd_end ?_
  clear hC
  have z7 := qh3.size
  refine bk (h.sub (L' := [(2, _)]) (.cons rfl .nil)) ?_; clear h a
  exact jE (()) (.cons rfl .nil) qh3
 rintro _j w8 q8
 have z8 := q8.size
 refine kpC [(2, _)] (.cons rfl .nil) ?_
 refine rt (r1 Tryz.results33 rfl ?_)
 exact ⟨_, rfl, by rw [numT_big (n := n) (by omega)], q8⟩
set_option maxHeartbeats 1000000 in
theorem refrows_ok (word : List UInt8) (v : Value) (c : RowL) (w0 : World) (hs : Sll encSt w0 v c) (hL : largeB c = false) (hg : goodB c = true) (hw : word.length ≤ 7) (h0 : ¬ c.length = 0) : Rets Tryz.prog 34 #[S word, .agg #[v]] w0 fun r w' => r = S (rowsT word c) ∧ Fr [] w0 w' := by
 have hlg := large_of hL
 obtain ⟨rs, hrs, hqr, hrm⟩ := Sll.opn hs
 have hrc : rs.length = c.length := by rw [← hrm, List.length_map]
 obtain ⟨A, cp, rfl, hcc, hM, hA⟩ := id hrs
 clear hA
 unfold maxLen at hM
 have hgd := fun i (hi : i < rs.length) => gd_rows hrm hi
 refine we [(0, S word), (1, .agg #[.slice A rs.length cp])] Tryz.func34 rfl Tryz.ntmps34 rfl (.c2 rfl rfl) ?_
 have hs0 := hs
 have hrs0 := hrs
 have hqr0 := hqr
 refine sr (bx rfl rfl rfl (fun g3 w1 hg3 hb3 q1 z1 => ?_))
 refine asg rfl (nn (sr (mv rfl (asg rfl (nn (sq (sr (asg rfl (nn (bl ?_))))))))))
 refine lpK (ι := Nat) [(3, _)] (fun i => [(6, .int .i64 (i : Int)), (5, S (word ++ bars2 c i))]) (fun i w' => Fr [] w1 w' ∧ i ≤ rs.length) (fun i => rs.length - i) 0 (.c3 rfl rfl (congrArg (fun l => some (S l)) (by rw [bars2_zero, List.append_nil]))) ⟨Fr.refl _ _, Nat.zero_le _⟩ ?_
 rintro i w2 ⟨q2, hi⟩
 have z2 := q2.size
 refine kpC [(3, _), (6, _), (5, _)] (.c3 rfl rfl rfl) ?_
 refine sq (sr (mv rfl (fad rfl fa42_0 ?_)))
 replace hb3 := hb3.ext q2
 refine s_loadB rfl hb3 rfl na40 (lnS rfl Tryz.underlying40 (lt' rfl rfl (nn ?_)))
 refine cd rfl (fun c0 => ?_) (fun c0 => ?_)
 ·replace hqr := hqr0.ext (q1.n1 q2)
  have hgi := hgd i (by omega)
  have hri := good_at hg hgi (by omega)
  have hrl := large_at hL hgi (by omega)
  have hjl := sl_len (hqr (rs.getD i rq0) (getD_memS (by omega)))
  have hb2 := bars2_le hL i
  refine sk (tn (sq (bl (sq (sr (mv rfl (gt' rfl rfl (nn ?_))))))))
  refine cd rfl (fun c1 => ?_) (fun c1 => ?_)
  ·refine rg (mv rfl (s_adds rfl rfl (asg rfl (nl (tn (sr (fad rfl fa42_0 (s_loadB rfl hb3 rfl na40 (mv rfl ?_)))))))))
   replace hrs := hrs0.ext (q1.n1 q2)
   refine s_idxL (rq0) rfl hrs rfl er40 nat_of (fun ad22 hc22 => ?_)
   refine s_loadC0 rfl (hc22 _ hrs) na88 (lnS rfl Tryz.underlying88 (eq' rfl rfl (kpL [(3, _), (5, _), (6, _), (25, _)] (.c4 rfl rfl rfl rfl) (nn ?_))))
   refine cd rfl (fun c2 => ?_) (fun c2 => ?_)
   ·refine rg (mv rfl (s_adds rfl rfl (asg rfl (nl (bn' (tn (rg (mv rfl (s_add rfl rfl (wi6 (by omega)) (asg rfl (nl ?_)))))))))))
    exact lpE (i + 1) (.c3 rfl rfl (congrArg (fun l => some (S l)) (by first | (rw [bars2_succ hgi (by omega) (by omega), rowT_0 (by omega)] <;> simp; done) | (rw [bars2_succ hgi (by omega) (by omega), rowT_1 (by omega)] <;> simp; done) | (have hi0 : i = 0 := (by omega); subst hi0; rw [bars2_one hgi (by omega), bars2_zero, rowT_0 (by omega)] <;> simp; done) | (have hi0 : i = 0 := (by omega); subst hi0; rw [bars2_one hgi (by omega), bars2_zero, rowT_1 (by omega)] <;> simp; done)))) ⟨q2, by omega⟩ (by omega)
   have hsl := rowT_le hrl
   rw [rowT_1 (by omega)] at hsl
   refine rg (mv rfl (fad rfl fa42_0 (s_loadB rfl hb3 rfl na40 (mv rfl (s_idxL (rq0) rfl hrs rfl er40 nat_of (fun ad32 hc32 => ?_))))))
   refine s_loadC0 rfl (hc32 _ hrs) na88 ?_
   refine cl (ev1 rfl) co65 (refshort_ok _ (rs.getD i rq0).2 _ (hqr _ (getD_memS (by omega))) hri (by omega) hrl) rfl ?_
   rintro _ w3 ⟨rfl, q3⟩
   have z3 := q3.size
   refine s_adds rfl rfl (s_adds rfl rfl (asg rfl (kpL [(3, _), (5, _), (6, _)] (.c3 rfl rfl rfl) (nl (bn' (tn (rg (mv rfl (s_add rfl rfl (wi6 (by omega)) (asg rfl (nl ?_)))))))))))
   exact lpE (i + 1) (.c3 rfl rfl (congrArg (fun l => some (S l)) (by first | (rw [bars2_succ hgi (by omega) (by omega), rowT_0 (by omega)] <;> simp; done) | (rw [bars2_succ hgi (by omega) (by omega), rowT_1 (by omega)] <;> simp; done) | (have hi0 : i = 0 := (by omega); subst hi0; rw [bars2_one hgi (by omega), bars2_zero, rowT_0 (by omega)] <;> simp; done) | (have hi0 : i = 0 := (by omega); subst hi0; rw [bars2_one hgi (by omega), bars2_zero, rowT_1 (by omega)] <;> simp; done)))) ⟨(q2.n1 q3), by omega⟩ (by omega)
  refine sk (tn (sr (fad rfl fa42_0 (s_loadB rfl hb3 rfl na40 (mv rfl ?_)))))
  replace hrs := hrs0.ext (q1.n1 q2)
  refine s_idxL (rq0) rfl hrs rfl er40 nat_of (fun ad22 hc22 => ?_)
  refine s_loadC0 rfl (hc22 _ hrs) na88 (lnS rfl Tryz.underlying88 (eq' rfl rfl (kpL [(3, _), (5, _), (6, _), (25, _)] (.c4 rfl rfl rfl rfl) (nn ?_))))
  refine cd rfl (fun c2 => ?_) (fun c2 => ?_)
  ·refine rg (mv rfl (s_adds rfl rfl (asg rfl (nl (bn' (tn (rg (mv rfl (s_add rfl rfl (wi6 (by omega)) (asg rfl (nl ?_)))))))))))
   exact lpE (i + 1) (.c3 rfl rfl (congrArg (fun l => some (S l)) (by first | (rw [bars2_succ hgi (by omega) (by omega), rowT_0 (by omega)] <;> simp; done) | (rw [bars2_succ hgi (by omega) (by omega), rowT_1 (by omega)] <;> simp; done) | (have hi0 : i = 0 := (by omega); subst hi0; rw [bars2_one hgi (by omega), bars2_zero, rowT_0 (by omega)] <;> simp; done) | (have hi0 : i = 0 := (by omega); subst hi0; rw [bars2_one hgi (by omega), bars2_zero, rowT_1 (by omega)] <;> simp; done)))) ⟨q2, by omega⟩ (by omega)
  have hsl := rowT_le hrl
  rw [rowT_1 (by omega)] at hsl
  refine rg (mv rfl (fad rfl fa42_0 (s_loadB rfl hb3 rfl na40 (mv rfl (s_idxL (rq0) rfl hrs rfl er40 nat_of (fun ad32 hc32 => ?_))))))
  refine s_loadC0 rfl (hc32 _ hrs) na88 ?_
  refine cl (ev1 rfl) co65 (refshort_ok _ (rs.getD i rq0).2 _ (hqr _ (getD_memS (by omega))) hri (by omega) hrl) rfl ?_
  rintro _ w4 ⟨rfl, q4⟩
  have z4 := q4.size
  refine s_adds rfl rfl (s_adds rfl rfl (asg rfl (kpL [(3, _), (5, _), (6, _)] (.c3 rfl rfl rfl) (nl (bn' (tn (rg (mv rfl (s_add rfl rfl (wi6 (by omega)) (asg rfl (nl ?_)))))))))))
  exact lpE (i + 1) (.c3 rfl rfl (congrArg (fun l => some (S l)) (by first | (rw [bars2_succ hgi (by omega) (by omega), rowT_0 (by omega)] <;> simp; done) | (rw [bars2_succ hgi (by omega) (by omega), rowT_1 (by omega)] <;> simp; done) | (have hi0 : i = 0 := (by omega); subst hi0; rw [bars2_one hgi (by omega), bars2_zero, rowT_0 (by omega)] <;> simp; done) | (have hi0 : i = 0 := (by omega); subst hi0; rw [bars2_one hgi (by omega), bars2_zero, rowT_1 (by omega)] <;> simp; done)))) ⟨(q2.n1 q4), by omega⟩ (by omega)
 obtain rfl : i = rs.length := by omega
 have hb2 := bars2_le hL rs.length
 refine ex (te (te (xh (tn (sr (mv rfl (s_adds rfl rfl (asg rfl (kpL [(4, _)] (.cons rfl .nil) (nn (rt ?_)))))))))))
 refine r1 Tryz.results34 rfl ?_
 exact ⟨_, rfl, by rw [hrc, bars2_all h0], (q1.n1 q2)⟩
set_option maxHeartbeats 2000000 in
theorem reftextg_ok (nm : List UInt8) (v : Value) (qs : List PQ) (w0 : World) (hs : Sl encPq w0 v qs) (hq : PcsQ w0 qs) (hg0 : garE nm (pcs qs) = 0) : Rets Tryz.prog 14 #[.agg #[S nm, v]] w0 fun r w' => r = S (textG nm (pcs qs)) ∧ Fr [] w0 w' := by
 obtain ⟨A, c, rfl, hcc, hM, hA⟩ := id hs
 clear hA
 unfold maxLen at hM
 have hga := gar_of hg0
 have hnl := name_le hga.2.2.1
 rw [pcs_len] at hga
 refine we [(0, .agg #[S nm, .slice A qs.length c])] Tryz.func14 rfl Tryz.ntmps14 rfl (.cons rfl .nil) ?_
 have hs0 := hs
 have hq0 := hq
 refine sr (bx rfl rfl rfl (fun g1 w1 hg1 hb1 q1 z1 => ?_))
 refine asg rfl (nn (sr (fad rfl fa27_0 (s_loadB rfl hb1 rfl na9 (s_adds rfl rfl (s_adds rfl rfl (asg rfl (nn (sq (sr (asg rfl ?_)))))))))))
 refine nn (bl ?_)
 refine lpK (ι := Nat) [(1, _)] (fun k => [(4, .int .i64 (k : Int)), (3, S (gT nm (pcs qs) k))]) (fun k w' => Fr [] w1 w' ∧ k ≤ qs.length) (fun k => qs.length - k) 0 (.c3 rfl rfl (congrArg (fun l => some (S l)) (by rw [gT_zero]; simp))) ⟨Fr.refl _ _, Nat.zero_le _⟩ ?_
 rintro k w2 ⟨q2, hk⟩
 have z2 := q2.size
 refine kpC [(1, _), (4, _), (3, _)] (.c3 rfl rfl rfl) ?_
 refine sq (sr (mv rfl (fad rfl fa27_1 ?_)))
 replace hb1 := hb1.ext q2
 refine s_loadB rfl hb1 rfl na25 (lnS rfl Tryz.underlying25 (lt' rfl rfl (nn ?_)))
 refine cd rfl (fun c0 => ?_) (fun c0 => ?_)
 ·replace hq := hq0.ext (q1.n1 q2)
  have hgl := gT_le hg0 k
  have hpr := hga.2.2.2.1 _ (pcs_mem (show k < qs.length by omega))
  have hpm := hga.2.2.2.2.1 _ (pcs_mem (show k < qs.length by omega))
  have hmo := mot_of hpm
  have hpn := name_le (right_of hpr).1
  have hrr := right_of hpr
  have hr1 := rows_le (w := wLeft) hmo.1 (by decide)
  have hr2 := rows_le (w := wTile) hmo.2.1 (by decide)
  have hr3 := rows_le (w := wRight) hmo.2.2.1 (by decide)
  have hhl := headT_le hpr
  have hn1 := numT_le (n := (qs.getD k pq0).p.ct) (by omega)
  have hn2 := numT_le (n := (qs.getD k pq0).p.ba) (by omega)
  have hn3 := numT_le (n := (qs.getD k pq0).p.st) (by omega)
  have hn4 := numT_le (n := (qs.getD k pq0).p.up) (by omega)
  have hlL := sllen (hq.at (show k < qs.length by omega)).L
  have hlT := sllen (hq.at (show k < qs.length by omega)).T
  have hlR := sllen (hq.at (show k < qs.length by omega)).R
  have htz := mot_tile hpm
  refine sk (tn (sq (bl (sr (fad rfl fa27_1 (s_loadB rfl hb1 rfl na25 (mv rfl ?_)))))))
  replace hs := hs0.ext (q1.n1 q2)
  refine s_idxL (pq0) rfl hs rfl el25 nat_of (fun ad20 hc20 => ?_)
  refine s_loadA rfl (hc20 _ hs) ag48 (al zv48 rfl rfl (fun g5 w3 hg5 hb5 q3 z3 => ?_))
  refine s_storeBA rfl rfl hb5 rfl sz48 (fun w4 hb5 q4 z4 => ?_)
  refine kpL [(1, _), (3, _), (4, _), (5, _)] (.c4 rfl rfl rfl rfl) (nn ?_)
  refine jn (ι := Unit) [(1, _), (4, _), (5, _)] (fun _j => [(3, S (gT nm (pcs qs) k ++ headT (qs.getD k pq0).p))]) (fun _j w' => Fr [] w4 w') (.c3 rfl rfl rfl) ?_ ?_
  ·intro a h
   have qh6 := Fr.refl [] w4
   refine region_held (fun wb w' => Fr [] wb w') hmix ?_; intro w5 hq
   have z5 := hq.size
   replace hb5 := hb5.ext hq
   replace qh6 := qh6.next hq
   have hsz := hq.size; clear hq; have hC : Fr [] w5 w5 := Fr.refl _ _
   have hb5_b := hb5
   refine hd_move 0 hC h wn rfl rfl ?_; clear h a; intro a h
   refine hd_fieldAddr 1 hC h wn rfl fa48_0 rfl ?_; clear h a; intro a h
   refine hd_loadB 2 hC h wn rfl (fun _ hw => hb5_b.ext hw) rfl na9 rfl ?_; clear h a; intro a h
   refine hd_adds 3 hC h wn rfl rfl rfl ?_; clear h a; intro a h
   refine hd_adds 4 hC h wn rfl rfl rfl ?_; clear h a; intro a h
   refine hd_fieldAddr 5 hC h wn rfl fa48_5 rfl ?_; clear h a; intro a h
   refine hd_loadB 6 hC h wn rfl (fun _ hw => hb5_b.ext hw) rfl na3 rfl ?_; clear h a; intro a h
   refine hd_fieldAddr 10 hC h wn rfl fa48_2 rfl ?_; clear h a; intro a h
   refine hd_loadB 11 hC h wn rfl (fun _ hw => hb5_b.ext hw) rfl na3 rfl ?_; clear h a; intro a h
   refine hd_fieldAddr 15 hC h wn rfl fa48_3 rfl ?_; clear h a; intro a h
   refine hd_loadB 16 hC h wn rfl (fun _ hw => hb5_b.ext hw) rfl na3 rfl ?_; clear h a; intro a h
   refine hd_fieldAddr 20 hC h wn rfl fa48_4 rfl ?_; clear h a; intro a h
   refine hd_loadB 21 hC h wn rfl (fun _ hw => hb5_b.ext hw) rfl na3 rfl ?_; clear h a; intro a h
   refine hd_one 7 rfl ?_
   refine st_call h (evs_cons rfl evs_nil) co33 (decimal_ok _ _ _ (by omega) (Nat.lt_succ_self _)) ?_; clear h a; rintro _ w6 ⟨rfl, hq⟩ a h
   have z6 := hq.size
   replace hb5 := hb5.ext hq
   replace qh6 := qh6.next hq
   replace hC := hC.next hq
   clear hq
   refine hd_next hC ?_
   refine hd_adds 8 hC h wn rfl rfl rfl ?_; clear h a; intro a h
   refine hd_adds 9 hC h wn rfl rfl rfl ?_; clear h a; intro a h
   refine hd_one 12 rfl ?_
   refine st_call h (evs_cons rfl evs_nil) co33 (decimal_ok _ _ _ (by omega) (Nat.lt_succ_self _)) ?_; clear h a; rintro _ w7 ⟨rfl, hq⟩ a h
   have z7 := hq.size
   replace hb5 := hb5.ext hq
   replace qh6 := qh6.next hq
   replace hC := hC.next hq
   clear hq
   refine hd_next hC ?_
   refine hd_adds 13 hC h wn rfl rfl rfl ?_; clear h a; intro a h
   refine hd_adds 14 hC h wn rfl rfl rfl ?_; clear h a; intro a h
   refine hd_one 17 rfl ?_
   refine st_call h (evs_cons rfl evs_nil) co33 (decimal_ok _ _ _ (by omega) (Nat.lt_succ_self _)) ?_; clear h a; rintro _ w8 ⟨rfl, hq⟩ a h
   have z8 := hq.size
   replace hb5 := hb5.ext hq
   replace qh6 := qh6.next hq
   replace hC := hC.next hq
   clear hq
   refine hd_next hC ?_
   refine hd_adds 18 hC h wn rfl rfl rfl ?_; clear h a; intro a h
   refine hd_adds 19 hC h wn rfl rfl rfl ?_; clear h a; intro a h
   refine hd_one 22 rfl ?_
   refine st_call h (evs_cons rfl evs_nil) co33 (decimal_ok _ _ _ (by omega) (Nat.lt_succ_self _)) ?_; clear h a; rintro _ w9 ⟨rfl, hq⟩ a h
   have z9 := hq.size
   replace hb5 := hb5.ext hq
   replace qh6 := qh6.next hq
   replace hC := hC.next hq
   clear hq
   refine hd_next hC ?_
   refine hd_adds 23 hC h wn rfl rfl rfl ?_; clear h a; intro a h
   refine hd_adds 24 hC h wn rfl rfl rfl ?_; clear h a; intro a h
   refine hd_adds 25 hC h wn rfl rfl rfl ?_; clear h a; intro a h
   refine hd_one 26 rfl ?_
   refine st_assign h rfl ?_; clear h a; intro a h
   refine hd_next hC ?_
   refine hd_end ?_
   clear hC hb5_b
   have z9 := qh6.size
   refine bk (h.sub (L' := [(1, _), (3, _), (4, _), (5, _)]) (.c4 rfl rfl rfl rfl)) ?_; clear h a
   exact jE (()) (.c4 rfl rfl rfl (congrArg (fun l => some (S l)) (by simp [headT, wPiece]))) qh6
  rintro _j w10 q10
  have z10 := q10.size
  refine kpC [(1, _), (4, _), (5, _), (3, _)] (.c4 rfl rfl rfl rfl) ?_
  refine sq (sr (fad rfl fa48_1 (s_fad2 rfl fa46_0 (s_fad2 rfl fa42_0 ?_))))
  replace hb5 := hb5.ext q10
  refine s_loadB rfl hb5 rfl na40 (lnS rfl Tryz.underlying40 (gt' rfl rfl (nn ?_)))
  refine cd rfl (fun c1 => ?_) (fun c1 => ?_)
  ·refine rg (mv rfl (fad rfl fa48_1 (s_fad2 rfl fa46_0 (s_loadBP (vs := [_]) rfl hb5 ag42 rfl ?_))))
   replace hq := hq0.ext (q1.z4 q2 q3 q4 q10)
   refine cl (ev2 rfl rfl) co34 (refrows_ok wLeft _ _ _ (hq.at (show k < qs.length by omega)).L hmo.1 hmo.2.2.2.2.2.1 (by decide) (by omega)) rfl ?_
   rintro _ w11 ⟨rfl, q11⟩
   have z11 := q11.size
   refine s_adds rfl rfl (asg rfl (kpL [(1, _), (3, _), (4, _), (5, _)] (.c4 rfl rfl rfl rfl) (nl (tn (sr (mv rfl (fad rfl fa48_1 (s_fad2 rfl fa46_1 ?_))))))))
   replace hb5 := hb5.ext q11
   refine s_loadBP (vs := [_]) rfl hb5 ag42 rfl ?_
   replace hq := hq0.ext (q1.z5 q2 q3 q4 q10 q11)
   refine cl (ev2 rfl rfl) co34 (refrows_ok wTile _ _ _ (hq.at (show k < qs.length by omega)).T hmo.2.1 hmo.2.2.2.2.2.2.1 (by decide) (by omega)) rfl ?_
   rintro _ w12 ⟨rfl, q12⟩
   have z12 := q12.size
   refine s_adds rfl rfl (asg rfl (kpL [(1, _), (3, _), (4, _), (5, _)] (.c4 rfl rfl rfl rfl) (nn (sr (fad rfl fa48_1 (s_fad2 rfl fa46_2 (s_fad2 rfl fa42_0 ?_)))))))
   replace hb5 := hb5.ext q12
   refine s_loadB rfl hb5 rfl na40 (lnS rfl Tryz.underlying40 (gt' rfl rfl (nn ?_)))
   refine cd rfl (fun c2 => ?_) (fun c2 => ?_)
   ·refine rg (mv rfl (fad rfl fa48_1 (s_fad2 rfl fa46_2 (s_loadBP (vs := [_]) rfl hb5 ag42 rfl ?_))))
    replace hq := hq0.ext (q1.z6 q2 q3 q4 q10 q11 q12)
    refine cl (ev2 rfl rfl) co34 (refrows_ok wRight _ _ _ (hq.at (show k < qs.length by omega)).R hmo.2.2.1 hmo.2.2.2.2.2.2.2.1 (by decide) (by omega)) rfl ?_
    rintro _ w13 ⟨rfl, q13⟩
    have z13 := q13.size
    refine s_adds rfl rfl (asg rfl (kpL [(1, _), (3, _), (4, _)] (.c3 rfl rfl rfl) (nl (bn' (tn (rg (mv rfl (s_add rfl rfl (wi6 (by omega)) (asg rfl (nl ?_))))))))))
    exact lpE (k + 1) (.c3 rfl rfl (congrArg (fun l => some (S l)) (by first | (rw [gT_succ (pcs_some (by omega)), pieceT, rows_nil (w := wLeft) (by omega), rows_nil (w := wRight) (by omega)]; simp only [List.append_assoc, List.append_nil, List.nil_append]; done) | (rw [gT_succ (pcs_some (by omega)), pieceT, rows_nil (w := wLeft) (by omega)]; simp only [List.append_assoc, List.append_nil, List.nil_append]; done) | (rw [gT_succ (pcs_some (by omega)), pieceT, rows_nil (w := wRight) (by omega)]; simp only [List.append_assoc, List.append_nil, List.nil_append]; done) | (rw [gT_succ (pcs_some (by omega)), pieceT]; simp only [List.append_assoc, List.append_nil, List.nil_append]; done)))) ⟨(q2.z6 q3 q4 q10 q11 q12 q13), by omega⟩ (by omega)
   refine sk (bn' (tn (rg (mv rfl (s_add rfl rfl (wi6 (by omega)) (asg rfl (nl ?_)))))))
   exact lpE (k + 1) (.c3 rfl rfl (congrArg (fun l => some (S l)) (by first | (rw [gT_succ (pcs_some (by omega)), pieceT, rows_nil (w := wLeft) (by omega), rows_nil (w := wRight) (by omega)]; simp only [List.append_assoc, List.append_nil, List.nil_append]; done) | (rw [gT_succ (pcs_some (by omega)), pieceT, rows_nil (w := wLeft) (by omega)]; simp only [List.append_assoc, List.append_nil, List.nil_append]; done) | (rw [gT_succ (pcs_some (by omega)), pieceT, rows_nil (w := wRight) (by omega)]; simp only [List.append_assoc, List.append_nil, List.nil_append]; done) | (rw [gT_succ (pcs_some (by omega)), pieceT]; simp only [List.append_assoc, List.append_nil, List.nil_append]; done)))) ⟨(q2.z5 q3 q4 q10 q11 q12), by omega⟩ (by omega)
  refine sk (tn (sr (mv rfl (fad rfl fa48_1 (s_fad2 rfl fa46_1 (s_loadBP (vs := [_]) rfl hb5 ag42 rfl ?_))))))
  replace hq := hq0.ext (q1.z4 q2 q3 q4 q10)
  refine cl (ev2 rfl rfl) co34 (refrows_ok wTile _ _ _ (hq.at (show k < qs.length by omega)).T hmo.2.1 hmo.2.2.2.2.2.2.1 (by decide) (by omega)) rfl ?_
  rintro _ w14 ⟨rfl, q14⟩
  have z14 := q14.size
  refine s_adds rfl rfl (asg rfl (kpL [(1, _), (3, _), (4, _), (5, _)] (.c4 rfl rfl rfl rfl) (nn (sr (fad rfl fa48_1 (s_fad2 rfl fa46_2 (s_fad2 rfl fa42_0 ?_)))))))
  replace hb5 := hb5.ext q14
  refine s_loadB rfl hb5 rfl na40 (lnS rfl Tryz.underlying40 (gt' rfl rfl (nn ?_)))
  refine cd rfl (fun c2 => ?_) (fun c2 => ?_)
  ·refine rg (mv rfl (fad rfl fa48_1 (s_fad2 rfl fa46_2 (s_loadBP (vs := [_]) rfl hb5 ag42 rfl ?_))))
   replace hq := hq0.ext (q1.z5 q2 q3 q4 q10 q14)
   refine cl (ev2 rfl rfl) co34 (refrows_ok wRight _ _ _ (hq.at (show k < qs.length by omega)).R hmo.2.2.1 hmo.2.2.2.2.2.2.2.1 (by decide) (by omega)) rfl ?_
   rintro _ w15 ⟨rfl, q15⟩
   have z15 := q15.size
   refine s_adds rfl rfl (asg rfl (kpL [(1, _), (3, _), (4, _)] (.c3 rfl rfl rfl) (nl (bn' (tn (rg (mv rfl (s_add rfl rfl (wi6 (by omega)) (asg rfl (nl ?_))))))))))
   exact lpE (k + 1) (.c3 rfl rfl (congrArg (fun l => some (S l)) (by first | (rw [gT_succ (pcs_some (by omega)), pieceT, rows_nil (w := wLeft) (by omega), rows_nil (w := wRight) (by omega)]; simp only [List.append_assoc, List.append_nil, List.nil_append]; done) | (rw [gT_succ (pcs_some (by omega)), pieceT, rows_nil (w := wLeft) (by omega)]; simp only [List.append_assoc, List.append_nil, List.nil_append]; done) | (rw [gT_succ (pcs_some (by omega)), pieceT, rows_nil (w := wRight) (by omega)]; simp only [List.append_assoc, List.append_nil, List.nil_append]; done) | (rw [gT_succ (pcs_some (by omega)), pieceT]; simp only [List.append_assoc, List.append_nil, List.nil_append]; done)))) ⟨(q2.z5 q3 q4 q10 q14 q15), by omega⟩ (by omega)
  refine sk (bn' (tn (rg (mv rfl (s_add rfl rfl (wi6 (by omega)) (asg rfl (nl ?_)))))))
  exact lpE (k + 1) (.c3 rfl rfl (congrArg (fun l => some (S l)) (by first | (rw [gT_succ (pcs_some (by omega)), pieceT, rows_nil (w := wLeft) (by omega), rows_nil (w := wRight) (by omega)]; simp only [List.append_assoc, List.append_nil, List.nil_append]; done) | (rw [gT_succ (pcs_some (by omega)), pieceT, rows_nil (w := wLeft) (by omega)]; simp only [List.append_assoc, List.append_nil, List.nil_append]; done) | (rw [gT_succ (pcs_some (by omega)), pieceT, rows_nil (w := wRight) (by omega)]; simp only [List.append_assoc, List.append_nil, List.nil_append]; done) | (rw [gT_succ (pcs_some (by omega)), pieceT]; simp only [List.append_assoc, List.append_nil, List.nil_append]; done)))) ⟨(q2.z4 q3 q4 q10 q14), by omega⟩ (by omega)
 obtain rfl : k = qs.length := by omega
 rw [← pcs_len qs, gT_all]
 refine ex (te (te (xh (tn (sr (mv rfl (asg rfl (nn (rt (r1 Tryz.results14 rfl ?_))))))))))
 exact ⟨_, rfl, rfl, (q1.n1 q2)⟩
end Go.Proofs.YthehggmdcmpjeaaGreatDoor
namespace Go.Proofs.YthehggmdcmpjeaaGreatDoor
open Go.Lw Go.G14
theorem el150 : ElemOf Tryz.prog 150 89 Enc.u8 1 := ElemOf.mk' (z := (.int .u8 0)) Tryz.underlying150 (by kernel_rfl) rfl
theorem sz46 : SizeOf Tryz.prog 46 3 := fun _ => by kernel_rfl
theorem zv46 (w : World) : (zeroValue 46).run Tryz.prog w = .ok (.agg #[(.slice none 0 0), (.slice none 0 0), (.slice none 0 0)]) w := by kernel_rfl
theorem words_ok (v : Value) (ks : List Int) (w0 : World) (hs : Sl Enc.u8 w0 v ks) (hl : ks.length ≤ 100) : Rets Tryz.prog 31 #[v] w0 fun r w' => ∃ X, r = .agg #[X] ∧ OwR 88 91 w0.heap.size w' X [ks.map wrdS] ∧ Fr [] w0 w' := by
 obtain ⟨A, c, rfl, hcc, hM, hA⟩ := id hs
 clear hA
 unfold maxLen at hM
 refine we [(0, .slice A ks.length c)] Tryz.func31 rfl Tryz.ntmps31 rfl (.cons rfl .nil) ?_
 have hs0 := hs
 refine sr (al zv42 rfl rfl (fun g2 w1 hg2 hb2 q1 z1 => ?_))
 refine nn (sr (asg rfl (nn (sq (sr (asg rfl (nn (bl ?_))))))))
 skip
 have hb20 := hb2
 skip
 refine lpK (ι := Nat × Value) [(0, _), (2, _)] (fun p => [(4, .int .i64 (p.1 : Int)), (3, p.2)]) (fun p w' => Fr [] w1 w' ∧ p.1 ≤ ks.length ∧ Lw.Own encSt 91 (g2 + 1) w' p.2 ((ks.take p.1).map wrdS)) (fun p => ks.length - p.1) (0, .slice none 0 0) (.c4 rfl rfl rfl rfl) ⟨(Fr.refl _ _), ⟨Nat.zero_le _, Own.nil _⟩⟩ ?_
 rintro ⟨i, vR⟩ w2 ⟨q2, ⟨hi, hoR⟩⟩
 simp only at hi hoR
 have z2 := q2.size
 refine kpC [(0, _), (2, _), (4, .int .i64 (i : Int)), (3, vR)] (.c4 rfl rfl rfl rfl) ?_
 refine sq (sr (mv rfl (mv rfl (lnS rfl Tryz.underlying150 (lt' rfl rfl (nn ?_))))))
 refine cd rfl (fun c0 => ?_) (fun c0 => ?_)
 ·refine sk (tn (sq (bl (rg (mv rfl (mv rfl (mv rfl ?_)))))))
  replace hs := hs0.ext (q1.n1 q2)
  refine s_idxL (0) rfl hs rfl el150 nat_of (fun ad14 hc14 => ?_)
  refine s_loadC0 rfl (hc14 _ hs) na89 (s_lit (cs := [_, _, _, _, _]) (ev2 rfl rfl) bo91 (pok_cons rfl rfl rfl (pok_cons rfl rfl rfl pok_nil)) rfl ?_)
  refine s_bslice ([wrdS (ks.getD i 0)]) (ev1 rfl) rfl rfl rfl el88 (Nat.le_of_ble_eq_true rfl) (fun g17 w3 hg17 ho17 q3 z3 => ?_)
  replace hoR := hoR.ext q3
  have hoo18 := hoR
  refine s_append rfl rfl hoR ho17.sl el88 (fun v18 w4 hoR q4 hor18 => ?_) (hM := (by unfold maxLen; simp only [List.length_map, List.length_take, List.length_cons, List.length_nil]; omega)) (hb := (by simp only [List.length_map, List.length_take, List.length_cons, List.length_nil]; omega))
  have z4 := q4.size
  refine asg rfl (kpL [(0, _), (2, _), (3, _), (4, _)] (.c4 rfl rfl rfl rfl) (nl (bn' (tn (rg (mv rfl (s_add rfl rfl (wi6 (by omega)) (asg rfl (nl ?_)))))))))
  exact lpE ((i + 1, v18)) (.c4 rfl rfl rfl rfl) ⟨((q2.n1 q3).step q4 (fun k hk hlt => absurd (hoo18.blk k hk).1 (by omega))), ⟨by simp only; omega, by simp only; rw [take_one ks i 0 (by omega), List.map_append]; exact hoR⟩⟩ (by simp only; omega)
 obtain rfl : i = ks.length := by omega
 rw [List.take_length] at hoR
 obtain ⟨AR, cR, rfl, _⟩ := hoR.sl.form
 refine ex (te (te (xh (tn (sr (mv rfl (s_bslice ([((AR, (ks.map wrdS).length, cR), ks.map wrdS)]) (ev1 rfl) rfl rfl rfl er40 (Nat.le_of_ble_eq_true rfl) (fun g20 w5 hg20 ho20 q5 z5 => ?_))))))))
 refine s_lit (cs := [_]) (ev1 rfl) bo42 (pok_cons rfl rfl rfl pok_nil) rfl ?_
 replace hb2 := hb20.ext (q2.n1 q5)
 refine s_storeBA rfl rfl hb2 rfl sz42 (fun w6 hb2 q6 z6 => ?_)
 refine kpL [(2, _)] (.cons rfl .nil) (nn (rt (rC Tryz.results31 rfl hb2 ag42  ?_)))
 replace ho20 := ho20.fr q6 (by first|exact nfl_ ho20 (by omega)|simp[blks]<;>omega)
 replace hoR := (hoR.ext q5).fr q6 (by first|exact nfl_ hoR (by omega)|simp[blks]<;>omega)
 exact ⟨_, rfl, _, rfl, ⟨_, ho20.low (by omega), fun q hq => by obtain rfl := List.mem_singleton.1 hq; exact hoR.low (by omega), rfl⟩, (q1.z3 q2 q5 q6)⟩
end Go.Proofs.YthehggmdcmpjeaaGreatDoor
namespace Go.G14
open Go.Lw
def lvN : List UInt8 := [115, 99, 97, 114, 102]
def lvP : Pc := ⟨[98, 111, 100, 121], ⟨[[1].map wrdS], [[2, 1].map wrdS], []⟩, 2, 1, 3, 2⟩
def lvR : List Stitch := [1, 2, 1, 2, 1].map wrdS
theorem lv_make : makeE lvN [lvP] 0 = 0 := by decide +kernel
theorem lv_n0 : (needL [lvP] 0).getD 0 0 = 50 := by decide +kernel
theorem lv_n1 : (needL [lvP] 0).getD 1 0 = 0 := by decide +kernel
theorem lv_sz : sizesTo lvN [lvP] 10 = [0, 1, 2, 3, 4, 5] := by decide +kernel
theorem lv_ch : chartP 0 lvP = [lvR, lvR, lvR] := by decide +kernel
theorem lv_text : garText lvN [lvP] = [103, 97, 114, 109, 101, 110, 116, 32, 115, 99, 97, 114, 102, 10, 112, 105, 101, 99, 101, 32, 98, 111, 100, 121, 32, 50, 32, 50, 32, 49, 32, 51, 10, 108, 101, 102, 116, 32, 107, 10, 116, 105, 108, 101, 32, 112, 32, 107, 10] := by decide +kernel
theorem lv_gL : rowsR lvP.mot.L := by unfold rowsR; decide
theorem lv_gT : rowsR lvP.mot.T := by unfold rowsR; decide
theorem lv_gR : rowsR lvP.mot.R := by unfold rowsR; decide
theorem lv_pcs {w : World} {l t : SV} (hl : Sll encSt w (slv l) [[1].map wrdS]) (ht : Sll encSt w (slv t) [[2, 1].map wrdS]) : PcsQ w [⟨lvP, l, t, (none, 0, 0)⟩] := fun q hq => by
 obtain rfl := List.mem_singleton.1 hq
 exact ⟨hl, ht, slln w, lv_gL, lv_gT, lv_gR⟩
end Go.G14
namespace Go.Proofs.YthehggmdcmpjeaaGreatDoor
open Go.Lw Go.G14
theorem bo27 : BuildAt Tryz.prog 27 [(0, 1), (1, 1)] [(S []), (.slice none 0 0)] := BuildAt.struct Tryz.underlying27 (fun _ => by kernel_rfl) (fun _ => by kernel_rfl)
theorem bo46 : BuildAt Tryz.prog 46 [(0, 1), (1, 1), (2, 1)] [(.slice none 0 0), (.slice none 0 0), (.slice none 0 0)] := BuildAt.struct Tryz.underlying46 (fun _ => by kernel_rfl) (fun _ => by kernel_rfl)
theorem bo48 : BuildAt Tryz.prog 48 [(0, 1), (1, 3), (4, 1), (5, 1), (6, 1), (7, 1)] [(S []), (.slice none 0 0), (.slice none 0 0), (.slice none 0 0), (.int .i64 0), (.int .i64 0), (.int .i64 0), (.int .i64 0)] := BuildAt.struct Tryz.underlying48 (fun _ => by kernel_rfl) (fun _ => by kernel_rfl)
theorem co9 : CallOf Tryz.prog 9 := mkC Tryz.func9
theorem co11 : CallOf Tryz.prog 11 := mkC Tryz.func11
theorem co16 : CallOf Tryz.prog 16 := mkC Tryz.func16
theorem co31 : CallOf Tryz.prog 31 := mkC Tryz.func31
theorem co32 : CallOf Tryz.prog 32 := mkC Tryz.func32
theorem fa44_0 : FieldAt Tryz.prog 44 0 0 := fun _ _ => by kernel_rfl
theorem sz27 : SizeOf Tryz.prog 27 2 := fun _ => by kernel_rfl
theorem zv27 (w : World) : (zeroValue 27).run Tryz.prog w = .ok (.agg #[(S []), (.slice none 0 0)]) w := by kernel_rfl
theorem fldC (v : Value) (w : World) : (Instr.field 42 (.agg #[v]) 0).run Tryz.prog w = .ok v w := by kernel_rfl
set_option maxHeartbeats 2000000 in
theorem lives22_ok (w0 : World) (hy : Sym w0) : Rets Tryz.prog 13 #[] w0 fun r w' => r = .bool true ∧ Fr [] w0 w' := by
 refine we [] Tryz.func13 rfl Tryz.ntmps13 rfl .nil ?_
 have hy0 := hy
 refine sr (asg rfl (nn (sr (asg rfl (asg rfl (nn (sr (mv rfl (s_bslice ([1]) (ev1 rfl) rfl rfl rfl el150 (Nat.le_of_ble_eq_true rfl) (fun g11 w1 hg11 ho11 q1 z1 => ?_))))))))))
 refine cl (ev1 rfl) co31 (words_ok _ [1] _ ho11.sl (by decide)) rfl ?_
 rintro _ w2 ⟨X12, rfl, hX, q2⟩
 have z2 := q2.size
 have hX0 := hX
 obtain ⟨A12, c12, rfl, _⟩ := hX.form
 refine mv rfl (mv rfl (s_bslice ([2, 1]) (ev2 rfl rfl) rfl rfl rfl el150 (Nat.le_of_ble_eq_true rfl) (fun g15 w3 hg15 ho15 q3 z3 => ?_)))
 refine cl (ev1 rfl) co31 (words_ok _ [2, 1] _ ho15.sl (by decide)) rfl ?_
 rintro _ w4 ⟨X16, rfl, hZ, q4⟩
 have z4 := q4.size
 have hZ0 := hZ
 obtain ⟨A16, c16, rfl, _⟩ := hZ.form
 refine s_lit (cs := [_, _, _]) (ev2 rfl rfl) bo46 (pok_cons rfl rfl rfl (pok_cons rfl rfl rfl pok_nil)) rfl ?_
 refine s_lit (cs := [_, _, _, _, _, _, _, _]) (evs_cons rfl (evs_cons rfl (evs_cons rfl (evs_cons rfl (evs_cons rfl (evs_cons rfl evs_nil)))))) bo48 (pok_cons rfl rfl rfl (pok_cons rfl rfl rfl (pok_cons rfl rfl rfl (pok_cons rfl rfl rfl (pok_cons rfl rfl rfl (pok_cons rfl rfl rfl pok_nil)))))) rfl ?_
 refine s_bslice ([(⟨lvP, (A12, [[1].map wrdS].length, c12), (A16, [[2, 1].map wrdS].length, c16), (none, 0, 0)⟩ : PQ)]) (ev1 rfl) rfl rfl rfl el25 (Nat.le_of_ble_eq_true rfl) (fun g19 w5 hg19 ho19 q5 z5 => ?_)
 refine s_lit (cs := [_, _]) (ev2 rfl rfl) bo27 (pok_cons rfl rfl rfl (pok_cons rfl rfl rfl pok_nil)) rfl ?_
 refine al zv27 rfl rfl (fun g3 w6 hg3 hb3 q6 z6 => ?_)
 refine s_storeBA rfl rfl hb3 rfl sz27 (fun w7 hb3 q7 z7 => ?_)
 replace hX := hX0.ext (q3.z4 q4 q5 q6 q7)
 replace hZ := hZ0.ext (q5.z2 q6 q7)
 have hq : PcsQ w7 [(⟨lvP, (A12, [[1].map wrdS].length, c12), (A16, [[2, 1].map wrdS].length, c16), (none, 0, 0)⟩ : PQ)] := lv_pcs hX.sll hZ.sll
 have hq0 := hq
 refine kpL [(1, _), (2, _), (3, _)] (.c3 rfl rfl rfl) (nn (sr (s_loadBA rfl hb3 ag27 ?_)))
 replace ho19 := (ho19.ext q6).fr q7 (by first|exact nfl_ ho19 (by omega)|simp[blks]<;>omega)
 refine cl (ev2 rfl rfl) co8 (gmake_ok lvN _ [(⟨lvP, (A12, [[1].map wrdS].length, c12), (A16, [[2, 1].map wrdS].length, c16), (none, 0, 0)⟩ : PQ)] 0 _ ho19.sl hq) rfl ?_
 rintro _ w8 ⟨V23, its, rfl, hoI, hio, -, hmz, q8⟩
 have z8 := q8.size
 have hoI0 := hoI
 have hio0 := hio
 obtain ⟨⟨A23, rfl⟩, hil, hit⟩ := hmz lv_make
 have hi1 : its.length = 1 := hil
 refine mv rfl (xt rfl rfl (xt rfl rfl (asg rfl (asg rfl (nn (sr ?_))))))
 replace hb3 := hb3.ext q8
 refine s_loadBA rfl hb3 ag27 ?_
 replace ho19 := ho19.ext q8
 replace hq := hq0.ext q8
 refine cl (ev2 rfl rfl) co9 (gneeds_ok lvN _ [(⟨lvP, (A12, [[1].map wrdS].length, c12), (A16, [[2, 1].map wrdS].length, c16), (none, 0, 0)⟩ : PQ)] 0 _ ho19.sl hq) rfl ?_
 rintro _ w9 ⟨V28, rfl, -, hnz, q9⟩
 have z9 := q9.size
 obtain ⟨⟨A28, rfl⟩, hoN⟩ := hnz lv_make
 have hoN0 := hoN
 have hnl : (needL (pcs [(⟨lvP, (A12, [[1].map wrdS].length, c12), (A16, [[2, 1].map wrdS].length, c16), (none, 0, 0)⟩ : PQ)]) 0).length = 6 := needL_len _ _
 refine mv rfl (xt rfl rfl (xt rfl rfl (asg rfl (asg rfl (nn (sr ?_))))))
 replace hb3 := hb3.ext q9
 refine s_loadBA rfl hb3 ag27 ?_
 replace ho19 := ho19.ext q9
 replace hq := hq0.ext (q8.n1 q9)
 refine cl (ev1 rfl) co32 (sizes_ok lvN _ [(⟨lvP, (A12, [[1].map wrdS].length, c12), (A16, [[2, 1].map wrdS].length, c16), (none, 0, 0)⟩ : PQ)] _ ho19.sl hq) rfl ?_
 rintro _ w10 ⟨A32, rfl, hoS, q10⟩
 have z10 := q10.size
 have hoS0 := hoS
 have hsz : (sizesTo lvN (pcs [(⟨lvP, (A12, [[1].map wrdS].length, c12), (A16, [[2, 1].map wrdS].length, c16), (none, 0, 0)⟩ : PQ)]) 10).length = 6 := congrArg List.length lv_sz
 refine asg rfl (nn (sr (mv rfl (mv rfl (mv rfl (mv rfl (mv rfl (s_bslice ([1, 2, 1, 2, 1]) (evs_cons rfl (evs_cons rfl (evs_cons rfl (evs_cons rfl (evs_cons rfl evs_nil))))) rfl rfl rfl el150 (Nat.le_of_ble_eq_true rfl) (fun g38 w11 hg38 ho38 q11 z11 => ?_)))))))))
 refine cl (ev1 rfl) co31 (words_ok _ [1, 2, 1, 2, 1] _ ho38.sl (by decide)) rfl ?_
 rintro _ w12 ⟨X39, rfl, hW, q12⟩
 have z12 := q12.size
 have hW0 := hW
 obtain ⟨rs, hrs, hqr, hrm⟩ := Sll.opn hW.sll
 obtain ⟨A39, c39, rfl, _⟩ := hrs.form
 have hr1 : rs.length = 1 := by have := congrArg List.length hrm; simpa using this
 have hrl := sl_len (hqr (rs.getD 0 rq0) (getD_memS (by omega)))
 have hrs0 := hrs
 have hqr0 := hqr
 refine s_field rfl (fun w => fldC _ w) rfl ?_
 refine s_idxL (p := 0) (rq0) rfl hrs rfl er40 rfl (fun ad41 hc41 => ?_)
 refine s_loadC0 rfl (hc41 _ hrs) na88 (asg rfl (kpL [(3, _), (4, _), (5, _), (6, _), (7, _), (8, _), (9, _)] (.c7 rfl rfl rfl rfl rfl rfl rfl) (nn (sr ?_))))
 replace hb3 := hb3.ext (q10.n2 q11 q12)
 refine s_loadBA rfl hb3 ag27 ?_
 replace ho19 := ho19.ext (q10.n2 q11 q12)
 replace hq := hq0.ext (q8.n4 q9 q10 q11 q12)
 replace hy := hy0.ext ((((q1.z6 q2 q3 q4 q5 q6 q7).n1 q8).n1 q9).n3 q10 q11 q12)
 refine cl (ev1 rfl) co16 (gtext_ok lvN _ [(⟨lvP, (A12, [[1].map wrdS].length, c12), (A16, [[2, 1].map wrdS].length, c16), (none, 0, 0)⟩ : PQ)] _ ho19.sl hq hy) rfl ?_
 rintro _ w13 ⟨rfl, q13⟩
 have z13 := q13.size
 refine s_eqs rfl rfl (mv rfl ?_)
 refine gs 46 rfl (fun g0 => ?_) (fun hh => absurd (by exact lv_text) hh)
 refine gY rfl (mv rfl (gY rfl (eq' rfl rfl (pkt rfl rfl (mv rfl ?_)))))
 refine gs 50 rfl (fun g1 => ?_) (fun hh => absurd (by exact lv_make) hh)
 refine gY rfl (mv rfl (gY rfl (lnS rfl Tryz.underlying29 (gY rfl (eq' rfl rfl (pkt rfl rfl (mv rfl ?_)))))))
 refine gs 55 rfl (fun g2 => ?_) (fun hh => absurd (by rfl) hh)
 refine gY rfl (mv rfl (gY rfl ?_))
 replace hoI := hoI0.ext (q9.n4 q10 q11 q12 q13)
 refine s_idxL (p := 0) (iq0) rfl hoI.sl rfl el29 rfl (fun ad57 hc57 => ?_)
 refine gY rfl (fad rfl fa44_0 (gY rfl (s_loadC rfl (hc57 _ hoI.sl) rfl na9 rfl (gY rfl (s_eqs rfl rfl (pkt rfl rfl (mv rfl ?_)))))))
 refine gs 62 rfl (fun g3 => ?_) (fun hh => absurd (by exact (hit 0 Nat.zero_lt_one).1) hh)
 refine gY rfl (mv rfl (gY rfl (s_idxL (p := 0) (iq0) rfl hoI.sl rfl el29 rfl (fun ad64 hc64 => ?_))))
 refine gY rfl (fad rfl fa44_2 (gY rfl (s_loadC rfl (hc64 _ hoI.sl) rfl na3 rfl (gY rfl (eq' rfl rfl (pkt rfl rfl (mv rfl ?_)))))))
 refine gs 69 rfl (fun g4 => ?_) (fun hh => absurd (by exact (hit 0 Nat.zero_lt_one).2.1) hh)
 refine gY rfl (mv rfl (gY rfl (s_idxL (p := 0) (iq0) rfl hoI.sl rfl el29 rfl (fun ad71 hc71 => ?_))))
 refine gY rfl (fad rfl fa44_1 (gY rfl (s_loadA rfl (cells_part (vs := [_]) (hc71 _ hoI.sl) rfl) ag42 (gY rfl (mv rfl (gY rfl (mv rfl (gY rfl (mv rfl (gY rfl (s_bslice ([(rs.getD 0 rq0), (rs.getD 0 rq0), (rs.getD 0 rq0)]) (ev3 rfl rfl rfl) rfl rfl rfl er40 (Nat.le_of_ble_eq_true rfl) (fun g77 w14 hg77 ho77 q14 z14 => ?_))))))))))))
 refine gY rfl (s_lit (cs := [_]) (ev1 rfl) bo42 (pok_cons rfl rfl rfl pok_nil) rfl ?_)
 refine gY rfl ?_
 replace hio := hio0.ext (q9.n5 q10 q11 q12 q13 q14)
 replace hq := hq0.ext (q8.n6 q9 q10 q11 q12 q13 q14)
 replace hqr := hqr0.ext (q13.n1 q14)
 refine cl (ev2 rfl rfl) co11 (differ2_ok _ _ (its.getD 0 iq0).rows [(rs.getD 0 rq0).2, (rs.getD 0 rq0).2, (rs.getD 0 rq0).2] _ (hio _ (getD_memS (by omega))).sll (sll_of ho77.sl (fun q hq => by have e : q = (rs.getD 0 rq0) := (by simpa using hq); rw [e]; exact hqr _ (getD_memS (by omega))))) rfl ?_
 rintro _ w15 ⟨rfl, q15⟩
 have z15 := q15.size
 refine gY rfl (eq' rfl rfl (pkt rfl rfl (mv rfl ?_)))
 refine gs 82 rfl (fun g5 => ?_) (fun hh => absurd (by rw [if_pos]; exact (hit 0 Nat.zero_lt_one).2.2.trans (lv_ch.trans (by have e : (rs.getD 0 rq0).2 = lvR := (gd_rows hrm (i := 0) (by omega)).symm; rw [e]))) hh)
 refine gY rfl (mv rfl (gY rfl (eq' rfl rfl (pkt rfl rfl (mv rfl ?_)))))
 refine gs 86 rfl (fun g6 => ?_) (fun hh => absurd (by exact lv_make) hh)
 refine gY rfl (mv rfl (gY rfl (lnS rfl Tryz.underlying33 (gY rfl (eq' rfl rfl (pkt rfl rfl (mv rfl ?_)))))))
 refine gs 91 rfl (fun g7 => ?_) (fun hh => absurd (by rfl) hh)
 refine gY rfl (mv rfl (gY rfl ?_))
 replace hoN := hoN0.ext (q10.n5 q11 q12 q13 q14 q15)
 refine s_idxL (p := 0) (0) rfl hoN.sl rfl el33 rfl (fun ad93 hc93 => ?_)
 refine gY rfl (s_loadC0 rfl (hc93 _ hoN.sl) na3 (gY rfl (eq' rfl rfl (pkt rfl rfl (mv rfl ?_)))))
 refine gs 97 rfl (fun g8 => ?_) (fun hh => absurd (by exact lv_n0) hh)
 refine gY rfl (mv rfl (gY rfl (s_idxL (p := 1) (0) rfl hoN.sl rfl el33 rfl (fun ad99 hc99 => ?_))))
 refine gY rfl (s_loadC0 rfl (hc99 _ hoN.sl) na3 (gY rfl (eq' rfl rfl (pkt rfl rfl (mv rfl ?_)))))
 refine gs 103 rfl (fun g9 => ?_) (fun hh => absurd (by exact lv_n1) hh)
 refine gY rfl (mv rfl (gY rfl (lnS rfl Tryz.underlying33 (gY rfl (eq' rfl rfl (pkt rfl rfl (mv rfl ?_)))))))
 refine gs 108 rfl (fun g10 => ?_) (fun hh => absurd (by omega) hh)
 refine gY rfl (mv rfl (gY rfl ?_))
 replace hoS := hoS0.ext (q11.n4 q12 q13 q14 q15)
 refine s_idxL (p := 0) (0) rfl hoS.sl rfl el33 rfl (fun ad110 hc110 => ?_)
 refine gY rfl (s_loadC0 rfl (hc110 _ hoS.sl) na3 (gY rfl (eq' rfl rfl (pkt rfl rfl (mv rfl ?_)))))
 refine gs 114 rfl (fun g11 => ?_) (fun hh => absurd (by rw [show sizesTo lvN (pcs [(⟨lvP, (A12, [[1].map wrdS].length, c12), (A16, [[2, 1].map wrdS].length, c16), (none, 0, 0)⟩ : PQ)]) 10 = [0, 1, 2, 3, 4, 5] from lv_sz]; rfl) hh)
 refine gY rfl (mv rfl (gY rfl (s_idxL (p := 5) (0) rfl hoS.sl rfl el33 rfl (fun ad116 hc116 => ?_))))
 refine gY rfl (s_loadC0 rfl (hc116 _ hoS.sl) na3 (gY rfl (eq' rfl rfl (pkt rfl rfl (asg rfl (kpL [(0, _)] (.cons rfl .nil) (nn (rt (r1 Tryz.results13 rfl ?_)))))))))
 exact ⟨_, rfl, by rw [show sizesTo lvN (pcs [(⟨lvP, (A12, [[1].map wrdS].length, c12), (A16, [[2, 1].map wrdS].length, c16), (none, 0, 0)⟩ : PQ)]) 10 = [0, 1, 2, 3, 4, 5] from lv_sz]; rfl, ((((q1.z6 q2 q3 q4 q5 q6 q7).n1 q8).n1 q9).n6 q10 q11 q12 q13 q14 q15)⟩
end Go.Proofs.YthehggmdcmpjeaaGreatDoor
namespace Go.Proofs.YthehggmdcmpjeaaGreatDoor
open Go.Lw Go.G14
theorem co13 : CallOf Tryz.prog 13 := mkC Tryz.func13
theorem co14 : CallOf Tryz.prog 14 := mkC Tryz.func14
end Go.Proofs.YthehggmdcmpjeaaGreatDoor
namespace Go.Proofs.YthehggmdcmpjeaaGreatDoor
open Go.Lw Go.G14
theorem ag72 : AggOf Tryz.prog 72 2 := ⟨fun _ => by kernel_rfl, fun _ => by kernel_rfl⟩
theorem bo72 : BuildAt Tryz.prog 72 [(0, 1), (1, 1)] [(.int .u8 0), (.slice none 0 0)] := BuildAt.struct Tryz.underlying72 (fun _ => by kernel_rfl) (fun _ => by kernel_rfl)
theorem co46 : CallOf Tryz.prog 46 := mkC Tryz.func46
theorem co78 : CallOf Tryz.prog 78 := mkC Tryz.func78
theorem fa74_0 : FieldAt Tryz.prog 74 0 0 := fun _ _ => by kernel_rfl
theorem fa74_1 : FieldAt Tryz.prog 74 1 1 := fun _ _ => by kernel_rfl
theorem fa74_2 : FieldAt Tryz.prog 74 2 2 := fun _ _ => by kernel_rfl
theorem fa74_3 : FieldAt Tryz.prog 74 3 4 := fun _ _ => by kernel_rfl
theorem fa74_4 : FieldAt Tryz.prog 74 4 6 := fun _ _ => by kernel_rfl
theorem zv75 (w : World) : (zeroValue 75).run Tryz.prog w = .ok (.slice none 0 0) w := by kernel_rfl
theorem mblk_ok (B : SV → List UInt8) (hB : B (none, 0, 0) = []) (wd : Int) (v : Value) (hs : List SV) (n : Nat) (w0 : World) (hw : 0 ≤ wd ∧ wd ≤ 255) (hv : Sl Enc.sl w0 v hs) (hc : BytesF B w0 hs) (hn : n ≤ 100) : Rets Tryz.prog 46 #[.agg #[.int .u8 wd, v], .int .i64 (n : Int)] w0 fun r w' => ∃ X rows, r = .agg #[X] ∧ OwR 88 91 w0.heap.size w' X rows ∧ goodM rows ∧ rows = blkF B wd hs n ∧ Fr [] w0 w' := by
 obtain ⟨A, c, rfl, hcc, hM, hA⟩ := id hv
 clear hA
 unfold maxLen at hM
 refine we [(0, .agg #[.int .u8 wd, .slice A hs.length c]), (1, .int .i64 (n : Int))] Tryz.func46 rfl Tryz.ntmps46 rfl (.c2 rfl rfl) ?_
 have hv0 := hv
 have hc0 := hc
 refine sr (bx rfl rfl rfl (fun g2 w1 hg2 hb2 q1 z1 => ?_))
 refine al zv42 rfl rfl (fun g4 w2 hg4 hb4 q2 z2 => ?_)
 refine nn (sr (mv rfl ?_))
 refine s_makeSlice (m := n) (c := n) (((none, 0, 0) : SV)) rfl rfl el70 zv75 rfl (Nat.le_refl _) (by unfold maxLen; omega) (fun g7 w3 hg7 hoB q3 z3 => ?_)
 refine asg rfl (nn (sr (mv rfl (fad rfl fa72_1 ?_))))
 replace hb2 := hb2.ext (q2.n1 q3)
 refine s_loadB rfl hb2 rfl na70 ?_
 replace hv := hv0.ext (q1.n2 q2 q3)
 obtain ⟨k, hk⟩ : ∃ k, k = min (n - 0) hs.length := ⟨_, rfl⟩
 refine s_copyP (p := 0) (k := k) (m := n) (cap := n) (by rw [Nat.zero_mul, lit_add]; rfl) rfl hoB hv (Nat.zero_le _) hk el70 rfl (fun w4 hoB q4 z4 => ?_)
 replace hoB : Lw.Own Enc.sl 75 g7 w4 (.slice (some ⟨g7, 0, none⟩) n n) (hs.take k ++ List.replicate (n - k) (none, 0, 0)) := by simpa using hoB
 refine nn (sr (fad rfl fa72_0 ?_))
 replace hb2 := hb2.fr q4 (by simp[blks]<;>omega)
 refine s_loadB rfl hb2 rfl na5 (s_rem rfl rfl (by first | exact IntWalk.rem_in _ _ (by omega) | rfl) (mv rfl (s_lit (cs := [_, _]) (ev2 rfl rfl) bo72 (pok_cons rfl rfl rfl (pok_cons rfl rfl rfl pok_nil)) rfl ?_)))
 replace hc := hc0.ext (q1.z3 q2 q3 q4)
 refine cl (ev1 rfl) co78 (cof_ok B _ (wd % 4) _ _ (by omega) hoB.sl (bytesf_copy hB hc)) rfl ?_
 rintro _ w5 ⟨X17, rows, rfl, ⟨ps, hRO, hrp⟩, -, hgr, hrf, q5⟩
 have z5 := q5.size
 obtain ⟨OA, oc, rfl, _⟩ := hRO.out.sl.form
 have hOw := owr_of hRO
 rw [hrp] at hOw
 have hOw0 := hOw
 replace hb4 := ((hb4.ext q3).fr q4 (by simp[blks]<;>omega)).ext q5
 refine s_storeBA rfl rfl hb4 rfl sz42 (fun w6 hb4 q6 z6 => ?_)
 refine kpL [(4, _)] (.cons rfl .nil) (nn (rt (rC Tryz.results46 rfl hb4 ag42  ?_)))
 replace hOw := hOw0.fr ((Fr.refl [g4] _).z1 q6) (by intro k hk; simp at hk; omega)
 exact ⟨_, rfl, _, rows, rfl, hOw.low (by omega), hgr, (by rw [hrf, blkF, show min n hs.length = k by omega]), (q1.z5 q2 q3 q4 q5 q6)⟩
set_option maxHeartbeats 1000000 in
theorem mof_ok (B : SV → List UInt8) (H : SV → List SV) (hB : B (none, 0, 0) = []) (q : QD) (w0 : World) (hq : QAtF B H w0 q) : Rets Tryz.prog 22 #[.agg #[.int .u8 q.ht, .int .u8 q.ed, .int .u8 q.lw, slv q.l, .int .u8 q.tw, slv q.t, .int .u8 q.rw, slv q.r]] w0 fun r w' => ∃ l t r' m, r = .agg #[slv l, slv t, slv r'] ∧ MotO 88 91 w0.heap.size w' (slv l) (slv t) (slv r') m ∧ m = motF B H q ∧ Fr [] w0 w' := by
 obtain ⟨n, hn⟩ : ∃ n : Nat, (n : Int) = 1 + 2 * (q.ht % 3) := ⟨(1 + 2 * (q.ht % 3)).toNat, by have := hq.rg.1; omega⟩
 have hrg := hq.rg
 obtain ⟨hl1, hl2⟩ := hq.l
 obtain ⟨ht1, ht2⟩ := hq.t
 obtain ⟨hr1, hr2⟩ := hq.r
 refine we [(0, .agg #[.int .u8 q.ht, .int .u8 q.ed, .int .u8 q.lw, slv q.l, .int .u8 q.tw, slv q.t, .int .u8 q.rw, slv q.r])] Tryz.func22 rfl Tryz.ntmps22 rfl (.cons rfl .nil) ?_
 have hl10 := hl1
 have hl20 := hl2
 have ht10 := ht1
 have ht20 := ht2
 have hr10 := hr1
 have hr20 := hr2
 refine sr (bx rfl rfl rfl (fun g1 w1 hg1 hb1 q1 z1 => ?_))
 refine al zv46 rfl rfl (fun g2 w2 hg2 hb2 q2 z2 => ?_)
 refine nn ?_
 refine jn (ι := Unit) [(1, _), (2, _)] (fun _j => [(3, .int .i64 (n : Int))]) (fun _j w' => Fr [] w2 w') (.c2 rfl rfl) ?_ ?_
 ·refine rg (fad rfl fa74_0 ?_)
  replace hb1 := hb1.ext q2
  refine s_loadB rfl hb1 rfl na5 (s_rem rfl rfl (by first | exact IntWalk.rem_in _ _ (by omega) | rfl) (s_conv rfl (us Tryz.underlying5) Tryz.underlying3 (wi6 (by omega)) (s_mul rfl rfl (wi6 (by omega)) (s_add rfl rfl (wi6 (by omega)) (asg rfl (kpL [(1, _), (2, _), (3, _)] (.c3 rfl rfl rfl) (nl ?_)))))))
  exact jE (()) (.c3 rfl rfl (congrArg (fun z => some (Value.int .i64 z)) hn.symm)) (Fr.refl _ _)
 rintro _j w3 q3
 have z3 := q3.size
 refine kpC [(1, _), (2, _), (3, _)] (.c3 rfl rfl rfl) ?_
 refine sr (fad rfl fa74_3 ?_)
 replace hb1 := hb1.ext (q2.n1 q3)
 refine s_loadBP (vs := [_, _]) rfl hb1 ag72 rfl (mv rfl ?_)
 replace ht1 := ht10.ext (q1.n2 q2 q3)
 replace ht2 := ht20.ext (q1.n2 q2 q3)
 refine cl (ev2 rfl rfl) co46 (mblk_ok B hB q.tw _ (H q.t) n _ hq.rg.2.2.2.1 ht1 ht2 (by omega)) rfl ?_
 rintro _ w4 ⟨Y14, rY, rfl, hY, gY, eY, q4⟩
 have z4 := q4.size
 have hY0 := hY
 obtain ⟨AY, cY, rfl, _⟩ := hY.form
 refine s_lit (cs := [_, _, _]) (ev1 rfl) bo46 (pok_cons rfl rfl rfl pok_nil) rfl ?_
 refine al zv46 rfl rfl (fun g4 w5 hg4 hb4 q5 z5 => ?_)
 refine s_storeBA rfl rfl hb4 rfl sz46 (fun w6 hb4 q6 z6 => ?_)
 refine nn (sq (sr (fad rfl fa74_1 ?_)))
 replace hb1 := (hb1.ext (q4.n1 q5)).fr q6 (by simp[blks]<;>omega)
 refine s_loadB rfl hb1 rfl na5 (s_rem rfl rfl (by first | exact IntWalk.rem_in _ _ (by omega) | rfl) (eq' rfl rfl (nn ?_)))
 refine cd rfl (fun c0 => ?_) (fun c0 => ?_)
 ·refine rg (fad rfl fa74_2 (s_loadBP (vs := [_, _]) rfl hb1 ag72 rfl (mv rfl ?_)))
  replace hl1 := hl10.ext (q1.z5 q2 q3 q4 q5 q6)
  replace hl2 := hl20.ext (q1.z5 q2 q3 q4 q5 q6)
  refine cl (ev2 rfl rfl) co46 (mblk_ok B hB q.lw _ (H q.l) n _ hq.rg.2.2.1 hl1 hl2 (by omega)) rfl ?_
  rintro _ w7 ⟨X23, rX, rfl, hX, gX, eX, q7⟩
  have z7 := q7.size
  have hX0 := hX
  obtain ⟨AX, cX, rfl, _⟩ := hX.form
  refine fad rfl fa46_0 ?_
  replace hb4 := hb4.ext q7
  refine s_storeBP (cs' := [_, _, _]) rfl rfl hb4 sz42 rfl (fun w8 hb4 q8 z8 => ?_)
  refine kpL [(1, _), (2, _), (3, _), (4, _)] (.c4 rfl rfl rfl rfl) (nl (tn (sq (sr (fad rfl fa74_1 ?_)))))
  replace hb1 := (hb1.ext q7).fr q8 (by simp[blks]<;>omega)
  refine s_loadB rfl hb1 rfl na5 (s_quo rfl rfl (by first | exact IntWalk.u8_quo _ _ (by omega) | rfl) (s_rem rfl rfl (by first | exact IntWalk.rem_in _ _ (by omega) | rfl) (eq' rfl rfl (nn ?_))))
  refine cd rfl (fun c1 => ?_) (fun c1 => ?_)
  ·refine rg (fad rfl fa74_4 (s_loadBP (vs := [_, _]) rfl hb1 ag72 rfl (mv rfl ?_)))
   replace hr1 := hr10.ext ((q1.z6 q2 q3 q4 q5 q6 q7).z1 q8)
   replace hr2 := hr20.ext ((q1.z6 q2 q3 q4 q5 q6 q7).z1 q8)
   refine cl (ev2 rfl rfl) co46 (mblk_ok B hB q.rw _ (H q.r) n _ hq.rg.2.2.2.2.1 hr1 hr2 (by omega)) rfl ?_
   rintro _ w9 ⟨Z33, rZ, rfl, hZ, gZ, eZ, q9⟩
   have z9 := q9.size
   have hZ0 := hZ
   obtain ⟨AZ, cZ, rfl, _⟩ := hZ.form
   refine fad rfl fa46_2 ?_
   replace hb4 := hb4.ext q9
   refine s_storeBP (cs' := [_, _, _]) rfl rfl hb4 sz42 rfl (fun w10 hb4 q10 z10 => ?_)
   refine kpL [(2, _), (4, _)] (.c2 rfl rfl) (nl (tn (sr (s_loadBA rfl hb4 ag46 ?_))))
   replace hb2 := (((((hb2.ext (q3.n2 q4 q5)).fr q6 (by simp[blks]<;>omega)).ext q7).fr q8 (by simp[blks]<;>omega)).ext q9).fr q10 (by simp[blks]<;>omega)
   refine s_storeBA rfl rfl hb2 rfl sz46 (fun w11 hb2 q11 z11 => ?_)
   refine nn (rt (rC Tryz.results22 rfl hb2 ag46  ?_))
   replace hX := hX0.fr ((Fr.refl [g4, g2] _).z4 q8 q9 q10 q11) (by intro k hk; simp at hk; omega)
   replace hY := hY0.fr (((Fr.refl [g2] _).z6 q5 q6 q7 q8 q9 q10).z1 q11) (by intro k hk; simp at hk; omega)
   replace hZ := hZ0.fr ((Fr.refl [g4, g2] _).z2 q10 q11) (by intro k hk; simp at hk; omega)
   first | exact ⟨_, rfl, ((AX, rX.length, cX)), (AY, rY.length, cY), ((AZ, rZ.length, cZ)), ⟨rX, rY, rZ⟩, rfl, ⟨hX.low (by omega), hY.low (by omega), hZ.low (by omega), gX, gY, gZ⟩, motF_eq hn (by rw [if_pos c0]; exact eX) eY (by rw [if_pos c1]; exact eZ), ((((q1.z6 q2 q3 q4 q5 q6 q7).z1 q8).n1 q9).z2 q10 q11)⟩ | exact ⟨_, rfl, ((AX, rX.length, cX)), (AY, rY.length, cY), ((none, 0, 0)), ⟨rX, rY, []⟩, rfl, ⟨hX.low (by omega), hY.low (by omega), OwR.nil _, gX, gY, good_nil⟩, motF_eq hn (by rw [if_pos c0]; exact eX) eY (by rw [if_neg c1]), ((((q1.z6 q2 q3 q4 q5 q6 q7).z1 q8).n1 q9).z2 q10 q11)⟩ | exact ⟨_, rfl, ((none, 0, 0)), (AY, rY.length, cY), ((AZ, rZ.length, cZ)), ⟨[], rY, rZ⟩, rfl, ⟨OwR.nil _, hY.low (by omega), hZ.low (by omega), good_nil, gY, gZ⟩, motF_eq hn (by rw [if_neg c0]) eY (by rw [if_pos c1]; exact eZ), ((((q1.z6 q2 q3 q4 q5 q6 q7).z1 q8).n1 q9).z2 q10 q11)⟩ | exact ⟨_, rfl, ((none, 0, 0)), (AY, rY.length, cY), ((none, 0, 0)), ⟨[], rY, []⟩, rfl, ⟨OwR.nil _, hY.low (by omega), OwR.nil _, good_nil, gY, good_nil⟩, motF_eq hn (by rw [if_neg c0]) eY (by rw [if_neg c1]), ((((q1.z6 q2 q3 q4 q5 q6 q7).z1 q8).n1 q9).z2 q10 q11)⟩
  refine sk (tn (sr (s_loadBA rfl hb4 ag46 ?_)))
  replace hb2 := (((hb2.ext (q3.n2 q4 q5)).fr q6 (by simp[blks]<;>omega)).ext q7).fr q8 (by simp[blks]<;>omega)
  refine s_storeBA rfl rfl hb2 rfl sz46 (fun w12 hb2 q12 z12 => ?_)
  refine nn (rt (rC Tryz.results22 rfl hb2 ag46  ?_))
  replace hX := hX0.fr ((Fr.refl [g4, g2] _).z2 q8 q12) (by intro k hk; simp at hk; omega)
  replace hY := hY0.fr ((Fr.refl [g2] _).z5 q5 q6 q7 q8 q12) (by intro k hk; simp at hk; omega)
  first | exact ⟨_, rfl, ((AX, rX.length, cX)), (AY, rY.length, cY), ((AZ, rZ.length, cZ)), ⟨rX, rY, rZ⟩, rfl, ⟨hX.low (by omega), hY.low (by omega), hZ.low (by omega), gX, gY, gZ⟩, motF_eq hn (by rw [if_pos c0]; exact eX) eY (by rw [if_pos c1]; exact eZ), (((q1.z6 q2 q3 q4 q5 q6 q7).z1 q8).z1 q12)⟩ | exact ⟨_, rfl, ((AX, rX.length, cX)), (AY, rY.length, cY), ((none, 0, 0)), ⟨rX, rY, []⟩, rfl, ⟨hX.low (by omega), hY.low (by omega), OwR.nil _, gX, gY, good_nil⟩, motF_eq hn (by rw [if_pos c0]; exact eX) eY (by rw [if_neg c1]), (((q1.z6 q2 q3 q4 q5 q6 q7).z1 q8).z1 q12)⟩ | exact ⟨_, rfl, ((none, 0, 0)), (AY, rY.length, cY), ((AZ, rZ.length, cZ)), ⟨[], rY, rZ⟩, rfl, ⟨OwR.nil _, hY.low (by omega), hZ.low (by omega), good_nil, gY, gZ⟩, motF_eq hn (by rw [if_neg c0]) eY (by rw [if_pos c1]; exact eZ), (((q1.z6 q2 q3 q4 q5 q6 q7).z1 q8).z1 q12)⟩ | exact ⟨_, rfl, ((none, 0, 0)), (AY, rY.length, cY), ((none, 0, 0)), ⟨[], rY, []⟩, rfl, ⟨OwR.nil _, hY.low (by omega), OwR.nil _, good_nil, gY, good_nil⟩, motF_eq hn (by rw [if_neg c0]) eY (by rw [if_neg c1]), (((q1.z6 q2 q3 q4 q5 q6 q7).z1 q8).z1 q12)⟩
 refine sk (tn (sq (sr (fad rfl fa74_1 (s_loadB rfl hb1 rfl na5 (s_quo rfl rfl (by first | exact IntWalk.u8_quo _ _ (by omega) | rfl) (s_rem rfl rfl (by first | exact IntWalk.rem_in _ _ (by omega) | rfl) (eq' rfl rfl (nn ?_)))))))))
 refine cd rfl (fun c1 => ?_) (fun c1 => ?_)
 ·refine rg (fad rfl fa74_4 (s_loadBP (vs := [_, _]) rfl hb1 ag72 rfl (mv rfl ?_)))
  replace hr1 := hr10.ext (q1.z5 q2 q3 q4 q5 q6)
  replace hr2 := hr20.ext (q1.z5 q2 q3 q4 q5 q6)
  refine cl (ev2 rfl rfl) co46 (mblk_ok B hB q.rw _ (H q.r) n _ hq.rg.2.2.2.2.1 hr1 hr2 (by omega)) rfl ?_
  rintro _ w13 ⟨Z33, rZ, rfl, hZ, gZ, eZ, q13⟩
  have z13 := q13.size
  have hZ0 := hZ
  obtain ⟨AZ, cZ, rfl, _⟩ := hZ.form
  refine fad rfl fa46_2 ?_
  replace hb4 := hb4.ext q13
  refine s_storeBP (cs' := [_, _, _]) rfl rfl hb4 sz42 rfl (fun w14 hb4 q14 z14 => ?_)
  refine kpL [(2, _), (4, _)] (.c2 rfl rfl) (nl (tn (sr (s_loadBA rfl hb4 ag46 ?_))))
  replace hb2 := (((hb2.ext (q3.n2 q4 q5)).fr q6 (by simp[blks]<;>omega)).ext q13).fr q14 (by simp[blks]<;>omega)
  refine s_storeBA rfl rfl hb2 rfl sz46 (fun w15 hb2 q15 z15 => ?_)
  refine nn (rt (rC Tryz.results22 rfl hb2 ag46  ?_))
  replace hY := hY0.fr ((Fr.refl [g2] _).z5 q5 q6 q13 q14 q15) (by intro k hk; simp at hk; omega)
  replace hZ := hZ0.fr ((Fr.refl [g4, g2] _).z2 q14 q15) (by intro k hk; simp at hk; omega)
  first | exact ⟨_, rfl, ((AX, rX.length, cX)), (AY, rY.length, cY), ((AZ, rZ.length, cZ)), ⟨rX, rY, rZ⟩, rfl, ⟨hX.low (by omega), hY.low (by omega), hZ.low (by omega), gX, gY, gZ⟩, motF_eq hn (by rw [if_pos c0]; exact eX) eY (by rw [if_pos c1]; exact eZ), (((q1.z6 q2 q3 q4 q5 q6 q13).z1 q14).z1 q15)⟩ | exact ⟨_, rfl, ((AX, rX.length, cX)), (AY, rY.length, cY), ((none, 0, 0)), ⟨rX, rY, []⟩, rfl, ⟨hX.low (by omega), hY.low (by omega), OwR.nil _, gX, gY, good_nil⟩, motF_eq hn (by rw [if_pos c0]; exact eX) eY (by rw [if_neg c1]), (((q1.z6 q2 q3 q4 q5 q6 q13).z1 q14).z1 q15)⟩ | exact ⟨_, rfl, ((none, 0, 0)), (AY, rY.length, cY), ((AZ, rZ.length, cZ)), ⟨[], rY, rZ⟩, rfl, ⟨OwR.nil _, hY.low (by omega), hZ.low (by omega), good_nil, gY, gZ⟩, motF_eq hn (by rw [if_neg c0]) eY (by rw [if_pos c1]; exact eZ), (((q1.z6 q2 q3 q4 q5 q6 q13).z1 q14).z1 q15)⟩ | exact ⟨_, rfl, ((none, 0, 0)), (AY, rY.length, cY), ((none, 0, 0)), ⟨[], rY, []⟩, rfl, ⟨OwR.nil _, hY.low (by omega), OwR.nil _, good_nil, gY, good_nil⟩, motF_eq hn (by rw [if_neg c0]) eY (by rw [if_neg c1]), (((q1.z6 q2 q3 q4 q5 q6 q13).z1 q14).z1 q15)⟩
 refine sk (tn (sr (s_loadBA rfl hb4 ag46 ?_)))
 replace hb2 := (hb2.ext (q3.n2 q4 q5)).fr q6 (by simp[blks]<;>omega)
 refine s_storeBA rfl rfl hb2 rfl sz46 (fun w16 hb2 q16 z16 => ?_)
 refine nn (rt (rC Tryz.results22 rfl hb2 ag46  ?_))
 replace hY := hY0.fr ((Fr.refl [g2] _).z3 q5 q6 q16) (by intro k hk; simp at hk; omega)
 first | exact ⟨_, rfl, ((AX, rX.length, cX)), (AY, rY.length, cY), ((AZ, rZ.length, cZ)), ⟨rX, rY, rZ⟩, rfl, ⟨hX.low (by omega), hY.low (by omega), hZ.low (by omega), gX, gY, gZ⟩, motF_eq hn (by rw [if_pos c0]; exact eX) eY (by rw [if_pos c1]; exact eZ), (q1.z6 q2 q3 q4 q5 q6 q16)⟩ | exact ⟨_, rfl, ((AX, rX.length, cX)), (AY, rY.length, cY), ((none, 0, 0)), ⟨rX, rY, []⟩, rfl, ⟨hX.low (by omega), hY.low (by omega), OwR.nil _, gX, gY, good_nil⟩, motF_eq hn (by rw [if_pos c0]; exact eX) eY (by rw [if_neg c1]), (q1.z6 q2 q3 q4 q5 q6 q16)⟩ | exact ⟨_, rfl, ((none, 0, 0)), (AY, rY.length, cY), ((AZ, rZ.length, cZ)), ⟨[], rY, rZ⟩, rfl, ⟨OwR.nil _, hY.low (by omega), hZ.low (by omega), good_nil, gY, gZ⟩, motF_eq hn (by rw [if_neg c0]) eY (by rw [if_pos c1]; exact eZ), (q1.z6 q2 q3 q4 q5 q6 q16)⟩ | exact ⟨_, rfl, ((none, 0, 0)), (AY, rY.length, cY), ((none, 0, 0)), ⟨[], rY, []⟩, rfl, ⟨OwR.nil _, hY.low (by omega), OwR.nil _, good_nil, gY, good_nil⟩, motF_eq hn (by rw [if_neg c0]) eY (by rw [if_neg c1]), (q1.z6 q2 q3 q4 q5 q6 q16)⟩
end Go.Proofs.YthehggmdcmpjeaaGreatDoor
