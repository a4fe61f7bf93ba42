/- Walks. -/
import Derived.Test.YtacclnebhbakmaaDoorRows
import Derived.Test.YtacclnebhbakmaaDoorW4
import Derived.Test.YtacclnebhbakmaaDoorXOp
import Derived.Test.YtacclnebhbakmaaDoorXMap
set_option linter.unusedVariables false
set_option linter.unusedSimpArgs false
namespace Go.Proofs.YtacclnebhbakmaaDoor
open Go.Lw
theorem co23 : CallOf Tryd.prog 23 := CallOf.mk' Tryd.func23 (by kernel_rfl) (by kernel_rfl)
theorem co26 : CallOf Tryd.prog 26 := CallOf.mk' Tryd.func26 (by kernel_rfl) (by kernel_rfl)
theorem co29 : CallOf Tryd.prog 29 := CallOf.mk' Tryd.func29 (by kernel_rfl) (by kernel_rfl)
theorem mapset (l : List Int) (c : Int) (j : Nat) (hj : j < l.length) : ((l.take j).map (· + c) ++ l.drop j).set j (l.getD j 0 + c) = (l.take (j + 1)).map (· + c) ++ l.drop (j + 1) := by
  have e : (((l.take j).map (· + c)).length) = j := by simp; omega
  rw [List.set_append_right _ _ (by omega), e, Nat.sub_self, take_succ_getD l j hj, List.map_append, List.append_assoc]
  congr 1
  rw [List.drop_eq_getElem_cons hj, List.set_cons_zero]; simp
theorem mapget (l : List Int) (c : Int) (j : Nat) (hj : j < l.length) : ((l.take j).map (· + c) ++ l.drop j).getD j 0 = l.getD j 0 := by
  have e : (((l.take j).map (· + c)).length) = j := by simp; omega
  rw [List.getD, List.getElem?_append_right (by omega), e, Nat.sub_self, List.getElem?_drop, Nat.add_zero]; rfl
theorem getD_map_add (l : List Int) (c : Int) (i : Nat) (hi : i < l.length) : (l.map (· + c)).getD i 0 = l.getD i 0 + c := by simp [List.getD, hi]
set_option maxHeartbeats 4000000 in
theorem move_ok (g : Nat) (K : Nat → Prop) (s0 : PS) (base : Nat) (x : Value) (xs : List Int) (d0 : Int) (w0 : World) (hp : Pl 61 42 base w0 g K s0) (hxs : Sl Enc.i64 w0 x xs) (hne : xs ≠ []) (hK : ∀ k, K k → k < w0.heap.size) (hbase : base ≤ w0.heap.size) (hb : ∀ i, i < xs.length → -100 ≤ xs.getD i 0 ∧ xs.getD i 0 ≤ 100) (hlx : xs.length ≤ 40) (hd0 : -40 ≤ d0 ∧ d0 ≤ 40) (hr : -1000 ≤ s0.2 ∧ s0.2 ≤ 1000) (hl : s0.1.length < 900000000) : Rets Tryd.prog 20 #[.pointer (some ⟨g, 0, none⟩), x, .int .i64 d0] w0 fun _ w' => Pl 61 42 base w' g K (moveS s0 xs d0) ∧ ∃ S : List Nat, (∀ k ∈ S, ¬ K k) ∧ Fr S w0 w' := by
 have hfk := FrK.refl K w0
 have hpA : ∀ gA, w0.heap.size ≤ gA → Pl 61 42 base w0 g (fun k => K k ∨ k = gA) s0 := fun gA hg => hp.setK (fun k hlt hk => hk.resolve_right (fun e => by omega))
 refine we [(0, .pointer (some ⟨g, 0, none⟩)), (1, x), (2, .int .i64 d0)] Tryd.func20 rfl Tryd.ntmps20 rfl (.cons rfl (.cons rfl (.cons rfl .nil))) ?_
 refine sr (mv rfl rfl ?_)
 refine cl (ev1 rfl) co26 (clone_ok _ _ _ hxs (by omega)) rfl ?_
 rintro _ w1 ⟨ho, q1⟩
 have z1 := q1.size
 rcases ho with ⟨_, e⟩ | ⟨gA, cA, cur, rfl, hgA, rA⟩
 · exact absurd e hne
 have ho : Lw.Own Enc.i64 3 w0.heap.size w1 (.slice (some ⟨gA, 0, none⟩) xs.length cA) xs := .inr ⟨gA, cA, cur, rfl, hgA, rA⟩
 clear rA
 refine asg rfl rfl (nn (bl ?_))
 replace hfk := hfk.ext q1
 refine lpK (ι := PS × List Int × Int × Nat) [(0, _)] (fun q => [(1, (.slice (some ⟨gA, 0, none⟩) q.2.1.length cA)), (2, .int .i64 q.2.2.1)]) (fun q w' => Pl 61 42 base w' g (fun k => K k ∨ k = gA) q.1 ∧ Lw.Own Enc.i64 3 w0.heap.size w' (.slice (some ⟨gA, 0, none⟩) q.2.1.length cA) q.2.1 ∧ FrK K w0 w' ∧ q.2.1.length = xs.length ∧ q.2.2.1.natAbs ≤ q.2.2.2 ∧ q.2.2.2 ≤ 40 ∧ moveF q.2.2.2 q.1 q.2.1 q.2.2.1 = moveS s0 xs d0 ∧ q.1.1.length + q.2.2.2 * (2 + 2 * xs.length) ≤ s0.1.length + 40 * (2 + 2 * xs.length) ∧ (-1000 ≤ q.1.2 ∧ q.1.2 ≤ 1000) ∧ (∀ i, i < q.2.1.length → (q.2.1.getD i 0).natAbs + q.2.2.1.natAbs ≤ 500)) (fun q => q.2.2.1.natAbs) (s0, xs, d0, d0.natAbs) (.cons rfl (.cons rfl (.cons rfl .nil))) ⟨(hpA gA hgA).ext q1, ho, hfk, rfl, Nat.le_refl _, by simp only; omega, rfl, by simp only; have := Nat.mul_le_mul_right (2 + 2 * xs.length) (show d0.natAbs ≤ 40 by omega); omega, hr, fun i hi => by have := hb i hi; simp only; omega⟩ ?_
 rintro ⟨s, l, d, f⟩ w2 ⟨hp, ho, hfk, hll, hdf, hf40, hmv, hln, hsr, hlb0⟩
 simp only at hp ho hfk hll hdf hf40 hmv hln hsr hlb0
 refine kpC [(0, _), (1, (.slice (some ⟨gA, 0, none⟩) l.length cA)), (2, .int .i64 d)] (.cons rfl (.cons rfl (.cons rfl .nil))) ?_
 have hl1 : 0 < l.length := by have := List.length_pos_iff.2 hne; omega
 refine sq (sr (mv rfl rfl (ne' rfl rfl rfl (nn ?_))))
 refine cd rfl (fun c0 => ?_) (fun c0 => ?_)
 · obtain ⟨f, rfl⟩ : ∃ f', f = f' + 1 := ⟨f - 1, by omega⟩
   rw [moveF, if_neg (by simpa using c0)] at hmv
   have hlt := by_lt (d := d) (by simpa using c0)
   have hby : byS d = max (-8) (min 8 d) := rfl
   have hrs : rS s l d = max (max (max (-4) (-4 - byS d)) (l.getD (l.length - 1) 0 - 40)) (min (min (min 4 (4 - byS d)) (l.getD 0 0 - 1)) s.2) := rfl
   have hb0 := hlb0 0 (by omega)
   have hb1 := hlb0 (l.length - 1) (by omega)
   have ht1 := turn_len s (rS s l d)
   have ht2 := turn_len (transS (turnS s (rS s l d)) 0 l 0) (rS s l d + byS d)
   rw [trans_len] at ht2
   have hst := step_len s l d
   have hlb : ∀ i, i < l.length → -1000000 ≤ l.getD i 0 ∧ l.getD i 0 ≤ 1000000 := fun i hi => by have := hlb0 i hi; omega
   rw [Nat.succ_mul] at hln
   have hrb : -1000000 ≤ rS s l d ∧ rS s l d ≤ 1000000 := by omega
   refine sk (tn (bl (sr (mv rfl rfl (s_min rfl rfl rfl (s_max rfl rfl rfl (asg rfl rfl (nn (sr (mv rfl rfl (s_sub rfl rfl (wi6 (by omega)) rfl ?_)))))))))))
   refine mv rfl rfl (mv rfl rfl (lnS rfl Tryd.underlying26 rfl (s_sub rfl rfl (wi6 (by omega)) rfl (s_idxL (p := l.length - 1) (0) rfl ho.sl rfl el26 (by omega) (by omega) (by omega) rfl (fun ad24 hc24 => ?_)))))
   refine s_loadC0 rfl (hc24 _ ho.sl) na3 rfl (s_sub rfl rfl (wi6 (by omega)) rfl (s_max3 rfl rfl rfl rfl (asg rfl rfl (kpL [(0, _), (1, _), (2, _), (6, _), (7, _)] (.cons rfl (.cons rfl (.cons rfl (.cons rfl (.cons rfl .nil))))) (nn (sr (mv rfl rfl (s_sub rfl rfl (wi6 (by omega)) rfl (mv rfl rfl (s_idxL (p := 0) (0) rfl ho.sl rfl el26 (by omega) (by omega) rfl rfl (fun ad31 hc31 => ?_)))))))))))
   refine s_loadC0 rfl (hc31 _ ho.sl) na3 rfl (s_sub rfl rfl (wi6 (by omega)) rfl (s_min3 rfl rfl rfl rfl (asg rfl rfl (kpL [(0, _), (1, _), (2, _), (6, _), (7, _), (8, _)] (.cons rfl (.cons rfl (.cons rfl (.cons rfl (.cons rfl (.cons rfl .nil)))))) (nn (sr (mv rfl rfl (mv rfl rfl (mv rfl rfl (nlc rfl rfl (fad rfl fa61_1 rfl ?_)))))))))))
   obtain ⟨v5, hb5, _⟩ := id hp
   refine s_loadB rfl hb5 rfl na3 rfl ?_
   refine s_min rfl rfl rfl (s_max rfl rfl rfl (asg rfl rfl (kpL [(0, _), (1, _), (2, _), (6, _), (9, _)] (.cons rfl (.cons rfl (.cons rfl (.cons rfl (.cons rfl .nil))))) (nn (sr (mv rfl rfl (mv rfl rfl ?_)))))))
   refine cl (ev2 rfl rfl) co23 (turn_s g (fun k => K k ∨ k = gA) s base _ _ hp (fun k hk => by rcases hk with hk | rfl; exact Nat.lt_of_lt_of_le (hK k hk) hfk.size; exact (ho.blk _ (by simp [blks])).2) (Nat.le_trans hbase hfk.size) (by omega)) rfl ?_
   rintro _ w3 ⟨hp, Sx, hS3, q3⟩
   replace ho := ho.fr q3 (fun k hk e => hS3 k hk (by simp [blks] at e; exact .inr e))
   replace hfk := hfk.fr q3 (fun k hk _ e => hS3 k hk (.inl e))
   have z3 := q3.size
   refine nn (sr (mv rfl rfl (mv rfl rfl ?_)))
   refine cl (ev4 rfl rfl rfl rfl) co29 (trans_s g (fun k => K k ∨ k = gA) (turnS s (rS s l d)) base 0 _ l 0 _ hp ho.sl (fun k hk => by simp [blks] at hk; exact .inr hk) (fun k hk => by rcases hk with hk | rfl; exact Nat.lt_of_lt_of_le (hK k hk) hfk.size; exact (ho.blk _ (by simp [blks])).2) (Nat.le_trans hbase hfk.size) (by omega) hlb (by omega)) rfl ?_
   rintro _ w4 ⟨hp, Sx, hS4, q4⟩
   replace ho := ho.fr q4 (fun k hk e => hS4 k hk (by simp [blks] at e; exact .inr e))
   replace hfk := hfk.fr q4 (fun k hk _ e => hS4 k hk (.inl e))
   have z4 := q4.size
   refine nn (sr (mv rfl rfl (mv rfl rfl (mv rfl rfl (s_add rfl rfl (wi6 (by omega)) rfl ?_)))))
   refine cl (ev2 rfl rfl) co23 (turn_s g (fun k => K k ∨ k = gA) _ base _ _ hp (fun k hk => by rcases hk with hk | rfl; exact Nat.lt_of_lt_of_le (hK k hk) hfk.size; exact (ho.blk _ (by simp [blks])).2) (Nat.le_trans hbase hfk.size) (by rw [trans_len]; omega)) rfl ?_
   rintro _ w5 ⟨hp, Sx, hS5, q5⟩
   replace ho := ho.fr q5 (fun k hk e => hS5 k hk (by simp [blks] at e; exact .inr e))
   replace hfk := hfk.fr q5 (fun k hk _ e => hS5 k hk (.inl e))
   have z5 := q5.size
   refine nn (sr (mv rfl rfl (mv rfl rfl (mv rfl rfl ?_))))
   refine cl (ev4 rfl rfl rfl rfl) co29 (trans_s g (fun k => K k ∨ k = gA) (turnS (transS (turnS s (rS s l d)) 0 l 0) (rS s l d + byS d)) base 1 _ l (rS s l d) _ hp ho.sl (fun k hk => by simp [blks] at hk; exact .inr hk) (fun k hk => by rcases hk with hk | rfl; exact Nat.lt_of_lt_of_le (hK k hk) hfk.size; exact (ho.blk _ (by simp [blks])).2) (Nat.le_trans hbase hfk.size) (by omega) hlb hrb) rfl ?_
   rintro _ w6 ⟨hp, Sx, hS6, q6⟩
   replace ho := ho.fr q6 (fun k hk e => hS6 k hk (by simp [blks] at e; exact .inr e))
   replace hfk := hfk.fr q6 (fun k hk _ e => hS6 k hk (.inl e))
   have z6 := q6.size
   refine nn (sq (sr (mv rfl rfl (lnS rfl Tryd.underlying26 rfl (mv rfl rfl (nn (bl ?_)))))))
   refine lpK (ι := Nat) [(0, _), (1, _), (2, _), (6, _), (59, _)] (fun j => [(60, .int .i64 (j : Int))]) (fun j w' => Fr [gA] w6 w' ∧ j ≤ l.length ∧ Lw.Own Enc.i64 3 w0.heap.size w' (.slice (some ⟨gA, 0, none⟩) l.length cA) ((l.take j).map (· + byS d) ++ l.drop j)) (fun j => l.length - j) 0 (.cons rfl (.cons rfl (.cons rfl (.cons rfl (.cons rfl (.cons rfl .nil)))))) ⟨Fr.refl _ _, ⟨by omega, by simpa using ho⟩⟩ ?_
   rintro j w7 ⟨q7, ⟨hj, ho⟩⟩
   have z7 := q7.size
   refine kpC [(0, _), (1, _), (2, _), (6, _), (59, _), (60, _)] (.cons rfl (.cons rfl (.cons rfl (.cons rfl (.cons rfl (.cons rfl .nil)))))) ?_
   refine sr (lt' rfl rfl rfl (nn (sq ?_)))
   refine cd rfl (fun c1 => ?_) (fun c1 => ?_)
   · have hbj := hlb0 j (by omega)
     have hlj : ((l.take j).map (· + byS d) ++ l.drop j).length = l.length := by simp; omega
     have hmg := mapget l (byS d) j (by omega)
     refine sk (tn (sq (bl (sr (mv rfl rfl (asg rfl rfl (nn (rg (mv rfl rfl (mv rfl rfl (s_idxL (p := j) (0) rfl ho.sl rfl el26 (by omega) (by omega) (by omega) rfl (fun ad65 hc65 => ?_))))))))))))
     refine s_loadC0 rfl (hc65 _ ho.sl) na3 rfl (mv rfl rfl (s_add rfl rfl (wi6 (by omega)) rfl ?_))
     refine s_ixs (p := j) (l.getD j 0 + byS d) rfl ho rfl rfl (by intro e; cases e) el26 sz3 (by rw [hmg]; rfl) (by omega) (by simp; omega) (by omega) rfl rfl (fun w8 ho q8 z8 => ?_)
     rw [mapset l (byS d) j (by omega)] at ho
     replace q8 : Fr [gA] _ _ := q8
     refine kpL [(0, _), (1, _), (2, _), (6, _), (59, _), (60, _)] (.cons rfl (.cons rfl (.cons rfl (.cons rfl (.cons rfl (.cons rfl .nil)))))) (nl (bn' (tn (rg (s_add rfl rfl (wi6 (by omega)) rfl (mv rfl rfl (nl ?_)))))))
     exact lpE (j + 1) (.cons rfl (.cons rfl (.cons rfl (.cons rfl (.cons rfl (.cons rfl .nil)))))) ⟨(((Fr.refl [gA] _).step q7 (by first | (simp; done) | (simp; omega))).step q8 (by first | (simp; done) | (simp; omega))), ⟨by omega, ho⟩⟩ (by omega)
   · obtain rfl : j = l.length := by omega
     rw [List.take_length, List.drop_length, List.append_nil] at ho
     have hsr2 : -1000 ≤ (stepM s l d).2 ∧ (stepM s l d).2 ≤ 1000 := by rw [step_rack]; omega
     have hln2 : (stepM s l d).1.length + f * (2 + 2 * xs.length) ≤ s0.1.length + 40 * (2 + 2 * xs.length) := by rw [hll] at hst; omega
     have hlb2 : ∀ i, i < (l.map (· + byS d)).length → ((l.map (· + byS d)).getD i 0).natAbs + (d - byS d).natAbs ≤ 500 := fun i hi => by rw [List.length_map] at hi; rw [getD_map_add l _ i hi]; have := hlb0 i hi; clear hrs hrb hst; omega
     refine ex (te (te (xh (tn (rg (mv rfl rfl (mv rfl rfl (s_sub rfl rfl (wi6 (by omega)) rfl (asg rfl rfl (kpL [(0, _), (1, _), (2, _)] (.cons rfl (.cons rfl (.cons rfl .nil))) (nl ?_)))))))))))
     refine bn' ?_
     replace hp := hp.fr q7 (by intro k hk; simp at hk; exact .inr hk)
     replace hfk := hfk.fr q7 (by intro k hk hlt hKk; simp at hk; subst hk; omega)
     exact lpE ((stepM s l d, l.map (· + byS d), d - byS d, f)) (.cons rfl (.cons (congrArg (fun z => some (Value.slice (some ⟨gA, 0, none⟩) z cA)) (List.length_map ..).symm) (.cons rfl .nil))) ⟨hp, by simp only [List.length_map]; exact ho, hfk, by simp only [List.length_map]; exact hll, by simp only; omega, by simp only; omega, hmv, hln2, hsr2, hlb2⟩ (by simp only; omega)
 · obtain rfl : d = 0 := by simpa using c0
   have hfin : moveF f s l 0 = s := by cases f with
     | zero => rfl
     | succ f => rw [moveF, if_pos rfl]
   rw [hfin] at hmv
   subst hmv
   refine ex (te (te (xh (r0n Tryd.results20  ?_))))
   exact ⟨_, rfl, hp.setK (fun k _ hk => .inl hk), hfk.exS⟩
end Go.Proofs.YtacclnebhbakmaaDoor
