/- Walks. -/
import Derived.Test.YtacclnebhbakmaaDoorRows
import Derived.Test.YtacclnebhbakmaaDoorW3
import Derived.Test.YtacclnebhbakmaaDoorXOp
import Derived.Test.YtacclnebhbakmaaDoorXMap
import Derived.Test.YtacclnebhbakmaaDoorXShift
set_option linter.unusedVariables false
set_option linter.unusedSimpArgs false
namespace Go.Proofs.YtacclnebhbakmaaDoor
open Go.Lw
theorem bo42 : BuildAt Tryd.prog 42 [(0, 1), (1, 1), (2, 2), (4, 1), (5, 1)] [(.int .u8 0), (.int .u8 0), (.int .u8 0), (.int .i64 0), (.int .u8 0), (.int .i64 0)] := BuildAt.struct Tryd.underlying42 (fun _ => by kernel_rfl) (fun _ => by kernel_rfl)
theorem co31 : CallOf Tryd.prog 31 := CallOf.mk' Tryd.func31 (by kernel_rfl) (by kernel_rfl)
theorem el26 : ElemOf Tryd.prog 26 3 Enc.i64 8 := ElemOf.mk' (z := (.int .i64 0)) Tryd.underlying26 (by kernel_rfl) rfl
theorem el31 : ElemOf Tryd.prog 31 42 encOp 40 := ElemOf.mk' (z := (.agg #[.int .u8 0, .int .u8 0, .int .u8 0, .int .i64 0, .int .u8 0, .int .i64 0])) Tryd.underlying31 (by kernel_rfl) rfl
theorem fa61_0 : FieldAt Tryd.prog 61 0 0 := fun _ _ => by kernel_rfl
theorem fa61_1 : FieldAt Tryd.prog 61 1 1 := fun _ _ => by kernel_rfl
theorem na31 : NotAgg Tryd.prog 31 := fun _ => by kernel_rfl
theorem sz3 : SizeOf Tryd.prog 3 1 := fun _ => by kernel_rfl
theorem sz31 : SizeOf Tryd.prog 31 1 := fun _ => by kernel_rfl
theorem put_ok (g : Nat) (K : Nat → Prop) (s : PS) (base : Nat) (x : Value) (zs : List MOp) (w0 : World) (hp : Pl 61 42 base w0 g K s) (hx : Sl encOp w0 x zs) (hK : ∀ k, K k → k < w0.heap.size) (hbase : base ≤ w0.heap.size) (hl : s.1.length + zs.length ≤ 1000000000) : Rets Tryd.prog 31 #[.pointer (some ⟨g, 0, none⟩), x] w0 fun _ w' => Pl 61 42 base w' g K (s.1 ++ zs, s.2) ∧ FrK K w0 w' := by
  have hp0 := hp
  obtain ⟨v, hb, ho, hgv, hKg, hKv⟩ := hp
  refine enter [(0, .pointer (some ⟨g, 0, none⟩)), (1, x)] Tryd.func31 rfl Tryd.ntmps31 rfl (.cons rfl (.cons rfl .nil)) ?_
  intro a h
  refine wp_region_lit ?_
  refine st_move h rfl rfl ?_; clear h a; intro a h
  refine st_move h rfl rfl ?_; clear h a; intro a h
  refine st_nilCheck h rfl rfl ?_; clear h a; intro a h
  refine st_fieldAddr h rfl fa61_0 rfl ?_; clear h a; intro a h
  refine st_loadB h rfl hb rfl na31 rfl ?_; clear h a; intro a h
  refine st_move h rfl rfl ?_; clear h a; intro a h
  refine st_append h rfl rfl ho hx el31 (by unfold maxLen; omega) (by omega) hbase rfl ?_; clear h a; intro v1 w1 ho1 hq hor a h
  obtain ⟨A1, c1, rfl, _⟩ := ho1.sl.form
  replace hb := hb.fr hq hgv
  have hfk : FrK K w0 w1 := hq.toK.weak (fun k _ hk e => hKv k e hk)
  have hlt := hp0.lt
  have hg1 : g ∉ blks (Value.slice A1 (s.1 ++ zs).length c1) := by
    rcases hor with e | e | e
    · rw [e]; exact hgv
    · rw [e]; exact hgv
    · rw [e]; simp; omega
  have hK1 : ∀ k ∈ blks (Value.slice A1 (s.1 ++ zs).length c1), ¬ K k := by
    rcases hor with e | e | e
    · rw [e]; exact hKv
    · rw [e]; exact hKv
    · rw [e]; intro k hk hKk; simp at hk; have := hK k hKk; omega
  clear hq hor
  refine st_nilCheck h rfl rfl ?_; clear h a; intro a h
  refine st_fieldAddr h rfl fa61_0 rfl ?_; clear h a; intro a h
  refine st_storeB h rfl rfl hb rfl rfl rfl sz31 ?_; clear h a; intro w2 hbn hq hz a h
  replace ho1 := ho1.fr hq (by intro k hk; simp at hk; subst hk; exact hg1)
  replace hfk := hfk.step hq (by intro k hk _; simp at hk; subst hk; exact hKg)
  clear hb hq hz; have hb : Blk w2 g _ [_, _] := hbn; clear hbn
  replace h : Ag a 13 [] := h.sub .nil
  refine wpList_nil ?_
  refine ret0n h Tryd.results31  ?_
  exact ⟨_, rfl, ⟨_, hb, ho1, hg1, hKg, hK1⟩, hfk⟩
theorem turn_ok (g : Nat) (K : Nat → Prop) (s : PS) (base : Nat) (r : Int) (w0 : World) (hp : Pl 61 42 base w0 g K s) (hK : ∀ k, K k → k < w0.heap.size) (hbase : base ≤ w0.heap.size) (hl : s.1.length < 1000000000) : Rets Tryd.prog 23 #[.pointer (some ⟨g, 0, none⟩), .int .i64 r] w0 fun _ w' => Pl 61 42 base w' g K (turnS s r) ∧ FrK K w0 w' := by
  have hp0 := hp
  obtain ⟨v, hb, _⟩ := hp0
  refine enter [(0, .pointer (some ⟨g, 0, none⟩)), (1, .int .i64 r)] Tryd.func23 rfl Tryd.ntmps23 rfl (.cons rfl (.cons rfl .nil)) ?_
  have hf := Fr.refl [] w0
  intro a h
  refine wp_seq ?_
  refine wp_region_lit ?_
  refine st_move h rfl rfl ?_; clear h a; intro a h
  refine st_nilCheck h rfl rfl ?_; clear h a; intro a h
  refine st_fieldAddr h rfl fa61_1 rfl ?_; clear h a; intro a h
  refine st_loadB h rfl hb rfl na3 rfl ?_; clear h a; intro a h
  refine st_move h rfl rfl ?_; clear h a; intro a h
  refine st_ne h rfl rfl rfl ?_; clear h a; intro a h
  replace h : Ag a 19 [(0, _), (1, _), (9, _)] := h.sub (.cons rfl (.cons rfl (.cons rfl .nil)))
  refine wpList_nil (norm_then ?_)
  first | refine cond_dec h rfl (fun c0 => ?_) (fun c0 => ?_) | refine cond_ndec h rfl (fun c0 => ?_) (fun c0 => ?_) | refine cond_split h rfl (fun c0 => ?_) (fun c0 => ?_)
  · refine id ?_
    refine wp_seq ?_
    refine wp_region_lit ?_
    refine st_move h rfl rfl ?_; clear h a; intro a h
    refine st_move h rfl rfl ?_; clear h a; intro a h
    refine st_lit (cs := [_, _, _, _, _, _]) h (evs_cons rfl (evs_cons rfl evs_nil)) bo42 (pok_cons rfl rfl rfl (pok_cons rfl rfl rfl pok_nil)) rfl rfl ?_; clear h a; intro a h
    refine st_bslice ([rackO r]) h (evs_cons rfl evs_nil) rfl rfl rfl el31 (Nat.le_of_ble_eq_true rfl) rfl ?_; clear h a; intro g_13 w1 hg ho13 hq hz a h
    have hn__13 : g < g_13 := by have := hb.lt; omega
    have hl13 : w0.heap.size ≤ g_13 := by have := hf.size; omega
    replace hf := hf.next hq
    replace hb := hb.ext hq
    replace hp := hp.ext hq
    clear hq hz hg
    refine st_call h (evs_cons rfl (evs_cons rfl evs_nil)) co31 (put_ok g K s base _ _ _ hp ho13.sl (fun k hk => Nat.lt_of_lt_of_le (hK k hk) hf.size) (Nat.le_trans hbase hf.size) (by simp; omega)) rfl ?_; clear h a; rintro _ w2 ⟨hp, hfk⟩ a h
    replace hfk : FrK K w0 w2 := (hf.toK.weak (fun _ _ _ => by simp)).trans hfk (fun _ _ h => h)
    clear hf hb
    obtain ⟨v2, hb, ho2, hg2, hKg, hK2⟩ := hp
    replace h : Ag a 19 [(0, _), (1, _)] := h.sub (.cons rfl (.cons rfl .nil))
    refine wpList_nil (norm_then ?_)
    refine wp_region_lit ?_
    refine st_move h rfl rfl ?_; clear h a; intro a h
    refine st_move h rfl rfl ?_; clear h a; intro a h
    refine st_nilCheck h rfl rfl ?_; clear h a; intro a h
    refine st_fieldAddr h rfl fa61_1 rfl ?_; clear h a; intro a h
    refine st_storeB h rfl rfl hb rfl rfl rfl sz3 ?_; clear h a; intro w3 hbn hq hz a h
    replace ho2 := ho2.fr hq (by intro k hk; simp at hk; subst hk; exact hg2)
    replace hfk := hfk.step hq (by intro k hk _; simp at hk; subst hk; exact hKg)
    clear hb hq hz; have hb : Blk w3 g _ [_, _] := hbn; clear hbn
    replace h : Ag a 19 [] := h.sub .nil
    refine wpList_nil ?_
    refine ret0n h Tryd.results23  ?_
    exact ⟨_, rfl, ⟨_, by unfold turnS; rw [if_pos c0]; exact hb, by unfold turnS; rw [if_pos c0]; exact ho2, hg2, hKg, hK2⟩, hfk⟩
  · refine id ?_
    refine wp_skip ?_
    refine ret0n h Tryd.results23  ?_
    exact ⟨_, rfl, by unfold turnS; rw [if_neg c0]; exact hp, hf.toK.weak (fun _ _ _ => by simp)⟩
theorem trans_ok (g : Nat) (K : Nat → Prop) (s : PS) (base : Nat) (b : Int) (x : Value) (xs : List Int) (r : Int) (w0 : World) (hp : Pl 61 42 base w0 g K s) (hxs : Sl Enc.i64 w0 x xs) (hxK : ∀ k ∈ blks x, K k) (hK : ∀ k, K k → k < w0.heap.size) (hbase : base ≤ w0.heap.size) (hl : s.1.length + xs.length < 1000000000) (hb : ∀ i, i < xs.length → -1000000 ≤ xs.getD i 0 ∧ xs.getD i 0 ≤ 1000000) (hr : -1000000 ≤ r ∧ r ≤ 1000000) : Rets Tryd.prog 29 #[.pointer (some ⟨g, 0, none⟩), .int .u8 b, x, .int .i64 r] w0 fun _ w' => Pl 61 42 base w' g K (transS s b xs r) ∧ FrK K w0 w' := by
  obtain ⟨A, c, rfl, hc, hM, hA⟩ := id hxs
  have hfk := FrK.refl K w0
  refine enter [(0, .pointer (some ⟨g, 0, none⟩)), (1, .int .u8 b), (2, .slice A xs.length c), (3, .int .i64 r)] Tryd.func29 rfl Tryd.ntmps29 rfl (.cons rfl (.cons rfl (.cons rfl (.cons rfl .nil)))) ?_
  intro a h
  refine wp_seq ?_
  refine wp_region_lit ?_
  refine st_move h rfl rfl ?_; clear h a; intro a h
  refine st_lenS h rfl Tryd.underlying26 rfl ?_; clear h a; intro a h
  refine st_move h rfl rfl ?_; clear h a; intro a h
  replace h : Ag a 26 [(0, _), (1, _), (3, _), (10, _), (11, _), (12, _)] := h.sub (.cons rfl (.cons rfl (.cons rfl (.cons rfl (.cons rfl (.cons rfl .nil))))))
  refine wpList_nil (norm_then ?_)
  refine wp_block ?_
  refine loop (ι := Nat) (fun i => [(0, .pointer (some ⟨g, 0, none⟩)), (1, .int .u8 b), (3, .int .i64 r), (10, .slice A xs.length c), (11, .int .i64 (xs.length : Int)), (12, .int .i64 (i : Int))]) (fun i w' => i ≤ xs.length ∧ Pl 61 42 base w' g K (s.1 ++ (xs.take i).map (fun k => xferO b (k - r)), s.2) ∧ Sl Enc.i64 w' (.slice A xs.length c) xs ∧ FrK K w0 w') (fun i => xs.length - i) 0 (h.sub (.cons rfl (.cons rfl (.cons rfl (.cons rfl (.cons rfl (.cons rfl .nil))))))) ⟨by omega, by simpa using hp, hxs, hfk⟩ ?_
  clear h a hp hxs hfk
  rintro i w1 a h ⟨hi, hp, hxs, hfk⟩
  refine wp_seq ?_
  refine wp_region_lit ?_
  refine st_lt h rfl rfl rfl ?_; clear h a; intro a h
  refine wpList_nil (norm_then ?_)
  refine wp_seq ?_
  first | refine cond_dec h rfl (fun c0 => ?_) (fun c0 => ?_) | refine cond_ndec h rfl (fun c0 => ?_) (fun c0 => ?_) | refine cond_split h rfl (fun c0 => ?_) (fun c0 => ?_)
  · have hbi := hb i (by omega)
    refine wp_skip (norm_then ?_)
    refine wp_seq ?_
    refine wp_block ?_
    refine wp_seq ?_
    refine wp_region_lit ?_
    refine st_idxL (p := i) (0) h rfl hxs rfl el26 (by omega) (by omega) (by omega) rfl ?_; clear h a; intro ad14 hc14 a h
    refine st_loadC0 h rfl (hc14 _ hxs) na3 rfl ?_; clear h a; intro a h
    refine st_assign h rfl rfl ?_; clear h a; intro a h
    replace h : Ag a 26 [(0, _), (1, _), (3, _), (9, _), (10, _), (11, _), (12, _)] := h.sub (.cons rfl (.cons rfl (.cons rfl (.cons rfl (.cons rfl (.cons rfl (.cons rfl .nil)))))))
    refine wpList_nil (norm_then ?_)
    refine wp_region_lit ?_
    refine st_move h rfl rfl ?_; clear h a; intro a h
    refine st_move h rfl rfl ?_; clear h a; intro a h
    refine st_move h rfl rfl ?_; clear h a; intro a h
    refine st_move h rfl rfl ?_; clear h a; intro a h
    refine st_sub h rfl rfl (by first | exact IntWalk.i64_in _ (by omega) | rfl) rfl ?_; clear h a; intro a h
    refine st_lit (cs := [_, _]) h (evs_cons rfl (evs_cons rfl evs_nil)) bo39 (pok_cons rfl rfl rfl (pok_cons rfl rfl rfl pok_nil)) rfl rfl ?_; clear h a; intro a h
    refine st_lit (cs := [_, _, _, _, _, _]) h (evs_cons rfl (evs_cons rfl evs_nil)) bo42 (pok_cons rfl rfl rfl (pok_cons rfl rfl rfl pok_nil)) rfl rfl ?_; clear h a; intro a h
    refine st_bslice ([xferO b (xs.getD i 0 - r)]) h (evs_cons rfl evs_nil) rfl rfl rfl el31 (Nat.le_of_ble_eq_true rfl) rfl ?_; clear h a; intro g_23 w2 hg ho23 hq hz a h
    replace hp := hp.ext hq
    replace hxs := hxs.ext hq
    replace hfk := hfk.next hq
    clear hq hz hg
    refine st_call h (evs_cons rfl (evs_cons rfl evs_nil)) co31 (put_ok g K _ base _ _ _ hp ho23.sl (fun k hk => Nat.lt_of_lt_of_le (hK k hk) hfk.size) (Nat.le_trans hbase hfk.size) (by simp; omega)) rfl ?_; clear h a; rintro _ w3 ⟨hp, hfk2⟩ a h
    replace hxs := hxs.frK hfk2 hxK
    replace hfk := hfk.trans hfk2 (fun _ _ h => h)
    clear hfk2
    replace h : Ag a 26 [(0, _), (1, _), (3, _), (10, _), (11, _), (12, _)] := h.sub (.cons rfl (.cons rfl (.cons rfl (.cons rfl (.cons rfl (.cons rfl .nil))))))
    refine wpList_nil (norm_blk (norm_then ?_))
    refine wp_region_lit ?_
    refine st_add h rfl rfl (by first | exact IntWalk.i64_in _ (by omega) | rfl) rfl ?_; clear h a; intro a h
    refine st_move h rfl rfl ?_; clear h a; intro a h
    replace h : Ag a 26 [(0, _), (1, _), (3, _), (10, _), (11, _), (12, _)] := h.sub (.cons rfl (.cons rfl (.cons rfl (.cons rfl (.cons rfl (.cons rfl .nil))))))
    refine wpList_nil (norm_then ?_)
    exact ⟨i + 1, h.sub (.cons rfl (.cons rfl (.cons rfl (.cons rfl (.cons rfl (.cons rfl .nil)))))), ⟨by omega, by rw [take_succ_getD xs i (by omega), List.map_append, ← List.append_assoc]; exact hp, hxs, hfk⟩, by omega⟩
  · obtain rfl : i = xs.length := by omega
    rw [List.take_length] at hp
    refine wp_exit (exit_then (exit_then (exit_here ?_)))
    refine ret0n h Tryd.results29  ?_
    exact ⟨_, rfl, hp, hfk⟩
theorem clone_ok (x : Value) (xs : List Int) (w0 : World) (hxs : Sl Enc.i64 w0 x xs) (hl : xs.length ≤ 1000000000) : Rets Tryd.prog 26 #[x] w0 fun v w' => Lw.Own Enc.i64 3 w0.heap.size w' v xs ∧ Fr [] w0 w' := by
  obtain ⟨A, c, rfl, hc, hM, hA⟩ := id hxs
  refine enter [(0, .slice A xs.length c)] Tryd.func26 rfl Tryd.ntmps26 rfl (.cons rfl .nil) ?_
  have hf := Fr.refl [] w0
  intro a h
  refine wp_seq ?_
  refine wp_region_lit ?_
  refine st_assign h rfl rfl ?_; clear h a; intro a h
  replace h : Ag a 8 [(0, _)] := h.sub (.cons rfl .nil)
  refine wpList_nil (norm_then ?_)
  refine wp_seq ?_
  refine wp_seq ?_
  refine wp_region_lit ?_
  refine st_move h rfl rfl ?_; clear h a; intro a h
  refine st_eqnil h rfl Tryd.underlying26 rfl ?_; clear h a; intro a h
  replace h : Ag a 8 [(0, _), (4, _)] := h.sub (.cons rfl (.cons rfl .nil))
  refine wpList_nil (norm_then ?_)
  first | refine cond_dec h rfl (fun c0 => ?_) (fun c0 => ?_) | refine cond_ndec h rfl (fun c0 => ?_) (fun c0 => ?_) | refine cond_split h rfl (fun c0 => ?_) (fun c0 => ?_)
  · obtain rfl : xs = [] := by
      cases xs with
      | nil => rfl
      | cons y ys => obtain ⟨ad, e, _⟩ := hA 0 y rfl; rw [e] at c0; simp at c0
    refine wp_seq ?_
    refine wp_region_lit ?_
    refine st_assign h rfl rfl ?_; clear h a; intro a h
    replace h : Ag a 8 [(2, _)] := h.sub (.cons rfl .nil)
    refine wpList_nil (norm_then ?_)
    refine wp_ret (ret_then ?_)
    refine ret1 h Tryd.results26 rfl ?_
    exact ⟨_, rfl, Own.nil _, hf⟩
  · refine id ?_
    refine wp_skip (norm_then ?_)
    refine wp_seq ?_
    refine wp_region_lit ?_
    refine st_bslice (([] : List Int)) h evs_nil rfl rfl rfl el26 (Nat.le_of_ble_eq_true rfl) rfl ?_; clear h a; intro g_5 w1 hg ho5 hq hz a h
    have hl5 : w0.heap.size ≤ g_5 := by have := hf.size; omega
    replace hf := hf.next hq
    replace hxs := hxs.ext hq
    clear hq hz hg
    refine st_move h rfl rfl ?_; clear h a; intro a h
    refine st_append (base := w0.heap.size) h rfl rfl (ho5.low hl5) hxs el26 (by unfold maxLen; simp; omega) (by simp; omega) hf.size rfl ?_; clear h a; intro v7 w2 ho7 hq hor a h
    rw [List.nil_append] at ho7
    replace hf := hf.step hq (by intro k hk; simp [blks] at hk; omega)
    clear hq hor ho5
    refine st_assign h rfl rfl ?_; clear h a; intro a h
    replace h : Ag a 8 [(2, _)] := h.sub (.cons rfl .nil)
    refine wpList_nil (norm_then ?_)
    refine wp_ret ?_
    refine ret1 h Tryd.results26 rfl ?_
    exact ⟨_, rfl, ho7, hf⟩
theorem clip_ok (A : Option Addr) (m c : Nat) (w0 : World) (hc : m ≤ c) : Rets Tryd.prog 19 #[.slice A m c] w0 fun v w' => v = .slice A m m ∧ w0 = w' := by
  refine enter [(0, .slice A m c)] Tryd.func19 rfl Tryd.ntmps19 rfl (.cons rfl .nil) ?_
  intro a h
  refine wp_seq ?_
  refine wp_region_lit ?_
  refine st_assign h rfl rfl ?_; clear h a; intro a h
  replace h : Ag a 9 [(0, _)] := h.sub (.cons rfl .nil)
  refine wpList_nil (norm_then ?_)
  refine wp_seq ?_
  refine wp_region_lit ?_
  refine st_move h rfl rfl ?_; clear h a; intro a h
  refine st_move h rfl rfl ?_; clear h a; intro a h
  refine st_lenS h rfl Tryd.underlying31 rfl ?_; clear h a; intro a h
  refine st_move h rfl rfl ?_; clear h a; intro a h
  refine st_lenS h rfl Tryd.underlying31 rfl ?_; clear h a; intro a h
  refine st_sl_hm h rfl rfl rfl el31 (by omega) (by omega) (by omega) rfl rfl rfl ?_; clear h a; intro a h
  refine st_assign h rfl rfl ?_; clear h a; intro a h
  replace h : Ag a 9 [(2, _)] := h.sub (.cons rfl .nil)
  refine wpList_nil (norm_then ?_)
  refine wp_ret ?_
  refine ret1 h Tryd.results19 rfl ?_
  exact ⟨_, rfl, rfl, rfl⟩
theorem turn_s (g : Nat) (K : Nat → Prop) (s : PS) (base : Nat) (r : Int) (w0 : World) (hp : Pl 61 42 base w0 g K s) (hK : ∀ k, K k → k < w0.heap.size) (hbase : base ≤ w0.heap.size) (hl : s.1.length < 1000000000) : Rets Tryd.prog 23 #[.pointer (some ⟨g, 0, none⟩), .int .i64 r] w0 fun _ w' => Pl 61 42 base w' g K (turnS s r) ∧ ∃ S : List Nat, (∀ k ∈ S, ¬ K k) ∧ Fr S w0 w' :=
  (turn_ok g K s base r w0 hp hK hbase hl).mono fun _ _ h => ⟨h.1, h.2.exS⟩
theorem trans_s (g : Nat) (K : Nat → Prop) (s : PS) (base : Nat) (b : Int) (x : Value) (xs : List Int) (r : Int) (w0 : World) (hp : Pl 61 42 base w0 g K s) (hxs : Sl Enc.i64 w0 x xs) (hxK : ∀ k ∈ blks x, K k) (hK : ∀ k, K k → k < w0.heap.size) (hbase : base ≤ w0.heap.size) (hl : s.1.length + xs.length < 1000000000) (hb : ∀ i, i < xs.length → -1000000 ≤ xs.getD i 0 ∧ xs.getD i 0 ≤ 1000000) (hr : -1000000 ≤ r ∧ r ≤ 1000000) : Rets Tryd.prog 29 #[.pointer (some ⟨g, 0, none⟩), .int .u8 b, x, .int .i64 r] w0 fun _ w' => Pl 61 42 base w' g K (transS s b xs r) ∧ ∃ S : List Nat, (∀ k ∈ S, ¬ K k) ∧ Fr S w0 w' :=
  (trans_ok g K s base b x xs r w0 hp hxs hxK hK hbase hl hb hr).mono fun _ _ h => ⟨h.1, h.2.exS⟩
end Go.Proofs.YtacclnebhbakmaaDoor
