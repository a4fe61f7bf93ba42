/- Walks. -/
import Derived.Test.YtbbnampdgefljaaDoorW15
import Derived.Test.YtbbnampdgefljaaDoorXRowOf
import Derived.Test.YtbbnampdgefljaaDoorXMake
set_option linter.unusedVariables false
set_option linter.unusedSimpArgs false
namespace Go.Proofs.YtbbnampdgefljaaDoor
open Go.Lw Go.G14
theorem co42 : CallOf Tryd.prog 42 := CallOf.mk' Tryd.func42 (by kernel_rfl) (by kernel_rfl)
theorem co60 : CallOf Tryd.prog 60 := CallOf.mk' Tryd.func60 (by kernel_rfl) (by kernel_rfl)
theorem el68 : ElemOf Tryd.prog 68 3 Enc.i64 8 := ElemOf.mk' (z := (.int .i64 0)) Tryd.underlying68 (by kernel_rfl) rfl
theorem refneeds_ok (s : Stitch) (w0 : World) (hk : 0 ≤ s.k) (hy : 0 ≤ s.y) : Rets Tryd.prog 42 #[stV s] w0 fun v w' => v = .int .i64 (needsS s) ∧ Fr [] w0 w' := by
  refine enter [(0, stV s)] Tryd.func42 rfl Tryd.ntmps42 rfl (.cons rfl .nil) ?_
  have hf := Fr.refl [] w0
  intro a h
  refine wp_seq ?_
  refine wp_region_lit ?_
  refine st_box h rfl rfl rfl ?_; clear h a; intro w1 hb1 hq hz a h
  obtain ⟨g_1, hg⟩ : ∃ g, g = w0.heap.size := ⟨_, rfl⟩; rw [← hg] at hb1 h hz
  have hl1 : w0.heap.size ≤ g_1 := by have := hf.size; omega
  replace hf := hf.next hq
  clear hq hz hg
  refine st_assign h rfl rfl ?_; clear h a; intro a h
  replace h : Ag a 27 [(1, _)] := h.sub (.cons rfl .nil)
  refine wpList_nil (norm_then ?_)
  refine wp_seq ?_
  refine wp_seq ?_
  refine wp_region_lit ?_
  refine st_loadBA h rfl hb1 ag36 rfl ?_; clear h a; intro a h
  refine st_call h (evs_cons rfl evs_nil) co15 (valid_ok s _ hk hy) rfl ?_; clear h a; rintro _ w2 ⟨rfl, hq⟩ a h
  replace hf := hf.next hq
  replace hb1 := hb1.ext hq
  clear hq
  refine st_eq h rfl rfl rfl ?_; clear h a; intro a h
  refine st_move h rfl rfl ?_; clear h a; intro a h
  first | refine guard_dec (D := 6) h rfl ?_ ?_ | refine guard_ndec (D := 6) h rfl ?_ ?_ | refine guard_any (D := 6) h rfl ?_ ?_
  · clear h; intro g0 h
    refine gd_no h rfl rfl rfl rfl rfl rfl rfl rfl ?_; clear h a; intro a h
    refine gd_no h rfl rfl rfl rfl rfl rfl rfl rfl ?_; clear h a; intro a h
    refine gd_no h rfl rfl rfl rfl rfl rfl rfl rfl ?_; clear h a; intro a h
    refine st_pick_t h rfl rfl rfl rfl ?_; clear h a; intro a h
    replace h : Ag a 27 [(1, _), (10, _)] := h.sub (.cons rfl (.cons rfl .nil))
    refine wpList_nil (norm_then ?_)
    refine cond_true h rfl ?_
    refine wp_seq ?_
    refine wp_region_lit ?_
    refine st_assign h rfl rfl ?_; clear h a; intro a h
    replace h : Ag a 27 [(2, _)] := h.sub (.cons rfl .nil)
    refine wpList_nil (norm_then ?_)
    refine wp_ret (ret_then ?_)
    refine ret1 h Tryd.results42 rfl ?_
    exact ⟨_, rfl, by first | rw [needs_0 (.inl (fun e => by rw [if_pos e] at g0; omega))] | rw [needs_0 (.inr c0)] | rw [needs_8 hc c1] | rw [needs_2 hc (by omega)] | rw [needs_1 hc (by omega) (by omega) (by omega)], hf⟩
  · clear h; intro g0 h
    refine gd_yes h rfl rfl rfl rfl rfl rfl ?_
    refine st_fieldAddr h rfl fa36_0 rfl ?_; clear h a; intro a h
    refine gd_yes h rfl rfl rfl rfl rfl rfl ?_
    refine st_loadB h rfl hb1 rfl na34 rfl ?_; clear h a; intro a h
    refine gd_yes h rfl rfl rfl rfl rfl rfl ?_
    refine st_eq h rfl rfl rfl ?_; clear h a; intro a h
    refine st_pick_f h rfl rfl rfl rfl ?_; clear h a; intro a h
    replace h : Ag a 27 [(1, _), (10, _)] := h.sub (.cons rfl (.cons rfl .nil))
    refine wpList_nil (norm_then ?_)
    first | refine cond_dec h rfl (fun c0 => ?_) (fun c0 => ?_) | refine cond_ndec h rfl (fun c0 => ?_) (fun c0 => ?_) | refine cond_split h rfl (fun c0 => ?_) (fun c0 => ?_)
    · refine id ?_
      refine wp_seq ?_
      refine wp_region_lit ?_
      refine st_assign h rfl rfl ?_; clear h a; intro a h
      replace h : Ag a 27 [(2, _)] := h.sub (.cons rfl .nil)
      refine wpList_nil (norm_then ?_)
      refine wp_ret (ret_then ?_)
      refine ret1 h Tryd.results42 rfl ?_
      exact ⟨_, rfl, by first | rw [needs_0 (.inl (fun e => by rw [if_pos e] at g0; omega))] | rw [needs_0 (.inr c0)] | rw [needs_8 hc c1] | rw [needs_2 hc (by omega)] | rw [needs_1 hc (by omega) (by omega) (by omega)], hf⟩
    · have hc : checkS s = 0 := Decidable.not_not.1 fun e => g0 (if_neg e)
      refine wp_skip (norm_then ?_)
      refine wp_seq ?_
      refine wp_seq ?_
      refine wp_region_lit ?_
      refine st_fieldAddr h rfl fa36_0 rfl ?_; clear h a; intro a h
      refine st_loadB h rfl hb1 rfl na34 rfl ?_; clear h a; intro a h
      refine st_eq h rfl rfl rfl ?_; clear h a; intro a h
      replace h : Ag a 27 [(1, _), (13, _)] := h.sub (.cons rfl (.cons rfl .nil))
      refine wpList_nil (norm_then ?_)
      first | refine cond_dec h rfl (fun c1 => ?_) (fun c1 => ?_) | refine cond_ndec h rfl (fun c1 => ?_) (fun c1 => ?_) | refine cond_split h rfl (fun c1 => ?_) (fun c1 => ?_)
      · have h8 := (check_rng hc).2.2.2.2.2 c1
        refine wp_seq ?_
        refine wp_region_lit ?_
        refine st_fieldAddr h rfl fa36_2 rfl ?_; clear h a; intro a h
        refine st_loadB h rfl hb1 rfl na3 rfl ?_; clear h a; intro a h
        refine st_fieldAddr h rfl fa36_3 rfl ?_; clear h a; intro a h
        refine st_loadB h rfl hb1 rfl na3 rfl ?_; clear h a; intro a h
        refine st_add h rfl rfl (by first | exact IntWalk.i64_in _ (by omega) | rfl) rfl ?_; clear h a; intro a h
        refine st_assign h rfl rfl ?_; clear h a; intro a h
        replace h : Ag a 27 [(2, _)] := h.sub (.cons rfl .nil)
        refine wpList_nil (norm_then ?_)
        refine wp_ret (ret_then ?_)
        refine ret1 h Tryd.results42 rfl ?_
        exact ⟨_, rfl, by first | rw [needs_0 (.inl (fun e => by rw [if_pos e] at g0; omega))] | rw [needs_0 (.inr c0)] | rw [needs_8 hc c1] | rw [needs_2 hc (by omega)] | rw [needs_1 hc (by omega) (by omega) (by omega)], hf⟩
      · refine id ?_
        refine wp_skip (norm_then ?_)
        refine wp_seq ?_
        refine wp_seq ?_
        refine wp_region_lit ?_
        refine st_fieldAddr h rfl fa36_0 rfl ?_; clear h a; intro a h
        refine st_loadB h rfl hb1 rfl na34 rfl ?_; clear h a; intro a h
        refine st_eq h rfl rfl rfl ?_; clear h a; intro a h
        refine st_move h rfl rfl ?_; clear h a; intro a h
        first | refine guard_dec (D := 22) h rfl ?_ ?_ | refine guard_ndec (D := 22) h rfl ?_ ?_ | refine guard_any (D := 22) h rfl ?_ ?_
        · clear h; intro g1 h
          refine gd_no h rfl rfl rfl rfl rfl rfl rfl rfl ?_; clear h a; intro a h
          refine gd_no h rfl rfl rfl rfl rfl rfl rfl rfl ?_; clear h a; intro a h
          refine gd_no h rfl rfl rfl rfl rfl rfl rfl rfl ?_; clear h a; intro a h
          refine st_pick_t h rfl rfl rfl rfl ?_; clear h a; intro a h
          replace h : Ag a 27 [(26, _)] := h.sub (.cons rfl .nil)
          refine wpList_nil (norm_then ?_)
          refine cond_true h rfl ?_
          refine wp_seq ?_
          refine wp_region_lit ?_
          refine st_assign h rfl rfl ?_; clear h a; intro a h
          replace h : Ag a 27 [(2, _)] := h.sub (.cons rfl .nil)
          refine wpList_nil (norm_then ?_)
          refine wp_ret (ret_then ?_)
          refine ret1 h Tryd.results42 rfl ?_
          exact ⟨_, rfl, by first | rw [needs_0 (.inl (fun e => by rw [if_pos e] at g0; omega))] | rw [needs_0 (.inr c0)] | rw [needs_8 hc c1] | rw [needs_2 hc (by omega)] | rw [needs_1 hc (by omega) (by omega) (by omega)], hf⟩
        · clear h; intro g1 h
          refine gd_yes h rfl rfl rfl rfl rfl rfl ?_
          refine st_fieldAddr h rfl fa36_0 rfl ?_; clear h a; intro a h
          refine gd_yes h rfl rfl rfl rfl rfl rfl ?_
          refine st_loadB h rfl hb1 rfl na34 rfl ?_; clear h a; intro a h
          refine gd_yes h rfl rfl rfl rfl rfl rfl ?_
          refine st_eq h rfl rfl rfl ?_; clear h a; intro a h
          refine st_pick_f h rfl rfl rfl rfl ?_; clear h a; intro a h
          replace h : Ag a 27 [(26, _)] := h.sub (.cons rfl .nil)
          refine wpList_nil (norm_then ?_)
          first | refine cond_dec h rfl (fun c2 => ?_) (fun c2 => ?_) | refine cond_ndec h rfl (fun c2 => ?_) (fun c2 => ?_) | refine cond_split h rfl (fun c2 => ?_) (fun c2 => ?_)
          · refine id ?_
            refine wp_seq ?_
            refine wp_region_lit ?_
            refine st_assign h rfl rfl ?_; clear h a; intro a h
            replace h : Ag a 27 [(2, _)] := h.sub (.cons rfl .nil)
            refine wpList_nil (norm_then ?_)
            refine wp_ret (ret_then ?_)
            refine ret1 h Tryd.results42 rfl ?_
            exact ⟨_, rfl, by first | rw [needs_0 (.inl (fun e => by rw [if_pos e] at g0; omega))] | rw [needs_0 (.inr c0)] | rw [needs_8 hc c1] | rw [needs_2 hc (by omega)] | rw [needs_1 hc (by omega) (by omega) (by omega)], hf⟩
          · refine id ?_
            refine wp_skip (norm_then ?_)
            refine wp_seq ?_
            refine wp_region_lit ?_
            refine st_assign h rfl rfl ?_; clear h a; intro a h
            replace h : Ag a 27 [(2, _)] := h.sub (.cons rfl .nil)
            refine wpList_nil (norm_then ?_)
            refine wp_ret ?_
            refine ret1 h Tryd.results42 rfl ?_
            exact ⟨_, rfl, by first | rw [needs_0 (.inl (fun e => by rw [if_pos e] at g0; omega))] | rw [needs_0 (.inr c0)] | rw [needs_8 hc c1] | rw [needs_2 hc (by omega)] | rw [needs_1 hc (by omega) (by omega) (by omega)], hf⟩
theorem refmakes_ok (s : Stitch) (w0 : World) (hk : 0 ≤ s.k) (hy : 0 ≤ s.y) : Rets Tryd.prog 60 #[stV s] w0 fun v w' => v = .int .i64 (makesS s) ∧ Fr [] w0 w' := by
  refine enter [(0, stV s)] Tryd.func60 rfl Tryd.ntmps60 rfl (.cons rfl .nil) ?_
  have hf := Fr.refl [] w0
  intro a h
  refine wp_seq ?_
  refine wp_region_lit ?_
  refine st_box h rfl rfl rfl ?_; clear h a; intro w1 hb1 hq hz a h
  obtain ⟨g_1, hg⟩ : ∃ g, g = w0.heap.size := ⟨_, rfl⟩; rw [← hg] at hb1 h hz
  have hl1 : w0.heap.size ≤ g_1 := by have := hf.size; omega
  replace hf := hf.next hq
  clear hq hz hg
  refine st_assign h rfl rfl ?_; clear h a; intro a h
  replace h : Ag a 14 [(1, _)] := h.sub (.cons rfl .nil)
  refine wpList_nil (norm_then ?_)
  refine wp_seq ?_
  refine wp_seq ?_
  refine wp_region_lit ?_
  refine st_loadBA h rfl hb1 ag36 rfl ?_; clear h a; intro a h
  refine st_call h (evs_cons rfl evs_nil) co15 (valid_ok s _ hk hy) rfl ?_; clear h a; rintro _ w2 ⟨rfl, hq⟩ a h
  replace hf := hf.next hq
  replace hb1 := hb1.ext hq
  clear hq
  refine st_eq h rfl rfl rfl ?_; clear h a; intro a h
  replace h : Ag a 14 [(1, _), (5, _)] := h.sub (.cons rfl (.cons rfl .nil))
  refine wpList_nil (norm_then ?_)
  first | refine cond_dec h rfl (fun c0 => ?_) (fun c0 => ?_) | refine cond_ndec h rfl (fun c0 => ?_) (fun c0 => ?_) | refine cond_split h rfl (fun c0 => ?_) (fun c0 => ?_)
  · have hc : checkS s ≠ 0 := fun e => by rw [if_pos e] at c0; omega
    refine wp_seq ?_
    refine wp_region_lit ?_
    refine st_assign h rfl rfl ?_; clear h a; intro a h
    replace h : Ag a 14 [(2, _)] := h.sub (.cons rfl .nil)
    refine wpList_nil (norm_then ?_)
    refine wp_ret (ret_then ?_)
    refine ret1 h Tryd.results60 rfl ?_
    exact ⟨_, rfl, by first | rw [makes_0 hc] | rw [makes_8 hc c1] | rw [makes_1 hc c1], hf⟩
  · have hc : checkS s = 0 := Decidable.not_not.1 fun e => c0 (if_neg e)
    refine wp_skip (norm_then ?_)
    refine wp_seq ?_
    refine wp_seq ?_
    refine wp_region_lit ?_
    refine st_fieldAddr h rfl fa36_0 rfl ?_; clear h a; intro a h
    refine st_loadB h rfl hb1 rfl na34 rfl ?_; clear h a; intro a h
    refine st_eq h rfl rfl rfl ?_; clear h a; intro a h
    replace h : Ag a 14 [(1, _), (8, _)] := h.sub (.cons rfl (.cons rfl .nil))
    refine wpList_nil (norm_then ?_)
    first | refine cond_dec h rfl (fun c1 => ?_) (fun c1 => ?_) | refine cond_ndec h rfl (fun c1 => ?_) (fun c1 => ?_) | refine cond_split h rfl (fun c1 => ?_) (fun c1 => ?_)
    · have h8 := (check_rng hc).2.2.2.2.2 c1
      refine wp_seq ?_
      refine wp_region_lit ?_
      refine st_fieldAddr h rfl fa36_2 rfl ?_; clear h a; intro a h
      refine st_loadB h rfl hb1 rfl na3 rfl ?_; clear h a; intro a h
      refine st_fieldAddr h rfl fa36_3 rfl ?_; clear h a; intro a h
      refine st_loadB h rfl hb1 rfl na3 rfl ?_; clear h a; intro a h
      refine st_add h rfl rfl (by first | exact IntWalk.i64_in _ (by omega) | rfl) rfl ?_; clear h a; intro a h
      refine st_assign h rfl rfl ?_; clear h a; intro a h
      replace h : Ag a 14 [(2, _)] := h.sub (.cons rfl .nil)
      refine wpList_nil (norm_then ?_)
      refine wp_ret (ret_then ?_)
      refine ret1 h Tryd.results60 rfl ?_
      exact ⟨_, rfl, by first | rw [makes_0 hc] | rw [makes_8 hc c1] | rw [makes_1 hc c1], hf⟩
    · refine id ?_
      refine wp_skip (norm_then ?_)
      refine wp_seq ?_
      refine wp_region_lit ?_
      refine st_assign h rfl rfl ?_; clear h a; intro a h
      replace h : Ag a 14 [(2, _)] := h.sub (.cons rfl .nil)
      refine wpList_nil (norm_then ?_)
      refine wp_ret ?_
      refine ret1 h Tryd.results60 rfl ?_
      exact ⟨_, rfl, by first | rw [makes_0 hc] | rw [makes_8 hc c1] | rw [makes_1 hc c1], hf⟩
theorem refloads_ok (s : Stitch) (u : Value) (l : List Int) (w0 : World) (hk : 0 ≤ s.k) (hy : 0 ≤ s.y) (hu : Sl Enc.i64 w0 u l) : Rets Tryd.prog 43 #[stV s, u] w0 fun v w' => ∃ r, v = .tuple #[r, .int .i64 (loadsS s l).2] ∧ Own Enc.i64 3 w0.heap.size w' r (loadsS s l).1 ∧ Fr [] w0 w' := by
  obtain ⟨A, c, rfl, hcp⟩ := hu.form
  obtain ⟨-, -, hM, hA⟩ := Sl.open_ hu
  unfold maxLen at hM
  have hmk := makes_rng s
  refine enter [(0, stV s), (1, .slice A l.length c)] Tryd.func43 rfl Tryd.ntmps43 rfl (.cons rfl (.cons rfl .nil)) ?_
  have hf := Fr.refl [] w0
  intro a h
  refine wp_seq ?_
  refine wp_region_lit ?_
  refine st_box h rfl rfl rfl ?_; clear h a; intro w1 hb2 hq hz a h
  obtain ⟨g_2, hg⟩ : ∃ g, g = w0.heap.size := ⟨_, rfl⟩; rw [← hg] at hb2 h hz
  have hl2 : w0.heap.size ≤ g_2 := by have := hf.size; omega
  replace hf := hf.next hq
  clear hq hz hg
  refine st_assign h rfl rfl ?_; clear h a; intro a h
  refine st_assign h rfl rfl ?_; clear h a; intro a h
  replace h : Ag a 88 [(1, _), (2, _)] := h.sub (.cons rfl (.cons rfl .nil))
  refine wpList_nil (norm_then ?_)
  refine wp_seq ?_
  refine wp_seq ?_
  refine wp_region_lit ?_
  refine st_loadBA h rfl hb2 ag36 rfl ?_; clear h a; intro a h
  refine st_call h (evs_cons rfl evs_nil) co15 (valid_ok s _ hk hy) rfl ?_; clear h a; rintro _ w2 ⟨rfl, hq⟩ a h
  replace hf := hf.next hq
  replace hb2 := hb2.ext hq
  clear hq
  refine st_eq h rfl rfl rfl ?_; clear h a; intro a h
  replace h : Ag a 88 [(1, _), (2, _), (11, _)] := h.sub (.cons rfl (.cons rfl (.cons rfl .nil)))
  refine wpList_nil (norm_then ?_)
  first | refine cond_dec h rfl (fun c0 => ?_) (fun c0 => ?_) | refine cond_ndec h rfl (fun c0 => ?_) (fun c0 => ?_) | refine cond_split h rfl (fun c0 => ?_) (fun c0 => ?_)
  · have hc : checkS s ≠ 0 := fun e => by rw [if_pos e] at c0; omega
    refine wp_seq ?_
    refine wp_region_lit ?_
    refine st_assign h rfl rfl ?_; clear h a; intro a h
    refine st_assign h rfl rfl ?_; clear h a; intro a h
    replace h : Ag a 88 [(4, _), (5, _)] := h.sub (.cons rfl (.cons rfl .nil))
    refine wpList_nil (norm_then ?_)
    refine wp_ret (ret_then ?_)
    refine ret2 h Tryd.results43 rfl rfl ?_
    rw [loads_1 hc]; exact ⟨_, rfl, _, rfl, Own.nil _, hf⟩
  · have hc : checkS s = 0 := Decidable.not_not.1 fun e => c0 (if_neg e)
    refine wp_skip (norm_then ?_)
    refine wp_seq ?_
    refine wp_seq ?_
    refine wp_region_lit ?_
    refine st_move h rfl rfl ?_; clear h a; intro a h
    refine st_lenS h rfl Tryd.underlying68 rfl ?_; clear h a; intro a h
    refine st_loadBA h rfl hb2 ag36 rfl ?_; clear h a; intro a h
    refine st_call h (evs_cons rfl evs_nil) co42 (refneeds_ok s _ hk hy) rfl ?_; clear h a; rintro _ w3 ⟨rfl, hq⟩ a h
    replace hf := hf.next hq
    replace hb2 := hb2.ext hq
    clear hq
    refine st_ne h rfl rfl rfl ?_; clear h a; intro a h
    replace h : Ag a 88 [(1, _), (2, _), (16, _)] := h.sub (.cons rfl (.cons rfl (.cons rfl .nil)))
    refine wpList_nil (norm_then ?_)
    first | refine cond_dec h rfl (fun c1 => ?_) (fun c1 => ?_) | refine cond_ndec h rfl (fun c1 => ?_) (fun c1 => ?_) | refine cond_split h rfl (fun c1 => ?_) (fun c1 => ?_)
    · refine id ?_
      refine wp_seq ?_
      refine wp_region_lit ?_
      refine st_assign h rfl rfl ?_; clear h a; intro a h
      refine st_assign h rfl rfl ?_; clear h a; intro a h
      replace h : Ag a 88 [(4, _), (5, _)] := h.sub (.cons rfl (.cons rfl .nil))
      refine wpList_nil (norm_then ?_)
      refine wp_ret (ret_then ?_)
      refine ret2 h Tryd.results43 rfl rfl ?_
      rw [loads_5 hc c1]; exact ⟨_, rfl, _, rfl, Own.nil _, hf⟩
    · have hn : (l.length : Int) = needsS s := Decidable.not_not.1 c1
      refine wp_skip (norm_then ?_)
      refine wp_seq ?_
      refine wp_seq ?_
      refine wp_region_lit ?_
      refine st_assign h rfl rfl ?_; clear h a; intro a h
      replace h : Ag a 88 [(1, _), (2, _), (6, _)] := h.sub (.cons rfl (.cons rfl (.cons rfl .nil)))
      refine wpList_nil (norm_then ?_)
      refine wp_block ?_
      refine loop (ι := Nat) (fun k => [(1, .slice A l.length c), (2, .pointer (some ⟨g_2, 0, none⟩)), (6, .int .i64 (k : Int))]) (fun k w' => k ≤ l.length ∧ (l.take k).all few = true ∧ Blk w' g_2 36 [.int .u8 s.k, .int .u8 s.y, .int .i64 s.a, .int .i64 s.b, .bool s.f] ∧ Fr [] w0 w') (fun k => l.length - k) 0 (h.sub (.cons rfl (.cons rfl (.cons rfl .nil)))) ⟨by omega, rfl, hb2, hf⟩ ?_
      clear h a hb2 hf
      rintro k w4 a h ⟨hkl, ha, hb2, hf⟩
      refine wp_seq ?_
      refine wp_seq ?_
      refine wp_region_lit ?_
      refine st_move h rfl rfl ?_; clear h a; intro a h
      refine st_move h rfl rfl ?_; clear h a; intro a h
      refine st_lenS h rfl Tryd.underlying68 rfl ?_; clear h a; intro a h
      refine st_lt h rfl rfl rfl ?_; clear h a; intro a h
      replace h : Ag a 88 [(1, _), (2, _), (6, _), (20, _)] := h.sub (.cons rfl (.cons rfl (.cons rfl (.cons rfl .nil))))
      refine wpList_nil (norm_then ?_)
      first | refine cond_dec h rfl (fun c2 => ?_) (fun c2 => ?_) | refine cond_ndec h rfl (fun c2 => ?_) (fun c2 => ?_) | refine cond_split h rfl (fun c2 => ?_) (fun c2 => ?_)
      · obtain ⟨x, hxx⟩ : ∃ x, l[k]? = some x := ⟨_, List.getElem?_eq_getElem (by omega)⟩
        obtain ⟨ad, hAx, ca⟩ := hA _ x hxx
        refine wp_skip (norm_then ?_)
        refine wp_seq ?_
        refine wp_block ?_
        refine wp_seq ?_
        refine region_bool (r := 41) (L' := [(1, _), (2, _), (6, _)]) (¬ (1 ≤ x ∧ x ≤ 3)) h (.cons rfl (.cons rfl (.cons rfl .nil))) ?_ ?_
        · refine id ?_
          refine st_move h rfl rfl ?_; clear h a; intro a h
          refine st_move h rfl rfl ?_; clear h a; intro a h
          refine st_idxS h (by rw [hAx]; rfl) rfl el68 (by omega) (by omega) rfl rfl ?_; clear h a; intro a h
          refine st_loadC0 h rfl (ca.fr hf (by simp)) na3 rfl ?_; clear h a; intro a h
          refine st_ne h rfl rfl rfl ?_; clear h a; intro a h
          refine st_move h rfl rfl ?_; clear h a; intro a h
          first | refine guard_dec (D := 28) h rfl ?_ ?_ | refine guard_ndec (D := 28) h rfl ?_ ?_ | refine guard_any (D := 28) h rfl ?_ ?_
          · clear h; intro g0 h
            refine gd_yes h rfl rfl rfl rfl rfl rfl ?_
            refine st_move h rfl rfl ?_; clear h a; intro a h
            refine gd_yes h rfl rfl rfl rfl rfl rfl ?_
            refine st_move h rfl rfl ?_; clear h a; intro a h
            refine gd_yes h rfl rfl rfl rfl rfl rfl ?_
            refine st_idxS h (by rw [hAx]; rfl) rfl el68 (by omega) (by omega) rfl rfl ?_; clear h a; intro a h
            refine gd_yes h rfl rfl rfl rfl rfl rfl ?_
            refine st_loadC0 h rfl (ca.fr hf (by simp)) na3 rfl ?_; clear h a; intro a h
            refine gd_yes h rfl rfl rfl rfl rfl rfl ?_
            refine st_ne h rfl rfl rfl ?_; clear h a; intro a h
            refine st_pick_t h rfl rfl rfl rfl ?_; clear h a; intro a h
            refine st_move h rfl rfl ?_; clear h a; intro a h
            first | refine guard_dec (D := 35) h rfl ?_ ?_ | refine guard_ndec (D := 35) h rfl ?_ ?_ | refine guard_any (D := 35) h rfl ?_ ?_
            · clear h; intro g1 h
              refine gd_yes h rfl rfl rfl rfl rfl rfl ?_
              refine st_move h rfl rfl ?_; clear h a; intro a h
              refine gd_yes h rfl rfl rfl rfl rfl rfl ?_
              refine st_move h rfl rfl ?_; clear h a; intro a h
              refine gd_yes h rfl rfl rfl rfl rfl rfl ?_
              refine st_idxS h (by rw [hAx]; rfl) rfl el68 (by omega) (by omega) rfl rfl ?_; clear h a; intro a h
              refine gd_yes h rfl rfl rfl rfl rfl rfl ?_
              refine st_loadC0 h rfl (ca.fr hf (by simp)) na3 rfl ?_; clear h a; intro a h
              refine gd_yes h rfl rfl rfl rfl rfl rfl ?_
              refine st_ne h rfl rfl rfl ?_; clear h a; intro a h
              refine st_pick_t h rfl rfl rfl rfl ?_; clear h a; intro a h
              exact wpList_nil (bool_end h rfl (by first | exact bt (by omega) | exact bf (by omega) | exact bi (by omega) | exact bn (by omega)) (.cons rfl (.cons rfl (.cons rfl .nil))))
            · clear h; intro g1 h
              refine gd_no h rfl rfl rfl rfl rfl rfl rfl rfl ?_; clear h a; intro a h
              refine gd_no h rfl rfl rfl rfl rfl rfl rfl rfl ?_; clear h a; intro a h
              refine gd_no h rfl rfl rfl rfl rfl rfl rfl rfl ?_; clear h a; intro a h
              refine gd_no h rfl rfl rfl rfl rfl rfl rfl rfl ?_; clear h a; intro a h
              refine gd_no h rfl rfl rfl rfl rfl rfl rfl rfl ?_; clear h a; intro a h
              refine st_pick_f h rfl rfl rfl rfl ?_; clear h a; intro a h
              exact wpList_nil (bool_end h rfl (by first | exact bt (by omega) | exact bf (by omega) | exact bi (by omega) | exact bn (by omega)) (.cons rfl (.cons rfl (.cons rfl .nil))))
          · clear h; intro g0 h
            refine gd_no h rfl rfl rfl rfl rfl rfl rfl rfl ?_; clear h a; intro a h
            refine gd_no h rfl rfl rfl rfl rfl rfl rfl rfl ?_; clear h a; intro a h
            refine gd_no h rfl rfl rfl rfl rfl rfl rfl rfl ?_; clear h a; intro a h
            refine gd_no h rfl rfl rfl rfl rfl rfl rfl rfl ?_; clear h a; intro a h
            refine gd_no h rfl rfl rfl rfl rfl rfl rfl rfl ?_; clear h a; intro a h
            refine st_pick_f h rfl rfl rfl rfl ?_; clear h a; intro a h
            refine st_move h rfl rfl ?_; clear h a; intro a h
            refine gd_no h rfl rfl rfl rfl rfl rfl rfl rfl ?_; clear h a; intro a h
            refine gd_no h rfl rfl rfl rfl rfl rfl rfl rfl ?_; clear h a; intro a h
            refine gd_no h rfl rfl rfl rfl rfl rfl rfl rfl ?_; clear h a; intro a h
            refine gd_no h rfl rfl rfl rfl rfl rfl rfl rfl ?_; clear h a; intro a h
            refine gd_no h rfl rfl rfl rfl rfl rfl rfl rfl ?_; clear h a; intro a h
            refine st_pick_f h rfl rfl rfl rfl ?_; clear h a; intro a h
            exact wpList_nil (bool_end h rfl (by first | exact bt (by omega) | exact bf (by omega) | exact bi (by omega) | exact bn (by omega)) (.cons rfl (.cons rfl (.cons rfl .nil))))
        · clear h a; intro a h
          refine (norm_then ?_)
          first | refine cond_dec h rfl (fun c3 => ?_) (fun c3 => ?_) | refine cond_ndec h rfl (fun c3 => ?_) (fun c3 => ?_) | refine cond_split h rfl (fun c3 => ?_) (fun c3 => ?_)
          · refine id ?_
            refine wp_seq ?_
            refine wp_region_lit ?_
            refine st_assign h rfl rfl ?_; clear h a; intro a h
            refine st_assign h rfl rfl ?_; clear h a; intro a h
            replace h : Ag a 88 [(4, _), (5, _)] := h.sub (.cons rfl (.cons rfl .nil))
            refine wpList_nil (norm_then ?_)
            refine wp_ret (ret_blk (ret_then (ret_then (ret_blk (ret_then ?_)))))
            refine ret2 h Tryd.results43 rfl rfl ?_
            rw [loads_b hc hn hxx c3]; exact ⟨_, rfl, _, rfl, Own.nil _, hf⟩
          · refine id ?_
            refine wp_skip (norm_blk (norm_then ?_))
            refine wp_region_lit ?_
            refine st_move h rfl rfl ?_; clear h a; intro a h
            refine st_add h rfl rfl (by first | exact IntWalk.i64_in _ (by omega) | rfl) rfl ?_; clear h a; intro a h
            refine st_assign h rfl rfl ?_; clear h a; intro a h
            replace h : Ag a 88 [(1, _), (2, _), (6, _)] := h.sub (.cons rfl (.cons rfl (.cons rfl .nil)))
            refine wpList_nil (norm_then ?_)
            exact ⟨k + 1, h.sub (.cons rfl (.cons rfl (.cons rfl .nil))), ⟨by omega, all_few_next ha hxx (by omega), hb2, hf⟩, by omega⟩
      · obtain rfl : k = l.length := by omega
        rw [List.take_length] at ha
        refine wp_exit (exit_then (exit_then (exit_here (norm_then ?_))))
        refine wp_seq ?_
        refine wp_seq ?_
        refine region_bool (r := 49) (L' := [(1, _), (2, _)]) (s.k = 4 ∨ s.k = 5) h (.cons rfl (.cons rfl .nil)) ?_ ?_
        · refine id ?_
          refine st_fieldAddr h rfl fa36_0 rfl ?_; clear h a; intro a h
          refine st_loadB h rfl hb2 rfl na34 rfl ?_; clear h a; intro a h
          refine st_eq h rfl rfl rfl ?_; clear h a; intro a h
          refine st_move h rfl rfl ?_; clear h a; intro a h
          first | refine guard_dec (D := 45) h rfl ?_ ?_ | refine guard_ndec (D := 45) h rfl ?_ ?_ | refine guard_any (D := 45) h rfl ?_ ?_
          · clear h; intro g2 h
            refine gd_no h rfl rfl rfl rfl rfl rfl rfl rfl ?_; clear h a; intro a h
            refine gd_no h rfl rfl rfl rfl rfl rfl rfl rfl ?_; clear h a; intro a h
            refine gd_no h rfl rfl rfl rfl rfl rfl rfl rfl ?_; clear h a; intro a h
            refine st_pick_t h rfl rfl rfl rfl ?_; clear h a; intro a h
            exact wpList_nil (bool_end h rfl (by first | exact bt (by omega) | exact bf (by omega) | exact bi (by omega) | exact bn (by omega)) (.cons rfl (.cons rfl .nil)))
          · clear h; intro g2 h
            refine gd_yes h rfl rfl rfl rfl rfl rfl ?_
            refine st_fieldAddr h rfl fa36_0 rfl ?_; clear h a; intro a h
            refine gd_yes h rfl rfl rfl rfl rfl rfl ?_
            refine st_loadB h rfl hb2 rfl na34 rfl ?_; clear h a; intro a h
            refine gd_yes h rfl rfl rfl rfl rfl rfl ?_
            refine st_eq h rfl rfl rfl ?_; clear h a; intro a h
            refine st_pick_f h rfl rfl rfl rfl ?_; clear h a; intro a h
            exact wpList_nil (bool_end h rfl (by first | exact bt (by omega) | exact bf (by omega) | exact bi (by omega) | exact bn (by omega)) (.cons rfl (.cons rfl .nil)))
        · clear h a; intro a h
          refine (norm_then ?_)
          first | refine cond_dec h rfl (fun c4 => ?_) (fun c4 => ?_) | refine cond_ndec h rfl (fun c4 => ?_) (fun c4 => ?_) | refine cond_split h rfl (fun c4 => ?_) (fun c4 => ?_)
          · have h4 : s.k = 4 ∨ s.k = 5 := by omega
            have hn2 := needs_2 hc h4
            obtain ⟨x, hxx⟩ : ∃ x, l[0]? = some x := ⟨_, List.getElem?_eq_getElem (by omega)⟩
            obtain ⟨ad, hAx, ca⟩ := hA _ x hxx
            obtain ⟨y, hxy⟩ : ∃ x, l[1]? = some x := ⟨_, List.getElem?_eq_getElem (by omega)⟩
            obtain ⟨bd, hAy, cb⟩ := hA _ y hxy
            have hfx := (few_iff x).1 (List.all_eq_true.1 ha x (List.mem_of_getElem? hxx))
            have hfy := (few_iff y).1 (List.all_eq_true.1 ha y (List.mem_of_getElem? hxy))
            refine wp_seq ?_
            refine wp_seq ?_
            refine region_quiet hmix (by kernel_rfl) ?_
            refine qt_move h rfl rfl ?_; clear h a; intro a h
            refine qt_idxS (p := 0) h (by rw [hAx]; rfl) rfl el68 (by omega) (by omega) (by omega) rfl ?_; clear h a; intro a h
            refine qt_loadC0 h rfl (fun _ hw => (ca.fr hf (by simp)).fr hw (by simp)) na3 rfl ?_; clear h a; intro a h
            refine qt_move h rfl rfl ?_; clear h a; intro a h
            refine qt_idxS (p := 1) h (by rw [hAy]; rfl) rfl el68 (by omega) (by omega) (by omega) rfl ?_; clear h a; intro a h
            refine qt_loadC0 h rfl (fun _ hw => (cb.fr hf (by simp)).fr hw (by simp)) na3 rfl ?_; clear h a; intro a h
            refine qt_add h rfl rfl (by first | exact IntWalk.i64_in _ (by omega) | rfl) rfl ?_; clear h a; intro a h
            refine qt_gt h rfl rfl rfl ?_; clear h a; intro a h
            refine wpQuiet_nil ?_
            intro w5 hq
            replace hf := hf.next hq
            replace hb2 := hb2.ext hq
            clear hq
            replace h : Ag a 88 [(57, _)] := h.sub (.cons rfl .nil)
            refine (norm_then ?_)
            first | refine cond_dec h rfl (fun c5 => ?_) (fun c5 => ?_) | refine cond_ndec h rfl (fun c5 => ?_) (fun c5 => ?_) | refine cond_split h rfl (fun c5 => ?_) (fun c5 => ?_)
            · refine id ?_
              refine wp_seq ?_
              refine wp_region_lit ?_
              refine st_assign h rfl rfl ?_; clear h a; intro a h
              refine st_assign h rfl rfl ?_; clear h a; intro a h
              replace h : Ag a 88 [(4, _), (5, _)] := h.sub (.cons rfl (.cons rfl .nil))
              refine wpList_nil (norm_then ?_)
              refine wp_ret (ret_then (ret_then ?_))
              refine ret2 h Tryd.results43 rfl rfl ?_
              rw [loads_2f hc hn ha h4 hxx hxy c5]; exact ⟨_, rfl, _, rfl, Own.nil _, hf⟩
            · refine id ?_
              refine wp_skip (norm_then ?_)
              refine wp_seq ?_
              refine wp_region_lit ?_
              refine st_bslice [(1 : Int)] h (evs_cons rfl evs_nil) rfl rfl rfl el68 (by decide) rfl ?_; clear h a; intro gN w6 hg hoN hq hz a h
              have hlN : w0.heap.size ≤ gN := by have := hf.size; omega
              replace hf := hf.next hq
              replace hb2 := hb2.ext hq
              clear hq hz hg
              refine st_assign h rfl rfl ?_; clear h a; intro a h
              refine st_assign h rfl rfl ?_; clear h a; intro a h
              replace h : Ag a 88 [(4, _), (5, _)] := h.sub (.cons rfl (.cons rfl .nil))
              refine wpList_nil (norm_then ?_)
              refine wp_ret (ret_then ?_)
              refine ret2 h Tryd.results43 rfl rfl ?_
              rw [loads_2 hc hn ha h4 hxx hxy c5]; exact ⟨_, rfl, _, rfl, hoN.low hlN, hf⟩
          · have h4 : ¬ (s.k = 4 ∨ s.k = 5) := by omega
            refine wp_skip (norm_then ?_)
            refine wp_seq ?_
            refine wp_seq ?_
            refine wp_region_lit ?_
            refine st_fieldAddr h rfl fa36_0 rfl ?_; clear h a; intro a h
            refine st_loadB h rfl hb2 rfl na34 rfl ?_; clear h a; intro a h
            refine st_eq h rfl rfl rfl ?_; clear h a; intro a h
            replace h : Ag a 88 [(1, _), (2, _), (61, _)] := h.sub (.cons rfl (.cons rfl (.cons rfl .nil)))
            refine wpList_nil (norm_then ?_)
            first | refine cond_dec h rfl (fun c6 => ?_) (fun c6 => ?_) | refine cond_ndec h rfl (fun c6 => ?_) (fun c6 => ?_) | refine cond_split h rfl (fun c6 => ?_) (fun c6 => ?_)
            · have hn1 := needs_1 hc (by omega) (by omega) h4
              obtain ⟨x, hxx⟩ : ∃ x, l[0]? = some x := ⟨_, List.getElem?_eq_getElem (by omega)⟩
              obtain ⟨ad, hAx, ca⟩ := hA _ x hxx
              have hfx := (few_iff x).1 (List.all_eq_true.1 ha x (List.mem_of_getElem? hxx))
              refine wp_seq ?_
              refine wp_seq ?_
              refine wp_region_lit ?_
              refine st_move h rfl rfl ?_; clear h a; intro a h
              refine st_idxS (p := 0) h (by rw [hAx]; rfl) rfl el68 (by omega) (by omega) (by omega) rfl ?_; clear h a; intro a h
              refine st_loadC0 h rfl (ca.fr hf (by simp)) na3 rfl ?_; clear h a; intro a h
              refine st_eq h rfl rfl rfl ?_; clear h a; intro a h
              replace h : Ag a 88 [(1, _), (65, _)] := h.sub (.cons rfl (.cons rfl .nil))
              refine wpList_nil (norm_then ?_)
              first | refine cond_dec h rfl (fun c7 => ?_) (fun c7 => ?_) | refine cond_ndec h rfl (fun c7 => ?_) (fun c7 => ?_) | refine cond_split h rfl (fun c7 => ?_) (fun c7 => ?_)
              · refine id ?_
                refine wp_seq ?_
                refine wp_region_lit ?_
                refine st_assign h rfl rfl ?_; clear h a; intro a h
                refine st_assign h rfl rfl ?_; clear h a; intro a h
                replace h : Ag a 88 [(4, _), (5, _)] := h.sub (.cons rfl (.cons rfl .nil))
                refine wpList_nil (norm_then ?_)
                refine wp_ret (ret_then (ret_then ?_))
                refine ret2 h Tryd.results43 rfl rfl ?_
                rw [loads_6f hc hn ha c6 hxx c7]; exact ⟨_, rfl, _, rfl, Own.nil _, hf⟩
              · refine id ?_
                refine wp_skip (norm_then ?_)
                refine wp_seq ?_
                refine wp_region_lit ?_
                refine st_move h rfl rfl ?_; clear h a; intro a h
                refine st_idxS (p := 0) h (by rw [hAx]; rfl) rfl el68 (by omega) (by omega) (by omega) rfl ?_; clear h a; intro a h
                refine st_loadC0 h rfl (ca.fr hf (by simp)) na3 rfl ?_; clear h a; intro a h
                refine st_add h rfl rfl (by first | exact IntWalk.i64_in _ (by omega) | rfl) rfl ?_; clear h a; intro a h
                refine st_bslice [x + 1] h (evs_cons rfl evs_nil) rfl rfl rfl el68 (by decide) rfl ?_; clear h a; intro gN w7 hg hoN hq hz a h
                have hlN : w0.heap.size ≤ gN := by have := hf.size; omega
                replace hf := hf.next hq
                replace hb2 := hb2.ext hq
                clear hq hz hg
                refine st_assign h rfl rfl ?_; clear h a; intro a h
                refine st_assign h rfl rfl ?_; clear h a; intro a h
                replace h : Ag a 88 [(4, _), (5, _)] := h.sub (.cons rfl (.cons rfl .nil))
                refine wpList_nil (norm_then ?_)
                refine wp_ret (ret_then ?_)
                refine ret2 h Tryd.results43 rfl rfl ?_
                rw [loads_6 hc hn ha c6 hxx c7]; exact ⟨_, rfl, _, rfl, hoN.low hlN, hf⟩
            · refine id ?_
              refine wp_skip (norm_then ?_)
              refine wp_seq ?_
              refine wp_seq ?_
              refine wp_region_lit ?_
              refine st_fieldAddr h rfl fa36_0 rfl ?_; clear h a; intro a h
              refine st_loadB h rfl hb2 rfl na34 rfl ?_; clear h a; intro a h
              refine st_eq h rfl rfl rfl ?_; clear h a; intro a h
              replace h : Ag a 88 [(1, _), (2, _), (73, _)] := h.sub (.cons rfl (.cons rfl (.cons rfl .nil)))
              refine wpList_nil (norm_then ?_)
              first | refine cond_dec h rfl (fun c8 => ?_) (fun c8 => ?_) | refine cond_ndec h rfl (fun c8 => ?_) (fun c8 => ?_) | refine cond_split h rfl (fun c8 => ?_) (fun c8 => ?_)
              · have hn1 := needs_1 hc (by omega) (by omega) h4
                obtain ⟨x, hxx⟩ : ∃ x, l[0]? = some x := ⟨_, List.getElem?_eq_getElem (by omega)⟩
                obtain ⟨ad, hAx, ca⟩ := hA _ x hxx
                refine wp_seq ?_
                refine wp_region_lit ?_
                refine st_move h rfl rfl ?_; clear h a; intro a h
                refine st_idxS (p := 0) h (by rw [hAx]; rfl) rfl el68 (by omega) (by omega) (by omega) rfl ?_; clear h a; intro a h
                refine st_loadC0 h rfl (ca.fr hf (by simp)) na3 rfl ?_; clear h a; intro a h
                refine st_bslice [x] h (evs_cons rfl evs_nil) rfl rfl rfl el68 (by decide) rfl ?_; clear h a; intro gN w8 hg hoN hq hz a h
                have hlN : w0.heap.size ≤ gN := by have := hf.size; omega
                replace hf := hf.next hq
                replace hb2 := hb2.ext hq
                clear hq hz hg
                refine st_assign h rfl rfl ?_; clear h a; intro a h
                refine st_assign h rfl rfl ?_; clear h a; intro a h
                replace h : Ag a 88 [(4, _), (5, _)] := h.sub (.cons rfl (.cons rfl .nil))
                refine wpList_nil (norm_then ?_)
                refine wp_ret (ret_then ?_)
                refine ret2 h Tryd.results43 rfl rfl ?_
                rw [loads_7 hc hn ha c8 hxx]; exact ⟨_, rfl, _, rfl, hoN.low hlN, hf⟩
              · refine id ?_
                refine wp_skip (norm_then ?_)
                refine wp_seq ?_
                refine wp_region_lit ?_
                refine st_assign h rfl rfl ?_; clear h a; intro a h
                replace h : Ag a 88 [(2, _), (7, _)] := h.sub (.cons rfl (.cons rfl .nil))
                refine wpList_nil (norm_then ?_)
                refine wp_seq ?_
                refine wp_seq ?_
                refine wp_region_lit ?_
                refine st_assign h rfl rfl ?_; clear h a; intro a h
                refine wpList_nil (norm_then ?_)
                refine wp_block ?_
                refine loop (ι := Nat × Value) (fun z => [(2, .pointer (some ⟨g_2, 0, none⟩)), (7, z.2), (8, .int .i64 (z.1 : Int))]) (fun z w' => (z.1 : Int) ≤ makesS s ∧ Own Enc.i64 3 (g_2 + 1) w' z.2 (List.replicate z.1 1) ∧ Blk w' g_2 36 [.int .u8 s.k, .int .u8 s.y, .int .i64 s.a, .int .i64 s.b, .bool s.f] ∧ Fr [] w0 w') (fun z => (makesS s).toNat - z.1) (0, .slice none 0 0) (h.sub (.cons rfl (.cons rfl (.cons rfl .nil)))) ⟨by simp only; omega, Own.nil _, hb2, hf⟩ ?_
                clear h a hb2 hf
                rintro ⟨j, x⟩ w9 a h ⟨hj, ho, hb2, hf⟩
                simp only at hj ho h
                refine wp_seq ?_
                refine wp_seq ?_
                refine wp_region_lit ?_
                refine st_move h rfl rfl ?_; clear h a; intro a h
                refine st_loadBA h rfl hb2 ag36 rfl ?_; clear h a; intro a h
                refine st_call h (evs_cons rfl evs_nil) co60 (refmakes_ok s _ hk hy) rfl ?_; clear h a; rintro _ w10 ⟨rfl, hq⟩ a h
                replace hf := hf.next hq
                replace hb2 := hb2.ext hq
                replace ho := ho.ext hq
                clear hq
                refine st_lt h rfl rfl rfl ?_; clear h a; intro a h
                replace h : Ag a 88 [(2, _), (7, _), (8, _), (81, _)] := h.sub (.cons rfl (.cons rfl (.cons rfl (.cons rfl .nil))))
                refine wpList_nil (norm_then ?_)
                first | refine cond_dec h rfl (fun c9 => ?_) (fun c9 => ?_) | refine cond_ndec h rfl (fun c9 => ?_) (fun c9 => ?_) | refine cond_split h rfl (fun c9 => ?_) (fun c9 => ?_)
                · refine id ?_
                  refine wp_skip (norm_then ?_)
                  refine wp_seq ?_
                  refine wp_block ?_
                  refine wp_region_lit ?_
                  refine st_move h rfl rfl ?_; clear h a; intro a h
                  refine st_bslice [(1 : Int)] h (evs_cons rfl evs_nil) rfl rfl rfl el68 (by decide) rfl ?_; clear h a; intro gN w11 hg hoN hq hz a h
                  have hlN : w0.heap.size ≤ gN := by have := hf.size; omega
                  replace hf := hf.next hq
                  replace hb2 := hb2.ext hq
                  replace ho := ho.ext hq
                  clear hq hz hg
                  have hbO := ho.blk
                  refine st_append h rfl rfl ho hoN.sl el68 (by unfold maxLen; simp; omega) (by simp; omega) (by have := hb2.lt; omega) rfl ?_; clear h a; intro v3 w12 ho3 hq hx3 a h
                  replace hb2 := hb2.fr hq (fun hb => by have := (hbO _ hb).1; omega)
                  replace hf := hf.step hq (fun k hk hlt => absurd (hbO k hk).1 (by omega))
                  clear ho hq hx3 hoN hbO; have ho := ho3; clear ho3
                  refine st_assign h rfl rfl ?_; clear h a; intro a h
                  replace h : Ag a 88 [(2, _), (7, _), (8, _)] := h.sub (.cons rfl (.cons rfl (.cons rfl .nil)))
                  refine wpList_nil (norm_blk (norm_then ?_))
                  refine wp_region_lit ?_
                  refine st_move h rfl rfl ?_; clear h a; intro a h
                  refine st_add h rfl rfl (by first | exact IntWalk.i64_in _ (by omega) | rfl) rfl ?_; clear h a; intro a h
                  refine st_assign h rfl rfl ?_; clear h a; intro a h
                  replace h : Ag a 88 [(2, _), (7, _), (8, _)] := h.sub (.cons rfl (.cons rfl (.cons rfl .nil)))
                  refine wpList_nil (norm_then ?_)
                  exact ⟨(j + 1, _), h.sub (.cons rfl (.cons rfl (.cons rfl .nil))), ⟨by simp only; omega, by rw [rep_succ]; exact ho, hb2, hf⟩, by simp only; omega⟩
                · obtain rfl : j = (makesS s).toNat := by omega
                  refine wp_exit (exit_then (exit_then (exit_here (norm_then ?_))))
                  refine wp_seq ?_
                  refine wp_region_lit ?_
                  refine st_move h rfl rfl ?_; clear h a; intro a h
                  refine st_assign h rfl rfl ?_; clear h a; intro a h
                  refine st_assign h rfl rfl ?_; clear h a; intro a h
                  replace h : Ag a 88 [(4, _), (5, _)] := h.sub (.cons rfl (.cons rfl .nil))
                  refine wpList_nil (norm_then ?_)
                  refine wp_ret ?_
                  refine ret2 h Tryd.results43 rfl rfl ?_
                  rw [loads_o hc hn ha h4 c6 c8]; exact ⟨_, rfl, _, rfl, ho.low (by omega), hf⟩
end Go.Proofs.YtbbnampdgefljaaDoor
