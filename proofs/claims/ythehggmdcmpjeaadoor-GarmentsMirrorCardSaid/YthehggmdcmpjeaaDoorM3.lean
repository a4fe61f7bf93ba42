/- Texts of the proof, joined: W16 W17 XRowF W18 W19 -/
import Derived.Test.YthehggmdcmpjeaaDoorRows
import Derived.Test.YthehggmdcmpjeaaDoorM2
set_option linter.unusedVariables false
set_option linter.unusedSimpArgs false
namespace Go.Proofs.YthehggmdcmpjeaaDoor
open Go.Lw Go.G14
theorem co72 : CallOf Tryd.prog 72 := CallOf.mk' Tryd.func72 (by kernel_rfl) (by kernel_rfl)
theorem co85 : CallOf Tryd.prog 85 := CallOf.mk' Tryd.func85 (by kernel_rfl) (by kernel_rfl)
theorem el30 : ElemOf Tryd.prog 30 3 Enc.i64 8 := ElemOf.mk' (z := (.int .i64 0)) Tryd.underlying30 (by kernel_rfl) rfl
theorem refneeds_ok (s : Stitch) (w0 : World) (hk : 0 ≤ s.k) (hy : 0 ≤ s.y) : Rets Tryd.prog 72 #[stV s] w0 fun v w' => v = .int .i64 (needsS s) ∧ Fr [] w0 w' := by
 refine enter [(0, stV s)] Tryd.func72 rfl Tryd.ntmps72 rfl (.cons rfl .nil) ?_
 have hf := Fr.refl [] w0
 intro a h
 refine wp_seq ?_
 refine wR ?_
 refine st_box h rfl rfl rfl ?_; clear h a; intro w1 hb1 hq hz a h
 obtain ⟨g_1, hg⟩ : ∃ g, g = w0.heap.size := ⟨_, rfl⟩; rw [← hg] at hb1 h hz
 have hl1 : w0.heap.size ≤ g_1 := by have := hf.size; omega
 replace hf := hf.next hq
 clear hq hz hg
 refine st_assign h rfl rfl ?_; clear h a; intro a h
 replace h : Ag a 27 [(1, _)] := h.sub (.cons rfl .nil)
 refine wnt ?_
 refine wp_seq ?_
 refine wp_seq ?_
 refine wR ?_
 refine st_loadBA h rfl hb1 ag100 rfl ?_; clear h a; intro a h
 refine st_call h (evs_cons rfl evs_nil) co42 (valid_ok s _ hk hy) rfl ?_; clear h a; rintro _ w2 ⟨rfl, hq⟩ a h
 replace hf := hf.next hq
 replace hb1 := hb1.ext hq
 clear hq
 refine st_eq h rfl rfl rfl ?_; clear h a; intro a h
 refine st_move h rfl rfl ?_; clear h a; intro a h
 first | refine guard_dec (D := 6) h rfl ?_ ?_ | refine guard_ndec (D := 6) h rfl ?_ ?_ | refine guard_any (D := 6) h rfl ?_ ?_
 ·clear h; intro g0 h
  refine gd_no h rfl rfl rfl rfl rfl rfl rfl rfl ?_; clear h a; intro a h
  refine gd_no h rfl rfl rfl rfl rfl rfl rfl rfl ?_; clear h a; intro a h
  refine gd_no h rfl rfl rfl rfl rfl rfl rfl rfl ?_; clear h a; intro a h
  refine st_pick_t h rfl rfl rfl rfl ?_; clear h a; intro a h
  replace h : Ag a 27 [(1, _), (10, _)] := h.sub (.cons rfl (.cons rfl .nil))
  refine wnt ?_
  refine cond_true h rfl ?_
  refine wp_seq ?_
  refine wR ?_
  refine st_assign h rfl rfl ?_; clear h a; intro a h
  replace h : Ag a 27 [(2, _)] := h.sub (.cons rfl .nil)
  refine wnt ?_
  refine wp_ret (ret_then ?_)
  refine ret1 h Tryd.results72 rfl ?_
  exact ⟨_, rfl, by first | rw [needs_0 (.inl (fun e => by rw [if_pos e] at g0; omega))] | rw [needs_0 (.inr c0)] | rw [needs_8 hc c1] | rw [needs_2 hc (by omega)] | rw [needs_1 hc (by omega) (by omega) (by omega)], hf⟩
 ·clear h; intro g0 h
  refine gd_yes h rfl rfl rfl rfl rfl rfl ?_
  refine st_fieldAddr h rfl fa100_0 rfl ?_; clear h a; intro a h
  refine gd_yes h rfl rfl rfl rfl rfl rfl ?_
  refine st_loadB h rfl hb1 rfl na87 rfl ?_; clear h a; intro a h
  refine gd_yes h rfl rfl rfl rfl rfl rfl ?_
  refine st_eq h rfl rfl rfl ?_; clear h a; intro a h
  refine st_pick_f h rfl rfl rfl rfl ?_; clear h a; intro a h
  replace h : Ag a 27 [(1, _), (10, _)] := h.sub (.cons rfl (.cons rfl .nil))
  refine wnt ?_
  first | refine cond_dec h rfl (fun c0 => ?_) (fun c0 => ?_) | refine cond_ndec h rfl (fun c0 => ?_) (fun c0 => ?_) | refine cond_split h rfl (fun c0 => ?_) (fun c0 => ?_)
  ·refine id ?_
   refine wp_seq ?_
   refine wR ?_
   refine st_assign h rfl rfl ?_; clear h a; intro a h
   replace h : Ag a 27 [(2, _)] := h.sub (.cons rfl .nil)
   refine wnt ?_
   refine wp_ret (ret_then ?_)
   refine ret1 h Tryd.results72 rfl ?_
   exact ⟨_, rfl, by first | rw [needs_0 (.inl (fun e => by rw [if_pos e] at g0; omega))] | rw [needs_0 (.inr c0)] | rw [needs_8 hc c1] | rw [needs_2 hc (by omega)] | rw [needs_1 hc (by omega) (by omega) (by omega)], hf⟩
  ·have hc : checkS s = 0 := Decidable.not_not.1 fun e => g0 (if_neg e)
   refine wsn ?_
   refine wp_seq ?_
   refine wp_seq ?_
   refine wR ?_
   refine st_fieldAddr h rfl fa100_0 rfl ?_; clear h a; intro a h
   refine st_loadB h rfl hb1 rfl na87 rfl ?_; clear h a; intro a h
   refine st_eq h rfl rfl rfl ?_; clear h a; intro a h
   replace h : Ag a 27 [(1, _), (13, _)] := h.sub (.cons rfl (.cons rfl .nil))
   refine wnt ?_
   first | refine cond_dec h rfl (fun c1 => ?_) (fun c1 => ?_) | refine cond_ndec h rfl (fun c1 => ?_) (fun c1 => ?_) | refine cond_split h rfl (fun c1 => ?_) (fun c1 => ?_)
   ·have h8 := (check_rng hc).2.2.2.2.2 c1
    refine wp_seq ?_
    refine wR ?_
    refine st_fieldAddr h rfl fa100_2 rfl ?_; clear h a; intro a h
    refine st_loadB h rfl hb1 rfl na3 rfl ?_; clear h a; intro a h
    refine st_fieldAddr h rfl fa100_3 rfl ?_; clear h a; intro a h
    refine st_loadB h rfl hb1 rfl na3 rfl ?_; clear h a; intro a h
    refine st_add h rfl rfl (by first | exact IntWalk.i64_in _ (by omega) | rfl) rfl ?_; clear h a; intro a h
    refine st_assign h rfl rfl ?_; clear h a; intro a h
    replace h : Ag a 27 [(2, _)] := h.sub (.cons rfl .nil)
    refine wnt ?_
    refine wp_ret (ret_then ?_)
    refine ret1 h Tryd.results72 rfl ?_
    exact ⟨_, rfl, by first | rw [needs_0 (.inl (fun e => by rw [if_pos e] at g0; omega))] | rw [needs_0 (.inr c0)] | rw [needs_8 hc c1] | rw [needs_2 hc (by omega)] | rw [needs_1 hc (by omega) (by omega) (by omega)], hf⟩
   ·refine id ?_
    refine wsn ?_
    refine wp_seq ?_
    refine wp_seq ?_
    refine wR ?_
    refine st_fieldAddr h rfl fa100_0 rfl ?_; clear h a; intro a h
    refine st_loadB h rfl hb1 rfl na87 rfl ?_; clear h a; intro a h
    refine st_eq h rfl rfl rfl ?_; clear h a; intro a h
    refine st_move h rfl rfl ?_; clear h a; intro a h
    first | refine guard_dec (D := 22) h rfl ?_ ?_ | refine guard_ndec (D := 22) h rfl ?_ ?_ | refine guard_any (D := 22) h rfl ?_ ?_
    ·clear h; intro g1 h
     refine gd_no h rfl rfl rfl rfl rfl rfl rfl rfl ?_; clear h a; intro a h
     refine gd_no h rfl rfl rfl rfl rfl rfl rfl rfl ?_; clear h a; intro a h
     refine gd_no h rfl rfl rfl rfl rfl rfl rfl rfl ?_; clear h a; intro a h
     refine st_pick_t h rfl rfl rfl rfl ?_; clear h a; intro a h
     replace h : Ag a 27 [(26, _)] := h.sub (.cons rfl .nil)
     refine wnt ?_
     refine cond_true h rfl ?_
     refine wp_seq ?_
     refine wR ?_
     refine st_assign h rfl rfl ?_; clear h a; intro a h
     replace h : Ag a 27 [(2, _)] := h.sub (.cons rfl .nil)
     refine wnt ?_
     refine wp_ret (ret_then ?_)
     refine ret1 h Tryd.results72 rfl ?_
     exact ⟨_, rfl, by first | rw [needs_0 (.inl (fun e => by rw [if_pos e] at g0; omega))] | rw [needs_0 (.inr c0)] | rw [needs_8 hc c1] | rw [needs_2 hc (by omega)] | rw [needs_1 hc (by omega) (by omega) (by omega)], hf⟩
    ·clear h; intro g1 h
     refine gd_yes h rfl rfl rfl rfl rfl rfl ?_
     refine st_fieldAddr h rfl fa100_0 rfl ?_; clear h a; intro a h
     refine gd_yes h rfl rfl rfl rfl rfl rfl ?_
     refine st_loadB h rfl hb1 rfl na87 rfl ?_; clear h a; intro a h
     refine gd_yes h rfl rfl rfl rfl rfl rfl ?_
     refine st_eq h rfl rfl rfl ?_; clear h a; intro a h
     refine st_pick_f h rfl rfl rfl rfl ?_; clear h a; intro a h
     replace h : Ag a 27 [(26, _)] := h.sub (.cons rfl .nil)
     refine wnt ?_
     first | refine cond_dec h rfl (fun c2 => ?_) (fun c2 => ?_) | refine cond_ndec h rfl (fun c2 => ?_) (fun c2 => ?_) | refine cond_split h rfl (fun c2 => ?_) (fun c2 => ?_)
     ·refine id ?_
      refine wp_seq ?_
      refine wR ?_
      refine st_assign h rfl rfl ?_; clear h a; intro a h
      replace h : Ag a 27 [(2, _)] := h.sub (.cons rfl .nil)
      refine wnt ?_
      refine wp_ret (ret_then ?_)
      refine ret1 h Tryd.results72 rfl ?_
      exact ⟨_, rfl, by first | rw [needs_0 (.inl (fun e => by rw [if_pos e] at g0; omega))] | rw [needs_0 (.inr c0)] | rw [needs_8 hc c1] | rw [needs_2 hc (by omega)] | rw [needs_1 hc (by omega) (by omega) (by omega)], hf⟩
     ·refine id ?_
      refine wsn ?_
      refine wp_seq ?_
      refine wR ?_
      refine st_assign h rfl rfl ?_; clear h a; intro a h
      replace h : Ag a 27 [(2, _)] := h.sub (.cons rfl .nil)
      refine wnt ?_
      refine wp_ret ?_
      refine ret1 h Tryd.results72 rfl ?_
      exact ⟨_, rfl, by first | rw [needs_0 (.inl (fun e => by rw [if_pos e] at g0; omega))] | rw [needs_0 (.inr c0)] | rw [needs_8 hc c1] | rw [needs_2 hc (by omega)] | rw [needs_1 hc (by omega) (by omega) (by omega)], hf⟩
theorem refmakes_ok (s : Stitch) (w0 : World) (hk : 0 ≤ s.k) (hy : 0 ≤ s.y) : Rets Tryd.prog 85 #[stV s] w0 fun v w' => v = .int .i64 (makesS s) ∧ Fr [] w0 w' := by
 refine enter [(0, stV s)] Tryd.func85 rfl Tryd.ntmps85 rfl (.cons rfl .nil) ?_
 have hf := Fr.refl [] w0
 intro a h
 refine wp_seq ?_
 refine wR ?_
 refine st_box h rfl rfl rfl ?_; clear h a; intro w1 hb1 hq hz a h
 obtain ⟨g_1, hg⟩ : ∃ g, g = w0.heap.size := ⟨_, rfl⟩; rw [← hg] at hb1 h hz
 have hl1 : w0.heap.size ≤ g_1 := by have := hf.size; omega
 replace hf := hf.next hq
 clear hq hz hg
 refine st_assign h rfl rfl ?_; clear h a; intro a h
 replace h : Ag a 14 [(1, _)] := h.sub (.cons rfl .nil)
 refine wnt ?_
 refine wp_seq ?_
 refine wp_seq ?_
 refine wR ?_
 refine st_loadBA h rfl hb1 ag100 rfl ?_; clear h a; intro a h
 refine st_call h (evs_cons rfl evs_nil) co42 (valid_ok s _ hk hy) rfl ?_; clear h a; rintro _ w2 ⟨rfl, hq⟩ a h
 replace hf := hf.next hq
 replace hb1 := hb1.ext hq
 clear hq
 refine st_eq h rfl rfl rfl ?_; clear h a; intro a h
 replace h : Ag a 14 [(1, _), (5, _)] := h.sub (.cons rfl (.cons rfl .nil))
 refine wnt ?_
 first | refine cond_dec h rfl (fun c0 => ?_) (fun c0 => ?_) | refine cond_ndec h rfl (fun c0 => ?_) (fun c0 => ?_) | refine cond_split h rfl (fun c0 => ?_) (fun c0 => ?_)
 ·have hc : checkS s ≠ 0 := fun e => by rw [if_pos e] at c0; omega
  refine wp_seq ?_
  refine wR ?_
  refine st_assign h rfl rfl ?_; clear h a; intro a h
  replace h : Ag a 14 [(2, _)] := h.sub (.cons rfl .nil)
  refine wnt ?_
  refine wp_ret (ret_then ?_)
  refine ret1 h Tryd.results85 rfl ?_
  exact ⟨_, rfl, by first | rw [makes_0 hc] | rw [makes_8 hc c1] | rw [makes_1 hc c1], hf⟩
 ·have hc : checkS s = 0 := Decidable.not_not.1 fun e => c0 (if_neg e)
  refine wsn ?_
  refine wp_seq ?_
  refine wp_seq ?_
  refine wR ?_
  refine st_fieldAddr h rfl fa100_0 rfl ?_; clear h a; intro a h
  refine st_loadB h rfl hb1 rfl na87 rfl ?_; clear h a; intro a h
  refine st_eq h rfl rfl rfl ?_; clear h a; intro a h
  replace h : Ag a 14 [(1, _), (8, _)] := h.sub (.cons rfl (.cons rfl .nil))
  refine wnt ?_
  first | refine cond_dec h rfl (fun c1 => ?_) (fun c1 => ?_) | refine cond_ndec h rfl (fun c1 => ?_) (fun c1 => ?_) | refine cond_split h rfl (fun c1 => ?_) (fun c1 => ?_)
  ·have h8 := (check_rng hc).2.2.2.2.2 c1
   refine wp_seq ?_
   refine wR ?_
   refine st_fieldAddr h rfl fa100_2 rfl ?_; clear h a; intro a h
   refine st_loadB h rfl hb1 rfl na3 rfl ?_; clear h a; intro a h
   refine st_fieldAddr h rfl fa100_3 rfl ?_; clear h a; intro a h
   refine st_loadB h rfl hb1 rfl na3 rfl ?_; clear h a; intro a h
   refine st_add h rfl rfl (by first | exact IntWalk.i64_in _ (by omega) | rfl) rfl ?_; clear h a; intro a h
   refine st_assign h rfl rfl ?_; clear h a; intro a h
   replace h : Ag a 14 [(2, _)] := h.sub (.cons rfl .nil)
   refine wnt ?_
   refine wp_ret (ret_then ?_)
   refine ret1 h Tryd.results85 rfl ?_
   exact ⟨_, rfl, by first | rw [makes_0 hc] | rw [makes_8 hc c1] | rw [makes_1 hc c1], hf⟩
  ·refine id ?_
   refine wsn ?_
   refine wp_seq ?_
   refine wR ?_
   refine st_assign h rfl rfl ?_; clear h a; intro a h
   replace h : Ag a 14 [(2, _)] := h.sub (.cons rfl .nil)
   refine wnt ?_
   refine wp_ret ?_
   refine ret1 h Tryd.results85 rfl ?_
   exact ⟨_, rfl, by first | rw [makes_0 hc] | rw [makes_8 hc c1] | rw [makes_1 hc c1], hf⟩
theorem refloads_ok (s : Stitch) (u : Value) (l : List Int) (w0 : World) (hk : 0 ≤ s.k) (hy : 0 ≤ s.y) (hu : Sl Enc.i64 w0 u l) : Rets Tryd.prog 73 #[stV s, u] w0 fun v w' => ∃ r, v = .tuple #[r, .int .i64 (loadsS s l).2] ∧ Lw.Own Enc.i64 3 w0.heap.size w' r (loadsS s l).1 ∧ Fr [] w0 w' := by
 obtain ⟨A, c, rfl, hcp⟩ := hu.form
 obtain ⟨-, -, hM, hA⟩ := Sl.open_ hu
 unfold maxLen at hM
 have hmk := makes_rng s
 refine enter [(0, stV s), (1, .slice A l.length c)] Tryd.func73 rfl Tryd.ntmps73 rfl (.cons rfl (.cons rfl .nil)) ?_
 have hf := Fr.refl [] w0
 intro a h
 refine wp_seq ?_
 refine wR ?_
 refine st_box h rfl rfl rfl ?_; clear h a; intro w1 hb2 hq hz a h
 obtain ⟨g_2, hg⟩ : ∃ g, g = w0.heap.size := ⟨_, rfl⟩; rw [← hg] at hb2 h hz
 have hl2 : w0.heap.size ≤ g_2 := by have := hf.size; omega
 replace hf := hf.next hq
 clear hq hz hg
 refine st_assign h rfl rfl ?_; clear h a; intro a h
 refine st_assign h rfl rfl ?_; clear h a; intro a h
 replace h : Ag a 88 [(1, _), (2, _)] := h.sub (.cons rfl (.cons rfl .nil))
 refine wnt ?_
 refine wp_seq ?_
 refine wp_seq ?_
 refine wR ?_
 refine st_loadBA h rfl hb2 ag100 rfl ?_; clear h a; intro a h
 refine st_call h (evs_cons rfl evs_nil) co42 (valid_ok s _ hk hy) rfl ?_; clear h a; rintro _ w2 ⟨rfl, hq⟩ a h
 replace hf := hf.next hq
 replace hb2 := hb2.ext hq
 clear hq
 refine st_eq h rfl rfl rfl ?_; clear h a; intro a h
 replace h : Ag a 88 [(1, _), (2, _), (11, _)] := h.sub (.cons rfl (.cons rfl (.cons rfl .nil)))
 refine wnt ?_
 first | refine cond_dec h rfl (fun c0 => ?_) (fun c0 => ?_) | refine cond_ndec h rfl (fun c0 => ?_) (fun c0 => ?_) | refine cond_split h rfl (fun c0 => ?_) (fun c0 => ?_)
 ·have hc : checkS s ≠ 0 := fun e => by rw [if_pos e] at c0; omega
  refine wp_seq ?_
  refine wR ?_
  refine st_assign h rfl rfl ?_; clear h a; intro a h
  refine st_assign h rfl rfl ?_; clear h a; intro a h
  replace h : Ag a 88 [(4, _), (5, _)] := h.sub (.cons rfl (.cons rfl .nil))
  refine wnt ?_
  refine wp_ret (ret_then ?_)
  refine ret2 h Tryd.results73 rfl rfl ?_
  rw [loads_1 hc]; exact ⟨_, rfl, _, rfl, Own.nil _, hf⟩
 ·have hc : checkS s = 0 := Decidable.not_not.1 fun e => c0 (if_neg e)
  refine wsn ?_
  refine wp_seq ?_
  refine wp_seq ?_
  refine wR ?_
  refine st_move h rfl rfl ?_; clear h a; intro a h
  refine st_lenS h rfl Tryd.underlying30 rfl ?_; clear h a; intro a h
  refine st_loadBA h rfl hb2 ag100 rfl ?_; clear h a; intro a h
  refine st_call h (evs_cons rfl evs_nil) co72 (refneeds_ok s _ hk hy) rfl ?_; clear h a; rintro _ w3 ⟨rfl, hq⟩ a h
  replace hf := hf.next hq
  replace hb2 := hb2.ext hq
  clear hq
  refine st_ne h rfl rfl rfl ?_; clear h a; intro a h
  replace h : Ag a 88 [(1, _), (2, _), (16, _)] := h.sub (.cons rfl (.cons rfl (.cons rfl .nil)))
  refine wnt ?_
  first | refine cond_dec h rfl (fun c1 => ?_) (fun c1 => ?_) | refine cond_ndec h rfl (fun c1 => ?_) (fun c1 => ?_) | refine cond_split h rfl (fun c1 => ?_) (fun c1 => ?_)
  ·refine id ?_
   refine wp_seq ?_
   refine wR ?_
   refine st_assign h rfl rfl ?_; clear h a; intro a h
   refine st_assign h rfl rfl ?_; clear h a; intro a h
   replace h : Ag a 88 [(4, _), (5, _)] := h.sub (.cons rfl (.cons rfl .nil))
   refine wnt ?_
   refine wp_ret (ret_then ?_)
   refine ret2 h Tryd.results73 rfl rfl ?_
   rw [loads_5 hc c1]; exact ⟨_, rfl, _, rfl, Own.nil _, hf⟩
  ·have hn : (l.length : Int) = needsS s := Decidable.not_not.1 c1
   refine wsn ?_
   refine wp_seq ?_
   refine wp_seq ?_
   refine wR ?_
   refine st_assign h rfl rfl ?_; clear h a; intro a h
   replace h : Ag a 88 [(1, _), (2, _), (6, _)] := h.sub (.cons rfl (.cons rfl (.cons rfl .nil)))
   refine wnt ?_
   refine wp_block ?_
   refine loop (ι := Nat) (fun k => [(1, .slice A l.length c), (2, .pointer (some ⟨g_2, 0, none⟩)), (6, .int .i64 (k : Int))]) (fun k w' => k ≤ l.length ∧ (l.take k).all few = true ∧ Blk w' g_2 100 [.int .u8 s.k, .int .u8 s.y, .int .i64 s.a, .int .i64 s.b, .bool s.f] ∧ Fr [] w0 w') (fun k => l.length - k) 0 (h.sub (.cons rfl (.cons rfl (.cons rfl .nil)))) ⟨by omega, rfl, hb2, hf⟩ ?_
   clear h a hb2 hf
   rintro k w4 a h ⟨hkl, ha, hb2, hf⟩
   refine wp_seq ?_
   refine wp_seq ?_
   refine wR ?_
   refine st_move h rfl rfl ?_; clear h a; intro a h
   refine st_move h rfl rfl ?_; clear h a; intro a h
   refine st_lenS h rfl Tryd.underlying30 rfl ?_; clear h a; intro a h
   refine st_lt h rfl rfl rfl ?_; clear h a; intro a h
   replace h : Ag a 88 [(1, _), (2, _), (6, _), (20, _)] := h.sub (.cons rfl (.cons rfl (.cons rfl (.cons rfl .nil))))
   refine wnt ?_
   first | refine cond_dec h rfl (fun c2 => ?_) (fun c2 => ?_) | refine cond_ndec h rfl (fun c2 => ?_) (fun c2 => ?_) | refine cond_split h rfl (fun c2 => ?_) (fun c2 => ?_)
   ·obtain ⟨x, hxx⟩ : ∃ x, l[k]? = some x := ⟨_, List.getElem?_eq_getElem (by omega)⟩
    obtain ⟨ad, hAx, ca⟩ := hA _ x hxx
    refine wsn ?_
    refine wp_seq ?_
    refine wp_block ?_
    refine wp_seq ?_
    refine region_bool (r := 41) (L' := [(1, _), (2, _), (6, _)]) (¬ (1 ≤ x ∧ x ≤ 3)) h (.cons rfl (.cons rfl (.cons rfl .nil))) ?_ ?_
    ·refine id ?_
     refine st_move h rfl rfl ?_; clear h a; intro a h
     refine st_move h rfl rfl ?_; clear h a; intro a h
     refine st_idxS h (by rw [hAx]; rfl) rfl el30 (by omega) (by omega) rfl rfl ?_; clear h a; intro a h
     refine st_loadC0 h rfl (ca.fr hf (by simp)) na3 rfl ?_; clear h a; intro a h
     refine st_ne h rfl rfl rfl ?_; clear h a; intro a h
     refine st_move h rfl rfl ?_; clear h a; intro a h
     first | refine guard_dec (D := 28) h rfl ?_ ?_ | refine guard_ndec (D := 28) h rfl ?_ ?_ | refine guard_any (D := 28) h rfl ?_ ?_
     ·clear h; intro g0 h
      refine gd_yes h rfl rfl rfl rfl rfl rfl ?_
      refine st_move h rfl rfl ?_; clear h a; intro a h
      refine gd_yes h rfl rfl rfl rfl rfl rfl ?_
      refine st_move h rfl rfl ?_; clear h a; intro a h
      refine gd_yes h rfl rfl rfl rfl rfl rfl ?_
      refine st_idxS h (by rw [hAx]; rfl) rfl el30 (by omega) (by omega) rfl rfl ?_; clear h a; intro a h
      refine gd_yes h rfl rfl rfl rfl rfl rfl ?_
      refine st_loadC0 h rfl (ca.fr hf (by simp)) na3 rfl ?_; clear h a; intro a h
      refine gd_yes h rfl rfl rfl rfl rfl rfl ?_
      refine st_ne h rfl rfl rfl ?_; clear h a; intro a h
      refine st_pick_t h rfl rfl rfl rfl ?_; clear h a; intro a h
      refine st_move h rfl rfl ?_; clear h a; intro a h
      first | refine guard_dec (D := 35) h rfl ?_ ?_ | refine guard_ndec (D := 35) h rfl ?_ ?_ | refine guard_any (D := 35) h rfl ?_ ?_
      ·clear h; intro g1 h
       refine gd_yes h rfl rfl rfl rfl rfl rfl ?_
       refine st_move h rfl rfl ?_; clear h a; intro a h
       refine gd_yes h rfl rfl rfl rfl rfl rfl ?_
       refine st_move h rfl rfl ?_; clear h a; intro a h
       refine gd_yes h rfl rfl rfl rfl rfl rfl ?_
       refine st_idxS h (by rw [hAx]; rfl) rfl el30 (by omega) (by omega) rfl rfl ?_; clear h a; intro a h
       refine gd_yes h rfl rfl rfl rfl rfl rfl ?_
       refine st_loadC0 h rfl (ca.fr hf (by simp)) na3 rfl ?_; clear h a; intro a h
       refine gd_yes h rfl rfl rfl rfl rfl rfl ?_
       refine st_ne h rfl rfl rfl ?_; clear h a; intro a h
       refine st_pick_t h rfl rfl rfl rfl ?_; clear h a; intro a h
       exact wpList_nil (bool_end h rfl (by first | exact bt (by omega) | exact bf (by omega) | exact bi (by omega) | exact bn (by omega)) (.cons rfl (.cons rfl (.cons rfl .nil))))
      ·clear h; intro g1 h
       refine gd_no h rfl rfl rfl rfl rfl rfl rfl rfl ?_; clear h a; intro a h
       refine gd_no h rfl rfl rfl rfl rfl rfl rfl rfl ?_; clear h a; intro a h
       refine gd_no h rfl rfl rfl rfl rfl rfl rfl rfl ?_; clear h a; intro a h
       refine gd_no h rfl rfl rfl rfl rfl rfl rfl rfl ?_; clear h a; intro a h
       refine gd_no h rfl rfl rfl rfl rfl rfl rfl rfl ?_; clear h a; intro a h
       refine st_pick_f h rfl rfl rfl rfl ?_; clear h a; intro a h
       exact wpList_nil (bool_end h rfl (by first | exact bt (by omega) | exact bf (by omega) | exact bi (by omega) | exact bn (by omega)) (.cons rfl (.cons rfl (.cons rfl .nil))))
     ·clear h; intro g0 h
      refine gd_no h rfl rfl rfl rfl rfl rfl rfl rfl ?_; clear h a; intro a h
      refine gd_no h rfl rfl rfl rfl rfl rfl rfl rfl ?_; clear h a; intro a h
      refine gd_no h rfl rfl rfl rfl rfl rfl rfl rfl ?_; clear h a; intro a h
      refine gd_no h rfl rfl rfl rfl rfl rfl rfl rfl ?_; clear h a; intro a h
      refine gd_no h rfl rfl rfl rfl rfl rfl rfl rfl ?_; clear h a; intro a h
      refine st_pick_f h rfl rfl rfl rfl ?_; clear h a; intro a h
      refine st_move h rfl rfl ?_; clear h a; intro a h
      refine gd_no h rfl rfl rfl rfl rfl rfl rfl rfl ?_; clear h a; intro a h
      refine gd_no h rfl rfl rfl rfl rfl rfl rfl rfl ?_; clear h a; intro a h
      refine gd_no h rfl rfl rfl rfl rfl rfl rfl rfl ?_; clear h a; intro a h
      refine gd_no h rfl rfl rfl rfl rfl rfl rfl rfl ?_; clear h a; intro a h
      refine gd_no h rfl rfl rfl rfl rfl rfl rfl rfl ?_; clear h a; intro a h
      refine st_pick_f h rfl rfl rfl rfl ?_; clear h a; intro a h
      exact wpList_nil (bool_end h rfl (by first | exact bt (by omega) | exact bf (by omega) | exact bi (by omega) | exact bn (by omega)) (.cons rfl (.cons rfl (.cons rfl .nil))))
    ·clear h a; intro a h
     refine (norm_then ?_)
     first | refine cond_dec h rfl (fun c3 => ?_) (fun c3 => ?_) | refine cond_ndec h rfl (fun c3 => ?_) (fun c3 => ?_) | refine cond_split h rfl (fun c3 => ?_) (fun c3 => ?_)
     ·refine id ?_
      refine wp_seq ?_
      refine wR ?_
      refine st_assign h rfl rfl ?_; clear h a; intro a h
      refine st_assign h rfl rfl ?_; clear h a; intro a h
      replace h : Ag a 88 [(4, _), (5, _)] := h.sub (.cons rfl (.cons rfl .nil))
      refine wnt ?_
      refine wp_ret (ret_blk (ret_then (ret_then (ret_blk (ret_then ?_)))))
      refine ret2 h Tryd.results73 rfl rfl ?_
      rw [loads_b hc hn hxx c3]; exact ⟨_, rfl, _, rfl, Own.nil _, hf⟩
     ·refine id ?_
      refine wp_skip (norm_blk (norm_then ?_))
      refine wR ?_
      refine st_move h rfl rfl ?_; clear h a; intro a h
      refine st_add h rfl rfl (by first | exact IntWalk.i64_in _ (by omega) | rfl) rfl ?_; clear h a; intro a h
      refine st_assign h rfl rfl ?_; clear h a; intro a h
      replace h : Ag a 88 [(1, _), (2, _), (6, _)] := h.sub (.cons rfl (.cons rfl (.cons rfl .nil)))
      refine wnt ?_
      exact ⟨k + 1, h.sub (.cons rfl (.cons rfl (.cons rfl .nil))), ⟨by omega, all_few_next ha hxx (by omega), hb2, hf⟩, by omega⟩
   ·obtain rfl : k = l.length := by omega
    rw [List.take_length] at ha
    refine wp_exit (exit_then (exit_then (exit_here (norm_then ?_))))
    refine wp_seq ?_
    refine wp_seq ?_
    refine region_bool (r := 49) (L' := [(1, _), (2, _)]) (s.k = 4 ∨ s.k = 5) h (.cons rfl (.cons rfl .nil)) ?_ ?_
    ·refine id ?_
     refine st_fieldAddr h rfl fa100_0 rfl ?_; clear h a; intro a h
     refine st_loadB h rfl hb2 rfl na87 rfl ?_; clear h a; intro a h
     refine st_eq h rfl rfl rfl ?_; clear h a; intro a h
     refine st_move h rfl rfl ?_; clear h a; intro a h
     first | refine guard_dec (D := 45) h rfl ?_ ?_ | refine guard_ndec (D := 45) h rfl ?_ ?_ | refine guard_any (D := 45) h rfl ?_ ?_
     ·clear h; intro g2 h
      refine gd_no h rfl rfl rfl rfl rfl rfl rfl rfl ?_; clear h a; intro a h
      refine gd_no h rfl rfl rfl rfl rfl rfl rfl rfl ?_; clear h a; intro a h
      refine gd_no h rfl rfl rfl rfl rfl rfl rfl rfl ?_; clear h a; intro a h
      refine st_pick_t h rfl rfl rfl rfl ?_; clear h a; intro a h
      exact wpList_nil (bool_end h rfl (by first | exact bt (by omega) | exact bf (by omega) | exact bi (by omega) | exact bn (by omega)) (.cons rfl (.cons rfl .nil)))
     ·clear h; intro g2 h
      refine gd_yes h rfl rfl rfl rfl rfl rfl ?_
      refine st_fieldAddr h rfl fa100_0 rfl ?_; clear h a; intro a h
      refine gd_yes h rfl rfl rfl rfl rfl rfl ?_
      refine st_loadB h rfl hb2 rfl na87 rfl ?_; clear h a; intro a h
      refine gd_yes h rfl rfl rfl rfl rfl rfl ?_
      refine st_eq h rfl rfl rfl ?_; clear h a; intro a h
      refine st_pick_f h rfl rfl rfl rfl ?_; clear h a; intro a h
      exact wpList_nil (bool_end h rfl (by first | exact bt (by omega) | exact bf (by omega) | exact bi (by omega) | exact bn (by omega)) (.cons rfl (.cons rfl .nil)))
    ·clear h a; intro a h
     refine (norm_then ?_)
     first | refine cond_dec h rfl (fun c4 => ?_) (fun c4 => ?_) | refine cond_ndec h rfl (fun c4 => ?_) (fun c4 => ?_) | refine cond_split h rfl (fun c4 => ?_) (fun c4 => ?_)
     ·have h4 : s.k = 4 ∨ s.k = 5 := by omega
      have hn2 := needs_2 hc h4
      obtain ⟨x, hxx⟩ : ∃ x, l[0]? = some x := ⟨_, List.getElem?_eq_getElem (by omega)⟩
      obtain ⟨ad, hAx, ca⟩ := hA _ x hxx
      obtain ⟨y, hxy⟩ : ∃ x, l[1]? = some x := ⟨_, List.getElem?_eq_getElem (by omega)⟩
      obtain ⟨bd, hAy, cb⟩ := hA _ y hxy
      have hfx := (few_iff x).1 (List.all_eq_true.1 ha x (List.mem_of_getElem? hxx))
      have hfy := (few_iff y).1 (List.all_eq_true.1 ha y (List.mem_of_getElem? hxy))
      refine wp_seq ?_
      refine wp_seq ?_
      refine region_quiet hmix (by kernel_rfl) ?_
      refine qt_move h rfl rfl ?_; clear h a; intro a h
      refine qt_idxS (p := 0) h (by rw [hAx]; rfl) rfl el30 (by omega) (by omega) (by omega) rfl ?_; clear h a; intro a h
      refine qt_loadC0 h rfl (fun _ hw => (ca.fr hf (by simp)).fr hw (by simp)) na3 rfl ?_; clear h a; intro a h
      refine qt_move h rfl rfl ?_; clear h a; intro a h
      refine qt_idxS (p := 1) h (by rw [hAy]; rfl) rfl el30 (by omega) (by omega) (by omega) rfl ?_; clear h a; intro a h
      refine qt_loadC0 h rfl (fun _ hw => (cb.fr hf (by simp)).fr hw (by simp)) na3 rfl ?_; clear h a; intro a h
      refine qt_add h rfl rfl (by first | exact IntWalk.i64_in _ (by omega) | rfl) rfl ?_; clear h a; intro a h
      refine qt_gt h rfl rfl rfl ?_; clear h a; intro a h
      refine wpQuiet_nil ?_
      intro w5 hq
      replace hf := hf.next hq
      replace hb2 := hb2.ext hq
      clear hq
      replace h : Ag a 88 [(57, _)] := h.sub (.cons rfl .nil)
      refine (norm_then ?_)
      first | refine cond_dec h rfl (fun c5 => ?_) (fun c5 => ?_) | refine cond_ndec h rfl (fun c5 => ?_) (fun c5 => ?_) | refine cond_split h rfl (fun c5 => ?_) (fun c5 => ?_)
      ·refine id ?_
       refine wp_seq ?_
       refine wR ?_
       refine st_assign h rfl rfl ?_; clear h a; intro a h
       refine st_assign h rfl rfl ?_; clear h a; intro a h
       replace h : Ag a 88 [(4, _), (5, _)] := h.sub (.cons rfl (.cons rfl .nil))
       refine wnt ?_
       refine wp_ret (ret_then (ret_then ?_))
       refine ret2 h Tryd.results73 rfl rfl ?_
       rw [loads_2f hc hn ha h4 hxx hxy c5]; exact ⟨_, rfl, _, rfl, Own.nil _, hf⟩
      ·refine id ?_
       refine wsn ?_
       refine wp_seq ?_
       refine wR ?_
       refine st_bslice [(1 : Int)] h (evs_cons rfl evs_nil) rfl rfl rfl el30 (by decide) rfl ?_; clear h a; intro gN w6 hg hoN hq hz a h
       have hlN : w0.heap.size ≤ gN := by have := hf.size; omega
       replace hf := hf.next hq
       replace hb2 := hb2.ext hq
       clear hq hz hg
       refine st_assign h rfl rfl ?_; clear h a; intro a h
       refine st_assign h rfl rfl ?_; clear h a; intro a h
       replace h : Ag a 88 [(4, _), (5, _)] := h.sub (.cons rfl (.cons rfl .nil))
       refine wnt ?_
       refine wp_ret (ret_then ?_)
       refine ret2 h Tryd.results73 rfl rfl ?_
       rw [loads_2 hc hn ha h4 hxx hxy c5]; exact ⟨_, rfl, _, rfl, hoN.low hlN, hf⟩
     ·have h4 : ¬ (s.k = 4 ∨ s.k = 5) := by omega
      refine wsn ?_
      refine wp_seq ?_
      refine wp_seq ?_
      refine wR ?_
      refine st_fieldAddr h rfl fa100_0 rfl ?_; clear h a; intro a h
      refine st_loadB h rfl hb2 rfl na87 rfl ?_; clear h a; intro a h
      refine st_eq h rfl rfl rfl ?_; clear h a; intro a h
      replace h : Ag a 88 [(1, _), (2, _), (61, _)] := h.sub (.cons rfl (.cons rfl (.cons rfl .nil)))
      refine wnt ?_
      first | refine cond_dec h rfl (fun c6 => ?_) (fun c6 => ?_) | refine cond_ndec h rfl (fun c6 => ?_) (fun c6 => ?_) | refine cond_split h rfl (fun c6 => ?_) (fun c6 => ?_)
      ·have hn1 := needs_1 hc (by omega) (by omega) h4
       obtain ⟨x, hxx⟩ : ∃ x, l[0]? = some x := ⟨_, List.getElem?_eq_getElem (by omega)⟩
       obtain ⟨ad, hAx, ca⟩ := hA _ x hxx
       have hfx := (few_iff x).1 (List.all_eq_true.1 ha x (List.mem_of_getElem? hxx))
       refine wp_seq ?_
       refine wp_seq ?_
       refine wR ?_
       refine st_move h rfl rfl ?_; clear h a; intro a h
       refine st_idxS (p := 0) h (by rw [hAx]; rfl) rfl el30 (by omega) (by omega) (by omega) rfl ?_; clear h a; intro a h
       refine st_loadC0 h rfl (ca.fr hf (by simp)) na3 rfl ?_; clear h a; intro a h
       refine st_eq h rfl rfl rfl ?_; clear h a; intro a h
       replace h : Ag a 88 [(1, _), (65, _)] := h.sub (.cons rfl (.cons rfl .nil))
       refine wnt ?_
       first | refine cond_dec h rfl (fun c7 => ?_) (fun c7 => ?_) | refine cond_ndec h rfl (fun c7 => ?_) (fun c7 => ?_) | refine cond_split h rfl (fun c7 => ?_) (fun c7 => ?_)
       ·refine id ?_
        refine wp_seq ?_
        refine wR ?_
        refine st_assign h rfl rfl ?_; clear h a; intro a h
        refine st_assign h rfl rfl ?_; clear h a; intro a h
        replace h : Ag a 88 [(4, _), (5, _)] := h.sub (.cons rfl (.cons rfl .nil))
        refine wnt ?_
        refine wp_ret (ret_then (ret_then ?_))
        refine ret2 h Tryd.results73 rfl rfl ?_
        rw [loads_6f hc hn ha c6 hxx c7]; exact ⟨_, rfl, _, rfl, Own.nil _, hf⟩
       ·refine id ?_
        refine wsn ?_
        refine wp_seq ?_
        refine wR ?_
        refine st_move h rfl rfl ?_; clear h a; intro a h
        refine st_idxS (p := 0) h (by rw [hAx]; rfl) rfl el30 (by omega) (by omega) (by omega) rfl ?_; clear h a; intro a h
        refine st_loadC0 h rfl (ca.fr hf (by simp)) na3 rfl ?_; clear h a; intro a h
        refine st_add h rfl rfl (by first | exact IntWalk.i64_in _ (by omega) | rfl) rfl ?_; clear h a; intro a h
        refine st_bslice [x + 1] h (evs_cons rfl evs_nil) rfl rfl rfl el30 (by decide) rfl ?_; clear h a; intro gN w7 hg hoN hq hz a h
        have hlN : w0.heap.size ≤ gN := by have := hf.size; omega
        replace hf := hf.next hq
        replace hb2 := hb2.ext hq
        clear hq hz hg
        refine st_assign h rfl rfl ?_; clear h a; intro a h
        refine st_assign h rfl rfl ?_; clear h a; intro a h
        replace h : Ag a 88 [(4, _), (5, _)] := h.sub (.cons rfl (.cons rfl .nil))
        refine wnt ?_
        refine wp_ret (ret_then ?_)
        refine ret2 h Tryd.results73 rfl rfl ?_
        rw [loads_6 hc hn ha c6 hxx c7]; exact ⟨_, rfl, _, rfl, hoN.low hlN, hf⟩
      ·refine id ?_
       refine wsn ?_
       refine wp_seq ?_
       refine wp_seq ?_
       refine wR ?_
       refine st_fieldAddr h rfl fa100_0 rfl ?_; clear h a; intro a h
       refine st_loadB h rfl hb2 rfl na87 rfl ?_; clear h a; intro a h
       refine st_eq h rfl rfl rfl ?_; clear h a; intro a h
       replace h : Ag a 88 [(1, _), (2, _), (73, _)] := h.sub (.cons rfl (.cons rfl (.cons rfl .nil)))
       refine wnt ?_
       first | refine cond_dec h rfl (fun c8 => ?_) (fun c8 => ?_) | refine cond_ndec h rfl (fun c8 => ?_) (fun c8 => ?_) | refine cond_split h rfl (fun c8 => ?_) (fun c8 => ?_)
       ·have hn1 := needs_1 hc (by omega) (by omega) h4
        obtain ⟨x, hxx⟩ : ∃ x, l[0]? = some x := ⟨_, List.getElem?_eq_getElem (by omega)⟩
        obtain ⟨ad, hAx, ca⟩ := hA _ x hxx
        refine wp_seq ?_
        refine wR ?_
        refine st_move h rfl rfl ?_; clear h a; intro a h
        refine st_idxS (p := 0) h (by rw [hAx]; rfl) rfl el30 (by omega) (by omega) (by omega) rfl ?_; clear h a; intro a h
        refine st_loadC0 h rfl (ca.fr hf (by simp)) na3 rfl ?_; clear h a; intro a h
        refine st_bslice [x] h (evs_cons rfl evs_nil) rfl rfl rfl el30 (by decide) rfl ?_; clear h a; intro gN w8 hg hoN hq hz a h
        have hlN : w0.heap.size ≤ gN := by have := hf.size; omega
        replace hf := hf.next hq
        replace hb2 := hb2.ext hq
        clear hq hz hg
        refine st_assign h rfl rfl ?_; clear h a; intro a h
        refine st_assign h rfl rfl ?_; clear h a; intro a h
        replace h : Ag a 88 [(4, _), (5, _)] := h.sub (.cons rfl (.cons rfl .nil))
        refine wnt ?_
        refine wp_ret (ret_then ?_)
        refine ret2 h Tryd.results73 rfl rfl ?_
        rw [loads_7 hc hn ha c8 hxx]; exact ⟨_, rfl, _, rfl, hoN.low hlN, hf⟩
       ·refine id ?_
        refine wsn ?_
        refine wp_seq ?_
        refine wR ?_
        refine st_assign h rfl rfl ?_; clear h a; intro a h
        replace h : Ag a 88 [(2, _), (7, _)] := h.sub (.cons rfl (.cons rfl .nil))
        refine wnt ?_
        refine wp_seq ?_
        refine wp_seq ?_
        refine wR ?_
        refine st_assign h rfl rfl ?_; clear h a; intro a h
        refine wnt ?_
        refine wp_block ?_
        refine loop (ι := Nat × Value) (fun z => [(2, .pointer (some ⟨g_2, 0, none⟩)), (7, z.2), (8, .int .i64 (z.1 : Int))]) (fun z w' => (z.1 : Int) ≤ makesS s ∧ Lw.Own Enc.i64 3 (g_2 + 1) w' z.2 (List.replicate z.1 1) ∧ Blk w' g_2 100 [.int .u8 s.k, .int .u8 s.y, .int .i64 s.a, .int .i64 s.b, .bool s.f] ∧ Fr [] w0 w') (fun z => (makesS s).toNat - z.1) (0, .slice none 0 0) (h.sub (.cons rfl (.cons rfl (.cons rfl .nil)))) ⟨by simp only; omega, Own.nil _, hb2, hf⟩ ?_
        clear h a hb2 hf
        rintro ⟨j, x⟩ w9 a h ⟨hj, ho, hb2, hf⟩
        simp only at hj ho h
        refine wp_seq ?_
        refine wp_seq ?_
        refine wR ?_
        refine st_move h rfl rfl ?_; clear h a; intro a h
        refine st_loadBA h rfl hb2 ag100 rfl ?_; clear h a; intro a h
        refine st_call h (evs_cons rfl evs_nil) co85 (refmakes_ok s _ hk hy) rfl ?_; clear h a; rintro _ w10 ⟨rfl, hq⟩ a h
        replace hf := hf.next hq
        replace hb2 := hb2.ext hq
        replace ho := ho.ext hq
        clear hq
        refine st_lt h rfl rfl rfl ?_; clear h a; intro a h
        replace h : Ag a 88 [(2, _), (7, _), (8, _), (81, _)] := h.sub (.cons rfl (.cons rfl (.cons rfl (.cons rfl .nil))))
        refine wnt ?_
        first | refine cond_dec h rfl (fun c9 => ?_) (fun c9 => ?_) | refine cond_ndec h rfl (fun c9 => ?_) (fun c9 => ?_) | refine cond_split h rfl (fun c9 => ?_) (fun c9 => ?_)
        ·refine id ?_
         refine wsn ?_
         refine wp_seq ?_
         refine wp_block ?_
         refine wR ?_
         refine st_move h rfl rfl ?_; clear h a; intro a h
         refine st_bslice [(1 : Int)] h (evs_cons rfl evs_nil) rfl rfl rfl el30 (by decide) rfl ?_; clear h a; intro gN w11 hg hoN hq hz a h
         have hlN : w0.heap.size ≤ gN := by have := hf.size; omega
         replace hf := hf.next hq
         replace hb2 := hb2.ext hq
         replace ho := ho.ext hq
         clear hq hz hg
         have hbO := ho.blk
         refine st_append h rfl rfl ho hoN.sl el30 (by unfold maxLen; simp; omega) (by simp; omega) (by have := hb2.lt; omega) rfl ?_; clear h a; intro v3 w12 ho3 hq hx3 a h
         replace hb2 := hb2.fr hq (fun hb => by have := (hbO _ hb).1; omega)
         replace hf := hf.step hq (fun k hk hlt => absurd (hbO k hk).1 (by omega))
         clear ho hq hx3 hoN hbO; have ho := ho3; clear ho3
         refine st_assign h rfl rfl ?_; clear h a; intro a h
         replace h : Ag a 88 [(2, _), (7, _), (8, _)] := h.sub (.cons rfl (.cons rfl (.cons rfl .nil)))
         refine wpList_nil (norm_blk (norm_then ?_))
         refine wR ?_
         refine st_move h rfl rfl ?_; clear h a; intro a h
         refine st_add h rfl rfl (by first | exact IntWalk.i64_in _ (by omega) | rfl) rfl ?_; clear h a; intro a h
         refine st_assign h rfl rfl ?_; clear h a; intro a h
         replace h : Ag a 88 [(2, _), (7, _), (8, _)] := h.sub (.cons rfl (.cons rfl (.cons rfl .nil)))
         refine wnt ?_
         exact ⟨(j + 1, _), h.sub (.cons rfl (.cons rfl (.cons rfl .nil))), ⟨by simp only; omega, by rw [rep_succ]; exact ho, hb2, hf⟩, by simp only; omega⟩
        ·obtain rfl : j = (makesS s).toNat := by omega
         refine wp_exit (exit_then (exit_then (exit_here (norm_then ?_))))
         refine wp_seq ?_
         refine wR ?_
         refine st_move h rfl rfl ?_; clear h a; intro a h
         refine st_assign h rfl rfl ?_; clear h a; intro a h
         refine st_assign h rfl rfl ?_; clear h a; intro a h
         replace h : Ag a 88 [(4, _), (5, _)] := h.sub (.cons rfl (.cons rfl .nil))
         refine wnt ?_
         refine wp_ret ?_
         refine ret2 h Tryd.results73 rfl rfl ?_
         rw [loads_o hc hn ha h4 c6 c8]; exact ⟨_, rfl, _, rfl, ho.low (by omega), hf⟩
end Go.Proofs.YthehggmdcmpjeaaDoor
namespace Go.Proofs.YthehggmdcmpjeaaDoor
open Go.Lw Go.G14
theorem ag157 : AggOf Tryd.prog 157 2 := ⟨fun _ => by kernel_rfl, fun _ => by kernel_rfl⟩
theorem bo100 : BuildAt Tryd.prog 100 [(0, 1), (1, 1), (2, 1), (3, 1), (4, 1)] [(.int .u8 0), (.int .u8 0), (.int .i64 0), (.int .i64 0), (.bool false)] := BuildAt.struct Tryd.underlying100 (fun _ => by kernel_rfl) (fun _ => by kernel_rfl)
theorem el176 : ElemOf Tryd.prog 176 157 encPr 16 := ElemOf.mk' (z := (.agg #[.int .i64 0, .int .i64 0])) Tryd.underlying176 (by kernel_rfl) rfl
theorem fa173_0 : FieldAt Tryd.prog 173 0 0 := fun _ _ => by kernel_rfl
theorem fa173_1 : FieldAt Tryd.prog 173 1 1 := fun _ _ => by kernel_rfl
theorem fa173_2 : FieldAt Tryd.prog 173 2 2 := fun _ _ => by kernel_rfl
theorem fa173_3 : FieldAt Tryd.prog 173 3 3 := fun _ _ => by kernel_rfl
theorem sz3 : SizeOf Tryd.prog 3 1 := fun _ => by kernel_rfl
theorem sz4 : SizeOf Tryd.prog 4 1 := fun _ => by kernel_rfl
theorem sz157 : SizeOf Tryd.prog 157 2 := fun _ => by kernel_rfl
theorem zv157 (w : World) : (zeroValue 157).run Tryd.prog w = .ok (.agg #[(.int .i64 0), (.int .i64 0)]) w := by kernel_rfl
set_option maxHeartbeats 1000000 in
theorem kof_ok (kd y a1 : Int) (f : Bool) (w0 : World) (r1 : 0 ≤ kd ∧ kd ≤ 255) (r2 : 0 ≤ y ∧ y ≤ 255) (r3 : 0 ≤ a1 ∧ a1 ≤ 255) : Rets Tryd.prog 105 #[.agg #[.int .u8 kd, .int .u8 y, .int .u8 a1, .bool f]] w0 fun v w' => v = stV (kOfS kd y a1 f) ∧ Fr [] w0 w' := by
 refine enter [(0, .agg #[.int .u8 kd, .int .u8 y, .int .u8 a1, .bool f])] Tryd.func105 rfl Tryd.ntmps105 rfl (.cons rfl .nil) ?_
 have hf := Fr.refl [] w0
 intro a h
 refine wp_seq ?_
 refine wR ?_
 refine st_box h rfl rfl rfl ?_; clear h a; intro w1 hb1 hq hz a h
 obtain ⟨g_1, hg⟩ : ∃ g, g = w0.heap.size := ⟨_, rfl⟩; rw [← hg] at hb1 h hz
 have hl1 : w0.heap.size ≤ g_1 := by have := hf.size; omega
 replace hf := hf.next hq
 clear hq hz hg
 refine st_alloc h zv100 rfl rfl ?_; clear h a; intro w2 hb2 hq hz a h
 obtain ⟨g_2, hg⟩ : ∃ g, g = w1.heap.size := ⟨_, rfl⟩; rw [← hg] at hb2 h hz
 have hl2 : w0.heap.size ≤ g_2 := by have := hf.size; omega
 have hn_1_2 : g_1 < g_2 := by have := hb1.lt; omega
 replace hf := hf.next hq
 replace hb1 := hb1.ext hq
 clear hq hz hg
 replace h : Ag a 39 [(1, _), (2, _)] := h.sub (.cons rfl (.cons rfl .nil))
 refine wnt ?_
 refine wp_seq ?_
 refine wR ?_
 refine st_fieldAddr h rfl fa173_0 rfl ?_; clear h a; intro a h
 refine st_loadB h rfl hb1 rfl na5 rfl ?_; clear h a; intro a h
 refine st_rem h rfl rfl (by omega) (by first | exact IntWalk.rem_in _ _ (by omega) | rfl) rfl ?_; clear h a; intro a h
 refine st_add h rfl rfl (by first | exact IntWalk.u8_in _ (by omega) | rfl) rfl ?_; clear h a; intro a h
 refine st_fieldAddr h rfl fa173_1 rfl ?_; clear h a; intro a h
 refine st_loadB h rfl hb1 rfl na5 rfl ?_; clear h a; intro a h
 refine st_rem h rfl rfl (by omega) (by first | exact IntWalk.rem_in _ _ (by omega) | rfl) rfl ?_; clear h a; intro a h
 refine st_add h rfl rfl (by first | exact IntWalk.u8_in _ (by omega) | rfl) rfl ?_; clear h a; intro a h
 refine st_lit (cs := [_, _, _, _, _]) h (evs_cons rfl (evs_cons rfl evs_nil)) bo100 (pok_cons rfl rfl rfl (pok_cons rfl rfl rfl pok_nil)) rfl rfl ?_; clear h a; intro a h
 refine st_alloc h zv100 rfl rfl ?_; clear h a; intro w3 hb3 hq hz a h
 obtain ⟨g_3, hg⟩ : ∃ g, g = w2.heap.size := ⟨_, rfl⟩; rw [← hg] at hb3 h hz
 have hl3 : w0.heap.size ≤ g_3 := by have := hf.size; omega
 have hn_1_3 : g_1 < g_3 := by have := hb1.lt; omega
 have hn_2_3 : g_2 < g_3 := by have := hb2.lt; omega
 replace hf := hf.next hq
 replace hb1 := hb1.ext hq
 replace hb2 := hb2.ext hq
 clear hq hz hg
 refine st_storeBA h rfl rfl hb3 rfl (by first | (simp [Value.oneCell', S]; done) | exact Enc.one _ _) sz100 ?_; clear h a; intro w4 hbn hq hz a h
 replace hf := hf.step hq (by first | (simp; done) | (simp; omega))
 replace hb1 := hb1.fr hq (by first | (simp; done) | (simp; omega) | (simp [blks]; done) | (simp [blks]; omega))
 replace hb2 := hb2.fr hq (by first | (simp; done) | (simp; omega) | (simp [blks]; done) | (simp [blks]; omega))
 clear hb3 hq hz; have hb3 : Blk w4 g_3 _ [_, _, _, _, _] := hbn; clear hbn
 replace h : Ag a 39 [(1, _), (2, _), (3, _)] := h.sub (.cons rfl (.cons rfl (.cons rfl .nil)))
 refine wnt ?_
 refine wp_seq ?_
 refine wp_seq ?_
 refine wR ?_
 refine st_fieldAddr h rfl fa100_0 rfl ?_; clear h a; intro a h
 refine st_loadB h rfl hb3 rfl na87 rfl ?_; clear h a; intro a h
 refine st_eq h rfl rfl rfl ?_; clear h a; intro a h
 replace h : Ag a 39 [(1, _), (2, _), (3, _), (16, _)] := h.sub (.cons rfl (.cons rfl (.cons rfl (.cons rfl .nil))))
 refine wnt ?_
 first | refine cond_dec h rfl (fun c0 => ?_) (fun c0 => ?_) | refine cond_ndec h rfl (fun c0 => ?_) (fun c0 => ?_) | refine cond_split h rfl (fun c0 => ?_) (fun c0 => ?_)
 ·refine id ?_
  refine wp_seq ?_
  refine wR ?_
  refine st_lit (cs := [_, _]) h (evs_cons rfl (evs_cons rfl evs_nil)) bo157 (pok_cons rfl rfl rfl (pok_cons rfl rfl rfl pok_nil)) rfl rfl ?_; clear h a; intro a h
  refine st_lit (cs := [_, _]) h (evs_cons rfl (evs_cons rfl evs_nil)) bo157 (pok_cons rfl rfl rfl (pok_cons rfl rfl rfl pok_nil)) rfl rfl ?_; clear h a; intro a h
  refine st_lit (cs := [_, _]) h (evs_cons rfl (evs_cons rfl evs_nil)) bo157 (pok_cons rfl rfl rfl (pok_cons rfl rfl rfl pok_nil)) rfl rfl ?_; clear h a; intro a h
  refine st_lit (cs := [_, _]) h (evs_cons rfl (evs_cons rfl evs_nil)) bo157 (pok_cons rfl rfl rfl (pok_cons rfl rfl rfl pok_nil)) rfl rfl ?_; clear h a; intro a h
  refine st_lit (cs := [_, _]) h (evs_cons rfl (evs_cons rfl evs_nil)) bo157 (pok_cons rfl rfl rfl (pok_cons rfl rfl rfl pok_nil)) rfl rfl ?_; clear h a; intro a h
  refine st_lit (cs := [_, _]) h (evs_cons rfl (evs_cons rfl evs_nil)) bo157 (pok_cons rfl rfl rfl (pok_cons rfl rfl rfl pok_nil)) rfl rfl ?_; clear h a; intro a h
  refine st_bslice (pairsL) h (evs_cons rfl (evs_cons rfl (evs_cons rfl (evs_cons rfl (evs_cons rfl (evs_cons rfl evs_nil)))))) rfl rfl rfl el176 (Nat.le_of_ble_eq_true rfl) rfl ?_; clear h a; intro g_23 w5 hg ho23 hq hz a h
  have hn_1_23 : g_1 < g_23 := by have := hb1.lt; omega
  have hn_2_23 : g_2 < g_23 := by have := hb2.lt; omega
  have hn_3_23 : g_3 < g_23 := by have := hb3.lt; omega
  have hl23 : w0.heap.size ≤ g_23 := by have := hf.size; omega
  replace hf := hf.next hq
  replace hb1 := hb1.ext hq
  replace hb2 := hb2.ext hq
  replace hb3 := hb3.ext hq
  clear hq hz hg
  refine st_fieldAddr h rfl fa173_2 rfl ?_; clear h a; intro a h
  refine st_loadB h rfl hb1 rfl na5 rfl ?_; clear h a; intro a h
  refine st_rem h rfl rfl (by omega) (by first | exact IntWalk.rem_in _ _ (by omega) | rfl) rfl ?_; clear h a; intro a h
  refine st_idx (p := (a1 % 6).toNat) h rfl rfl ho23.sl el176 (by omega) rfl (getD_get (show (a1 % 6).toNat < pairsL.length by rw [show pairsL.length = 6 from rfl]; omega) (0, 0)) rfl ?_; clear h a; intro ad cc a h
  refine st_loadA h rfl cc ag157 rfl ?_; clear h a; intro a h
  refine st_alloc h zv157 rfl rfl ?_; clear h a; intro w6 hb4 hq hz a h
  obtain ⟨g_4, hg⟩ : ∃ g, g = w5.heap.size := ⟨_, rfl⟩; rw [← hg] at hb4 h hz
  have hl4 : w0.heap.size ≤ g_4 := by have := hf.size; omega
  have hn_1_4 : g_1 < g_4 := by have := hb1.lt; omega
  have hn_2_4 : g_2 < g_4 := by have := hb2.lt; omega
  have hn_3_4 : g_3 < g_4 := by have := hb3.lt; omega
  have hn_23_4 : g_23 < g_4 := by have := (ho23.blk g_23 (by simp [blks])).2; omega
  replace hf := hf.next hq
  replace hb1 := hb1.ext hq
  replace hb2 := hb2.ext hq
  replace hb3 := hb3.ext hq
  replace ho23 := ho23.ext hq
  clear hq hz hg
  refine st_storeBA h rfl rfl hb4 rfl (by first | (simp [Value.oneCell', S]; done) | exact Enc.one _ _) sz157 ?_; clear h a; intro w7 hbn hq hz a h
  replace hf := hf.step hq (by first | (simp; done) | (simp; omega))
  replace hb1 := hb1.fr hq (by first | (simp; done) | (simp; omega) | (simp [blks]; done) | (simp [blks]; omega))
  replace hb2 := hb2.fr hq (by first | (simp; done) | (simp; omega) | (simp [blks]; done) | (simp [blks]; omega))
  replace hb3 := hb3.fr hq (by first | (simp; done) | (simp; omega) | (simp [blks]; done) | (simp [blks]; omega))
  replace ho23 := ho23.fr hq (by first | (simp; done) | (simp; omega) | (simp [blks]; done) | (simp [blks]; omega))
  clear hb4 hq hz; have hb4 : Blk w7 g_4 _ [_, _] := hbn; clear hbn
  replace h : Ag a 39 [(1, _), (2, _), (3, _), (4, _)] := h.sub (.cons rfl (.cons rfl (.cons rfl (.cons rfl .nil))))
  refine wnt ?_
  refine region_held (fun wb w' => Fr [g_3] wb w') hmix ?_; intro w8 hq
  replace hf := hf.next hq
  replace hb1 := hb1.ext hq
  replace hb2 := hb2.ext hq
  replace hb3 := hb3.ext hq
  replace ho23 := ho23.ext hq
  replace hb4 := hb4.ext hq
  clear hq; have hC : Fr [g_3] w8 w8 := Fr.refl _ _
  have hb1_b := hb1
  have hb2_b := hb2
  have hb3_b := hb3
  have ho23_b := ho23
  have hb4_b := hb4
  refine hd_idxA 0 (by kernel_rfl) (by kernel_rfl) (by kernel_rfl) hC h wn rfl rfl Tryd.underlying157 sz3 (by omega) (by omega) rfl rfl ?_; clear h a; intro a h
  refine hd_loadB 1 (by kernel_rfl) (by kernel_rfl) (by kernel_rfl) hC h wn rfl (fun _ hw => hb4_b.fr hw (by first | (simp; done) | (simp; omega))) rfl na3 rfl rfl ?_; clear h a; intro a h
  refine hd_idxA 2 (by kernel_rfl) (by kernel_rfl) (by kernel_rfl) hC h wn rfl rfl Tryd.underlying157 sz3 (by omega) (by omega) rfl rfl ?_; clear h a; intro a h
  refine hd_loadB 3 (by kernel_rfl) (by kernel_rfl) (by kernel_rfl) hC h wn rfl (fun _ hw => hb4_b.fr hw (by first | (simp; done) | (simp; omega))) rfl na3 rfl rfl ?_; clear h a; intro a h
  refine hd_fieldAddr 4 (by kernel_rfl) (by kernel_rfl) (by kernel_rfl) hC h wn rfl fa173_3 rfl rfl ?_; clear h a; intro a h
  refine hd_loadB 5 (by kernel_rfl) (by kernel_rfl) (by kernel_rfl) hC h wn rfl (fun _ hw => hb1_b.fr hw (by first | (simp; done) | (simp; omega))) rfl na4 rfl rfl ?_; clear h a; intro a h
  refine hd_fieldAddr 6 (by kernel_rfl) (by kernel_rfl) (by kernel_rfl) hC h wn rfl fa100_2 rfl rfl ?_; clear h a; intro a h
  refine hd_one 7 (by kernel_rfl) rfl ?_
  refine st_storeB h rfl rfl hb3 rfl rfl rfl sz3 ?_; clear h a; intro w9 hbn hq hz a h
  replace hf := hf.step hq (by first | (simp; done) | (simp; omega))
  replace hb1 := hb1.fr hq (by first | (simp; done) | (simp; omega) | (simp [blks]; done) | (simp [blks]; omega))
  replace hb2 := hb2.fr hq (by first | (simp; done) | (simp; omega) | (simp [blks]; done) | (simp [blks]; omega))
  replace ho23 := ho23.fr hq (by first | (simp; done) | (simp; omega) | (simp [blks]; done) | (simp [blks]; omega))
  replace hb4 := hb4.fr hq (by first | (simp; done) | (simp; omega) | (simp [blks]; done) | (simp [blks]; omega))
  replace hC := hC.step hq (by first | (simp; done) | (simp; omega))
  clear hb3 hq hz; have hb3 : Blk w9 g_3 _ [_, _, _, _, _] := hbn; clear hbn
  refine hd_next hC ?_
  refine hd_fieldAddr 8 (by kernel_rfl) (by kernel_rfl) (by kernel_rfl) hC h wn rfl fa100_3 rfl rfl ?_; clear h a; intro a h
  refine hd_one 9 (by kernel_rfl) rfl ?_
  refine st_storeB h rfl rfl hb3 rfl rfl rfl sz3 ?_; clear h a; intro w10 hbn hq hz a h
  replace hf := hf.step hq (by first | (simp; done) | (simp; omega))
  replace hb1 := hb1.fr hq (by first | (simp; done) | (simp; omega) | (simp [blks]; done) | (simp [blks]; omega))
  replace hb2 := hb2.fr hq (by first | (simp; done) | (simp; omega) | (simp [blks]; done) | (simp [blks]; omega))
  replace ho23 := ho23.fr hq (by first | (simp; done) | (simp; omega) | (simp [blks]; done) | (simp [blks]; omega))
  replace hb4 := hb4.fr hq (by first | (simp; done) | (simp; omega) | (simp [blks]; done) | (simp [blks]; omega))
  replace hC := hC.step hq (by first | (simp; done) | (simp; omega))
  clear hb3 hq hz; have hb3 : Blk w10 g_3 _ [_, _, _, _, _] := hbn; clear hbn
  refine hd_next hC ?_
  refine hd_fieldAddr 10 (by kernel_rfl) (by kernel_rfl) (by kernel_rfl) hC h wn rfl fa100_4 rfl rfl ?_; clear h a; intro a h
  refine hd_one 11 (by kernel_rfl) rfl ?_
  refine st_storeB h rfl rfl hb3 rfl rfl rfl sz4 ?_; clear h a; intro w11 hbn hq hz a h
  replace hf := hf.step hq (by first | (simp; done) | (simp; omega))
  replace hb1 := hb1.fr hq (by first | (simp; done) | (simp; omega) | (simp [blks]; done) | (simp [blks]; omega))
  replace hb2 := hb2.fr hq (by first | (simp; done) | (simp; omega) | (simp [blks]; done) | (simp [blks]; omega))
  replace ho23 := ho23.fr hq (by first | (simp; done) | (simp; omega) | (simp [blks]; done) | (simp [blks]; omega))
  replace hb4 := hb4.fr hq (by first | (simp; done) | (simp; omega) | (simp [blks]; done) | (simp [blks]; omega))
  replace hC := hC.step hq (by first | (simp; done) | (simp; omega))
  clear hb3 hq hz; have hb3 : Blk w11 g_3 _ [_, _, _, _, _] := hbn; clear hbn
  refine hd_next hC ?_
  refine hd_end (by kernel_rfl) ?_
  clear hC hb1_b hb2_b hb3_b ho23_b hb4_b
  replace h : Ag a 39 [(2, _), (3, _)] := h.sub (.cons rfl (.cons rfl .nil))
  refine (norm_then ?_)
  refine wp_seq ?_
  refine wR ?_
  refine st_loadBA h rfl hb3 ag100 rfl ?_; clear h a; intro a h
  refine st_storeBA h rfl rfl hb2 rfl (by first | (simp [Value.oneCell', S]; done) | exact Enc.one _ _) sz100 ?_; clear h a; intro w12 hbn hq hz a h
  replace hf := hf.step hq (by first | (simp; done) | (simp; omega))
  replace hb1 := hb1.fr hq (by first | (simp; done) | (simp; omega) | (simp [blks]; done) | (simp [blks]; omega))
  replace hb3 := hb3.fr hq (by first | (simp; done) | (simp; omega) | (simp [blks]; done) | (simp [blks]; omega))
  replace ho23 := ho23.fr hq (by first | (simp; done) | (simp; omega) | (simp [blks]; done) | (simp [blks]; omega))
  replace hb4 := hb4.fr hq (by first | (simp; done) | (simp; omega) | (simp [blks]; done) | (simp [blks]; omega))
  clear hb2 hq hz; have hb2 : Blk w12 g_2 _ [_, _, _, _, _] := hbn; clear hbn
  replace h : Ag a 39 [(2, _)] := h.sub (.cons rfl .nil)
  refine wnt ?_
  refine wp_ret ?_
  refine retC h Tryd.results105 rfl hb2 ag100  ?_
  exact ⟨_, rfl, by first | (rw [kOfS, if_pos c0]; rfl) | (rw [kOfS, if_neg c0]; rfl), hf⟩
 ·refine id ?_
  refine wsn ?_
  refine wp_seq ?_
  refine wR ?_
  refine st_loadBA h rfl hb3 ag100 rfl ?_; clear h a; intro a h
  refine st_storeBA h rfl rfl hb2 rfl (by first | (simp [Value.oneCell', S]; done) | exact Enc.one _ _) sz100 ?_; clear h a; intro w13 hbn hq hz a h
  replace hf := hf.step hq (by first | (simp; done) | (simp; omega))
  replace hb1 := hb1.fr hq (by first | (simp; done) | (simp; omega) | (simp [blks]; done) | (simp [blks]; omega))
  replace hb3 := hb3.fr hq (by first | (simp; done) | (simp; omega) | (simp [blks]; done) | (simp [blks]; omega))
  clear hb2 hq hz; have hb2 : Blk w13 g_2 _ [_, _, _, _, _] := hbn; clear hbn
  replace h : Ag a 39 [(2, _)] := h.sub (.cons rfl .nil)
  refine wnt ?_
  refine wp_ret ?_
  refine retC h Tryd.results105 rfl hb2 ag100  ?_
  exact ⟨_, rfl, by first | (rw [kOfS, if_pos c0]; rfl) | (rw [kOfS, if_neg c0]; rfl), hf⟩
end Go.Proofs.YthehggmdcmpjeaaDoor
namespace Go.G14
open Go.Lw
/-- The stitch of a choice, behind i slots, where ny slots have been made. -/
def pickS (ls : List Int) (i ny : Nat) (ch : Int) : Stitch :=
  if ch % 16 = 1 ∨ ch % 16 = 2 then ⟨2, 1 + ch / 16 % 3, 0, 0, false⟩
  else if ch % 16 = 3 then (if (ny : Int) + ((ls.length : Int) - i) < 8 then ⟨3, 1 + ch / 16 % 3, 0, 0, false⟩ else ⟨1, 1 + ch / 16 % 3, 0, 0, false⟩)
  else if ch % 16 = 4 ∨ ch % 16 = 5 then (if 1 < (ls.length : Int) - i ∧ ls.getD i 0 + ls.getD (i + 1) 0 ≤ 4 then ⟨4 + (ch % 16 - 4), 1 + ch / 16 % 3, 0, 0, false⟩ else ⟨1, 1 + ch / 16 % 3, 0, 0, false⟩)
  else if ch % 16 = 6 ∨ ch % 16 = 7 then (if ls.getD i 0 < 3 then ⟨6, 1 + ch / 16 % 3, 0, 0, false⟩ else ⟨1, 1 + ch / 16 % 3, 0, 0, false⟩)
  else if ch % 16 = 8 ∨ ch % 16 = 9 then ⟨7, 1 + ch / 16 % 3, 0, 0, false⟩
  else if 10 ≤ ch % 16 ∧ ch % 16 ≤ 14 then
    (if (kOfS 7 0 (ch - ch / 16 * 16) (decide (128 ≤ ch))).a + (kOfS 7 0 (ch - ch / 16 * 16) (decide (128 ≤ ch))).b ≤ (ls.length : Int) - i then
      ⟨(kOfS 7 0 (ch - ch / 16 * 16) (decide (128 ≤ ch))).k, 1 + ch / 16 % 3, (kOfS 7 0 (ch - ch / 16 * 16) (decide (128 ≤ ch))).a, (kOfS 7 0 (ch - ch / 16 * 16) (decide (128 ≤ ch))).b, (kOfS 7 0 (ch - ch / 16 * 16) (decide (128 ≤ ch))).f⟩
    else ⟨1, 1 + ch / 16 % 3, 0, 0, false⟩)
  else ⟨1, 1 + ch / 16 % 3, 0, 0, false⟩
theorem getD_of {α : Type} {l : List α} {i : Nat} {x d : α} (h : l[i]? = some x) : l.getD i d = x := by simp [List.getD, h]
theorem getD_out {α : Type} {l : List α} {i : Nat} {d : α} (h : l.length ≤ i) : l.getD i d = d := by simp [List.getD, List.getElem?_eq_none h]
theorem pick_purl {ls : List Int} {i ny : Nat} {ch : Int} (h : ch % 16 = 1 ∨ ch % 16 = 2) : (⟨2, 1 + ch / 16 % 3, 0, 0, false⟩ : Stitch) = pickS ls i ny ch := by rw [pickS, if_pos h]
theorem pick_over {ls : List Int} {i ny : Nat} {ch : Int} (h : ch % 16 = 3) (h2 : (ny : Int) + ((ls.length : Int) - i) < 8) : (⟨3, 1 + ch / 16 % 3, 0, 0, false⟩ : Stitch) = pickS ls i ny ch := by rw [pickS, if_neg (by omega), if_pos h, if_pos h2]
theorem pick_over' {ls : List Int} {i ny : Nat} {ch : Int} (h : ch % 16 = 3) (h2 : ¬ (ny : Int) + ((ls.length : Int) - i) < 8) : (⟨1, 1 + ch / 16 % 3, 0, 0, false⟩ : Stitch) = pickS ls i ny ch := by rw [pickS, if_neg (by omega), if_pos h, if_neg h2]
theorem pick_two {ls : List Int} {i ny : Nat} {ch p q : Int} (hp : ls[i]? = some p) (hq : ls[i + 1]? = some q) (h : ch % 16 = 4 ∨ ch % 16 = 5) (h2 : 1 < (ls.length : Int) - i) (h3 : p + q ≤ 4) : (⟨4 + (ch % 16 - 4), 1 + ch / 16 % 3, 0, 0, false⟩ : Stitch) = pickS ls i ny ch := by
  rw [pickS, if_neg (by omega), if_neg (by omega), if_pos h, if_pos ⟨h2, by rw [getD_of hp, getD_of hq]; exact h3⟩]
theorem pick_two' {ls : List Int} {i ny : Nat} {ch p q : Int} (hp : ls[i]? = some p) (hq : ls[i + 1]? = some q) (h : ch % 16 = 4 ∨ ch % 16 = 5) (h3 : ¬ p + q ≤ 4) : (⟨1, 1 + ch / 16 % 3, 0, 0, false⟩ : Stitch) = pickS ls i ny ch := by
  rw [pickS, if_neg (by omega), if_neg (by omega), if_pos h, if_neg (fun e => h3 (by rw [getD_of hp, getD_of hq] at e; exact e.2))]
theorem pick_twox {ls : List Int} {i ny : Nat} {ch : Int} (h : ch % 16 = 4 ∨ ch % 16 = 5) (h2 : ¬ 1 < (ls.length : Int) - i) : (⟨1, 1 + ch / 16 % 3, 0, 0, false⟩ : Stitch) = pickS ls i ny ch := by
  rw [pickS, if_neg (by omega), if_neg (by omega), if_pos h, if_neg (fun e => h2 e.1)]
theorem pick_tuck {ls : List Int} {i ny : Nat} {ch p : Int} (hp : ls[i]? = some p) (h : ch % 16 = 6 ∨ ch % 16 = 7) (h3 : p < 3) : (⟨6, 1 + ch / 16 % 3, 0, 0, false⟩ : Stitch) = pickS ls i ny ch := by
  rw [pickS, if_neg (by omega), if_neg (by omega), if_neg (by omega), if_pos h, if_pos (by rw [getD_of hp]; exact h3)]
theorem pick_tuck' {ls : List Int} {i ny : Nat} {ch p : Int} (hp : ls[i]? = some p) (h : ch % 16 = 6 ∨ ch % 16 = 7) (h3 : ¬ p < 3) : (⟨1, 1 + ch / 16 % 3, 0, 0, false⟩ : Stitch) = pickS ls i ny ch := by
  rw [pickS, if_neg (by omega), if_neg (by omega), if_neg (by omega), if_pos h, if_neg (by rw [getD_of hp]; exact h3)]
theorem pick_slip {ls : List Int} {i ny : Nat} {ch : Int} (h : ch % 16 = 8 ∨ ch % 16 = 9) : (⟨7, 1 + ch / 16 % 3, 0, 0, false⟩ : Stitch) = pickS ls i ny ch := by
  rw [pickS, if_neg (by omega), if_neg (by omega), if_neg (by omega), if_neg (by omega), if_pos h]
theorem pick_cable {ls : List Int} {i ny : Nat} {ch : Int} {kx : Stitch} (hk : kx = kOfS 7 0 (ch - ch / 16 * 16) (decide (128 ≤ ch))) (h : 10 ≤ ch % 16 ∧ ch % 16 ≤ 14) (h2 : kx.a + kx.b ≤ (ls.length : Int) - i) : (⟨kx.k, 1 + ch / 16 % 3, kx.a, kx.b, kx.f⟩ : Stitch) = pickS ls i ny ch := by
  rw [pickS, if_neg (by omega), if_neg (by omega), if_neg (by omega), if_neg (by omega), if_neg (by omega), if_pos h, ← hk, if_pos h2]
theorem pick_cable' {ls : List Int} {i ny : Nat} {ch : Int} {kx : Stitch} (hk : kx = kOfS 7 0 (ch - ch / 16 * 16) (decide (128 ≤ ch))) (h : 10 ≤ ch % 16 ∧ ch % 16 ≤ 14) (h2 : ¬ kx.a + kx.b ≤ (ls.length : Int) - i) : (⟨1, 1 + ch / 16 % 3, 0, 0, false⟩ : Stitch) = pickS ls i ny ch := by
  rw [pickS, if_neg (by omega), if_neg (by omega), if_neg (by omega), if_neg (by omega), if_neg (by omega), if_pos h, ← hk, if_neg h2]
theorem pick_knit {ls : List Int} {i ny : Nat} {ch : Int} (h : ch % 16 = 0 ∨ ch % 16 = 15) : (⟨1, 1 + ch / 16 % 3, 0, 0, false⟩ : Stitch) = pickS ls i ny ch := by
  rw [pickS, if_neg (by omega), if_neg (by omega), if_neg (by omega), if_neg (by omega), if_neg (by omega), if_neg (by omega)]
def stepR (ls : List Int) (cs : List UInt8) (z : Nat × List Stitch × List Int) : Nat × List Stitch × List Int :=
  if z.1 < ls.length then
    (z.1 + (needsS (pickS ls z.1 z.2.2.length ((cs.getD z.2.1.length 0).toNat : Int))).toNat, z.2.1 ++ [pickS ls z.1 z.2.2.length ((cs.getD z.2.1.length 0).toNat : Int)],
      z.2.2 ++ (loadsS (pickS ls z.1 z.2.2.length ((cs.getD z.2.1.length 0).toNat : Int)) ((ls.drop z.1).take (needsS (pickS ls z.1 z.2.2.length ((cs.getD z.2.1.length 0).toNat : Int))).toNat)).1)
  else z
def goR (ls : List Int) (cs : List UInt8) : Nat → Nat × List Stitch × List Int
  | 0 => (0, [], [])
  | n + 1 => stepR ls cs (goR ls cs n)
def rowF (ls : List Int) (cs : List UInt8) : List Stitch × List Int := (goR ls cs 8).2
theorem goR_next {ls : List Int} {cs : List UInt8} {i : Nat} {xs : List Stitch} {ys : List Int} {s : Stitch} {ch : Int} (h : goR ls cs xs.length = (i, xs, ys)) (hi : i < ls.length) (hc : ch = ((cs.getD xs.length 0).toNat : Int)) (hs : s = pickS ls i ys.length ch) :
    goR ls cs (xs ++ [s]).length = (i + (needsS s).toNat, xs ++ [s], ys ++ (loadsS s ((ls.drop i).take (needsS s).toNat)).1) := by
  subst hc; subst hs
  rw [List.length_append, List.length_singleton, goR, h, stepR, if_pos hi]
theorem goR_stay {ls : List Int} {cs : List UInt8} {n : Nat} {xs : List Stitch} {ys : List Int} (h : goR ls cs n = (ls.length, xs, ys)) : ∀ m, goR ls cs (n + m) = (ls.length, xs, ys)
  | 0 => h
  | m + 1 => by rw [← Nat.add_assoc, goR, goR_stay h m, stepR, if_neg (Nat.lt_irrefl _)]
theorem goR_end {ls : List Int} {cs : List UInt8} {xs : List Stitch} {ys : List Int} (h : goR ls cs xs.length = (ls.length, xs, ys)) (h8 : xs.length ≤ 8) : rowF ls cs = (xs, ys) := by
  have := goR_stay h (8 - xs.length)
  rw [show xs.length + (8 - xs.length) = 8 by omega] at this
  rw [rowF, this]
def chG (wd : Int) (css : List (List UInt8)) : Nat → List Int × RowL
  | 0 => (List.replicate (wd % 8 + 1).toNat 1, [])
  | n + 1 => ((rowF (chG wd css n).1 (css.getD n [])).2, (chG wd css n).2 ++ [(rowF (chG wd css n).1 (css.getD n [])).1])
def manyF (n : Nat) : Int := if ((min n 9 : Nat) : Int) % 2 = 0 then ((min n 9 : Nat) : Int) + 1 else ((min n 9 : Nat) : Int)
def chartF (wd : Int) (css : List (List UInt8)) : RowL := (chG wd css (manyF css.length).toNat).2
theorem chG_next {wd : Int} {css : List (List UInt8)} {i : Nat} {ls : List Int} {rows : RowL} {cs : List UInt8} (h : chG wd css i = (ls, rows)) (hc : cs = css.getD i []) : chG wd css (i + 1) = ((rowF ls cs).2, rows ++ [(rowF ls cs).1]) := by
  subst hc; rw [chG, h]
/-- The charts of a motif as plain data: what a header means. -/
def blkF (B : SV → List UInt8) (wd : Int) (hs : List SV) (n : Nat) : RowL := chartF (wd % 4) ((hs.take (min n hs.length) ++ List.replicate (n - min n hs.length) (none, 0, 0)).map B)
def motF (B : SV → List UInt8) (H : SV → List SV) (q : QD) : Mot :=
  ⟨if q.ed % 2 = 1 then blkF B q.lw (H q.l) (1 + 2 * (q.ht % 3)).toNat else [], blkF B q.tw (H q.t) (1 + 2 * (q.ht % 3)).toNat, if q.ed / 2 % 2 = 1 then blkF B q.rw (H q.r) (1 + 2 * (q.ht % 3)).toNat else []⟩
theorem motF_eq {B : SV → List UInt8} {H : SV → List SV} {q : QD} {n : Nat} {rL rT rR : RowL} (hn : (n : Int) = 1 + 2 * (q.ht % 3)) (hL : rL = if q.ed % 2 = 1 then blkF B q.lw (H q.l) n else []) (hT : rT = blkF B q.tw (H q.t) n) (hR : rR = if q.ed / 2 % 2 = 1 then blkF B q.rw (H q.r) n else []) : (⟨rL, rT, rR⟩ : Mot) = motF B H q := by
  have e : (1 + 2 * (q.ht % 3)).toNat = n := by omega
  subst hL; subst hT; subst hR
  rw [motF, e]
/-- What headers mean in a world. -/
def BytesF (B : SV → List UInt8) (w : World) (hs : List SV) : Prop := ∀ p ∈ hs, Sl Enc.b w (slv p) (B p)
theorem BytesF.ext {B : SV → List UInt8} {w w' : World} {hs : List SV} (h : BytesF B w hs) (hf : Fr [] w w') : BytesF B w' hs := fun p hp => (h p hp).ext hf
theorem bytesf_copy {B : SV → List UInt8} {w : World} {hs : List SV} {k n : Nat} (hB : B (none, 0, 0) = []) (h : BytesF B w hs) : BytesF B w (hs.take k ++ List.replicate n (none, 0, 0)) := fun p hp => by
  rcases List.mem_append.1 hp with hp | hp
  · exact h p (List.mem_of_mem_take hp)
  · obtain rfl := (List.mem_replicate.1 hp).2
    rw [hB]; exact Sl.nil w
def CAtF (B : SV → List UInt8) (H : SV → List SV) (w : World) (v : SV) : Prop := Sl Enc.sl w (slv v) (H v) ∧ BytesF B w (H v)
theorem CAtF.ext {B : SV → List UInt8} {H : SV → List SV} {w w' : World} {v : SV} (h : CAtF B H w v) (hf : Fr [] w w') : CAtF B H w' v := ⟨h.1.ext hf, h.2.ext hf⟩
structure QAtF (B : SV → List UInt8) (H : SV → List SV) (w : World) (q : QD) : Prop where
  l : CAtF B H w q.l
  t : CAtF B H w q.t
  r : CAtF B H w q.r
  rg : (0 ≤ q.ht ∧ q.ht ≤ 255) ∧ (0 ≤ q.ed ∧ q.ed ≤ 255) ∧ (0 ≤ q.lw ∧ q.lw ≤ 255) ∧ (0 ≤ q.tw ∧ q.tw ≤ 255) ∧ (0 ≤ q.rw ∧ q.rw ≤ 255) ∧ (0 ≤ q.ba ∧ q.ba ≤ 255) ∧ (0 ≤ q.st ∧ q.st ≤ 255) ∧ (0 ≤ q.up ∧ q.up ≤ 255) ∧ (0 ≤ q.ct ∧ q.ct ≤ 255)
theorem QAtF.ext {B : SV → List UInt8} {H : SV → List SV} {w w' : World} {q : QD} (h : QAtF B H w q) (hf : Fr [] w w') : QAtF B H w' q := ⟨h.l.ext hf, h.t.ext hf, h.r.ext hf, h.rg⟩
def QsAtF (B : SV → List UInt8) (H : SV → List SV) (w : World) (ys : List QD) : Prop := ∀ q ∈ ys, QAtF B H w q
theorem QsAtF.ext {B : SV → List UInt8} {H : SV → List SV} {w w' : World} {ys : List QD} (h : QsAtF B H w ys) (hf : Fr [] w w') : QsAtF B H w' ys := fun q hq => (h q hq).ext hf
theorem QAtF.zero {B : SV → List UInt8} {H : SV → List SV} (hH : H (none, 0, 0) = []) (w : World) : QAtF B H w qd0 := by
  have h : CAtF B H w (none, 0, 0) := by rw [CAtF, hH]; exact ⟨Sl.nil w, fun p hp => by cases hp⟩
  exact ⟨h, h, h, by simp [qd0]⟩
theorem sl_none {α : Type} {E : Enc α} {w : World} {l : List α} (h : Sl E w (slv (none, 0, 0)) l) : l = [] := by
  have := sl_len h
  exact List.length_eq_zero_iff.1 this.symm
open Classical in
theorem mean_at {w : World} {ys : List QD} (h : QsAt w ys) : ∃ (B : SV → List UInt8) (H : SV → List SV), B (none, 0, 0) = [] ∧ H (none, 0, 0) = [] ∧ QsAtF B H w ys := by
  let B : SV → List UInt8 := fun p => if h : ∃ cs, Sl Enc.b w (slv p) cs then Classical.choose h else []
  let H : SV → List SV := fun p => if h : ∃ hs, Sl Enc.sl w (slv p) hs ∧ BytesAt w hs then Classical.choose h else []
  have hB : ∀ p, (∃ cs, Sl Enc.b w (slv p) cs) → Sl Enc.b w (slv p) (B p) := fun p hp => by
    show Sl Enc.b w (slv p) (if h : _ then _ else _); rw [dif_pos hp]; exact Classical.choose_spec hp
  have hH : ∀ p, CAt w p → Sl Enc.sl w (slv p) (H p) ∧ BytesAt w (H p) := fun p hp => by
    have hp2 : ∃ hs, Sl Enc.sl w (slv p) hs ∧ BytesAt w hs := hp
    show Sl Enc.sl w (slv p) (if h : _ then _ else _) ∧ BytesAt w (if h : _ then _ else _); rw [dif_pos hp2]; exact Classical.choose_spec hp2
  have hC : ∀ p, CAt w p → CAtF B H w p := fun p hp => ⟨(hH p hp).1, fun x hx => hB x ((hH p hp).2 x hx)⟩
  exact ⟨B, H, sl_none (hB _ ⟨[], Sl.nil w⟩), sl_none (hH _ (CAt.nil w)).1, fun q hq => ⟨hC _ (h q hq).l, hC _ (h q hq).t, hC _ (h q hq).r, (h q hq).rg⟩⟩
def nmF (nb : Int) : List UInt8 := (([97, 98, 99, 100, 101, 102, 103, 104, 105, 106, 107, 108, 109, 110, 111, 112] : List UInt8)).take (1 + (nb % 16)).toNat
def pcF (B : SV → List UInt8) (H : SV → List SV) (ys : List QD) (j : Nat) : Pc :=
  ⟨ofN.getD j [], motF B H (ys.getD j qd0), 1 + (ys.getD j qd0).ba % 4, (ys.getD j qd0).st % 5, 1 + (ys.getD j qd0).up % 5, 1 + (ys.getD j qd0).ct % 9⟩
def garF (B : SV → List UInt8) (H : SV → List SV) (ys : List QD) (n : Nat) : List Pc := (List.range n).map (pcF B H ys)
theorem garF_succ (B : SV → List UInt8) (H : SV → List SV) (ys : List QD) (n : Nat) : garF B H ys (n + 1) = garF B H ys n ++ [pcF B H ys n] := by simp [garF, List.range_succ]
def manyG (ys : List QD) : Nat := max 1 (min 4 ys.length)
end Go.G14
namespace Go.Proofs.YthehggmdcmpjeaaDoor
open Go.Lw Go.G14
theorem bo173 : BuildAt Tryd.prog 173 [(0, 1), (1, 1), (2, 1), (3, 1)] [(.int .u8 0), (.int .u8 0), (.int .u8 0), (.bool false)] := BuildAt.struct Tryd.underlying173 (fun _ => by kernel_rfl) (fun _ => by kernel_rfl)
theorem co73 : CallOf Tryd.prog 73 := CallOf.mk' Tryd.func73 (by kernel_rfl) (by kernel_rfl)
theorem co105 : CallOf Tryd.prog 105 := CallOf.mk' Tryd.func105 (by kernel_rfl) (by kernel_rfl)
theorem sz87 : SizeOf Tryd.prog 87 1 := fun _ => by kernel_rfl
set_option maxHeartbeats 4000000 in
theorem row_ok (u v : Value) (ls : List Int) (cs : List UInt8) (w0 : World) (hu : Sl Enc.i64 w0 u ls) (hv : Sl Enc.b w0 v cs) (hfl : ls.all few = true) (hl1 : 1 ≤ ls.length) (hl8 : ls.length ≤ 8) : Rets Tryd.prog 94 #[u, v] w0 fun r w' => ∃ X Y xs ys, r = .tuple #[X, Y] ∧ Lw.Own encSt 100 w0.heap.size w' X xs ∧ Lw.Own Enc.i64 3 w0.heap.size w' Y ys ∧ (∀ k ∈ blks X, k ∉ blks Y) ∧ xs ≠ [] ∧ xs.all okB = true ∧ xs.length ≤ 8 ∧ ys.all few = true ∧ 1 ≤ ys.length ∧ ys.length ≤ 8 ∧ rowF ls cs = (xs, ys) ∧ Fr [] w0 w' := by
 obtain ⟨A, c, rfl, hcp⟩ := hu.form
 obtain ⟨-, -, hM, hA⟩ := Sl.open_ hu
 obtain ⟨B, d, rfl, hdp⟩ := hv.form
 obtain ⟨-, -, hN, hB⟩ := Sl.open_ hv
 unfold maxLen at hM hN
 refine enter [(0, .slice A ls.length c), (1, .slice B cs.length d)] Tryd.func94 rfl Tryd.ntmps94 rfl (.cons rfl (.cons rfl .nil)) ?_
 have hf := Fr.refl [] w0
 intro a h
 refine wp_seq ?_
 refine wR ?_
 refine st_assign h rfl rfl ?_; clear h a; intro a h
 refine st_assign h rfl rfl ?_; clear h a; intro a h
 replace h : Ag a 141 [(0, _), (1, _)] := h.sub (.cons rfl (.cons rfl .nil))
 refine wnt ?_
 refine wp_seq ?_
 refine wR ?_
 refine st_assign h rfl rfl ?_; clear h a; intro a h
 refine wnt ?_
 refine wp_seq ?_
 refine wR ?_
 refine st_assign h rfl rfl ?_; clear h a; intro a h
 refine wnt ?_
 refine wp_seq ?_
 refine wR ?_
 refine st_assign h rfl rfl ?_; clear h a; intro a h
 refine wnt ?_
 refine wp_seq ?_
 refine wp_seq ?_
 refine wR ?_
 refine st_assign h rfl rfl ?_; clear h a; intro a h
 refine wnt ?_
 refine wp_block ?_
 refine loop (ι := RowSt) (fun z => [(0, .slice A ls.length c), (1, .slice B cs.length d), (6, z.X), (7, z.Y), (8, .int .i64 (z.i : Int)), (9, .int .i64 (z.xs.length : Int))]) (fun z w' => z.i ≤ ls.length ∧ Lw.Own encSt 100 w0.heap.size w' z.X z.xs ∧ Lw.Own Enc.i64 3 w0.heap.size w' z.Y z.ys ∧ (∀ k ∈ blks z.X, k ∉ blks z.Y) ∧ z.xs.all okB = true ∧ z.ys.all few = true ∧ z.xs.length ≤ z.ys.length ∧ z.ys.length + (ls.length - z.i) ≤ 8 ∧ (z.xs = [] → z.i = 0) ∧ goR ls cs z.xs.length = (z.i, z.xs, z.ys) ∧ Fr [] w0 w') (fun z => 16 + (ls.length - z.i) - z.ys.length) ⟨0, [], [], .slice none 0 0, .slice none 0 0⟩ (h.sub (.cons rfl (.cons rfl (.cons rfl (.cons rfl (.cons rfl (.cons rfl .nil))))))) ⟨Nat.zero_le _, Own.nil _, Own.nil _, (by intro k hk; cases hk), rfl, rfl, Nat.le_refl _, by simpa using hl8, fun _ => rfl, rfl, hf⟩ ?_
 clear h a hf
 rintro ⟨i, xs, ys, X, Y⟩ w1 a h ⟨hi, hX, hY, hdis, hok, hfy, hxy, h8, hne, hgo, hf⟩
 simp only at hi hX hY hdis hok hfy hxy h8 hne hgo h
 obtain ⟨YA, yc, rfl, hyc⟩ := hY.sl.form
 refine wp_seq ?_
 refine wp_seq ?_
 refine wR ?_
 refine st_move h rfl rfl ?_; clear h a; intro a h
 refine st_move h rfl rfl ?_; clear h a; intro a h
 refine st_lenS h rfl Tryd.underlying30 rfl ?_; clear h a; intro a h
 refine st_lt h rfl rfl rfl ?_; clear h a; intro a h
 replace h : Ag a 141 [(0, _), (1, _), (6, _), (7, _), (8, _), (9, _), (20, _)] := h.sub (.cons rfl (.cons rfl (.cons rfl (.cons rfl (.cons rfl (.cons rfl (.cons rfl .nil)))))))
 refine wnt ?_
 first | refine cond_dec h rfl (fun c0 => ?_) (fun c0 => ?_) | refine cond_ndec h rfl (fun c0 => ?_) (fun c0 => ?_) | refine cond_split h rfl (fun c0 => ?_) (fun c0 => ?_)
 ·refine id ?_
  refine wsn ?_
  refine wp_seq ?_
  refine wp_block ?_
  refine wp_seq ?_
  refine wR ?_
  refine st_assign h rfl rfl ?_; clear h a; intro a h
  replace h : Ag a 141 [(0, _), (1, _), (6, _), (7, _), (8, _), (9, _), (10, _)] := h.sub (.cons rfl (.cons rfl (.cons rfl (.cons rfl (.cons rfl (.cons rfl (.cons rfl .nil)))))))
  refine wnt ?_
  refine seq_cut (Cut (ι := Int) 141 (fun ch => [(0, .slice A ls.length c), (1, .slice B cs.length d), (6, X), (7, .slice YA ys.length yc), (8, .int .i64 (i : Int)), (9, .int .i64 (xs.length : Int)), (10, .int .u8 ch)]) (fun ch w' => 0 ≤ ch ∧ ch ≤ 255 ∧ ch = ((cs.getD xs.length 0).toNat : Int) ∧ Lw.Own encSt 100 w0.heap.size w' X xs ∧ Lw.Own Enc.i64 3 w0.heap.size w' (.slice YA ys.length yc) ys ∧ Fr [] w0 w')) ?_ ?_
  ·refine id ?_
   refine wp_seq ?_
   refine wR ?_
   refine st_move h rfl rfl ?_; clear h a; intro a h
   refine st_move h rfl rfl ?_; clear h a; intro a h
   refine st_lenS h rfl Tryd.underlying76 rfl ?_; clear h a; intro a h
   refine st_lt h rfl rfl rfl ?_; clear h a; intro a h
   replace h : Ag a 141 [(0, _), (1, _), (6, _), (7, _), (8, _), (9, _), (10, _), (26, _)] := h.sub (.cons rfl (.cons rfl (.cons rfl (.cons rfl (.cons rfl (.cons rfl (.cons rfl (.cons rfl .nil))))))))
   refine wnt ?_
   first | refine cond_dec h rfl (fun c1 => ?_) (fun c1 => ?_) | refine cond_ndec h rfl (fun c1 => ?_) (fun c1 => ?_) | refine cond_split h rfl (fun c1 => ?_) (fun c1 => ?_)
   ·obtain ⟨bx, hbx⟩ : ∃ x, cs[xs.length]? = some x := ⟨_, List.getElem?_eq_getElem (by omega)⟩
    obtain ⟨bd, hBx, cbx⟩ := hB _ bx hbx
    refine wR ?_
    refine st_move h rfl rfl ?_; clear h a; intro a h
    refine st_move h rfl rfl ?_; clear h a; intro a h
    refine st_idxS h (by rw [hBx]; rfl) rfl el76 (by omega) (by omega) rfl rfl ?_; clear h a; intro a h
    refine st_loadC0 h rfl (cbx.fr hf (by simp)) na5 rfl ?_; clear h a; intro a h
    refine st_assign h rfl rfl ?_; clear h a; intro a h
    replace h : Ag a 141 [(0, _), (1, _), (6, _), (7, _), (8, _), (9, _), (10, _)] := h.sub (.cons rfl (.cons rfl (.cons rfl (.cons rfl (.cons rfl (.cons rfl (.cons rfl .nil)))))))
    refine wnt ?_
    exact ⟨_, h.sub (.cons rfl (.cons rfl (.cons rfl (.cons rfl (.cons rfl (.cons rfl (.cons rfl .nil))))))), by first | omega | exact (byte_rng _).1, by first | omega | exact (byte_rng _).2, by first | (rw [getD_of hbx]; done) | (rw [getD_out (by omega)]; rfl), hX, hY, hf⟩
   ·refine id ?_
    refine wsn ?_
    exact ⟨_, h.sub (.cons rfl (.cons rfl (.cons rfl (.cons rfl (.cons rfl (.cons rfl (.cons rfl .nil))))))), by first | omega | exact (byte_rng _).1, by first | omega | exact (byte_rng _).2, by first | (rw [getD_of hbx]; done) | (rw [getD_out (by omega)]; rfl), hX, hY, hf⟩
  ·clear h a hX hY hf
   rintro a w2 ⟨ch, h, ⟨ch0, ch1, hchs, hX, hY, hf⟩⟩
   refine wp_seq ?_
   refine wR ?_
   refine st_move h rfl rfl ?_; clear h a; intro a h
   refine st_quo h rfl rfl (by omega) (by first | exact IntWalk.u8_quo _ _ (by omega) | rfl) rfl ?_; clear h a; intro a h
   refine st_rem h rfl rfl (by omega) (by first | exact IntWalk.rem_in _ _ (by omega) | rfl) rfl ?_; clear h a; intro a h
   refine st_add h rfl rfl (by first | exact IntWalk.u8_in _ (by omega) | rfl) rfl ?_; clear h a; intro a h
   refine st_lit (cs := [_, _, _, _, _]) h (evs_cons rfl (evs_cons rfl evs_nil)) bo100 (pok_cons rfl rfl rfl (pok_cons rfl rfl rfl pok_nil)) rfl rfl ?_; clear h a; intro a h
   refine st_alloc h zv100 rfl rfl ?_; clear h a; intro w3 hb11 hq hz a h
   obtain ⟨g_11, hg⟩ : ∃ g, g = w2.heap.size := ⟨_, rfl⟩; rw [← hg] at hb11 h hz
   have hl11 : w0.heap.size ≤ g_11 := by have := hf.size; omega
   have hlt_hX_11 : ∀ k ∈ blks X, k < g_11 := fun k hk => by have := (hX.blk k hk).2; omega
   have hlt_hY_11 : ∀ k ∈ blks (.slice YA ys.length yc), k < g_11 := fun k hk => by have := (hY.blk k hk).2; omega
   replace hf := hf.next hq
   replace hX := hX.ext hq
   replace hY := hY.ext hq
   clear hq hz hg
   refine st_storeBA h rfl rfl hb11 rfl (by first | (simp [Value.oneCell', S]; done) | exact Enc.one _ _) sz100 ?_; clear h a; intro w4 hbn hq hz a h
   replace hf := hf.step hq (by first | (simp; done) | (simp; omega))
   replace hX := hX.fr hq (by intro k hk hb; simp at hk; subst hk; exact absurd (hlt_hX_11 _ hb) (by omega))
   replace hY := hY.fr hq (by intro k hk hb; simp at hk; subst hk; exact absurd (hlt_hY_11 _ hb) (by omega))
   clear hb11 hq hz; have hb11 : Blk w4 g_11 _ [_, _, _, _, _] := hbn; clear hbn
   replace hb11 : Blk w4 g_11 100 [.int .u8 1, .int .u8 (1 + ch / 16 % 3), .int .i64 0, .int .i64 0, .bool false] := hb11
   replace h : Ag a 141 [(0, _), (1, _), (6, _), (7, _), (8, _), (9, _), (10, _), (11, _)] := h.sub (.cons rfl (.cons rfl (.cons rfl (.cons rfl (.cons rfl (.cons rfl (.cons rfl (.cons rfl .nil))))))))
   refine wnt ?_
   refine wp_seq ?_
   refine wR ?_
   refine st_move h rfl rfl ?_; clear h a; intro a h
   refine st_lenS h rfl Tryd.underlying30 rfl ?_; clear h a; intro a h
   refine st_move h rfl rfl ?_; clear h a; intro a h
   refine st_sub h rfl rfl (by first | exact IntWalk.i64_in _ (by omega) | rfl) rfl ?_; clear h a; intro a h
   refine st_assign h rfl rfl ?_; clear h a; intro a h
   replace h : Ag a 141 [(0, _), (1, _), (6, _), (7, _), (8, _), (9, _), (10, _), (11, _), (12, _)] := h.sub (.cons rfl (.cons rfl (.cons rfl (.cons rfl (.cons rfl (.cons rfl (.cons rfl (.cons rfl (.cons rfl .nil)))))))))
   refine wnt ?_
   refine seq_cut (Cut (ι := Stitch) 141 (fun s => [(0, .slice A ls.length c), (1, .slice B cs.length d), (6, X), (7, .slice YA ys.length yc), (8, .int .i64 (i : Int)), (9, .int .i64 (xs.length : Int)), (11, .pointer (some ⟨g_11, 0, none⟩))]) (fun s w' => Blk w' g_11 100 [.int .u8 s.k, .int .u8 s.y, .int .i64 s.a, .int .i64 s.b, .bool s.f] ∧ Fit ls i ys.length s ∧ s = pickS ls i ys.length ch ∧ Lw.Own encSt 100 w0.heap.size w' X xs ∧ Lw.Own Enc.i64 3 w0.heap.size w' (.slice YA ys.length yc) ys ∧ Fr [] w0 w')) ?_ ?_
   ·refine id ?_
    refine wp_seq ?_
    refine wR ?_
    refine st_move h rfl rfl ?_; clear h a; intro a h
    refine st_rem h rfl rfl (by omega) (by first | exact IntWalk.rem_in _ _ (by omega) | rfl) rfl ?_; clear h a; intro a h
    replace h : Ag a 141 [(0, _), (1, _), (6, _), (7, _), (8, _), (9, _), (10, _), (11, _), (12, _), (41, _)] := h.sub (.cons rfl (.cons rfl (.cons rfl (.cons rfl (.cons rfl (.cons rfl (.cons rfl (.cons rfl (.cons rfl (.cons rfl .nil))))))))))
    refine wnt ?_
    refine wp_block ?_
    refine wp_seq ?_
    refine wp_seq ?_
    refine wR ?_
    refine st_eq h rfl rfl rfl ?_; clear h a; intro a h
    refine st_assign h rfl rfl ?_; clear h a; intro a h
    replace h : Ag a 141 [(0, _), (1, _), (6, _), (7, _), (8, _), (9, _), (10, _), (11, _), (12, _), (41, _), (42, _)] := h.sub (.cons rfl (.cons rfl (.cons rfl (.cons rfl (.cons rfl (.cons rfl (.cons rfl (.cons rfl (.cons rfl (.cons rfl (.cons rfl .nil)))))))))))
    refine wnt ?_
    first | refine cond_dec h rfl (fun c2 => ?_) (fun c2 => ?_) | refine cond_ndec h rfl (fun c2 => ?_) (fun c2 => ?_) | refine cond_split h rfl (fun c2 => ?_) (fun c2 => ?_)
    ·refine id ?_
     rw [decide_eq_true c2] at h
     refine wsn ?_
     refine cond_true h rfl ?_
     refine wR ?_
     refine st_fieldAddr h rfl fa100_0 rfl ?_; clear h a; intro a h
     refine st_storeB h rfl rfl hb11 rfl rfl rfl sz87 ?_; clear h a; intro w5 hbn hq hz a h
     replace hf := hf.step hq (by first | (simp; done) | (simp; omega))
     replace hX := hX.fr hq (by intro k hk hb; simp at hk; subst hk; exact absurd (hlt_hX_11 _ hb) (by omega))
     replace hY := hY.fr hq (by intro k hk hb; simp at hk; subst hk; exact absurd (hlt_hY_11 _ hb) (by omega))
     clear hb11 hq hz; have hb11 : Blk w5 g_11 _ [_, _, _, _, _] := hbn; clear hbn
     replace h : Ag a 141 [(0, _), (1, _), (6, _), (7, _), (8, _), (9, _), (11, _)] := h.sub (.cons rfl (.cons rfl (.cons rfl (.cons rfl (.cons rfl (.cons rfl (.cons rfl .nil)))))))
     refine wpList_nil (norm_blk (norm_then ?_))
     first | exact ⟨⟨kx.k, 1 + ch / 16 % 3, kx.a, kx.b, kx.f⟩, h.sub (.cons rfl (.cons rfl (.cons rfl (.cons rfl (.cons rfl (.cons rfl (.cons rfl .nil))))))), hb11, fitC hk7.1 (by omega) hk7.2.2.1 hk7.2.2.2.1 hk7.2.2.2.2 hfl (by omega), (by first | exact pick_purl (by omega) | exact pick_over (by omega) (by omega) | exact pick_over' (by omega) (by omega) | exact pick_two hxp hxq (by omega) (by omega) (by omega) | exact pick_two' hxp hxq (by omega) (by omega) | exact pick_twox (by omega) (by omega) | exact pick_tuck hxp (by omega) (by omega) | exact pick_tuck' hxp (by omega) (by omega) | exact pick_slip (by omega) | exact pick_cable hkx (by omega) (by omega) | exact pick_cable' hkx (by omega) (by omega) | exact pick_knit (by omega)), hX, hY, hf⟩ | exact ⟨⟨_, _, _, _, _⟩, h.sub (.cons rfl (.cons rfl (.cons rfl (.cons rfl (.cons rfl (.cons rfl (.cons rfl .nil))))))), hb11, by first | exact fitP (by omega) (by omega) (by omega) hfl | exact fitO (by omega) (by omega) (by omega) hfl (by omega) | exact fitT (by omega) (by omega) (by omega) hfl hxp hxq (by omega) | exact fitU (by omega) (by omega) (by omega) hfl hxp (by omega) | exact fitS (by omega) (by omega) (by omega) hfl, (by first | exact pick_purl (by omega) | exact pick_over (by omega) (by omega) | exact pick_over' (by omega) (by omega) | exact pick_two hxp hxq (by omega) (by omega) (by omega) | exact pick_two' hxp hxq (by omega) (by omega) | exact pick_twox (by omega) (by omega) | exact pick_tuck hxp (by omega) (by omega) | exact pick_tuck' hxp (by omega) (by omega) | exact pick_slip (by omega) | exact pick_cable hkx (by omega) (by omega) | exact pick_cable' hkx (by omega) (by omega) | exact pick_knit (by omega)), hX, hY, hf⟩
    ·refine id ?_
     rw [decide_eq_false c2] at h
     refine wR ?_
     refine st_eq h rfl rfl rfl ?_; clear h a; intro a h
     refine st_assign h rfl rfl ?_; clear h a; intro a h
     replace h : Ag a 141 [(0, _), (1, _), (6, _), (7, _), (8, _), (9, _), (10, _), (11, _), (12, _), (41, _), (42, _)] := h.sub (.cons rfl (.cons rfl (.cons rfl (.cons rfl (.cons rfl (.cons rfl (.cons rfl (.cons rfl (.cons rfl (.cons rfl (.cons rfl .nil)))))))))))
     refine wnt ?_
     first | refine cond_dec h rfl (fun c3 => ?_) (fun c3 => ?_) | refine cond_ndec h rfl (fun c3 => ?_) (fun c3 => ?_) | refine cond_split h rfl (fun c3 => ?_) (fun c3 => ?_)
     ·refine id ?_
      refine wR ?_
      refine st_fieldAddr h rfl fa100_0 rfl ?_; clear h a; intro a h
      refine st_storeB h rfl rfl hb11 rfl rfl rfl sz87 ?_; clear h a; intro w6 hbn hq hz a h
      replace hf := hf.step hq (by first | (simp; done) | (simp; omega))
      replace hX := hX.fr hq (by intro k hk hb; simp at hk; subst hk; exact absurd (hlt_hX_11 _ hb) (by omega))
      replace hY := hY.fr hq (by intro k hk hb; simp at hk; subst hk; exact absurd (hlt_hY_11 _ hb) (by omega))
      clear hb11 hq hz; have hb11 : Blk w6 g_11 _ [_, _, _, _, _] := hbn; clear hbn
      replace h : Ag a 141 [(0, _), (1, _), (6, _), (7, _), (8, _), (9, _), (11, _)] := h.sub (.cons rfl (.cons rfl (.cons rfl (.cons rfl (.cons rfl (.cons rfl (.cons rfl .nil)))))))
      refine wpList_nil (norm_blk (norm_then ?_))
      first | exact ⟨⟨kx.k, 1 + ch / 16 % 3, kx.a, kx.b, kx.f⟩, h.sub (.cons rfl (.cons rfl (.cons rfl (.cons rfl (.cons rfl (.cons rfl (.cons rfl .nil))))))), hb11, fitC hk7.1 (by omega) hk7.2.2.1 hk7.2.2.2.1 hk7.2.2.2.2 hfl (by omega), (by first | exact pick_purl (by omega) | exact pick_over (by omega) (by omega) | exact pick_over' (by omega) (by omega) | exact pick_two hxp hxq (by omega) (by omega) (by omega) | exact pick_two' hxp hxq (by omega) (by omega) | exact pick_twox (by omega) (by omega) | exact pick_tuck hxp (by omega) (by omega) | exact pick_tuck' hxp (by omega) (by omega) | exact pick_slip (by omega) | exact pick_cable hkx (by omega) (by omega) | exact pick_cable' hkx (by omega) (by omega) | exact pick_knit (by omega)), hX, hY, hf⟩ | exact ⟨⟨_, _, _, _, _⟩, h.sub (.cons rfl (.cons rfl (.cons rfl (.cons rfl (.cons rfl (.cons rfl (.cons rfl .nil))))))), hb11, by first | exact fitP (by omega) (by omega) (by omega) hfl | exact fitO (by omega) (by omega) (by omega) hfl (by omega) | exact fitT (by omega) (by omega) (by omega) hfl hxp hxq (by omega) | exact fitU (by omega) (by omega) (by omega) hfl hxp (by omega) | exact fitS (by omega) (by omega) (by omega) hfl, (by first | exact pick_purl (by omega) | exact pick_over (by omega) (by omega) | exact pick_over' (by omega) (by omega) | exact pick_two hxp hxq (by omega) (by omega) (by omega) | exact pick_two' hxp hxq (by omega) (by omega) | exact pick_twox (by omega) (by omega) | exact pick_tuck hxp (by omega) (by omega) | exact pick_tuck' hxp (by omega) (by omega) | exact pick_slip (by omega) | exact pick_cable hkx (by omega) (by omega) | exact pick_cable' hkx (by omega) (by omega) | exact pick_knit (by omega)), hX, hY, hf⟩
     ·refine id ?_
      refine wp_seq ?_
      refine wR ?_
      refine st_eq h rfl rfl rfl ?_; clear h a; intro a h
      refine st_assign h rfl rfl ?_; clear h a; intro a h
      replace h : Ag a 141 [(0, _), (1, _), (6, _), (7, _), (8, _), (9, _), (10, _), (11, _), (12, _), (41, _), (46, _)] := h.sub (.cons rfl (.cons rfl (.cons rfl (.cons rfl (.cons rfl (.cons rfl (.cons rfl (.cons rfl (.cons rfl (.cons rfl (.cons rfl .nil)))))))))))
      refine wnt ?_
      first | refine cond_dec h rfl (fun c4 => ?_) (fun c4 => ?_) | refine cond_ndec h rfl (fun c4 => ?_) (fun c4 => ?_) | refine cond_split h rfl (fun c4 => ?_) (fun c4 => ?_)
      ·refine id ?_
       refine wp_seq ?_
       refine wR ?_
       refine st_move h rfl rfl ?_; clear h a; intro a h
       refine st_lenS h rfl Tryd.underlying30 rfl ?_; clear h a; intro a h
       refine st_move h rfl rfl ?_; clear h a; intro a h
       refine st_add h rfl rfl (by first | exact IntWalk.i64_in _ (by omega) | rfl) rfl ?_; clear h a; intro a h
       refine st_lt h rfl rfl rfl ?_; clear h a; intro a h
       replace h : Ag a 141 [(0, _), (1, _), (6, _), (7, _), (8, _), (9, _), (11, _), (52, _)] := h.sub (.cons rfl (.cons rfl (.cons rfl (.cons rfl (.cons rfl (.cons rfl (.cons rfl (.cons rfl .nil))))))))
       refine wnt ?_
       first | refine cond_dec h rfl (fun c5 => ?_) (fun c5 => ?_) | refine cond_ndec h rfl (fun c5 => ?_) (fun c5 => ?_) | refine cond_split h rfl (fun c5 => ?_) (fun c5 => ?_)
       ·refine id ?_
        refine wR ?_
        refine st_fieldAddr h rfl fa100_0 rfl ?_; clear h a; intro a h
        refine st_storeB h rfl rfl hb11 rfl rfl rfl sz87 ?_; clear h a; intro w7 hbn hq hz a h
        replace hf := hf.step hq (by first | (simp; done) | (simp; omega))
        replace hX := hX.fr hq (by intro k hk hb; simp at hk; subst hk; exact absurd (hlt_hX_11 _ hb) (by omega))
        replace hY := hY.fr hq (by intro k hk hb; simp at hk; subst hk; exact absurd (hlt_hY_11 _ hb) (by omega))
        clear hb11 hq hz; have hb11 : Blk w7 g_11 _ [_, _, _, _, _] := hbn; clear hbn
        replace h : Ag a 141 [(0, _), (1, _), (6, _), (7, _), (8, _), (9, _), (11, _)] := h.sub (.cons rfl (.cons rfl (.cons rfl (.cons rfl (.cons rfl (.cons rfl (.cons rfl .nil)))))))
        refine wpList_nil (norm_blk (norm_then ?_))
        first | exact ⟨⟨kx.k, 1 + ch / 16 % 3, kx.a, kx.b, kx.f⟩, h.sub (.cons rfl (.cons rfl (.cons rfl (.cons rfl (.cons rfl (.cons rfl (.cons rfl .nil))))))), hb11, fitC hk7.1 (by omega) hk7.2.2.1 hk7.2.2.2.1 hk7.2.2.2.2 hfl (by omega), (by first | exact pick_purl (by omega) | exact pick_over (by omega) (by omega) | exact pick_over' (by omega) (by omega) | exact pick_two hxp hxq (by omega) (by omega) (by omega) | exact pick_two' hxp hxq (by omega) (by omega) | exact pick_twox (by omega) (by omega) | exact pick_tuck hxp (by omega) (by omega) | exact pick_tuck' hxp (by omega) (by omega) | exact pick_slip (by omega) | exact pick_cable hkx (by omega) (by omega) | exact pick_cable' hkx (by omega) (by omega) | exact pick_knit (by omega)), hX, hY, hf⟩ | exact ⟨⟨_, _, _, _, _⟩, h.sub (.cons rfl (.cons rfl (.cons rfl (.cons rfl (.cons rfl (.cons rfl (.cons rfl .nil))))))), hb11, by first | exact fitP (by omega) (by omega) (by omega) hfl | exact fitO (by omega) (by omega) (by omega) hfl (by omega) | exact fitT (by omega) (by omega) (by omega) hfl hxp hxq (by omega) | exact fitU (by omega) (by omega) (by omega) hfl hxp (by omega) | exact fitS (by omega) (by omega) (by omega) hfl, (by first | exact pick_purl (by omega) | exact pick_over (by omega) (by omega) | exact pick_over' (by omega) (by omega) | exact pick_two hxp hxq (by omega) (by omega) (by omega) | exact pick_two' hxp hxq (by omega) (by omega) | exact pick_twox (by omega) (by omega) | exact pick_tuck hxp (by omega) (by omega) | exact pick_tuck' hxp (by omega) (by omega) | exact pick_slip (by omega) | exact pick_cable hkx (by omega) (by omega) | exact pick_cable' hkx (by omega) (by omega) | exact pick_knit (by omega)), hX, hY, hf⟩
       ·refine id ?_
        refine wp_skip (norm_blk (norm_then ?_))
        first | exact ⟨⟨kx.k, 1 + ch / 16 % 3, kx.a, kx.b, kx.f⟩, h.sub (.cons rfl (.cons rfl (.cons rfl (.cons rfl (.cons rfl (.cons rfl (.cons rfl .nil))))))), hb11, fitC hk7.1 (by omega) hk7.2.2.1 hk7.2.2.2.1 hk7.2.2.2.2 hfl (by omega), (by first | exact pick_purl (by omega) | exact pick_over (by omega) (by omega) | exact pick_over' (by omega) (by omega) | exact pick_two hxp hxq (by omega) (by omega) (by omega) | exact pick_two' hxp hxq (by omega) (by omega) | exact pick_twox (by omega) (by omega) | exact pick_tuck hxp (by omega) (by omega) | exact pick_tuck' hxp (by omega) (by omega) | exact pick_slip (by omega) | exact pick_cable hkx (by omega) (by omega) | exact pick_cable' hkx (by omega) (by omega) | exact pick_knit (by omega)), hX, hY, hf⟩ | exact ⟨⟨_, _, _, _, _⟩, h.sub (.cons rfl (.cons rfl (.cons rfl (.cons rfl (.cons rfl (.cons rfl (.cons rfl .nil))))))), hb11, by first | exact fitP (by omega) (by omega) (by omega) hfl | exact fitO (by omega) (by omega) (by omega) hfl (by omega) | exact fitT (by omega) (by omega) (by omega) hfl hxp hxq (by omega) | exact fitU (by omega) (by omega) (by omega) hfl hxp (by omega) | exact fitS (by omega) (by omega) (by omega) hfl, (by first | exact pick_purl (by omega) | exact pick_over (by omega) (by omega) | exact pick_over' (by omega) (by omega) | exact pick_two hxp hxq (by omega) (by omega) (by omega) | exact pick_two' hxp hxq (by omega) (by omega) | exact pick_twox (by omega) (by omega) | exact pick_tuck hxp (by omega) (by omega) | exact pick_tuck' hxp (by omega) (by omega) | exact pick_slip (by omega) | exact pick_cable hkx (by omega) (by omega) | exact pick_cable' hkx (by omega) (by omega) | exact pick_knit (by omega)), hX, hY, hf⟩
      ·refine id ?_
       refine wp_seq ?_
       refine wp_seq ?_
       refine wR ?_
       refine st_eq h rfl rfl rfl ?_; clear h a; intro a h
       refine st_assign h rfl rfl ?_; clear h a; intro a h
       replace h : Ag a 141 [(0, _), (1, _), (6, _), (7, _), (8, _), (9, _), (10, _), (11, _), (12, _), (41, _), (54, _)] := h.sub (.cons rfl (.cons rfl (.cons rfl (.cons rfl (.cons rfl (.cons rfl (.cons rfl (.cons rfl (.cons rfl (.cons rfl (.cons rfl .nil)))))))))))
       refine wnt ?_
       first | refine cond_dec h rfl (fun c6 => ?_) (fun c6 => ?_) | refine cond_ndec h rfl (fun c6 => ?_) (fun c6 => ?_) | refine cond_split h rfl (fun c6 => ?_) (fun c6 => ?_)
       ·refine id ?_
        rw [decide_eq_true c6] at h
        refine wsn ?_
        refine cond_true h rfl ?_
        refine wp_seq ?_
        refine region_quiet hmix (by kernel_rfl) ?_
        refine qt_move h rfl rfl ?_; clear h a; intro a h
        refine qt_gt h rfl rfl rfl ?_; clear h a; intro a h
        refine qt_move h rfl rfl ?_; clear h a; intro a h
        first | refine guard_dec (D := 59) h rfl ?_ ?_ | refine guard_ndec (D := 59) h rfl ?_ ?_ | refine guard_any (D := 59) h rfl ?_ ?_
        ·clear h; intro g0 h
         refine qd_yes h rfl rfl rfl rfl rfl rfl ?_
         refine qt_move h rfl rfl ?_; clear h a; intro a h
         refine qd_yes h rfl rfl rfl rfl rfl rfl ?_
         refine qt_move h rfl rfl ?_; clear h a; intro a h
         refine qd_yes h rfl rfl rfl rfl rfl rfl ?_
         obtain ⟨p, hxp⟩ : ∃ x, ls[i]? = some x := ⟨_, List.getElem?_eq_getElem (by omega)⟩
         obtain ⟨pa, hAp, cp⟩ := hA _ p hxp
         have hfp := (few_iff p).1 (List.all_eq_true.1 hfl p (List.mem_of_getElem? hxp))
         obtain ⟨q, hxq⟩ : ∃ x, ls[i + 1]? = some x := ⟨_, List.getElem?_eq_getElem (by omega)⟩
         obtain ⟨qa, hAq, cq⟩ := hA _ q hxq
         have hfq := (few_iff q).1 (List.all_eq_true.1 hfl q (List.mem_of_getElem? hxq))
         refine qt_idxS (p := i) h (by rw [hAp]; rfl) rfl el30 (by omega) (by omega) (by omega) rfl ?_; clear h a; intro a h
         refine qd_yes h rfl rfl rfl rfl rfl rfl ?_
         refine qt_loadC0 h rfl (fun _ hw => (cp.fr hf (by simp)).fr hw (by simp)) na3 rfl ?_; clear h a; intro a h
         refine qd_yes h rfl rfl rfl rfl rfl rfl ?_
         refine qt_move h rfl rfl ?_; clear h a; intro a h
         refine qd_yes h rfl rfl rfl rfl rfl rfl ?_
         refine qt_move h rfl rfl ?_; clear h a; intro a h
         refine qd_yes h rfl rfl rfl rfl rfl rfl ?_
         refine qt_add h rfl rfl (by first | exact IntWalk.i64_in _ (by omega) | rfl) rfl ?_; clear h a; intro a h
         refine qd_yes h rfl rfl rfl rfl rfl rfl ?_
         refine qt_idxS (p := i + 1) h (by rw [hAq]; rfl) rfl el30 (by omega) (by omega) (by omega) rfl ?_; clear h a; intro a h
         refine qd_yes h rfl rfl rfl rfl rfl rfl ?_
         refine qt_loadC0 h rfl (fun _ hw => (cq.fr hf (by simp)).fr hw (by simp)) na3 rfl ?_; clear h a; intro a h
         refine qd_yes h rfl rfl rfl rfl rfl rfl ?_
         refine qt_add h rfl rfl (by first | exact IntWalk.i64_in _ (by omega) | rfl) rfl ?_; clear h a; intro a h
         refine qd_yes h rfl rfl rfl rfl rfl rfl ?_
         refine qt_le h rfl rfl rfl ?_; clear h a; intro a h
         refine qt_pick_t h rfl rfl rfl rfl ?_; clear h a; intro a h
         refine wpQuiet_nil ?_
         intro w8 hq
         replace hf := hf.next hq
         replace hX := hX.ext hq
         replace hY := hY.ext hq
         replace hb11 := hb11.ext hq
         clear hq
         replace h : Ag a 141 [(0, _), (1, _), (6, _), (7, _), (8, _), (9, _), (10, _), (11, _), (71, _)] := h.sub (.cons rfl (.cons rfl (.cons rfl (.cons rfl (.cons rfl (.cons rfl (.cons rfl (.cons rfl (.cons rfl .nil)))))))))
         refine (norm_then ?_)
         first | refine cond_dec h rfl (fun c8 => ?_) (fun c8 => ?_) | refine cond_ndec h rfl (fun c8 => ?_) (fun c8 => ?_) | refine cond_split h rfl (fun c8 => ?_) (fun c8 => ?_)
         ·refine id ?_
          refine wR ?_
          refine st_move h rfl rfl ?_; clear h a; intro a h
          refine st_rem h rfl rfl (by omega) (by first | exact IntWalk.rem_in _ _ (by omega) | rfl) rfl ?_; clear h a; intro a h
          refine st_sub h rfl rfl (by first | exact IntWalk.u8_in _ (by omega) | rfl) rfl ?_; clear h a; intro a h
          refine st_add h rfl rfl (by first | exact IntWalk.u8_in _ (by omega) | rfl) rfl ?_; clear h a; intro a h
          refine st_fieldAddr h rfl fa100_0 rfl ?_; clear h a; intro a h
          refine st_storeB h rfl rfl hb11 rfl rfl rfl sz87 ?_; clear h a; intro w9 hbn hq hz a h
          replace hf := hf.step hq (by first | (simp; done) | (simp; omega))
          replace hX := hX.fr hq (by intro k hk hb; simp at hk; subst hk; exact absurd (hlt_hX_11 _ hb) (by omega))
          replace hY := hY.fr hq (by intro k hk hb; simp at hk; subst hk; exact absurd (hlt_hY_11 _ hb) (by omega))
          clear hb11 hq hz; have hb11 : Blk w9 g_11 _ [_, _, _, _, _] := hbn; clear hbn
          replace h : Ag a 141 [(0, _), (1, _), (6, _), (7, _), (8, _), (9, _), (11, _)] := h.sub (.cons rfl (.cons rfl (.cons rfl (.cons rfl (.cons rfl (.cons rfl (.cons rfl .nil)))))))
          refine wpList_nil (norm_blk (norm_then ?_))
          first | exact ⟨⟨kx.k, 1 + ch / 16 % 3, kx.a, kx.b, kx.f⟩, h.sub (.cons rfl (.cons rfl (.cons rfl (.cons rfl (.cons rfl (.cons rfl (.cons rfl .nil))))))), hb11, fitC hk7.1 (by omega) hk7.2.2.1 hk7.2.2.2.1 hk7.2.2.2.2 hfl (by omega), (by first | exact pick_purl (by omega) | exact pick_over (by omega) (by omega) | exact pick_over' (by omega) (by omega) | exact pick_two hxp hxq (by omega) (by omega) (by omega) | exact pick_two' hxp hxq (by omega) (by omega) | exact pick_twox (by omega) (by omega) | exact pick_tuck hxp (by omega) (by omega) | exact pick_tuck' hxp (by omega) (by omega) | exact pick_slip (by omega) | exact pick_cable hkx (by omega) (by omega) | exact pick_cable' hkx (by omega) (by omega) | exact pick_knit (by omega)), hX, hY, hf⟩ | exact ⟨⟨_, _, _, _, _⟩, h.sub (.cons rfl (.cons rfl (.cons rfl (.cons rfl (.cons rfl (.cons rfl (.cons rfl .nil))))))), hb11, by first | exact fitP (by omega) (by omega) (by omega) hfl | exact fitO (by omega) (by omega) (by omega) hfl (by omega) | exact fitT (by omega) (by omega) (by omega) hfl hxp hxq (by omega) | exact fitU (by omega) (by omega) (by omega) hfl hxp (by omega) | exact fitS (by omega) (by omega) (by omega) hfl, (by first | exact pick_purl (by omega) | exact pick_over (by omega) (by omega) | exact pick_over' (by omega) (by omega) | exact pick_two hxp hxq (by omega) (by omega) (by omega) | exact pick_two' hxp hxq (by omega) (by omega) | exact pick_twox (by omega) (by omega) | exact pick_tuck hxp (by omega) (by omega) | exact pick_tuck' hxp (by omega) (by omega) | exact pick_slip (by omega) | exact pick_cable hkx (by omega) (by omega) | exact pick_cable' hkx (by omega) (by omega) | exact pick_knit (by omega)), hX, hY, hf⟩
         ·refine id ?_
          refine wp_skip (norm_blk (norm_then ?_))
          first | exact ⟨⟨kx.k, 1 + ch / 16 % 3, kx.a, kx.b, kx.f⟩, h.sub (.cons rfl (.cons rfl (.cons rfl (.cons rfl (.cons rfl (.cons rfl (.cons rfl .nil))))))), hb11, fitC hk7.1 (by omega) hk7.2.2.1 hk7.2.2.2.1 hk7.2.2.2.2 hfl (by omega), (by first | exact pick_purl (by omega) | exact pick_over (by omega) (by omega) | exact pick_over' (by omega) (by omega) | exact pick_two hxp hxq (by omega) (by omega) (by omega) | exact pick_two' hxp hxq (by omega) (by omega) | exact pick_twox (by omega) (by omega) | exact pick_tuck hxp (by omega) (by omega) | exact pick_tuck' hxp (by omega) (by omega) | exact pick_slip (by omega) | exact pick_cable hkx (by omega) (by omega) | exact pick_cable' hkx (by omega) (by omega) | exact pick_knit (by omega)), hX, hY, hf⟩ | exact ⟨⟨_, _, _, _, _⟩, h.sub (.cons rfl (.cons rfl (.cons rfl (.cons rfl (.cons rfl (.cons rfl (.cons rfl .nil))))))), hb11, by first | exact fitP (by omega) (by omega) (by omega) hfl | exact fitO (by omega) (by omega) (by omega) hfl (by omega) | exact fitT (by omega) (by omega) (by omega) hfl hxp hxq (by omega) | exact fitU (by omega) (by omega) (by omega) hfl hxp (by omega) | exact fitS (by omega) (by omega) (by omega) hfl, (by first | exact pick_purl (by omega) | exact pick_over (by omega) (by omega) | exact pick_over' (by omega) (by omega) | exact pick_two hxp hxq (by omega) (by omega) (by omega) | exact pick_two' hxp hxq (by omega) (by omega) | exact pick_twox (by omega) (by omega) | exact pick_tuck hxp (by omega) (by omega) | exact pick_tuck' hxp (by omega) (by omega) | exact pick_slip (by omega) | exact pick_cable hkx (by omega) (by omega) | exact pick_cable' hkx (by omega) (by omega) | exact pick_knit (by omega)), hX, hY, hf⟩
        ·clear h; intro g0 h
         refine qd_no h rfl rfl rfl rfl rfl rfl rfl rfl ?_; clear h a; intro a h
         refine qd_no h rfl rfl rfl rfl rfl rfl rfl rfl ?_; clear h a; intro a h
         refine qd_no h rfl rfl rfl rfl rfl rfl rfl rfl ?_; clear h a; intro a h
         refine qd_no h rfl rfl rfl rfl rfl rfl rfl rfl ?_; clear h a; intro a h
         refine qd_no h rfl rfl rfl rfl rfl rfl rfl rfl ?_; clear h a; intro a h
         refine qd_no h rfl rfl rfl rfl rfl rfl rfl rfl ?_; clear h a; intro a h
         refine qd_no h rfl rfl rfl rfl rfl rfl rfl rfl ?_; clear h a; intro a h
         refine qd_no h rfl rfl rfl rfl rfl rfl rfl rfl ?_; clear h a; intro a h
         refine qd_no h rfl rfl rfl rfl rfl rfl rfl rfl ?_; clear h a; intro a h
         refine qd_no h rfl rfl rfl rfl rfl rfl rfl rfl ?_; clear h a; intro a h
         refine qd_no h rfl rfl rfl rfl rfl rfl rfl rfl ?_; clear h a; intro a h
         refine qt_pick_f h rfl rfl rfl rfl ?_; clear h a; intro a h
         refine wpQuiet_nil ?_
         intro w10 hq
         replace hf := hf.next hq
         replace hX := hX.ext hq
         replace hY := hY.ext hq
         replace hb11 := hb11.ext hq
         clear hq
         replace h : Ag a 141 [(0, _), (1, _), (6, _), (7, _), (8, _), (9, _), (10, _), (11, _), (71, _)] := h.sub (.cons rfl (.cons rfl (.cons rfl (.cons rfl (.cons rfl (.cons rfl (.cons rfl (.cons rfl (.cons rfl .nil)))))))))
         refine (norm_then ?_)
         refine cond_false h rfl ?_
         refine wp_skip (norm_blk (norm_then ?_))
         first | exact ⟨⟨kx.k, 1 + ch / 16 % 3, kx.a, kx.b, kx.f⟩, h.sub (.cons rfl (.cons rfl (.cons rfl (.cons rfl (.cons rfl (.cons rfl (.cons rfl .nil))))))), hb11, fitC hk7.1 (by omega) hk7.2.2.1 hk7.2.2.2.1 hk7.2.2.2.2 hfl (by omega), (by first | exact pick_purl (by omega) | exact pick_over (by omega) (by omega) | exact pick_over' (by omega) (by omega) | exact pick_two hxp hxq (by omega) (by omega) (by omega) | exact pick_two' hxp hxq (by omega) (by omega) | exact pick_twox (by omega) (by omega) | exact pick_tuck hxp (by omega) (by omega) | exact pick_tuck' hxp (by omega) (by omega) | exact pick_slip (by omega) | exact pick_cable hkx (by omega) (by omega) | exact pick_cable' hkx (by omega) (by omega) | exact pick_knit (by omega)), hX, hY, hf⟩ | exact ⟨⟨_, _, _, _, _⟩, h.sub (.cons rfl (.cons rfl (.cons rfl (.cons rfl (.cons rfl (.cons rfl (.cons rfl .nil))))))), hb11, by first | exact fitP (by omega) (by omega) (by omega) hfl | exact fitO (by omega) (by omega) (by omega) hfl (by omega) | exact fitT (by omega) (by omega) (by omega) hfl hxp hxq (by omega) | exact fitU (by omega) (by omega) (by omega) hfl hxp (by omega) | exact fitS (by omega) (by omega) (by omega) hfl, (by first | exact pick_purl (by omega) | exact pick_over (by omega) (by omega) | exact pick_over' (by omega) (by omega) | exact pick_two hxp hxq (by omega) (by omega) (by omega) | exact pick_two' hxp hxq (by omega) (by omega) | exact pick_twox (by omega) (by omega) | exact pick_tuck hxp (by omega) (by omega) | exact pick_tuck' hxp (by omega) (by omega) | exact pick_slip (by omega) | exact pick_cable hkx (by omega) (by omega) | exact pick_cable' hkx (by omega) (by omega) | exact pick_knit (by omega)), hX, hY, hf⟩
       ·refine id ?_
        rw [decide_eq_false c6] at h
        refine wR ?_
        refine st_eq h rfl rfl rfl ?_; clear h a; intro a h
        refine st_assign h rfl rfl ?_; clear h a; intro a h
        replace h : Ag a 141 [(0, _), (1, _), (6, _), (7, _), (8, _), (9, _), (10, _), (11, _), (12, _), (41, _), (54, _)] := h.sub (.cons rfl (.cons rfl (.cons rfl (.cons rfl (.cons rfl (.cons rfl (.cons rfl (.cons rfl (.cons rfl (.cons rfl (.cons rfl .nil)))))))))))
        refine wnt ?_
        first | refine cond_dec h rfl (fun c7 => ?_) (fun c7 => ?_) | refine cond_ndec h rfl (fun c7 => ?_) (fun c7 => ?_) | refine cond_split h rfl (fun c7 => ?_) (fun c7 => ?_)
        ·refine id ?_
         refine wp_seq ?_
         refine region_quiet hmix (by kernel_rfl) ?_
         refine qt_move h rfl rfl ?_; clear h a; intro a h
         refine qt_gt h rfl rfl rfl ?_; clear h a; intro a h
         refine qt_move h rfl rfl ?_; clear h a; intro a h
         first | refine guard_dec (D := 59) h rfl ?_ ?_ | refine guard_ndec (D := 59) h rfl ?_ ?_ | refine guard_any (D := 59) h rfl ?_ ?_
         ·clear h; intro g1 h
          refine qd_yes h rfl rfl rfl rfl rfl rfl ?_
          refine qt_move h rfl rfl ?_; clear h a; intro a h
          refine qd_yes h rfl rfl rfl rfl rfl rfl ?_
          refine qt_move h rfl rfl ?_; clear h a; intro a h
          refine qd_yes h rfl rfl rfl rfl rfl rfl ?_
          obtain ⟨p, hxp⟩ : ∃ x, ls[i]? = some x := ⟨_, List.getElem?_eq_getElem (by omega)⟩
          obtain ⟨pa, hAp, cp⟩ := hA _ p hxp
          have hfp := (few_iff p).1 (List.all_eq_true.1 hfl p (List.mem_of_getElem? hxp))
          obtain ⟨q, hxq⟩ : ∃ x, ls[i + 1]? = some x := ⟨_, List.getElem?_eq_getElem (by omega)⟩
          obtain ⟨qa, hAq, cq⟩ := hA _ q hxq
          have hfq := (few_iff q).1 (List.all_eq_true.1 hfl q (List.mem_of_getElem? hxq))
          refine qt_idxS (p := i) h (by rw [hAp]; rfl) rfl el30 (by omega) (by omega) (by omega) rfl ?_; clear h a; intro a h
          refine qd_yes h rfl rfl rfl rfl rfl rfl ?_
          refine qt_loadC0 h rfl (fun _ hw => (cp.fr hf (by simp)).fr hw (by simp)) na3 rfl ?_; clear h a; intro a h
          refine qd_yes h rfl rfl rfl rfl rfl rfl ?_
          refine qt_move h rfl rfl ?_; clear h a; intro a h
          refine qd_yes h rfl rfl rfl rfl rfl rfl ?_
          refine qt_move h rfl rfl ?_; clear h a; intro a h
          refine qd_yes h rfl rfl rfl rfl rfl rfl ?_
          refine qt_add h rfl rfl (by first | exact IntWalk.i64_in _ (by omega) | rfl) rfl ?_; clear h a; intro a h
          refine qd_yes h rfl rfl rfl rfl rfl rfl ?_
          refine qt_idxS (p := i + 1) h (by rw [hAq]; rfl) rfl el30 (by omega) (by omega) (by omega) rfl ?_; clear h a; intro a h
          refine qd_yes h rfl rfl rfl rfl rfl rfl ?_
          refine qt_loadC0 h rfl (fun _ hw => (cq.fr hf (by simp)).fr hw (by simp)) na3 rfl ?_; clear h a; intro a h
          refine qd_yes h rfl rfl rfl rfl rfl rfl ?_
          refine qt_add h rfl rfl (by first | exact IntWalk.i64_in _ (by omega) | rfl) rfl ?_; clear h a; intro a h
          refine qd_yes h rfl rfl rfl rfl rfl rfl ?_
          refine qt_le h rfl rfl rfl ?_; clear h a; intro a h
          refine qt_pick_t h rfl rfl rfl rfl ?_; clear h a; intro a h
          refine wpQuiet_nil ?_
          intro w11 hq
          replace hf := hf.next hq
          replace hX := hX.ext hq
          replace hY := hY.ext hq
          replace hb11 := hb11.ext hq
          clear hq
          replace h : Ag a 141 [(0, _), (1, _), (6, _), (7, _), (8, _), (9, _), (10, _), (11, _), (71, _)] := h.sub (.cons rfl (.cons rfl (.cons rfl (.cons rfl (.cons rfl (.cons rfl (.cons rfl (.cons rfl (.cons rfl .nil)))))))))
          refine (norm_then ?_)
          first | refine cond_dec h rfl (fun c8 => ?_) (fun c8 => ?_) | refine cond_ndec h rfl (fun c8 => ?_) (fun c8 => ?_) | refine cond_split h rfl (fun c8 => ?_) (fun c8 => ?_)
          ·refine id ?_
           refine wR ?_
           refine st_move h rfl rfl ?_; clear h a; intro a h
           refine st_rem h rfl rfl (by omega) (by first | exact IntWalk.rem_in _ _ (by omega) | rfl) rfl ?_; clear h a; intro a h
           refine st_sub h rfl rfl (by first | exact IntWalk.u8_in _ (by omega) | rfl) rfl ?_; clear h a; intro a h
           refine st_add h rfl rfl (by first | exact IntWalk.u8_in _ (by omega) | rfl) rfl ?_; clear h a; intro a h
           refine st_fieldAddr h rfl fa100_0 rfl ?_; clear h a; intro a h
           refine st_storeB h rfl rfl hb11 rfl rfl rfl sz87 ?_; clear h a; intro w12 hbn hq hz a h
           replace hf := hf.step hq (by first | (simp; done) | (simp; omega))
           replace hX := hX.fr hq (by intro k hk hb; simp at hk; subst hk; exact absurd (hlt_hX_11 _ hb) (by omega))
           replace hY := hY.fr hq (by intro k hk hb; simp at hk; subst hk; exact absurd (hlt_hY_11 _ hb) (by omega))
           clear hb11 hq hz; have hb11 : Blk w12 g_11 _ [_, _, _, _, _] := hbn; clear hbn
           replace h : Ag a 141 [(0, _), (1, _), (6, _), (7, _), (8, _), (9, _), (11, _)] := h.sub (.cons rfl (.cons rfl (.cons rfl (.cons rfl (.cons rfl (.cons rfl (.cons rfl .nil)))))))
           refine wpList_nil (norm_blk (norm_then ?_))
           first | exact ⟨⟨kx.k, 1 + ch / 16 % 3, kx.a, kx.b, kx.f⟩, h.sub (.cons rfl (.cons rfl (.cons rfl (.cons rfl (.cons rfl (.cons rfl (.cons rfl .nil))))))), hb11, fitC hk7.1 (by omega) hk7.2.2.1 hk7.2.2.2.1 hk7.2.2.2.2 hfl (by omega), (by first | exact pick_purl (by omega) | exact pick_over (by omega) (by omega) | exact pick_over' (by omega) (by omega) | exact pick_two hxp hxq (by omega) (by omega) (by omega) | exact pick_two' hxp hxq (by omega) (by omega) | exact pick_twox (by omega) (by omega) | exact pick_tuck hxp (by omega) (by omega) | exact pick_tuck' hxp (by omega) (by omega) | exact pick_slip (by omega) | exact pick_cable hkx (by omega) (by omega) | exact pick_cable' hkx (by omega) (by omega) | exact pick_knit (by omega)), hX, hY, hf⟩ | exact ⟨⟨_, _, _, _, _⟩, h.sub (.cons rfl (.cons rfl (.cons rfl (.cons rfl (.cons rfl (.cons rfl (.cons rfl .nil))))))), hb11, by first | exact fitP (by omega) (by omega) (by omega) hfl | exact fitO (by omega) (by omega) (by omega) hfl (by omega) | exact fitT (by omega) (by omega) (by omega) hfl hxp hxq (by omega) | exact fitU (by omega) (by omega) (by omega) hfl hxp (by omega) | exact fitS (by omega) (by omega) (by omega) hfl, (by first | exact pick_purl (by omega) | exact pick_over (by omega) (by omega) | exact pick_over' (by omega) (by omega) | exact pick_two hxp hxq (by omega) (by omega) (by omega) | exact pick_two' hxp hxq (by omega) (by omega) | exact pick_twox (by omega) (by omega) | exact pick_tuck hxp (by omega) (by omega) | exact pick_tuck' hxp (by omega) (by omega) | exact pick_slip (by omega) | exact pick_cable hkx (by omega) (by omega) | exact pick_cable' hkx (by omega) (by omega) | exact pick_knit (by omega)), hX, hY, hf⟩
          ·refine id ?_
           refine wp_skip (norm_blk (norm_then ?_))
           first | exact ⟨⟨kx.k, 1 + ch / 16 % 3, kx.a, kx.b, kx.f⟩, h.sub (.cons rfl (.cons rfl (.cons rfl (.cons rfl (.cons rfl (.cons rfl (.cons rfl .nil))))))), hb11, fitC hk7.1 (by omega) hk7.2.2.1 hk7.2.2.2.1 hk7.2.2.2.2 hfl (by omega), (by first | exact pick_purl (by omega) | exact pick_over (by omega) (by omega) | exact pick_over' (by omega) (by omega) | exact pick_two hxp hxq (by omega) (by omega) (by omega) | exact pick_two' hxp hxq (by omega) (by omega) | exact pick_twox (by omega) (by omega) | exact pick_tuck hxp (by omega) (by omega) | exact pick_tuck' hxp (by omega) (by omega) | exact pick_slip (by omega) | exact pick_cable hkx (by omega) (by omega) | exact pick_cable' hkx (by omega) (by omega) | exact pick_knit (by omega)), hX, hY, hf⟩ | exact ⟨⟨_, _, _, _, _⟩, h.sub (.cons rfl (.cons rfl (.cons rfl (.cons rfl (.cons rfl (.cons rfl (.cons rfl .nil))))))), hb11, by first | exact fitP (by omega) (by omega) (by omega) hfl | exact fitO (by omega) (by omega) (by omega) hfl (by omega) | exact fitT (by omega) (by omega) (by omega) hfl hxp hxq (by omega) | exact fitU (by omega) (by omega) (by omega) hfl hxp (by omega) | exact fitS (by omega) (by omega) (by omega) hfl, (by first | exact pick_purl (by omega) | exact pick_over (by omega) (by omega) | exact pick_over' (by omega) (by omega) | exact pick_two hxp hxq (by omega) (by omega) (by omega) | exact pick_two' hxp hxq (by omega) (by omega) | exact pick_twox (by omega) (by omega) | exact pick_tuck hxp (by omega) (by omega) | exact pick_tuck' hxp (by omega) (by omega) | exact pick_slip (by omega) | exact pick_cable hkx (by omega) (by omega) | exact pick_cable' hkx (by omega) (by omega) | exact pick_knit (by omega)), hX, hY, hf⟩
         ·clear h; intro g1 h
          refine qd_no h rfl rfl rfl rfl rfl rfl rfl rfl ?_; clear h a; intro a h
          refine qd_no h rfl rfl rfl rfl rfl rfl rfl rfl ?_; clear h a; intro a h
          refine qd_no h rfl rfl rfl rfl rfl rfl rfl rfl ?_; clear h a; intro a h
          refine qd_no h rfl rfl rfl rfl rfl rfl rfl rfl ?_; clear h a; intro a h
          refine qd_no h rfl rfl rfl rfl rfl rfl rfl rfl ?_; clear h a; intro a h
          refine qd_no h rfl rfl rfl rfl rfl rfl rfl rfl ?_; clear h a; intro a h
          refine qd_no h rfl rfl rfl rfl rfl rfl rfl rfl ?_; clear h a; intro a h
          refine qd_no h rfl rfl rfl rfl rfl rfl rfl rfl ?_; clear h a; intro a h
          refine qd_no h rfl rfl rfl rfl rfl rfl rfl rfl ?_; clear h a; intro a h
          refine qd_no h rfl rfl rfl rfl rfl rfl rfl rfl ?_; clear h a; intro a h
          refine qd_no h rfl rfl rfl rfl rfl rfl rfl rfl ?_; clear h a; intro a h
          refine qt_pick_f h rfl rfl rfl rfl ?_; clear h a; intro a h
          refine wpQuiet_nil ?_
          intro w13 hq
          replace hf := hf.next hq
          replace hX := hX.ext hq
          replace hY := hY.ext hq
          replace hb11 := hb11.ext hq
          clear hq
          replace h : Ag a 141 [(0, _), (1, _), (6, _), (7, _), (8, _), (9, _), (10, _), (11, _), (71, _)] := h.sub (.cons rfl (.cons rfl (.cons rfl (.cons rfl (.cons rfl (.cons rfl (.cons rfl (.cons rfl (.cons rfl .nil)))))))))
          refine (norm_then ?_)
          refine cond_false h rfl ?_
          refine wp_skip (norm_blk (norm_then ?_))
          first | exact ⟨⟨kx.k, 1 + ch / 16 % 3, kx.a, kx.b, kx.f⟩, h.sub (.cons rfl (.cons rfl (.cons rfl (.cons rfl (.cons rfl (.cons rfl (.cons rfl .nil))))))), hb11, fitC hk7.1 (by omega) hk7.2.2.1 hk7.2.2.2.1 hk7.2.2.2.2 hfl (by omega), (by first | exact pick_purl (by omega) | exact pick_over (by omega) (by omega) | exact pick_over' (by omega) (by omega) | exact pick_two hxp hxq (by omega) (by omega) (by omega) | exact pick_two' hxp hxq (by omega) (by omega) | exact pick_twox (by omega) (by omega) | exact pick_tuck hxp (by omega) (by omega) | exact pick_tuck' hxp (by omega) (by omega) | exact pick_slip (by omega) | exact pick_cable hkx (by omega) (by omega) | exact pick_cable' hkx (by omega) (by omega) | exact pick_knit (by omega)), hX, hY, hf⟩ | exact ⟨⟨_, _, _, _, _⟩, h.sub (.cons rfl (.cons rfl (.cons rfl (.cons rfl (.cons rfl (.cons rfl (.cons rfl .nil))))))), hb11, by first | exact fitP (by omega) (by omega) (by omega) hfl | exact fitO (by omega) (by omega) (by omega) hfl (by omega) | exact fitT (by omega) (by omega) (by omega) hfl hxp hxq (by omega) | exact fitU (by omega) (by omega) (by omega) hfl hxp (by omega) | exact fitS (by omega) (by omega) (by omega) hfl, (by first | exact pick_purl (by omega) | exact pick_over (by omega) (by omega) | exact pick_over' (by omega) (by omega) | exact pick_two hxp hxq (by omega) (by omega) (by omega) | exact pick_two' hxp hxq (by omega) (by omega) | exact pick_twox (by omega) (by omega) | exact pick_tuck hxp (by omega) (by omega) | exact pick_tuck' hxp (by omega) (by omega) | exact pick_slip (by omega) | exact pick_cable hkx (by omega) (by omega) | exact pick_cable' hkx (by omega) (by omega) | exact pick_knit (by omega)), hX, hY, hf⟩
        ·refine id ?_
         refine wp_seq ?_
         refine wp_seq ?_
         refine wR ?_
         refine st_eq h rfl rfl rfl ?_; clear h a; intro a h
         refine st_assign h rfl rfl ?_; clear h a; intro a h
         replace h : Ag a 141 [(0, _), (1, _), (6, _), (7, _), (8, _), (9, _), (10, _), (11, _), (12, _), (41, _), (77, _)] := h.sub (.cons rfl (.cons rfl (.cons rfl (.cons rfl (.cons rfl (.cons rfl (.cons rfl (.cons rfl (.cons rfl (.cons rfl (.cons rfl .nil)))))))))))
         refine wnt ?_
         first | refine cond_dec h rfl (fun c9 => ?_) (fun c9 => ?_) | refine cond_ndec h rfl (fun c9 => ?_) (fun c9 => ?_) | refine cond_split h rfl (fun c9 => ?_) (fun c9 => ?_)
         ·refine id ?_
          rw [decide_eq_true c9] at h
          refine wsn ?_
          refine cond_true h rfl ?_
          obtain ⟨p, hxp⟩ : ∃ x, ls[i]? = some x := ⟨_, List.getElem?_eq_getElem (by omega)⟩
          obtain ⟨pa, hAp, cp⟩ := hA _ p hxp
          have hfp := (few_iff p).1 (List.all_eq_true.1 hfl p (List.mem_of_getElem? hxp))
          refine wp_seq ?_
          refine wR ?_
          refine st_move h rfl rfl ?_; clear h a; intro a h
          refine st_move h rfl rfl ?_; clear h a; intro a h
          refine st_idxS (p := i) h (by rw [hAp]; rfl) rfl el30 (by omega) (by omega) (by omega) rfl ?_; clear h a; intro a h
          refine st_loadC0 h rfl (cp.fr hf (by simp)) na3 rfl ?_; clear h a; intro a h
          refine st_lt h rfl rfl rfl ?_; clear h a; intro a h
          replace h : Ag a 141 [(0, _), (1, _), (6, _), (7, _), (8, _), (9, _), (11, _), (84, _)] := h.sub (.cons rfl (.cons rfl (.cons rfl (.cons rfl (.cons rfl (.cons rfl (.cons rfl (.cons rfl .nil))))))))
          refine wnt ?_
          first | refine cond_dec h rfl (fun c11 => ?_) (fun c11 => ?_) | refine cond_ndec h rfl (fun c11 => ?_) (fun c11 => ?_) | refine cond_split h rfl (fun c11 => ?_) (fun c11 => ?_)
          ·refine id ?_
           refine wR ?_
           refine st_fieldAddr h rfl fa100_0 rfl ?_; clear h a; intro a h
           refine st_storeB h rfl rfl hb11 rfl rfl rfl sz87 ?_; clear h a; intro w14 hbn hq hz a h
           replace hf := hf.step hq (by first | (simp; done) | (simp; omega))
           replace hX := hX.fr hq (by intro k hk hb; simp at hk; subst hk; exact absurd (hlt_hX_11 _ hb) (by omega))
           replace hY := hY.fr hq (by intro k hk hb; simp at hk; subst hk; exact absurd (hlt_hY_11 _ hb) (by omega))
           clear hb11 hq hz; have hb11 : Blk w14 g_11 _ [_, _, _, _, _] := hbn; clear hbn
           replace h : Ag a 141 [(0, _), (1, _), (6, _), (7, _), (8, _), (9, _), (11, _)] := h.sub (.cons rfl (.cons rfl (.cons rfl (.cons rfl (.cons rfl (.cons rfl (.cons rfl .nil)))))))
           refine wpList_nil (norm_blk (norm_then ?_))
           first | exact ⟨⟨kx.k, 1 + ch / 16 % 3, kx.a, kx.b, kx.f⟩, h.sub (.cons rfl (.cons rfl (.cons rfl (.cons rfl (.cons rfl (.cons rfl (.cons rfl .nil))))))), hb11, fitC hk7.1 (by omega) hk7.2.2.1 hk7.2.2.2.1 hk7.2.2.2.2 hfl (by omega), (by first | exact pick_purl (by omega) | exact pick_over (by omega) (by omega) | exact pick_over' (by omega) (by omega) | exact pick_two hxp hxq (by omega) (by omega) (by omega) | exact pick_two' hxp hxq (by omega) (by omega) | exact pick_twox (by omega) (by omega) | exact pick_tuck hxp (by omega) (by omega) | exact pick_tuck' hxp (by omega) (by omega) | exact pick_slip (by omega) | exact pick_cable hkx (by omega) (by omega) | exact pick_cable' hkx (by omega) (by omega) | exact pick_knit (by omega)), hX, hY, hf⟩ | exact ⟨⟨_, _, _, _, _⟩, h.sub (.cons rfl (.cons rfl (.cons rfl (.cons rfl (.cons rfl (.cons rfl (.cons rfl .nil))))))), hb11, by first | exact fitP (by omega) (by omega) (by omega) hfl | exact fitO (by omega) (by omega) (by omega) hfl (by omega) | exact fitT (by omega) (by omega) (by omega) hfl hxp hxq (by omega) | exact fitU (by omega) (by omega) (by omega) hfl hxp (by omega) | exact fitS (by omega) (by omega) (by omega) hfl, (by first | exact pick_purl (by omega) | exact pick_over (by omega) (by omega) | exact pick_over' (by omega) (by omega) | exact pick_two hxp hxq (by omega) (by omega) (by omega) | exact pick_two' hxp hxq (by omega) (by omega) | exact pick_twox (by omega) (by omega) | exact pick_tuck hxp (by omega) (by omega) | exact pick_tuck' hxp (by omega) (by omega) | exact pick_slip (by omega) | exact pick_cable hkx (by omega) (by omega) | exact pick_cable' hkx (by omega) (by omega) | exact pick_knit (by omega)), hX, hY, hf⟩
          ·refine id ?_
           refine wp_skip (norm_blk (norm_then ?_))
           first | exact ⟨⟨kx.k, 1 + ch / 16 % 3, kx.a, kx.b, kx.f⟩, h.sub (.cons rfl (.cons rfl (.cons rfl (.cons rfl (.cons rfl (.cons rfl (.cons rfl .nil))))))), hb11, fitC hk7.1 (by omega) hk7.2.2.1 hk7.2.2.2.1 hk7.2.2.2.2 hfl (by omega), (by first | exact pick_purl (by omega) | exact pick_over (by omega) (by omega) | exact pick_over' (by omega) (by omega) | exact pick_two hxp hxq (by omega) (by omega) (by omega) | exact pick_two' hxp hxq (by omega) (by omega) | exact pick_twox (by omega) (by omega) | exact pick_tuck hxp (by omega) (by omega) | exact pick_tuck' hxp (by omega) (by omega) | exact pick_slip (by omega) | exact pick_cable hkx (by omega) (by omega) | exact pick_cable' hkx (by omega) (by omega) | exact pick_knit (by omega)), hX, hY, hf⟩ | exact ⟨⟨_, _, _, _, _⟩, h.sub (.cons rfl (.cons rfl (.cons rfl (.cons rfl (.cons rfl (.cons rfl (.cons rfl .nil))))))), hb11, by first | exact fitP (by omega) (by omega) (by omega) hfl | exact fitO (by omega) (by omega) (by omega) hfl (by omega) | exact fitT (by omega) (by omega) (by omega) hfl hxp hxq (by omega) | exact fitU (by omega) (by omega) (by omega) hfl hxp (by omega) | exact fitS (by omega) (by omega) (by omega) hfl, (by first | exact pick_purl (by omega) | exact pick_over (by omega) (by omega) | exact pick_over' (by omega) (by omega) | exact pick_two hxp hxq (by omega) (by omega) (by omega) | exact pick_two' hxp hxq (by omega) (by omega) | exact pick_twox (by omega) (by omega) | exact pick_tuck hxp (by omega) (by omega) | exact pick_tuck' hxp (by omega) (by omega) | exact pick_slip (by omega) | exact pick_cable hkx (by omega) (by omega) | exact pick_cable' hkx (by omega) (by omega) | exact pick_knit (by omega)), hX, hY, hf⟩
         ·refine id ?_
          rw [decide_eq_false c9] at h
          refine wR ?_
          refine st_eq h rfl rfl rfl ?_; clear h a; intro a h
          refine st_assign h rfl rfl ?_; clear h a; intro a h
          replace h : Ag a 141 [(0, _), (1, _), (6, _), (7, _), (8, _), (9, _), (10, _), (11, _), (12, _), (41, _), (77, _)] := h.sub (.cons rfl (.cons rfl (.cons rfl (.cons rfl (.cons rfl (.cons rfl (.cons rfl (.cons rfl (.cons rfl (.cons rfl (.cons rfl .nil)))))))))))
          refine wnt ?_
          first | refine cond_dec h rfl (fun c10 => ?_) (fun c10 => ?_) | refine cond_ndec h rfl (fun c10 => ?_) (fun c10 => ?_) | refine cond_split h rfl (fun c10 => ?_) (fun c10 => ?_)
          ·obtain ⟨p, hxp⟩ : ∃ x, ls[i]? = some x := ⟨_, List.getElem?_eq_getElem (by omega)⟩
           obtain ⟨pa, hAp, cp⟩ := hA _ p hxp
           have hfp := (few_iff p).1 (List.all_eq_true.1 hfl p (List.mem_of_getElem? hxp))
           refine wp_seq ?_
           refine wR ?_
           refine st_move h rfl rfl ?_; clear h a; intro a h
           refine st_move h rfl rfl ?_; clear h a; intro a h
           refine st_idxS (p := i) h (by rw [hAp]; rfl) rfl el30 (by omega) (by omega) (by omega) rfl ?_; clear h a; intro a h
           refine st_loadC0 h rfl (cp.fr hf (by simp)) na3 rfl ?_; clear h a; intro a h
           refine st_lt h rfl rfl rfl ?_; clear h a; intro a h
           replace h : Ag a 141 [(0, _), (1, _), (6, _), (7, _), (8, _), (9, _), (11, _), (84, _)] := h.sub (.cons rfl (.cons rfl (.cons rfl (.cons rfl (.cons rfl (.cons rfl (.cons rfl (.cons rfl .nil))))))))
           refine wnt ?_
           first | refine cond_dec h rfl (fun c11 => ?_) (fun c11 => ?_) | refine cond_ndec h rfl (fun c11 => ?_) (fun c11 => ?_) | refine cond_split h rfl (fun c11 => ?_) (fun c11 => ?_)
           ·refine id ?_
            refine wR ?_
            refine st_fieldAddr h rfl fa100_0 rfl ?_; clear h a; intro a h
            refine st_storeB h rfl rfl hb11 rfl rfl rfl sz87 ?_; clear h a; intro w15 hbn hq hz a h
            replace hf := hf.step hq (by first | (simp; done) | (simp; omega))
            replace hX := hX.fr hq (by intro k hk hb; simp at hk; subst hk; exact absurd (hlt_hX_11 _ hb) (by omega))
            replace hY := hY.fr hq (by intro k hk hb; simp at hk; subst hk; exact absurd (hlt_hY_11 _ hb) (by omega))
            clear hb11 hq hz; have hb11 : Blk w15 g_11 _ [_, _, _, _, _] := hbn; clear hbn
            replace h : Ag a 141 [(0, _), (1, _), (6, _), (7, _), (8, _), (9, _), (11, _)] := h.sub (.cons rfl (.cons rfl (.cons rfl (.cons rfl (.cons rfl (.cons rfl (.cons rfl .nil)))))))
            refine wpList_nil (norm_blk (norm_then ?_))
            first | exact ⟨⟨kx.k, 1 + ch / 16 % 3, kx.a, kx.b, kx.f⟩, h.sub (.cons rfl (.cons rfl (.cons rfl (.cons rfl (.cons rfl (.cons rfl (.cons rfl .nil))))))), hb11, fitC hk7.1 (by omega) hk7.2.2.1 hk7.2.2.2.1 hk7.2.2.2.2 hfl (by omega), (by first | exact pick_purl (by omega) | exact pick_over (by omega) (by omega) | exact pick_over' (by omega) (by omega) | exact pick_two hxp hxq (by omega) (by omega) (by omega) | exact pick_two' hxp hxq (by omega) (by omega) | exact pick_twox (by omega) (by omega) | exact pick_tuck hxp (by omega) (by omega) | exact pick_tuck' hxp (by omega) (by omega) | exact pick_slip (by omega) | exact pick_cable hkx (by omega) (by omega) | exact pick_cable' hkx (by omega) (by omega) | exact pick_knit (by omega)), hX, hY, hf⟩ | exact ⟨⟨_, _, _, _, _⟩, h.sub (.cons rfl (.cons rfl (.cons rfl (.cons rfl (.cons rfl (.cons rfl (.cons rfl .nil))))))), hb11, by first | exact fitP (by omega) (by omega) (by omega) hfl | exact fitO (by omega) (by omega) (by omega) hfl (by omega) | exact fitT (by omega) (by omega) (by omega) hfl hxp hxq (by omega) | exact fitU (by omega) (by omega) (by omega) hfl hxp (by omega) | exact fitS (by omega) (by omega) (by omega) hfl, (by first | exact pick_purl (by omega) | exact pick_over (by omega) (by omega) | exact pick_over' (by omega) (by omega) | exact pick_two hxp hxq (by omega) (by omega) (by omega) | exact pick_two' hxp hxq (by omega) (by omega) | exact pick_twox (by omega) (by omega) | exact pick_tuck hxp (by omega) (by omega) | exact pick_tuck' hxp (by omega) (by omega) | exact pick_slip (by omega) | exact pick_cable hkx (by omega) (by omega) | exact pick_cable' hkx (by omega) (by omega) | exact pick_knit (by omega)), hX, hY, hf⟩
           ·refine id ?_
            refine wp_skip (norm_blk (norm_then ?_))
            first | exact ⟨⟨kx.k, 1 + ch / 16 % 3, kx.a, kx.b, kx.f⟩, h.sub (.cons rfl (.cons rfl (.cons rfl (.cons rfl (.cons rfl (.cons rfl (.cons rfl .nil))))))), hb11, fitC hk7.1 (by omega) hk7.2.2.1 hk7.2.2.2.1 hk7.2.2.2.2 hfl (by omega), (by first | exact pick_purl (by omega) | exact pick_over (by omega) (by omega) | exact pick_over' (by omega) (by omega) | exact pick_two hxp hxq (by omega) (by omega) (by omega) | exact pick_two' hxp hxq (by omega) (by omega) | exact pick_twox (by omega) (by omega) | exact pick_tuck hxp (by omega) (by omega) | exact pick_tuck' hxp (by omega) (by omega) | exact pick_slip (by omega) | exact pick_cable hkx (by omega) (by omega) | exact pick_cable' hkx (by omega) (by omega) | exact pick_knit (by omega)), hX, hY, hf⟩ | exact ⟨⟨_, _, _, _, _⟩, h.sub (.cons rfl (.cons rfl (.cons rfl (.cons rfl (.cons rfl (.cons rfl (.cons rfl .nil))))))), hb11, by first | exact fitP (by omega) (by omega) (by omega) hfl | exact fitO (by omega) (by omega) (by omega) hfl (by omega) | exact fitT (by omega) (by omega) (by omega) hfl hxp hxq (by omega) | exact fitU (by omega) (by omega) (by omega) hfl hxp (by omega) | exact fitS (by omega) (by omega) (by omega) hfl, (by first | exact pick_purl (by omega) | exact pick_over (by omega) (by omega) | exact pick_over' (by omega) (by omega) | exact pick_two hxp hxq (by omega) (by omega) (by omega) | exact pick_two' hxp hxq (by omega) (by omega) | exact pick_twox (by omega) (by omega) | exact pick_tuck hxp (by omega) (by omega) | exact pick_tuck' hxp (by omega) (by omega) | exact pick_slip (by omega) | exact pick_cable hkx (by omega) (by omega) | exact pick_cable' hkx (by omega) (by omega) | exact pick_knit (by omega)), hX, hY, hf⟩
          ·refine id ?_
           refine wp_seq ?_
           refine wp_seq ?_
           refine wR ?_
           refine st_eq h rfl rfl rfl ?_; clear h a; intro a h
           refine st_assign h rfl rfl ?_; clear h a; intro a h
           replace h : Ag a 141 [(0, _), (1, _), (6, _), (7, _), (8, _), (9, _), (10, _), (11, _), (12, _), (41, _), (86, _)] := h.sub (.cons rfl (.cons rfl (.cons rfl (.cons rfl (.cons rfl (.cons rfl (.cons rfl (.cons rfl (.cons rfl (.cons rfl (.cons rfl .nil)))))))))))
           refine wnt ?_
           first | refine cond_dec h rfl (fun c12 => ?_) (fun c12 => ?_) | refine cond_ndec h rfl (fun c12 => ?_) (fun c12 => ?_) | refine cond_split h rfl (fun c12 => ?_) (fun c12 => ?_)
           ·refine id ?_
            rw [decide_eq_true c12] at h
            refine wsn ?_
            refine cond_true h rfl ?_
            refine wR ?_
            refine st_fieldAddr h rfl fa100_0 rfl ?_; clear h a; intro a h
            refine st_storeB h rfl rfl hb11 rfl rfl rfl sz87 ?_; clear h a; intro w16 hbn hq hz a h
            replace hf := hf.step hq (by first | (simp; done) | (simp; omega))
            replace hX := hX.fr hq (by intro k hk hb; simp at hk; subst hk; exact absurd (hlt_hX_11 _ hb) (by omega))
            replace hY := hY.fr hq (by intro k hk hb; simp at hk; subst hk; exact absurd (hlt_hY_11 _ hb) (by omega))
            clear hb11 hq hz; have hb11 : Blk w16 g_11 _ [_, _, _, _, _] := hbn; clear hbn
            replace h : Ag a 141 [(0, _), (1, _), (6, _), (7, _), (8, _), (9, _), (11, _)] := h.sub (.cons rfl (.cons rfl (.cons rfl (.cons rfl (.cons rfl (.cons rfl (.cons rfl .nil)))))))
            refine wpList_nil (norm_blk (norm_then ?_))
            first | exact ⟨⟨kx.k, 1 + ch / 16 % 3, kx.a, kx.b, kx.f⟩, h.sub (.cons rfl (.cons rfl (.cons rfl (.cons rfl (.cons rfl (.cons rfl (.cons rfl .nil))))))), hb11, fitC hk7.1 (by omega) hk7.2.2.1 hk7.2.2.2.1 hk7.2.2.2.2 hfl (by omega), (by first | exact pick_purl (by omega) | exact pick_over (by omega) (by omega) | exact pick_over' (by omega) (by omega) | exact pick_two hxp hxq (by omega) (by omega) (by omega) | exact pick_two' hxp hxq (by omega) (by omega) | exact pick_twox (by omega) (by omega) | exact pick_tuck hxp (by omega) (by omega) | exact pick_tuck' hxp (by omega) (by omega) | exact pick_slip (by omega) | exact pick_cable hkx (by omega) (by omega) | exact pick_cable' hkx (by omega) (by omega) | exact pick_knit (by omega)), hX, hY, hf⟩ | exact ⟨⟨_, _, _, _, _⟩, h.sub (.cons rfl (.cons rfl (.cons rfl (.cons rfl (.cons rfl (.cons rfl (.cons rfl .nil))))))), hb11, by first | exact fitP (by omega) (by omega) (by omega) hfl | exact fitO (by omega) (by omega) (by omega) hfl (by omega) | exact fitT (by omega) (by omega) (by omega) hfl hxp hxq (by omega) | exact fitU (by omega) (by omega) (by omega) hfl hxp (by omega) | exact fitS (by omega) (by omega) (by omega) hfl, (by first | exact pick_purl (by omega) | exact pick_over (by omega) (by omega) | exact pick_over' (by omega) (by omega) | exact pick_two hxp hxq (by omega) (by omega) (by omega) | exact pick_two' hxp hxq (by omega) (by omega) | exact pick_twox (by omega) (by omega) | exact pick_tuck hxp (by omega) (by omega) | exact pick_tuck' hxp (by omega) (by omega) | exact pick_slip (by omega) | exact pick_cable hkx (by omega) (by omega) | exact pick_cable' hkx (by omega) (by omega) | exact pick_knit (by omega)), hX, hY, hf⟩
           ·refine id ?_
            rw [decide_eq_false c12] at h
            refine wR ?_
            refine st_eq h rfl rfl rfl ?_; clear h a; intro a h
            refine st_assign h rfl rfl ?_; clear h a; intro a h
            replace h : Ag a 141 [(0, _), (1, _), (6, _), (7, _), (8, _), (9, _), (10, _), (11, _), (12, _), (41, _), (86, _)] := h.sub (.cons rfl (.cons rfl (.cons rfl (.cons rfl (.cons rfl (.cons rfl (.cons rfl (.cons rfl (.cons rfl (.cons rfl (.cons rfl .nil)))))))))))
            refine wnt ?_
            first | refine cond_dec h rfl (fun c13 => ?_) (fun c13 => ?_) | refine cond_ndec h rfl (fun c13 => ?_) (fun c13 => ?_) | refine cond_split h rfl (fun c13 => ?_) (fun c13 => ?_)
            ·refine id ?_
             refine wR ?_
             refine st_fieldAddr h rfl fa100_0 rfl ?_; clear h a; intro a h
             refine st_storeB h rfl rfl hb11 rfl rfl rfl sz87 ?_; clear h a; intro w17 hbn hq hz a h
             replace hf := hf.step hq (by first | (simp; done) | (simp; omega))
             replace hX := hX.fr hq (by intro k hk hb; simp at hk; subst hk; exact absurd (hlt_hX_11 _ hb) (by omega))
             replace hY := hY.fr hq (by intro k hk hb; simp at hk; subst hk; exact absurd (hlt_hY_11 _ hb) (by omega))
             clear hb11 hq hz; have hb11 : Blk w17 g_11 _ [_, _, _, _, _] := hbn; clear hbn
             replace h : Ag a 141 [(0, _), (1, _), (6, _), (7, _), (8, _), (9, _), (11, _)] := h.sub (.cons rfl (.cons rfl (.cons rfl (.cons rfl (.cons rfl (.cons rfl (.cons rfl .nil)))))))
             refine wpList_nil (norm_blk (norm_then ?_))
             first | exact ⟨⟨kx.k, 1 + ch / 16 % 3, kx.a, kx.b, kx.f⟩, h.sub (.cons rfl (.cons rfl (.cons rfl (.cons rfl (.cons rfl (.cons rfl (.cons rfl .nil))))))), hb11, fitC hk7.1 (by omega) hk7.2.2.1 hk7.2.2.2.1 hk7.2.2.2.2 hfl (by omega), (by first | exact pick_purl (by omega) | exact pick_over (by omega) (by omega) | exact pick_over' (by omega) (by omega) | exact pick_two hxp hxq (by omega) (by omega) (by omega) | exact pick_two' hxp hxq (by omega) (by omega) | exact pick_twox (by omega) (by omega) | exact pick_tuck hxp (by omega) (by omega) | exact pick_tuck' hxp (by omega) (by omega) | exact pick_slip (by omega) | exact pick_cable hkx (by omega) (by omega) | exact pick_cable' hkx (by omega) (by omega) | exact pick_knit (by omega)), hX, hY, hf⟩ | exact ⟨⟨_, _, _, _, _⟩, h.sub (.cons rfl (.cons rfl (.cons rfl (.cons rfl (.cons rfl (.cons rfl (.cons rfl .nil))))))), hb11, by first | exact fitP (by omega) (by omega) (by omega) hfl | exact fitO (by omega) (by omega) (by omega) hfl (by omega) | exact fitT (by omega) (by omega) (by omega) hfl hxp hxq (by omega) | exact fitU (by omega) (by omega) (by omega) hfl hxp (by omega) | exact fitS (by omega) (by omega) (by omega) hfl, (by first | exact pick_purl (by omega) | exact pick_over (by omega) (by omega) | exact pick_over' (by omega) (by omega) | exact pick_two hxp hxq (by omega) (by omega) (by omega) | exact pick_two' hxp hxq (by omega) (by omega) | exact pick_twox (by omega) (by omega) | exact pick_tuck hxp (by omega) (by omega) | exact pick_tuck' hxp (by omega) (by omega) | exact pick_slip (by omega) | exact pick_cable hkx (by omega) (by omega) | exact pick_cable' hkx (by omega) (by omega) | exact pick_knit (by omega)), hX, hY, hf⟩
            ·refine id ?_
             refine wp_seq ?_
             refine wp_seq ?_
             refine wR ?_
             refine st_eq h rfl rfl rfl ?_; clear h a; intro a h
             refine st_assign h rfl rfl ?_; clear h a; intro a h
             replace h : Ag a 141 [(0, _), (1, _), (6, _), (7, _), (8, _), (9, _), (10, _), (11, _), (12, _), (41, _), (90, _)] := h.sub (.cons rfl (.cons rfl (.cons rfl (.cons rfl (.cons rfl (.cons rfl (.cons rfl (.cons rfl (.cons rfl (.cons rfl (.cons rfl .nil)))))))))))
             refine wnt ?_
             first | refine cond_dec h rfl (fun c14 => ?_) (fun c14 => ?_) | refine cond_ndec h rfl (fun c14 => ?_) (fun c14 => ?_) | refine cond_split h rfl (fun c14 => ?_) (fun c14 => ?_)
             ·refine id ?_
              rw [decide_eq_true c14] at h
              refine wsn ?_
              refine cond_true h rfl ?_
              refine wp_seq ?_
              refine wR ?_
              refine st_move h rfl rfl ?_; clear h a; intro a h
              refine st_move h rfl rfl ?_; clear h a; intro a h
              refine st_quo h rfl rfl (by omega) (by first | exact IntWalk.u8_quo _ _ (by omega) | rfl) rfl ?_; clear h a; intro a h
              refine st_mul h rfl rfl (by first | exact IntWalk.u8_in _ (by omega) | rfl) rfl ?_; clear h a; intro a h
              refine st_sub h rfl rfl (by first | exact IntWalk.u8_in _ (by omega) | rfl) rfl ?_; clear h a; intro a h
              refine st_move h rfl rfl ?_; clear h a; intro a h
              refine st_ge h rfl rfl rfl ?_; clear h a; intro a h
              refine st_lit (cs := [_, _, _, _]) h (evs_cons rfl (evs_cons rfl (evs_cons rfl evs_nil))) bo173 (pok_cons rfl rfl rfl (pok_cons rfl rfl rfl (pok_cons rfl rfl rfl pok_nil))) rfl rfl ?_; clear h a; intro a h
              refine st_call h (evs_cons rfl evs_nil) co105 (kof_ok 7 0 _ _ _ (by omega) (by omega) (by omega)) rfl ?_; clear h a; rintro _ w18 ⟨rfl, hq⟩ a h
              replace hf := hf.next hq
              replace hX := hX.ext hq
              replace hY := hY.ext hq
              replace hb11 := hb11.ext hq
              clear hq
              obtain ⟨kx, hkx⟩ : ∃ s, s = kOfS 7 0 (ch - ch / 16 * 16) (decide (128 ≤ ch)) := ⟨_, rfl⟩
              rw [← hkx] at h
              have hk7 := kOf7 (ch - ch / 16 * 16) (decide (128 ≤ ch)) (by omega)
              rw [← hkx] at hk7
              refine st_alloc h zv100 rfl rfl ?_; clear h a; intro w19 hb13 hq hz a h
              obtain ⟨g_13, hg⟩ : ∃ g, g = w18.heap.size := ⟨_, rfl⟩; rw [← hg] at hb13 h hz
              have hl13 : w0.heap.size ≤ g_13 := by have := hf.size; omega
              have hlt_hX_13 : ∀ k ∈ blks X, k < g_13 := fun k hk => by have := (hX.blk k hk).2; omega
              have hlt_hY_13 : ∀ k ∈ blks (.slice YA ys.length yc), k < g_13 := fun k hk => by have := (hY.blk k hk).2; omega
              have hn_11_13 : g_11 < g_13 := by have := hb11.lt; omega
              replace hf := hf.next hq
              replace hX := hX.ext hq
              replace hY := hY.ext hq
              replace hb11 := hb11.ext hq
              clear hq hz hg
              refine st_storeBA h rfl rfl hb13 rfl (by first | (simp [Value.oneCell', S]; done) | exact Enc.one _ _) sz100 ?_; clear h a; intro w20 hbn hq hz a h
              replace hf := hf.step hq (by first | (simp; done) | (simp; omega))
              replace hX := hX.fr hq (by intro k hk hb; simp at hk; subst hk; exact absurd (hlt_hX_13 _ hb) (by omega))
              replace hY := hY.fr hq (by intro k hk hb; simp at hk; subst hk; exact absurd (hlt_hY_13 _ hb) (by omega))
              replace hb11 := hb11.fr hq (by first | (simp; done) | (simp; omega) | (simp [blks]; done) | (simp [blks]; omega))
              clear hb13 hq hz; have hb13 : Blk w20 g_13 _ [_, _, _, _, _] := hbn; clear hbn
              replace h : Ag a 141 [(0, _), (1, _), (6, _), (7, _), (8, _), (9, _), (11, _), (12, _), (13, _)] := h.sub (.cons rfl (.cons rfl (.cons rfl (.cons rfl (.cons rfl (.cons rfl (.cons rfl (.cons rfl (.cons rfl .nil)))))))))
              refine wnt ?_
              refine wp_seq ?_
              refine wR ?_
              refine st_fieldAddr h rfl fa100_2 rfl ?_; clear h a; intro a h
              refine st_loadB h rfl hb13 rfl na3 rfl ?_; clear h a; intro a h
              refine st_fieldAddr h rfl fa100_3 rfl ?_; clear h a; intro a h
              refine st_loadB h rfl hb13 rfl na3 rfl ?_; clear h a; intro a h
              refine st_add h rfl rfl (by first | exact IntWalk.i64_in _ (by omega) | rfl) rfl ?_; clear h a; intro a h
              refine st_move h rfl rfl ?_; clear h a; intro a h
              refine st_le h rfl rfl rfl ?_; clear h a; intro a h
              replace h : Ag a 141 [(0, _), (1, _), (6, _), (7, _), (8, _), (9, _), (11, _), (13, _), (111, _)] := h.sub (.cons rfl (.cons rfl (.cons rfl (.cons rfl (.cons rfl (.cons rfl (.cons rfl (.cons rfl (.cons rfl .nil)))))))))
              refine wnt ?_
              first | refine cond_dec h rfl (fun c19 => ?_) (fun c19 => ?_) | refine cond_ndec h rfl (fun c19 => ?_) (fun c19 => ?_) | refine cond_split h rfl (fun c19 => ?_) (fun c19 => ?_)
              ·refine id ?_
               refine wp_seq ?_
               refine wR ?_
               refine st_fieldAddr h rfl fa100_1 rfl ?_; clear h a; intro a h
               refine st_loadB h rfl hb11 rfl na5 rfl ?_; clear h a; intro a h
               refine st_fieldAddr h rfl fa100_1 rfl ?_; clear h a; intro a h
               refine st_storeB h rfl rfl hb13 rfl rfl rfl sz5 ?_; clear h a; intro w21 hbn hq hz a h
               replace hf := hf.step hq (by first | (simp; done) | (simp; omega))
               replace hX := hX.fr hq (by intro k hk hb; simp at hk; subst hk; exact absurd (hlt_hX_13 _ hb) (by omega))
               replace hY := hY.fr hq (by intro k hk hb; simp at hk; subst hk; exact absurd (hlt_hY_13 _ hb) (by omega))
               replace hb11 := hb11.fr hq (by first | (simp; done) | (simp; omega) | (simp [blks]; done) | (simp [blks]; omega))
               clear hb13 hq hz; have hb13 : Blk w21 g_13 _ [_, _, _, _, _] := hbn; clear hbn
               replace h : Ag a 141 [(0, _), (1, _), (6, _), (7, _), (8, _), (9, _), (11, _), (13, _)] := h.sub (.cons rfl (.cons rfl (.cons rfl (.cons rfl (.cons rfl (.cons rfl (.cons rfl (.cons rfl .nil))))))))
               refine wnt ?_
               refine wR ?_
               refine st_loadBA h rfl hb13 ag100 rfl ?_; clear h a; intro a h
               refine st_storeBA h rfl rfl hb11 rfl (by first | (simp [Value.oneCell', S]; done) | exact Enc.one _ _) sz100 ?_; clear h a; intro w22 hbn hq hz a h
               replace hf := hf.step hq (by first | (simp; done) | (simp; omega))
               replace hX := hX.fr hq (by intro k hk hb; simp at hk; subst hk; exact absurd (hlt_hX_11 _ hb) (by omega))
               replace hY := hY.fr hq (by intro k hk hb; simp at hk; subst hk; exact absurd (hlt_hY_11 _ hb) (by omega))
               replace hb13 := hb13.fr hq (by first | (simp; done) | (simp; omega) | (simp [blks]; done) | (simp [blks]; omega))
               clear hb11 hq hz; have hb11 : Blk w22 g_11 _ [_, _, _, _, _] := hbn; clear hbn
               replace hb11 : Blk w22 g_11 100 [.int .u8 kx.k, .int .u8 (1 + ch / 16 % 3), .int .i64 kx.a, .int .i64 kx.b, .bool kx.f] := hb11
               replace h : Ag a 141 [(0, _), (1, _), (6, _), (7, _), (8, _), (9, _), (11, _)] := h.sub (.cons rfl (.cons rfl (.cons rfl (.cons rfl (.cons rfl (.cons rfl (.cons rfl .nil)))))))
               refine wpList_nil (norm_blk (norm_then ?_))
               first | exact ⟨⟨kx.k, 1 + ch / 16 % 3, kx.a, kx.b, kx.f⟩, h.sub (.cons rfl (.cons rfl (.cons rfl (.cons rfl (.cons rfl (.cons rfl (.cons rfl .nil))))))), hb11, fitC hk7.1 (by omega) hk7.2.2.1 hk7.2.2.2.1 hk7.2.2.2.2 hfl (by omega), (by first | exact pick_purl (by omega) | exact pick_over (by omega) (by omega) | exact pick_over' (by omega) (by omega) | exact pick_two hxp hxq (by omega) (by omega) (by omega) | exact pick_two' hxp hxq (by omega) (by omega) | exact pick_twox (by omega) (by omega) | exact pick_tuck hxp (by omega) (by omega) | exact pick_tuck' hxp (by omega) (by omega) | exact pick_slip (by omega) | exact pick_cable hkx (by omega) (by omega) | exact pick_cable' hkx (by omega) (by omega) | exact pick_knit (by omega)), hX, hY, hf⟩ | exact ⟨⟨_, _, _, _, _⟩, h.sub (.cons rfl (.cons rfl (.cons rfl (.cons rfl (.cons rfl (.cons rfl (.cons rfl .nil))))))), hb11, by first | exact fitP (by omega) (by omega) (by omega) hfl | exact fitO (by omega) (by omega) (by omega) hfl (by omega) | exact fitT (by omega) (by omega) (by omega) hfl hxp hxq (by omega) | exact fitU (by omega) (by omega) (by omega) hfl hxp (by omega) | exact fitS (by omega) (by omega) (by omega) hfl, (by first | exact pick_purl (by omega) | exact pick_over (by omega) (by omega) | exact pick_over' (by omega) (by omega) | exact pick_two hxp hxq (by omega) (by omega) (by omega) | exact pick_two' hxp hxq (by omega) (by omega) | exact pick_twox (by omega) (by omega) | exact pick_tuck hxp (by omega) (by omega) | exact pick_tuck' hxp (by omega) (by omega) | exact pick_slip (by omega) | exact pick_cable hkx (by omega) (by omega) | exact pick_cable' hkx (by omega) (by omega) | exact pick_knit (by omega)), hX, hY, hf⟩
              ·refine id ?_
               refine wp_skip (norm_blk (norm_then ?_))
               first | exact ⟨⟨kx.k, 1 + ch / 16 % 3, kx.a, kx.b, kx.f⟩, h.sub (.cons rfl (.cons rfl (.cons rfl (.cons rfl (.cons rfl (.cons rfl (.cons rfl .nil))))))), hb11, fitC hk7.1 (by omega) hk7.2.2.1 hk7.2.2.2.1 hk7.2.2.2.2 hfl (by omega), (by first | exact pick_purl (by omega) | exact pick_over (by omega) (by omega) | exact pick_over' (by omega) (by omega) | exact pick_two hxp hxq (by omega) (by omega) (by omega) | exact pick_two' hxp hxq (by omega) (by omega) | exact pick_twox (by omega) (by omega) | exact pick_tuck hxp (by omega) (by omega) | exact pick_tuck' hxp (by omega) (by omega) | exact pick_slip (by omega) | exact pick_cable hkx (by omega) (by omega) | exact pick_cable' hkx (by omega) (by omega) | exact pick_knit (by omega)), hX, hY, hf⟩ | exact ⟨⟨_, _, _, _, _⟩, h.sub (.cons rfl (.cons rfl (.cons rfl (.cons rfl (.cons rfl (.cons rfl (.cons rfl .nil))))))), hb11, by first | exact fitP (by omega) (by omega) (by omega) hfl | exact fitO (by omega) (by omega) (by omega) hfl (by omega) | exact fitT (by omega) (by omega) (by omega) hfl hxp hxq (by omega) | exact fitU (by omega) (by omega) (by omega) hfl hxp (by omega) | exact fitS (by omega) (by omega) (by omega) hfl, (by first | exact pick_purl (by omega) | exact pick_over (by omega) (by omega) | exact pick_over' (by omega) (by omega) | exact pick_two hxp hxq (by omega) (by omega) (by omega) | exact pick_two' hxp hxq (by omega) (by omega) | exact pick_twox (by omega) (by omega) | exact pick_tuck hxp (by omega) (by omega) | exact pick_tuck' hxp (by omega) (by omega) | exact pick_slip (by omega) | exact pick_cable hkx (by omega) (by omega) | exact pick_cable' hkx (by omega) (by omega) | exact pick_knit (by omega)), hX, hY, hf⟩
             ·refine id ?_
              rw [decide_eq_false c14] at h
              refine wp_seq ?_
              refine wR ?_
              refine st_eq h rfl rfl rfl ?_; clear h a; intro a h
              refine st_assign h rfl rfl ?_; clear h a; intro a h
              replace h : Ag a 141 [(0, _), (1, _), (6, _), (7, _), (8, _), (9, _), (10, _), (11, _), (12, _), (41, _), (90, _)] := h.sub (.cons rfl (.cons rfl (.cons rfl (.cons rfl (.cons rfl (.cons rfl (.cons rfl (.cons rfl (.cons rfl (.cons rfl (.cons rfl .nil)))))))))))
              refine wnt ?_
              first | refine cond_dec h rfl (fun c15 => ?_) (fun c15 => ?_) | refine cond_ndec h rfl (fun c15 => ?_) (fun c15 => ?_) | refine cond_split h rfl (fun c15 => ?_) (fun c15 => ?_)
              ·refine id ?_
               rw [decide_eq_true c15] at h
               refine wsn ?_
               refine cond_true h rfl ?_
               refine wp_seq ?_
               refine wR ?_
               refine st_move h rfl rfl ?_; clear h a; intro a h
               refine st_move h rfl rfl ?_; clear h a; intro a h
               refine st_quo h rfl rfl (by omega) (by first | exact IntWalk.u8_quo _ _ (by omega) | rfl) rfl ?_; clear h a; intro a h
               refine st_mul h rfl rfl (by first | exact IntWalk.u8_in _ (by omega) | rfl) rfl ?_; clear h a; intro a h
               refine st_sub h rfl rfl (by first | exact IntWalk.u8_in _ (by omega) | rfl) rfl ?_; clear h a; intro a h
               refine st_move h rfl rfl ?_; clear h a; intro a h
               refine st_ge h rfl rfl rfl ?_; clear h a; intro a h
               refine st_lit (cs := [_, _, _, _]) h (evs_cons rfl (evs_cons rfl (evs_cons rfl evs_nil))) bo173 (pok_cons rfl rfl rfl (pok_cons rfl rfl rfl (pok_cons rfl rfl rfl pok_nil))) rfl rfl ?_; clear h a; intro a h
               refine st_call h (evs_cons rfl evs_nil) co105 (kof_ok 7 0 _ _ _ (by omega) (by omega) (by omega)) rfl ?_; clear h a; rintro _ w23 ⟨rfl, hq⟩ a h
               replace hf := hf.next hq
               replace hX := hX.ext hq
               replace hY := hY.ext hq
               replace hb11 := hb11.ext hq
               clear hq
               obtain ⟨kx, hkx⟩ : ∃ s, s = kOfS 7 0 (ch - ch / 16 * 16) (decide (128 ≤ ch)) := ⟨_, rfl⟩
               rw [← hkx] at h
               have hk7 := kOf7 (ch - ch / 16 * 16) (decide (128 ≤ ch)) (by omega)
               rw [← hkx] at hk7
               refine st_alloc h zv100 rfl rfl ?_; clear h a; intro w24 hb13 hq hz a h
               obtain ⟨g_13, hg⟩ : ∃ g, g = w23.heap.size := ⟨_, rfl⟩; rw [← hg] at hb13 h hz
               have hl13 : w0.heap.size ≤ g_13 := by have := hf.size; omega
               have hlt_hX_13 : ∀ k ∈ blks X, k < g_13 := fun k hk => by have := (hX.blk k hk).2; omega
               have hlt_hY_13 : ∀ k ∈ blks (.slice YA ys.length yc), k < g_13 := fun k hk => by have := (hY.blk k hk).2; omega
               have hn_11_13 : g_11 < g_13 := by have := hb11.lt; omega
               replace hf := hf.next hq
               replace hX := hX.ext hq
               replace hY := hY.ext hq
               replace hb11 := hb11.ext hq
               clear hq hz hg
               refine st_storeBA h rfl rfl hb13 rfl (by first | (simp [Value.oneCell', S]; done) | exact Enc.one _ _) sz100 ?_; clear h a; intro w25 hbn hq hz a h
               replace hf := hf.step hq (by first | (simp; done) | (simp; omega))
               replace hX := hX.fr hq (by intro k hk hb; simp at hk; subst hk; exact absurd (hlt_hX_13 _ hb) (by omega))
               replace hY := hY.fr hq (by intro k hk hb; simp at hk; subst hk; exact absurd (hlt_hY_13 _ hb) (by omega))
               replace hb11 := hb11.fr hq (by first | (simp; done) | (simp; omega) | (simp [blks]; done) | (simp [blks]; omega))
               clear hb13 hq hz; have hb13 : Blk w25 g_13 _ [_, _, _, _, _] := hbn; clear hbn
               replace h : Ag a 141 [(0, _), (1, _), (6, _), (7, _), (8, _), (9, _), (11, _), (12, _), (13, _)] := h.sub (.cons rfl (.cons rfl (.cons rfl (.cons rfl (.cons rfl (.cons rfl (.cons rfl (.cons rfl (.cons rfl .nil)))))))))
               refine wnt ?_
               refine wp_seq ?_
               refine wR ?_
               refine st_fieldAddr h rfl fa100_2 rfl ?_; clear h a; intro a h
               refine st_loadB h rfl hb13 rfl na3 rfl ?_; clear h a; intro a h
               refine st_fieldAddr h rfl fa100_3 rfl ?_; clear h a; intro a h
               refine st_loadB h rfl hb13 rfl na3 rfl ?_; clear h a; intro a h
               refine st_add h rfl rfl (by first | exact IntWalk.i64_in _ (by omega) | rfl) rfl ?_; clear h a; intro a h
               refine st_move h rfl rfl ?_; clear h a; intro a h
               refine st_le h rfl rfl rfl ?_; clear h a; intro a h
               replace h : Ag a 141 [(0, _), (1, _), (6, _), (7, _), (8, _), (9, _), (11, _), (13, _), (111, _)] := h.sub (.cons rfl (.cons rfl (.cons rfl (.cons rfl (.cons rfl (.cons rfl (.cons rfl (.cons rfl (.cons rfl .nil)))))))))
               refine wnt ?_
               first | refine cond_dec h rfl (fun c19 => ?_) (fun c19 => ?_) | refine cond_ndec h rfl (fun c19 => ?_) (fun c19 => ?_) | refine cond_split h rfl (fun c19 => ?_) (fun c19 => ?_)
               ·refine id ?_
                refine wp_seq ?_
                refine wR ?_
                refine st_fieldAddr h rfl fa100_1 rfl ?_; clear h a; intro a h
                refine st_loadB h rfl hb11 rfl na5 rfl ?_; clear h a; intro a h
                refine st_fieldAddr h rfl fa100_1 rfl ?_; clear h a; intro a h
                refine st_storeB h rfl rfl hb13 rfl rfl rfl sz5 ?_; clear h a; intro w26 hbn hq hz a h
                replace hf := hf.step hq (by first | (simp; done) | (simp; omega))
                replace hX := hX.fr hq (by intro k hk hb; simp at hk; subst hk; exact absurd (hlt_hX_13 _ hb) (by omega))
                replace hY := hY.fr hq (by intro k hk hb; simp at hk; subst hk; exact absurd (hlt_hY_13 _ hb) (by omega))
                replace hb11 := hb11.fr hq (by first | (simp; done) | (simp; omega) | (simp [blks]; done) | (simp [blks]; omega))
                clear hb13 hq hz; have hb13 : Blk w26 g_13 _ [_, _, _, _, _] := hbn; clear hbn
                replace h : Ag a 141 [(0, _), (1, _), (6, _), (7, _), (8, _), (9, _), (11, _), (13, _)] := h.sub (.cons rfl (.cons rfl (.cons rfl (.cons rfl (.cons rfl (.cons rfl (.cons rfl (.cons rfl .nil))))))))
                refine wnt ?_
                refine wR ?_
                refine st_loadBA h rfl hb13 ag100 rfl ?_; clear h a; intro a h
                refine st_storeBA h rfl rfl hb11 rfl (by first | (simp [Value.oneCell', S]; done) | exact Enc.one _ _) sz100 ?_; clear h a; intro w27 hbn hq hz a h
                replace hf := hf.step hq (by first | (simp; done) | (simp; omega))
                replace hX := hX.fr hq (by intro k hk hb; simp at hk; subst hk; exact absurd (hlt_hX_11 _ hb) (by omega))
                replace hY := hY.fr hq (by intro k hk hb; simp at hk; subst hk; exact absurd (hlt_hY_11 _ hb) (by omega))
                replace hb13 := hb13.fr hq (by first | (simp; done) | (simp; omega) | (simp [blks]; done) | (simp [blks]; omega))
                clear hb11 hq hz; have hb11 : Blk w27 g_11 _ [_, _, _, _, _] := hbn; clear hbn
                replace hb11 : Blk w27 g_11 100 [.int .u8 kx.k, .int .u8 (1 + ch / 16 % 3), .int .i64 kx.a, .int .i64 kx.b, .bool kx.f] := hb11
                replace h : Ag a 141 [(0, _), (1, _), (6, _), (7, _), (8, _), (9, _), (11, _)] := h.sub (.cons rfl (.cons rfl (.cons rfl (.cons rfl (.cons rfl (.cons rfl (.cons rfl .nil)))))))
                refine wpList_nil (norm_blk (norm_then ?_))
                first | exact ⟨⟨kx.k, 1 + ch / 16 % 3, kx.a, kx.b, kx.f⟩, h.sub (.cons rfl (.cons rfl (.cons rfl (.cons rfl (.cons rfl (.cons rfl (.cons rfl .nil))))))), hb11, fitC hk7.1 (by omega) hk7.2.2.1 hk7.2.2.2.1 hk7.2.2.2.2 hfl (by omega), (by first | exact pick_purl (by omega) | exact pick_over (by omega) (by omega) | exact pick_over' (by omega) (by omega) | exact pick_two hxp hxq (by omega) (by omega) (by omega) | exact pick_two' hxp hxq (by omega) (by omega) | exact pick_twox (by omega) (by omega) | exact pick_tuck hxp (by omega) (by omega) | exact pick_tuck' hxp (by omega) (by omega) | exact pick_slip (by omega) | exact pick_cable hkx (by omega) (by omega) | exact pick_cable' hkx (by omega) (by omega) | exact pick_knit (by omega)), hX, hY, hf⟩ | exact ⟨⟨_, _, _, _, _⟩, h.sub (.cons rfl (.cons rfl (.cons rfl (.cons rfl (.cons rfl (.cons rfl (.cons rfl .nil))))))), hb11, by first | exact fitP (by omega) (by omega) (by omega) hfl | exact fitO (by omega) (by omega) (by omega) hfl (by omega) | exact fitT (by omega) (by omega) (by omega) hfl hxp hxq (by omega) | exact fitU (by omega) (by omega) (by omega) hfl hxp (by omega) | exact fitS (by omega) (by omega) (by omega) hfl, (by first | exact pick_purl (by omega) | exact pick_over (by omega) (by omega) | exact pick_over' (by omega) (by omega) | exact pick_two hxp hxq (by omega) (by omega) (by omega) | exact pick_two' hxp hxq (by omega) (by omega) | exact pick_twox (by omega) (by omega) | exact pick_tuck hxp (by omega) (by omega) | exact pick_tuck' hxp (by omega) (by omega) | exact pick_slip (by omega) | exact pick_cable hkx (by omega) (by omega) | exact pick_cable' hkx (by omega) (by omega) | exact pick_knit (by omega)), hX, hY, hf⟩
               ·refine id ?_
                refine wp_skip (norm_blk (norm_then ?_))
                first | exact ⟨⟨kx.k, 1 + ch / 16 % 3, kx.a, kx.b, kx.f⟩, h.sub (.cons rfl (.cons rfl (.cons rfl (.cons rfl (.cons rfl (.cons rfl (.cons rfl .nil))))))), hb11, fitC hk7.1 (by omega) hk7.2.2.1 hk7.2.2.2.1 hk7.2.2.2.2 hfl (by omega), (by first | exact pick_purl (by omega) | exact pick_over (by omega) (by omega) | exact pick_over' (by omega) (by omega) | exact pick_two hxp hxq (by omega) (by omega) (by omega) | exact pick_two' hxp hxq (by omega) (by omega) | exact pick_twox (by omega) (by omega) | exact pick_tuck hxp (by omega) (by omega) | exact pick_tuck' hxp (by omega) (by omega) | exact pick_slip (by omega) | exact pick_cable hkx (by omega) (by omega) | exact pick_cable' hkx (by omega) (by omega) | exact pick_knit (by omega)), hX, hY, hf⟩ | exact ⟨⟨_, _, _, _, _⟩, h.sub (.cons rfl (.cons rfl (.cons rfl (.cons rfl (.cons rfl (.cons rfl (.cons rfl .nil))))))), hb11, by first | exact fitP (by omega) (by omega) (by omega) hfl | exact fitO (by omega) (by omega) (by omega) hfl (by omega) | exact fitT (by omega) (by omega) (by omega) hfl hxp hxq (by omega) | exact fitU (by omega) (by omega) (by omega) hfl hxp (by omega) | exact fitS (by omega) (by omega) (by omega) hfl, (by first | exact pick_purl (by omega) | exact pick_over (by omega) (by omega) | exact pick_over' (by omega) (by omega) | exact pick_two hxp hxq (by omega) (by omega) (by omega) | exact pick_two' hxp hxq (by omega) (by omega) | exact pick_twox (by omega) (by omega) | exact pick_tuck hxp (by omega) (by omega) | exact pick_tuck' hxp (by omega) (by omega) | exact pick_slip (by omega) | exact pick_cable hkx (by omega) (by omega) | exact pick_cable' hkx (by omega) (by omega) | exact pick_knit (by omega)), hX, hY, hf⟩
              ·refine id ?_
               rw [decide_eq_false c15] at h
               refine wp_seq ?_
               refine wR ?_
               refine st_eq h rfl rfl rfl ?_; clear h a; intro a h
               refine st_assign h rfl rfl ?_; clear h a; intro a h
               replace h : Ag a 141 [(0, _), (1, _), (6, _), (7, _), (8, _), (9, _), (10, _), (11, _), (12, _), (41, _), (90, _)] := h.sub (.cons rfl (.cons rfl (.cons rfl (.cons rfl (.cons rfl (.cons rfl (.cons rfl (.cons rfl (.cons rfl (.cons rfl (.cons rfl .nil)))))))))))
               refine wnt ?_
               first | refine cond_dec h rfl (fun c16 => ?_) (fun c16 => ?_) | refine cond_ndec h rfl (fun c16 => ?_) (fun c16 => ?_) | refine cond_split h rfl (fun c16 => ?_) (fun c16 => ?_)
               ·refine id ?_
                rw [decide_eq_true c16] at h
                refine wsn ?_
                refine cond_true h rfl ?_
                refine wp_seq ?_
                refine wR ?_
                refine st_move h rfl rfl ?_; clear h a; intro a h
                refine st_move h rfl rfl ?_; clear h a; intro a h
                refine st_quo h rfl rfl (by omega) (by first | exact IntWalk.u8_quo _ _ (by omega) | rfl) rfl ?_; clear h a; intro a h
                refine st_mul h rfl rfl (by first | exact IntWalk.u8_in _ (by omega) | rfl) rfl ?_; clear h a; intro a h
                refine st_sub h rfl rfl (by first | exact IntWalk.u8_in _ (by omega) | rfl) rfl ?_; clear h a; intro a h
                refine st_move h rfl rfl ?_; clear h a; intro a h
                refine st_ge h rfl rfl rfl ?_; clear h a; intro a h
                refine st_lit (cs := [_, _, _, _]) h (evs_cons rfl (evs_cons rfl (evs_cons rfl evs_nil))) bo173 (pok_cons rfl rfl rfl (pok_cons rfl rfl rfl (pok_cons rfl rfl rfl pok_nil))) rfl rfl ?_; clear h a; intro a h
                refine st_call h (evs_cons rfl evs_nil) co105 (kof_ok 7 0 _ _ _ (by omega) (by omega) (by omega)) rfl ?_; clear h a; rintro _ w28 ⟨rfl, hq⟩ a h
                replace hf := hf.next hq
                replace hX := hX.ext hq
                replace hY := hY.ext hq
                replace hb11 := hb11.ext hq
                clear hq
                obtain ⟨kx, hkx⟩ : ∃ s, s = kOfS 7 0 (ch - ch / 16 * 16) (decide (128 ≤ ch)) := ⟨_, rfl⟩
                rw [← hkx] at h
                have hk7 := kOf7 (ch - ch / 16 * 16) (decide (128 ≤ ch)) (by omega)
                rw [← hkx] at hk7
                refine st_alloc h zv100 rfl rfl ?_; clear h a; intro w29 hb13 hq hz a h
                obtain ⟨g_13, hg⟩ : ∃ g, g = w28.heap.size := ⟨_, rfl⟩; rw [← hg] at hb13 h hz
                have hl13 : w0.heap.size ≤ g_13 := by have := hf.size; omega
                have hlt_hX_13 : ∀ k ∈ blks X, k < g_13 := fun k hk => by have := (hX.blk k hk).2; omega
                have hlt_hY_13 : ∀ k ∈ blks (.slice YA ys.length yc), k < g_13 := fun k hk => by have := (hY.blk k hk).2; omega
                have hn_11_13 : g_11 < g_13 := by have := hb11.lt; omega
                replace hf := hf.next hq
                replace hX := hX.ext hq
                replace hY := hY.ext hq
                replace hb11 := hb11.ext hq
                clear hq hz hg
                refine st_storeBA h rfl rfl hb13 rfl (by first | (simp [Value.oneCell', S]; done) | exact Enc.one _ _) sz100 ?_; clear h a; intro w30 hbn hq hz a h
                replace hf := hf.step hq (by first | (simp; done) | (simp; omega))
                replace hX := hX.fr hq (by intro k hk hb; simp at hk; subst hk; exact absurd (hlt_hX_13 _ hb) (by omega))
                replace hY := hY.fr hq (by intro k hk hb; simp at hk; subst hk; exact absurd (hlt_hY_13 _ hb) (by omega))
                replace hb11 := hb11.fr hq (by first | (simp; done) | (simp; omega) | (simp [blks]; done) | (simp [blks]; omega))
                clear hb13 hq hz; have hb13 : Blk w30 g_13 _ [_, _, _, _, _] := hbn; clear hbn
                replace h : Ag a 141 [(0, _), (1, _), (6, _), (7, _), (8, _), (9, _), (11, _), (12, _), (13, _)] := h.sub (.cons rfl (.cons rfl (.cons rfl (.cons rfl (.cons rfl (.cons rfl (.cons rfl (.cons rfl (.cons rfl .nil)))))))))
                refine wnt ?_
                refine wp_seq ?_
                refine wR ?_
                refine st_fieldAddr h rfl fa100_2 rfl ?_; clear h a; intro a h
                refine st_loadB h rfl hb13 rfl na3 rfl ?_; clear h a; intro a h
                refine st_fieldAddr h rfl fa100_3 rfl ?_; clear h a; intro a h
                refine st_loadB h rfl hb13 rfl na3 rfl ?_; clear h a; intro a h
                refine st_add h rfl rfl (by first | exact IntWalk.i64_in _ (by omega) | rfl) rfl ?_; clear h a; intro a h
                refine st_move h rfl rfl ?_; clear h a; intro a h
                refine st_le h rfl rfl rfl ?_; clear h a; intro a h
                replace h : Ag a 141 [(0, _), (1, _), (6, _), (7, _), (8, _), (9, _), (11, _), (13, _), (111, _)] := h.sub (.cons rfl (.cons rfl (.cons rfl (.cons rfl (.cons rfl (.cons rfl (.cons rfl (.cons rfl (.cons rfl .nil)))))))))
                refine wnt ?_
                first | refine cond_dec h rfl (fun c19 => ?_) (fun c19 => ?_) | refine cond_ndec h rfl (fun c19 => ?_) (fun c19 => ?_) | refine cond_split h rfl (fun c19 => ?_) (fun c19 => ?_)
                ·refine id ?_
                 refine wp_seq ?_
                 refine wR ?_
                 refine st_fieldAddr h rfl fa100_1 rfl ?_; clear h a; intro a h
                 refine st_loadB h rfl hb11 rfl na5 rfl ?_; clear h a; intro a h
                 refine st_fieldAddr h rfl fa100_1 rfl ?_; clear h a; intro a h
                 refine st_storeB h rfl rfl hb13 rfl rfl rfl sz5 ?_; clear h a; intro w31 hbn hq hz a h
                 replace hf := hf.step hq (by first | (simp; done) | (simp; omega))
                 replace hX := hX.fr hq (by intro k hk hb; simp at hk; subst hk; exact absurd (hlt_hX_13 _ hb) (by omega))
                 replace hY := hY.fr hq (by intro k hk hb; simp at hk; subst hk; exact absurd (hlt_hY_13 _ hb) (by omega))
                 replace hb11 := hb11.fr hq (by first | (simp; done) | (simp; omega) | (simp [blks]; done) | (simp [blks]; omega))
                 clear hb13 hq hz; have hb13 : Blk w31 g_13 _ [_, _, _, _, _] := hbn; clear hbn
                 replace h : Ag a 141 [(0, _), (1, _), (6, _), (7, _), (8, _), (9, _), (11, _), (13, _)] := h.sub (.cons rfl (.cons rfl (.cons rfl (.cons rfl (.cons rfl (.cons rfl (.cons rfl (.cons rfl .nil))))))))
                 refine wnt ?_
                 refine wR ?_
                 refine st_loadBA h rfl hb13 ag100 rfl ?_; clear h a; intro a h
                 refine st_storeBA h rfl rfl hb11 rfl (by first | (simp [Value.oneCell', S]; done) | exact Enc.one _ _) sz100 ?_; clear h a; intro w32 hbn hq hz a h
                 replace hf := hf.step hq (by first | (simp; done) | (simp; omega))
                 replace hX := hX.fr hq (by intro k hk hb; simp at hk; subst hk; exact absurd (hlt_hX_11 _ hb) (by omega))
                 replace hY := hY.fr hq (by intro k hk hb; simp at hk; subst hk; exact absurd (hlt_hY_11 _ hb) (by omega))
                 replace hb13 := hb13.fr hq (by first | (simp; done) | (simp; omega) | (simp [blks]; done) | (simp [blks]; omega))
                 clear hb11 hq hz; have hb11 : Blk w32 g_11 _ [_, _, _, _, _] := hbn; clear hbn
                 replace hb11 : Blk w32 g_11 100 [.int .u8 kx.k, .int .u8 (1 + ch / 16 % 3), .int .i64 kx.a, .int .i64 kx.b, .bool kx.f] := hb11
                 replace h : Ag a 141 [(0, _), (1, _), (6, _), (7, _), (8, _), (9, _), (11, _)] := h.sub (.cons rfl (.cons rfl (.cons rfl (.cons rfl (.cons rfl (.cons rfl (.cons rfl .nil)))))))
                 refine wpList_nil (norm_blk (norm_then ?_))
                 first | exact ⟨⟨kx.k, 1 + ch / 16 % 3, kx.a, kx.b, kx.f⟩, h.sub (.cons rfl (.cons rfl (.cons rfl (.cons rfl (.cons rfl (.cons rfl (.cons rfl .nil))))))), hb11, fitC hk7.1 (by omega) hk7.2.2.1 hk7.2.2.2.1 hk7.2.2.2.2 hfl (by omega), (by first | exact pick_purl (by omega) | exact pick_over (by omega) (by omega) | exact pick_over' (by omega) (by omega) | exact pick_two hxp hxq (by omega) (by omega) (by omega) | exact pick_two' hxp hxq (by omega) (by omega) | exact pick_twox (by omega) (by omega) | exact pick_tuck hxp (by omega) (by omega) | exact pick_tuck' hxp (by omega) (by omega) | exact pick_slip (by omega) | exact pick_cable hkx (by omega) (by omega) | exact pick_cable' hkx (by omega) (by omega) | exact pick_knit (by omega)), hX, hY, hf⟩ | exact ⟨⟨_, _, _, _, _⟩, h.sub (.cons rfl (.cons rfl (.cons rfl (.cons rfl (.cons rfl (.cons rfl (.cons rfl .nil))))))), hb11, by first | exact fitP (by omega) (by omega) (by omega) hfl | exact fitO (by omega) (by omega) (by omega) hfl (by omega) | exact fitT (by omega) (by omega) (by omega) hfl hxp hxq (by omega) | exact fitU (by omega) (by omega) (by omega) hfl hxp (by omega) | exact fitS (by omega) (by omega) (by omega) hfl, (by first | exact pick_purl (by omega) | exact pick_over (by omega) (by omega) | exact pick_over' (by omega) (by omega) | exact pick_two hxp hxq (by omega) (by omega) (by omega) | exact pick_two' hxp hxq (by omega) (by omega) | exact pick_twox (by omega) (by omega) | exact pick_tuck hxp (by omega) (by omega) | exact pick_tuck' hxp (by omega) (by omega) | exact pick_slip (by omega) | exact pick_cable hkx (by omega) (by omega) | exact pick_cable' hkx (by omega) (by omega) | exact pick_knit (by omega)), hX, hY, hf⟩
                ·refine id ?_
                 refine wp_skip (norm_blk (norm_then ?_))
                 first | exact ⟨⟨kx.k, 1 + ch / 16 % 3, kx.a, kx.b, kx.f⟩, h.sub (.cons rfl (.cons rfl (.cons rfl (.cons rfl (.cons rfl (.cons rfl (.cons rfl .nil))))))), hb11, fitC hk7.1 (by omega) hk7.2.2.1 hk7.2.2.2.1 hk7.2.2.2.2 hfl (by omega), (by first | exact pick_purl (by omega) | exact pick_over (by omega) (by omega) | exact pick_over' (by omega) (by omega) | exact pick_two hxp hxq (by omega) (by omega) (by omega) | exact pick_two' hxp hxq (by omega) (by omega) | exact pick_twox (by omega) (by omega) | exact pick_tuck hxp (by omega) (by omega) | exact pick_tuck' hxp (by omega) (by omega) | exact pick_slip (by omega) | exact pick_cable hkx (by omega) (by omega) | exact pick_cable' hkx (by omega) (by omega) | exact pick_knit (by omega)), hX, hY, hf⟩ | exact ⟨⟨_, _, _, _, _⟩, h.sub (.cons rfl (.cons rfl (.cons rfl (.cons rfl (.cons rfl (.cons rfl (.cons rfl .nil))))))), hb11, by first | exact fitP (by omega) (by omega) (by omega) hfl | exact fitO (by omega) (by omega) (by omega) hfl (by omega) | exact fitT (by omega) (by omega) (by omega) hfl hxp hxq (by omega) | exact fitU (by omega) (by omega) (by omega) hfl hxp (by omega) | exact fitS (by omega) (by omega) (by omega) hfl, (by first | exact pick_purl (by omega) | exact pick_over (by omega) (by omega) | exact pick_over' (by omega) (by omega) | exact pick_two hxp hxq (by omega) (by omega) (by omega) | exact pick_two' hxp hxq (by omega) (by omega) | exact pick_twox (by omega) (by omega) | exact pick_tuck hxp (by omega) (by omega) | exact pick_tuck' hxp (by omega) (by omega) | exact pick_slip (by omega) | exact pick_cable hkx (by omega) (by omega) | exact pick_cable' hkx (by omega) (by omega) | exact pick_knit (by omega)), hX, hY, hf⟩
               ·refine id ?_
                rw [decide_eq_false c16] at h
                refine wp_seq ?_
                refine wR ?_
                refine st_eq h rfl rfl rfl ?_; clear h a; intro a h
                refine st_assign h rfl rfl ?_; clear h a; intro a h
                replace h : Ag a 141 [(0, _), (1, _), (6, _), (7, _), (8, _), (9, _), (10, _), (11, _), (12, _), (41, _), (90, _)] := h.sub (.cons rfl (.cons rfl (.cons rfl (.cons rfl (.cons rfl (.cons rfl (.cons rfl (.cons rfl (.cons rfl (.cons rfl (.cons rfl .nil)))))))))))
                refine wnt ?_
                first | refine cond_dec h rfl (fun c17 => ?_) (fun c17 => ?_) | refine cond_ndec h rfl (fun c17 => ?_) (fun c17 => ?_) | refine cond_split h rfl (fun c17 => ?_) (fun c17 => ?_)
                ·refine id ?_
                 rw [decide_eq_true c17] at h
                 refine wsn ?_
                 refine cond_true h rfl ?_
                 refine wp_seq ?_
                 refine wR ?_
                 refine st_move h rfl rfl ?_; clear h a; intro a h
                 refine st_move h rfl rfl ?_; clear h a; intro a h
                 refine st_quo h rfl rfl (by omega) (by first | exact IntWalk.u8_quo _ _ (by omega) | rfl) rfl ?_; clear h a; intro a h
                 refine st_mul h rfl rfl (by first | exact IntWalk.u8_in _ (by omega) | rfl) rfl ?_; clear h a; intro a h
                 refine st_sub h rfl rfl (by first | exact IntWalk.u8_in _ (by omega) | rfl) rfl ?_; clear h a; intro a h
                 refine st_move h rfl rfl ?_; clear h a; intro a h
                 refine st_ge h rfl rfl rfl ?_; clear h a; intro a h
                 refine st_lit (cs := [_, _, _, _]) h (evs_cons rfl (evs_cons rfl (evs_cons rfl evs_nil))) bo173 (pok_cons rfl rfl rfl (pok_cons rfl rfl rfl (pok_cons rfl rfl rfl pok_nil))) rfl rfl ?_; clear h a; intro a h
                 refine st_call h (evs_cons rfl evs_nil) co105 (kof_ok 7 0 _ _ _ (by omega) (by omega) (by omega)) rfl ?_; clear h a; rintro _ w33 ⟨rfl, hq⟩ a h
                 replace hf := hf.next hq
                 replace hX := hX.ext hq
                 replace hY := hY.ext hq
                 replace hb11 := hb11.ext hq
                 clear hq
                 obtain ⟨kx, hkx⟩ : ∃ s, s = kOfS 7 0 (ch - ch / 16 * 16) (decide (128 ≤ ch)) := ⟨_, rfl⟩
                 rw [← hkx] at h
                 have hk7 := kOf7 (ch - ch / 16 * 16) (decide (128 ≤ ch)) (by omega)
                 rw [← hkx] at hk7
                 refine st_alloc h zv100 rfl rfl ?_; clear h a; intro w34 hb13 hq hz a h
                 obtain ⟨g_13, hg⟩ : ∃ g, g = w33.heap.size := ⟨_, rfl⟩; rw [← hg] at hb13 h hz
                 have hl13 : w0.heap.size ≤ g_13 := by have := hf.size; omega
                 have hlt_hX_13 : ∀ k ∈ blks X, k < g_13 := fun k hk => by have := (hX.blk k hk).2; omega
                 have hlt_hY_13 : ∀ k ∈ blks (.slice YA ys.length yc), k < g_13 := fun k hk => by have := (hY.blk k hk).2; omega
                 have hn_11_13 : g_11 < g_13 := by have := hb11.lt; omega
                 replace hf := hf.next hq
                 replace hX := hX.ext hq
                 replace hY := hY.ext hq
                 replace hb11 := hb11.ext hq
                 clear hq hz hg
                 refine st_storeBA h rfl rfl hb13 rfl (by first | (simp [Value.oneCell', S]; done) | exact Enc.one _ _) sz100 ?_; clear h a; intro w35 hbn hq hz a h
                 replace hf := hf.step hq (by first | (simp; done) | (simp; omega))
                 replace hX := hX.fr hq (by intro k hk hb; simp at hk; subst hk; exact absurd (hlt_hX_13 _ hb) (by omega))
                 replace hY := hY.fr hq (by intro k hk hb; simp at hk; subst hk; exact absurd (hlt_hY_13 _ hb) (by omega))
                 replace hb11 := hb11.fr hq (by first | (simp; done) | (simp; omega) | (simp [blks]; done) | (simp [blks]; omega))
                 clear hb13 hq hz; have hb13 : Blk w35 g_13 _ [_, _, _, _, _] := hbn; clear hbn
                 replace h : Ag a 141 [(0, _), (1, _), (6, _), (7, _), (8, _), (9, _), (11, _), (12, _), (13, _)] := h.sub (.cons rfl (.cons rfl (.cons rfl (.cons rfl (.cons rfl (.cons rfl (.cons rfl (.cons rfl (.cons rfl .nil)))))))))
                 refine wnt ?_
                 refine wp_seq ?_
                 refine wR ?_
                 refine st_fieldAddr h rfl fa100_2 rfl ?_; clear h a; intro a h
                 refine st_loadB h rfl hb13 rfl na3 rfl ?_; clear h a; intro a h
                 refine st_fieldAddr h rfl fa100_3 rfl ?_; clear h a; intro a h
                 refine st_loadB h rfl hb13 rfl na3 rfl ?_; clear h a; intro a h
                 refine st_add h rfl rfl (by first | exact IntWalk.i64_in _ (by omega) | rfl) rfl ?_; clear h a; intro a h
                 refine st_move h rfl rfl ?_; clear h a; intro a h
                 refine st_le h rfl rfl rfl ?_; clear h a; intro a h
                 replace h : Ag a 141 [(0, _), (1, _), (6, _), (7, _), (8, _), (9, _), (11, _), (13, _), (111, _)] := h.sub (.cons rfl (.cons rfl (.cons rfl (.cons rfl (.cons rfl (.cons rfl (.cons rfl (.cons rfl (.cons rfl .nil)))))))))
                 refine wnt ?_
                 first | refine cond_dec h rfl (fun c19 => ?_) (fun c19 => ?_) | refine cond_ndec h rfl (fun c19 => ?_) (fun c19 => ?_) | refine cond_split h rfl (fun c19 => ?_) (fun c19 => ?_)
                 ·refine id ?_
                  refine wp_seq ?_
                  refine wR ?_
                  refine st_fieldAddr h rfl fa100_1 rfl ?_; clear h a; intro a h
                  refine st_loadB h rfl hb11 rfl na5 rfl ?_; clear h a; intro a h
                  refine st_fieldAddr h rfl fa100_1 rfl ?_; clear h a; intro a h
                  refine st_storeB h rfl rfl hb13 rfl rfl rfl sz5 ?_; clear h a; intro w36 hbn hq hz a h
                  replace hf := hf.step hq (by first | (simp; done) | (simp; omega))
                  replace hX := hX.fr hq (by intro k hk hb; simp at hk; subst hk; exact absurd (hlt_hX_13 _ hb) (by omega))
                  replace hY := hY.fr hq (by intro k hk hb; simp at hk; subst hk; exact absurd (hlt_hY_13 _ hb) (by omega))
                  replace hb11 := hb11.fr hq (by first | (simp; done) | (simp; omega) | (simp [blks]; done) | (simp [blks]; omega))
                  clear hb13 hq hz; have hb13 : Blk w36 g_13 _ [_, _, _, _, _] := hbn; clear hbn
                  replace h : Ag a 141 [(0, _), (1, _), (6, _), (7, _), (8, _), (9, _), (11, _), (13, _)] := h.sub (.cons rfl (.cons rfl (.cons rfl (.cons rfl (.cons rfl (.cons rfl (.cons rfl (.cons rfl .nil))))))))
                  refine wnt ?_
                  refine wR ?_
                  refine st_loadBA h rfl hb13 ag100 rfl ?_; clear h a; intro a h
                  refine st_storeBA h rfl rfl hb11 rfl (by first | (simp [Value.oneCell', S]; done) | exact Enc.one _ _) sz100 ?_; clear h a; intro w37 hbn hq hz a h
                  replace hf := hf.step hq (by first | (simp; done) | (simp; omega))
                  replace hX := hX.fr hq (by intro k hk hb; simp at hk; subst hk; exact absurd (hlt_hX_11 _ hb) (by omega))
                  replace hY := hY.fr hq (by intro k hk hb; simp at hk; subst hk; exact absurd (hlt_hY_11 _ hb) (by omega))
                  replace hb13 := hb13.fr hq (by first | (simp; done) | (simp; omega) | (simp [blks]; done) | (simp [blks]; omega))
                  clear hb11 hq hz; have hb11 : Blk w37 g_11 _ [_, _, _, _, _] := hbn; clear hbn
                  replace hb11 : Blk w37 g_11 100 [.int .u8 kx.k, .int .u8 (1 + ch / 16 % 3), .int .i64 kx.a, .int .i64 kx.b, .bool kx.f] := hb11
                  replace h : Ag a 141 [(0, _), (1, _), (6, _), (7, _), (8, _), (9, _), (11, _)] := h.sub (.cons rfl (.cons rfl (.cons rfl (.cons rfl (.cons rfl (.cons rfl (.cons rfl .nil)))))))
                  refine wpList_nil (norm_blk (norm_then ?_))
                  first | exact ⟨⟨kx.k, 1 + ch / 16 % 3, kx.a, kx.b, kx.f⟩, h.sub (.cons rfl (.cons rfl (.cons rfl (.cons rfl (.cons rfl (.cons rfl (.cons rfl .nil))))))), hb11, fitC hk7.1 (by omega) hk7.2.2.1 hk7.2.2.2.1 hk7.2.2.2.2 hfl (by omega), (by first | exact pick_purl (by omega) | exact pick_over (by omega) (by omega) | exact pick_over' (by omega) (by omega) | exact pick_two hxp hxq (by omega) (by omega) (by omega) | exact pick_two' hxp hxq (by omega) (by omega) | exact pick_twox (by omega) (by omega) | exact pick_tuck hxp (by omega) (by omega) | exact pick_tuck' hxp (by omega) (by omega) | exact pick_slip (by omega) | exact pick_cable hkx (by omega) (by omega) | exact pick_cable' hkx (by omega) (by omega) | exact pick_knit (by omega)), hX, hY, hf⟩ | exact ⟨⟨_, _, _, _, _⟩, h.sub (.cons rfl (.cons rfl (.cons rfl (.cons rfl (.cons rfl (.cons rfl (.cons rfl .nil))))))), hb11, by first | exact fitP (by omega) (by omega) (by omega) hfl | exact fitO (by omega) (by omega) (by omega) hfl (by omega) | exact fitT (by omega) (by omega) (by omega) hfl hxp hxq (by omega) | exact fitU (by omega) (by omega) (by omega) hfl hxp (by omega) | exact fitS (by omega) (by omega) (by omega) hfl, (by first | exact pick_purl (by omega) | exact pick_over (by omega) (by omega) | exact pick_over' (by omega) (by omega) | exact pick_two hxp hxq (by omega) (by omega) (by omega) | exact pick_two' hxp hxq (by omega) (by omega) | exact pick_twox (by omega) (by omega) | exact pick_tuck hxp (by omega) (by omega) | exact pick_tuck' hxp (by omega) (by omega) | exact pick_slip (by omega) | exact pick_cable hkx (by omega) (by omega) | exact pick_cable' hkx (by omega) (by omega) | exact pick_knit (by omega)), hX, hY, hf⟩
                 ·refine id ?_
                  refine wp_skip (norm_blk (norm_then ?_))
                  first | exact ⟨⟨kx.k, 1 + ch / 16 % 3, kx.a, kx.b, kx.f⟩, h.sub (.cons rfl (.cons rfl (.cons rfl (.cons rfl (.cons rfl (.cons rfl (.cons rfl .nil))))))), hb11, fitC hk7.1 (by omega) hk7.2.2.1 hk7.2.2.2.1 hk7.2.2.2.2 hfl (by omega), (by first | exact pick_purl (by omega) | exact pick_over (by omega) (by omega) | exact pick_over' (by omega) (by omega) | exact pick_two hxp hxq (by omega) (by omega) (by omega) | exact pick_two' hxp hxq (by omega) (by omega) | exact pick_twox (by omega) (by omega) | exact pick_tuck hxp (by omega) (by omega) | exact pick_tuck' hxp (by omega) (by omega) | exact pick_slip (by omega) | exact pick_cable hkx (by omega) (by omega) | exact pick_cable' hkx (by omega) (by omega) | exact pick_knit (by omega)), hX, hY, hf⟩ | exact ⟨⟨_, _, _, _, _⟩, h.sub (.cons rfl (.cons rfl (.cons rfl (.cons rfl (.cons rfl (.cons rfl (.cons rfl .nil))))))), hb11, by first | exact fitP (by omega) (by omega) (by omega) hfl | exact fitO (by omega) (by omega) (by omega) hfl (by omega) | exact fitT (by omega) (by omega) (by omega) hfl hxp hxq (by omega) | exact fitU (by omega) (by omega) (by omega) hfl hxp (by omega) | exact fitS (by omega) (by omega) (by omega) hfl, (by first | exact pick_purl (by omega) | exact pick_over (by omega) (by omega) | exact pick_over' (by omega) (by omega) | exact pick_two hxp hxq (by omega) (by omega) (by omega) | exact pick_two' hxp hxq (by omega) (by omega) | exact pick_twox (by omega) (by omega) | exact pick_tuck hxp (by omega) (by omega) | exact pick_tuck' hxp (by omega) (by omega) | exact pick_slip (by omega) | exact pick_cable hkx (by omega) (by omega) | exact pick_cable' hkx (by omega) (by omega) | exact pick_knit (by omega)), hX, hY, hf⟩
                ·refine id ?_
                 rw [decide_eq_false c17] at h
                 refine wR ?_
                 refine st_eq h rfl rfl rfl ?_; clear h a; intro a h
                 refine st_assign h rfl rfl ?_; clear h a; intro a h
                 replace h : Ag a 141 [(0, _), (1, _), (6, _), (7, _), (8, _), (9, _), (10, _), (11, _), (12, _), (90, _)] := h.sub (.cons rfl (.cons rfl (.cons rfl (.cons rfl (.cons rfl (.cons rfl (.cons rfl (.cons rfl (.cons rfl (.cons rfl .nil))))))))))
                 refine wnt ?_
                 first | refine cond_dec h rfl (fun c18 => ?_) (fun c18 => ?_) | refine cond_ndec h rfl (fun c18 => ?_) (fun c18 => ?_) | refine cond_split h rfl (fun c18 => ?_) (fun c18 => ?_)
                 ·refine id ?_
                  refine wp_seq ?_
                  refine wR ?_
                  refine st_move h rfl rfl ?_; clear h a; intro a h
                  refine st_move h rfl rfl ?_; clear h a; intro a h
                  refine st_quo h rfl rfl (by omega) (by first | exact IntWalk.u8_quo _ _ (by omega) | rfl) rfl ?_; clear h a; intro a h
                  refine st_mul h rfl rfl (by first | exact IntWalk.u8_in _ (by omega) | rfl) rfl ?_; clear h a; intro a h
                  refine st_sub h rfl rfl (by first | exact IntWalk.u8_in _ (by omega) | rfl) rfl ?_; clear h a; intro a h
                  refine st_move h rfl rfl ?_; clear h a; intro a h
                  refine st_ge h rfl rfl rfl ?_; clear h a; intro a h
                  refine st_lit (cs := [_, _, _, _]) h (evs_cons rfl (evs_cons rfl (evs_cons rfl evs_nil))) bo173 (pok_cons rfl rfl rfl (pok_cons rfl rfl rfl (pok_cons rfl rfl rfl pok_nil))) rfl rfl ?_; clear h a; intro a h
                  refine st_call h (evs_cons rfl evs_nil) co105 (kof_ok 7 0 _ _ _ (by omega) (by omega) (by omega)) rfl ?_; clear h a; rintro _ w38 ⟨rfl, hq⟩ a h
                  replace hf := hf.next hq
                  replace hX := hX.ext hq
                  replace hY := hY.ext hq
                  replace hb11 := hb11.ext hq
                  clear hq
                  obtain ⟨kx, hkx⟩ : ∃ s, s = kOfS 7 0 (ch - ch / 16 * 16) (decide (128 ≤ ch)) := ⟨_, rfl⟩
                  rw [← hkx] at h
                  have hk7 := kOf7 (ch - ch / 16 * 16) (decide (128 ≤ ch)) (by omega)
                  rw [← hkx] at hk7
                  refine st_alloc h zv100 rfl rfl ?_; clear h a; intro w39 hb13 hq hz a h
                  obtain ⟨g_13, hg⟩ : ∃ g, g = w38.heap.size := ⟨_, rfl⟩; rw [← hg] at hb13 h hz
                  have hl13 : w0.heap.size ≤ g_13 := by have := hf.size; omega
                  have hlt_hX_13 : ∀ k ∈ blks X, k < g_13 := fun k hk => by have := (hX.blk k hk).2; omega
                  have hlt_hY_13 : ∀ k ∈ blks (.slice YA ys.length yc), k < g_13 := fun k hk => by have := (hY.blk k hk).2; omega
                  have hn_11_13 : g_11 < g_13 := by have := hb11.lt; omega
                  replace hf := hf.next hq
                  replace hX := hX.ext hq
                  replace hY := hY.ext hq
                  replace hb11 := hb11.ext hq
                  clear hq hz hg
                  refine st_storeBA h rfl rfl hb13 rfl (by first | (simp [Value.oneCell', S]; done) | exact Enc.one _ _) sz100 ?_; clear h a; intro w40 hbn hq hz a h
                  replace hf := hf.step hq (by first | (simp; done) | (simp; omega))
                  replace hX := hX.fr hq (by intro k hk hb; simp at hk; subst hk; exact absurd (hlt_hX_13 _ hb) (by omega))
                  replace hY := hY.fr hq (by intro k hk hb; simp at hk; subst hk; exact absurd (hlt_hY_13 _ hb) (by omega))
                  replace hb11 := hb11.fr hq (by first | (simp; done) | (simp; omega) | (simp [blks]; done) | (simp [blks]; omega))
                  clear hb13 hq hz; have hb13 : Blk w40 g_13 _ [_, _, _, _, _] := hbn; clear hbn
                  replace h : Ag a 141 [(0, _), (1, _), (6, _), (7, _), (8, _), (9, _), (11, _), (12, _), (13, _)] := h.sub (.cons rfl (.cons rfl (.cons rfl (.cons rfl (.cons rfl (.cons rfl (.cons rfl (.cons rfl (.cons rfl .nil)))))))))
                  refine wnt ?_
                  refine wp_seq ?_
                  refine wR ?_
                  refine st_fieldAddr h rfl fa100_2 rfl ?_; clear h a; intro a h
                  refine st_loadB h rfl hb13 rfl na3 rfl ?_; clear h a; intro a h
                  refine st_fieldAddr h rfl fa100_3 rfl ?_; clear h a; intro a h
                  refine st_loadB h rfl hb13 rfl na3 rfl ?_; clear h a; intro a h
                  refine st_add h rfl rfl (by first | exact IntWalk.i64_in _ (by omega) | rfl) rfl ?_; clear h a; intro a h
                  refine st_move h rfl rfl ?_; clear h a; intro a h
                  refine st_le h rfl rfl rfl ?_; clear h a; intro a h
                  replace h : Ag a 141 [(0, _), (1, _), (6, _), (7, _), (8, _), (9, _), (11, _), (13, _), (111, _)] := h.sub (.cons rfl (.cons rfl (.cons rfl (.cons rfl (.cons rfl (.cons rfl (.cons rfl (.cons rfl (.cons rfl .nil)))))))))
                  refine wnt ?_
                  first | refine cond_dec h rfl (fun c19 => ?_) (fun c19 => ?_) | refine cond_ndec h rfl (fun c19 => ?_) (fun c19 => ?_) | refine cond_split h rfl (fun c19 => ?_) (fun c19 => ?_)
                  ·refine id ?_
                   refine wp_seq ?_
                   refine wR ?_
                   refine st_fieldAddr h rfl fa100_1 rfl ?_; clear h a; intro a h
                   refine st_loadB h rfl hb11 rfl na5 rfl ?_; clear h a; intro a h
                   refine st_fieldAddr h rfl fa100_1 rfl ?_; clear h a; intro a h
                   refine st_storeB h rfl rfl hb13 rfl rfl rfl sz5 ?_; clear h a; intro w41 hbn hq hz a h
                   replace hf := hf.step hq (by first | (simp; done) | (simp; omega))
                   replace hX := hX.fr hq (by intro k hk hb; simp at hk; subst hk; exact absurd (hlt_hX_13 _ hb) (by omega))
                   replace hY := hY.fr hq (by intro k hk hb; simp at hk; subst hk; exact absurd (hlt_hY_13 _ hb) (by omega))
                   replace hb11 := hb11.fr hq (by first | (simp; done) | (simp; omega) | (simp [blks]; done) | (simp [blks]; omega))
                   clear hb13 hq hz; have hb13 : Blk w41 g_13 _ [_, _, _, _, _] := hbn; clear hbn
                   replace h : Ag a 141 [(0, _), (1, _), (6, _), (7, _), (8, _), (9, _), (11, _), (13, _)] := h.sub (.cons rfl (.cons rfl (.cons rfl (.cons rfl (.cons rfl (.cons rfl (.cons rfl (.cons rfl .nil))))))))
                   refine wnt ?_
                   refine wR ?_
                   refine st_loadBA h rfl hb13 ag100 rfl ?_; clear h a; intro a h
                   refine st_storeBA h rfl rfl hb11 rfl (by first | (simp [Value.oneCell', S]; done) | exact Enc.one _ _) sz100 ?_; clear h a; intro w42 hbn hq hz a h
                   replace hf := hf.step hq (by first | (simp; done) | (simp; omega))
                   replace hX := hX.fr hq (by intro k hk hb; simp at hk; subst hk; exact absurd (hlt_hX_11 _ hb) (by omega))
                   replace hY := hY.fr hq (by intro k hk hb; simp at hk; subst hk; exact absurd (hlt_hY_11 _ hb) (by omega))
                   replace hb13 := hb13.fr hq (by first | (simp; done) | (simp; omega) | (simp [blks]; done) | (simp [blks]; omega))
                   clear hb11 hq hz; have hb11 : Blk w42 g_11 _ [_, _, _, _, _] := hbn; clear hbn
                   replace hb11 : Blk w42 g_11 100 [.int .u8 kx.k, .int .u8 (1 + ch / 16 % 3), .int .i64 kx.a, .int .i64 kx.b, .bool kx.f] := hb11
                   replace h : Ag a 141 [(0, _), (1, _), (6, _), (7, _), (8, _), (9, _), (11, _)] := h.sub (.cons rfl (.cons rfl (.cons rfl (.cons rfl (.cons rfl (.cons rfl (.cons rfl .nil)))))))
                   refine wpList_nil (norm_blk (norm_then ?_))
                   first | exact ⟨⟨kx.k, 1 + ch / 16 % 3, kx.a, kx.b, kx.f⟩, h.sub (.cons rfl (.cons rfl (.cons rfl (.cons rfl (.cons rfl (.cons rfl (.cons rfl .nil))))))), hb11, fitC hk7.1 (by omega) hk7.2.2.1 hk7.2.2.2.1 hk7.2.2.2.2 hfl (by omega), (by first | exact pick_purl (by omega) | exact pick_over (by omega) (by omega) | exact pick_over' (by omega) (by omega) | exact pick_two hxp hxq (by omega) (by omega) (by omega) | exact pick_two' hxp hxq (by omega) (by omega) | exact pick_twox (by omega) (by omega) | exact pick_tuck hxp (by omega) (by omega) | exact pick_tuck' hxp (by omega) (by omega) | exact pick_slip (by omega) | exact pick_cable hkx (by omega) (by omega) | exact pick_cable' hkx (by omega) (by omega) | exact pick_knit (by omega)), hX, hY, hf⟩ | exact ⟨⟨_, _, _, _, _⟩, h.sub (.cons rfl (.cons rfl (.cons rfl (.cons rfl (.cons rfl (.cons rfl (.cons rfl .nil))))))), hb11, by first | exact fitP (by omega) (by omega) (by omega) hfl | exact fitO (by omega) (by omega) (by omega) hfl (by omega) | exact fitT (by omega) (by omega) (by omega) hfl hxp hxq (by omega) | exact fitU (by omega) (by omega) (by omega) hfl hxp (by omega) | exact fitS (by omega) (by omega) (by omega) hfl, (by first | exact pick_purl (by omega) | exact pick_over (by omega) (by omega) | exact pick_over' (by omega) (by omega) | exact pick_two hxp hxq (by omega) (by omega) (by omega) | exact pick_two' hxp hxq (by omega) (by omega) | exact pick_twox (by omega) (by omega) | exact pick_tuck hxp (by omega) (by omega) | exact pick_tuck' hxp (by omega) (by omega) | exact pick_slip (by omega) | exact pick_cable hkx (by omega) (by omega) | exact pick_cable' hkx (by omega) (by omega) | exact pick_knit (by omega)), hX, hY, hf⟩
                  ·refine id ?_
                   refine wp_skip (norm_blk (norm_then ?_))
                   first | exact ⟨⟨kx.k, 1 + ch / 16 % 3, kx.a, kx.b, kx.f⟩, h.sub (.cons rfl (.cons rfl (.cons rfl (.cons rfl (.cons rfl (.cons rfl (.cons rfl .nil))))))), hb11, fitC hk7.1 (by omega) hk7.2.2.1 hk7.2.2.2.1 hk7.2.2.2.2 hfl (by omega), (by first | exact pick_purl (by omega) | exact pick_over (by omega) (by omega) | exact pick_over' (by omega) (by omega) | exact pick_two hxp hxq (by omega) (by omega) (by omega) | exact pick_two' hxp hxq (by omega) (by omega) | exact pick_twox (by omega) (by omega) | exact pick_tuck hxp (by omega) (by omega) | exact pick_tuck' hxp (by omega) (by omega) | exact pick_slip (by omega) | exact pick_cable hkx (by omega) (by omega) | exact pick_cable' hkx (by omega) (by omega) | exact pick_knit (by omega)), hX, hY, hf⟩ | exact ⟨⟨_, _, _, _, _⟩, h.sub (.cons rfl (.cons rfl (.cons rfl (.cons rfl (.cons rfl (.cons rfl (.cons rfl .nil))))))), hb11, by first | exact fitP (by omega) (by omega) (by omega) hfl | exact fitO (by omega) (by omega) (by omega) hfl (by omega) | exact fitT (by omega) (by omega) (by omega) hfl hxp hxq (by omega) | exact fitU (by omega) (by omega) (by omega) hfl hxp (by omega) | exact fitS (by omega) (by omega) (by omega) hfl, (by first | exact pick_purl (by omega) | exact pick_over (by omega) (by omega) | exact pick_over' (by omega) (by omega) | exact pick_two hxp hxq (by omega) (by omega) (by omega) | exact pick_two' hxp hxq (by omega) (by omega) | exact pick_twox (by omega) (by omega) | exact pick_tuck hxp (by omega) (by omega) | exact pick_tuck' hxp (by omega) (by omega) | exact pick_slip (by omega) | exact pick_cable hkx (by omega) (by omega) | exact pick_cable' hkx (by omega) (by omega) | exact pick_knit (by omega)), hX, hY, hf⟩
                 ·refine id ?_
                  refine wp_skip (norm_blk (norm_then ?_))
                  first | exact ⟨⟨kx.k, 1 + ch / 16 % 3, kx.a, kx.b, kx.f⟩, h.sub (.cons rfl (.cons rfl (.cons rfl (.cons rfl (.cons rfl (.cons rfl (.cons rfl .nil))))))), hb11, fitC hk7.1 (by omega) hk7.2.2.1 hk7.2.2.2.1 hk7.2.2.2.2 hfl (by omega), (by first | exact pick_purl (by omega) | exact pick_over (by omega) (by omega) | exact pick_over' (by omega) (by omega) | exact pick_two hxp hxq (by omega) (by omega) (by omega) | exact pick_two' hxp hxq (by omega) (by omega) | exact pick_twox (by omega) (by omega) | exact pick_tuck hxp (by omega) (by omega) | exact pick_tuck' hxp (by omega) (by omega) | exact pick_slip (by omega) | exact pick_cable hkx (by omega) (by omega) | exact pick_cable' hkx (by omega) (by omega) | exact pick_knit (by omega)), hX, hY, hf⟩ | exact ⟨⟨_, _, _, _, _⟩, h.sub (.cons rfl (.cons rfl (.cons rfl (.cons rfl (.cons rfl (.cons rfl (.cons rfl .nil))))))), hb11, by first | exact fitP (by omega) (by omega) (by omega) hfl | exact fitO (by omega) (by omega) (by omega) hfl (by omega) | exact fitT (by omega) (by omega) (by omega) hfl hxp hxq (by omega) | exact fitU (by omega) (by omega) (by omega) hfl hxp (by omega) | exact fitS (by omega) (by omega) (by omega) hfl, (by first | exact pick_purl (by omega) | exact pick_over (by omega) (by omega) | exact pick_over' (by omega) (by omega) | exact pick_two hxp hxq (by omega) (by omega) (by omega) | exact pick_two' hxp hxq (by omega) (by omega) | exact pick_twox (by omega) (by omega) | exact pick_tuck hxp (by omega) (by omega) | exact pick_tuck' hxp (by omega) (by omega) | exact pick_slip (by omega) | exact pick_cable hkx (by omega) (by omega) | exact pick_cable' hkx (by omega) (by omega) | exact pick_knit (by omega)), hX, hY, hf⟩
   ·clear h a hX hY hf hb11
    rintro a w43 ⟨s, h, ⟨hb11, hfit, hsp, hX, hY, hf⟩⟩
    obtain ⟨hst1, hst2, hst3⟩ := fit_step hfit hi h8
    have hrs := check_rng hfit.1
    have hks : 0 ≤ s.k := by omega
    have hys : 0 ≤ s.y := by omega
    have hfz := loads_few hfit.2.2.2
    obtain ⟨hfz, hzl, -⟩ := hfz
    have hfn := hfit.2.1
    have hndr := needs_rng s
    refine wp_seq ?_
    refine wR ?_
    refine st_loadBA h rfl hb11 ag100 rfl ?_; clear h a; intro a h
    refine st_call h (evs_cons rfl evs_nil) co72 (refneeds_ok s _ hks hys) rfl ?_; clear h a; rintro _ w44 ⟨rfl, hq⟩ a h
    replace hf := hf.next hq
    replace hX := hX.ext hq
    replace hY := hY.ext hq
    replace hb11 := hb11.ext hq
    clear hq
    refine st_assign h rfl rfl ?_; clear h a; intro a h
    replace h : Ag a 141 [(0, _), (1, _), (6, _), (7, _), (8, _), (9, _), (11, _), (14, _)] := h.sub (.cons rfl (.cons rfl (.cons rfl (.cons rfl (.cons rfl (.cons rfl (.cons rfl (.cons rfl .nil))))))))
    refine wnt ?_
    refine wp_seq ?_
    refine region_held (fun wb w' => Fr [] wb w') hmix ?_; intro w45 hq
    replace hf := hf.next hq
    replace hX := hX.ext hq
    replace hY := hY.ext hq
    replace hb11 := hb11.ext hq
    clear hq; have hC : Fr [] w45 w45 := Fr.refl _ _
    have hX_b := hX
    have hY_b := hY
    have hb11_b := hb11
    refine hd_loadBA 0 (by kernel_rfl) (by kernel_rfl) (by kernel_rfl) hC h wn rfl (fun _ hw => hb11_b.ext hw) ag100 rfl rfl ?_; clear h a; intro a h
    refine hd_move 1 (by kernel_rfl) (by kernel_rfl) (by kernel_rfl) hC h wn rfl rfl rfl ?_; clear h a; intro a h
    refine hd_move 2 (by kernel_rfl) (by kernel_rfl) (by kernel_rfl) hC h wn rfl rfl rfl ?_; clear h a; intro a h
    refine hd_move 3 (by kernel_rfl) (by kernel_rfl) (by kernel_rfl) hC h wn rfl rfl rfl ?_; clear h a; intro a h
    refine hd_move 4 (by kernel_rfl) (by kernel_rfl) (by kernel_rfl) hC h wn rfl rfl rfl ?_; clear h a; intro a h
    refine hd_add 5 (by kernel_rfl) (by kernel_rfl) (by kernel_rfl) hC h wn rfl rfl (by first | exact IntWalk.i64_in _ (by omega) | rfl) rfl rfl ?_; clear h a; intro a h
    refine hd_sl_lh 6 (by kernel_rfl) (by kernel_rfl) (by kernel_rfl) hC (p := i) (p' := i + (needsS s).toNat) h wn rfl rfl rfl el30 (by omega) (by omega) (by omega) (by omega) (by omega) rfl rfl ?_; clear h a; intro a h
    refine hd_one 7 (by kernel_rfl) rfl ?_
    have hpt := (Sl.part hu hfit.2.1).ext hf
    have hnd := needs_rng s
    refine st_call h (evs_cons rfl (evs_cons rfl evs_nil)) co73 (refloads_ok s _ _ _ hks hys hpt) rfl ?_; clear h a; rintro _ w46 ⟨rv, rfl, hr, hq⟩ a h
    have hXr : ∀ k ∈ blks X, k ∉ blks rv := fun k hk hk2 => by have := (hX.blk k hk).2; have := (hr.blk k hk2).1; omega
    have hYr : ∀ k ∈ blks (.slice YA ys.length yc), k ∉ blks rv := fun k hk hk2 => by have := (hY.blk k hk).2; have := (hr.blk k hk2).1; omega
    replace hf := hf.next hq
    replace hX := hX.ext hq
    replace hY := hY.ext hq
    replace hb11 := hb11.ext hq
    replace hC := hC.next hq
    clear hq hpt
    refine hd_next hC ?_
    refine hd_move 8 (by kernel_rfl) (by kernel_rfl) (by kernel_rfl) hC h wn rfl rfl rfl ?_; clear h a; intro a h
    refine hd_extract 9 (by kernel_rfl) (by kernel_rfl) (by kernel_rfl) hC h wn rfl rfl rfl rfl ?_; clear h a; intro a h
    refine hd_extract 10 (by kernel_rfl) (by kernel_rfl) (by kernel_rfl) hC h wn rfl rfl rfl rfl ?_; clear h a; intro a h
    refine hd_one 11 (by kernel_rfl) rfl ?_
    refine st_assign h rfl rfl ?_; clear h a; intro a h
    refine hd_next hC ?_
    refine hd_one 12 (by kernel_rfl) rfl ?_
    refine st_assign h rfl rfl ?_; clear h a; intro a h
    refine hd_next hC ?_
    refine hd_end (by kernel_rfl) ?_
    clear hC hX_b hY_b hb11_b
    replace h : Ag a 141 [(0, _), (1, _), (6, _), (7, _), (8, _), (9, _), (11, _), (14, _), (15, _)] := h.sub (.cons rfl (.cons rfl (.cons rfl (.cons rfl (.cons rfl (.cons rfl (.cons rfl (.cons rfl (.cons rfl .nil)))))))))
    refine (norm_then ?_)
    refine wp_seq ?_
    refine wR ?_
    refine st_move h rfl rfl ?_; clear h a; intro a h
    refine st_loadBA h rfl hb11 ag100 rfl ?_; clear h a; intro a h
    clear hb11
    refine st_bslice [s] h (evs_cons rfl evs_nil) rfl rfl rfl el61 (by decide) rfl ?_; clear h a; intro gN w47 hg hoN hq hz a h
    replace hf := hf.next hq
    replace hX := hX.ext hq
    replace hY := hY.ext hq
    replace hr := hr.ext hq
    clear hq hz hg
    have hbX := hX.blk
    have hbY := hY.blk
    refine st_append h rfl rfl hX hoN.sl el61 (by unfold maxLen; simp; omega) (by simp; omega) (by have := hf.size; omega) rfl ?_; clear h a; intro X3 w48 hX3 hq hx3 a h
    replace hY := hY.fr hq hdis
    replace hr := hr.fr hq hXr
    replace hf := hf.step hq (fun k hk hlt => absurd (hbX k hk).1 (by omega))
    have hdis3 : ∀ k ∈ blks X3, k ∉ blks (.slice YA ys.length yc) := by
     intro k hk
     rcases hx3 with e | e | e
     ·rw [e] at hk; exact hdis k hk
     ·rw [e] at hk; exact hdis k hk
     ·rw [e] at hk; simp at hk; intro hb; have := (hbY k hb).2; omega
    clear hX hbX hbY hq hx3 hdis hXr hoN; have hX := hX3; have hdis := hdis3; clear hX3 hdis3
    refine st_assign h rfl rfl ?_; clear h a; intro a h
    replace h : Ag a 141 [(0, _), (1, _), (6, _), (7, _), (8, _), (9, _), (14, _), (15, _)] := h.sub (.cons rfl (.cons rfl (.cons rfl (.cons rfl (.cons rfl (.cons rfl (.cons rfl (.cons rfl .nil))))))))
    refine wnt ?_
    refine wp_seq ?_
    refine wR ?_
    refine st_move h rfl rfl ?_; clear h a; intro a h
    refine st_move h rfl rfl ?_; clear h a; intro a h
    have hbX := hX.blk
    have hbY := hY.blk
    refine st_append h rfl rfl hY hr.sl el30 (by unfold maxLen; omega) (by omega) (by have := hf.size; omega) rfl ?_; clear h a; intro Y3 w49 hY3 hq hx3 a h
    replace hX := hX.fr hq (fun k hk hk2 => hdis k hk2 hk)
    replace hf := hf.step hq (fun k hk hlt => absurd (hbY k hk).1 (by omega))
    have hdis3 : ∀ k ∈ blks X3, k ∉ blks Y3 := by
     intro k hk
     rcases hx3 with e | e | e
     ·rw [e]; exact hdis k hk
     ·rw [e]; exact hdis k hk
     ·rw [e]; have := (hbX k hk).2; simp; omega
    clear hY hbX hbY hq hx3 hdis hr hYr; have hY := hY3; have hdis := hdis3; clear hY3 hdis3
    refine st_assign h rfl rfl ?_; clear h a; intro a h
    replace h : Ag a 141 [(0, _), (1, _), (6, _), (7, _), (8, _), (9, _), (14, _)] := h.sub (.cons rfl (.cons rfl (.cons rfl (.cons rfl (.cons rfl (.cons rfl (.cons rfl .nil)))))))
    refine wnt ?_
    refine wR ?_
    refine st_move h rfl rfl ?_; clear h a; intro a h
    refine st_move h rfl rfl ?_; clear h a; intro a h
    refine st_add h rfl rfl (by first | exact IntWalk.i64_in _ (by omega) | rfl) rfl ?_; clear h a; intro a h
    refine st_assign h rfl rfl ?_; clear h a; intro a h
    replace h : Ag a 141 [(0, _), (1, _), (6, _), (7, _), (8, _), (9, _)] := h.sub (.cons rfl (.cons rfl (.cons rfl (.cons rfl (.cons rfl (.cons rfl .nil))))))
    refine wpList_nil (norm_blk (norm_then ?_))
    refine wR ?_
    refine st_move h rfl rfl ?_; clear h a; intro a h
    refine st_add h rfl rfl (by first | exact IntWalk.i64_in _ (by omega) | rfl) rfl ?_; clear h a; intro a h
    refine st_assign h rfl rfl ?_; clear h a; intro a h
    replace h : Ag a 141 [(0, _), (1, _), (6, _), (7, _), (8, _), (9, _)] := h.sub (.cons rfl (.cons rfl (.cons rfl (.cons rfl (.cons rfl (.cons rfl .nil))))))
    refine wnt ?_
    exact ⟨⟨i + (needsS s).toNat, xs ++ [s], ys ++ (loadsS s ((ls.drop i).take (needsS s).toNat)).1, _, _⟩, h.sub (.cons rfl (.cons rfl (.cons rfl (.cons rfl (.cons (by show some (Value.int IntKind.i64 ((i : Int) + needsS s)) = some (Value.int IntKind.i64 ((i + (needsS s).toNat : Nat) : Int)); congr 2; omega) (.cons (by show some (Value.int IntKind.i64 ((xs.length : Int) + 1)) = some (Value.int IntKind.i64 (((xs ++ [s]).length : Nat) : Int)); rw [List.length_append]; rfl) .nil)))))), ⟨by simp only; omega, hX, hY, hdis, by simp [hok, (okB_iff s).2 hfit.1], all_app hfy hfz, by simp only [List.length_append, List.length_singleton]; omega, by simp only [List.length_append]; omega, by simp, goR_next hgo (by omega) hchs hsp, hf⟩, by simp only [List.length_append]; omega⟩
 ·obtain rfl : i = ls.length := by omega
  refine wp_exit (exit_then (exit_then (exit_here (norm_then ?_))))
  refine wp_seq ?_
  refine wR ?_
  refine st_move h rfl rfl ?_; clear h a; intro a h
  refine st_move h rfl rfl ?_; clear h a; intro a h
  refine st_assign h rfl rfl ?_; clear h a; intro a h
  refine st_assign h rfl rfl ?_; clear h a; intro a h
  replace h : Ag a 141 [(4, _), (5, _)] := h.sub (.cons rfl (.cons rfl .nil))
  refine wnt ?_
  refine wp_ret ?_
  refine ret2 h Tryd.results94 rfl rfl ?_
  exact ⟨_, rfl, X, _, xs, ys, rfl, hX, hY, hdis, fun e => by have := hne e; omega, hok, by omega, hfy, by have : xs ≠ [] := fun e => (by have := hne e; omega); have := List.length_pos_iff.2 this; omega, by omega, goR_end hgo (by omega), hf⟩
end Go.Proofs.YthehggmdcmpjeaaDoor
namespace Go.Proofs.YthehggmdcmpjeaaDoor
open Go.Lw Go.G14
theorem ag47 : AggOf Tryd.prog 47 1 := ⟨fun _ => by kernel_rfl, fun _ => by kernel_rfl⟩
theorem co94 : CallOf Tryd.prog 94 := CallOf.mk' Tryd.func94 (by kernel_rfl) (by kernel_rfl)
theorem el89 : ElemOf Tryd.prog 89 76 Enc.sl 24 := ElemOf.mk' (z := (.slice none 0 0)) Tryd.underlying89 (by kernel_rfl) rfl
theorem fa91_0 : FieldAt Tryd.prog 91 0 0 := fun _ _ => by kernel_rfl
theorem fa91_1 : FieldAt Tryd.prog 91 1 1 := fun _ _ => by kernel_rfl
theorem na76 : NotAgg Tryd.prog 76 := fun _ => by kernel_rfl
theorem na89 : NotAgg Tryd.prog 89 := fun _ => by kernel_rfl
theorem sz45 : SizeOf Tryd.prog 45 1 := fun _ => by kernel_rfl
theorem sz47 : SizeOf Tryd.prog 47 1 := fun _ => by kernel_rfl
theorem zv47 (w : World) : (zeroValue 47).run Tryd.prog w = .ok (.agg #[(.slice none 0 0)]) w := by kernel_rfl
set_option maxHeartbeats 1000000 in
theorem cof_ok (B : SV → List UInt8) (hs : List SV) (wd : Int) (v : Value) (w0 : World) (hw : 0 ≤ wd ∧ wd ≤ 255) (hsl : Sl Enc.sl w0 v hs) (hin : BytesF B w0 hs) : Rets Tryd.prog 80 #[.agg #[.int .u8 wd, v]] w0 fun r w' => ∃ X rows, r = .agg #[X] ∧ (∃ ps, RowsO 61 100 w0.heap.size w' X ps ∧ ps.map Prod.snd = rows) ∧ rows ≠ [] ∧ (∀ r ∈ rows, goodRow r) ∧ rows = chartF wd (hs.map B) ∧ Fr [] w0 w' := by
 obtain ⟨HA, hc, rfl, hcp⟩ := hsl.form
 obtain ⟨-, -, hM, hA⟩ := Sl.open_ hsl
 unfold maxLen at hM
 refine enter [(0, .agg #[.int .u8 wd, .slice HA hs.length hc])] Tryd.func80 rfl Tryd.ntmps80 rfl (.cons rfl .nil) ?_
 have hf := Fr.refl [] w0
 intro a h
 refine wp_seq ?_
 refine wR ?_
 refine st_box h rfl rfl rfl ?_; clear h a; intro w1 hb1 hq hz a h
 obtain ⟨g_1, hg⟩ : ∃ g, g = w0.heap.size := ⟨_, rfl⟩; rw [← hg] at hb1 h hz
 have hl1 : w0.heap.size ≤ g_1 := by have := hf.size; omega
 replace hf := hf.next hq
 clear hq hz hg
 refine st_alloc h zv47 rfl rfl ?_; clear h a; intro w2 hb2 hq hz a h
 obtain ⟨g_2, hg⟩ : ∃ g, g = w1.heap.size := ⟨_, rfl⟩; rw [← hg] at hb2 h hz
 have hl2 : w0.heap.size ≤ g_2 := by have := hf.size; omega
 have hn_1_2 : g_1 < g_2 := by have := hb1.lt; omega
 replace hf := hf.next hq
 replace hb1 := hb1.ext hq
 clear hq hz hg
 replace h : Ag a 60 [(1, _), (2, _)] := h.sub (.cons rfl (.cons rfl .nil))
 refine wnt ?_
 refine wp_seq ?_
 refine wR ?_
 refine st_assign h rfl rfl ?_; clear h a; intro a h
 refine wnt ?_
 refine wp_seq ?_
 refine wp_seq ?_
 refine wR ?_
 refine st_assign h rfl rfl ?_; clear h a; intro a h
 refine wnt ?_
 refine wp_block ?_
 refine loop (ι := Nat × Value) (fun z => [(1, .pointer (some ⟨g_1, 0, none⟩)), (2, .pointer (some ⟨g_2, 0, none⟩)), (3, z.2), (4, .int .i64 (z.1 : Int))]) (fun z w' => (z.1 : Int) ≤ wd % 8 + 1 ∧ Lw.Own Enc.i64 3 (g_2 + 1) w' z.2 (List.replicate z.1 1) ∧ Blk w' g_1 91 [.int .u8 wd, .slice HA hs.length hc] ∧ Blk w' g_2 47 [.slice none 0 0] ∧ Fr [] w0 w') (fun z => 9 - z.1) (0, .slice none 0 0) (h.sub (.cons rfl (.cons rfl (.cons rfl (.cons rfl .nil))))) ⟨by simp only; omega, Own.nil _, hb1, hb2, hf⟩ ?_
 clear h a hb1 hb2 hf
 rintro ⟨j, x⟩ w3 a h ⟨hj, ho, hb1, hb2, hf⟩
 simp only at hj ho h
 refine wp_seq ?_
 refine wp_seq ?_
 refine wR ?_
 refine st_move h rfl rfl ?_; clear h a; intro a h
 refine st_fieldAddr h rfl fa91_0 rfl ?_; clear h a; intro a h
 refine st_loadB h rfl hb1 rfl na5 rfl ?_; clear h a; intro a h
 refine st_rem h rfl rfl (by omega) (by first | exact IntWalk.rem_in _ _ (by omega) | rfl) rfl ?_; clear h a; intro a h
 refine st_conv h rfl (by rw [Tryd.underlying5]; rfl) Tryd.underlying3 (by first | exact IntWalk.i64_in _ (by omega) | rfl) rfl ?_; clear h a; intro a h
 refine st_le h rfl rfl rfl ?_; clear h a; intro a h
 replace h : Ag a 60 [(1, _), (2, _), (3, _), (4, _), (16, _)] := h.sub (.cons rfl (.cons rfl (.cons rfl (.cons rfl (.cons rfl .nil)))))
 refine wnt ?_
 first | refine cond_dec h rfl (fun c0 => ?_) (fun c0 => ?_) | refine cond_ndec h rfl (fun c0 => ?_) (fun c0 => ?_) | refine cond_split h rfl (fun c0 => ?_) (fun c0 => ?_)
 ·refine id ?_
  refine wsn ?_
  refine wp_seq ?_
  refine wp_block ?_
  refine wR ?_
  refine st_move h rfl rfl ?_; clear h a; intro a h
  refine st_bslice [(1 : Int)] h (evs_cons rfl evs_nil) rfl rfl rfl el30 (by decide) rfl ?_; clear h a; intro gN w4 hg hoN hq hz a h
  replace hf := hf.next hq
  replace hb1 := hb1.ext hq
  replace hb2 := hb2.ext hq
  replace ho := ho.ext hq
  clear hq hz hg
  have hbO := ho.blk
  refine st_append h rfl rfl ho hoN.sl el30 (by unfold maxLen; simp; omega) (by simp; omega) (by have := hb2.lt; omega) rfl ?_; clear h a; intro v3 w5 ho3 hq hx3 a h
  replace hb1 := hb1.fr hq (fun hb => by have := (hbO _ hb).1; omega)
  replace hb2 := hb2.fr hq (fun hb => by have := (hbO _ hb).1; omega)
  replace hf := hf.step hq (fun k hk hlt => absurd (hbO k hk).1 (by omega))
  clear ho hq hx3 hoN hbO; have ho := ho3; clear ho3
  refine st_assign h rfl rfl ?_; clear h a; intro a h
  replace h : Ag a 60 [(1, _), (2, _), (3, _), (4, _)] := h.sub (.cons rfl (.cons rfl (.cons rfl (.cons rfl .nil))))
  refine wpList_nil (norm_blk (norm_then ?_))
  refine wR ?_
  refine st_move h rfl rfl ?_; clear h a; intro a h
  refine st_add h rfl rfl (by first | exact IntWalk.i64_in _ (by omega) | rfl) rfl ?_; clear h a; intro a h
  refine st_assign h rfl rfl ?_; clear h a; intro a h
  replace h : Ag a 60 [(1, _), (2, _), (3, _), (4, _)] := h.sub (.cons rfl (.cons rfl (.cons rfl (.cons rfl .nil))))
  refine wnt ?_
  exact ⟨(j + 1, _), h.sub (.cons rfl (.cons rfl (.cons rfl (.cons rfl .nil)))), ⟨by simp only; omega, by rw [rep_succ]; exact ho, hb1, hb2, hf⟩, by simp only; omega⟩
 ·obtain hjj : (j : Int) = wd % 8 + 1 := by omega
  refine wp_exit (exit_then (exit_then (exit_here (norm_then ?_))))
  refine wp_seq ?_
  refine wR ?_
  refine st_fieldAddr h rfl fa91_1 rfl ?_; clear h a; intro a h
  refine st_loadB h rfl hb1 rfl na89 rfl ?_; clear h a; intro a h
  refine st_lenS h rfl Tryd.underlying89 rfl ?_; clear h a; intro a h
  refine st_min h rfl rfl rfl ?_; clear h a; intro a h
  refine st_assign h rfl rfl ?_; clear h a; intro a h
  replace h : Ag a 60 [(1, _), (2, _), (3, _), (5, _)] := h.sub (.cons rfl (.cons rfl (.cons rfl (.cons rfl .nil))))
  refine wnt ?_
  refine seq_cut (Cut (ι := Int) 60 (fun many => [(1, .pointer (some ⟨g_1, 0, none⟩)), (2, .pointer (some ⟨g_2, 0, none⟩)), (3, x), (5, .int .i64 many)]) (fun many w' => 1 ≤ many ∧ many ≤ 9 ∧ many = manyF hs.length ∧ Lw.Own Enc.i64 3 (g_2 + 1) w' x (List.replicate j 1) ∧ Blk w' g_1 91 [.int .u8 wd, .slice HA hs.length hc] ∧ Blk w' g_2 47 [.slice none 0 0] ∧ Fr [] w0 w')) ?_ ?_
  ·refine id ?_
   refine wp_seq ?_
   refine wR ?_
   refine st_move h rfl rfl ?_; clear h a; intro a h
   refine st_rem h rfl rfl (by omega) (by first | exact IntWalk.rem_in _ _ (by omega) | rfl) rfl ?_; clear h a; intro a h
   refine st_eq h rfl rfl rfl ?_; clear h a; intro a h
   replace h : Ag a 60 [(1, _), (2, _), (3, _), (5, _), (28, _)] := h.sub (.cons rfl (.cons rfl (.cons rfl (.cons rfl (.cons rfl .nil)))))
   refine wnt ?_
   first | refine cond_dec h rfl (fun c1 => ?_) (fun c1 => ?_) | refine cond_ndec h rfl (fun c1 => ?_) (fun c1 => ?_) | refine cond_split h rfl (fun c1 => ?_) (fun c1 => ?_)
   ·refine id ?_
    refine wR ?_
    refine st_move h rfl rfl ?_; clear h a; intro a h
    refine st_add h rfl rfl (by first | exact IntWalk.i64_in _ (by omega) | rfl) rfl ?_; clear h a; intro a h
    refine st_assign h rfl rfl ?_; clear h a; intro a h
    replace h : Ag a 60 [(1, _), (2, _), (3, _), (5, _)] := h.sub (.cons rfl (.cons rfl (.cons rfl (.cons rfl .nil))))
    refine wnt ?_
    exact ⟨_, h.sub (.cons rfl (.cons rfl (.cons rfl (.cons rfl .nil)))), by omega, by omega, (by unfold manyF; first | (rw [if_pos (by omega)]; omega) | (rw [if_neg (by omega)]; omega)), ho, hb1, hb2, hf⟩
   ·refine id ?_
    refine wsn ?_
    exact ⟨_, h.sub (.cons rfl (.cons rfl (.cons rfl (.cons rfl .nil)))), by omega, by omega, (by unfold manyF; first | (rw [if_pos (by omega)]; omega) | (rw [if_neg (by omega)]; omega)), ho, hb1, hb2, hf⟩
  ·clear h a hb1 hb2 hf ho
   rintro a w6 ⟨many, h, ⟨hm1, hm9, hmny, ho, hb1, hb2, hf⟩⟩
   refine wp_seq ?_
   refine wR ?_
   refine st_alloc h zv47 rfl rfl ?_; clear h a; intro w7 hb6 hq hz a h
   obtain ⟨g_6, hg⟩ : ∃ g, g = w6.heap.size := ⟨_, rfl⟩; rw [← hg] at hb6 h hz
   have hl6 : w0.heap.size ≤ g_6 := by have := hf.size; omega
   have hn_1_6 : g_1 < g_6 := by have := hb1.lt; omega
   have hn_2_6 : g_2 < g_6 := by have := hb2.lt; omega
   replace hf := hf.next hq
   replace hb1 := hb1.ext hq
   replace hb2 := hb2.ext hq
   replace ho := ho.ext hq
   clear hq hz hg
   refine wnt ?_
   refine wp_seq ?_
   refine wp_seq ?_
   refine wR ?_
   refine st_assign h rfl rfl ?_; clear h a; intro a h
   refine wnt ?_
   refine wp_block ?_
   refine loop (ι := OfSt) (fun z => [(1, .pointer (some ⟨g_1, 0, none⟩)), (2, .pointer (some ⟨g_2, 0, none⟩)), (3, z.L), (5, .int .i64 many), (6, .pointer (some ⟨g_6, 0, none⟩)), (7, .int .i64 (z.i : Int))]) (fun z w' => (z.i : Int) ≤ many ∧ z.ps.length = z.i ∧ Sl Enc.i64 w' z.L z.ls ∧ z.ls.all few = true ∧ 1 ≤ z.ls.length ∧ z.ls.length ≤ 8 ∧ RowsO 61 100 (g_6 + 1) w' z.OV z.ps ∧ (∀ p ∈ z.ps, goodRow p.2) ∧ chG wd (hs.map B) z.i = (z.ls, z.ps.map Prod.snd) ∧ Blk w' g_1 91 [.int .u8 wd, .slice HA hs.length hc] ∧ Blk w' g_2 47 [.slice none 0 0] ∧ Blk w' g_6 47 [z.OV] ∧ Fr [] w0 w') (fun z => many.toNat - z.i) ⟨0, x, List.replicate j 1, .slice none 0 0, []⟩ (h.sub (.cons rfl (.cons rfl (.cons rfl (.cons rfl (.cons rfl (.cons rfl .nil))))))) ⟨by simp only; omega, rfl, ho.sl, rep_few _, by simp; omega, by simp; omega, RowsO.nil _, by simp, by rw [chG, ← hjj]; rfl, hb1, hb2, hb6, hf⟩ ?_
   clear h a hb1 hb2 hb6 hf ho
   rintro ⟨i, L, ls, OV, ps⟩ w8 a h ⟨hi, hpl, hL, hlf, hl1, hl8, hR, hgood, hch, hb1, hb2, hb6, hf⟩
   simp only at hi hpl hL hlf hl1 hl8 hR hgood hch hb6 h
   refine wp_seq ?_
   refine wp_seq ?_
   refine wR ?_
   refine st_move h rfl rfl ?_; clear h a; intro a h
   refine st_move h rfl rfl ?_; clear h a; intro a h
   refine st_lt h rfl rfl rfl ?_; clear h a; intro a h
   replace h : Ag a 60 [(1, _), (2, _), (3, _), (5, _), (6, _), (7, _), (33, _)] := h.sub (.cons rfl (.cons rfl (.cons rfl (.cons rfl (.cons rfl (.cons rfl (.cons rfl .nil)))))))
   refine wnt ?_
   first | refine cond_dec h rfl (fun c2 => ?_) (fun c2 => ?_) | refine cond_ndec h rfl (fun c2 => ?_) (fun c2 => ?_) | refine cond_split h rfl (fun c2 => ?_) (fun c2 => ?_)
   ·refine id ?_
    refine wsn ?_
    refine wp_seq ?_
    refine wp_block ?_
    refine wp_seq ?_
    refine wR ?_
    refine st_assign h rfl rfl ?_; clear h a; intro a h
    replace h : Ag a 60 [(1, _), (2, _), (3, _), (5, _), (6, _), (7, _), (8, _)] := h.sub (.cons rfl (.cons rfl (.cons rfl (.cons rfl (.cons rfl (.cons rfl (.cons rfl .nil)))))))
    refine wnt ?_
    refine seq_cut (Cut (ι := Value) 60 (fun v8 => [(1, .pointer (some ⟨g_1, 0, none⟩)), (2, .pointer (some ⟨g_2, 0, none⟩)), (3, L), (5, .int .i64 many), (6, .pointer (some ⟨g_6, 0, none⟩)), (7, .int .i64 (i : Int)), (8, v8)]) (fun v8 w' => (∃ cs, cs = (hs.map B).getD i [] ∧ Sl Enc.b w' v8 cs) ∧ Sl Enc.i64 w' L ls ∧ RowsO 61 100 (g_6 + 1) w' OV ps ∧ Blk w' g_1 91 [.int .u8 wd, .slice HA hs.length hc] ∧ Blk w' g_2 47 [.slice none 0 0] ∧ Blk w' g_6 47 [OV] ∧ Fr [] w0 w')) ?_ ?_
    ·refine id ?_
     refine wp_seq ?_
     refine wR ?_
     refine st_move h rfl rfl ?_; clear h a; intro a h
     refine st_fieldAddr h rfl fa91_1 rfl ?_; clear h a; intro a h
     refine st_loadB h rfl hb1 rfl na89 rfl ?_; clear h a; intro a h
     refine st_lenS h rfl Tryd.underlying89 rfl ?_; clear h a; intro a h
     refine st_lt h rfl rfl rfl ?_; clear h a; intro a h
     replace h : Ag a 60 [(1, _), (2, _), (3, _), (5, _), (6, _), (7, _), (8, _), (40, _)] := h.sub (.cons rfl (.cons rfl (.cons rfl (.cons rfl (.cons rfl (.cons rfl (.cons rfl (.cons rfl .nil))))))))
     refine wnt ?_
     first | refine cond_dec h rfl (fun c3 => ?_) (fun c3 => ?_) | refine cond_ndec h rfl (fun c3 => ?_) (fun c3 => ?_) | refine cond_split h rfl (fun c3 => ?_) (fun c3 => ?_)
     ·obtain ⟨p, hp⟩ : ∃ x, hs[i]? = some x := ⟨_, List.getElem?_eq_getElem (by omega)⟩
      obtain ⟨ad, hAd, ca⟩ := hA _ p hp
      have hcs := hin p (List.mem_of_getElem? hp)
      refine wR ?_
      refine st_fieldAddr h rfl fa91_1 rfl ?_; clear h a; intro a h
      refine st_loadB h rfl hb1 rfl na89 rfl ?_; clear h a; intro a h
      refine st_move h rfl rfl ?_; clear h a; intro a h
      refine st_idxS h (by rw [hAd]; rfl) rfl el89 (by omega) (by omega) rfl rfl ?_; clear h a; intro a h
      refine st_loadC0 h rfl (ca.fr hf (by simp)) na76 rfl ?_; clear h a; intro a h
      refine st_assign h rfl rfl ?_; clear h a; intro a h
      replace h : Ag a 60 [(1, _), (2, _), (3, _), (5, _), (6, _), (7, _), (8, _)] := h.sub (.cons rfl (.cons rfl (.cons rfl (.cons rfl (.cons rfl (.cons rfl (.cons rfl .nil)))))))
      refine wnt ?_
      exact ⟨_, h.sub (.cons rfl (.cons rfl (.cons rfl (.cons rfl (.cons rfl (.cons rfl (.cons rfl .nil))))))), by first | exact ⟨_, (getD_of (by rw [List.getElem?_map, hp]; rfl)).symm, hcs.ext hf⟩ | exact ⟨[], (getD_out (by rw [List.length_map]; omega)).symm, Sl.nil _⟩, hL, hR, hb1, hb2, hb6, hf⟩
     ·refine id ?_
      refine wsn ?_
      exact ⟨_, h.sub (.cons rfl (.cons rfl (.cons rfl (.cons rfl (.cons rfl (.cons rfl (.cons rfl .nil))))))), by first | exact ⟨_, (getD_of (by rw [List.getElem?_map, hp]; rfl)).symm, hcs.ext hf⟩ | exact ⟨[], (getD_out (by rw [List.length_map]; omega)).symm, Sl.nil _⟩, hL, hR, hb1, hb2, hb6, hf⟩
    ·clear h a hb1 hb2 hb6 hf hL hR
     rintro a w9 ⟨v8, h, ⟨⟨cs, hcsd, hcs⟩, hL, hR, hb1, hb2, hb6, hf⟩⟩
     refine wp_seq ?_
     refine wR ?_
     refine st_move h rfl rfl ?_; clear h a; intro a h
     refine st_move h rfl rfl ?_; clear h a; intro a h
     have hOb := hR.out.blk
     have hb6l := hb6.lt
     refine st_call h (evs_cons rfl (evs_cons rfl evs_nil)) co94 (row_ok _ _ _ _ _ hL hcs hlf hl1 hl8) rfl ?_; clear h a; rintro _ w10 ⟨X, Y, xs2, ys2, rfl, hX, hY, -, hxne, hxok, hx8, hyf, hy1, hy8, hrow, hq⟩ a h
     have hXO : ∀ k ∈ blks X, k ∉ blks OV := fun k hk hk2 => by have := (hX.blk k hk).1; have := (hOb k hk2).2; omega
     have hYO : ∀ k ∈ blks OV, k ∉ blks Y := fun k hk hk2 => by have := (hY.blk k hk2).1; have := (hOb k hk).2; omega
     have hY6 : ∀ k ∈ blks Y, g_6 < k := fun k hk => by have := (hY.blk k hk).1; omega
     replace hX := hX.low (show g_6 + 1 ≤ _ by omega)
     replace hf := hf.next hq
     replace hb1 := hb1.ext hq
     replace hb2 := hb2.ext hq
     replace hb6 := hb6.ext hq
     replace hR := hR.ext hq
     clear hq hL hcs hOb hb6l
     replace hY := hY.sl
     obtain ⟨XA, xc, rfl, hxc⟩ := hX.sl.form
     refine st_move h rfl rfl ?_; clear h a; intro a h
     refine st_extract h rfl rfl rfl ?_; clear h a; intro a h
     refine st_extract h rfl rfl rfl ?_; clear h a; intro a h
     refine st_assign h rfl rfl ?_; clear h a; intro a h
     refine st_assign h rfl rfl ?_; clear h a; intro a h
     replace h : Ag a 60 [(1, _), (2, _), (5, _), (6, _), (7, _), (9, _), (10, _)] := h.sub (.cons rfl (.cons rfl (.cons rfl (.cons rfl (.cons rfl (.cons rfl (.cons rfl .nil)))))))
     refine wnt ?_
     refine wp_seq ?_
     refine wR ?_
     refine st_fieldAddr h rfl fa47_0 rfl ?_; clear h a; intro a h
     refine st_loadB h rfl hb6 rfl na45 rfl ?_; clear h a; intro a h
     refine st_move h rfl rfl ?_; clear h a; intro a h
     refine st_bslice [((XA, xs2.length, xc) : SV)] h (evs_cons rfl evs_nil) rfl rfl rfl el45 (by decide) rfl ?_; clear h a; intro gN w11 hg hoN hq hz a h
     replace hf := hf.next hq
     replace hb1 := hb1.ext hq
     replace hb2 := hb2.ext hq
     replace hb6 := hb6.ext hq
     replace hR := hR.ext hq
     replace hX := hX.ext hq
     replace hY := hY.ext hq
     clear hq hz hg
     have hbO := hR.out.blk
     refine st_append h rfl rfl hR.out hoN.sl el45 (by unfold maxLen; simp; omega) (by simp; omega) (by have := hb6.lt; omega) rfl ?_; clear h a; intro OV3 w12 ho3 hq hx3 a h
     replace hR := hR.push (u := (XA, xs2.length, xc)) hX hXO ho3 hq hx3
     replace hY := hY.fr hq hYO
     replace hb1 := hb1.fr hq (fun hb => by have := (hbO _ hb).1; omega)
     replace hb2 := hb2.fr hq (fun hb => by have := (hbO _ hb).1; omega)
     replace hb6 := hb6.fr hq (fun hb => by have := (hbO _ hb).1; omega)
     replace hf := hf.step hq (fun k hk hlt => absurd (hbO k hk).1 (by omega))
     clear hq hx3 hoN hbO ho3 hX hXO hYO
     refine st_fieldAddr h rfl fa47_0 rfl ?_; clear h a; intro a h
     refine st_storeB h rfl rfl hb6 rfl (by obtain ⟨OA, oc, rfl, _⟩ := hR.out.sl.form; rfl) (by obtain ⟨OA, oc, rfl, _⟩ := hR.out.sl.form; rfl) sz45 ?_; clear h a; intro w13 hbn hq hz a h
     replace hR := hR.fr hq (by simp)
     replace hY := hY.fr hq (fun k hk hb => by simp at hk; have := hY6 k hb; omega)
     replace hb1 := hb1.fr hq (by simp; omega)
     replace hb2 := hb2.fr hq (by simp; omega)
     replace hf := hf.step hq (by simp; omega)
     clear hb6 hq hz; have hb6 : Blk w13 g_6 _ [_] := hbn; clear hbn
     replace h : Ag a 60 [(1, _), (2, _), (5, _), (6, _), (7, _), (10, _)] := h.sub (.cons rfl (.cons rfl (.cons rfl (.cons rfl (.cons rfl (.cons rfl .nil))))))
     refine wnt ?_
     refine wR ?_
     refine st_move h rfl rfl ?_; clear h a; intro a h
     refine st_assign h rfl rfl ?_; clear h a; intro a h
     replace h : Ag a 60 [(1, _), (2, _), (3, _), (5, _), (6, _), (7, _)] := h.sub (.cons rfl (.cons rfl (.cons rfl (.cons rfl (.cons rfl (.cons rfl .nil))))))
     refine wpList_nil (norm_blk (norm_then ?_))
     refine wR ?_
     refine st_move h rfl rfl ?_; clear h a; intro a h
     refine st_add h rfl rfl (by first | exact IntWalk.i64_in _ (by omega) | rfl) rfl ?_; clear h a; intro a h
     refine st_assign h rfl rfl ?_; clear h a; intro a h
     replace h : Ag a 60 [(1, _), (2, _), (3, _), (5, _), (6, _), (7, _)] := h.sub (.cons rfl (.cons rfl (.cons rfl (.cons rfl (.cons rfl (.cons rfl .nil))))))
     refine wnt ?_
     exact ⟨⟨i + 1, Y, ys2, OV3, ps ++ [((XA, xs2.length, xc), xs2)]⟩, h.sub (.cons rfl (.cons rfl (.cons rfl (.cons rfl (.cons rfl (.cons rfl .nil)))))), ⟨by simp only; omega, by simp [hpl], hY, hyf, hy1, hy8, hR, by intro p hp; rcases List.mem_append.1 hp with hp | hp; exact hgood p hp; simp at hp; subst hp; exact ⟨hxne, hxok, hx8⟩, by rw [chG_next hch hcsd, hrow, List.map_append]; rfl, hb1, hb2, hb6, hf⟩, by simp only; omega⟩
   ·obtain ⟨OA, oc, rfl, _⟩ := hR.out.sl.form
    clear hL
    refine wp_exit (exit_then (exit_then (exit_here (norm_then ?_))))
    refine wp_seq ?_
    refine wR ?_
    refine st_loadBA h rfl hb6 ag47 rfl ?_; clear h a; intro a h
    refine st_storeBA h rfl rfl hb2 rfl (by first | (simp [Value.oneCell', S]; done) | exact Enc.one _ _) sz47 ?_; clear h a; intro w14 hbn hq hz a h
    replace hf := hf.step hq (by first | (simp; done) | (simp; omega))
    replace hb1 := hb1.fr hq (by first | (simp; done) | (simp; omega) | (simp [blks]; done) | (simp [blks]; omega))
    replace hb6 := hb6.fr hq (by first | (simp; done) | (simp; omega) | (simp [blks]; done) | (simp [blks]; omega))
    replace hR := hR.fr hq (by first | (simp; done) | (simp; omega) | (simp [blks]; done) | (simp [blks]; omega))
    clear hb2 hq hz; have hb2 : Blk w14 g_2 _ [_] := hbn; clear hbn
    replace h : Ag a 60 [(2, _)] := h.sub (.cons rfl .nil)
    refine wnt ?_
    refine wp_ret ?_
    refine retC h Tryd.results80 rfl hb2 ag47  ?_
    exact ⟨_, rfl, _, _, rfl, ⟨_, ⟨hR.out.low (by omega), fun p hp => (hR.ins p hp).low (by omega), hR.off⟩, rfl⟩, fun e => by have := congrArg List.length e; rw [List.length_map, List.length_nil] at this; omega, fun r hr => by obtain ⟨p, hp, rfl⟩ := List.mem_map.1 hr; exact hgood p hp, (by have hi2 : (manyF (hs.map B).length).toNat = i := (by rw [List.length_map]; omega); rw [chartF, hi2, hch]), hf⟩
end Go.Proofs.YthehggmdcmpjeaaDoor
