/- Walks. -/
import Derived.Test.YtbbnampdgefljaaDoorRows
import Derived.Test.YtbbnampdgefljaaDoorW3
import Derived.Test.YtbbnampdgefljaaDoorXMap
set_option linter.unusedVariables false
set_option linter.unusedSimpArgs false
namespace Go.Proofs.YtbbnampdgefljaaDoor
open Go.Lw Go.G14
theorem eqv36 : EqOf Tryd.prog 36 stV := by
  intro e f ox oy w
  have hg : ∀ op, (eqGuard op 36 ox oy (stV e) (stV f)).run Tryd.prog w = .ok () w := fun op => run_eqGuard_agg w op 36 ox oy _ _ (by kernel_rfl)
  have h1 : Tryd.prog.stoodInHeld 36 = false := by kernel_rfl
  obtain ⟨k, y, a, b, c⟩ := e
  obtain ⟨k', y', a', b', c'⟩ := f
  refine ⟨hg _, hg _, ?_, ?_⟩
  · unfold stV
    simp [go_sem, h1, Tryd.underlying36]
    (repeat' split) <;> simp_all
  · unfold stV
    simp [go_sem, h1, Tryd.underlying36]
    (repeat' split) <;> simp_all
theorem equal_ok (u v : Value) (xs ys : List Stitch) (w0 : World) (hu : Sl encSt w0 u xs) (hv : Sl encSt w0 v ys) : Rets Tryd.prog 44 #[u, v] w0 fun r w' => r = .bool (decide (xs = ys)) ∧ Fr [] w0 w' := by
  obtain ⟨A, c, rfl, hc, hM, hA⟩ := hu
  obtain ⟨B, d, rfl, hd, hN, hB⟩ := hv
  unfold maxLen at hM hN
  refine enter [(0, .slice A xs.length c), (1, .slice B ys.length d)] Tryd.func44 rfl Tryd.ntmps44 rfl (.cons rfl (.cons rfl .nil)) ?_
  have hf := Fr.refl [] w0
  intro a h
  refine wp_seq ?_
  refine wp_region_lit ?_
  refine st_assign h rfl rfl ?_; clear h a; intro a h
  replace h : Ag a 26 [(0, _), (1, _)] := h.sub (.cons rfl (.cons rfl .nil))
  refine wpList_nil (norm_then ?_)
  refine wp_seq ?_
  refine wp_seq ?_
  refine wp_region_lit ?_
  refine st_move h rfl rfl ?_; clear h a; intro a h
  refine st_lenS h rfl Tryd.underlying22 rfl ?_; clear h a; intro a h
  refine st_move h rfl rfl ?_; clear h a; intro a h
  refine st_lenS h rfl Tryd.underlying22 rfl ?_; clear h a; intro a h
  refine st_ne h rfl rfl rfl ?_; clear h a; intro a h
  replace h : Ag a 26 [(0, _), (1, _), (10, _)] := h.sub (.cons rfl (.cons rfl (.cons rfl .nil)))
  refine wpList_nil (norm_then ?_)
  first | refine cond_dec h rfl (fun c0 => ?_) (fun c0 => ?_) | refine cond_ndec h rfl (fun c0 => ?_) (fun c0 => ?_) | refine cond_split h rfl (fun c0 => ?_) (fun c0 => ?_)
  · refine id ?_
    refine wp_seq ?_
    refine wp_region_lit ?_
    refine st_assign h rfl rfl ?_; clear h a; intro a h
    replace h : Ag a 26 [(4, _)] := h.sub (.cons rfl .nil)
    refine wpList_nil (norm_then ?_)
    refine wp_ret (ret_then ?_)
    refine ret1 h Tryd.results44 rfl ?_
    exact ⟨_, rfl, by first | (rw [decide_eq_false]; intro e; subst e; omega) | (rw [decide_eq_false]; intro e; subst e; rw [hxk] at hyk; cases hyk; exact c2 rfl) | rw [decide_eq_true ht], hf⟩
  · refine id ?_
    refine wp_skip (norm_then ?_)
    refine wp_seq ?_
    refine wp_seq ?_
    refine wp_region_lit ?_
    refine st_move h rfl rfl ?_; clear h a; intro a h
    refine st_lenS h rfl Tryd.underlying22 rfl ?_; clear h a; intro a h
    refine st_move h rfl rfl ?_; clear h a; intro a h
    replace h : Ag a 26 [(0, _), (1, _), (12, _), (13, _)] := h.sub (.cons rfl (.cons rfl (.cons rfl (.cons rfl .nil))))
    refine wpList_nil (norm_then ?_)
    refine wp_block ?_
    refine loop (ι := Nat) (fun k => [(0, .slice A xs.length c), (1, .slice B ys.length d), (12, .int .i64 (xs.length : Int)), (13, .int .i64 (k : Int))]) (fun k w' => k ≤ xs.length ∧ xs.take k = ys.take k ∧ Fr [] w0 w') (fun k => xs.length - k) 0 (h.sub (.cons rfl (.cons rfl (.cons rfl (.cons rfl .nil))))) ⟨by omega, by simp, hf⟩ ?_
    clear h a hf
    rintro k w1 a h ⟨hk, ht, hf⟩
    refine wp_seq ?_
    refine wp_region_lit ?_
    refine st_lt h rfl rfl rfl ?_; clear h a; intro a h
    refine wpList_nil (norm_then ?_)
    refine wp_seq ?_
    first | refine cond_dec h rfl (fun c1 => ?_) (fun c1 => ?_) | refine cond_ndec h rfl (fun c1 => ?_) (fun c1 => ?_) | refine cond_split h rfl (fun c1 => ?_) (fun c1 => ?_)
    · obtain ⟨x, hxk⟩ : ∃ x, xs[k]? = some x := ⟨_, List.getElem?_eq_getElem (by omega)⟩
      obtain ⟨y, hyk⟩ : ∃ y, ys[k]? = some y := ⟨_, List.getElem?_eq_getElem (by omega)⟩
      obtain ⟨ad, rfl, ca⟩ := hA k x hxk
      obtain ⟨bd, rfl, cb⟩ := hB k y hyk
      refine wp_skip (norm_then ?_)
      refine wp_seq ?_
      refine wp_block ?_
      refine wp_seq ?_
      refine wp_region_lit ?_
      refine st_move h rfl rfl ?_; clear h a; intro a h
      refine st_assign h rfl rfl ?_; clear h a; intro a h
      replace h : Ag a 26 [(0, _), (1, _), (5, _), (12, _), (13, _)] := h.sub (.cons rfl (.cons rfl (.cons rfl (.cons rfl (.cons rfl .nil)))))
      refine wpList_nil (norm_then ?_)
      refine wp_seq ?_
      refine region_quiet hmix (by kernel_rfl) ?_
      refine qt_move h rfl rfl ?_; clear h a; intro a h
      refine qt_move h rfl rfl ?_; clear h a; intro a h
      refine qt_idx h rfl rfl rfl el22 (by omega) (by omega) rfl ?_; clear h a; intro a h
      refine qt_loadA h rfl (fun _ hw => (ca.fr hf (by simp)).fr hw (by simp)) ag36 rfl ?_; clear h a; intro a h
      refine qt_move h rfl rfl ?_; clear h a; intro a h
      refine qt_move h rfl rfl ?_; clear h a; intro a h
      refine qt_idx h rfl rfl rfl el22 (by omega) (by omega) rfl ?_; clear h a; intro a h
      refine qt_loadA h rfl (fun _ hw => (cb.fr hf (by simp)).fr hw (by simp)) ag36 rfl ?_; clear h a; intro a h
      refine qt_neV (e := x) (f := y) h rfl rfl eqv36 rfl ?_; clear h a; intro a h
      refine wpQuiet_nil ?_
      intro w2 hq
      replace hf := hf.next hq
      clear hq
      replace h : Ag a 26 [(0, _), (1, _), (12, _), (13, _), (24, _)] := h.sub (.cons rfl (.cons rfl (.cons rfl (.cons rfl (.cons rfl .nil)))))
      refine (norm_then ?_)
      first | refine cond_dec h rfl (fun c2 => ?_) (fun c2 => ?_) | refine cond_ndec h rfl (fun c2 => ?_) (fun c2 => ?_) | refine cond_split h rfl (fun c2 => ?_) (fun c2 => ?_)
      · refine id ?_
        refine wp_seq ?_
        refine wp_region_lit ?_
        refine st_assign h rfl rfl ?_; clear h a; intro a h
        replace h : Ag a 26 [(4, _)] := h.sub (.cons rfl .nil)
        refine wpList_nil (norm_then ?_)
        refine wp_ret (ret_blk (ret_then (ret_then (ret_blk (ret_then ?_)))))
        refine ret1 h Tryd.results44 rfl ?_
        exact ⟨_, rfl, by first | (rw [decide_eq_false]; intro e; subst e; omega) | (rw [decide_eq_false]; intro e; subst e; rw [hxk] at hyk; cases hyk; exact c2 rfl) | rw [decide_eq_true ht], hf⟩
      · refine id ?_
        refine wp_skip (norm_blk (norm_then ?_))
        refine wp_region_lit ?_
        refine st_add h rfl rfl (by first | exact IntWalk.i64_in _ (by omega) | rfl) rfl ?_; clear h a; intro a h
        refine st_move h rfl rfl ?_; clear h a; intro a h
        replace h : Ag a 26 [(0, _), (1, _), (12, _), (13, _)] := h.sub (.cons rfl (.cons rfl (.cons rfl (.cons rfl .nil))))
        refine wpList_nil (norm_then ?_)
        exact ⟨k + 1, h.sub (.cons rfl (.cons rfl (.cons rfl (.cons rfl .nil)))), ⟨by omega, by rw [List.take_add_one, List.take_add_one, ht, hxk, hyk, Decidable.not_not.1 c2], hf⟩, by omega⟩
    · obtain rfl : k = xs.length := by omega
      rw [List.take_length, show xs.length = ys.length by omega, List.take_length] at ht
      refine wp_exit (exit_then (exit_then (exit_here (norm_then ?_))))
      refine wp_seq ?_
      refine wp_region_lit ?_
      refine st_assign h rfl rfl ?_; clear h a; intro a h
      replace h : Ag a 26 [(4, _)] := h.sub (.cons rfl .nil)
      refine wpList_nil (norm_then ?_)
      refine wp_ret ?_
      refine ret1 h Tryd.results44 rfl ?_
      exact ⟨_, rfl, by first | (rw [decide_eq_false]; intro e; subst e; omega) | (rw [decide_eq_false]; intro e; subst e; rw [hxk] at hyk; cases hyk; exact c2 rfl) | rw [decide_eq_true ht], hf⟩
theorem pref0_ok (l m : List UInt8) (w0 : World) : Rets Tryd.prog 63 #[S l, S m] w0 fun v w' => v = .bool (decide (m <+: l)) ∧ w0 = w' := by
  refine enter [(0, S l), (1, S m)] Tryd.func63 rfl Tryd.ntmps63 rfl (.cons rfl (.cons rfl .nil)) ?_
  intro a h
  refine wp_seq ?_
  refine wp_region_lit ?_
  refine st_assign h rfl rfl ?_; clear h a; intro a h
  replace h : Ag a 18 [(0, _), (1, _)] := h.sub (.cons rfl (.cons rfl .nil))
  refine wpList_nil (norm_then ?_)
  refine wp_seq ?_
  refine wp_region_lit ?_
  refine st_move h rfl rfl ?_; clear h a; intro a h
  refine st_len h rfl Tryd.underlying9 rfl ?_; clear h a; intro a h
  refine st_move h rfl rfl ?_; clear h a; intro a h
  refine st_len h rfl Tryd.underlying9 rfl ?_; clear h a; intro a h
  refine st_ge h rfl rfl rfl ?_; clear h a; intro a h
  refine st_move h rfl rfl ?_; clear h a; intro a h
  first | refine guard_dec (D := 10) h rfl ?_ ?_ | refine guard_ndec (D := 10) h rfl ?_ ?_ | refine guard_any (D := 10) h rfl ?_ ?_
  · clear h; intro g0 h
    refine gd_yes h rfl rfl rfl rfl rfl rfl ?_
    refine st_move h rfl rfl ?_; clear h a; intro a h
    refine gd_yes h rfl rfl rfl rfl rfl rfl ?_
    refine st_move h rfl rfl ?_; clear h a; intro a h
    refine gd_yes h rfl rfl rfl rfl rfl rfl ?_
    refine st_len h rfl Tryd.underlying9 rfl ?_; clear h a; intro a h
    refine gd_yes h rfl rfl rfl rfl rfl rfl ?_
    refine st_ss_h (p := m.length) h rfl rfl Tryd.underlying9 (by omega) (by omega) (by omega) rfl ?_; clear h a; intro a h
    refine gd_yes h rfl rfl rfl rfl rfl rfl ?_
    refine st_move h rfl rfl ?_; clear h a; intro a h
    refine gd_yes h rfl rfl rfl rfl rfl rfl ?_
    refine st_eqs h rfl rfl rfl ?_; clear h a; intro a h
    refine st_pick_t h rfl rfl rfl rfl ?_; clear h a; intro a h
    refine st_assign h rfl rfl ?_; clear h a; intro a h
    replace h : Ag a 18 [(4, _)] := h.sub (.cons rfl .nil)
    refine wpList_nil (norm_then ?_)
    refine wp_ret ?_
    refine ret1 h Tryd.results63 rfl ?_
    exact ⟨_, rfl, by first | (congr 1; exact bi (by rw [List.prefix_iff_eq_take]; exact eq_comm)) | (congr 1; exact bf (fun e => by have := e.length_le; omega)), rfl⟩
  · clear h; intro g0 h
    refine gd_no h rfl rfl rfl rfl rfl rfl rfl rfl ?_; clear h a; intro a h
    refine gd_no h rfl rfl rfl rfl rfl rfl rfl rfl ?_; clear h a; intro a h
    refine gd_no h rfl rfl rfl rfl rfl rfl rfl rfl ?_; clear h a; intro a h
    refine gd_no h rfl rfl rfl rfl rfl rfl rfl rfl ?_; clear h a; intro a h
    refine gd_no h rfl rfl rfl rfl rfl rfl rfl rfl ?_; clear h a; intro a h
    refine gd_no h rfl rfl rfl rfl rfl rfl rfl rfl ?_; clear h a; intro a h
    refine st_pick_f h rfl rfl rfl rfl ?_; clear h a; intro a h
    refine st_assign h rfl rfl ?_; clear h a; intro a h
    replace h : Ag a 18 [(4, _)] := h.sub (.cons rfl .nil)
    refine wpList_nil (norm_then ?_)
    refine wp_ret ?_
    refine ret1 h Tryd.results63 rfl ?_
    exact ⟨_, rfl, by first | (congr 1; exact bi (by rw [List.prefix_iff_eq_take]; exact eq_comm)) | (congr 1; exact bf (fun e => by have := e.length_le; omega)), rfl⟩
theorem pref_ok (l m : List UInt8) (w0 : World) : Rets Tryd.prog 52 #[S l, S m] w0 fun v w' => v = .bool (decide (m <+: l)) ∧ w0 = w' := by
  refine enter [(0, S l), (1, S m)] Tryd.func52 rfl Tryd.ntmps52 rfl (.cons rfl (.cons rfl .nil)) ?_
  intro a h
  refine wp_seq ?_
  refine wp_region_lit ?_
  refine st_assign h rfl rfl ?_; clear h a; intro a h
  replace h : Ag a 8 [(0, _), (1, _)] := h.sub (.cons rfl (.cons rfl .nil))
  refine wpList_nil (norm_then ?_)
  refine wp_seq ?_
  refine wp_region_lit ?_
  refine st_move h rfl rfl ?_; clear h a; intro a h
  refine st_move h rfl rfl ?_; clear h a; intro a h
  refine st_call h (evs_cons rfl (evs_cons rfl evs_nil)) co63 (pref0_ok _ _ _) rfl ?_; clear h a; rintro _ _ ⟨rfl, rfl⟩ a h
  refine st_assign h rfl rfl ?_; clear h a; intro a h
  replace h : Ag a 8 [(4, _)] := h.sub (.cons rfl .nil)
  refine wpList_nil (norm_then ?_)
  refine wp_ret ?_
  refine ret1 h Tryd.results52 rfl ?_
  exact ⟨_, rfl, rfl, rfl⟩
theorem small_ok (n : Nat) (w0 : World) (hn : n < 100) : Rets Tryd.prog 81 #[.int .i64 (n : Int)] w0 fun v w' => v = S (itoaS n) ∧ w0 = w' := by
  refine enter [(0, .int .i64 (n : Int))] Tryd.func81 rfl Tryd.ntmps81 rfl (.cons rfl .nil) ?_
  intro a h
  refine wp_seq ?_
  refine wp_region_lit ?_
  refine st_assign h rfl rfl ?_; clear h a; intro a h
  replace h : Ag a 15 [(0, _)] := h.sub (.cons rfl .nil)
  refine wpList_nil (norm_then ?_)
  refine wp_seq ?_
  refine wp_seq ?_
  refine wp_region_lit ?_
  refine st_move h rfl rfl ?_; clear h a; intro a h
  refine st_lt h rfl rfl rfl ?_; clear h a; intro a h
  replace h : Ag a 15 [(0, _), (4, _)] := h.sub (.cons rfl (.cons rfl .nil))
  refine wpList_nil (norm_then ?_)
  first | refine cond_dec h rfl (fun c0 => ?_) (fun c0 => ?_) | refine cond_ndec h rfl (fun c0 => ?_) (fun c0 => ?_) | refine cond_split h rfl (fun c0 => ?_) (fun c0 => ?_)
  · refine id ?_
    refine wp_seq ?_
    refine wp_region_lit ?_
    refine st_move h rfl rfl ?_; clear h a; intro a h
    refine st_move h rfl rfl ?_; clear h a; intro a h
    refine st_add h rfl rfl (by first | exact IntWalk.i64_in _ (by omega) | rfl) rfl ?_; clear h a; intro a h
    refine st_ss_lh (p := n) (p' := n + 1) h rfl rfl rfl Tryd.underlying9 (by omega) (by omega) (by simp; omega) (by omega) (by omega) rfl ?_; clear h a; intro a h
    refine st_assign h rfl rfl ?_; clear h a; intro a h
    replace h : Ag a 15 [(2, _)] := h.sub (.cons rfl .nil)
    refine wpList_nil (norm_then ?_)
    refine wp_ret (ret_then ?_)
    refine ret1 h Tryd.results81 rfl ?_
    refine ⟨_, rfl, ?_, rfl⟩
    clear h
    have e : n < 10 := by omega
    clear c0 hn; refine congrArg S ?_; revert n; decide +kernel
  · refine id ?_
    refine wp_skip (norm_then ?_)
    refine wp_seq ?_
    refine wp_region_lit ?_
    refine st_move h rfl rfl ?_; clear h a; intro a h
    refine st_mul h rfl rfl (by first | exact IntWalk.i64_in _ (by omega) | rfl) rfl ?_; clear h a; intro a h
    refine st_move h rfl rfl ?_; clear h a; intro a h
    refine st_mul h rfl rfl (by first | exact IntWalk.i64_in _ (by omega) | rfl) rfl ?_; clear h a; intro a h
    refine st_add h rfl rfl (by first | exact IntWalk.i64_in _ (by omega) | rfl) rfl ?_; clear h a; intro a h
    refine st_ss_lh (p := 2 * n) (p' := 2 * n + 2) h rfl rfl rfl Tryd.underlying9 (by omega) (by omega) (Int.le_trans (b := 200) (by omega) (by decide +kernel)) (by omega) (by omega) rfl ?_; clear h a; intro a h
    refine st_assign h rfl rfl ?_; clear h a; intro a h
    replace h : Ag a 15 [(2, _)] := h.sub (.cons rfl .nil)
    refine wpList_nil (norm_then ?_)
    refine wp_ret ?_
    refine ret1 h Tryd.results81 rfl ?_
    refine ⟨_, rfl, ?_, rfl⟩
    clear h
    have e : 10 ≤ n := by omega
    clear c0; refine congrArg S ?_; revert n; decide +kernel
theorem formatInt_ok (n : Nat) (w0 : World) (hn : n < 100) : Rets Tryd.prog 73 #[.int .i64 (n : Int), .int .i64 10] w0 fun v w' => v = S (itoaS n) ∧ w0 = w' := by
  refine enter [(0, .int .i64 (n : Int)), (1, .int .i64 10)] Tryd.func73 rfl Tryd.ntmps73 rfl (.cons rfl (.cons rfl .nil)) ?_
  intro a h
  refine wp_seq ?_
  refine wp_region_lit ?_
  refine st_assign h rfl rfl ?_; clear h a; intro a h
  replace h : Ag a 54 [(0, _), (1, _)] := h.sub (.cons rfl (.cons rfl .nil))
  refine wpList_nil (norm_then ?_)
  refine wp_seq ?_
  refine wp_seq ?_
  refine wp_region_lit ?_
  refine st_move h rfl rfl ?_; clear h a; intro a h
  refine st_eq h rfl rfl rfl ?_; clear h a; intro a h
  replace h : Ag a 54 [(0, _), (1, _), (11, _)] := h.sub (.cons rfl (.cons rfl (.cons rfl .nil)))
  refine wpList_nil (norm_then ?_)
  first | refine cond_dec h rfl (fun c0 => ?_) (fun c0 => ?_) | refine cond_ndec h rfl (fun c0 => ?_) (fun c0 => ?_) | refine cond_split h rfl (fun c0 => ?_) (fun c0 => ?_)
  · refine id ?_
    refine wp_seq ?_
    refine wp_seq ?_
    refine region_bool (r := 17) (L' := [(0, _)]) (True) h (.cons rfl .nil) ?_ ?_
    · refine id ?_
      refine st_move h rfl rfl ?_; clear h a; intro a h
      refine st_le h rfl rfl rfl ?_; clear h a; intro a h
      refine st_move h rfl rfl ?_; clear h a; intro a h
      first | refine guard_dec (D := 14) h rfl ?_ ?_ | refine guard_ndec (D := 14) h rfl ?_ ?_ | refine guard_any (D := 14) h rfl ?_ ?_
      · clear h; intro g0 h
        refine gd_yes h rfl rfl rfl rfl rfl rfl ?_
        refine st_move h rfl rfl ?_; clear h a; intro a h
        refine gd_yes h rfl rfl rfl rfl rfl rfl ?_
        refine st_lt h rfl rfl rfl ?_; clear h a; intro a h
        refine st_pick_t h rfl rfl rfl rfl ?_; clear h a; intro a h
        exact wpList_nil (bool_end h rfl (by first | exact bi (iff_true_intro (by omega)) | (exfalso; omega)) (.cons rfl .nil))
      · clear h; intro g0 h
        refine gd_no h rfl rfl rfl rfl rfl rfl rfl rfl ?_; clear h a; intro a h
        refine gd_no h rfl rfl rfl rfl rfl rfl rfl rfl ?_; clear h a; intro a h
        refine st_pick_f h rfl rfl rfl rfl ?_; clear h a; intro a h
        exact wpList_nil (bool_end h rfl (by first | exact bi (iff_true_intro (by omega)) | (exfalso; omega)) (.cons rfl .nil))
    · clear h a; intro a h
      refine (norm_then ?_)
      first | refine cond_dec h rfl (fun c1 => ?_) (fun c1 => ?_) | refine cond_ndec h rfl (fun c1 => ?_) (fun c1 => ?_) | refine cond_split h rfl (fun c1 => ?_) (fun c1 => ?_)
      · refine id ?_
        refine wp_seq ?_
        refine wp_region_lit ?_
        refine st_move h rfl rfl ?_; clear h a; intro a h
        refine st_call h (evs_cons rfl evs_nil) co81 (small_ok _ _ (by omega)) rfl ?_; clear h a; rintro _ _ ⟨rfl, rfl⟩ a h
        refine st_assign h rfl rfl ?_; clear h a; intro a h
        replace h : Ag a 54 [(4, _)] := h.sub (.cons rfl .nil)
        refine wpList_nil (norm_then ?_)
        refine wp_ret (ret_then (ret_then ?_))
        refine ret1 h Tryd.results73 rfl ?_
        exact ⟨_, rfl, rfl, rfl⟩
      · exact absurd trivial c1
  · exact absurd rfl c0
theorem itoa0_ok (n : Nat) (w0 : World) (hn : n < 100) : Rets Tryd.prog 62 #[.int .i64 (n : Int)] w0 fun v w' => v = S (itoaS n) ∧ w0 = w' := by
  refine enter [(0, .int .i64 (n : Int))] Tryd.func62 rfl Tryd.ntmps62 rfl (.cons rfl .nil) ?_
  intro a h
  refine wp_seq ?_
  refine wp_region_lit ?_
  refine st_assign h rfl rfl ?_; clear h a; intro a h
  replace h : Ag a 5 [(0, _)] := h.sub (.cons rfl .nil)
  refine wpList_nil (norm_then ?_)
  refine wp_seq ?_
  refine wp_region_lit ?_
  refine st_move h rfl rfl ?_; clear h a; intro a h
  refine st_call h (evs_cons rfl (evs_cons rfl evs_nil)) co73 (formatInt_ok _ _ (by omega)) rfl ?_; clear h a; rintro _ _ ⟨rfl, rfl⟩ a h
  refine st_assign h rfl rfl ?_; clear h a; intro a h
  replace h : Ag a 5 [(2, _)] := h.sub (.cons rfl .nil)
  refine wpList_nil (norm_then ?_)
  refine wp_ret ?_
  refine ret1 h Tryd.results62 rfl ?_
  exact ⟨_, rfl, rfl, rfl⟩
theorem itoa_ok (n : Nat) (w0 : World) (hn : n < 100) : Rets Tryd.prog 46 #[.int .i64 (n : Int)] w0 fun v w' => v = S (itoaS n) ∧ w0 = w' := by
  refine enter [(0, .int .i64 (n : Int))] Tryd.func46 rfl Tryd.ntmps46 rfl (.cons rfl .nil) ?_
  intro a h
  refine wp_seq ?_
  refine wp_region_lit ?_
  refine st_assign h rfl rfl ?_; clear h a; intro a h
  replace h : Ag a 5 [(0, _)] := h.sub (.cons rfl .nil)
  refine wpList_nil (norm_then ?_)
  refine wp_seq ?_
  refine wp_region_lit ?_
  refine st_move h rfl rfl ?_; clear h a; intro a h
  refine st_call h (evs_cons rfl evs_nil) co62 (itoa0_ok _ _ (by omega)) rfl ?_; clear h a; rintro _ _ ⟨rfl, rfl⟩ a h
  refine st_assign h rfl rfl ?_; clear h a; intro a h
  replace h : Ag a 5 [(2, _)] := h.sub (.cons rfl .nil)
  refine wpList_nil (norm_then ?_)
  refine wp_ret ?_
  refine ret1 h Tryd.results46 rfl ?_
  exact ⟨_, rfl, rfl, rfl⟩
end Go.Proofs.YtbbnampdgefljaaDoor
