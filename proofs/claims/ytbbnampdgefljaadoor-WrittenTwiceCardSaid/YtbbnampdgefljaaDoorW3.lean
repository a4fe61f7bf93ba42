/- Walks. -/
import Derived.Test.YtbbnampdgefljaaDoorRows
import Derived.Test.YtbbnampdgefljaaDoorW2
import Derived.Test.YtbbnampdgefljaaDoorXMap
set_option linter.unusedVariables false
set_option linter.unusedSimpArgs false
namespace Go.Proofs.YtbbnampdgefljaaDoor
open Go.Lw Go.G14
theorem less_ok (l m : List UInt8) (w0 : World) : Rets Tryd.prog 17 #[S l, S m] w0 fun v w' => v = .int .i64 (if lessP l m then 1 else 0) ∧ w0 = w' := by
  refine enter [(0, S l), (1, S m)] Tryd.func17 rfl Tryd.ntmps17 rfl (.cons rfl (.cons rfl .nil)) ?_
  intro a h
  refine wp_seq ?_
  refine wp_region_lit ?_
  refine st_assign h rfl rfl ?_; clear h a; intro a h
  replace h : Ag a 22 [(0, _), (1, _)] := h.sub (.cons rfl (.cons rfl .nil))
  refine wpList_nil (norm_then ?_)
  refine wp_seq ?_
  refine wp_seq ?_
  refine region_bool (r := 21) (L' := []) (lessP l m) h .nil ?_ ?_
  · refine id ?_
    refine st_move h rfl rfl ?_; clear h a; intro a h
    refine st_len h rfl Tryd.underlying9 rfl ?_; clear h a; intro a h
    refine st_move h rfl rfl ?_; clear h a; intro a h
    refine st_len h rfl Tryd.underlying9 rfl ?_; clear h a; intro a h
    refine st_lt h rfl rfl rfl ?_; clear h a; intro a h
    refine st_move h rfl rfl ?_; clear h a; intro a h
    first | refine guard_dec (D := 10) h rfl ?_ ?_ | refine guard_ndec (D := 10) h rfl ?_ ?_ | refine guard_any (D := 10) h rfl ?_ ?_
    · clear h; intro g0 h
      refine gd_no h rfl rfl rfl rfl rfl rfl rfl rfl ?_; clear h a; intro a h
      refine gd_no h rfl rfl rfl rfl rfl rfl rfl rfl ?_; clear h a; intro a h
      refine gd_no h rfl rfl rfl rfl rfl rfl rfl rfl ?_; clear h a; intro a h
      refine gd_no h rfl rfl rfl rfl rfl rfl rfl rfl ?_; clear h a; intro a h
      refine gd_no h rfl rfl rfl rfl rfl rfl rfl rfl ?_; clear h a; intro a h
      refine gd_no h rfl rfl rfl rfl rfl rfl rfl rfl ?_; clear h a; intro a h
      refine gd_skip h rfl rfl rfl rfl rfl rfl rfl ?_; clear h a; intro a h
      refine gd_skip h rfl rfl rfl rfl rfl rfl rfl ?_; clear h a; intro a h
      refine gd_skip h rfl rfl rfl rfl rfl rfl rfl ?_; clear h a; intro a h
      refine gd_no h rfl rfl rfl rfl rfl rfl rfl rfl ?_; clear h a; intro a h
      refine st_pick_t h rfl rfl rfl rfl ?_; clear h a; intro a h
      exact wpList_nil (bool_end h rfl (by first | exact bt (.inl (by omega)) | exact bf (by rintro (h | h) <;> omega) | exact bb ⟨fun e => .inr ⟨by omega, e⟩, by rintro (h | h); omega; exact h.2⟩) .nil)
    · clear h; intro g0 h
      refine gd_yes h rfl rfl rfl rfl rfl rfl ?_
      refine st_move h rfl rfl ?_; clear h a; intro a h
      refine gd_yes h rfl rfl rfl rfl rfl rfl ?_
      refine st_len h rfl Tryd.underlying9 rfl ?_; clear h a; intro a h
      refine gd_yes h rfl rfl rfl rfl rfl rfl ?_
      refine st_move h rfl rfl ?_; clear h a; intro a h
      refine gd_yes h rfl rfl rfl rfl rfl rfl ?_
      refine st_len h rfl Tryd.underlying9 rfl ?_; clear h a; intro a h
      refine gd_yes h rfl rfl rfl rfl rfl rfl ?_
      refine st_eq h rfl rfl rfl ?_; clear h a; intro a h
      refine gd_yes h rfl rfl rfl rfl rfl rfl ?_
      refine st_move h rfl rfl ?_; clear h a; intro a h
      first | refine guard_dec (D := 16) h rfl ?_ ?_ | refine guard_ndec (D := 16) h rfl ?_ ?_ | refine guard_any (D := 16) h rfl ?_ ?_
      · clear h; intro g1 h
        refine gd_yes h rfl rfl rfl rfl rfl rfl ?_
        refine st_move h rfl rfl ?_; clear h a; intro a h
        refine gd_yes h rfl rfl rfl rfl rfl rfl ?_
        refine st_move h rfl rfl ?_; clear h a; intro a h
        refine gd_yes h rfl rfl rfl rfl rfl rfl ?_
        refine st_lts h rfl rfl rfl ?_; clear h a; intro a h
        refine gd_yes h rfl rfl rfl rfl rfl rfl ?_
        refine st_pick_t h rfl rfl rfl rfl ?_; clear h a; intro a h
        refine st_pick_f h rfl rfl rfl rfl ?_; clear h a; intro a h
        exact wpList_nil (bool_end h rfl (by first | exact bt (.inl (by omega)) | exact bf (by rintro (h | h) <;> omega) | exact bb ⟨fun e => .inr ⟨by omega, e⟩, by rintro (h | h); omega; exact h.2⟩) .nil)
      · clear h; intro g1 h
        refine gd_no h rfl rfl rfl rfl rfl rfl rfl rfl ?_; clear h a; intro a h
        refine gd_no h rfl rfl rfl rfl rfl rfl rfl rfl ?_; clear h a; intro a h
        refine gd_no h rfl rfl rfl rfl rfl rfl rfl rfl ?_; clear h a; intro a h
        refine gd_yes h rfl rfl rfl rfl rfl rfl ?_
        refine st_pick_f h rfl rfl rfl rfl ?_; clear h a; intro a h
        refine st_pick_f h rfl rfl rfl rfl ?_; clear h a; intro a h
        exact wpList_nil (bool_end h rfl (by first | exact bt (.inl (by omega)) | exact bf (by rintro (h | h) <;> omega) | exact bb ⟨fun e => .inr ⟨by omega, e⟩, by rintro (h | h); omega; exact h.2⟩) .nil)
  · clear h a; intro a h
    refine (norm_then ?_)
    first | refine cond_dec h rfl (fun c0 => ?_) (fun c0 => ?_) | refine cond_ndec h rfl (fun c0 => ?_) (fun c0 => ?_) | refine cond_split h rfl (fun c0 => ?_) (fun c0 => ?_)
    · refine id ?_
      refine wp_seq ?_
      refine wp_region_lit ?_
      refine st_assign h rfl rfl ?_; clear h a; intro a h
      replace h : Ag a 22 [(4, _)] := h.sub (.cons rfl .nil)
      refine wpList_nil (norm_then ?_)
      refine wp_ret (ret_then ?_)
      refine ret1 h Tryd.results17 rfl ?_
      exact ⟨_, rfl, by first | rw [if_pos c0] | rw [if_neg c0], rfl⟩
    · refine id ?_
      refine wp_skip (norm_then ?_)
      refine wp_seq ?_
      refine wp_region_lit ?_
      refine st_assign h rfl rfl ?_; clear h a; intro a h
      replace h : Ag a 22 [(4, _)] := h.sub (.cons rfl .nil)
      refine wpList_nil (norm_then ?_)
      refine wp_ret ?_
      refine ret1 h Tryd.results17 rfl ?_
      exact ⟨_, rfl, by first | rw [if_pos c0] | rw [if_neg c0], rfl⟩
theorem number_ok (l : List UInt8) (most : Int) (w0 : World) : Rets Tryd.prog 27 #[S l, .int .i64 most] w0 fun v w' => v = .int .i64 (numberS l most) ∧ w0 = w' := by
  refine enter [(0, S l), (1, .int .i64 most)] Tryd.func27 rfl Tryd.ntmps27 rfl (.cons rfl (.cons rfl .nil)) ?_
  intro a h
  refine wp_seq ?_
  refine wp_region_lit ?_
  refine st_assign h rfl rfl ?_; clear h a; intro a h
  replace h : Ag a 52 [(0, _), (1, _)] := h.sub (.cons rfl (.cons rfl .nil))
  refine wpList_nil (norm_then ?_)
  refine wp_seq ?_
  refine wp_seq ?_
  refine region_bool (r := 19) (L' := [(0, _), (1, _)]) (l.length = 0 ∨ 2 < l.length ∨ ((l.getD 0 0).toNat : Int) = 48) h (.cons rfl (.cons rfl .nil)) ?_ ?_
  · refine id ?_
    refine st_move h rfl rfl ?_; clear h a; intro a h
    refine st_len h rfl Tryd.underlying9 rfl ?_; clear h a; intro a h
    refine st_eq h rfl rfl rfl ?_; clear h a; intro a h
    refine st_move h rfl rfl ?_; clear h a; intro a h
    first | refine guard_dec (D := 10) h rfl ?_ ?_ | refine guard_ndec (D := 10) h rfl ?_ ?_ | refine guard_any (D := 10) h rfl ?_ ?_
    · clear h; intro g0 h
      refine gd_no h rfl rfl rfl rfl rfl rfl rfl rfl ?_; clear h a; intro a h
      refine gd_no h rfl rfl rfl rfl rfl rfl rfl rfl ?_; clear h a; intro a h
      refine gd_no h rfl rfl rfl rfl rfl rfl rfl rfl ?_; clear h a; intro a h
      refine st_pick_t h rfl rfl rfl rfl ?_; clear h a; intro a h
      refine st_move h rfl rfl ?_; clear h a; intro a h
      refine gd_no h rfl rfl rfl rfl rfl rfl rfl rfl ?_; clear h a; intro a h
      refine gd_no h rfl rfl rfl rfl rfl rfl rfl rfl ?_; clear h a; intro a h
      refine gd_no h rfl rfl rfl rfl rfl rfl rfl rfl ?_; clear h a; intro a h
      refine st_pick_t h rfl rfl rfl rfl ?_; clear h a; intro a h
      exact wpList_nil (bool_end h rfl (by first | exact bt (by omega) | exact bf (by omega) | exact bi (by omega) | exact bn (by omega)) (.cons rfl (.cons rfl .nil)))
    · clear h; intro g0 h
      refine gd_yes h rfl rfl rfl rfl rfl rfl ?_
      refine st_move h rfl rfl ?_; clear h a; intro a h
      refine gd_yes h rfl rfl rfl rfl rfl rfl ?_
      refine st_len h rfl Tryd.underlying9 rfl ?_; clear h a; intro a h
      refine gd_yes h rfl rfl rfl rfl rfl rfl ?_
      refine st_gt h rfl rfl rfl ?_; clear h a; intro a h
      refine st_pick_f h rfl rfl rfl rfl ?_; clear h a; intro a h
      refine st_move h rfl rfl ?_; clear h a; intro a h
      first | refine guard_dec (D := 15) h rfl ?_ ?_ | refine guard_ndec (D := 15) h rfl ?_ ?_ | refine guard_any (D := 15) h rfl ?_ ?_
      · clear h; intro g1 h
        refine gd_no h rfl rfl rfl rfl rfl rfl rfl rfl ?_; clear h a; intro a h
        refine gd_no h rfl rfl rfl rfl rfl rfl rfl rfl ?_; clear h a; intro a h
        refine gd_no h rfl rfl rfl rfl rfl rfl rfl rfl ?_; clear h a; intro a h
        refine st_pick_t h rfl rfl rfl rfl ?_; clear h a; intro a h
        exact wpList_nil (bool_end h rfl (by first | exact bt (by omega) | exact bf (by omega) | exact bi (by omega) | exact bn (by omega)) (.cons rfl (.cons rfl .nil)))
      · clear h; intro g1 h
        refine gd_yes h rfl rfl rfl rfl rfl rfl ?_
        refine st_move h rfl rfl ?_; clear h a; intro a h
        refine gd_yes h rfl rfl rfl rfl rfl rfl ?_
        refine st_index (p := 0) h rfl rfl Tryd.underlying9 (by omega) (by omega) rfl rfl ?_; clear h a; intro hy17 a h
        refine gd_yes h rfl rfl rfl rfl rfl rfl ?_
        refine st_eq h rfl rfl rfl ?_; clear h a; intro a h
        refine st_pick_f h rfl rfl rfl rfl ?_; clear h a; intro a h
        exact wpList_nil (bool_end h rfl (by first | exact bt (by omega) | exact bf (by omega) | exact bi (by omega) | exact bn (by omega)) (.cons rfl (.cons rfl .nil)))
  · clear h a; intro a h
    refine (norm_then ?_)
    first | refine cond_dec h rfl (fun c0 => ?_) (fun c0 => ?_) | refine cond_ndec h rfl (fun c0 => ?_) (fun c0 => ?_) | refine cond_split h rfl (fun c0 => ?_) (fun c0 => ?_)
    · refine id ?_
      refine wp_seq ?_
      refine wp_region_lit ?_
      refine st_assign h rfl rfl ?_; clear h a; intro a h
      replace h : Ag a 52 [(4, _)] := h.sub (.cons rfl .nil)
      refine wpList_nil (norm_then ?_)
      refine wp_ret (ret_then ?_)
      refine ret1 h Tryd.results27 rfl ?_
      exact ⟨_, rfl, by first | rw [numberS, if_pos c0] | rw [numberS, if_neg c0, if_pos (not_all_of l k (by omega) c2)] | rw [numberS, if_neg c0, if_neg (by rw [ha]; simp), if_pos c3] | rw [numberS, if_neg c0, if_neg (by rw [ha]; simp), if_neg c3], rfl⟩
    · refine id ?_
      refine wp_skip (norm_then ?_)
      refine wp_seq ?_
      refine wp_region_lit ?_
      refine st_assign h rfl rfl ?_; clear h a; intro a h
      replace h : Ag a 52 [(0, _), (1, _), (5, _)] := h.sub (.cons rfl (.cons rfl (.cons rfl .nil)))
      refine wpList_nil (norm_then ?_)
      refine wp_seq ?_
      refine wp_seq ?_
      refine wp_region_lit ?_
      refine st_assign h rfl rfl ?_; clear h a; intro a h
      refine wpList_nil (norm_then ?_)
      refine wp_block ?_
      refine loop (ι := Nat) (fun k => [(0, S l), (1, .int .i64 most), (5, .int .i64 (valS (l.take k))), (6, .int .i64 (k : Int))]) (fun k w' => k ≤ l.length ∧ (l.take k).all isDig = true ∧ w' = w0) (fun k => l.length - k) 0 (h.sub (.cons rfl (.cons rfl (.cons rfl (.cons rfl .nil))))) ⟨by omega, rfl, rfl⟩ ?_
      clear h a
      rintro k w1 a h ⟨hk, ha, rfl⟩
      refine wp_seq ?_
      refine wp_seq ?_
      refine wp_region_lit ?_
      refine st_move h rfl rfl ?_; clear h a; intro a h
      refine st_move h rfl rfl ?_; clear h a; intro a h
      refine st_len h rfl Tryd.underlying9 rfl ?_; clear h a; intro a h
      refine st_lt h rfl rfl rfl ?_; clear h a; intro a h
      replace h : Ag a 52 [(0, _), (1, _), (5, _), (6, _), (23, _)] := h.sub (.cons rfl (.cons rfl (.cons rfl (.cons rfl (.cons rfl .nil)))))
      refine wpList_nil (norm_then ?_)
      first | refine cond_dec h rfl (fun c1 => ?_) (fun c1 => ?_) | refine cond_ndec h rfl (fun c1 => ?_) (fun c1 => ?_) | refine cond_split h rfl (fun c1 => ?_) (fun c1 => ?_)
      · have hv := valS_two l k (by omega) ha
        refine wp_skip (norm_then ?_)
        refine wp_seq ?_
        refine wp_block ?_
        refine wp_seq ?_
        refine wp_seq ?_
        refine region_bool (r := 35) (L' := [(0, _), (1, _), (5, _), (6, _)]) (¬ (48 ≤ ((l.getD k 0).toNat : Int) ∧ ((l.getD k 0).toNat : Int) ≤ 57)) h (.cons rfl (.cons rfl (.cons rfl (.cons rfl .nil)))) ?_ ?_
        · refine id ?_
          refine st_move h rfl rfl ?_; clear h a; intro a h
          refine st_move h rfl rfl ?_; clear h a; intro a h
          refine st_index (p := k) h rfl rfl Tryd.underlying9 (by omega) (by omega) (by omega) rfl ?_; clear h a; intro hy28 a h
          refine st_lt h rfl rfl rfl ?_; clear h a; intro a h
          refine st_move h rfl rfl ?_; clear h a; intro a h
          first | refine guard_dec (D := 30) h rfl ?_ ?_ | refine guard_ndec (D := 30) h rfl ?_ ?_ | refine guard_any (D := 30) h rfl ?_ ?_
          · clear h; intro g2 h
            refine gd_no h rfl rfl rfl rfl rfl rfl rfl rfl ?_; clear h a; intro a h
            refine gd_no h rfl rfl rfl rfl rfl rfl rfl rfl ?_; clear h a; intro a h
            refine gd_no h rfl rfl rfl rfl rfl rfl rfl rfl ?_; clear h a; intro a h
            refine gd_no h rfl rfl rfl rfl rfl rfl rfl rfl ?_; clear h a; intro a h
            refine st_pick_t h rfl rfl rfl rfl ?_; clear h a; intro a h
            exact wpList_nil (bool_end h rfl (by first | exact bt (by omega) | exact bf (by omega) | exact bi (by omega) | exact bn (by omega)) (.cons rfl (.cons rfl (.cons rfl (.cons rfl .nil)))))
          · clear h; intro g2 h
            refine gd_yes h rfl rfl rfl rfl rfl rfl ?_
            refine st_move h rfl rfl ?_; clear h a; intro a h
            refine gd_yes h rfl rfl rfl rfl rfl rfl ?_
            refine st_move h rfl rfl ?_; clear h a; intro a h
            refine gd_yes h rfl rfl rfl rfl rfl rfl ?_
            refine st_index (p := k) h rfl rfl Tryd.underlying9 (by omega) (by omega) (by omega) rfl ?_; clear h a; intro hy33 a h
            refine gd_yes h rfl rfl rfl rfl rfl rfl ?_
            refine st_gt h rfl rfl rfl ?_; clear h a; intro a h
            refine st_pick_f h rfl rfl rfl rfl ?_; clear h a; intro a h
            exact wpList_nil (bool_end h rfl (by first | exact bt (by omega) | exact bf (by omega) | exact bi (by omega) | exact bn (by omega)) (.cons rfl (.cons rfl (.cons rfl (.cons rfl .nil)))))
        · clear h a; intro a h
          refine (norm_then ?_)
          first | refine cond_dec h rfl (fun c2 => ?_) (fun c2 => ?_) | refine cond_ndec h rfl (fun c2 => ?_) (fun c2 => ?_) | refine cond_split h rfl (fun c2 => ?_) (fun c2 => ?_)
          · refine id ?_
            refine wp_seq ?_
            refine wp_region_lit ?_
            refine st_assign h rfl rfl ?_; clear h a; intro a h
            replace h : Ag a 52 [(4, _)] := h.sub (.cons rfl .nil)
            refine wpList_nil (norm_then ?_)
            refine wp_ret (ret_then (ret_blk (ret_then (ret_then (ret_blk (ret_then ?_))))))
            refine ret1 h Tryd.results27 rfl ?_
            exact ⟨_, rfl, by first | rw [numberS, if_pos c0] | rw [numberS, if_neg c0, if_pos (not_all_of l k (by omega) c2)] | rw [numberS, if_neg c0, if_neg (by rw [ha]; simp), if_pos c3] | rw [numberS, if_neg c0, if_neg (by rw [ha]; simp), if_neg c3], rfl⟩
          · refine id ?_
            refine wp_skip (norm_then ?_)
            refine wp_region_lit ?_
            refine st_move h rfl rfl ?_; clear h a; intro a h
            refine st_mul h rfl rfl (by first | exact IntWalk.i64_in _ (by omega) | rfl) rfl ?_; clear h a; intro a h
            refine st_move h rfl rfl ?_; clear h a; intro a h
            refine st_move h rfl rfl ?_; clear h a; intro a h
            refine st_index (p := k) h rfl rfl Tryd.underlying9 (by omega) (by omega) (by omega) rfl ?_; clear h a; intro hy40 a h
            refine st_sub h rfl rfl (by first | exact IntWalk.u8_in _ (by omega) | rfl) rfl ?_; clear h a; intro a h
            refine st_conv h rfl (by rw [Tryd.underlying5]; rfl) Tryd.underlying3 (by first | exact IntWalk.i64_in _ (by omega) | rfl) rfl ?_; clear h a; intro a h
            refine st_add h rfl rfl (by first | exact IntWalk.i64_in _ (by omega) | rfl) rfl ?_; clear h a; intro a h
            refine st_assign h rfl rfl ?_; clear h a; intro a h
            replace h : Ag a 52 [(0, _), (1, _), (5, _), (6, _)] := h.sub (.cons rfl (.cons rfl (.cons rfl (.cons rfl .nil))))
            refine wpList_nil (norm_blk (norm_then ?_))
            refine wp_region_lit ?_
            refine st_move h rfl rfl ?_; clear h a; intro a h
            refine st_add h rfl rfl (by first | exact IntWalk.i64_in _ (by omega) | rfl) rfl ?_; clear h a; intro a h
            refine st_assign h rfl rfl ?_; clear h a; intro a h
            replace h : Ag a 52 [(0, _), (1, _), (5, _), (6, _)] := h.sub (.cons rfl (.cons rfl (.cons rfl (.cons rfl .nil))))
            refine wpList_nil (norm_then ?_)
            exact ⟨k + 1, h.sub (.cons rfl (.cons rfl (.cons (by rw [take_snoc l k (by omega), valS_snoc, dstep]; rfl) (.cons rfl .nil)))), ⟨by omega, by rw [take_snoc l k (by omega)]; exact all_snoc _ _ ha ((isDig_iff _).2 (by omega)), rfl⟩, by omega⟩
      · obtain rfl : k = l.length := by omega
        rw [List.take_length] at h ha
        have hv := valS_rng l ha
        refine wp_exit (exit_then (exit_then (exit_here (norm_then ?_))))
        refine wp_seq ?_
        refine wp_seq ?_
        refine region_bool (r := 50) (L' := [(5, _)]) (valS l < 2 ∨ most < valS l) h (.cons rfl .nil) ?_ ?_
        · refine id ?_
          refine st_move h rfl rfl ?_; clear h a; intro a h
          refine st_lt h rfl rfl rfl ?_; clear h a; intro a h
          refine st_move h rfl rfl ?_; clear h a; intro a h
          first | refine guard_dec (D := 46) h rfl ?_ ?_ | refine guard_ndec (D := 46) h rfl ?_ ?_ | refine guard_any (D := 46) h rfl ?_ ?_
          · clear h; intro g3 h
            refine gd_no h rfl rfl rfl rfl rfl rfl rfl rfl ?_; clear h a; intro a h
            refine gd_no h rfl rfl rfl rfl rfl rfl rfl rfl ?_; clear h a; intro a h
            refine gd_no h rfl rfl rfl rfl rfl rfl rfl rfl ?_; clear h a; intro a h
            refine st_pick_t h rfl rfl rfl rfl ?_; clear h a; intro a h
            exact wpList_nil (bool_end h rfl (by first | exact bt (by omega) | exact bf (by omega) | exact bi (by omega) | exact bn (by omega)) (.cons rfl .nil))
          · clear h; intro g3 h
            refine gd_yes h rfl rfl rfl rfl rfl rfl ?_
            refine st_move h rfl rfl ?_; clear h a; intro a h
            refine gd_yes h rfl rfl rfl rfl rfl rfl ?_
            refine st_move h rfl rfl ?_; clear h a; intro a h
            refine gd_yes h rfl rfl rfl rfl rfl rfl ?_
            refine st_gt h rfl rfl rfl ?_; clear h a; intro a h
            refine st_pick_f h rfl rfl rfl rfl ?_; clear h a; intro a h
            exact wpList_nil (bool_end h rfl (by first | exact bt (by omega) | exact bf (by omega) | exact bi (by omega) | exact bn (by omega)) (.cons rfl .nil))
        · clear h a; intro a h
          refine (norm_then ?_)
          first | refine cond_dec h rfl (fun c3 => ?_) (fun c3 => ?_) | refine cond_ndec h rfl (fun c3 => ?_) (fun c3 => ?_) | refine cond_split h rfl (fun c3 => ?_) (fun c3 => ?_)
          · refine id ?_
            refine wp_seq ?_
            refine wp_region_lit ?_
            refine st_assign h rfl rfl ?_; clear h a; intro a h
            replace h : Ag a 52 [(4, _)] := h.sub (.cons rfl .nil)
            refine wpList_nil (norm_then ?_)
            refine wp_ret (ret_then ?_)
            refine ret1 h Tryd.results27 rfl ?_
            exact ⟨_, rfl, by first | rw [numberS, if_pos c0] | rw [numberS, if_neg c0, if_pos (not_all_of l k (by omega) c2)] | rw [numberS, if_neg c0, if_neg (by rw [ha]; simp), if_pos c3] | rw [numberS, if_neg c0, if_neg (by rw [ha]; simp), if_neg c3], rfl⟩
          · refine id ?_
            refine wp_skip (norm_then ?_)
            refine wp_seq ?_
            refine wp_region_lit ?_
            refine st_move h rfl rfl ?_; clear h a; intro a h
            refine st_assign h rfl rfl ?_; clear h a; intro a h
            replace h : Ag a 52 [(4, _)] := h.sub (.cons rfl .nil)
            refine wpList_nil (norm_then ?_)
            refine wp_ret ?_
            refine ret1 h Tryd.results27 rfl ?_
            exact ⟨_, rfl, by first | rw [numberS, if_pos c0] | rw [numberS, if_neg c0, if_pos (not_all_of l k (by omega) c2)] | rw [numberS, if_neg c0, if_neg (by rw [ha]; simp), if_pos c3] | rw [numberS, if_neg c0, if_neg (by rw [ha]; simp), if_neg c3], rfl⟩
theorem count_ok (l : List UInt8) (most : Int) (w0 : World) (hl : l.length ≤ 9223372036854775807) : Rets Tryd.prog 53 #[S l, .int .i64 most] w0 fun v w' => v = .tuple #[.int .i64 (countS l most).1, .int .i64 (countS l most).2] ∧ w0 = w' := by
  refine enter [(0, S l), (1, .int .i64 most)] Tryd.func53 rfl Tryd.ntmps53 rfl (.cons rfl (.cons rfl .nil)) ?_
  intro a h
  refine wp_seq ?_
  refine wp_region_lit ?_
  refine st_assign h rfl rfl ?_; clear h a; intro a h
  refine st_assign h rfl rfl ?_; clear h a; intro a h
  replace h : Ag a 53 [(0, _), (1, _)] := h.sub (.cons rfl (.cons rfl .nil))
  refine wpList_nil (norm_then ?_)
  refine wp_seq ?_
  refine wp_region_lit ?_
  refine st_assign h rfl rfl ?_; clear h a; intro a h
  refine st_assign h rfl rfl ?_; clear h a; intro a h
  refine wpList_nil (norm_then ?_)
  refine wp_seq ?_
  refine wp_block ?_
  refine loop (ι := Nat) (fun k => [(0, S l), (1, .int .i64 most), (6, .int .i64 (capS (l.take k))), (7, .int .i64 (k : Int))]) (fun k w' => k ≤ l.length ∧ (l.take k).all isDig = true ∧ w' = w0) (fun k => l.length - k) 0 (h.sub (.cons rfl (.cons rfl (.cons rfl (.cons rfl .nil))))) ⟨by omega, rfl, rfl⟩ ?_
  clear h a
  rintro k w1 a h ⟨hk, ha, rfl⟩
  have hv := capS_rng _ ha
  refine wp_seq ?_
  refine wp_seq ?_
  refine region_bool (r := 23) (L' := [(0, _), (1, _), (6, _), (7, _)]) (k < l.length ∧ 48 ≤ ((l.getD k 0).toNat : Int) ∧ ((l.getD k 0).toNat : Int) ≤ 57) h (.cons rfl (.cons rfl (.cons rfl (.cons rfl .nil)))) ?_ ?_
  · refine id ?_
    refine st_move h rfl rfl ?_; clear h a; intro a h
    refine st_move h rfl rfl ?_; clear h a; intro a h
    refine st_len h rfl Tryd.underlying9 rfl ?_; clear h a; intro a h
    refine st_lt h rfl rfl rfl ?_; clear h a; intro a h
    refine st_move h rfl rfl ?_; clear h a; intro a h
    first | refine guard_dec (D := 12) h rfl ?_ ?_ | refine guard_ndec (D := 12) h rfl ?_ ?_ | refine guard_any (D := 12) h rfl ?_ ?_
    · clear h; intro g0 h
      refine gd_yes h rfl rfl rfl rfl rfl rfl ?_
      refine st_move h rfl rfl ?_; clear h a; intro a h
      refine gd_yes h rfl rfl rfl rfl rfl rfl ?_
      refine st_move h rfl rfl ?_; clear h a; intro a h
      refine gd_yes h rfl rfl rfl rfl rfl rfl ?_
      refine st_index (p := k) h rfl rfl Tryd.underlying9 (by omega) (by omega) (by omega) rfl ?_; clear h a; intro hy15 a h
      refine gd_yes h rfl rfl rfl rfl rfl rfl ?_
      refine st_le h rfl rfl rfl ?_; clear h a; intro a h
      refine st_pick_t h rfl rfl rfl rfl ?_; clear h a; intro a h
      refine st_move h rfl rfl ?_; clear h a; intro a h
      first | refine guard_dec (D := 18) h rfl ?_ ?_ | refine guard_ndec (D := 18) h rfl ?_ ?_ | refine guard_any (D := 18) h rfl ?_ ?_
      · clear h; intro g1 h
        refine gd_yes h rfl rfl rfl rfl rfl rfl ?_
        refine st_move h rfl rfl ?_; clear h a; intro a h
        refine gd_yes h rfl rfl rfl rfl rfl rfl ?_
        refine st_move h rfl rfl ?_; clear h a; intro a h
        refine gd_yes h rfl rfl rfl rfl rfl rfl ?_
        refine st_index (p := k) h rfl rfl Tryd.underlying9 (by omega) (by omega) (by omega) rfl ?_; clear h a; intro hy21 a h
        refine gd_yes h rfl rfl rfl rfl rfl rfl ?_
        refine st_le h rfl rfl rfl ?_; clear h a; intro a h
        refine st_pick_t h rfl rfl rfl rfl ?_; clear h a; intro a h
        exact wpList_nil (bool_end h rfl (by first | exact bt (by omega) | exact bf (by omega) | exact bi (by omega) | exact bn (by omega)) (.cons rfl (.cons rfl (.cons rfl (.cons rfl .nil)))))
      · clear h; intro g1 h
        refine gd_no h rfl rfl rfl rfl rfl rfl rfl rfl ?_; clear h a; intro a h
        refine gd_no h rfl rfl rfl rfl rfl rfl rfl rfl ?_; clear h a; intro a h
        refine gd_no h rfl rfl rfl rfl rfl rfl rfl rfl ?_; clear h a; intro a h
        refine gd_no h rfl rfl rfl rfl rfl rfl rfl rfl ?_; clear h a; intro a h
        refine st_pick_f h rfl rfl rfl rfl ?_; clear h a; intro a h
        exact wpList_nil (bool_end h rfl (by first | exact bt (by omega) | exact bf (by omega) | exact bi (by omega) | exact bn (by omega)) (.cons rfl (.cons rfl (.cons rfl (.cons rfl .nil)))))
    · clear h; intro g0 h
      refine gd_no h rfl rfl rfl rfl rfl rfl rfl rfl ?_; clear h a; intro a h
      refine gd_no h rfl rfl rfl rfl rfl rfl rfl rfl ?_; clear h a; intro a h
      refine gd_no h rfl rfl rfl rfl rfl rfl rfl rfl ?_; clear h a; intro a h
      refine gd_no h rfl rfl rfl rfl rfl rfl rfl rfl ?_; clear h a; intro a h
      refine st_pick_f h rfl rfl rfl rfl ?_; clear h a; intro a h
      refine st_move h rfl rfl ?_; clear h a; intro a h
      refine gd_no h rfl rfl rfl rfl rfl rfl rfl rfl ?_; clear h a; intro a h
      refine gd_no h rfl rfl rfl rfl rfl rfl rfl rfl ?_; clear h a; intro a h
      refine gd_no h rfl rfl rfl rfl rfl rfl rfl rfl ?_; clear h a; intro a h
      refine gd_no h rfl rfl rfl rfl rfl rfl rfl rfl ?_; clear h a; intro a h
      refine st_pick_f h rfl rfl rfl rfl ?_; clear h a; intro a h
      exact wpList_nil (bool_end h rfl (by first | exact bt (by omega) | exact bf (by omega) | exact bi (by omega) | exact bn (by omega)) (.cons rfl (.cons rfl (.cons rfl (.cons rfl .nil)))))
  · clear h a; intro a h
    refine (norm_then ?_)
    first | refine cond_dec h rfl (fun c0 => ?_) (fun c0 => ?_) | refine cond_ndec h rfl (fun c0 => ?_) (fun c0 => ?_) | refine cond_split h rfl (fun c0 => ?_) (fun c0 => ?_)
    · refine id ?_
      refine wp_skip (norm_then ?_)
      refine wp_block ?_
      refine wp_seq ?_
      refine wp_region_lit ?_
      refine st_move h rfl rfl ?_; clear h a; intro a h
      refine st_mul h rfl rfl (by first | exact IntWalk.i64_in _ (by omega) | rfl) rfl ?_; clear h a; intro a h
      refine st_move h rfl rfl ?_; clear h a; intro a h
      refine st_move h rfl rfl ?_; clear h a; intro a h
      refine st_index (p := k) h rfl rfl Tryd.underlying9 (by omega) (by omega) (by omega) rfl ?_; clear h a; intro hy28 a h
      refine st_sub h rfl rfl (by first | exact IntWalk.u8_in _ (by omega) | rfl) rfl ?_; clear h a; intro a h
      refine st_conv h rfl (by rw [Tryd.underlying5]; rfl) Tryd.underlying3 (by first | exact IntWalk.i64_in _ (by omega) | rfl) rfl ?_; clear h a; intro a h
      refine st_add h rfl rfl (by first | exact IntWalk.i64_in _ (by omega) | rfl) rfl ?_; clear h a; intro a h
      refine st_min h rfl rfl rfl ?_; clear h a; intro a h
      refine st_assign h rfl rfl ?_; clear h a; intro a h
      replace h : Ag a 53 [(0, _), (1, _), (6, _), (7, _)] := h.sub (.cons rfl (.cons rfl (.cons rfl (.cons rfl .nil))))
      refine wpList_nil (norm_then ?_)
      refine wp_region_lit ?_
      refine st_move h rfl rfl ?_; clear h a; intro a h
      refine st_add h rfl rfl (by first | exact IntWalk.i64_in _ (by omega) | rfl) rfl ?_; clear h a; intro a h
      refine st_assign h rfl rfl ?_; clear h a; intro a h
      replace h : Ag a 53 [(0, _), (1, _), (6, _), (7, _)] := h.sub (.cons rfl (.cons rfl (.cons rfl (.cons rfl .nil))))
      refine wpList_nil (norm_blk (norm_then ?_))
      exact ⟨k + 1, h.sub (.cons rfl (.cons rfl (.cons (by rw [take_snoc l k (by omega), capS_snoc, cstep]; rfl) (.cons rfl .nil)))), ⟨by omega, by rw [take_snoc l k (by omega)]; exact all_snoc _ _ ha ((isDig_iff _).2 (by omega)), rfl⟩, by omega⟩
    · have hw := takeWhile_eq l k hk ha c0
      refine wp_exit (exit_then (exit_then (exit_here (norm_then ?_))))
      refine wp_seq ?_
      refine wp_seq ?_
      refine region_bool (r := 50) (L' := [(6, _), (7, _)]) (k = 0 ∨ ((l.getD 0 0).toNat : Int) = 48 ∨ capS (l.take k) < 2 ∨ most < capS (l.take k)) h (.cons rfl (.cons rfl .nil)) ?_ ?_
      · refine id ?_
        refine st_move h rfl rfl ?_; clear h a; intro a h
        refine st_eq h rfl rfl rfl ?_; clear h a; intro a h
        refine st_move h rfl rfl ?_; clear h a; intro a h
        first | refine guard_dec (D := 37) h rfl ?_ ?_ | refine guard_ndec (D := 37) h rfl ?_ ?_ | refine guard_any (D := 37) h rfl ?_ ?_
        · clear h; intro g2 h
          refine gd_no h rfl rfl rfl rfl rfl rfl rfl rfl ?_; clear h a; intro a h
          refine gd_no h rfl rfl rfl rfl rfl rfl rfl rfl ?_; clear h a; intro a h
          refine gd_no h rfl rfl rfl rfl rfl rfl rfl rfl ?_; clear h a; intro a h
          refine st_pick_t h rfl rfl rfl rfl ?_; clear h a; intro a h
          refine st_move h rfl rfl ?_; clear h a; intro a h
          refine gd_no h rfl rfl rfl rfl rfl rfl rfl rfl ?_; clear h a; intro a h
          refine gd_no h rfl rfl rfl rfl rfl rfl rfl rfl ?_; clear h a; intro a h
          refine st_pick_t h rfl rfl rfl rfl ?_; clear h a; intro a h
          refine st_move h rfl rfl ?_; clear h a; intro a h
          refine gd_no h rfl rfl rfl rfl rfl rfl rfl rfl ?_; clear h a; intro a h
          refine gd_no h rfl rfl rfl rfl rfl rfl rfl rfl ?_; clear h a; intro a h
          refine gd_no h rfl rfl rfl rfl rfl rfl rfl rfl ?_; clear h a; intro a h
          refine st_pick_t h rfl rfl rfl rfl ?_; clear h a; intro a h
          exact wpList_nil (bool_end h rfl (by first | exact bt (by omega) | exact bf (by omega) | exact bi (by omega) | exact bn (by omega)) (.cons rfl (.cons rfl .nil)))
        · clear h; intro g2 h
          refine gd_yes h rfl rfl rfl rfl rfl rfl ?_
          refine st_move h rfl rfl ?_; clear h a; intro a h
          refine gd_yes h rfl rfl rfl rfl rfl rfl ?_
          refine st_index (p := 0) h rfl rfl Tryd.underlying9 (by omega) (by omega) rfl rfl ?_; clear h a; intro hy39 a h
          refine gd_yes h rfl rfl rfl rfl rfl rfl ?_
          refine st_eq h rfl rfl rfl ?_; clear h a; intro a h
          refine st_pick_f h rfl rfl rfl rfl ?_; clear h a; intro a h
          refine st_move h rfl rfl ?_; clear h a; intro a h
          first | refine guard_dec (D := 42) h rfl ?_ ?_ | refine guard_ndec (D := 42) h rfl ?_ ?_ | refine guard_any (D := 42) h rfl ?_ ?_
          · clear h; intro g3 h
            refine gd_no h rfl rfl rfl rfl rfl rfl rfl rfl ?_; clear h a; intro a h
            refine gd_no h rfl rfl rfl rfl rfl rfl rfl rfl ?_; clear h a; intro a h
            refine st_pick_t h rfl rfl rfl rfl ?_; clear h a; intro a h
            refine st_move h rfl rfl ?_; clear h a; intro a h
            refine gd_no h rfl rfl rfl rfl rfl rfl rfl rfl ?_; clear h a; intro a h
            refine gd_no h rfl rfl rfl rfl rfl rfl rfl rfl ?_; clear h a; intro a h
            refine gd_no h rfl rfl rfl rfl rfl rfl rfl rfl ?_; clear h a; intro a h
            refine st_pick_t h rfl rfl rfl rfl ?_; clear h a; intro a h
            exact wpList_nil (bool_end h rfl (by first | exact bt (by omega) | exact bf (by omega) | exact bi (by omega) | exact bn (by omega)) (.cons rfl (.cons rfl .nil)))
          · clear h; intro g3 h
            refine gd_yes h rfl rfl rfl rfl rfl rfl ?_
            refine st_move h rfl rfl ?_; clear h a; intro a h
            refine gd_yes h rfl rfl rfl rfl rfl rfl ?_
            refine st_lt h rfl rfl rfl ?_; clear h a; intro a h
            refine st_pick_f h rfl rfl rfl rfl ?_; clear h a; intro a h
            refine st_move h rfl rfl ?_; clear h a; intro a h
            first | refine guard_dec (D := 46) h rfl ?_ ?_ | refine guard_ndec (D := 46) h rfl ?_ ?_ | refine guard_any (D := 46) h rfl ?_ ?_
            · clear h; intro g4 h
              refine gd_no h rfl rfl rfl rfl rfl rfl rfl rfl ?_; clear h a; intro a h
              refine gd_no h rfl rfl rfl rfl rfl rfl rfl rfl ?_; clear h a; intro a h
              refine gd_no h rfl rfl rfl rfl rfl rfl rfl rfl ?_; clear h a; intro a h
              refine st_pick_t h rfl rfl rfl rfl ?_; clear h a; intro a h
              exact wpList_nil (bool_end h rfl (by first | exact bt (by omega) | exact bf (by omega) | exact bi (by omega) | exact bn (by omega)) (.cons rfl (.cons rfl .nil)))
            · clear h; intro g4 h
              refine gd_yes h rfl rfl rfl rfl rfl rfl ?_
              refine st_move h rfl rfl ?_; clear h a; intro a h
              refine gd_yes h rfl rfl rfl rfl rfl rfl ?_
              refine st_move h rfl rfl ?_; clear h a; intro a h
              refine gd_yes h rfl rfl rfl rfl rfl rfl ?_
              refine st_gt h rfl rfl rfl ?_; clear h a; intro a h
              refine st_pick_f h rfl rfl rfl rfl ?_; clear h a; intro a h
              exact wpList_nil (bool_end h rfl (by first | exact bt (by omega) | exact bf (by omega) | exact bi (by omega) | exact bn (by omega)) (.cons rfl (.cons rfl .nil)))
      · clear h a; intro a h
        refine (norm_then ?_)
        first | refine cond_dec h rfl (fun c1 => ?_) (fun c1 => ?_) | refine cond_ndec h rfl (fun c1 => ?_) (fun c1 => ?_) | refine cond_split h rfl (fun c1 => ?_) (fun c1 => ?_)
        · refine id ?_
          refine wp_seq ?_
          refine wp_region_lit ?_
          refine st_assign h rfl rfl ?_; clear h a; intro a h
          refine st_assign h rfl rfl ?_; clear h a; intro a h
          replace h : Ag a 53 [(4, _), (5, _)] := h.sub (.cons rfl (.cons rfl .nil))
          refine wpList_nil (norm_then ?_)
          refine wp_ret (ret_then ?_)
          refine ret2 h Tryd.results53 rfl rfl ?_
          exact ⟨_, rfl, by first | rw [count_bad hw hk c1] | rw [count_good hw hk c1], rfl⟩
        · refine id ?_
          refine wp_skip (norm_then ?_)
          refine wp_seq ?_
          refine wp_region_lit ?_
          refine st_move h rfl rfl ?_; clear h a; intro a h
          refine st_move h rfl rfl ?_; clear h a; intro a h
          refine st_assign h rfl rfl ?_; clear h a; intro a h
          refine st_assign h rfl rfl ?_; clear h a; intro a h
          replace h : Ag a 53 [(4, _), (5, _)] := h.sub (.cons rfl (.cons rfl .nil))
          refine wpList_nil (norm_then ?_)
          refine wp_ret ?_
          refine ret2 h Tryd.results53 rfl rfl ?_
          exact ⟨_, rfl, by first | rw [count_bad hw hk c1] | rw [count_good hw hk c1], rfl⟩
theorem better_ok (l m : List UInt8) (w0 : World) : Rets Tryd.prog 56 #[S l, S m] w0 fun v w' => v = S (betterS l m) ∧ w0 = w' := by
  refine enter [(0, S l), (1, S m)] Tryd.func56 rfl Tryd.ntmps56 rfl (.cons rfl (.cons rfl .nil)) ?_
  intro a h
  refine wp_seq ?_
  refine wp_region_lit ?_
  refine st_assign h rfl rfl ?_; clear h a; intro a h
  replace h : Ag a 32 [(0, _), (1, _)] := h.sub (.cons rfl (.cons rfl .nil))
  refine wpList_nil (norm_then ?_)
  refine wp_seq ?_
  refine wp_seq ?_
  refine region_bool (r := 29) (L' := [(0, _), (1, _)]) (l = [] ∨ (m ≠ [] ∧ lessP m l)) h (.cons rfl (.cons rfl .nil)) ?_ ?_
  · refine id ?_
    refine st_move h rfl rfl ?_; clear h a; intro a h
    refine st_eqs h rfl rfl rfl ?_; clear h a; intro a h
    refine st_move h rfl rfl ?_; clear h a; intro a h
    first | refine guard_dec (D := 7) h rfl ?_ ?_ | refine guard_ndec (D := 7) h rfl ?_ ?_ | refine guard_any (D := 7) h rfl ?_ ?_
    · clear h; intro g0 h
      refine gd_no h rfl rfl rfl rfl rfl rfl rfl rfl ?_; clear h a; intro a h
      refine gd_no h rfl rfl rfl rfl rfl rfl rfl rfl ?_; clear h a; intro a h
      refine gd_no h rfl rfl rfl rfl rfl rfl rfl rfl ?_; clear h a; intro a h
      refine gd_skip h rfl rfl rfl rfl rfl rfl rfl ?_; clear h a; intro a h
      refine gd_skip h rfl rfl rfl rfl rfl rfl rfl ?_; clear h a; intro a h
      refine gd_skip h rfl rfl rfl rfl rfl rfl rfl ?_; clear h a; intro a h
      refine gd_skip h rfl rfl rfl rfl rfl rfl rfl ?_; clear h a; intro a h
      refine gd_skip h rfl rfl rfl rfl rfl rfl rfl ?_; clear h a; intro a h
      refine gd_skip h rfl rfl rfl rfl rfl rfl rfl ?_; clear h a; intro a h
      refine gd_skip h rfl rfl rfl rfl rfl rfl rfl ?_; clear h a; intro a h
      refine gd_skip h rfl rfl rfl rfl rfl rfl rfl ?_; clear h a; intro a h
      refine gd_skip h rfl rfl rfl rfl rfl rfl rfl ?_; clear h a; intro a h
      refine gd_skip h rfl rfl rfl rfl rfl rfl rfl ?_; clear h a; intro a h
      refine gd_skip h rfl rfl rfl rfl rfl rfl rfl ?_; clear h a; intro a h
      refine gd_skip h rfl rfl rfl rfl rfl rfl rfl ?_; clear h a; intro a h
      refine gd_skip h rfl rfl rfl rfl rfl rfl rfl ?_; clear h a; intro a h
      refine gd_skip h rfl rfl rfl rfl rfl rfl rfl ?_; clear h a; intro a h
      refine gd_skip h rfl rfl rfl rfl rfl rfl rfl ?_; clear h a; intro a h
      refine gd_skip h rfl rfl rfl rfl rfl rfl rfl ?_; clear h a; intro a h
      refine gd_skip h rfl rfl rfl rfl rfl rfl rfl ?_; clear h a; intro a h
      refine gd_no h rfl rfl rfl rfl rfl rfl rfl rfl ?_; clear h a; intro a h
      refine st_pick_t h rfl rfl rfl rfl ?_; clear h a; intro a h
      exact wpList_nil (bool_end h rfl (by first | exact bt (Or.inl ‹l = []›) | exact bf (by rintro (h | ⟨h, _⟩); exact absurd h ‹¬ l = []›; exact absurd h ‹¬ m ≠ []›) | exact bt (.inr ⟨‹m ≠ []›, .inl (by omega)⟩) | exact bf (by rintro (h | ⟨_, h | h⟩); exact absurd h ‹¬ l = []›; omega; omega) | exact bb ⟨fun e => .inr ⟨‹m ≠ []›, .inr ⟨by omega, e⟩⟩, by rintro (h | ⟨_, h | h⟩); exact absurd h ‹¬ l = []›; omega; exact h.2⟩) (.cons rfl (.cons rfl .nil)))
    · clear h; intro g0 h
      refine gd_yes h rfl rfl rfl rfl rfl rfl ?_
      refine st_move h rfl rfl ?_; clear h a; intro a h
      refine gd_yes h rfl rfl rfl rfl rfl rfl ?_
      refine st_nes h rfl rfl rfl ?_; clear h a; intro a h
      refine gd_yes h rfl rfl rfl rfl rfl rfl ?_
      refine st_move h rfl rfl ?_; clear h a; intro a h
      first | refine guard_dec (D := 10) h rfl ?_ ?_ | refine guard_ndec (D := 10) h rfl ?_ ?_ | refine guard_any (D := 10) h rfl ?_ ?_
      · clear h; intro g1 h
        refine gd_yes h rfl rfl rfl rfl rfl rfl ?_
        refine st_move h rfl rfl ?_; clear h a; intro a h
        refine gd_yes h rfl rfl rfl rfl rfl rfl ?_
        refine st_len h rfl Tryd.underlying9 rfl ?_; clear h a; intro a h
        refine gd_yes h rfl rfl rfl rfl rfl rfl ?_
        refine st_move h rfl rfl ?_; clear h a; intro a h
        refine gd_yes h rfl rfl rfl rfl rfl rfl ?_
        refine st_len h rfl Tryd.underlying9 rfl ?_; clear h a; intro a h
        refine gd_yes h rfl rfl rfl rfl rfl rfl ?_
        refine st_lt h rfl rfl rfl ?_; clear h a; intro a h
        refine gd_yes h rfl rfl rfl rfl rfl rfl ?_
        refine st_move h rfl rfl ?_; clear h a; intro a h
        first | refine guard_dec (D := 16) h rfl ?_ ?_ | refine guard_ndec (D := 16) h rfl ?_ ?_ | refine guard_any (D := 16) h rfl ?_ ?_
        · clear h; intro g2 h
          refine gd_no h rfl rfl rfl rfl rfl rfl rfl rfl ?_; clear h a; intro a h
          refine gd_no h rfl rfl rfl rfl rfl rfl rfl rfl ?_; clear h a; intro a h
          refine gd_no h rfl rfl rfl rfl rfl rfl rfl rfl ?_; clear h a; intro a h
          refine gd_no h rfl rfl rfl rfl rfl rfl rfl rfl ?_; clear h a; intro a h
          refine gd_no h rfl rfl rfl rfl rfl rfl rfl rfl ?_; clear h a; intro a h
          refine gd_no h rfl rfl rfl rfl rfl rfl rfl rfl ?_; clear h a; intro a h
          refine gd_skip h rfl rfl rfl rfl rfl rfl rfl ?_; clear h a; intro a h
          refine gd_skip h rfl rfl rfl rfl rfl rfl rfl ?_; clear h a; intro a h
          refine gd_skip h rfl rfl rfl rfl rfl rfl rfl ?_; clear h a; intro a h
          refine gd_no h rfl rfl rfl rfl rfl rfl rfl rfl ?_; clear h a; intro a h
          refine gd_yes h rfl rfl rfl rfl rfl rfl ?_
          refine st_pick_t h rfl rfl rfl rfl ?_; clear h a; intro a h
          refine gd_yes h rfl rfl rfl rfl rfl rfl ?_
          refine st_pick_t h rfl rfl rfl rfl ?_; clear h a; intro a h
          refine st_pick_f h rfl rfl rfl rfl ?_; clear h a; intro a h
          exact wpList_nil (bool_end h rfl (by first | exact bt (Or.inl ‹l = []›) | exact bf (by rintro (h | ⟨h, _⟩); exact absurd h ‹¬ l = []›; exact absurd h ‹¬ m ≠ []›) | exact bt (.inr ⟨‹m ≠ []›, .inl (by omega)⟩) | exact bf (by rintro (h | ⟨_, h | h⟩); exact absurd h ‹¬ l = []›; omega; omega) | exact bb ⟨fun e => .inr ⟨‹m ≠ []›, .inr ⟨by omega, e⟩⟩, by rintro (h | ⟨_, h | h⟩); exact absurd h ‹¬ l = []›; omega; exact h.2⟩) (.cons rfl (.cons rfl .nil)))
        · clear h; intro g2 h
          refine gd_yes h rfl rfl rfl rfl rfl rfl ?_
          refine st_move h rfl rfl ?_; clear h a; intro a h
          refine gd_yes h rfl rfl rfl rfl rfl rfl ?_
          refine st_len h rfl Tryd.underlying9 rfl ?_; clear h a; intro a h
          refine gd_yes h rfl rfl rfl rfl rfl rfl ?_
          refine st_move h rfl rfl ?_; clear h a; intro a h
          refine gd_yes h rfl rfl rfl rfl rfl rfl ?_
          refine st_len h rfl Tryd.underlying9 rfl ?_; clear h a; intro a h
          refine gd_yes h rfl rfl rfl rfl rfl rfl ?_
          refine st_eq h rfl rfl rfl ?_; clear h a; intro a h
          refine gd_yes h rfl rfl rfl rfl rfl rfl ?_
          refine st_move h rfl rfl ?_; clear h a; intro a h
          first | refine guard_dec (D := 22) h rfl ?_ ?_ | refine guard_ndec (D := 22) h rfl ?_ ?_ | refine guard_any (D := 22) h rfl ?_ ?_
          · clear h; intro g3 h
            refine gd_yes h rfl rfl rfl rfl rfl rfl ?_
            refine st_move h rfl rfl ?_; clear h a; intro a h
            refine gd_yes h rfl rfl rfl rfl rfl rfl ?_
            refine st_move h rfl rfl ?_; clear h a; intro a h
            refine gd_yes h rfl rfl rfl rfl rfl rfl ?_
            refine st_lts h rfl rfl rfl ?_; clear h a; intro a h
            refine gd_yes h rfl rfl rfl rfl rfl rfl ?_
            refine st_pick_t h rfl rfl rfl rfl ?_; clear h a; intro a h
            refine gd_yes h rfl rfl rfl rfl rfl rfl ?_
            refine st_pick_f h rfl rfl rfl rfl ?_; clear h a; intro a h
            refine gd_yes h rfl rfl rfl rfl rfl rfl ?_
            refine st_pick_t h rfl rfl rfl rfl ?_; clear h a; intro a h
            refine st_pick_f h rfl rfl rfl rfl ?_; clear h a; intro a h
            exact wpList_nil (bool_end h rfl (by first | exact bt (Or.inl ‹l = []›) | exact bf (by rintro (h | ⟨h, _⟩); exact absurd h ‹¬ l = []›; exact absurd h ‹¬ m ≠ []›) | exact bt (.inr ⟨‹m ≠ []›, .inl (by omega)⟩) | exact bf (by rintro (h | ⟨_, h | h⟩); exact absurd h ‹¬ l = []›; omega; omega) | exact bb ⟨fun e => .inr ⟨‹m ≠ []›, .inr ⟨by omega, e⟩⟩, by rintro (h | ⟨_, h | h⟩); exact absurd h ‹¬ l = []›; omega; exact h.2⟩) (.cons rfl (.cons rfl .nil)))
          · clear h; intro g3 h
            refine gd_no h rfl rfl rfl rfl rfl rfl rfl rfl ?_; clear h a; intro a h
            refine gd_no h rfl rfl rfl rfl rfl rfl rfl rfl ?_; clear h a; intro a h
            refine gd_no h rfl rfl rfl rfl rfl rfl rfl rfl ?_; clear h a; intro a h
            refine gd_yes h rfl rfl rfl rfl rfl rfl ?_
            refine st_pick_f h rfl rfl rfl rfl ?_; clear h a; intro a h
            refine gd_yes h rfl rfl rfl rfl rfl rfl ?_
            refine st_pick_f h rfl rfl rfl rfl ?_; clear h a; intro a h
            refine gd_yes h rfl rfl rfl rfl rfl rfl ?_
            refine st_pick_t h rfl rfl rfl rfl ?_; clear h a; intro a h
            refine st_pick_f h rfl rfl rfl rfl ?_; clear h a; intro a h
            exact wpList_nil (bool_end h rfl (by first | exact bt (Or.inl ‹l = []›) | exact bf (by rintro (h | ⟨h, _⟩); exact absurd h ‹¬ l = []›; exact absurd h ‹¬ m ≠ []›) | exact bt (.inr ⟨‹m ≠ []›, .inl (by omega)⟩) | exact bf (by rintro (h | ⟨_, h | h⟩); exact absurd h ‹¬ l = []›; omega; omega) | exact bb ⟨fun e => .inr ⟨‹m ≠ []›, .inr ⟨by omega, e⟩⟩, by rintro (h | ⟨_, h | h⟩); exact absurd h ‹¬ l = []›; omega; exact h.2⟩) (.cons rfl (.cons rfl .nil)))
      · clear h; intro g1 h
        refine gd_no h rfl rfl rfl rfl rfl rfl rfl rfl ?_; clear h a; intro a h
        refine gd_no h rfl rfl rfl rfl rfl rfl rfl rfl ?_; clear h a; intro a h
        refine gd_no h rfl rfl rfl rfl rfl rfl rfl rfl ?_; clear h a; intro a h
        refine gd_no h rfl rfl rfl rfl rfl rfl rfl rfl ?_; clear h a; intro a h
        refine gd_no h rfl rfl rfl rfl rfl rfl rfl rfl ?_; clear h a; intro a h
        refine gd_no h rfl rfl rfl rfl rfl rfl rfl rfl ?_; clear h a; intro a h
        refine gd_skip h rfl rfl rfl rfl rfl rfl rfl ?_; clear h a; intro a h
        refine gd_skip h rfl rfl rfl rfl rfl rfl rfl ?_; clear h a; intro a h
        refine gd_skip h rfl rfl rfl rfl rfl rfl rfl ?_; clear h a; intro a h
        refine gd_skip h rfl rfl rfl rfl rfl rfl rfl ?_; clear h a; intro a h
        refine gd_skip h rfl rfl rfl rfl rfl rfl rfl ?_; clear h a; intro a h
        refine gd_skip h rfl rfl rfl rfl rfl rfl rfl ?_; clear h a; intro a h
        refine gd_skip h rfl rfl rfl rfl rfl rfl rfl ?_; clear h a; intro a h
        refine gd_skip h rfl rfl rfl rfl rfl rfl rfl ?_; clear h a; intro a h
        refine gd_skip h rfl rfl rfl rfl rfl rfl rfl ?_; clear h a; intro a h
        refine gd_skip h rfl rfl rfl rfl rfl rfl rfl ?_; clear h a; intro a h
        refine gd_no h rfl rfl rfl rfl rfl rfl rfl rfl ?_; clear h a; intro a h
        refine gd_yes h rfl rfl rfl rfl rfl rfl ?_
        refine st_pick_f h rfl rfl rfl rfl ?_; clear h a; intro a h
        refine st_pick_f h rfl rfl rfl rfl ?_; clear h a; intro a h
        exact wpList_nil (bool_end h rfl (by first | exact bt (Or.inl ‹l = []›) | exact bf (by rintro (h | ⟨h, _⟩); exact absurd h ‹¬ l = []›; exact absurd h ‹¬ m ≠ []›) | exact bt (.inr ⟨‹m ≠ []›, .inl (by omega)⟩) | exact bf (by rintro (h | ⟨_, h | h⟩); exact absurd h ‹¬ l = []›; omega; omega) | exact bb ⟨fun e => .inr ⟨‹m ≠ []›, .inr ⟨by omega, e⟩⟩, by rintro (h | ⟨_, h | h⟩); exact absurd h ‹¬ l = []›; omega; exact h.2⟩) (.cons rfl (.cons rfl .nil)))
  · clear h a; intro a h
    refine (norm_then ?_)
    first | refine cond_dec h rfl (fun c0 => ?_) (fun c0 => ?_) | refine cond_ndec h rfl (fun c0 => ?_) (fun c0 => ?_) | refine cond_split h rfl (fun c0 => ?_) (fun c0 => ?_)
    · refine id ?_
      refine wp_seq ?_
      refine wp_region_lit ?_
      refine st_move h rfl rfl ?_; clear h a; intro a h
      refine st_assign h rfl rfl ?_; clear h a; intro a h
      replace h : Ag a 32 [(4, _)] := h.sub (.cons rfl .nil)
      refine wpList_nil (norm_then ?_)
      refine wp_ret (ret_then ?_)
      refine ret1 h Tryd.results56 rfl ?_
      exact ⟨_, rfl, by first | rw [betterS, if_pos c0] | rw [betterS, if_neg c0], rfl⟩
    · refine id ?_
      refine wp_skip (norm_then ?_)
      refine wp_seq ?_
      refine wp_region_lit ?_
      refine st_move h rfl rfl ?_; clear h a; intro a h
      refine st_assign h rfl rfl ?_; clear h a; intro a h
      replace h : Ag a 32 [(4, _)] := h.sub (.cons rfl .nil)
      refine wpList_nil (norm_then ?_)
      refine wp_ret ?_
      refine ret1 h Tryd.results56 rfl ?_
      exact ⟨_, rfl, by first | rw [betterS, if_pos c0] | rw [betterS, if_neg c0], rfl⟩
theorem cut_ok (A : Option Addr) (m c : Nat) (w0 : World) (hc : m ≤ c) : Rets Tryd.prog 50 #[.slice A m c] w0 fun v w' => v = .slice A (min m 17) c ∧ w0 = w' := by
  refine enter [(0, .slice A m c)] Tryd.func50 rfl Tryd.ntmps50 rfl (.cons rfl .nil) ?_
  intro a h
  refine wp_seq ?_
  refine wp_region_lit ?_
  refine st_assign h rfl rfl ?_; clear h a; intro a h
  replace h : Ag a 8 [(0, _)] := h.sub (.cons rfl .nil)
  refine wpList_nil (norm_then ?_)
  refine wp_seq ?_
  refine wp_region_lit ?_
  refine st_move h rfl rfl ?_; clear h a; intro a h
  refine st_move h rfl rfl ?_; clear h a; intro a h
  refine st_lenS h rfl Tryd.underlying22 rfl ?_; clear h a; intro a h
  refine st_min h rfl rfl rfl ?_; clear h a; intro a h
  refine st_sl_h (p := min m 17) h rfl rfl el22 (by omega) (by omega) (by omega) rfl ?_; clear h a; intro a h
  refine st_assign h rfl rfl ?_; clear h a; intro a h
  replace h : Ag a 8 [(2, _)] := h.sub (.cons rfl .nil)
  refine wpList_nil (norm_then ?_)
  refine wp_ret ?_
  refine ret1 h Tryd.results50 rfl ?_
  exact ⟨_, rfl, rfl, rfl⟩
theorem clip_ok (A : Option Addr) (m c : Nat) (w0 : World) (hc : m ≤ c) : Rets Tryd.prog 26 #[.slice A m c] w0 fun v w' => v = .slice A m m ∧ w0 = w' := by
  refine enter [(0, .slice A m c)] Tryd.func26 rfl Tryd.ntmps26 rfl (.cons rfl .nil) ?_
  intro a h
  refine wp_seq ?_
  refine wp_region_lit ?_
  refine st_assign h rfl rfl ?_; clear h a; intro a h
  replace h : Ag a 9 [(0, _)] := h.sub (.cons rfl .nil)
  refine wpList_nil (norm_then ?_)
  refine wp_seq ?_
  refine wp_region_lit ?_
  refine st_move h rfl rfl ?_; clear h a; intro a h
  refine st_move h rfl rfl ?_; clear h a; intro a h
  refine st_lenS h rfl Tryd.underlying22 rfl ?_; clear h a; intro a h
  refine st_move h rfl rfl ?_; clear h a; intro a h
  refine st_lenS h rfl Tryd.underlying22 rfl ?_; clear h a; intro a h
  refine st_sl_hm h rfl rfl rfl el22 (by omega) (by omega) (by omega) rfl rfl rfl ?_; clear h a; intro a h
  refine st_assign h rfl rfl ?_; clear h a; intro a h
  replace h : Ag a 9 [(2, _)] := h.sub (.cons rfl .nil)
  refine wpList_nil (norm_then ?_)
  refine wp_ret ?_
  refine ret1 h Tryd.results26 rfl ?_
  exact ⟨_, rfl, rfl, rfl⟩
end Go.Proofs.YtbbnampdgefljaaDoor
