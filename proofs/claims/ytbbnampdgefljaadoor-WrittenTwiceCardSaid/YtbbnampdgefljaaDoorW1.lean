/- Walks. -/
import Derived.Test.YtbbnampdgefljaaDoorRows
import Derived.Test.YtbbnampdgefljaaDoorFacts
import Derived.Test.YtbbnampdgefljaaDoorXMap
set_option linter.unusedVariables false
set_option linter.unusedSimpArgs false
namespace Go.Proofs.YtbbnampdgefljaaDoor
open Go.Lw Go.G14
theorem digit_ok (n : Int) (w0 : World) (h0 : 0 ≤ n) (h1 : n ≤ 9) : Rets Tryd.prog 65 #[.int .i64 n] w0 fun v w' => v = .int .u8 ((dg n).toNat : Int) ∧ w0 = w' := by
  refine enter [(0, .int .i64 n)] Tryd.func65 rfl Tryd.ntmps65 rfl (.cons rfl .nil) ?_
  intro a h
  refine wp_seq ?_
  refine wp_region_lit ?_
  refine st_assign h rfl rfl ?_; clear h a; intro a h
  replace h : Ag a 6 [(0, _)] := h.sub (.cons rfl .nil)
  refine wpList_nil (norm_then ?_)
  refine wp_seq ?_
  refine wp_region_lit ?_
  refine st_move h rfl rfl ?_; clear h a; intro a h
  refine st_add h rfl rfl (by first | exact IntWalk.i64_in _ (by omega) | rfl) rfl ?_; clear h a; intro a h
  refine st_conv h rfl (by rw [Tryd.underlying3]; rfl) Tryd.underlying5 (by first | exact IntWalk.u8_in _ (by omega) | rfl) rfl ?_; clear h a; intro a h
  refine st_assign h rfl rfl ?_; clear h a; intro a h
  replace h : Ag a 6 [(2, _)] := h.sub (.cons rfl .nil)
  refine wpList_nil (norm_then ?_)
  refine wp_ret ?_
  refine ret1 h Tryd.results65 rfl ?_
  exact ⟨_, rfl, by rw [dg_val n h0 h1], rfl⟩
theorem put_ok (l m : List UInt8) (x : Value) (w0 : World) (hx : Sl Enc.b w0 x m) (hb : l.length + m.length ≤ 9223372036854775807) : Rets Tryd.prog 64 #[S l, x] w0 fun v w' => v = S (l ++ m) ∧ w0 = w' := by
  refine enter [(0, S l), (1, x)] Tryd.func64 rfl Tryd.ntmps64 rfl (.cons rfl (.cons rfl .nil)) ?_
  intro a h
  refine wp_seq ?_
  refine wp_region_lit ?_
  refine st_assign h rfl rfl ?_; clear h a; intro a h
  replace h : Ag a 9 [(0, _), (1, _)] := h.sub (.cons rfl (.cons rfl .nil))
  refine wpList_nil (norm_then ?_)
  refine wp_seq ?_
  refine wp_region_lit ?_
  refine st_move h rfl rfl ?_; clear h a; intro a h
  refine st_move h rfl rfl ?_; clear h a; intro a h
  refine st_b2s h rfl (by assumption) el58 Tryd.underlying5 Tryd.underlying9 rfl ?_; clear h a; intro a h
  refine st_adds h rfl rfl (by exact hb) rfl ?_; clear h a; intro a h
  refine st_assign h rfl rfl ?_; clear h a; intro a h
  replace h : Ag a 9 [(4, _)] := h.sub (.cons rfl .nil)
  refine wpList_nil (norm_then ?_)
  refine wp_ret ?_
  refine ret1 h Tryd.results64 rfl ?_
  exact ⟨_, rfl, rfl, rfl⟩
theorem check_ok (s : Stitch) (w0 : World) : Rets Tryd.prog 30 #[stV s] w0 fun v w' => v = .int .i64 (checkS s) ∧ Fr [] w0 w' := by
  refine enter [(0, stV s)] Tryd.func30 rfl Tryd.ntmps30 rfl (.cons rfl .nil) ?_
  have hf := Fr.refl [] w0
  intro a h
  refine wp_seq ?_
  refine wp_region_lit ?_
  refine st_box h rfl rfl rfl ?_; clear h a; intro w1 hb1 hq hz a h
  obtain ⟨g_1, hg⟩ : ∃ g, g = w0.heap.size := ⟨_, rfl⟩; rw [← hg] at hb1 h hz
  have hl1 : w0.heap.size ≤ g_1 := by have := hf.size; omega
  replace hf := hf.next hq
  clear hq hz hg
  refine st_assign h rfl rfl ?_; clear h a; intro a h
  replace h : Ag a 57 [(1, _)] := h.sub (.cons rfl .nil)
  refine wpList_nil (norm_then ?_)
  refine wp_seq ?_
  refine wp_seq ?_
  refine region_bool (r := 20) (L' := [(1, _)]) (s.k < 1 ∨ 8 < s.k ∨ s.y < 1 ∨ 6 < s.y) h (.cons rfl .nil) ?_ ?_
  · refine id ?_
    refine st_fieldAddr h rfl fa36_0 rfl ?_; clear h a; intro a h
    refine st_loadB h rfl hb1 rfl na34 rfl ?_; clear h a; intro a h
    refine st_lt h rfl rfl rfl ?_; clear h a; intro a h
    refine st_move h rfl rfl ?_; clear h a; intro a h
    first | refine guard_dec (D := 6) h rfl ?_ ?_ | refine guard_ndec (D := 6) h rfl ?_ ?_ | refine guard_any (D := 6) h rfl ?_ ?_
    · clear h; intro g0 h
      refine gd_no h rfl rfl rfl rfl rfl rfl rfl rfl ?_; clear h a; intro a h
      refine gd_no h rfl rfl rfl rfl rfl rfl rfl rfl ?_; clear h a; intro a h
      refine gd_no h rfl rfl rfl rfl rfl rfl rfl rfl ?_; clear h a; intro a h
      refine st_pick_t h rfl rfl rfl rfl ?_; clear h a; intro a h
      refine st_move h rfl rfl ?_; clear h a; intro a h
      refine gd_no h rfl rfl rfl rfl rfl rfl rfl rfl ?_; clear h a; intro a h
      refine gd_no h rfl rfl rfl rfl rfl rfl rfl rfl ?_; clear h a; intro a h
      refine gd_no h rfl rfl rfl rfl rfl rfl rfl rfl ?_; clear h a; intro a h
      refine st_pick_t h rfl rfl rfl rfl ?_; clear h a; intro a h
      refine st_move h rfl rfl ?_; clear h a; intro a h
      refine gd_no h rfl rfl rfl rfl rfl rfl rfl rfl ?_; clear h a; intro a h
      refine gd_no h rfl rfl rfl rfl rfl rfl rfl rfl ?_; clear h a; intro a h
      refine gd_no h rfl rfl rfl rfl rfl rfl rfl rfl ?_; clear h a; intro a h
      refine st_pick_t h rfl rfl rfl rfl ?_; clear h a; intro a h
      exact wpList_nil (bool_end h rfl (by first | exact bt (by omega) | exact bf (by omega) | exact bi (by omega) | exact bn (by omega)) (.cons rfl .nil))
    · clear h; intro g0 h
      refine gd_yes h rfl rfl rfl rfl rfl rfl ?_
      refine st_fieldAddr h rfl fa36_0 rfl ?_; clear h a; intro a h
      refine gd_yes h rfl rfl rfl rfl rfl rfl ?_
      refine st_loadB h rfl hb1 rfl na34 rfl ?_; clear h a; intro a h
      refine gd_yes h rfl rfl rfl rfl rfl rfl ?_
      refine st_gt h rfl rfl rfl ?_; clear h a; intro a h
      refine st_pick_f h rfl rfl rfl rfl ?_; clear h a; intro a h
      refine st_move h rfl rfl ?_; clear h a; intro a h
      first | refine guard_dec (D := 11) h rfl ?_ ?_ | refine guard_ndec (D := 11) h rfl ?_ ?_ | refine guard_any (D := 11) h rfl ?_ ?_
      · clear h; intro g1 h
        refine gd_no h rfl rfl rfl rfl rfl rfl rfl rfl ?_; clear h a; intro a h
        refine gd_no h rfl rfl rfl rfl rfl rfl rfl rfl ?_; clear h a; intro a h
        refine gd_no h rfl rfl rfl rfl rfl rfl rfl rfl ?_; clear h a; intro a h
        refine st_pick_t h rfl rfl rfl rfl ?_; clear h a; intro a h
        refine st_move h rfl rfl ?_; clear h a; intro a h
        refine gd_no h rfl rfl rfl rfl rfl rfl rfl rfl ?_; clear h a; intro a h
        refine gd_no h rfl rfl rfl rfl rfl rfl rfl rfl ?_; clear h a; intro a h
        refine gd_no h rfl rfl rfl rfl rfl rfl rfl rfl ?_; clear h a; intro a h
        refine st_pick_t h rfl rfl rfl rfl ?_; clear h a; intro a h
        exact wpList_nil (bool_end h rfl (by first | exact bt (by omega) | exact bf (by omega) | exact bi (by omega) | exact bn (by omega)) (.cons rfl .nil))
      · clear h; intro g1 h
        refine gd_yes h rfl rfl rfl rfl rfl rfl ?_
        refine st_fieldAddr h rfl fa36_1 rfl ?_; clear h a; intro a h
        refine gd_yes h rfl rfl rfl rfl rfl rfl ?_
        refine st_loadB h rfl hb1 rfl na5 rfl ?_; clear h a; intro a h
        refine gd_yes h rfl rfl rfl rfl rfl rfl ?_
        refine st_lt h rfl rfl rfl ?_; clear h a; intro a h
        refine st_pick_f h rfl rfl rfl rfl ?_; clear h a; intro a h
        refine st_move h rfl rfl ?_; clear h a; intro a h
        first | refine guard_dec (D := 16) h rfl ?_ ?_ | refine guard_ndec (D := 16) h rfl ?_ ?_ | refine guard_any (D := 16) h rfl ?_ ?_
        · clear h; intro g2 h
          refine gd_no h rfl rfl rfl rfl rfl rfl rfl rfl ?_; clear h a; intro a h
          refine gd_no h rfl rfl rfl rfl rfl rfl rfl rfl ?_; clear h a; intro a h
          refine gd_no h rfl rfl rfl rfl rfl rfl rfl rfl ?_; clear h a; intro a h
          refine st_pick_t h rfl rfl rfl rfl ?_; clear h a; intro a h
          exact wpList_nil (bool_end h rfl (by first | exact bt (by omega) | exact bf (by omega) | exact bi (by omega) | exact bn (by omega)) (.cons rfl .nil))
        · clear h; intro g2 h
          refine gd_yes h rfl rfl rfl rfl rfl rfl ?_
          refine st_fieldAddr h rfl fa36_1 rfl ?_; clear h a; intro a h
          refine gd_yes h rfl rfl rfl rfl rfl rfl ?_
          refine st_loadB h rfl hb1 rfl na5 rfl ?_; clear h a; intro a h
          refine gd_yes h rfl rfl rfl rfl rfl rfl ?_
          refine st_gt h rfl rfl rfl ?_; clear h a; intro a h
          refine st_pick_f h rfl rfl rfl rfl ?_; clear h a; intro a h
          exact wpList_nil (bool_end h rfl (by first | exact bt (by omega) | exact bf (by omega) | exact bi (by omega) | exact bn (by omega)) (.cons rfl .nil))
  · clear h a; intro a h
    refine (norm_then ?_)
    first | refine cond_dec h rfl (fun c0 => ?_) (fun c0 => ?_) | refine cond_ndec h rfl (fun c0 => ?_) (fun c0 => ?_) | refine cond_split h rfl (fun c0 => ?_) (fun c0 => ?_)
    · refine id ?_
      refine wp_seq ?_
      refine wp_region_lit ?_
      refine st_assign h rfl rfl ?_; clear h a; intro a h
      replace h : Ag a 57 [(2, _)] := h.sub (.cons rfl .nil)
      refine wpList_nil (norm_then ?_)
      refine wp_ret (ret_then ?_)
      refine ret1 h Tryd.results30 rfl ?_
      exact ⟨_, rfl, by unfold checkS; (repeat' split) <;> first | rfl | (exfalso; first | omega | (simp_all; done) | (simp_all; omega)), hf⟩
    · refine id ?_
      refine wp_skip (norm_then ?_)
      refine wp_seq ?_
      refine wp_seq ?_
      refine wp_region_lit ?_
      refine st_fieldAddr h rfl fa36_0 rfl ?_; clear h a; intro a h
      refine st_loadB h rfl hb1 rfl na34 rfl ?_; clear h a; intro a h
      refine st_ne h rfl rfl rfl ?_; clear h a; intro a h
      replace h : Ag a 57 [(1, _), (23, _)] := h.sub (.cons rfl (.cons rfl .nil))
      refine wpList_nil (norm_then ?_)
      first | refine cond_dec h rfl (fun c1 => ?_) (fun c1 => ?_) | refine cond_ndec h rfl (fun c1 => ?_) (fun c1 => ?_) | refine cond_split h rfl (fun c1 => ?_) (fun c1 => ?_)
      · refine id ?_
        refine wp_seq ?_
        refine wp_seq ?_
        refine region_bool (r := 35) (L' := []) (s.a ≠ 0 ∨ s.b ≠ 0 ∨ s.f = true) h .nil ?_ ?_
        · refine id ?_
          refine st_fieldAddr h rfl fa36_2 rfl ?_; clear h a; intro a h
          refine st_loadB h rfl hb1 rfl na3 rfl ?_; clear h a; intro a h
          refine st_ne h rfl rfl rfl ?_; clear h a; intro a h
          refine st_move h rfl rfl ?_; clear h a; intro a h
          first | refine guard_dec (D := 27) h rfl ?_ ?_ | refine guard_ndec (D := 27) h rfl ?_ ?_ | refine guard_any (D := 27) h rfl ?_ ?_
          · clear h; intro g3 h
            refine gd_no h rfl rfl rfl rfl rfl rfl rfl rfl ?_; clear h a; intro a h
            refine gd_no h rfl rfl rfl rfl rfl rfl rfl rfl ?_; clear h a; intro a h
            refine gd_no h rfl rfl rfl rfl rfl rfl rfl rfl ?_; clear h a; intro a h
            refine st_pick_t h rfl rfl rfl rfl ?_; clear h a; intro a h
            refine st_move h rfl rfl ?_; clear h a; intro a h
            refine gd_no h rfl rfl rfl rfl rfl rfl rfl rfl ?_; clear h a; intro a h
            refine gd_no h rfl rfl rfl rfl rfl rfl rfl rfl ?_; clear h a; intro a h
            refine st_pick_t h rfl rfl rfl rfl ?_; clear h a; intro a h
            exact wpList_nil (bool_end h rfl (by simp_all) .nil)
          · clear h; intro g3 h
            refine gd_yes h rfl rfl rfl rfl rfl rfl ?_
            refine st_fieldAddr h rfl fa36_3 rfl ?_; clear h a; intro a h
            refine gd_yes h rfl rfl rfl rfl rfl rfl ?_
            refine st_loadB h rfl hb1 rfl na3 rfl ?_; clear h a; intro a h
            refine gd_yes h rfl rfl rfl rfl rfl rfl ?_
            refine st_ne h rfl rfl rfl ?_; clear h a; intro a h
            refine st_pick_f h rfl rfl rfl rfl ?_; clear h a; intro a h
            refine st_move h rfl rfl ?_; clear h a; intro a h
            first | refine guard_dec (D := 32) h rfl ?_ ?_ | refine guard_ndec (D := 32) h rfl ?_ ?_ | refine guard_any (D := 32) h rfl ?_ ?_
            · clear h; intro g4 h
              refine gd_no h rfl rfl rfl rfl rfl rfl rfl rfl ?_; clear h a; intro a h
              refine gd_no h rfl rfl rfl rfl rfl rfl rfl rfl ?_; clear h a; intro a h
              refine st_pick_t h rfl rfl rfl rfl ?_; clear h a; intro a h
              exact wpList_nil (bool_end h rfl (by simp_all) .nil)
            · clear h; intro g4 h
              refine gd_yes h rfl rfl rfl rfl rfl rfl ?_
              refine st_fieldAddr h rfl fa36_4 rfl ?_; clear h a; intro a h
              refine gd_yes h rfl rfl rfl rfl rfl rfl ?_
              refine st_loadB h rfl hb1 rfl na4 rfl ?_; clear h a; intro a h
              refine st_pick_f h rfl rfl rfl rfl ?_; clear h a; intro a h
              exact wpList_nil (bool_end h rfl (by simp_all) .nil)
        · clear h a; intro a h
          refine (norm_then ?_)
          first | refine cond_dec h rfl (fun c2 => ?_) (fun c2 => ?_) | refine cond_ndec h rfl (fun c2 => ?_) (fun c2 => ?_) | refine cond_split h rfl (fun c2 => ?_) (fun c2 => ?_)
          · refine id ?_
            refine wp_seq ?_
            refine wp_region_lit ?_
            refine st_assign h rfl rfl ?_; clear h a; intro a h
            replace h : Ag a 57 [(2, _)] := h.sub (.cons rfl .nil)
            refine wpList_nil (norm_then ?_)
            refine wp_ret (ret_then (ret_then ?_))
            refine ret1 h Tryd.results30 rfl ?_
            exact ⟨_, rfl, by unfold checkS; (repeat' split) <;> first | rfl | (exfalso; first | omega | (simp_all; done) | (simp_all; omega)), hf⟩
          · refine id ?_
            refine wp_skip (norm_then ?_)
            refine wp_seq ?_
            refine wp_region_lit ?_
            refine st_assign h rfl rfl ?_; clear h a; intro a h
            replace h : Ag a 57 [(2, _)] := h.sub (.cons rfl .nil)
            refine wpList_nil (norm_then ?_)
            refine wp_ret (ret_then ?_)
            refine ret1 h Tryd.results30 rfl ?_
            exact ⟨_, rfl, by unfold checkS; (repeat' split) <;> first | rfl | (exfalso; first | omega | (simp_all; done) | (simp_all; omega)), hf⟩
      · refine id ?_
        refine wp_skip (norm_then ?_)
        refine wp_seq ?_
        refine wp_seq ?_
        refine region_bool (r := 56) (L' := []) (s.a < 1 ∨ 4 < s.a ∨ s.b < 1 ∨ 4 - s.a < s.b) h .nil ?_ ?_
        · refine id ?_
          refine st_fieldAddr h rfl fa36_2 rfl ?_; clear h a; intro a h
          refine st_loadB h rfl hb1 rfl na3 rfl ?_; clear h a; intro a h
          refine st_lt h rfl rfl rfl ?_; clear h a; intro a h
          refine st_move h rfl rfl ?_; clear h a; intro a h
          first | refine guard_dec (D := 39) h rfl ?_ ?_ | refine guard_ndec (D := 39) h rfl ?_ ?_ | refine guard_any (D := 39) h rfl ?_ ?_
          · clear h; intro g5 h
            refine gd_no h rfl rfl rfl rfl rfl rfl rfl rfl ?_; clear h a; intro a h
            refine gd_no h rfl rfl rfl rfl rfl rfl rfl rfl ?_; clear h a; intro a h
            refine gd_no h rfl rfl rfl rfl rfl rfl rfl rfl ?_; clear h a; intro a h
            refine st_pick_t h rfl rfl rfl rfl ?_; clear h a; intro a h
            refine st_move h rfl rfl ?_; clear h a; intro a h
            refine gd_no h rfl rfl rfl rfl rfl rfl rfl rfl ?_; clear h a; intro a h
            refine gd_no h rfl rfl rfl rfl rfl rfl rfl rfl ?_; clear h a; intro a h
            refine gd_no h rfl rfl rfl rfl rfl rfl rfl rfl ?_; clear h a; intro a h
            refine st_pick_t h rfl rfl rfl rfl ?_; clear h a; intro a h
            refine st_move h rfl rfl ?_; clear h a; intro a h
            refine gd_no h rfl rfl rfl rfl rfl rfl rfl rfl ?_; clear h a; intro a h
            refine gd_no h rfl rfl rfl rfl rfl rfl rfl rfl ?_; clear h a; intro a h
            refine gd_no h rfl rfl rfl rfl rfl rfl rfl rfl ?_; clear h a; intro a h
            refine gd_no h rfl rfl rfl rfl rfl rfl rfl rfl ?_; clear h a; intro a h
            refine gd_no h rfl rfl rfl rfl rfl rfl rfl rfl ?_; clear h a; intro a h
            refine gd_no h rfl rfl rfl rfl rfl rfl rfl rfl ?_; clear h a; intro a h
            refine st_pick_t h rfl rfl rfl rfl ?_; clear h a; intro a h
            exact wpList_nil (bool_end h rfl (by first | exact bt (by omega) | exact bf (by omega) | exact bi (by omega) | exact bn (by omega)) .nil)
          · clear h; intro g5 h
            refine gd_yes h rfl rfl rfl rfl rfl rfl ?_
            refine st_fieldAddr h rfl fa36_2 rfl ?_; clear h a; intro a h
            refine gd_yes h rfl rfl rfl rfl rfl rfl ?_
            refine st_loadB h rfl hb1 rfl na3 rfl ?_; clear h a; intro a h
            refine gd_yes h rfl rfl rfl rfl rfl rfl ?_
            refine st_gt h rfl rfl rfl ?_; clear h a; intro a h
            refine st_pick_f h rfl rfl rfl rfl ?_; clear h a; intro a h
            refine st_move h rfl rfl ?_; clear h a; intro a h
            first | refine guard_dec (D := 44) h rfl ?_ ?_ | refine guard_ndec (D := 44) h rfl ?_ ?_ | refine guard_any (D := 44) h rfl ?_ ?_
            · clear h; intro g6 h
              refine gd_no h rfl rfl rfl rfl rfl rfl rfl rfl ?_; clear h a; intro a h
              refine gd_no h rfl rfl rfl rfl rfl rfl rfl rfl ?_; clear h a; intro a h
              refine gd_no h rfl rfl rfl rfl rfl rfl rfl rfl ?_; clear h a; intro a h
              refine st_pick_t h rfl rfl rfl rfl ?_; clear h a; intro a h
              refine st_move h rfl rfl ?_; clear h a; intro a h
              refine gd_no h rfl rfl rfl rfl rfl rfl rfl rfl ?_; clear h a; intro a h
              refine gd_no h rfl rfl rfl rfl rfl rfl rfl rfl ?_; clear h a; intro a h
              refine gd_no h rfl rfl rfl rfl rfl rfl rfl rfl ?_; clear h a; intro a h
              refine gd_no h rfl rfl rfl rfl rfl rfl rfl rfl ?_; clear h a; intro a h
              refine gd_no h rfl rfl rfl rfl rfl rfl rfl rfl ?_; clear h a; intro a h
              refine gd_no h rfl rfl rfl rfl rfl rfl rfl rfl ?_; clear h a; intro a h
              refine st_pick_t h rfl rfl rfl rfl ?_; clear h a; intro a h
              exact wpList_nil (bool_end h rfl (by first | exact bt (by omega) | exact bf (by omega) | exact bi (by omega) | exact bn (by omega)) .nil)
            · clear h; intro g6 h
              refine gd_yes h rfl rfl rfl rfl rfl rfl ?_
              refine st_fieldAddr h rfl fa36_3 rfl ?_; clear h a; intro a h
              refine gd_yes h rfl rfl rfl rfl rfl rfl ?_
              refine st_loadB h rfl hb1 rfl na3 rfl ?_; clear h a; intro a h
              refine gd_yes h rfl rfl rfl rfl rfl rfl ?_
              refine st_lt h rfl rfl rfl ?_; clear h a; intro a h
              refine st_pick_f h rfl rfl rfl rfl ?_; clear h a; intro a h
              refine st_move h rfl rfl ?_; clear h a; intro a h
              first | refine guard_dec (D := 49) h rfl ?_ ?_ | refine guard_ndec (D := 49) h rfl ?_ ?_ | refine guard_any (D := 49) h rfl ?_ ?_
              · clear h; intro g7 h
                refine gd_no h rfl rfl rfl rfl rfl rfl rfl rfl ?_; clear h a; intro a h
                refine gd_no h rfl rfl rfl rfl rfl rfl rfl rfl ?_; clear h a; intro a h
                refine gd_no h rfl rfl rfl rfl rfl rfl rfl rfl ?_; clear h a; intro a h
                refine gd_no h rfl rfl rfl rfl rfl rfl rfl rfl ?_; clear h a; intro a h
                refine gd_no h rfl rfl rfl rfl rfl rfl rfl rfl ?_; clear h a; intro a h
                refine gd_no h rfl rfl rfl rfl rfl rfl rfl rfl ?_; clear h a; intro a h
                refine st_pick_t h rfl rfl rfl rfl ?_; clear h a; intro a h
                exact wpList_nil (bool_end h rfl (by first | exact bt (by omega) | exact bf (by omega) | exact bi (by omega) | exact bn (by omega)) .nil)
              · clear h; intro g7 h
                refine gd_yes h rfl rfl rfl rfl rfl rfl ?_
                refine st_fieldAddr h rfl fa36_3 rfl ?_; clear h a; intro a h
                refine gd_yes h rfl rfl rfl rfl rfl rfl ?_
                refine st_loadB h rfl hb1 rfl na3 rfl ?_; clear h a; intro a h
                refine gd_yes h rfl rfl rfl rfl rfl rfl ?_
                refine st_fieldAddr h rfl fa36_2 rfl ?_; clear h a; intro a h
                refine gd_yes h rfl rfl rfl rfl rfl rfl ?_
                refine st_loadB h rfl hb1 rfl na3 rfl ?_; clear h a; intro a h
                refine gd_yes h rfl rfl rfl rfl rfl rfl ?_
                refine st_sub h rfl rfl (by first | exact IntWalk.i64_in _ (by omega) | rfl) rfl ?_; clear h a; intro a h
                refine gd_yes h rfl rfl rfl rfl rfl rfl ?_
                refine st_gt h rfl rfl rfl ?_; clear h a; intro a h
                refine st_pick_f h rfl rfl rfl rfl ?_; clear h a; intro a h
                exact wpList_nil (bool_end h rfl (by first | exact bt (by omega) | exact bf (by omega) | exact bi (by omega) | exact bn (by omega)) .nil)
        · clear h a; intro a h
          refine (norm_then ?_)
          first | refine cond_dec h rfl (fun c3 => ?_) (fun c3 => ?_) | refine cond_ndec h rfl (fun c3 => ?_) (fun c3 => ?_) | refine cond_split h rfl (fun c3 => ?_) (fun c3 => ?_)
          · refine id ?_
            refine wp_seq ?_
            refine wp_region_lit ?_
            refine st_assign h rfl rfl ?_; clear h a; intro a h
            replace h : Ag a 57 [(2, _)] := h.sub (.cons rfl .nil)
            refine wpList_nil (norm_then ?_)
            refine wp_ret (ret_then ?_)
            refine ret1 h Tryd.results30 rfl ?_
            exact ⟨_, rfl, by unfold checkS; (repeat' split) <;> first | rfl | (exfalso; first | omega | (simp_all; done) | (simp_all; omega)), hf⟩
          · refine id ?_
            refine wp_skip (norm_then ?_)
            refine wp_seq ?_
            refine wp_region_lit ?_
            refine st_assign h rfl rfl ?_; clear h a; intro a h
            replace h : Ag a 57 [(2, _)] := h.sub (.cons rfl .nil)
            refine wpList_nil (norm_then ?_)
            refine wp_ret ?_
            refine ret1 h Tryd.results30 rfl ?_
            exact ⟨_, rfl, by unfold checkS; (repeat' split) <;> first | rfl | (exfalso; first | omega | (simp_all; done) | (simp_all; omega)), hf⟩
theorem text_ok (s : Stitch) (w0 : World) (hy : Sym w0) : Rets Tryd.prog 54 #[stV s] w0 fun v w' => v = S (textS s) ∧ Fr [] w0 w' := by
  refine enter [(0, stV s)] Tryd.func54 rfl Tryd.ntmps54 rfl (.cons rfl .nil) ?_
  have hf := Fr.refl [] w0
  intro a h
  refine wp_seq ?_
  refine wp_region_lit ?_
  refine st_box h rfl rfl rfl ?_; clear h a; intro w1 hb1 hq hz a h
  obtain ⟨g_1, hg⟩ : ∃ g, g = w0.heap.size := ⟨_, rfl⟩; rw [← hg] at hb1 h hz
  have hl1 : w0.heap.size ≤ g_1 := by have := hf.size; omega
  replace hf := hf.next hq
  replace hy := hy.ext hq
  clear hq hz hg
  refine st_assign h rfl rfl ?_; clear h a; intro a h
  replace h : Ag a 41 [(1, _)] := h.sub (.cons rfl .nil)
  refine wpList_nil (norm_then ?_)
  refine wp_seq ?_
  refine wp_seq ?_
  refine wp_region_lit ?_
  refine st_loadBA h rfl hb1 ag36 rfl ?_; clear h a; intro a h
  refine st_call h (evs_cons rfl evs_nil) co30 (check_ok _ _) rfl ?_; clear h a; rintro _ w2 ⟨rfl, hq⟩ a h
  replace hf := hf.next hq
  replace hy := hy.ext hq
  replace hb1 := hb1.ext hq
  clear hq
  refine st_ne h rfl rfl rfl ?_; clear h a; intro a h
  replace h : Ag a 41 [(1, _), (7, _)] := h.sub (.cons rfl (.cons rfl .nil))
  refine wpList_nil (norm_then ?_)
  first | refine cond_dec h rfl (fun c0 => ?_) (fun c0 => ?_) | refine cond_ndec h rfl (fun c0 => ?_) (fun c0 => ?_) | refine cond_split h rfl (fun c0 => ?_) (fun c0 => ?_)
  · refine id ?_
    refine wp_seq ?_
    refine wp_region_lit ?_
    refine st_assign h rfl rfl ?_; clear h a; intro a h
    replace h : Ag a 41 [(2, _)] := h.sub (.cons rfl .nil)
    refine wpList_nil (norm_then ?_)
    refine wp_ret (ret_then ?_)
    refine ret1 h Tryd.results54 rfl ?_
    exact ⟨_, rfl, by rw [textS, if_pos (by assumption)]; rfl, hf⟩
  · have hc : checkS s = 0 := by omega
    obtain ⟨k1, k8, y1, y6, kn, ky⟩ := check_rng hc
    refine wp_skip (norm_then ?_)
    refine wp_seq ?_
    refine wp_region_lit ?_
    refine st_fieldAddr h rfl fa36_0 rfl ?_; clear h a; intro a h
    refine st_loadB h rfl hb1 rfl na34 rfl ?_; clear h a; intro a h
    refine st_sub h rfl rfl (by first | exact IntWalk.u8_in _ (by omega) | rfl) rfl ?_; clear h a; intro a h
    refine st_idxA h rfl rfl Tryd.underlying94 sz5 (by omega) (by omega) rfl ?_; clear h a; intro a h
    refine st_load h rfl (hy.at _ (by omega)) na5 rfl ?_; clear h a; intro a h
    refine st_bslice ([symbols.getD (s.k - 1).toNat 0]) h (evs_cons rfl evs_nil) rfl rfl rfl el58 (by decide) rfl ?_; clear h a; intro g_13 w3 hg ho13 hq hz a h
    have hn_1_13 : g_1 < g_13 := by have := hb1.lt; omega
    have hl13 : w0.heap.size ≤ g_13 := by have := hf.size; omega
    replace hf := hf.next hq
    replace hy := hy.ext hq
    replace hb1 := hb1.ext hq
    clear hq hz hg
    refine st_call h (evs_cons rfl (evs_cons rfl evs_nil)) co64 (put_ok _ _ _ _ ho13.sl (by simp)) rfl ?_; clear h a; rintro _ _ ⟨rfl, rfl⟩ a h
    refine st_assign h rfl rfl ?_; clear h a; intro a h
    replace h : Ag a 41 [(1, _), (3, _)] := h.sub (.cons rfl (.cons rfl .nil))
    refine wpList_nil (norm_then ?_)
    refine wp_seq ?_
    refine wp_seq ?_
    refine wp_region_lit ?_
    refine st_fieldAddr h rfl fa36_0 rfl ?_; clear h a; intro a h
    refine st_loadB h rfl hb1 rfl na34 rfl ?_; clear h a; intro a h
    refine st_eq h rfl rfl rfl ?_; clear h a; intro a h
    replace h : Ag a 41 [(1, _), (3, _), (17, _)] := h.sub (.cons rfl (.cons rfl (.cons rfl .nil)))
    refine wpList_nil (norm_then ?_)
    first | refine cond_dec h rfl (fun c1 => ?_) (fun c1 => ?_) | refine cond_ndec h rfl (fun c1 => ?_) (fun c1 => ?_) | refine cond_split h rfl (fun c1 => ?_) (fun c1 => ?_)
    · refine id ?_
      refine wp_seq ?_
      refine wp_region_lit ?_
      refine st_assign h rfl rfl ?_; clear h a; intro a h
      replace h : Ag a 41 [(1, _), (3, _), (4, _)] := h.sub (.cons rfl (.cons rfl (.cons rfl .nil)))
      refine wpList_nil (norm_then ?_)
      refine wp_seq ?_
      refine wp_seq ?_
      refine wp_region_lit ?_
      refine st_fieldAddr h rfl fa36_4 rfl ?_; clear h a; intro a h
      refine st_loadB h rfl hb1 rfl na4 rfl ?_; clear h a; intro a h
      replace h : Ag a 41 [(1, _), (3, _), (4, _), (19, _)] := h.sub (.cons rfl (.cons rfl (.cons rfl (.cons rfl .nil))))
      refine wpList_nil (norm_then ?_)
      first | refine cond_dec h rfl (fun c2 => ?_) (fun c2 => ?_) | refine cond_ndec h rfl (fun c2 => ?_) (fun c2 => ?_) | refine cond_split h rfl (fun c2 => ?_) (fun c2 => ?_)
      · refine id ?_
        refine wp_region_lit ?_
        refine st_assign h rfl rfl ?_; clear h a; intro a h
        replace h : Ag a 41 [(1, _), (3, _), (4, _)] := h.sub (.cons rfl (.cons rfl (.cons rfl .nil)))
        refine wpList_nil (norm_then ?_)
        refine region_held (fun wb w' => Fr [] wb w') hmix ?_; intro w4 hq
        replace hf := hf.next hq
        replace hy := hy.ext hq
        replace hb1 := hb1.ext hq
        replace ho13 := ho13.ext hq
        clear hq; have hC : Fr [] w4 w4 := Fr.refl _ _
        have hy_b := hy
        have hb1_b := hb1
        have ho13_b := ho13
        refine hd_move 0 (by kernel_rfl) (by kernel_rfl) (by kernel_rfl) hC h rfl rfl rfl ?_; clear h a; intro a h
        refine hd_fieldAddr 1 (by kernel_rfl) (by kernel_rfl) (by kernel_rfl) hC h rfl fa36_2 rfl rfl ?_; clear h a; intro a h
        refine hd_loadB 2 (by kernel_rfl) (by kernel_rfl) (by kernel_rfl) hC h rfl (fun _ hw => hb1_b.ext hw) rfl na3 rfl rfl ?_; clear h a; intro a h
        refine hd_fieldAddr 4 (by kernel_rfl) (by kernel_rfl) (by kernel_rfl) hC h rfl fa36_3 rfl rfl ?_; clear h a; intro a h
        refine hd_loadB 5 (by kernel_rfl) (by kernel_rfl) (by kernel_rfl) hC h rfl (fun _ hw => hb1_b.ext hw) rfl na3 rfl rfl ?_; clear h a; intro a h
        refine hd_move 7 (by kernel_rfl) (by kernel_rfl) (by kernel_rfl) hC h rfl rfl rfl ?_; clear h a; intro a h
        refine hd_one 3 (by kernel_rfl) rfl ?_
        refine st_call h (evs_cons rfl evs_nil) co65 (digit_ok _ _ (by omega) (by omega)) rfl ?_; clear h a; rintro _ _ ⟨rfl, rfl⟩ a h
        refine hd_next hC ?_
        refine hd_one 6 (by kernel_rfl) rfl ?_
        refine st_call h (evs_cons rfl evs_nil) co65 (digit_ok _ _ (by omega) (by omega)) rfl ?_; clear h a; rintro _ _ ⟨rfl, rfl⟩ a h
        refine hd_next hC ?_
        refine hd_one 8 (by kernel_rfl) rfl ?_
        refine st_bslice ([dg s.a, dg s.b, if s.f then 70 else 66]) h (evs_cons rfl (evs_cons rfl (evs_cons rfl evs_nil))) rfl (by rw [c2]; rfl) rfl el58 (by decide) rfl ?_; clear h a; intro g_28 w5 hg ho28 hq hz a h
        have hn_1_28 : g_1 < g_28 := by have := hb1.lt; omega
        have hl28 : w0.heap.size ≤ g_28 := by have := hf.size; omega
        replace hf := hf.next hq
        replace hy := hy.ext hq
        replace hb1 := hb1.ext hq
        replace ho13 := ho13.ext hq
        replace hC := hC.next hq
        clear hq hz hg
        refine hd_next hC ?_
        refine hd_one 9 (by kernel_rfl) rfl ?_
        refine st_call h (evs_cons rfl (evs_cons rfl evs_nil)) co64 (put_ok _ _ _ _ ho28.sl (by simp)) rfl ?_; clear h a; rintro _ _ ⟨rfl, rfl⟩ a h
        refine hd_next hC ?_
        refine hd_one 10 (by kernel_rfl) rfl ?_
        refine st_assign h rfl rfl ?_; clear h a; intro a h
        refine hd_next hC ?_
        refine hd_end (by kernel_rfl) ?_
        clear hC hy_b hb1_b ho13_b
        replace h : Ag a 41 [(1, _), (3, _)] := h.sub (.cons rfl (.cons rfl .nil))
        refine (norm_then ?_)
        refine wp_seq ?_
        refine wp_seq ?_
        refine wp_region_lit ?_
        refine st_fieldAddr h rfl fa36_1 rfl ?_; clear h a; intro a h
        refine st_loadB h rfl hb1 rfl na5 rfl ?_; clear h a; intro a h
        refine st_ne h rfl rfl rfl ?_; clear h a; intro a h
        replace h : Ag a 41 [(1, _), (3, _), (32, _)] := h.sub (.cons rfl (.cons rfl (.cons rfl .nil)))
        refine wpList_nil (norm_then ?_)
        first | refine cond_dec h rfl (fun c3 => ?_) (fun c3 => ?_) | refine cond_ndec h rfl (fun c3 => ?_) (fun c3 => ?_) | refine cond_split h rfl (fun c3 => ?_) (fun c3 => ?_)
        · refine id ?_
          refine wp_region_lit ?_
          refine st_move h rfl rfl ?_; clear h a; intro a h
          refine st_fieldAddr h rfl fa36_1 rfl ?_; clear h a; intro a h
          refine st_loadB h rfl hb1 rfl na5 rfl ?_; clear h a; intro a h
          refine st_conv h rfl (by rw [Tryd.underlying5]; rfl) Tryd.underlying3 (by first | exact IntWalk.i64_in _ (by omega) | rfl) rfl ?_; clear h a; intro a h
          refine st_call h (evs_cons rfl evs_nil) co65 (digit_ok _ _ (by omega) (by omega)) rfl ?_; clear h a; rintro _ _ ⟨rfl, rfl⟩ a h
          refine st_bslice ([dg s.y]) h (evs_cons rfl evs_nil) rfl rfl rfl el58 (by decide) rfl ?_; clear h a; intro g_38 w6 hg ho38 hq hz a h
          have hn_1_38 : g_1 < g_38 := by have := hb1.lt; omega
          have hl38 : w0.heap.size ≤ g_38 := by have := hf.size; omega
          replace hf := hf.next hq
          replace hy := hy.ext hq
          replace hb1 := hb1.ext hq
          replace ho13 := ho13.ext hq
          replace ho28 := ho28.ext hq
          clear hq hz hg
          refine st_call h (evs_cons rfl (evs_cons rfl evs_nil)) co64 (put_ok _ _ _ _ ho38.sl (by simp)) rfl ?_; clear h a; rintro _ _ ⟨rfl, rfl⟩ a h
          refine st_assign h rfl rfl ?_; clear h a; intro a h
          replace h : Ag a 41 [(3, _)] := h.sub (.cons rfl .nil)
          refine wpList_nil (norm_then ?_)
          refine wp_seq ?_
          refine wp_region_lit ?_
          refine st_move h rfl rfl ?_; clear h a; intro a h
          refine st_assign h rfl rfl ?_; clear h a; intro a h
          replace h : Ag a 41 [(2, _)] := h.sub (.cons rfl .nil)
          refine wpList_nil (norm_then ?_)
          refine wp_ret ?_
          refine ret1 h Tryd.results54 rfl ?_
          exact ⟨_, rfl, by simp_all [textS], hf⟩
        · refine id ?_
          refine wp_skip (norm_then ?_)
          refine wp_seq ?_
          refine wp_region_lit ?_
          refine st_move h rfl rfl ?_; clear h a; intro a h
          refine st_assign h rfl rfl ?_; clear h a; intro a h
          replace h : Ag a 41 [(2, _)] := h.sub (.cons rfl .nil)
          refine wpList_nil (norm_then ?_)
          refine wp_ret ?_
          refine ret1 h Tryd.results54 rfl ?_
          exact ⟨_, rfl, by simp_all [textS], hf⟩
      · refine id ?_
        refine wp_skip (norm_then ?_)
        refine region_held (fun wb w' => Fr [] wb w') hmix ?_; intro w7 hq
        replace hf := hf.next hq
        replace hy := hy.ext hq
        replace hb1 := hb1.ext hq
        replace ho13 := ho13.ext hq
        clear hq; have hC : Fr [] w7 w7 := Fr.refl _ _
        have hy_b := hy
        have hb1_b := hb1
        have ho13_b := ho13
        refine hd_move 0 (by kernel_rfl) (by kernel_rfl) (by kernel_rfl) hC h rfl rfl rfl ?_; clear h a; intro a h
        refine hd_fieldAddr 1 (by kernel_rfl) (by kernel_rfl) (by kernel_rfl) hC h rfl fa36_2 rfl rfl ?_; clear h a; intro a h
        refine hd_loadB 2 (by kernel_rfl) (by kernel_rfl) (by kernel_rfl) hC h rfl (fun _ hw => hb1_b.ext hw) rfl na3 rfl rfl ?_; clear h a; intro a h
        refine hd_fieldAddr 4 (by kernel_rfl) (by kernel_rfl) (by kernel_rfl) hC h rfl fa36_3 rfl rfl ?_; clear h a; intro a h
        refine hd_loadB 5 (by kernel_rfl) (by kernel_rfl) (by kernel_rfl) hC h rfl (fun _ hw => hb1_b.ext hw) rfl na3 rfl rfl ?_; clear h a; intro a h
        refine hd_move 7 (by kernel_rfl) (by kernel_rfl) (by kernel_rfl) hC h rfl rfl rfl ?_; clear h a; intro a h
        refine hd_one 3 (by kernel_rfl) rfl ?_
        refine st_call h (evs_cons rfl evs_nil) co65 (digit_ok _ _ (by omega) (by omega)) rfl ?_; clear h a; rintro _ _ ⟨rfl, rfl⟩ a h
        refine hd_next hC ?_
        refine hd_one 6 (by kernel_rfl) rfl ?_
        refine st_call h (evs_cons rfl evs_nil) co65 (digit_ok _ _ (by omega) (by omega)) rfl ?_; clear h a; rintro _ _ ⟨rfl, rfl⟩ a h
        refine hd_next hC ?_
        refine hd_one 8 (by kernel_rfl) rfl ?_
        refine st_bslice ([dg s.a, dg s.b, if s.f then 70 else 66]) h (evs_cons rfl (evs_cons rfl (evs_cons rfl evs_nil))) rfl (by rw [c2]; rfl) rfl el58 (by decide) rfl ?_; clear h a; intro g_28 w8 hg ho28 hq hz a h
        have hn_1_28 : g_1 < g_28 := by have := hb1.lt; omega
        have hl28 : w0.heap.size ≤ g_28 := by have := hf.size; omega
        replace hf := hf.next hq
        replace hy := hy.ext hq
        replace hb1 := hb1.ext hq
        replace ho13 := ho13.ext hq
        replace hC := hC.next hq
        clear hq hz hg
        refine hd_next hC ?_
        refine hd_one 9 (by kernel_rfl) rfl ?_
        refine st_call h (evs_cons rfl (evs_cons rfl evs_nil)) co64 (put_ok _ _ _ _ ho28.sl (by simp)) rfl ?_; clear h a; rintro _ _ ⟨rfl, rfl⟩ a h
        refine hd_next hC ?_
        refine hd_one 10 (by kernel_rfl) rfl ?_
        refine st_assign h rfl rfl ?_; clear h a; intro a h
        refine hd_next hC ?_
        refine hd_end (by kernel_rfl) ?_
        clear hC hy_b hb1_b ho13_b
        replace h : Ag a 41 [(1, _), (3, _)] := h.sub (.cons rfl (.cons rfl .nil))
        refine (norm_then ?_)
        refine wp_seq ?_
        refine wp_seq ?_
        refine wp_region_lit ?_
        refine st_fieldAddr h rfl fa36_1 rfl ?_; clear h a; intro a h
        refine st_loadB h rfl hb1 rfl na5 rfl ?_; clear h a; intro a h
        refine st_ne h rfl rfl rfl ?_; clear h a; intro a h
        replace h : Ag a 41 [(1, _), (3, _), (32, _)] := h.sub (.cons rfl (.cons rfl (.cons rfl .nil)))
        refine wpList_nil (norm_then ?_)
        first | refine cond_dec h rfl (fun c3 => ?_) (fun c3 => ?_) | refine cond_ndec h rfl (fun c3 => ?_) (fun c3 => ?_) | refine cond_split h rfl (fun c3 => ?_) (fun c3 => ?_)
        · refine id ?_
          refine wp_region_lit ?_
          refine st_move h rfl rfl ?_; clear h a; intro a h
          refine st_fieldAddr h rfl fa36_1 rfl ?_; clear h a; intro a h
          refine st_loadB h rfl hb1 rfl na5 rfl ?_; clear h a; intro a h
          refine st_conv h rfl (by rw [Tryd.underlying5]; rfl) Tryd.underlying3 (by first | exact IntWalk.i64_in _ (by omega) | rfl) rfl ?_; clear h a; intro a h
          refine st_call h (evs_cons rfl evs_nil) co65 (digit_ok _ _ (by omega) (by omega)) rfl ?_; clear h a; rintro _ _ ⟨rfl, rfl⟩ a h
          refine st_bslice ([dg s.y]) h (evs_cons rfl evs_nil) rfl rfl rfl el58 (by decide) rfl ?_; clear h a; intro g_38 w9 hg ho38 hq hz a h
          have hn_1_38 : g_1 < g_38 := by have := hb1.lt; omega
          have hl38 : w0.heap.size ≤ g_38 := by have := hf.size; omega
          replace hf := hf.next hq
          replace hy := hy.ext hq
          replace hb1 := hb1.ext hq
          replace ho13 := ho13.ext hq
          replace ho28 := ho28.ext hq
          clear hq hz hg
          refine st_call h (evs_cons rfl (evs_cons rfl evs_nil)) co64 (put_ok _ _ _ _ ho38.sl (by simp)) rfl ?_; clear h a; rintro _ _ ⟨rfl, rfl⟩ a h
          refine st_assign h rfl rfl ?_; clear h a; intro a h
          replace h : Ag a 41 [(3, _)] := h.sub (.cons rfl .nil)
          refine wpList_nil (norm_then ?_)
          refine wp_seq ?_
          refine wp_region_lit ?_
          refine st_move h rfl rfl ?_; clear h a; intro a h
          refine st_assign h rfl rfl ?_; clear h a; intro a h
          replace h : Ag a 41 [(2, _)] := h.sub (.cons rfl .nil)
          refine wpList_nil (norm_then ?_)
          refine wp_ret ?_
          refine ret1 h Tryd.results54 rfl ?_
          exact ⟨_, rfl, by simp_all [textS], hf⟩
        · refine id ?_
          refine wp_skip (norm_then ?_)
          refine wp_seq ?_
          refine wp_region_lit ?_
          refine st_move h rfl rfl ?_; clear h a; intro a h
          refine st_assign h rfl rfl ?_; clear h a; intro a h
          replace h : Ag a 41 [(2, _)] := h.sub (.cons rfl .nil)
          refine wpList_nil (norm_then ?_)
          refine wp_ret ?_
          refine ret1 h Tryd.results54 rfl ?_
          exact ⟨_, rfl, by simp_all [textS], hf⟩
    · refine id ?_
      refine wp_skip (norm_then ?_)
      refine wp_seq ?_
      refine wp_seq ?_
      refine wp_region_lit ?_
      refine st_fieldAddr h rfl fa36_1 rfl ?_; clear h a; intro a h
      refine st_loadB h rfl hb1 rfl na5 rfl ?_; clear h a; intro a h
      refine st_ne h rfl rfl rfl ?_; clear h a; intro a h
      replace h : Ag a 41 [(1, _), (3, _), (32, _)] := h.sub (.cons rfl (.cons rfl (.cons rfl .nil)))
      refine wpList_nil (norm_then ?_)
      first | refine cond_dec h rfl (fun c3 => ?_) (fun c3 => ?_) | refine cond_ndec h rfl (fun c3 => ?_) (fun c3 => ?_) | refine cond_split h rfl (fun c3 => ?_) (fun c3 => ?_)
      · refine id ?_
        refine wp_region_lit ?_
        refine st_move h rfl rfl ?_; clear h a; intro a h
        refine st_fieldAddr h rfl fa36_1 rfl ?_; clear h a; intro a h
        refine st_loadB h rfl hb1 rfl na5 rfl ?_; clear h a; intro a h
        refine st_conv h rfl (by rw [Tryd.underlying5]; rfl) Tryd.underlying3 (by first | exact IntWalk.i64_in _ (by omega) | rfl) rfl ?_; clear h a; intro a h
        refine st_call h (evs_cons rfl evs_nil) co65 (digit_ok _ _ (by omega) (by omega)) rfl ?_; clear h a; rintro _ _ ⟨rfl, rfl⟩ a h
        refine st_bslice ([dg s.y]) h (evs_cons rfl evs_nil) rfl rfl rfl el58 (by decide) rfl ?_; clear h a; intro g_38 w10 hg ho38 hq hz a h
        have hn_1_38 : g_1 < g_38 := by have := hb1.lt; omega
        have hl38 : w0.heap.size ≤ g_38 := by have := hf.size; omega
        replace hf := hf.next hq
        replace hy := hy.ext hq
        replace hb1 := hb1.ext hq
        replace ho13 := ho13.ext hq
        clear hq hz hg
        refine st_call h (evs_cons rfl (evs_cons rfl evs_nil)) co64 (put_ok _ _ _ _ ho38.sl (by simp)) rfl ?_; clear h a; rintro _ _ ⟨rfl, rfl⟩ a h
        refine st_assign h rfl rfl ?_; clear h a; intro a h
        replace h : Ag a 41 [(3, _)] := h.sub (.cons rfl .nil)
        refine wpList_nil (norm_then ?_)
        refine wp_seq ?_
        refine wp_region_lit ?_
        refine st_move h rfl rfl ?_; clear h a; intro a h
        refine st_assign h rfl rfl ?_; clear h a; intro a h
        replace h : Ag a 41 [(2, _)] := h.sub (.cons rfl .nil)
        refine wpList_nil (norm_then ?_)
        refine wp_ret ?_
        refine ret1 h Tryd.results54 rfl ?_
        exact ⟨_, rfl, by simp_all [textS], hf⟩
      · refine id ?_
        refine wp_skip (norm_then ?_)
        refine wp_seq ?_
        refine wp_region_lit ?_
        refine st_move h rfl rfl ?_; clear h a; intro a h
        refine st_assign h rfl rfl ?_; clear h a; intro a h
        replace h : Ag a 41 [(2, _)] := h.sub (.cons rfl .nil)
        refine wpList_nil (norm_then ?_)
        refine wp_ret ?_
        refine ret1 h Tryd.results54 rfl ?_
        exact ⟨_, rfl, by simp_all [textS], hf⟩
end Go.Proofs.YtbbnampdgefljaaDoor
