/- Texts of the proof, joined: W1 W2 W3 W4 W5 W6 W7 -/
import Derived.Test.YtbbnampdgefljaaDoorRows
import Derived.Test.YtbbnampdgefljaaDoorH1
set_option linter.unusedVariables false
set_option linter.unusedSimpArgs false
namespace Go.Proofs.YtbbnampdgefljaaDoor
open Go.Lw Go.G14
theorem digit_ok (n : Int) (w0 : World) (h0 : 0 ≤ n) (h1 : n ≤ 9) : Rets Tryd.prog 65 #[.int .i64 n] w0 fun v w' => v = .int .u8 ((dg n).toNat : Int) ∧ w0 = w' := by
  refine enter [(0, .int .i64 n)] Tryd.func65 rfl Tryd.ntmps65 rfl (.cons rfl .nil) ?_
  intro a h
  refine wp_seq ?_
  refine wp_region_lit ?_
  refine st_assign h rfl rfl ?_; clear h a; intro a h
  replace h : Ag a 6 [(0, _)] := h.sub (.cons rfl .nil)
  refine wpList_nil (norm_then ?_)
  refine wp_seq ?_
  refine wp_region_lit ?_
  refine st_move h rfl rfl ?_; clear h a; intro a h
  refine st_add h rfl rfl (by first | exact IntWalk.i64_in _ (by omega) | rfl) rfl ?_; clear h a; intro a h
  refine st_conv h rfl (by rw [Tryd.underlying3]; rfl) Tryd.underlying5 (by first | exact IntWalk.u8_in _ (by omega) | rfl) rfl ?_; clear h a; intro a h
  refine st_assign h rfl rfl ?_; clear h a; intro a h
  replace h : Ag a 6 [(2, _)] := h.sub (.cons rfl .nil)
  refine wpList_nil (norm_then ?_)
  refine wp_ret ?_
  refine ret1 h Tryd.results65 rfl ?_
  exact ⟨_, rfl, by rw [dg_val n h0 h1], rfl⟩
theorem put_ok (l m : List UInt8) (x : Value) (w0 : World) (hx : Sl Enc.b w0 x m) (hb : l.length + m.length ≤ 9223372036854775807) : Rets Tryd.prog 64 #[S l, x] w0 fun v w' => v = S (l ++ m) ∧ w0 = w' := by
  refine enter [(0, S l), (1, x)] Tryd.func64 rfl Tryd.ntmps64 rfl (.cons rfl (.cons rfl .nil)) ?_
  intro a h
  refine wp_seq ?_
  refine wp_region_lit ?_
  refine st_assign h rfl rfl ?_; clear h a; intro a h
  replace h : Ag a 9 [(0, _), (1, _)] := h.sub (.cons rfl (.cons rfl .nil))
  refine wpList_nil (norm_then ?_)
  refine wp_seq ?_
  refine wp_region_lit ?_
  refine st_move h rfl rfl ?_; clear h a; intro a h
  refine st_move h rfl rfl ?_; clear h a; intro a h
  refine st_b2s h rfl (by assumption) el58 Tryd.underlying5 Tryd.underlying9 rfl ?_; clear h a; intro a h
  refine st_adds h rfl rfl (by exact hb) rfl ?_; clear h a; intro a h
  refine st_assign h rfl rfl ?_; clear h a; intro a h
  replace h : Ag a 9 [(4, _)] := h.sub (.cons rfl .nil)
  refine wpList_nil (norm_then ?_)
  refine wp_ret ?_
  refine ret1 h Tryd.results64 rfl ?_
  exact ⟨_, rfl, rfl, rfl⟩
theorem check_ok (s : Stitch) (w0 : World) : Rets Tryd.prog 30 #[stV s] w0 fun v w' => v = .int .i64 (checkS s) ∧ Fr [] w0 w' := by
  refine enter [(0, stV s)] Tryd.func30 rfl Tryd.ntmps30 rfl (.cons rfl .nil) ?_
  have hf := Fr.refl [] w0
  intro a h
  refine wp_seq ?_
  refine wp_region_lit ?_
  refine st_box h rfl rfl rfl ?_; clear h a; intro w1 hb1 hq hz a h
  obtain ⟨g_1, hg⟩ : ∃ g, g = w0.heap.size := ⟨_, rfl⟩; rw [← hg] at hb1 h hz
  have hl1 : w0.heap.size ≤ g_1 := by have := hf.size; omega
  replace hf := hf.next hq
  clear hq hz hg
  refine st_assign h rfl rfl ?_; clear h a; intro a h
  replace h : Ag a 57 [(1, _)] := h.sub (.cons rfl .nil)
  refine wpList_nil (norm_then ?_)
  refine wp_seq ?_
  refine wp_seq ?_
  refine region_bool (r := 20) (L' := [(1, _)]) (s.k < 1 ∨ 8 < s.k ∨ s.y < 1 ∨ 6 < s.y) h (.cons rfl .nil) ?_ ?_
  · refine id ?_
    refine st_fieldAddr h rfl fa36_0 rfl ?_; clear h a; intro a h
    refine st_loadB h rfl hb1 rfl na34 rfl ?_; clear h a; intro a h
    refine st_lt h rfl rfl rfl ?_; clear h a; intro a h
    refine st_move h rfl rfl ?_; clear h a; intro a h
    first | refine guard_dec (D := 6) h rfl ?_ ?_ | refine guard_ndec (D := 6) h rfl ?_ ?_ | refine guard_any (D := 6) h rfl ?_ ?_
    · clear h; intro g0 h
      refine gd_no h rfl rfl rfl rfl rfl rfl rfl rfl ?_; clear h a; intro a h
      refine gd_no h rfl rfl rfl rfl rfl rfl rfl rfl ?_; clear h a; intro a h
      refine gd_no h rfl rfl rfl rfl rfl rfl rfl rfl ?_; clear h a; intro a h
      refine st_pick_t h rfl rfl rfl rfl ?_; clear h a; intro a h
      refine st_move h rfl rfl ?_; clear h a; intro a h
      refine gd_no h rfl rfl rfl rfl rfl rfl rfl rfl ?_; clear h a; intro a h
      refine gd_no h rfl rfl rfl rfl rfl rfl rfl rfl ?_; clear h a; intro a h
      refine gd_no h rfl rfl rfl rfl rfl rfl rfl rfl ?_; clear h a; intro a h
      refine st_pick_t h rfl rfl rfl rfl ?_; clear h a; intro a h
      refine st_move h rfl rfl ?_; clear h a; intro a h
      refine gd_no h rfl rfl rfl rfl rfl rfl rfl rfl ?_; clear h a; intro a h
      refine gd_no h rfl rfl rfl rfl rfl rfl rfl rfl ?_; clear h a; intro a h
      refine gd_no h rfl rfl rfl rfl rfl rfl rfl rfl ?_; clear h a; intro a h
      refine st_pick_t h rfl rfl rfl rfl ?_; clear h a; intro a h
      exact wpList_nil (bool_end h rfl (by first | exact bt (by omega) | exact bf (by omega) | exact bi (by omega) | exact bn (by omega)) (.cons rfl .nil))
    · clear h; intro g0 h
      refine gd_yes h rfl rfl rfl rfl rfl rfl ?_
      refine st_fieldAddr h rfl fa36_0 rfl ?_; clear h a; intro a h
      refine gd_yes h rfl rfl rfl rfl rfl rfl ?_
      refine st_loadB h rfl hb1 rfl na34 rfl ?_; clear h a; intro a h
      refine gd_yes h rfl rfl rfl rfl rfl rfl ?_
      refine st_gt h rfl rfl rfl ?_; clear h a; intro a h
      refine st_pick_f h rfl rfl rfl rfl ?_; clear h a; intro a h
      refine st_move h rfl rfl ?_; clear h a; intro a h
      first | refine guard_dec (D := 11) h rfl ?_ ?_ | refine guard_ndec (D := 11) h rfl ?_ ?_ | refine guard_any (D := 11) h rfl ?_ ?_
      · clear h; intro g1 h
        refine gd_no h rfl rfl rfl rfl rfl rfl rfl rfl ?_; clear h a; intro a h
        refine gd_no h rfl rfl rfl rfl rfl rfl rfl rfl ?_; clear h a; intro a h
        refine gd_no h rfl rfl rfl rfl rfl rfl rfl rfl ?_; clear h a; intro a h
        refine st_pick_t h rfl rfl rfl rfl ?_; clear h a; intro a h
        refine st_move h rfl rfl ?_; clear h a; intro a h
        refine gd_no h rfl rfl rfl rfl rfl rfl rfl rfl ?_; clear h a; intro a h
        refine gd_no h rfl rfl rfl rfl rfl rfl rfl rfl ?_; clear h a; intro a h
        refine gd_no h rfl rfl rfl rfl rfl rfl rfl rfl ?_; clear h a; intro a h
        refine st_pick_t h rfl rfl rfl rfl ?_; clear h a; intro a h
        exact wpList_nil (bool_end h rfl (by first | exact bt (by omega) | exact bf (by omega) | exact bi (by omega) | exact bn (by omega)) (.cons rfl .nil))
      · clear h; intro g1 h
        refine gd_yes h rfl rfl rfl rfl rfl rfl ?_
        refine st_fieldAddr h rfl fa36_1 rfl ?_; clear h a; intro a h
        refine gd_yes h rfl rfl rfl rfl rfl rfl ?_
        refine st_loadB h rfl hb1 rfl na5 rfl ?_; clear h a; intro a h
        refine gd_yes h rfl rfl rfl rfl rfl rfl ?_
        refine st_lt h rfl rfl rfl ?_; clear h a; intro a h
        refine st_pick_f h rfl rfl rfl rfl ?_; clear h a; intro a h
        refine st_move h rfl rfl ?_; clear h a; intro a h
        first | refine guard_dec (D := 16) h rfl ?_ ?_ | refine guard_ndec (D := 16) h rfl ?_ ?_ | refine guard_any (D := 16) h rfl ?_ ?_
        · clear h; intro g2 h
          refine gd_no h rfl rfl rfl rfl rfl rfl rfl rfl ?_; clear h a; intro a h
          refine gd_no h rfl rfl rfl rfl rfl rfl rfl rfl ?_; clear h a; intro a h
          refine gd_no h rfl rfl rfl rfl rfl rfl rfl rfl ?_; clear h a; intro a h
          refine st_pick_t h rfl rfl rfl rfl ?_; clear h a; intro a h
          exact wpList_nil (bool_end h rfl (by first | exact bt (by omega) | exact bf (by omega) | exact bi (by omega) | exact bn (by omega)) (.cons rfl .nil))
        · clear h; intro g2 h
          refine gd_yes h rfl rfl rfl rfl rfl rfl ?_
          refine st_fieldAddr h rfl fa36_1 rfl ?_; clear h a; intro a h
          refine gd_yes h rfl rfl rfl rfl rfl rfl ?_
          refine st_loadB h rfl hb1 rfl na5 rfl ?_; clear h a; intro a h
          refine gd_yes h rfl rfl rfl rfl rfl rfl ?_
          refine st_gt h rfl rfl rfl ?_; clear h a; intro a h
          refine st_pick_f h rfl rfl rfl rfl ?_; clear h a; intro a h
          exact wpList_nil (bool_end h rfl (by first | exact bt (by omega) | exact bf (by omega) | exact bi (by omega) | exact bn (by omega)) (.cons rfl .nil))
  · clear h a; intro a h
    refine (norm_then ?_)
    first | refine cond_dec h rfl (fun c0 => ?_) (fun c0 => ?_) | refine cond_ndec h rfl (fun c0 => ?_) (fun c0 => ?_) | refine cond_split h rfl (fun c0 => ?_) (fun c0 => ?_)
    · refine id ?_
      refine wp_seq ?_
      refine wp_region_lit ?_
      refine st_assign h rfl rfl ?_; clear h a; intro a h
      replace h : Ag a 57 [(2, _)] := h.sub (.cons rfl .nil)
      refine wpList_nil (norm_then ?_)
      refine wp_ret (ret_then ?_)
      refine ret1 h Tryd.results30 rfl ?_
      exact ⟨_, rfl, by unfold checkS; (repeat' split) <;> first | rfl | (exfalso; first | omega | (simp_all; done) | (simp_all; omega)), hf⟩
    · refine id ?_
      refine wp_skip (norm_then ?_)
      refine wp_seq ?_
      refine wp_seq ?_
      refine wp_region_lit ?_
      refine st_fieldAddr h rfl fa36_0 rfl ?_; clear h a; intro a h
      refine st_loadB h rfl hb1 rfl na34 rfl ?_; clear h a; intro a h
      refine st_ne h rfl rfl rfl ?_; clear h a; intro a h
      replace h : Ag a 57 [(1, _), (23, _)] := h.sub (.cons rfl (.cons rfl .nil))
      refine wpList_nil (norm_then ?_)
      first | refine cond_dec h rfl (fun c1 => ?_) (fun c1 => ?_) | refine cond_ndec h rfl (fun c1 => ?_) (fun c1 => ?_) | refine cond_split h rfl (fun c1 => ?_) (fun c1 => ?_)
      · refine id ?_
        refine wp_seq ?_
        refine wp_seq ?_
        refine region_bool (r := 35) (L' := []) (s.a ≠ 0 ∨ s.b ≠ 0 ∨ s.f = true) h .nil ?_ ?_
        · refine id ?_
          refine st_fieldAddr h rfl fa36_2 rfl ?_; clear h a; intro a h
          refine st_loadB h rfl hb1 rfl na3 rfl ?_; clear h a; intro a h
          refine st_ne h rfl rfl rfl ?_; clear h a; intro a h
          refine st_move h rfl rfl ?_; clear h a; intro a h
          first | refine guard_dec (D := 27) h rfl ?_ ?_ | refine guard_ndec (D := 27) h rfl ?_ ?_ | refine guard_any (D := 27) h rfl ?_ ?_
          · clear h; intro g3 h
            refine gd_no h rfl rfl rfl rfl rfl rfl rfl rfl ?_; clear h a; intro a h
            refine gd_no h rfl rfl rfl rfl rfl rfl rfl rfl ?_; clear h a; intro a h
            refine gd_no h rfl rfl rfl rfl rfl rfl rfl rfl ?_; clear h a; intro a h
            refine st_pick_t h rfl rfl rfl rfl ?_; clear h a; intro a h
            refine st_move h rfl rfl ?_; clear h a; intro a h
            refine gd_no h rfl rfl rfl rfl rfl rfl rfl rfl ?_; clear h a; intro a h
            refine gd_no h rfl rfl rfl rfl rfl rfl rfl rfl ?_; clear h a; intro a h
            refine st_pick_t h rfl rfl rfl rfl ?_; clear h a; intro a h
            exact wpList_nil (bool_end h rfl (by simp_all) .nil)
          · clear h; intro g3 h
            refine gd_yes h rfl rfl rfl rfl rfl rfl ?_
            refine st_fieldAddr h rfl fa36_3 rfl ?_; clear h a; intro a h
            refine gd_yes h rfl rfl rfl rfl rfl rfl ?_
            refine st_loadB h rfl hb1 rfl na3 rfl ?_; clear h a; intro a h
            refine gd_yes h rfl rfl rfl rfl rfl rfl ?_
            refine st_ne h rfl rfl rfl ?_; clear h a; intro a h
            refine st_pick_f h rfl rfl rfl rfl ?_; clear h a; intro a h
            refine st_move h rfl rfl ?_; clear h a; intro a h
            first | refine guard_dec (D := 32) h rfl ?_ ?_ | refine guard_ndec (D := 32) h rfl ?_ ?_ | refine guard_any (D := 32) h rfl ?_ ?_
            · clear h; intro g4 h
              refine gd_no h rfl rfl rfl rfl rfl rfl rfl rfl ?_; clear h a; intro a h
              refine gd_no h rfl rfl rfl rfl rfl rfl rfl rfl ?_; clear h a; intro a h
              refine st_pick_t h rfl rfl rfl rfl ?_; clear h a; intro a h
              exact wpList_nil (bool_end h rfl (by simp_all) .nil)
            · clear h; intro g4 h
              refine gd_yes h rfl rfl rfl rfl rfl rfl ?_
              refine st_fieldAddr h rfl fa36_4 rfl ?_; clear h a; intro a h
              refine gd_yes h rfl rfl rfl rfl rfl rfl ?_
              refine st_loadB h rfl hb1 rfl na4 rfl ?_; clear h a; intro a h
              refine st_pick_f h rfl rfl rfl rfl ?_; clear h a; intro a h
              exact wpList_nil (bool_end h rfl (by simp_all) .nil)
        · clear h a; intro a h
          refine (norm_then ?_)
          first | refine cond_dec h rfl (fun c2 => ?_) (fun c2 => ?_) | refine cond_ndec h rfl (fun c2 => ?_) (fun c2 => ?_) | refine cond_split h rfl (fun c2 => ?_) (fun c2 => ?_)
          · refine id ?_
            refine wp_seq ?_
            refine wp_region_lit ?_
            refine st_assign h rfl rfl ?_; clear h a; intro a h
            replace h : Ag a 57 [(2, _)] := h.sub (.cons rfl .nil)
            refine wpList_nil (norm_then ?_)
            refine wp_ret (ret_then (ret_then ?_))
            refine ret1 h Tryd.results30 rfl ?_
            exact ⟨_, rfl, by unfold checkS; (repeat' split) <;> first | rfl | (exfalso; first | omega | (simp_all; done) | (simp_all; omega)), hf⟩
          · refine id ?_
            refine wp_skip (norm_then ?_)
            refine wp_seq ?_
            refine wp_region_lit ?_
            refine st_assign h rfl rfl ?_; clear h a; intro a h
            replace h : Ag a 57 [(2, _)] := h.sub (.cons rfl .nil)
            refine wpList_nil (norm_then ?_)
            refine wp_ret (ret_then ?_)
            refine ret1 h Tryd.results30 rfl ?_
            exact ⟨_, rfl, by unfold checkS; (repeat' split) <;> first | rfl | (exfalso; first | omega | (simp_all; done) | (simp_all; omega)), hf⟩
      · refine id ?_
        refine wp_skip (norm_then ?_)
        refine wp_seq ?_
        refine wp_seq ?_
        refine region_bool (r := 56) (L' := []) (s.a < 1 ∨ 4 < s.a ∨ s.b < 1 ∨ 4 - s.a < s.b) h .nil ?_ ?_
        · refine id ?_
          refine st_fieldAddr h rfl fa36_2 rfl ?_; clear h a; intro a h
          refine st_loadB h rfl hb1 rfl na3 rfl ?_; clear h a; intro a h
          refine st_lt h rfl rfl rfl ?_; clear h a; intro a h
          refine st_move h rfl rfl ?_; clear h a; intro a h
          first | refine guard_dec (D := 39) h rfl ?_ ?_ | refine guard_ndec (D := 39) h rfl ?_ ?_ | refine guard_any (D := 39) h rfl ?_ ?_
          · clear h; intro g5 h
            refine gd_no h rfl rfl rfl rfl rfl rfl rfl rfl ?_; clear h a; intro a h
            refine gd_no h rfl rfl rfl rfl rfl rfl rfl rfl ?_; clear h a; intro a h
            refine gd_no h rfl rfl rfl rfl rfl rfl rfl rfl ?_; clear h a; intro a h
            refine st_pick_t h rfl rfl rfl rfl ?_; clear h a; intro a h
            refine st_move h rfl rfl ?_; clear h a; intro a h
            refine gd_no h rfl rfl rfl rfl rfl rfl rfl rfl ?_; clear h a; intro a h
            refine gd_no h rfl rfl rfl rfl rfl rfl rfl rfl ?_; clear h a; intro a h
            refine gd_no h rfl rfl rfl rfl rfl rfl rfl rfl ?_; clear h a; intro a h
            refine st_pick_t h rfl rfl rfl rfl ?_; clear h a; intro a h
            refine st_move h rfl rfl ?_; clear h a; intro a h
            refine gd_no h rfl rfl rfl rfl rfl rfl rfl rfl ?_; clear h a; intro a h
            refine gd_no h rfl rfl rfl rfl rfl rfl rfl rfl ?_; clear h a; intro a h
            refine gd_no h rfl rfl rfl rfl rfl rfl rfl rfl ?_; clear h a; intro a h
            refine gd_no h rfl rfl rfl rfl rfl rfl rfl rfl ?_; clear h a; intro a h
            refine gd_no h rfl rfl rfl rfl rfl rfl rfl rfl ?_; clear h a; intro a h
            refine gd_no h rfl rfl rfl rfl rfl rfl rfl rfl ?_; clear h a; intro a h
            refine st_pick_t h rfl rfl rfl rfl ?_; clear h a; intro a h
            exact wpList_nil (bool_end h rfl (by first | exact bt (by omega) | exact bf (by omega) | exact bi (by omega) | exact bn (by omega)) .nil)
          · clear h; intro g5 h
            refine gd_yes h rfl rfl rfl rfl rfl rfl ?_
            refine st_fieldAddr h rfl fa36_2 rfl ?_; clear h a; intro a h
            refine gd_yes h rfl rfl rfl rfl rfl rfl ?_
            refine st_loadB h rfl hb1 rfl na3 rfl ?_; clear h a; intro a h
            refine gd_yes h rfl rfl rfl rfl rfl rfl ?_
            refine st_gt h rfl rfl rfl ?_; clear h a; intro a h
            refine st_pick_f h rfl rfl rfl rfl ?_; clear h a; intro a h
            refine st_move h rfl rfl ?_; clear h a; intro a h
            first | refine guard_dec (D := 44) h rfl ?_ ?_ | refine guard_ndec (D := 44) h rfl ?_ ?_ | refine guard_any (D := 44) h rfl ?_ ?_
            · clear h; intro g6 h
              refine gd_no h rfl rfl rfl rfl rfl rfl rfl rfl ?_; clear h a; intro a h
              refine gd_no h rfl rfl rfl rfl rfl rfl rfl rfl ?_; clear h a; intro a h
              refine gd_no h rfl rfl rfl rfl rfl rfl rfl rfl ?_; clear h a; intro a h
              refine st_pick_t h rfl rfl rfl rfl ?_; clear h a; intro a h
              refine st_move h rfl rfl ?_; clear h a; intro a h
              refine gd_no h rfl rfl rfl rfl rfl rfl rfl rfl ?_; clear h a; intro a h
              refine gd_no h rfl rfl rfl rfl rfl rfl rfl rfl ?_; clear h a; intro a h
              refine gd_no h rfl rfl rfl rfl rfl rfl rfl rfl ?_; clear h a; intro a h
              refine gd_no h rfl rfl rfl rfl rfl rfl rfl rfl ?_; clear h a; intro a h
              refine gd_no h rfl rfl rfl rfl rfl rfl rfl rfl ?_; clear h a; intro a h
              refine gd_no h rfl rfl rfl rfl rfl rfl rfl rfl ?_; clear h a; intro a h
              refine st_pick_t h rfl rfl rfl rfl ?_; clear h a; intro a h
              exact wpList_nil (bool_end h rfl (by first | exact bt (by omega) | exact bf (by omega) | exact bi (by omega) | exact bn (by omega)) .nil)
            · clear h; intro g6 h
              refine gd_yes h rfl rfl rfl rfl rfl rfl ?_
              refine st_fieldAddr h rfl fa36_3 rfl ?_; clear h a; intro a h
              refine gd_yes h rfl rfl rfl rfl rfl rfl ?_
              refine st_loadB h rfl hb1 rfl na3 rfl ?_; clear h a; intro a h
              refine gd_yes h rfl rfl rfl rfl rfl rfl ?_
              refine st_lt h rfl rfl rfl ?_; clear h a; intro a h
              refine st_pick_f h rfl rfl rfl rfl ?_; clear h a; intro a h
              refine st_move h rfl rfl ?_; clear h a; intro a h
              first | refine guard_dec (D := 49) h rfl ?_ ?_ | refine guard_ndec (D := 49) h rfl ?_ ?_ | refine guard_any (D := 49) h rfl ?_ ?_
              · clear h; intro g7 h
                refine gd_no h rfl rfl rfl rfl rfl rfl rfl rfl ?_; clear h a; intro a h
                refine gd_no h rfl rfl rfl rfl rfl rfl rfl rfl ?_; clear h a; intro a h
                refine gd_no h rfl rfl rfl rfl rfl rfl rfl rfl ?_; clear h a; intro a h
                refine gd_no h rfl rfl rfl rfl rfl rfl rfl rfl ?_; clear h a; intro a h
                refine gd_no h rfl rfl rfl rfl rfl rfl rfl rfl ?_; clear h a; intro a h
                refine gd_no h rfl rfl rfl rfl rfl rfl rfl rfl ?_; clear h a; intro a h
                refine st_pick_t h rfl rfl rfl rfl ?_; clear h a; intro a h
                exact wpList_nil (bool_end h rfl (by first | exact bt (by omega) | exact bf (by omega) | exact bi (by omega) | exact bn (by omega)) .nil)
              · clear h; intro g7 h
                refine gd_yes h rfl rfl rfl rfl rfl rfl ?_
                refine st_fieldAddr h rfl fa36_3 rfl ?_; clear h a; intro a h
                refine gd_yes h rfl rfl rfl rfl rfl rfl ?_
                refine st_loadB h rfl hb1 rfl na3 rfl ?_; clear h a; intro a h
                refine gd_yes h rfl rfl rfl rfl rfl rfl ?_
                refine st_fieldAddr h rfl fa36_2 rfl ?_; clear h a; intro a h
                refine gd_yes h rfl rfl rfl rfl rfl rfl ?_
                refine st_loadB h rfl hb1 rfl na3 rfl ?_; clear h a; intro a h
                refine gd_yes h rfl rfl rfl rfl rfl rfl ?_
                refine st_sub h rfl rfl (by first | exact IntWalk.i64_in _ (by omega) | rfl) rfl ?_; clear h a; intro a h
                refine gd_yes h rfl rfl rfl rfl rfl rfl ?_
                refine st_gt h rfl rfl rfl ?_; clear h a; intro a h
                refine st_pick_f h rfl rfl rfl rfl ?_; clear h a; intro a h
                exact wpList_nil (bool_end h rfl (by first | exact bt (by omega) | exact bf (by omega) | exact bi (by omega) | exact bn (by omega)) .nil)
        · clear h a; intro a h
          refine (norm_then ?_)
          first | refine cond_dec h rfl (fun c3 => ?_) (fun c3 => ?_) | refine cond_ndec h rfl (fun c3 => ?_) (fun c3 => ?_) | refine cond_split h rfl (fun c3 => ?_) (fun c3 => ?_)
          · refine id ?_
            refine wp_seq ?_
            refine wp_region_lit ?_
            refine st_assign h rfl rfl ?_; clear h a; intro a h
            replace h : Ag a 57 [(2, _)] := h.sub (.cons rfl .nil)
            refine wpList_nil (norm_then ?_)
            refine wp_ret (ret_then ?_)
            refine ret1 h Tryd.results30 rfl ?_
            exact ⟨_, rfl, by unfold checkS; (repeat' split) <;> first | rfl | (exfalso; first | omega | (simp_all; done) | (simp_all; omega)), hf⟩
          · refine id ?_
            refine wp_skip (norm_then ?_)
            refine wp_seq ?_
            refine wp_region_lit ?_
            refine st_assign h rfl rfl ?_; clear h a; intro a h
            replace h : Ag a 57 [(2, _)] := h.sub (.cons rfl .nil)
            refine wpList_nil (norm_then ?_)
            refine wp_ret ?_
            refine ret1 h Tryd.results30 rfl ?_
            exact ⟨_, rfl, by unfold checkS; (repeat' split) <;> first | rfl | (exfalso; first | omega | (simp_all; done) | (simp_all; omega)), hf⟩
theorem text_ok (s : Stitch) (w0 : World) (hy : Sym w0) : Rets Tryd.prog 54 #[stV s] w0 fun v w' => v = S (textS s) ∧ Fr [] w0 w' := by
  refine enter [(0, stV s)] Tryd.func54 rfl Tryd.ntmps54 rfl (.cons rfl .nil) ?_
  have hf := Fr.refl [] w0
  intro a h
  refine wp_seq ?_
  refine wp_region_lit ?_
  refine st_box h rfl rfl rfl ?_; clear h a; intro w1 hb1 hq hz a h
  obtain ⟨g_1, hg⟩ : ∃ g, g = w0.heap.size := ⟨_, rfl⟩; rw [← hg] at hb1 h hz
  have hl1 : w0.heap.size ≤ g_1 := by have := hf.size; omega
  replace hf := hf.next hq
  replace hy := hy.ext hq
  clear hq hz hg
  refine st_assign h rfl rfl ?_; clear h a; intro a h
  replace h : Ag a 41 [(1, _)] := h.sub (.cons rfl .nil)
  refine wpList_nil (norm_then ?_)
  refine wp_seq ?_
  refine wp_seq ?_
  refine wp_region_lit ?_
  refine st_loadBA h rfl hb1 ag36 rfl ?_; clear h a; intro a h
  refine st_call h (evs_cons rfl evs_nil) co30 (check_ok _ _) rfl ?_; clear h a; rintro _ w2 ⟨rfl, hq⟩ a h
  replace hf := hf.next hq
  replace hy := hy.ext hq
  replace hb1 := hb1.ext hq
  clear hq
  refine st_ne h rfl rfl rfl ?_; clear h a; intro a h
  replace h : Ag a 41 [(1, _), (7, _)] := h.sub (.cons rfl (.cons rfl .nil))
  refine wpList_nil (norm_then ?_)
  first | refine cond_dec h rfl (fun c0 => ?_) (fun c0 => ?_) | refine cond_ndec h rfl (fun c0 => ?_) (fun c0 => ?_) | refine cond_split h rfl (fun c0 => ?_) (fun c0 => ?_)
  · refine id ?_
    refine wp_seq ?_
    refine wp_region_lit ?_
    refine st_assign h rfl rfl ?_; clear h a; intro a h
    replace h : Ag a 41 [(2, _)] := h.sub (.cons rfl .nil)
    refine wpList_nil (norm_then ?_)
    refine wp_ret (ret_then ?_)
    refine ret1 h Tryd.results54 rfl ?_
    exact ⟨_, rfl, by rw [textS, if_pos (by assumption)]; rfl, hf⟩
  · have hc : checkS s = 0 := by omega
    obtain ⟨k1, k8, y1, y6, kn, ky⟩ := check_rng hc
    refine wp_skip (norm_then ?_)
    refine wp_seq ?_
    refine wp_region_lit ?_
    refine st_fieldAddr h rfl fa36_0 rfl ?_; clear h a; intro a h
    refine st_loadB h rfl hb1 rfl na34 rfl ?_; clear h a; intro a h
    refine st_sub h rfl rfl (by first | exact IntWalk.u8_in _ (by omega) | rfl) rfl ?_; clear h a; intro a h
    refine st_idxA h rfl rfl Tryd.underlying94 sz5 (by omega) (by omega) rfl ?_; clear h a; intro a h
    refine st_load h rfl (hy.at _ (by omega)) na5 rfl ?_; clear h a; intro a h
    refine st_bslice ([symbols.getD (s.k - 1).toNat 0]) h (evs_cons rfl evs_nil) rfl rfl rfl el58 (by decide) rfl ?_; clear h a; intro g_13 w3 hg ho13 hq hz a h
    have hn_1_13 : g_1 < g_13 := by have := hb1.lt; omega
    have hl13 : w0.heap.size ≤ g_13 := by have := hf.size; omega
    replace hf := hf.next hq
    replace hy := hy.ext hq
    replace hb1 := hb1.ext hq
    clear hq hz hg
    refine st_call h (evs_cons rfl (evs_cons rfl evs_nil)) co64 (put_ok _ _ _ _ ho13.sl (by simp)) rfl ?_; clear h a; rintro _ _ ⟨rfl, rfl⟩ a h
    refine st_assign h rfl rfl ?_; clear h a; intro a h
    replace h : Ag a 41 [(1, _), (3, _)] := h.sub (.cons rfl (.cons rfl .nil))
    refine wpList_nil (norm_then ?_)
    refine wp_seq ?_
    refine wp_seq ?_
    refine wp_region_lit ?_
    refine st_fieldAddr h rfl fa36_0 rfl ?_; clear h a; intro a h
    refine st_loadB h rfl hb1 rfl na34 rfl ?_; clear h a; intro a h
    refine st_eq h rfl rfl rfl ?_; clear h a; intro a h
    replace h : Ag a 41 [(1, _), (3, _), (17, _)] := h.sub (.cons rfl (.cons rfl (.cons rfl .nil)))
    refine wpList_nil (norm_then ?_)
    first | refine cond_dec h rfl (fun c1 => ?_) (fun c1 => ?_) | refine cond_ndec h rfl (fun c1 => ?_) (fun c1 => ?_) | refine cond_split h rfl (fun c1 => ?_) (fun c1 => ?_)
    · refine id ?_
      refine wp_seq ?_
      refine wp_region_lit ?_
      refine st_assign h rfl rfl ?_; clear h a; intro a h
      replace h : Ag a 41 [(1, _), (3, _), (4, _)] := h.sub (.cons rfl (.cons rfl (.cons rfl .nil)))
      refine wpList_nil (norm_then ?_)
      refine wp_seq ?_
      refine wp_seq ?_
      refine wp_region_lit ?_
      refine st_fieldAddr h rfl fa36_4 rfl ?_; clear h a; intro a h
      refine st_loadB h rfl hb1 rfl na4 rfl ?_; clear h a; intro a h
      replace h : Ag a 41 [(1, _), (3, _), (4, _), (19, _)] := h.sub (.cons rfl (.cons rfl (.cons rfl (.cons rfl .nil))))
      refine wpList_nil (norm_then ?_)
      first | refine cond_dec h rfl (fun c2 => ?_) (fun c2 => ?_) | refine cond_ndec h rfl (fun c2 => ?_) (fun c2 => ?_) | refine cond_split h rfl (fun c2 => ?_) (fun c2 => ?_)
      · refine id ?_
        refine wp_region_lit ?_
        refine st_assign h rfl rfl ?_; clear h a; intro a h
        replace h : Ag a 41 [(1, _), (3, _), (4, _)] := h.sub (.cons rfl (.cons rfl (.cons rfl .nil)))
        refine wpList_nil (norm_then ?_)
        refine region_held (fun wb w' => Fr [] wb w') hmix ?_; intro w4 hq
        replace hf := hf.next hq
        replace hy := hy.ext hq
        replace hb1 := hb1.ext hq
        replace ho13 := ho13.ext hq
        clear hq; have hC : Fr [] w4 w4 := Fr.refl _ _
        have hy_b := hy
        have hb1_b := hb1
        have ho13_b := ho13
        refine hd_move 0 (by kernel_rfl) (by kernel_rfl) (by kernel_rfl) hC h rfl rfl rfl ?_; clear h a; intro a h
        refine hd_fieldAddr 1 (by kernel_rfl) (by kernel_rfl) (by kernel_rfl) hC h rfl fa36_2 rfl rfl ?_; clear h a; intro a h
        refine hd_loadB 2 (by kernel_rfl) (by kernel_rfl) (by kernel_rfl) hC h rfl (fun _ hw => hb1_b.ext hw) rfl na3 rfl rfl ?_; clear h a; intro a h
        refine hd_fieldAddr 4 (by kernel_rfl) (by kernel_rfl) (by kernel_rfl) hC h rfl fa36_3 rfl rfl ?_; clear h a; intro a h
        refine hd_loadB 5 (by kernel_rfl) (by kernel_rfl) (by kernel_rfl) hC h rfl (fun _ hw => hb1_b.ext hw) rfl na3 rfl rfl ?_; clear h a; intro a h
        refine hd_move 7 (by kernel_rfl) (by kernel_rfl) (by kernel_rfl) hC h rfl rfl rfl ?_; clear h a; intro a h
        refine hd_one 3 (by kernel_rfl) rfl ?_
        refine st_call h (evs_cons rfl evs_nil) co65 (digit_ok _ _ (by omega) (by omega)) rfl ?_; clear h a; rintro _ _ ⟨rfl, rfl⟩ a h
        refine hd_next hC ?_
        refine hd_one 6 (by kernel_rfl) rfl ?_
        refine st_call h (evs_cons rfl evs_nil) co65 (digit_ok _ _ (by omega) (by omega)) rfl ?_; clear h a; rintro _ _ ⟨rfl, rfl⟩ a h
        refine hd_next hC ?_
        refine hd_one 8 (by kernel_rfl) rfl ?_
        refine st_bslice ([dg s.a, dg s.b, if s.f then 70 else 66]) h (evs_cons rfl (evs_cons rfl (evs_cons rfl evs_nil))) rfl (by rw [c2]; rfl) rfl el58 (by decide) rfl ?_; clear h a; intro g_28 w5 hg ho28 hq hz a h
        have hn_1_28 : g_1 < g_28 := by have := hb1.lt; omega
        have hl28 : w0.heap.size ≤ g_28 := by have := hf.size; omega
        replace hf := hf.next hq
        replace hy := hy.ext hq
        replace hb1 := hb1.ext hq
        replace ho13 := ho13.ext hq
        replace hC := hC.next hq
        clear hq hz hg
        refine hd_next hC ?_
        refine hd_one 9 (by kernel_rfl) rfl ?_
        refine st_call h (evs_cons rfl (evs_cons rfl evs_nil)) co64 (put_ok _ _ _ _ ho28.sl (by simp)) rfl ?_; clear h a; rintro _ _ ⟨rfl, rfl⟩ a h
        refine hd_next hC ?_
        refine hd_one 10 (by kernel_rfl) rfl ?_
        refine st_assign h rfl rfl ?_; clear h a; intro a h
        refine hd_next hC ?_
        refine hd_end (by kernel_rfl) ?_
        clear hC hy_b hb1_b ho13_b
        replace h : Ag a 41 [(1, _), (3, _)] := h.sub (.cons rfl (.cons rfl .nil))
        refine (norm_then ?_)
        refine wp_seq ?_
        refine wp_seq ?_
        refine wp_region_lit ?_
        refine st_fieldAddr h rfl fa36_1 rfl ?_; clear h a; intro a h
        refine st_loadB h rfl hb1 rfl na5 rfl ?_; clear h a; intro a h
        refine st_ne h rfl rfl rfl ?_; clear h a; intro a h
        replace h : Ag a 41 [(1, _), (3, _), (32, _)] := h.sub (.cons rfl (.cons rfl (.cons rfl .nil)))
        refine wpList_nil (norm_then ?_)
        first | refine cond_dec h rfl (fun c3 => ?_) (fun c3 => ?_) | refine cond_ndec h rfl (fun c3 => ?_) (fun c3 => ?_) | refine cond_split h rfl (fun c3 => ?_) (fun c3 => ?_)
        · refine id ?_
          refine wp_region_lit ?_
          refine st_move h rfl rfl ?_; clear h a; intro a h
          refine st_fieldAddr h rfl fa36_1 rfl ?_; clear h a; intro a h
          refine st_loadB h rfl hb1 rfl na5 rfl ?_; clear h a; intro a h
          refine st_conv h rfl (by rw [Tryd.underlying5]; rfl) Tryd.underlying3 (by first | exact IntWalk.i64_in _ (by omega) | rfl) rfl ?_; clear h a; intro a h
          refine st_call h (evs_cons rfl evs_nil) co65 (digit_ok _ _ (by omega) (by omega)) rfl ?_; clear h a; rintro _ _ ⟨rfl, rfl⟩ a h
          refine st_bslice ([dg s.y]) h (evs_cons rfl evs_nil) rfl rfl rfl el58 (by decide) rfl ?_; clear h a; intro g_38 w6 hg ho38 hq hz a h
          have hn_1_38 : g_1 < g_38 := by have := hb1.lt; omega
          have hl38 : w0.heap.size ≤ g_38 := by have := hf.size; omega
          replace hf := hf.next hq
          replace hy := hy.ext hq
          replace hb1 := hb1.ext hq
          replace ho13 := ho13.ext hq
          replace ho28 := ho28.ext hq
          clear hq hz hg
          refine st_call h (evs_cons rfl (evs_cons rfl evs_nil)) co64 (put_ok _ _ _ _ ho38.sl (by simp)) rfl ?_; clear h a; rintro _ _ ⟨rfl, rfl⟩ a h
          refine st_assign h rfl rfl ?_; clear h a; intro a h
          replace h : Ag a 41 [(3, _)] := h.sub (.cons rfl .nil)
          refine wpList_nil (norm_then ?_)
          refine wp_seq ?_
          refine wp_region_lit ?_
          refine st_move h rfl rfl ?_; clear h a; intro a h
          refine st_assign h rfl rfl ?_; clear h a; intro a h
          replace h : Ag a 41 [(2, _)] := h.sub (.cons rfl .nil)
          refine wpList_nil (norm_then ?_)
          refine wp_ret ?_
          refine ret1 h Tryd.results54 rfl ?_
          exact ⟨_, rfl, by simp_all [textS], hf⟩
        · refine id ?_
          refine wp_skip (norm_then ?_)
          refine wp_seq ?_
          refine wp_region_lit ?_
          refine st_move h rfl rfl ?_; clear h a; intro a h
          refine st_assign h rfl rfl ?_; clear h a; intro a h
          replace h : Ag a 41 [(2, _)] := h.sub (.cons rfl .nil)
          refine wpList_nil (norm_then ?_)
          refine wp_ret ?_
          refine ret1 h Tryd.results54 rfl ?_
          exact ⟨_, rfl, by simp_all [textS], hf⟩
      · refine id ?_
        refine wp_skip (norm_then ?_)
        refine region_held (fun wb w' => Fr [] wb w') hmix ?_; intro w7 hq
        replace hf := hf.next hq
        replace hy := hy.ext hq
        replace hb1 := hb1.ext hq
        replace ho13 := ho13.ext hq
        clear hq; have hC : Fr [] w7 w7 := Fr.refl _ _
        have hy_b := hy
        have hb1_b := hb1
        have ho13_b := ho13
        refine hd_move 0 (by kernel_rfl) (by kernel_rfl) (by kernel_rfl) hC h rfl rfl rfl ?_; clear h a; intro a h
        refine hd_fieldAddr 1 (by kernel_rfl) (by kernel_rfl) (by kernel_rfl) hC h rfl fa36_2 rfl rfl ?_; clear h a; intro a h
        refine hd_loadB 2 (by kernel_rfl) (by kernel_rfl) (by kernel_rfl) hC h rfl (fun _ hw => hb1_b.ext hw) rfl na3 rfl rfl ?_; clear h a; intro a h
        refine hd_fieldAddr 4 (by kernel_rfl) (by kernel_rfl) (by kernel_rfl) hC h rfl fa36_3 rfl rfl ?_; clear h a; intro a h
        refine hd_loadB 5 (by kernel_rfl) (by kernel_rfl) (by kernel_rfl) hC h rfl (fun _ hw => hb1_b.ext hw) rfl na3 rfl rfl ?_; clear h a; intro a h
        refine hd_move 7 (by kernel_rfl) (by kernel_rfl) (by kernel_rfl) hC h rfl rfl rfl ?_; clear h a; intro a h
        refine hd_one 3 (by kernel_rfl) rfl ?_
        refine st_call h (evs_cons rfl evs_nil) co65 (digit_ok _ _ (by omega) (by omega)) rfl ?_; clear h a; rintro _ _ ⟨rfl, rfl⟩ a h
        refine hd_next hC ?_
        refine hd_one 6 (by kernel_rfl) rfl ?_
        refine st_call h (evs_cons rfl evs_nil) co65 (digit_ok _ _ (by omega) (by omega)) rfl ?_; clear h a; rintro _ _ ⟨rfl, rfl⟩ a h
        refine hd_next hC ?_
        refine hd_one 8 (by kernel_rfl) rfl ?_
        refine st_bslice ([dg s.a, dg s.b, if s.f then 70 else 66]) h (evs_cons rfl (evs_cons rfl (evs_cons rfl evs_nil))) rfl (by rw [c2]; rfl) rfl el58 (by decide) rfl ?_; clear h a; intro g_28 w8 hg ho28 hq hz a h
        have hn_1_28 : g_1 < g_28 := by have := hb1.lt; omega
        have hl28 : w0.heap.size ≤ g_28 := by have := hf.size; omega
        replace hf := hf.next hq
        replace hy := hy.ext hq
        replace hb1 := hb1.ext hq
        replace ho13 := ho13.ext hq
        replace hC := hC.next hq
        clear hq hz hg
        refine hd_next hC ?_
        refine hd_one 9 (by kernel_rfl) rfl ?_
        refine st_call h (evs_cons rfl (evs_cons rfl evs_nil)) co64 (put_ok _ _ _ _ ho28.sl (by simp)) rfl ?_; clear h a; rintro _ _ ⟨rfl, rfl⟩ a h
        refine hd_next hC ?_
        refine hd_one 10 (by kernel_rfl) rfl ?_
        refine st_assign h rfl rfl ?_; clear h a; intro a h
        refine hd_next hC ?_
        refine hd_end (by kernel_rfl) ?_
        clear hC hy_b hb1_b ho13_b
        replace h : Ag a 41 [(1, _), (3, _)] := h.sub (.cons rfl (.cons rfl .nil))
        refine (norm_then ?_)
        refine wp_seq ?_
        refine wp_seq ?_
        refine wp_region_lit ?_
        refine st_fieldAddr h rfl fa36_1 rfl ?_; clear h a; intro a h
        refine st_loadB h rfl hb1 rfl na5 rfl ?_; clear h a; intro a h
        refine st_ne h rfl rfl rfl ?_; clear h a; intro a h
        replace h : Ag a 41 [(1, _), (3, _), (32, _)] := h.sub (.cons rfl (.cons rfl (.cons rfl .nil)))
        refine wpList_nil (norm_then ?_)
        first | refine cond_dec h rfl (fun c3 => ?_) (fun c3 => ?_) | refine cond_ndec h rfl (fun c3 => ?_) (fun c3 => ?_) | refine cond_split h rfl (fun c3 => ?_) (fun c3 => ?_)
        · refine id ?_
          refine wp_region_lit ?_
          refine st_move h rfl rfl ?_; clear h a; intro a h
          refine st_fieldAddr h rfl fa36_1 rfl ?_; clear h a; intro a h
          refine st_loadB h rfl hb1 rfl na5 rfl ?_; clear h a; intro a h
          refine st_conv h rfl (by rw [Tryd.underlying5]; rfl) Tryd.underlying3 (by first | exact IntWalk.i64_in _ (by omega) | rfl) rfl ?_; clear h a; intro a h
          refine st_call h (evs_cons rfl evs_nil) co65 (digit_ok _ _ (by omega) (by omega)) rfl ?_; clear h a; rintro _ _ ⟨rfl, rfl⟩ a h
          refine st_bslice ([dg s.y]) h (evs_cons rfl evs_nil) rfl rfl rfl el58 (by decide) rfl ?_; clear h a; intro g_38 w9 hg ho38 hq hz a h
          have hn_1_38 : g_1 < g_38 := by have := hb1.lt; omega
          have hl38 : w0.heap.size ≤ g_38 := by have := hf.size; omega
          replace hf := hf.next hq
          replace hy := hy.ext hq
          replace hb1 := hb1.ext hq
          replace ho13 := ho13.ext hq
          replace ho28 := ho28.ext hq
          clear hq hz hg
          refine st_call h (evs_cons rfl (evs_cons rfl evs_nil)) co64 (put_ok _ _ _ _ ho38.sl (by simp)) rfl ?_; clear h a; rintro _ _ ⟨rfl, rfl⟩ a h
          refine st_assign h rfl rfl ?_; clear h a; intro a h
          replace h : Ag a 41 [(3, _)] := h.sub (.cons rfl .nil)
          refine wpList_nil (norm_then ?_)
          refine wp_seq ?_
          refine wp_region_lit ?_
          refine st_move h rfl rfl ?_; clear h a; intro a h
          refine st_assign h rfl rfl ?_; clear h a; intro a h
          replace h : Ag a 41 [(2, _)] := h.sub (.cons rfl .nil)
          refine wpList_nil (norm_then ?_)
          refine wp_ret ?_
          refine ret1 h Tryd.results54 rfl ?_
          exact ⟨_, rfl, by simp_all [textS], hf⟩
        · refine id ?_
          refine wp_skip (norm_then ?_)
          refine wp_seq ?_
          refine wp_region_lit ?_
          refine st_move h rfl rfl ?_; clear h a; intro a h
          refine st_assign h rfl rfl ?_; clear h a; intro a h
          replace h : Ag a 41 [(2, _)] := h.sub (.cons rfl .nil)
          refine wpList_nil (norm_then ?_)
          refine wp_ret ?_
          refine ret1 h Tryd.results54 rfl ?_
          exact ⟨_, rfl, by simp_all [textS], hf⟩
    · refine id ?_
      refine wp_skip (norm_then ?_)
      refine wp_seq ?_
      refine wp_seq ?_
      refine wp_region_lit ?_
      refine st_fieldAddr h rfl fa36_1 rfl ?_; clear h a; intro a h
      refine st_loadB h rfl hb1 rfl na5 rfl ?_; clear h a; intro a h
      refine st_ne h rfl rfl rfl ?_; clear h a; intro a h
      replace h : Ag a 41 [(1, _), (3, _), (32, _)] := h.sub (.cons rfl (.cons rfl (.cons rfl .nil)))
      refine wpList_nil (norm_then ?_)
      first | refine cond_dec h rfl (fun c3 => ?_) (fun c3 => ?_) | refine cond_ndec h rfl (fun c3 => ?_) (fun c3 => ?_) | refine cond_split h rfl (fun c3 => ?_) (fun c3 => ?_)
      · refine id ?_
        refine wp_region_lit ?_
        refine st_move h rfl rfl ?_; clear h a; intro a h
        refine st_fieldAddr h rfl fa36_1 rfl ?_; clear h a; intro a h
        refine st_loadB h rfl hb1 rfl na5 rfl ?_; clear h a; intro a h
        refine st_conv h rfl (by rw [Tryd.underlying5]; rfl) Tryd.underlying3 (by first | exact IntWalk.i64_in _ (by omega) | rfl) rfl ?_; clear h a; intro a h
        refine st_call h (evs_cons rfl evs_nil) co65 (digit_ok _ _ (by omega) (by omega)) rfl ?_; clear h a; rintro _ _ ⟨rfl, rfl⟩ a h
        refine st_bslice ([dg s.y]) h (evs_cons rfl evs_nil) rfl rfl rfl el58 (by decide) rfl ?_; clear h a; intro g_38 w10 hg ho38 hq hz a h
        have hn_1_38 : g_1 < g_38 := by have := hb1.lt; omega
        have hl38 : w0.heap.size ≤ g_38 := by have := hf.size; omega
        replace hf := hf.next hq
        replace hy := hy.ext hq
        replace hb1 := hb1.ext hq
        replace ho13 := ho13.ext hq
        clear hq hz hg
        refine st_call h (evs_cons rfl (evs_cons rfl evs_nil)) co64 (put_ok _ _ _ _ ho38.sl (by simp)) rfl ?_; clear h a; rintro _ _ ⟨rfl, rfl⟩ a h
        refine st_assign h rfl rfl ?_; clear h a; intro a h
        replace h : Ag a 41 [(3, _)] := h.sub (.cons rfl .nil)
        refine wpList_nil (norm_then ?_)
        refine wp_seq ?_
        refine wp_region_lit ?_
        refine st_move h rfl rfl ?_; clear h a; intro a h
        refine st_assign h rfl rfl ?_; clear h a; intro a h
        replace h : Ag a 41 [(2, _)] := h.sub (.cons rfl .nil)
        refine wpList_nil (norm_then ?_)
        refine wp_ret ?_
        refine ret1 h Tryd.results54 rfl ?_
        exact ⟨_, rfl, by simp_all [textS], hf⟩
      · refine id ?_
        refine wp_skip (norm_then ?_)
        refine wp_seq ?_
        refine wp_region_lit ?_
        refine st_move h rfl rfl ?_; clear h a; intro a h
        refine st_assign h rfl rfl ?_; clear h a; intro a h
        replace h : Ag a 41 [(2, _)] := h.sub (.cons rfl .nil)
        refine wpList_nil (norm_then ?_)
        refine wp_ret ?_
        refine ret1 h Tryd.results54 rfl ?_
        exact ⟨_, rfl, by simp_all [textS], hf⟩
end Go.Proofs.YtbbnampdgefljaaDoor
namespace Go.Proofs.YtbbnampdgefljaaDoor
open Go.Lw Go.G14
set_option maxHeartbeats 1000000 in
theorem parse_ok (l : List UInt8) (w0 : World) (hy : Sym w0) : Rets Tryd.prog 28 #[S l] w0 fun v w' => v = .tuple #[stV (parseS l).1, .int .i64 (parseS l).2] ∧ Fr [] w0 w' := by
  have h00 := hy.pos
  refine enter [(0, S l)] Tryd.func28 rfl Tryd.ntmps28 rfl (.cons rfl .nil) ?_
  have hf := Fr.refl [] w0
  intro a h
  refine wp_seq ?_
  refine wp_region_lit ?_
  refine st_alloc h zv36 rfl rfl ?_; clear h a; intro w1 hb2 hq hz a h
  obtain ⟨g_2, hg⟩ : ∃ g, g = w0.heap.size := ⟨_, rfl⟩; rw [← hg] at hb2 h hz
  have hl2 : w0.heap.size ≤ g_2 := by have := hf.size; omega
  replace hf := hf.next hq
  replace hy := hy.ext hq
  clear hq hz hg
  refine st_assign h rfl rfl ?_; clear h a; intro a h
  replace h : Ag a 65 [(0, _), (2, _)] := h.sub (.cons rfl (.cons rfl .nil))
  refine wpList_nil (norm_then ?_)
  refine wp_seq ?_
  refine wp_seq ?_
  refine wp_region_lit ?_
  refine st_move h rfl rfl ?_; clear h a; intro a h
  refine st_eqs h rfl rfl rfl ?_; clear h a; intro a h
  replace h : Ag a 65 [(0, _), (2, _), (9, _)] := h.sub (.cons rfl (.cons rfl (.cons rfl .nil)))
  refine wpList_nil (norm_then ?_)
  first | refine cond_dec h rfl (fun c0 => ?_) (fun c0 => ?_) | refine cond_ndec h rfl (fun c0 => ?_) (fun c0 => ?_) | refine cond_split h rfl (fun c0 => ?_) (fun c0 => ?_)
  · refine id ?_
    refine wp_seq ?_
    refine wp_region_lit ?_
    refine st_lit (cs := [_, _, _, _, _]) h evs_nil bo36 pok_nil rfl rfl ?_; clear h a; intro a h
    refine st_storeBA h rfl rfl hb2 rfl (by first | (simp [Value.oneCell', S]; done) | exact Enc.one _ _) sz36 ?_; clear h a; intro w2 hbn hq hz a h
    replace hf := hf.step hq (by first | (simp; done) | (simp; omega))
    replace hy := hy.fr hq (by first | (simp; done) | (simp; omega) | (simp [blks]; done) | (simp [blks]; omega))
    clear hb2 hq hz; have hb2 : Blk w2 g_2 _ [_, _, _, _, _] := hbn; clear hbn
    refine st_assign h rfl rfl ?_; clear h a; intro a h
    replace h : Ag a 65 [(2, _), (3, _)] := h.sub (.cons rfl (.cons rfl .nil))
    refine wpList_nil (norm_then ?_)
    refine wp_ret (ret_then ?_)
    refine retCT h Tryd.results28 rfl hb2 ag36 rfl ?_
    exact ⟨_, rfl, by rw [parse_none c0]; rfl, hf⟩
  · have hlen : 0 < l.length := List.length_pos_iff.2 c0
    refine wp_skip (norm_then ?_)
    refine wp_seq ?_
    refine wp_region_lit ?_
    refine st_lit (cs := [_, _, _, _, _]) h (evs_cons rfl evs_nil) bo36 (pok_cons rfl rfl rfl pok_nil) rfl rfl ?_; clear h a; intro a h
    refine st_alloc h zv36 rfl rfl ?_; clear h a; intro w3 hb4 hq hz a h
    obtain ⟨g_4, hg⟩ : ∃ g, g = w1.heap.size := ⟨_, rfl⟩; rw [← hg] at hb4 h hz
    have hl4 : w0.heap.size ≤ g_4 := by have := hf.size; omega
    have hn_2_4 : g_2 < g_4 := by have := hb2.lt; omega
    replace hf := hf.next hq
    replace hy := hy.ext hq
    replace hb2 := hb2.ext hq
    clear hq hz hg
    refine st_storeBA h rfl rfl hb4 rfl (by first | (simp [Value.oneCell', S]; done) | exact Enc.one _ _) sz36 ?_; clear h a; intro w4 hbn hq hz a h
    replace hf := hf.step hq (by first | (simp; done) | (simp; omega))
    replace hy := hy.fr hq (by first | (simp; done) | (simp; omega) | (simp [blks]; done) | (simp [blks]; omega))
    replace hb2 := hb2.fr hq (by first | (simp; done) | (simp; omega) | (simp [blks]; done) | (simp [blks]; omega))
    clear hb4 hq hz; have hb4 : Blk w4 g_4 _ [_, _, _, _, _] := hbn; clear hbn
    replace h : Ag a 65 [(0, _), (2, _), (4, _)] := h.sub (.cons rfl (.cons rfl (.cons rfl .nil)))
    refine wpList_nil (norm_then ?_)
    refine wp_seq ?_
    refine wp_seq ?_
    refine wp_region_lit ?_
    refine st_loadA h rfl hy ag94 rfl ?_; clear h a; intro a h
    refine st_move h rfl rfl ?_; clear h a; intro a h
    refine wpList_nil (norm_then ?_)
    refine wp_block ?_
    refine loop (ι := Nat) (fun i => [(0, S l), (2, .pointer (some ⟨g_2, 0, none⟩)), (4, .pointer (some ⟨g_4, 0, none⟩)), (12, .agg (symbols.flatMap Enc.b.enc).toArray), (13, .int .i64 (i : Int))]) (fun i w' => i ≤ 8 ∧ Blk w' g_4 36 [.int .u8 (kindTo i (l.getD 0 0)), .int .u8 1, .int .i64 0, .int .i64 0, .bool false] ∧ Blk w' g_2 36 [.int .u8 0, .int .u8 0, .int .i64 0, .int .i64 0, .bool false] ∧ Sym w' ∧ Fr [] w0 w') (fun i => 8 - i) 0 (h.sub (.cons rfl (.cons rfl (.cons rfl (.cons rfl (.cons rfl .nil)))))) ⟨by omega, hb4, hb2, hy, hf⟩ ?_
    clear h a hb2 hb4 hf hy
    rintro i w5 a h ⟨hi, hb4, hb2, hy, hf⟩
    refine wp_seq ?_
    refine wp_region_lit ?_
    refine st_lt h rfl rfl rfl ?_; clear h a; intro a h
    refine wpList_nil (norm_then ?_)
    refine wp_seq ?_
    first | refine cond_dec h rfl (fun c1 => ?_) (fun c1 => ?_) | refine cond_ndec h rfl (fun c1 => ?_) (fun c1 => ?_) | refine cond_split h rfl (fun c1 => ?_) (fun c1 => ?_)
    · refine id ?_
      refine wp_skip (norm_then ?_)
      refine wp_seq ?_
      refine wp_block ?_
      refine wp_seq ?_
      refine wp_region_lit ?_
      refine st_move h rfl rfl ?_; clear h a; intro a h
      refine st_idxV (v := .int .u8 ((symbols.getD i 0).toNat : Int)) h rfl rfl Tryd.underlying94 sz5 na5 (by omega) (by omega) (by exact sym_get i (by omega)) rfl ?_; clear h a; intro a h
      refine st_assign h rfl rfl ?_; clear h a; intro a h
      refine st_assign h rfl rfl ?_; clear h a; intro a h
      replace h : Ag a 65 [(0, _), (2, _), (4, _), (5, _), (6, _), (12, _), (13, _)] := h.sub (.cons rfl (.cons rfl (.cons rfl (.cons rfl (.cons rfl (.cons rfl (.cons rfl .nil)))))))
      refine wpList_nil (norm_then ?_)
      refine wp_seq ?_
      refine wp_region_lit ?_
      refine st_move h rfl rfl ?_; clear h a; intro a h
      refine st_move h rfl rfl ?_; clear h a; intro a h
      refine st_index (p := 0) h rfl rfl Tryd.underlying9 (by omega) (by omega) rfl rfl ?_; clear h a; intro hy19 a h
      refine st_eq h rfl rfl rfl ?_; clear h a; intro a h
      replace h : Ag a 65 [(0, _), (2, _), (4, _), (5, _), (12, _), (13, _), (20, _)] := h.sub (.cons rfl (.cons rfl (.cons rfl (.cons rfl (.cons rfl (.cons rfl (.cons rfl .nil)))))))
      refine wpList_nil (norm_then ?_)
      first | refine cond_dec h rfl (fun c2 => ?_) (fun c2 => ?_) | refine cond_ndec h rfl (fun c2 => ?_) (fun c2 => ?_) | refine cond_split h rfl (fun c2 => ?_) (fun c2 => ?_)
      · refine id ?_
        refine wp_region_lit ?_
        refine st_move h rfl rfl ?_; clear h a; intro a h
        refine st_add h rfl rfl (by first | exact IntWalk.i64_in _ (by omega) | rfl) rfl ?_; clear h a; intro a h
        refine st_conv h rfl (by rw [Tryd.underlying3]; rfl) Tryd.underlying34 (by first | exact IntWalk.u8_in _ (by omega) | rfl) rfl ?_; clear h a; intro a h
        refine st_fieldAddr h rfl fa36_0 rfl ?_; clear h a; intro a h
        refine st_storeB h rfl rfl hb4 rfl rfl rfl sz34 ?_; clear h a; intro w6 hbn hq hz a h
        replace hf := hf.step hq (by first | (simp; done) | (simp; omega))
        replace hy := hy.fr hq (by first | (simp; done) | (simp; omega) | (simp [blks]; done) | (simp [blks]; omega))
        replace hb2 := hb2.fr hq (by first | (simp; done) | (simp; omega) | (simp [blks]; done) | (simp [blks]; omega))
        clear hb4 hq hz; have hb4 := hbn; clear hbn
        replace h : Ag a 65 [(0, _), (2, _), (4, _), (12, _), (13, _)] := h.sub (.cons rfl (.cons rfl (.cons rfl (.cons rfl (.cons rfl .nil)))))
        refine wpList_nil (norm_blk (norm_then ?_))
        refine wp_region_lit ?_
        refine st_add h rfl rfl (by first | exact IntWalk.i64_in _ (by omega) | rfl) rfl ?_; clear h a; intro a h
        refine st_move h rfl rfl ?_; clear h a; intro a h
        replace h : Ag a 65 [(0, _), (2, _), (4, _), (12, _), (13, _)] := h.sub (.cons rfl (.cons rfl (.cons rfl (.cons rfl (.cons rfl .nil)))))
        refine wpList_nil (norm_then ?_)
        exact ⟨i + 1, h.sub (.cons rfl (.cons rfl (.cons rfl (.cons rfl (.cons rfl .nil))))), ⟨by omega, by first | (rw [kindTo, if_pos (byte_eq.1 (by assumption))]; exact hb4) | (rw [kindTo, if_neg (fun e => absurd (byte_eq.2 e) (by assumption))]; exact hb4), hb2, hy, hf⟩, by omega⟩
      · refine id ?_
        refine wp_skip (norm_blk (norm_then ?_))
        refine wp_region_lit ?_
        refine st_add h rfl rfl (by first | exact IntWalk.i64_in _ (by omega) | rfl) rfl ?_; clear h a; intro a h
        refine st_move h rfl rfl ?_; clear h a; intro a h
        replace h : Ag a 65 [(0, _), (2, _), (4, _), (12, _), (13, _)] := h.sub (.cons rfl (.cons rfl (.cons rfl (.cons rfl (.cons rfl .nil)))))
        refine wpList_nil (norm_then ?_)
        exact ⟨i + 1, h.sub (.cons rfl (.cons rfl (.cons rfl (.cons rfl (.cons rfl .nil))))), ⟨by omega, by first | (rw [kindTo, if_pos (byte_eq.1 (by assumption))]; exact hb4) | (rw [kindTo, if_neg (fun e => absurd (byte_eq.2 e) (by assumption))]; exact hb4), hb2, hy, hf⟩, by omega⟩
    · obtain rfl : i = 8 := by omega
      refine wp_exit (exit_then (exit_then (exit_here (norm_then ?_))))
      refine wp_seq ?_
      refine wp_region_lit ?_
      refine st_move h rfl rfl ?_; clear h a; intro a h
      refine st_ss_l (p := 1) h rfl rfl Tryd.underlying9 (by omega) (by omega) rfl rfl ?_; clear h a; intro a h
      refine st_assign h rfl rfl ?_; clear h a; intro a h
      replace h : Ag a 65 [(0, _), (2, _), (4, _), (7, _)] := h.sub (.cons rfl (.cons rfl (.cons rfl (.cons rfl .nil))))
      refine wpList_nil (norm_then ?_)
      refine wp_seq ?_
      refine wp_seq ?_
      refine region_bool (r := 35) (L' := [(0, _), (2, _), (4, _), (7, _)]) (kindTo 8 (l.getD 0 0) = 8 ∧ 3 ≤ (l.drop 1).length) h (.cons rfl (.cons rfl (.cons rfl (.cons rfl .nil)))) ?_ ?_
      · refine id ?_
        refine st_fieldAddr h rfl fa36_0 rfl ?_; clear h a; intro a h
        refine st_loadB h rfl hb4 rfl na34 rfl ?_; clear h a; intro a h
        refine st_eq h rfl rfl rfl ?_; clear h a; intro a h
        refine st_move h rfl rfl ?_; clear h a; intro a h
        first | refine guard_dec (D := 31) h rfl ?_ ?_ | refine guard_ndec (D := 31) h rfl ?_ ?_ | refine guard_any (D := 31) h rfl ?_ ?_
        · clear h; intro g0 h
          refine gd_yes h rfl rfl rfl rfl rfl rfl ?_
          refine st_move h rfl rfl ?_; clear h a; intro a h
          refine gd_yes h rfl rfl rfl rfl rfl rfl ?_
          refine st_len h rfl Tryd.underlying9 rfl ?_; clear h a; intro a h
          refine gd_yes h rfl rfl rfl rfl rfl rfl ?_
          refine st_ge h rfl rfl rfl ?_; clear h a; intro a h
          refine st_pick_t h rfl rfl rfl rfl ?_; clear h a; intro a h
          exact wpList_nil (bool_end h rfl (by first | exact bt (by omega) | exact bf (by omega) | exact bi (by omega)) (.cons rfl (.cons rfl (.cons rfl (.cons rfl .nil)))))
        · clear h; intro g0 h
          refine gd_no h rfl rfl rfl rfl rfl rfl rfl rfl ?_; clear h a; intro a h
          refine gd_no h rfl rfl rfl rfl rfl rfl rfl rfl ?_; clear h a; intro a h
          refine gd_no h rfl rfl rfl rfl rfl rfl rfl rfl ?_; clear h a; intro a h
          refine st_pick_f h rfl rfl rfl rfl ?_; clear h a; intro a h
          exact wpList_nil (bool_end h rfl (by first | exact bt (by omega) | exact bf (by omega) | exact bi (by omega)) (.cons rfl (.cons rfl (.cons rfl (.cons rfl .nil)))))
      · clear h a; intro a h
        refine (norm_then ?_)
        first | refine cond_dec h rfl (fun c3 => ?_) (fun c3 => ?_) | refine cond_ndec h rfl (fun c3 => ?_) (fun c3 => ?_) | refine cond_split h rfl (fun c3 => ?_) (fun c3 => ?_)
        · refine id ?_
          refine wp_seq ?_
          refine region_held (fun wb w' => Fr [g_4] wb w') hmix ?_; intro w7 hq
          replace hf := hf.next hq
          replace hy := hy.ext hq
          replace hb2 := hb2.ext hq
          replace hb4 := hb4.ext hq
          clear hq; have hC : Fr [g_4] w7 w7 := Fr.refl _ _
          have hy_b := hy
          have hb2_b := hb2
          have hb4_b := hb4
          refine hd_move 0 (by kernel_rfl) (by kernel_rfl) (by kernel_rfl) hC h rfl rfl rfl ?_; clear h a; intro a h
          refine hd_index (p := 0) 1 (by kernel_rfl) (by kernel_rfl) (by kernel_rfl) hC h rfl rfl Tryd.underlying9 (by omega) (by omega) rfl rfl rfl ?_; clear h a; intro hy37 a h
          refine hd_conv 2 (by kernel_rfl) (by kernel_rfl) (by kernel_rfl) hC h rfl (by rw [Tryd.underlying5]; rfl) Tryd.underlying3 (by first | exact IntWalk.i64_in _ (by omega) | rfl) rfl rfl ?_; clear h a; intro a h
          refine hd_sub 3 (by kernel_rfl) (by kernel_rfl) (by kernel_rfl) hC h rfl rfl (by first | exact IntWalk.i64_in _ (by omega) | rfl) rfl rfl ?_; clear h a; intro a h
          refine hd_move 4 (by kernel_rfl) (by kernel_rfl) (by kernel_rfl) hC h rfl rfl rfl ?_; clear h a; intro a h
          refine hd_index (p := 1) 5 (by kernel_rfl) (by kernel_rfl) (by kernel_rfl) hC h rfl rfl Tryd.underlying9 (by omega) (by omega) rfl rfl rfl ?_; clear h a; intro hy41 a h
          refine hd_conv 6 (by kernel_rfl) (by kernel_rfl) (by kernel_rfl) hC h rfl (by rw [Tryd.underlying5]; rfl) Tryd.underlying3 (by first | exact IntWalk.i64_in _ (by omega) | rfl) rfl rfl ?_; clear h a; intro a h
          refine hd_sub 7 (by kernel_rfl) (by kernel_rfl) (by kernel_rfl) hC h rfl rfl (by first | exact IntWalk.i64_in _ (by omega) | rfl) rfl rfl ?_; clear h a; intro a h
          refine hd_move 8 (by kernel_rfl) (by kernel_rfl) (by kernel_rfl) hC h rfl rfl rfl ?_; clear h a; intro a h
          refine hd_index (p := 2) 9 (by kernel_rfl) (by kernel_rfl) (by kernel_rfl) hC h rfl rfl Tryd.underlying9 (by omega) (by omega) rfl rfl rfl ?_; clear h a; intro hy45 a h
          refine hd_eq 10 (by kernel_rfl) (by kernel_rfl) (by kernel_rfl) hC h rfl rfl rfl rfl ?_; clear h a; intro a h
          refine hd_fieldAddr 11 (by kernel_rfl) (by kernel_rfl) (by kernel_rfl) hC h rfl fa36_2 rfl rfl ?_; clear h a; intro a h
          refine hd_one 12 (by kernel_rfl) rfl ?_
          refine st_storeB h rfl rfl hb4 rfl rfl rfl sz3 ?_; clear h a; intro w8 hbn hq hz a h
          replace hf := hf.step hq (by first | (simp; done) | (simp; omega))
          replace hy := hy.fr hq (by first | (simp; done) | (simp; omega) | (simp [blks]; done) | (simp [blks]; omega))
          replace hb2 := hb2.fr hq (by first | (simp; done) | (simp; omega) | (simp [blks]; done) | (simp [blks]; omega))
          replace hC := hC.step hq (by first | (simp; done) | (simp; omega))
          clear hb4 hq hz; have hb4 := hbn; clear hbn
          refine hd_next hC ?_
          refine hd_fieldAddr 13 (by kernel_rfl) (by kernel_rfl) (by kernel_rfl) hC h rfl fa36_3 rfl rfl ?_; clear h a; intro a h
          refine hd_one 14 (by kernel_rfl) rfl ?_
          refine st_storeB h rfl rfl hb4 rfl rfl rfl sz3 ?_; clear h a; intro w9 hbn hq hz a h
          replace hf := hf.step hq (by first | (simp; done) | (simp; omega))
          replace hy := hy.fr hq (by first | (simp; done) | (simp; omega) | (simp [blks]; done) | (simp [blks]; omega))
          replace hb2 := hb2.fr hq (by first | (simp; done) | (simp; omega) | (simp [blks]; done) | (simp [blks]; omega))
          replace hC := hC.step hq (by first | (simp; done) | (simp; omega))
          clear hb4 hq hz; have hb4 := hbn; clear hbn
          refine hd_next hC ?_
          refine hd_fieldAddr 15 (by kernel_rfl) (by kernel_rfl) (by kernel_rfl) hC h rfl fa36_4 rfl rfl ?_; clear h a; intro a h
          refine hd_one 16 (by kernel_rfl) rfl ?_
          refine st_storeB h rfl rfl hb4 rfl rfl rfl sz4 ?_; clear h a; intro w10 hbn hq hz a h
          replace hf := hf.step hq (by first | (simp; done) | (simp; omega))
          replace hy := hy.fr hq (by first | (simp; done) | (simp; omega) | (simp [blks]; done) | (simp [blks]; omega))
          replace hb2 := hb2.fr hq (by first | (simp; done) | (simp; omega) | (simp [blks]; done) | (simp [blks]; omega))
          replace hC := hC.step hq (by first | (simp; done) | (simp; omega))
          clear hb4 hq hz; have hb4 := hbn; clear hbn
          refine hd_next hC ?_
          refine hd_end (by kernel_rfl) ?_
          clear hC hy_b hb2_b hb4_b
          replace h : Ag a 65 [(0, _), (2, _), (4, _), (7, _)] := h.sub (.cons rfl (.cons rfl (.cons rfl (.cons rfl .nil))))
          refine (norm_then ?_)
          refine wp_region_lit ?_
          refine st_move h rfl rfl ?_; clear h a; intro a h
          refine st_ss_l (p := 3) h rfl rfl Tryd.underlying9 (by omega) (by omega) rfl rfl ?_; clear h a; intro a h
          refine st_assign h rfl rfl ?_; clear h a; intro a h
          replace h : Ag a 65 [(0, _), (2, _), (4, _), (7, _)] := h.sub (.cons rfl (.cons rfl (.cons rfl (.cons rfl .nil))))
          refine wpList_nil (norm_then ?_)
          refine wp_seq ?_
          refine wp_seq ?_
          refine wp_region_lit ?_
          refine st_move h rfl rfl ?_; clear h a; intro a h
          refine st_len h rfl Tryd.underlying9 rfl ?_; clear h a; intro a h
          refine st_eq h rfl rfl rfl ?_; clear h a; intro a h
          replace h : Ag a 65 [(0, _), (2, _), (4, _), (7, _), (54, _)] := h.sub (.cons rfl (.cons rfl (.cons rfl (.cons rfl (.cons rfl .nil)))))
          refine wpList_nil (norm_then ?_)
          first | refine cond_dec h rfl (fun c4 => ?_) (fun c4 => ?_) | refine cond_ndec h rfl (fun c4 => ?_) (fun c4 => ?_) | refine cond_split h rfl (fun c4 => ?_) (fun c4 => ?_)
          · refine id ?_
            refine wp_region_lit ?_
            refine st_move h rfl rfl ?_; clear h a; intro a h
            refine st_index (p := 0) h rfl rfl Tryd.underlying9 (by omega) (by omega) rfl rfl ?_; clear h a; intro hy56 a h
            refine st_sub h rfl rfl (by first | exact IntWalk.u8_in _ (by omega) | rfl) rfl ?_; clear h a; intro a h
            refine st_fieldAddr h rfl fa36_1 rfl ?_; clear h a; intro a h
            refine st_storeB h rfl rfl hb4 rfl rfl rfl sz5 ?_; clear h a; intro w11 hbn hq hz a h
            replace hf := hf.step hq (by first | (simp; done) | (simp; omega))
            replace hy := hy.fr hq (by first | (simp; done) | (simp; omega) | (simp [blks]; done) | (simp [blks]; omega))
            replace hb2 := hb2.fr hq (by first | (simp; done) | (simp; omega) | (simp [blks]; done) | (simp [blks]; omega))
            clear hb4 hq hz; have hb4 := hbn; clear hbn
            replace h : Ag a 65 [(0, _), (2, _), (4, _)] := h.sub (.cons rfl (.cons rfl (.cons rfl .nil)))
            refine wpList_nil (norm_then ?_)
            refine wp_seq ?_
            refine wp_seq ?_
            refine wp_region_lit ?_
            refine st_loadBA h rfl hb4 ag36 rfl ?_; clear h a; intro a h
            refine st_call h (evs_cons rfl evs_nil) co54 (text_ok ⟨_, _, _, _, _⟩ _ hy) rfl ?_; clear h a; rintro _ w12 ⟨rfl, hq⟩ a h
            replace hf := hf.next hq
            replace hy := hy.ext hq
            replace hb2 := hb2.ext hq
            replace hb4 := hb4.ext hq
            clear hq
            refine st_move h rfl rfl ?_; clear h a; intro a h
            refine st_nes h rfl rfl rfl ?_; clear h a; intro a h
            replace h : Ag a 65 [(2, _), (4, _), (62, _)] := h.sub (.cons rfl (.cons rfl (.cons rfl .nil)))
            refine wpList_nil (norm_then ?_)
            first | refine cond_dec h rfl (fun c5 => ?_) (fun c5 => ?_) | refine cond_ndec h rfl (fun c5 => ?_) (fun c5 => ?_) | refine cond_split h rfl (fun c5 => ?_) (fun c5 => ?_)
            · refine id ?_
              refine wp_seq ?_
              refine wp_region_lit ?_
              refine st_lit (cs := [_, _, _, _, _]) h evs_nil bo36 pok_nil rfl rfl ?_; clear h a; intro a h
              refine st_storeBA h rfl rfl hb2 rfl (by first | (simp [Value.oneCell', S]; done) | exact Enc.one _ _) sz36 ?_; clear h a; intro w13 hbn hq hz a h
              replace hf := hf.step hq (by first | (simp; done) | (simp; omega))
              replace hy := hy.fr hq (by first | (simp; done) | (simp; omega) | (simp [blks]; done) | (simp [blks]; omega))
              replace hb4 := hb4.fr hq (by first | (simp; done) | (simp; omega) | (simp [blks]; done) | (simp [blks]; omega))
              clear hb2 hq hz; have hb2 := hbn; clear hbn
              refine st_assign h rfl rfl ?_; clear h a; intro a h
              replace h : Ag a 65 [(2, _), (3, _)] := h.sub (.cons rfl (.cons rfl .nil))
              refine wpList_nil (norm_then ?_)
              refine wp_ret (ret_then ?_)
              refine retCT h Tryd.results28 rfl hb2 ag36 rfl ?_
              exact ⟨_, rfl, by first | (rw [parse_bad (guess_ca c3.1 c3.2 (by omega)) c5]; rfl) | (rw [parse_bad (guess_cb c3.1 c3.2 (by omega)) c5]; rfl) | (rw [parse_bad (guess_na c3 (by omega)) c5]; rfl) | (rw [parse_bad (guess_nb c3 (by omega)) c5]; rfl) | (rw [parse_good c0 (guess_ca c3.1 c3.2 (by omega)) c5]; rfl) | (rw [parse_good c0 (guess_cb c3.1 c3.2 (by omega)) c5]; rfl) | (rw [parse_good c0 (guess_na c3 (by omega)) c5]; rfl) | (rw [parse_good c0 (guess_nb c3 (by omega)) c5]; rfl), hf⟩
            · refine id ?_
              refine wp_skip (norm_then ?_)
              refine wp_seq ?_
              refine wp_region_lit ?_
              refine st_loadBA h rfl hb4 ag36 rfl ?_; clear h a; intro a h
              refine st_storeBA h rfl rfl hb2 rfl (by first | (simp [Value.oneCell', S]; done) | exact Enc.one _ _) sz36 ?_; clear h a; intro w14 hbn hq hz a h
              replace hf := hf.step hq (by first | (simp; done) | (simp; omega))
              replace hy := hy.fr hq (by first | (simp; done) | (simp; omega) | (simp [blks]; done) | (simp [blks]; omega))
              replace hb4 := hb4.fr hq (by first | (simp; done) | (simp; omega) | (simp [blks]; done) | (simp [blks]; omega))
              clear hb2 hq hz; have hb2 := hbn; clear hbn
              refine st_assign h rfl rfl ?_; clear h a; intro a h
              replace h : Ag a 65 [(2, _), (3, _)] := h.sub (.cons rfl (.cons rfl .nil))
              refine wpList_nil (norm_then ?_)
              refine wp_ret ?_
              refine retCT h Tryd.results28 rfl hb2 ag36 rfl ?_
              exact ⟨_, rfl, by first | (rw [parse_bad (guess_ca c3.1 c3.2 (by omega)) c5]; rfl) | (rw [parse_bad (guess_cb c3.1 c3.2 (by omega)) c5]; rfl) | (rw [parse_bad (guess_na c3 (by omega)) c5]; rfl) | (rw [parse_bad (guess_nb c3 (by omega)) c5]; rfl) | (rw [parse_good c0 (guess_ca c3.1 c3.2 (by omega)) c5]; rfl) | (rw [parse_good c0 (guess_cb c3.1 c3.2 (by omega)) c5]; rfl) | (rw [parse_good c0 (guess_na c3 (by omega)) c5]; rfl) | (rw [parse_good c0 (guess_nb c3 (by omega)) c5]; rfl), hf⟩
          · refine id ?_
            refine wp_skip (norm_then ?_)
            refine wp_seq ?_
            refine wp_seq ?_
            refine wp_region_lit ?_
            refine st_loadBA h rfl hb4 ag36 rfl ?_; clear h a; intro a h
            refine st_call h (evs_cons rfl evs_nil) co54 (text_ok ⟨_, _, _, _, _⟩ _ hy) rfl ?_; clear h a; rintro _ w15 ⟨rfl, hq⟩ a h
            replace hf := hf.next hq
            replace hy := hy.ext hq
            replace hb2 := hb2.ext hq
            replace hb4 := hb4.ext hq
            clear hq
            refine st_move h rfl rfl ?_; clear h a; intro a h
            refine st_nes h rfl rfl rfl ?_; clear h a; intro a h
            replace h : Ag a 65 [(2, _), (4, _), (62, _)] := h.sub (.cons rfl (.cons rfl (.cons rfl .nil)))
            refine wpList_nil (norm_then ?_)
            first | refine cond_dec h rfl (fun c5 => ?_) (fun c5 => ?_) | refine cond_ndec h rfl (fun c5 => ?_) (fun c5 => ?_) | refine cond_split h rfl (fun c5 => ?_) (fun c5 => ?_)
            · refine id ?_
              refine wp_seq ?_
              refine wp_region_lit ?_
              refine st_lit (cs := [_, _, _, _, _]) h evs_nil bo36 pok_nil rfl rfl ?_; clear h a; intro a h
              refine st_storeBA h rfl rfl hb2 rfl (by first | (simp [Value.oneCell', S]; done) | exact Enc.one _ _) sz36 ?_; clear h a; intro w16 hbn hq hz a h
              replace hf := hf.step hq (by first | (simp; done) | (simp; omega))
              replace hy := hy.fr hq (by first | (simp; done) | (simp; omega) | (simp [blks]; done) | (simp [blks]; omega))
              replace hb4 := hb4.fr hq (by first | (simp; done) | (simp; omega) | (simp [blks]; done) | (simp [blks]; omega))
              clear hb2 hq hz; have hb2 := hbn; clear hbn
              refine st_assign h rfl rfl ?_; clear h a; intro a h
              replace h : Ag a 65 [(2, _), (3, _)] := h.sub (.cons rfl (.cons rfl .nil))
              refine wpList_nil (norm_then ?_)
              refine wp_ret (ret_then ?_)
              refine retCT h Tryd.results28 rfl hb2 ag36 rfl ?_
              exact ⟨_, rfl, by first | (rw [parse_bad (guess_ca c3.1 c3.2 (by omega)) c5]; rfl) | (rw [parse_bad (guess_cb c3.1 c3.2 (by omega)) c5]; rfl) | (rw [parse_bad (guess_na c3 (by omega)) c5]; rfl) | (rw [parse_bad (guess_nb c3 (by omega)) c5]; rfl) | (rw [parse_good c0 (guess_ca c3.1 c3.2 (by omega)) c5]; rfl) | (rw [parse_good c0 (guess_cb c3.1 c3.2 (by omega)) c5]; rfl) | (rw [parse_good c0 (guess_na c3 (by omega)) c5]; rfl) | (rw [parse_good c0 (guess_nb c3 (by omega)) c5]; rfl), hf⟩
            · refine id ?_
              refine wp_skip (norm_then ?_)
              refine wp_seq ?_
              refine wp_region_lit ?_
              refine st_loadBA h rfl hb4 ag36 rfl ?_; clear h a; intro a h
              refine st_storeBA h rfl rfl hb2 rfl (by first | (simp [Value.oneCell', S]; done) | exact Enc.one _ _) sz36 ?_; clear h a; intro w17 hbn hq hz a h
              replace hf := hf.step hq (by first | (simp; done) | (simp; omega))
              replace hy := hy.fr hq (by first | (simp; done) | (simp; omega) | (simp [blks]; done) | (simp [blks]; omega))
              replace hb4 := hb4.fr hq (by first | (simp; done) | (simp; omega) | (simp [blks]; done) | (simp [blks]; omega))
              clear hb2 hq hz; have hb2 := hbn; clear hbn
              refine st_assign h rfl rfl ?_; clear h a; intro a h
              replace h : Ag a 65 [(2, _), (3, _)] := h.sub (.cons rfl (.cons rfl .nil))
              refine wpList_nil (norm_then ?_)
              refine wp_ret ?_
              refine retCT h Tryd.results28 rfl hb2 ag36 rfl ?_
              exact ⟨_, rfl, by first | (rw [parse_bad (guess_ca c3.1 c3.2 (by omega)) c5]; rfl) | (rw [parse_bad (guess_cb c3.1 c3.2 (by omega)) c5]; rfl) | (rw [parse_bad (guess_na c3 (by omega)) c5]; rfl) | (rw [parse_bad (guess_nb c3 (by omega)) c5]; rfl) | (rw [parse_good c0 (guess_ca c3.1 c3.2 (by omega)) c5]; rfl) | (rw [parse_good c0 (guess_cb c3.1 c3.2 (by omega)) c5]; rfl) | (rw [parse_good c0 (guess_na c3 (by omega)) c5]; rfl) | (rw [parse_good c0 (guess_nb c3 (by omega)) c5]; rfl), hf⟩
        · refine id ?_
          refine wp_skip (norm_then ?_)
          refine wp_seq ?_
          refine wp_seq ?_
          refine wp_region_lit ?_
          refine st_move h rfl rfl ?_; clear h a; intro a h
          refine st_len h rfl Tryd.underlying9 rfl ?_; clear h a; intro a h
          refine st_eq h rfl rfl rfl ?_; clear h a; intro a h
          replace h : Ag a 65 [(0, _), (2, _), (4, _), (7, _), (54, _)] := h.sub (.cons rfl (.cons rfl (.cons rfl (.cons rfl (.cons rfl .nil)))))
          refine wpList_nil (norm_then ?_)
          first | refine cond_dec h rfl (fun c4 => ?_) (fun c4 => ?_) | refine cond_ndec h rfl (fun c4 => ?_) (fun c4 => ?_) | refine cond_split h rfl (fun c4 => ?_) (fun c4 => ?_)
          · refine id ?_
            refine wp_region_lit ?_
            refine st_move h rfl rfl ?_; clear h a; intro a h
            refine st_index (p := 0) h rfl rfl Tryd.underlying9 (by omega) (by omega) rfl rfl ?_; clear h a; intro hy56 a h
            refine st_sub h rfl rfl (by first | exact IntWalk.u8_in _ (by omega) | rfl) rfl ?_; clear h a; intro a h
            refine st_fieldAddr h rfl fa36_1 rfl ?_; clear h a; intro a h
            refine st_storeB h rfl rfl hb4 rfl rfl rfl sz5 ?_; clear h a; intro w18 hbn hq hz a h
            replace hf := hf.step hq (by first | (simp; done) | (simp; omega))
            replace hy := hy.fr hq (by first | (simp; done) | (simp; omega) | (simp [blks]; done) | (simp [blks]; omega))
            replace hb2 := hb2.fr hq (by first | (simp; done) | (simp; omega) | (simp [blks]; done) | (simp [blks]; omega))
            clear hb4 hq hz; have hb4 := hbn; clear hbn
            replace h : Ag a 65 [(0, _), (2, _), (4, _)] := h.sub (.cons rfl (.cons rfl (.cons rfl .nil)))
            refine wpList_nil (norm_then ?_)
            refine wp_seq ?_
            refine wp_seq ?_
            refine wp_region_lit ?_
            refine st_loadBA h rfl hb4 ag36 rfl ?_; clear h a; intro a h
            refine st_call h (evs_cons rfl evs_nil) co54 (text_ok ⟨_, _, _, _, _⟩ _ hy) rfl ?_; clear h a; rintro _ w19 ⟨rfl, hq⟩ a h
            replace hf := hf.next hq
            replace hy := hy.ext hq
            replace hb2 := hb2.ext hq
            replace hb4 := hb4.ext hq
            clear hq
            refine st_move h rfl rfl ?_; clear h a; intro a h
            refine st_nes h rfl rfl rfl ?_; clear h a; intro a h
            replace h : Ag a 65 [(2, _), (4, _), (62, _)] := h.sub (.cons rfl (.cons rfl (.cons rfl .nil)))
            refine wpList_nil (norm_then ?_)
            first | refine cond_dec h rfl (fun c5 => ?_) (fun c5 => ?_) | refine cond_ndec h rfl (fun c5 => ?_) (fun c5 => ?_) | refine cond_split h rfl (fun c5 => ?_) (fun c5 => ?_)
            · refine id ?_
              refine wp_seq ?_
              refine wp_region_lit ?_
              refine st_lit (cs := [_, _, _, _, _]) h evs_nil bo36 pok_nil rfl rfl ?_; clear h a; intro a h
              refine st_storeBA h rfl rfl hb2 rfl (by first | (simp [Value.oneCell', S]; done) | exact Enc.one _ _) sz36 ?_; clear h a; intro w20 hbn hq hz a h
              replace hf := hf.step hq (by first | (simp; done) | (simp; omega))
              replace hy := hy.fr hq (by first | (simp; done) | (simp; omega) | (simp [blks]; done) | (simp [blks]; omega))
              replace hb4 := hb4.fr hq (by first | (simp; done) | (simp; omega) | (simp [blks]; done) | (simp [blks]; omega))
              clear hb2 hq hz; have hb2 := hbn; clear hbn
              refine st_assign h rfl rfl ?_; clear h a; intro a h
              replace h : Ag a 65 [(2, _), (3, _)] := h.sub (.cons rfl (.cons rfl .nil))
              refine wpList_nil (norm_then ?_)
              refine wp_ret (ret_then ?_)
              refine retCT h Tryd.results28 rfl hb2 ag36 rfl ?_
              exact ⟨_, rfl, by first | (rw [parse_bad (guess_ca c3.1 c3.2 (by omega)) c5]; rfl) | (rw [parse_bad (guess_cb c3.1 c3.2 (by omega)) c5]; rfl) | (rw [parse_bad (guess_na c3 (by omega)) c5]; rfl) | (rw [parse_bad (guess_nb c3 (by omega)) c5]; rfl) | (rw [parse_good c0 (guess_ca c3.1 c3.2 (by omega)) c5]; rfl) | (rw [parse_good c0 (guess_cb c3.1 c3.2 (by omega)) c5]; rfl) | (rw [parse_good c0 (guess_na c3 (by omega)) c5]; rfl) | (rw [parse_good c0 (guess_nb c3 (by omega)) c5]; rfl), hf⟩
            · refine id ?_
              refine wp_skip (norm_then ?_)
              refine wp_seq ?_
              refine wp_region_lit ?_
              refine st_loadBA h rfl hb4 ag36 rfl ?_; clear h a; intro a h
              refine st_storeBA h rfl rfl hb2 rfl (by first | (simp [Value.oneCell', S]; done) | exact Enc.one _ _) sz36 ?_; clear h a; intro w21 hbn hq hz a h
              replace hf := hf.step hq (by first | (simp; done) | (simp; omega))
              replace hy := hy.fr hq (by first | (simp; done) | (simp; omega) | (simp [blks]; done) | (simp [blks]; omega))
              replace hb4 := hb4.fr hq (by first | (simp; done) | (simp; omega) | (simp [blks]; done) | (simp [blks]; omega))
              clear hb2 hq hz; have hb2 := hbn; clear hbn
              refine st_assign h rfl rfl ?_; clear h a; intro a h
              replace h : Ag a 65 [(2, _), (3, _)] := h.sub (.cons rfl (.cons rfl .nil))
              refine wpList_nil (norm_then ?_)
              refine wp_ret ?_
              refine retCT h Tryd.results28 rfl hb2 ag36 rfl ?_
              exact ⟨_, rfl, by first | (rw [parse_bad (guess_ca c3.1 c3.2 (by omega)) c5]; rfl) | (rw [parse_bad (guess_cb c3.1 c3.2 (by omega)) c5]; rfl) | (rw [parse_bad (guess_na c3 (by omega)) c5]; rfl) | (rw [parse_bad (guess_nb c3 (by omega)) c5]; rfl) | (rw [parse_good c0 (guess_ca c3.1 c3.2 (by omega)) c5]; rfl) | (rw [parse_good c0 (guess_cb c3.1 c3.2 (by omega)) c5]; rfl) | (rw [parse_good c0 (guess_na c3 (by omega)) c5]; rfl) | (rw [parse_good c0 (guess_nb c3 (by omega)) c5]; rfl), hf⟩
          · refine id ?_
            refine wp_skip (norm_then ?_)
            refine wp_seq ?_
            refine wp_seq ?_
            refine wp_region_lit ?_
            refine st_loadBA h rfl hb4 ag36 rfl ?_; clear h a; intro a h
            refine st_call h (evs_cons rfl evs_nil) co54 (text_ok ⟨_, _, _, _, _⟩ _ hy) rfl ?_; clear h a; rintro _ w22 ⟨rfl, hq⟩ a h
            replace hf := hf.next hq
            replace hy := hy.ext hq
            replace hb2 := hb2.ext hq
            replace hb4 := hb4.ext hq
            clear hq
            refine st_move h rfl rfl ?_; clear h a; intro a h
            refine st_nes h rfl rfl rfl ?_; clear h a; intro a h
            replace h : Ag a 65 [(2, _), (4, _), (62, _)] := h.sub (.cons rfl (.cons rfl (.cons rfl .nil)))
            refine wpList_nil (norm_then ?_)
            first | refine cond_dec h rfl (fun c5 => ?_) (fun c5 => ?_) | refine cond_ndec h rfl (fun c5 => ?_) (fun c5 => ?_) | refine cond_split h rfl (fun c5 => ?_) (fun c5 => ?_)
            · refine id ?_
              refine wp_seq ?_
              refine wp_region_lit ?_
              refine st_lit (cs := [_, _, _, _, _]) h evs_nil bo36 pok_nil rfl rfl ?_; clear h a; intro a h
              refine st_storeBA h rfl rfl hb2 rfl (by first | (simp [Value.oneCell', S]; done) | exact Enc.one _ _) sz36 ?_; clear h a; intro w23 hbn hq hz a h
              replace hf := hf.step hq (by first | (simp; done) | (simp; omega))
              replace hy := hy.fr hq (by first | (simp; done) | (simp; omega) | (simp [blks]; done) | (simp [blks]; omega))
              replace hb4 := hb4.fr hq (by first | (simp; done) | (simp; omega) | (simp [blks]; done) | (simp [blks]; omega))
              clear hb2 hq hz; have hb2 := hbn; clear hbn
              refine st_assign h rfl rfl ?_; clear h a; intro a h
              replace h : Ag a 65 [(2, _), (3, _)] := h.sub (.cons rfl (.cons rfl .nil))
              refine wpList_nil (norm_then ?_)
              refine wp_ret (ret_then ?_)
              refine retCT h Tryd.results28 rfl hb2 ag36 rfl ?_
              exact ⟨_, rfl, by first | (rw [parse_bad (guess_ca c3.1 c3.2 (by omega)) c5]; rfl) | (rw [parse_bad (guess_cb c3.1 c3.2 (by omega)) c5]; rfl) | (rw [parse_bad (guess_na c3 (by omega)) c5]; rfl) | (rw [parse_bad (guess_nb c3 (by omega)) c5]; rfl) | (rw [parse_good c0 (guess_ca c3.1 c3.2 (by omega)) c5]; rfl) | (rw [parse_good c0 (guess_cb c3.1 c3.2 (by omega)) c5]; rfl) | (rw [parse_good c0 (guess_na c3 (by omega)) c5]; rfl) | (rw [parse_good c0 (guess_nb c3 (by omega)) c5]; rfl), hf⟩
            · refine id ?_
              refine wp_skip (norm_then ?_)
              refine wp_seq ?_
              refine wp_region_lit ?_
              refine st_loadBA h rfl hb4 ag36 rfl ?_; clear h a; intro a h
              refine st_storeBA h rfl rfl hb2 rfl (by first | (simp [Value.oneCell', S]; done) | exact Enc.one _ _) sz36 ?_; clear h a; intro w24 hbn hq hz a h
              replace hf := hf.step hq (by first | (simp; done) | (simp; omega))
              replace hy := hy.fr hq (by first | (simp; done) | (simp; omega) | (simp [blks]; done) | (simp [blks]; omega))
              replace hb4 := hb4.fr hq (by first | (simp; done) | (simp; omega) | (simp [blks]; done) | (simp [blks]; omega))
              clear hb2 hq hz; have hb2 := hbn; clear hbn
              refine st_assign h rfl rfl ?_; clear h a; intro a h
              replace h : Ag a 65 [(2, _), (3, _)] := h.sub (.cons rfl (.cons rfl .nil))
              refine wpList_nil (norm_then ?_)
              refine wp_ret ?_
              refine retCT h Tryd.results28 rfl hb2 ag36 rfl ?_
              exact ⟨_, rfl, by first | (rw [parse_bad (guess_ca c3.1 c3.2 (by omega)) c5]; rfl) | (rw [parse_bad (guess_cb c3.1 c3.2 (by omega)) c5]; rfl) | (rw [parse_bad (guess_na c3 (by omega)) c5]; rfl) | (rw [parse_bad (guess_nb c3 (by omega)) c5]; rfl) | (rw [parse_good c0 (guess_ca c3.1 c3.2 (by omega)) c5]; rfl) | (rw [parse_good c0 (guess_cb c3.1 c3.2 (by omega)) c5]; rfl) | (rw [parse_good c0 (guess_na c3 (by omega)) c5]; rfl) | (rw [parse_good c0 (guess_nb c3 (by omega)) c5]; rfl), hf⟩
end Go.Proofs.YtbbnampdgefljaaDoor
namespace Go.Proofs.YtbbnampdgefljaaDoor
open Go.Lw Go.G14
theorem less_ok (l m : List UInt8) (w0 : World) : Rets Tryd.prog 17 #[S l, S m] w0 fun v w' => v = .int .i64 (if lessP l m then 1 else 0) ∧ w0 = w' := by
  refine enter [(0, S l), (1, S m)] Tryd.func17 rfl Tryd.ntmps17 rfl (.cons rfl (.cons rfl .nil)) ?_
  intro a h
  refine wp_seq ?_
  refine wp_region_lit ?_
  refine st_assign h rfl rfl ?_; clear h a; intro a h
  replace h : Ag a 22 [(0, _), (1, _)] := h.sub (.cons rfl (.cons rfl .nil))
  refine wpList_nil (norm_then ?_)
  refine wp_seq ?_
  refine wp_seq ?_
  refine region_bool (r := 21) (L' := []) (lessP l m) h .nil ?_ ?_
  · refine id ?_
    refine st_move h rfl rfl ?_; clear h a; intro a h
    refine st_len h rfl Tryd.underlying9 rfl ?_; clear h a; intro a h
    refine st_move h rfl rfl ?_; clear h a; intro a h
    refine st_len h rfl Tryd.underlying9 rfl ?_; clear h a; intro a h
    refine st_lt h rfl rfl rfl ?_; clear h a; intro a h
    refine st_move h rfl rfl ?_; clear h a; intro a h
    first | refine guard_dec (D := 10) h rfl ?_ ?_ | refine guard_ndec (D := 10) h rfl ?_ ?_ | refine guard_any (D := 10) h rfl ?_ ?_
    · clear h; intro g0 h
      refine gd_no h rfl rfl rfl rfl rfl rfl rfl rfl ?_; clear h a; intro a h
      refine gd_no h rfl rfl rfl rfl rfl rfl rfl rfl ?_; clear h a; intro a h
      refine gd_no h rfl rfl rfl rfl rfl rfl rfl rfl ?_; clear h a; intro a h
      refine gd_no h rfl rfl rfl rfl rfl rfl rfl rfl ?_; clear h a; intro a h
      refine gd_no h rfl rfl rfl rfl rfl rfl rfl rfl ?_; clear h a; intro a h
      refine gd_no h rfl rfl rfl rfl rfl rfl rfl rfl ?_; clear h a; intro a h
      refine gd_skip h rfl rfl rfl rfl rfl rfl rfl ?_; clear h a; intro a h
      refine gd_skip h rfl rfl rfl rfl rfl rfl rfl ?_; clear h a; intro a h
      refine gd_skip h rfl rfl rfl rfl rfl rfl rfl ?_; clear h a; intro a h
      refine gd_no h rfl rfl rfl rfl rfl rfl rfl rfl ?_; clear h a; intro a h
      refine st_pick_t h rfl rfl rfl rfl ?_; clear h a; intro a h
      exact wpList_nil (bool_end h rfl (by first | exact bt (.inl (by omega)) | exact bf (by rintro (h | h) <;> omega) | exact bb ⟨fun e => .inr ⟨by omega, e⟩, by rintro (h | h); omega; exact h.2⟩) .nil)
    · clear h; intro g0 h
      refine gd_yes h rfl rfl rfl rfl rfl rfl ?_
      refine st_move h rfl rfl ?_; clear h a; intro a h
      refine gd_yes h rfl rfl rfl rfl rfl rfl ?_
      refine st_len h rfl Tryd.underlying9 rfl ?_; clear h a; intro a h
      refine gd_yes h rfl rfl rfl rfl rfl rfl ?_
      refine st_move h rfl rfl ?_; clear h a; intro a h
      refine gd_yes h rfl rfl rfl rfl rfl rfl ?_
      refine st_len h rfl Tryd.underlying9 rfl ?_; clear h a; intro a h
      refine gd_yes h rfl rfl rfl rfl rfl rfl ?_
      refine st_eq h rfl rfl rfl ?_; clear h a; intro a h
      refine gd_yes h rfl rfl rfl rfl rfl rfl ?_
      refine st_move h rfl rfl ?_; clear h a; intro a h
      first | refine guard_dec (D := 16) h rfl ?_ ?_ | refine guard_ndec (D := 16) h rfl ?_ ?_ | refine guard_any (D := 16) h rfl ?_ ?_
      · clear h; intro g1 h
        refine gd_yes h rfl rfl rfl rfl rfl rfl ?_
        refine st_move h rfl rfl ?_; clear h a; intro a h
        refine gd_yes h rfl rfl rfl rfl rfl rfl ?_
        refine st_move h rfl rfl ?_; clear h a; intro a h
        refine gd_yes h rfl rfl rfl rfl rfl rfl ?_
        refine st_lts h rfl rfl rfl ?_; clear h a; intro a h
        refine gd_yes h rfl rfl rfl rfl rfl rfl ?_
        refine st_pick_t h rfl rfl rfl rfl ?_; clear h a; intro a h
        refine st_pick_f h rfl rfl rfl rfl ?_; clear h a; intro a h
        exact wpList_nil (bool_end h rfl (by first | exact bt (.inl (by omega)) | exact bf (by rintro (h | h) <;> omega) | exact bb ⟨fun e => .inr ⟨by omega, e⟩, by rintro (h | h); omega; exact h.2⟩) .nil)
      · clear h; intro g1 h
        refine gd_no h rfl rfl rfl rfl rfl rfl rfl rfl ?_; clear h a; intro a h
        refine gd_no h rfl rfl rfl rfl rfl rfl rfl rfl ?_; clear h a; intro a h
        refine gd_no h rfl rfl rfl rfl rfl rfl rfl rfl ?_; clear h a; intro a h
        refine gd_yes h rfl rfl rfl rfl rfl rfl ?_
        refine st_pick_f h rfl rfl rfl rfl ?_; clear h a; intro a h
        refine st_pick_f h rfl rfl rfl rfl ?_; clear h a; intro a h
        exact wpList_nil (bool_end h rfl (by first | exact bt (.inl (by omega)) | exact bf (by rintro (h | h) <;> omega) | exact bb ⟨fun e => .inr ⟨by omega, e⟩, by rintro (h | h); omega; exact h.2⟩) .nil)
  · clear h a; intro a h
    refine (norm_then ?_)
    first | refine cond_dec h rfl (fun c0 => ?_) (fun c0 => ?_) | refine cond_ndec h rfl (fun c0 => ?_) (fun c0 => ?_) | refine cond_split h rfl (fun c0 => ?_) (fun c0 => ?_)
    · refine id ?_
      refine wp_seq ?_
      refine wp_region_lit ?_
      refine st_assign h rfl rfl ?_; clear h a; intro a h
      replace h : Ag a 22 [(4, _)] := h.sub (.cons rfl .nil)
      refine wpList_nil (norm_then ?_)
      refine wp_ret (ret_then ?_)
      refine ret1 h Tryd.results17 rfl ?_
      exact ⟨_, rfl, by first | rw [if_pos c0] | rw [if_neg c0], rfl⟩
    · refine id ?_
      refine wp_skip (norm_then ?_)
      refine wp_seq ?_
      refine wp_region_lit ?_
      refine st_assign h rfl rfl ?_; clear h a; intro a h
      replace h : Ag a 22 [(4, _)] := h.sub (.cons rfl .nil)
      refine wpList_nil (norm_then ?_)
      refine wp_ret ?_
      refine ret1 h Tryd.results17 rfl ?_
      exact ⟨_, rfl, by first | rw [if_pos c0] | rw [if_neg c0], rfl⟩
theorem number_ok (l : List UInt8) (most : Int) (w0 : World) : Rets Tryd.prog 27 #[S l, .int .i64 most] w0 fun v w' => v = .int .i64 (numberS l most) ∧ w0 = w' := by
  refine enter [(0, S l), (1, .int .i64 most)] Tryd.func27 rfl Tryd.ntmps27 rfl (.cons rfl (.cons rfl .nil)) ?_
  intro a h
  refine wp_seq ?_
  refine wp_region_lit ?_
  refine st_assign h rfl rfl ?_; clear h a; intro a h
  replace h : Ag a 52 [(0, _), (1, _)] := h.sub (.cons rfl (.cons rfl .nil))
  refine wpList_nil (norm_then ?_)
  refine wp_seq ?_
  refine wp_seq ?_
  refine region_bool (r := 19) (L' := [(0, _), (1, _)]) (l.length = 0 ∨ 2 < l.length ∨ ((l.getD 0 0).toNat : Int) = 48) h (.cons rfl (.cons rfl .nil)) ?_ ?_
  · refine id ?_
    refine st_move h rfl rfl ?_; clear h a; intro a h
    refine st_len h rfl Tryd.underlying9 rfl ?_; clear h a; intro a h
    refine st_eq h rfl rfl rfl ?_; clear h a; intro a h
    refine st_move h rfl rfl ?_; clear h a; intro a h
    first | refine guard_dec (D := 10) h rfl ?_ ?_ | refine guard_ndec (D := 10) h rfl ?_ ?_ | refine guard_any (D := 10) h rfl ?_ ?_
    · clear h; intro g0 h
      refine gd_no h rfl rfl rfl rfl rfl rfl rfl rfl ?_; clear h a; intro a h
      refine gd_no h rfl rfl rfl rfl rfl rfl rfl rfl ?_; clear h a; intro a h
      refine gd_no h rfl rfl rfl rfl rfl rfl rfl rfl ?_; clear h a; intro a h
      refine st_pick_t h rfl rfl rfl rfl ?_; clear h a; intro a h
      refine st_move h rfl rfl ?_; clear h a; intro a h
      refine gd_no h rfl rfl rfl rfl rfl rfl rfl rfl ?_; clear h a; intro a h
      refine gd_no h rfl rfl rfl rfl rfl rfl rfl rfl ?_; clear h a; intro a h
      refine gd_no h rfl rfl rfl rfl rfl rfl rfl rfl ?_; clear h a; intro a h
      refine st_pick_t h rfl rfl rfl rfl ?_; clear h a; intro a h
      exact wpList_nil (bool_end h rfl (by first | exact bt (by omega) | exact bf (by omega) | exact bi (by omega) | exact bn (by omega)) (.cons rfl (.cons rfl .nil)))
    · clear h; intro g0 h
      refine gd_yes h rfl rfl rfl rfl rfl rfl ?_
      refine st_move h rfl rfl ?_; clear h a; intro a h
      refine gd_yes h rfl rfl rfl rfl rfl rfl ?_
      refine st_len h rfl Tryd.underlying9 rfl ?_; clear h a; intro a h
      refine gd_yes h rfl rfl rfl rfl rfl rfl ?_
      refine st_gt h rfl rfl rfl ?_; clear h a; intro a h
      refine st_pick_f h rfl rfl rfl rfl ?_; clear h a; intro a h
      refine st_move h rfl rfl ?_; clear h a; intro a h
      first | refine guard_dec (D := 15) h rfl ?_ ?_ | refine guard_ndec (D := 15) h rfl ?_ ?_ | refine guard_any (D := 15) h rfl ?_ ?_
      · clear h; intro g1 h
        refine gd_no h rfl rfl rfl rfl rfl rfl rfl rfl ?_; clear h a; intro a h
        refine gd_no h rfl rfl rfl rfl rfl rfl rfl rfl ?_; clear h a; intro a h
        refine gd_no h rfl rfl rfl rfl rfl rfl rfl rfl ?_; clear h a; intro a h
        refine st_pick_t h rfl rfl rfl rfl ?_; clear h a; intro a h
        exact wpList_nil (bool_end h rfl (by first | exact bt (by omega) | exact bf (by omega) | exact bi (by omega) | exact bn (by omega)) (.cons rfl (.cons rfl .nil)))
      · clear h; intro g1 h
        refine gd_yes h rfl rfl rfl rfl rfl rfl ?_
        refine st_move h rfl rfl ?_; clear h a; intro a h
        refine gd_yes h rfl rfl rfl rfl rfl rfl ?_
        refine st_index (p := 0) h rfl rfl Tryd.underlying9 (by omega) (by omega) rfl rfl ?_; clear h a; intro hy17 a h
        refine gd_yes h rfl rfl rfl rfl rfl rfl ?_
        refine st_eq h rfl rfl rfl ?_; clear h a; intro a h
        refine st_pick_f h rfl rfl rfl rfl ?_; clear h a; intro a h
        exact wpList_nil (bool_end h rfl (by first | exact bt (by omega) | exact bf (by omega) | exact bi (by omega) | exact bn (by omega)) (.cons rfl (.cons rfl .nil)))
  · clear h a; intro a h
    refine (norm_then ?_)
    first | refine cond_dec h rfl (fun c0 => ?_) (fun c0 => ?_) | refine cond_ndec h rfl (fun c0 => ?_) (fun c0 => ?_) | refine cond_split h rfl (fun c0 => ?_) (fun c0 => ?_)
    · refine id ?_
      refine wp_seq ?_
      refine wp_region_lit ?_
      refine st_assign h rfl rfl ?_; clear h a; intro a h
      replace h : Ag a 52 [(4, _)] := h.sub (.cons rfl .nil)
      refine wpList_nil (norm_then ?_)
      refine wp_ret (ret_then ?_)
      refine ret1 h Tryd.results27 rfl ?_
      exact ⟨_, rfl, by first | rw [numberS, if_pos c0] | rw [numberS, if_neg c0, if_pos (not_all_of l k (by omega) c2)] | rw [numberS, if_neg c0, if_neg (by rw [ha]; simp), if_pos c3] | rw [numberS, if_neg c0, if_neg (by rw [ha]; simp), if_neg c3], rfl⟩
    · refine id ?_
      refine wp_skip (norm_then ?_)
      refine wp_seq ?_
      refine wp_region_lit ?_
      refine st_assign h rfl rfl ?_; clear h a; intro a h
      replace h : Ag a 52 [(0, _), (1, _), (5, _)] := h.sub (.cons rfl (.cons rfl (.cons rfl .nil)))
      refine wpList_nil (norm_then ?_)
      refine wp_seq ?_
      refine wp_seq ?_
      refine wp_region_lit ?_
      refine st_assign h rfl rfl ?_; clear h a; intro a h
      refine wpList_nil (norm_then ?_)
      refine wp_block ?_
      refine loop (ι := Nat) (fun k => [(0, S l), (1, .int .i64 most), (5, .int .i64 (valS (l.take k))), (6, .int .i64 (k : Int))]) (fun k w' => k ≤ l.length ∧ (l.take k).all isDig = true ∧ w' = w0) (fun k => l.length - k) 0 (h.sub (.cons rfl (.cons rfl (.cons rfl (.cons rfl .nil))))) ⟨by omega, rfl, rfl⟩ ?_
      clear h a
      rintro k w1 a h ⟨hk, ha, rfl⟩
      refine wp_seq ?_
      refine wp_seq ?_
      refine wp_region_lit ?_
      refine st_move h rfl rfl ?_; clear h a; intro a h
      refine st_move h rfl rfl ?_; clear h a; intro a h
      refine st_len h rfl Tryd.underlying9 rfl ?_; clear h a; intro a h
      refine st_lt h rfl rfl rfl ?_; clear h a; intro a h
      replace h : Ag a 52 [(0, _), (1, _), (5, _), (6, _), (23, _)] := h.sub (.cons rfl (.cons rfl (.cons rfl (.cons rfl (.cons rfl .nil)))))
      refine wpList_nil (norm_then ?_)
      first | refine cond_dec h rfl (fun c1 => ?_) (fun c1 => ?_) | refine cond_ndec h rfl (fun c1 => ?_) (fun c1 => ?_) | refine cond_split h rfl (fun c1 => ?_) (fun c1 => ?_)
      · have hv := valS_two l k (by omega) ha
        refine wp_skip (norm_then ?_)
        refine wp_seq ?_
        refine wp_block ?_
        refine wp_seq ?_
        refine wp_seq ?_
        refine region_bool (r := 35) (L' := [(0, _), (1, _), (5, _), (6, _)]) (¬ (48 ≤ ((l.getD k 0).toNat : Int) ∧ ((l.getD k 0).toNat : Int) ≤ 57)) h (.cons rfl (.cons rfl (.cons rfl (.cons rfl .nil)))) ?_ ?_
        · refine id ?_
          refine st_move h rfl rfl ?_; clear h a; intro a h
          refine st_move h rfl rfl ?_; clear h a; intro a h
          refine st_index (p := k) h rfl rfl Tryd.underlying9 (by omega) (by omega) (by omega) rfl ?_; clear h a; intro hy28 a h
          refine st_lt h rfl rfl rfl ?_; clear h a; intro a h
          refine st_move h rfl rfl ?_; clear h a; intro a h
          first | refine guard_dec (D := 30) h rfl ?_ ?_ | refine guard_ndec (D := 30) h rfl ?_ ?_ | refine guard_any (D := 30) h rfl ?_ ?_
          · clear h; intro g2 h
            refine gd_no h rfl rfl rfl rfl rfl rfl rfl rfl ?_; clear h a; intro a h
            refine gd_no h rfl rfl rfl rfl rfl rfl rfl rfl ?_; clear h a; intro a h
            refine gd_no h rfl rfl rfl rfl rfl rfl rfl rfl ?_; clear h a; intro a h
            refine gd_no h rfl rfl rfl rfl rfl rfl rfl rfl ?_; clear h a; intro a h
            refine st_pick_t h rfl rfl rfl rfl ?_; clear h a; intro a h
            exact wpList_nil (bool_end h rfl (by first | exact bt (by omega) | exact bf (by omega) | exact bi (by omega) | exact bn (by omega)) (.cons rfl (.cons rfl (.cons rfl (.cons rfl .nil)))))
          · clear h; intro g2 h
            refine gd_yes h rfl rfl rfl rfl rfl rfl ?_
            refine st_move h rfl rfl ?_; clear h a; intro a h
            refine gd_yes h rfl rfl rfl rfl rfl rfl ?_
            refine st_move h rfl rfl ?_; clear h a; intro a h
            refine gd_yes h rfl rfl rfl rfl rfl rfl ?_
            refine st_index (p := k) h rfl rfl Tryd.underlying9 (by omega) (by omega) (by omega) rfl ?_; clear h a; intro hy33 a h
            refine gd_yes h rfl rfl rfl rfl rfl rfl ?_
            refine st_gt h rfl rfl rfl ?_; clear h a; intro a h
            refine st_pick_f h rfl rfl rfl rfl ?_; clear h a; intro a h
            exact wpList_nil (bool_end h rfl (by first | exact bt (by omega) | exact bf (by omega) | exact bi (by omega) | exact bn (by omega)) (.cons rfl (.cons rfl (.cons rfl (.cons rfl .nil)))))
        · clear h a; intro a h
          refine (norm_then ?_)
          first | refine cond_dec h rfl (fun c2 => ?_) (fun c2 => ?_) | refine cond_ndec h rfl (fun c2 => ?_) (fun c2 => ?_) | refine cond_split h rfl (fun c2 => ?_) (fun c2 => ?_)
          · refine id ?_
            refine wp_seq ?_
            refine wp_region_lit ?_
            refine st_assign h rfl rfl ?_; clear h a; intro a h
            replace h : Ag a 52 [(4, _)] := h.sub (.cons rfl .nil)
            refine wpList_nil (norm_then ?_)
            refine wp_ret (ret_then (ret_blk (ret_then (ret_then (ret_blk (ret_then ?_))))))
            refine ret1 h Tryd.results27 rfl ?_
            exact ⟨_, rfl, by first | rw [numberS, if_pos c0] | rw [numberS, if_neg c0, if_pos (not_all_of l k (by omega) c2)] | rw [numberS, if_neg c0, if_neg (by rw [ha]; simp), if_pos c3] | rw [numberS, if_neg c0, if_neg (by rw [ha]; simp), if_neg c3], rfl⟩
          · refine id ?_
            refine wp_skip (norm_then ?_)
            refine wp_region_lit ?_
            refine st_move h rfl rfl ?_; clear h a; intro a h
            refine st_mul h rfl rfl (by first | exact IntWalk.i64_in _ (by omega) | rfl) rfl ?_; clear h a; intro a h
            refine st_move h rfl rfl ?_; clear h a; intro a h
            refine st_move h rfl rfl ?_; clear h a; intro a h
            refine st_index (p := k) h rfl rfl Tryd.underlying9 (by omega) (by omega) (by omega) rfl ?_; clear h a; intro hy40 a h
            refine st_sub h rfl rfl (by first | exact IntWalk.u8_in _ (by omega) | rfl) rfl ?_; clear h a; intro a h
            refine st_conv h rfl (by rw [Tryd.underlying5]; rfl) Tryd.underlying3 (by first | exact IntWalk.i64_in _ (by omega) | rfl) rfl ?_; clear h a; intro a h
            refine st_add h rfl rfl (by first | exact IntWalk.i64_in _ (by omega) | rfl) rfl ?_; clear h a; intro a h
            refine st_assign h rfl rfl ?_; clear h a; intro a h
            replace h : Ag a 52 [(0, _), (1, _), (5, _), (6, _)] := h.sub (.cons rfl (.cons rfl (.cons rfl (.cons rfl .nil))))
            refine wpList_nil (norm_blk (norm_then ?_))
            refine wp_region_lit ?_
            refine st_move h rfl rfl ?_; clear h a; intro a h
            refine st_add h rfl rfl (by first | exact IntWalk.i64_in _ (by omega) | rfl) rfl ?_; clear h a; intro a h
            refine st_assign h rfl rfl ?_; clear h a; intro a h
            replace h : Ag a 52 [(0, _), (1, _), (5, _), (6, _)] := h.sub (.cons rfl (.cons rfl (.cons rfl (.cons rfl .nil))))
            refine wpList_nil (norm_then ?_)
            exact ⟨k + 1, h.sub (.cons rfl (.cons rfl (.cons (by rw [take_snoc l k (by omega), valS_snoc, dstep]; rfl) (.cons rfl .nil)))), ⟨by omega, by rw [take_snoc l k (by omega)]; exact all_snoc _ _ ha ((isDig_iff _).2 (by omega)), rfl⟩, by omega⟩
      · obtain rfl : k = l.length := by omega
        rw [List.take_length] at h ha
        have hv := valS_rng l ha
        refine wp_exit (exit_then (exit_then (exit_here (norm_then ?_))))
        refine wp_seq ?_
        refine wp_seq ?_
        refine region_bool (r := 50) (L' := [(5, _)]) (valS l < 2 ∨ most < valS l) h (.cons rfl .nil) ?_ ?_
        · refine id ?_
          refine st_move h rfl rfl ?_; clear h a; intro a h
          refine st_lt h rfl rfl rfl ?_; clear h a; intro a h
          refine st_move h rfl rfl ?_; clear h a; intro a h
          first | refine guard_dec (D := 46) h rfl ?_ ?_ | refine guard_ndec (D := 46) h rfl ?_ ?_ | refine guard_any (D := 46) h rfl ?_ ?_
          · clear h; intro g3 h
            refine gd_no h rfl rfl rfl rfl rfl rfl rfl rfl ?_; clear h a; intro a h
            refine gd_no h rfl rfl rfl rfl rfl rfl rfl rfl ?_; clear h a; intro a h
            refine gd_no h rfl rfl rfl rfl rfl rfl rfl rfl ?_; clear h a; intro a h
            refine st_pick_t h rfl rfl rfl rfl ?_; clear h a; intro a h
            exact wpList_nil (bool_end h rfl (by first | exact bt (by omega) | exact bf (by omega) | exact bi (by omega) | exact bn (by omega)) (.cons rfl .nil))
          · clear h; intro g3 h
            refine gd_yes h rfl rfl rfl rfl rfl rfl ?_
            refine st_move h rfl rfl ?_; clear h a; intro a h
            refine gd_yes h rfl rfl rfl rfl rfl rfl ?_
            refine st_move h rfl rfl ?_; clear h a; intro a h
            refine gd_yes h rfl rfl rfl rfl rfl rfl ?_
            refine st_gt h rfl rfl rfl ?_; clear h a; intro a h
            refine st_pick_f h rfl rfl rfl rfl ?_; clear h a; intro a h
            exact wpList_nil (bool_end h rfl (by first | exact bt (by omega) | exact bf (by omega) | exact bi (by omega) | exact bn (by omega)) (.cons rfl .nil))
        · clear h a; intro a h
          refine (norm_then ?_)
          first | refine cond_dec h rfl (fun c3 => ?_) (fun c3 => ?_) | refine cond_ndec h rfl (fun c3 => ?_) (fun c3 => ?_) | refine cond_split h rfl (fun c3 => ?_) (fun c3 => ?_)
          · refine id ?_
            refine wp_seq ?_
            refine wp_region_lit ?_
            refine st_assign h rfl rfl ?_; clear h a; intro a h
            replace h : Ag a 52 [(4, _)] := h.sub (.cons rfl .nil)
            refine wpList_nil (norm_then ?_)
            refine wp_ret (ret_then ?_)
            refine ret1 h Tryd.results27 rfl ?_
            exact ⟨_, rfl, by first | rw [numberS, if_pos c0] | rw [numberS, if_neg c0, if_pos (not_all_of l k (by omega) c2)] | rw [numberS, if_neg c0, if_neg (by rw [ha]; simp), if_pos c3] | rw [numberS, if_neg c0, if_neg (by rw [ha]; simp), if_neg c3], rfl⟩
          · refine id ?_
            refine wp_skip (norm_then ?_)
            refine wp_seq ?_
            refine wp_region_lit ?_
            refine st_move h rfl rfl ?_; clear h a; intro a h
            refine st_assign h rfl rfl ?_; clear h a; intro a h
            replace h : Ag a 52 [(4, _)] := h.sub (.cons rfl .nil)
            refine wpList_nil (norm_then ?_)
            refine wp_ret ?_
            refine ret1 h Tryd.results27 rfl ?_
            exact ⟨_, rfl, by first | rw [numberS, if_pos c0] | rw [numberS, if_neg c0, if_pos (not_all_of l k (by omega) c2)] | rw [numberS, if_neg c0, if_neg (by rw [ha]; simp), if_pos c3] | rw [numberS, if_neg c0, if_neg (by rw [ha]; simp), if_neg c3], rfl⟩
theorem count_ok (l : List UInt8) (most : Int) (w0 : World) (hl : l.length ≤ 9223372036854775807) : Rets Tryd.prog 53 #[S l, .int .i64 most] w0 fun v w' => v = .tuple #[.int .i64 (countS l most).1, .int .i64 (countS l most).2] ∧ w0 = w' := by
  refine enter [(0, S l), (1, .int .i64 most)] Tryd.func53 rfl Tryd.ntmps53 rfl (.cons rfl (.cons rfl .nil)) ?_
  intro a h
  refine wp_seq ?_
  refine wp_region_lit ?_
  refine st_assign h rfl rfl ?_; clear h a; intro a h
  refine st_assign h rfl rfl ?_; clear h a; intro a h
  replace h : Ag a 53 [(0, _), (1, _)] := h.sub (.cons rfl (.cons rfl .nil))
  refine wpList_nil (norm_then ?_)
  refine wp_seq ?_
  refine wp_region_lit ?_
  refine st_assign h rfl rfl ?_; clear h a; intro a h
  refine st_assign h rfl rfl ?_; clear h a; intro a h
  refine wpList_nil (norm_then ?_)
  refine wp_seq ?_
  refine wp_block ?_
  refine loop (ι := Nat) (fun k => [(0, S l), (1, .int .i64 most), (6, .int .i64 (capS (l.take k))), (7, .int .i64 (k : Int))]) (fun k w' => k ≤ l.length ∧ (l.take k).all isDig = true ∧ w' = w0) (fun k => l.length - k) 0 (h.sub (.cons rfl (.cons rfl (.cons rfl (.cons rfl .nil))))) ⟨by omega, rfl, rfl⟩ ?_
  clear h a
  rintro k w1 a h ⟨hk, ha, rfl⟩
  have hv := capS_rng _ ha
  refine wp_seq ?_
  refine wp_seq ?_
  refine region_bool (r := 23) (L' := [(0, _), (1, _), (6, _), (7, _)]) (k < l.length ∧ 48 ≤ ((l.getD k 0).toNat : Int) ∧ ((l.getD k 0).toNat : Int) ≤ 57) h (.cons rfl (.cons rfl (.cons rfl (.cons rfl .nil)))) ?_ ?_
  · refine id ?_
    refine st_move h rfl rfl ?_; clear h a; intro a h
    refine st_move h rfl rfl ?_; clear h a; intro a h
    refine st_len h rfl Tryd.underlying9 rfl ?_; clear h a; intro a h
    refine st_lt h rfl rfl rfl ?_; clear h a; intro a h
    refine st_move h rfl rfl ?_; clear h a; intro a h
    first | refine guard_dec (D := 12) h rfl ?_ ?_ | refine guard_ndec (D := 12) h rfl ?_ ?_ | refine guard_any (D := 12) h rfl ?_ ?_
    · clear h; intro g0 h
      refine gd_yes h rfl rfl rfl rfl rfl rfl ?_
      refine st_move h rfl rfl ?_; clear h a; intro a h
      refine gd_yes h rfl rfl rfl rfl rfl rfl ?_
      refine st_move h rfl rfl ?_; clear h a; intro a h
      refine gd_yes h rfl rfl rfl rfl rfl rfl ?_
      refine st_index (p := k) h rfl rfl Tryd.underlying9 (by omega) (by omega) (by omega) rfl ?_; clear h a; intro hy15 a h
      refine gd_yes h rfl rfl rfl rfl rfl rfl ?_
      refine st_le h rfl rfl rfl ?_; clear h a; intro a h
      refine st_pick_t h rfl rfl rfl rfl ?_; clear h a; intro a h
      refine st_move h rfl rfl ?_; clear h a; intro a h
      first | refine guard_dec (D := 18) h rfl ?_ ?_ | refine guard_ndec (D := 18) h rfl ?_ ?_ | refine guard_any (D := 18) h rfl ?_ ?_
      · clear h; intro g1 h
        refine gd_yes h rfl rfl rfl rfl rfl rfl ?_
        refine st_move h rfl rfl ?_; clear h a; intro a h
        refine gd_yes h rfl rfl rfl rfl rfl rfl ?_
        refine st_move h rfl rfl ?_; clear h a; intro a h
        refine gd_yes h rfl rfl rfl rfl rfl rfl ?_
        refine st_index (p := k) h rfl rfl Tryd.underlying9 (by omega) (by omega) (by omega) rfl ?_; clear h a; intro hy21 a h
        refine gd_yes h rfl rfl rfl rfl rfl rfl ?_
        refine st_le h rfl rfl rfl ?_; clear h a; intro a h
        refine st_pick_t h rfl rfl rfl rfl ?_; clear h a; intro a h
        exact wpList_nil (bool_end h rfl (by first | exact bt (by omega) | exact bf (by omega) | exact bi (by omega) | exact bn (by omega)) (.cons rfl (.cons rfl (.cons rfl (.cons rfl .nil)))))
      · clear h; intro g1 h
        refine gd_no h rfl rfl rfl rfl rfl rfl rfl rfl ?_; clear h a; intro a h
        refine gd_no h rfl rfl rfl rfl rfl rfl rfl rfl ?_; clear h a; intro a h
        refine gd_no h rfl rfl rfl rfl rfl rfl rfl rfl ?_; clear h a; intro a h
        refine gd_no h rfl rfl rfl rfl rfl rfl rfl rfl ?_; clear h a; intro a h
        refine st_pick_f h rfl rfl rfl rfl ?_; clear h a; intro a h
        exact wpList_nil (bool_end h rfl (by first | exact bt (by omega) | exact bf (by omega) | exact bi (by omega) | exact bn (by omega)) (.cons rfl (.cons rfl (.cons rfl (.cons rfl .nil)))))
    · clear h; intro g0 h
      refine gd_no h rfl rfl rfl rfl rfl rfl rfl rfl ?_; clear h a; intro a h
      refine gd_no h rfl rfl rfl rfl rfl rfl rfl rfl ?_; clear h a; intro a h
      refine gd_no h rfl rfl rfl rfl rfl rfl rfl rfl ?_; clear h a; intro a h
      refine gd_no h rfl rfl rfl rfl rfl rfl rfl rfl ?_; clear h a; intro a h
      refine st_pick_f h rfl rfl rfl rfl ?_; clear h a; intro a h
      refine st_move h rfl rfl ?_; clear h a; intro a h
      refine gd_no h rfl rfl rfl rfl rfl rfl rfl rfl ?_; clear h a; intro a h
      refine gd_no h rfl rfl rfl rfl rfl rfl rfl rfl ?_; clear h a; intro a h
      refine gd_no h rfl rfl rfl rfl rfl rfl rfl rfl ?_; clear h a; intro a h
      refine gd_no h rfl rfl rfl rfl rfl rfl rfl rfl ?_; clear h a; intro a h
      refine st_pick_f h rfl rfl rfl rfl ?_; clear h a; intro a h
      exact wpList_nil (bool_end h rfl (by first | exact bt (by omega) | exact bf (by omega) | exact bi (by omega) | exact bn (by omega)) (.cons rfl (.cons rfl (.cons rfl (.cons rfl .nil)))))
  · clear h a; intro a h
    refine (norm_then ?_)
    first | refine cond_dec h rfl (fun c0 => ?_) (fun c0 => ?_) | refine cond_ndec h rfl (fun c0 => ?_) (fun c0 => ?_) | refine cond_split h rfl (fun c0 => ?_) (fun c0 => ?_)
    · refine id ?_
      refine wp_skip (norm_then ?_)
      refine wp_block ?_
      refine wp_seq ?_
      refine wp_region_lit ?_
      refine st_move h rfl rfl ?_; clear h a; intro a h
      refine st_mul h rfl rfl (by first | exact IntWalk.i64_in _ (by omega) | rfl) rfl ?_; clear h a; intro a h
      refine st_move h rfl rfl ?_; clear h a; intro a h
      refine st_move h rfl rfl ?_; clear h a; intro a h
      refine st_index (p := k) h rfl rfl Tryd.underlying9 (by omega) (by omega) (by omega) rfl ?_; clear h a; intro hy28 a h
      refine st_sub h rfl rfl (by first | exact IntWalk.u8_in _ (by omega) | rfl) rfl ?_; clear h a; intro a h
      refine st_conv h rfl (by rw [Tryd.underlying5]; rfl) Tryd.underlying3 (by first | exact IntWalk.i64_in _ (by omega) | rfl) rfl ?_; clear h a; intro a h
      refine st_add h rfl rfl (by first | exact IntWalk.i64_in _ (by omega) | rfl) rfl ?_; clear h a; intro a h
      refine st_min h rfl rfl rfl ?_; clear h a; intro a h
      refine st_assign h rfl rfl ?_; clear h a; intro a h
      replace h : Ag a 53 [(0, _), (1, _), (6, _), (7, _)] := h.sub (.cons rfl (.cons rfl (.cons rfl (.cons rfl .nil))))
      refine wpList_nil (norm_then ?_)
      refine wp_region_lit ?_
      refine st_move h rfl rfl ?_; clear h a; intro a h
      refine st_add h rfl rfl (by first | exact IntWalk.i64_in _ (by omega) | rfl) rfl ?_; clear h a; intro a h
      refine st_assign h rfl rfl ?_; clear h a; intro a h
      replace h : Ag a 53 [(0, _), (1, _), (6, _), (7, _)] := h.sub (.cons rfl (.cons rfl (.cons rfl (.cons rfl .nil))))
      refine wpList_nil (norm_blk (norm_then ?_))
      exact ⟨k + 1, h.sub (.cons rfl (.cons rfl (.cons (by rw [take_snoc l k (by omega), capS_snoc, cstep]; rfl) (.cons rfl .nil)))), ⟨by omega, by rw [take_snoc l k (by omega)]; exact all_snoc _ _ ha ((isDig_iff _).2 (by omega)), rfl⟩, by omega⟩
    · have hw := takeWhile_eq l k hk ha c0
      refine wp_exit (exit_then (exit_then (exit_here (norm_then ?_))))
      refine wp_seq ?_
      refine wp_seq ?_
      refine region_bool (r := 50) (L' := [(6, _), (7, _)]) (k = 0 ∨ ((l.getD 0 0).toNat : Int) = 48 ∨ capS (l.take k) < 2 ∨ most < capS (l.take k)) h (.cons rfl (.cons rfl .nil)) ?_ ?_
      · refine id ?_
        refine st_move h rfl rfl ?_; clear h a; intro a h
        refine st_eq h rfl rfl rfl ?_; clear h a; intro a h
        refine st_move h rfl rfl ?_; clear h a; intro a h
        first | refine guard_dec (D := 37) h rfl ?_ ?_ | refine guard_ndec (D := 37) h rfl ?_ ?_ | refine guard_any (D := 37) h rfl ?_ ?_
        · clear h; intro g2 h
          refine gd_no h rfl rfl rfl rfl rfl rfl rfl rfl ?_; clear h a; intro a h
          refine gd_no h rfl rfl rfl rfl rfl rfl rfl rfl ?_; clear h a; intro a h
          refine gd_no h rfl rfl rfl rfl rfl rfl rfl rfl ?_; clear h a; intro a h
          refine st_pick_t h rfl rfl rfl rfl ?_; clear h a; intro a h
          refine st_move h rfl rfl ?_; clear h a; intro a h
          refine gd_no h rfl rfl rfl rfl rfl rfl rfl rfl ?_; clear h a; intro a h
          refine gd_no h rfl rfl rfl rfl rfl rfl rfl rfl ?_; clear h a; intro a h
          refine st_pick_t h rfl rfl rfl rfl ?_; clear h a; intro a h
          refine st_move h rfl rfl ?_; clear h a; intro a h
          refine gd_no h rfl rfl rfl rfl rfl rfl rfl rfl ?_; clear h a; intro a h
          refine gd_no h rfl rfl rfl rfl rfl rfl rfl rfl ?_; clear h a; intro a h
          refine gd_no h rfl rfl rfl rfl rfl rfl rfl rfl ?_; clear h a; intro a h
          refine st_pick_t h rfl rfl rfl rfl ?_; clear h a; intro a h
          exact wpList_nil (bool_end h rfl (by first | exact bt (by omega) | exact bf (by omega) | exact bi (by omega) | exact bn (by omega)) (.cons rfl (.cons rfl .nil)))
        · clear h; intro g2 h
          refine gd_yes h rfl rfl rfl rfl rfl rfl ?_
          refine st_move h rfl rfl ?_; clear h a; intro a h
          refine gd_yes h rfl rfl rfl rfl rfl rfl ?_
          refine st_index (p := 0) h rfl rfl Tryd.underlying9 (by omega) (by omega) rfl rfl ?_; clear h a; intro hy39 a h
          refine gd_yes h rfl rfl rfl rfl rfl rfl ?_
          refine st_eq h rfl rfl rfl ?_; clear h a; intro a h
          refine st_pick_f h rfl rfl rfl rfl ?_; clear h a; intro a h
          refine st_move h rfl rfl ?_; clear h a; intro a h
          first | refine guard_dec (D := 42) h rfl ?_ ?_ | refine guard_ndec (D := 42) h rfl ?_ ?_ | refine guard_any (D := 42) h rfl ?_ ?_
          · clear h; intro g3 h
            refine gd_no h rfl rfl rfl rfl rfl rfl rfl rfl ?_; clear h a; intro a h
            refine gd_no h rfl rfl rfl rfl rfl rfl rfl rfl ?_; clear h a; intro a h
            refine st_pick_t h rfl rfl rfl rfl ?_; clear h a; intro a h
            refine st_move h rfl rfl ?_; clear h a; intro a h
            refine gd_no h rfl rfl rfl rfl rfl rfl rfl rfl ?_; clear h a; intro a h
            refine gd_no h rfl rfl rfl rfl rfl rfl rfl rfl ?_; clear h a; intro a h
            refine gd_no h rfl rfl rfl rfl rfl rfl rfl rfl ?_; clear h a; intro a h
            refine st_pick_t h rfl rfl rfl rfl ?_; clear h a; intro a h
            exact wpList_nil (bool_end h rfl (by first | exact bt (by omega) | exact bf (by omega) | exact bi (by omega) | exact bn (by omega)) (.cons rfl (.cons rfl .nil)))
          · clear h; intro g3 h
            refine gd_yes h rfl rfl rfl rfl rfl rfl ?_
            refine st_move h rfl rfl ?_; clear h a; intro a h
            refine gd_yes h rfl rfl rfl rfl rfl rfl ?_
            refine st_lt h rfl rfl rfl ?_; clear h a; intro a h
            refine st_pick_f h rfl rfl rfl rfl ?_; clear h a; intro a h
            refine st_move h rfl rfl ?_; clear h a; intro a h
            first | refine guard_dec (D := 46) h rfl ?_ ?_ | refine guard_ndec (D := 46) h rfl ?_ ?_ | refine guard_any (D := 46) h rfl ?_ ?_
            · clear h; intro g4 h
              refine gd_no h rfl rfl rfl rfl rfl rfl rfl rfl ?_; clear h a; intro a h
              refine gd_no h rfl rfl rfl rfl rfl rfl rfl rfl ?_; clear h a; intro a h
              refine gd_no h rfl rfl rfl rfl rfl rfl rfl rfl ?_; clear h a; intro a h
              refine st_pick_t h rfl rfl rfl rfl ?_; clear h a; intro a h
              exact wpList_nil (bool_end h rfl (by first | exact bt (by omega) | exact bf (by omega) | exact bi (by omega) | exact bn (by omega)) (.cons rfl (.cons rfl .nil)))
            · clear h; intro g4 h
              refine gd_yes h rfl rfl rfl rfl rfl rfl ?_
              refine st_move h rfl rfl ?_; clear h a; intro a h
              refine gd_yes h rfl rfl rfl rfl rfl rfl ?_
              refine st_move h rfl rfl ?_; clear h a; intro a h
              refine gd_yes h rfl rfl rfl rfl rfl rfl ?_
              refine st_gt h rfl rfl rfl ?_; clear h a; intro a h
              refine st_pick_f h rfl rfl rfl rfl ?_; clear h a; intro a h
              exact wpList_nil (bool_end h rfl (by first | exact bt (by omega) | exact bf (by omega) | exact bi (by omega) | exact bn (by omega)) (.cons rfl (.cons rfl .nil)))
      · clear h a; intro a h
        refine (norm_then ?_)
        first | refine cond_dec h rfl (fun c1 => ?_) (fun c1 => ?_) | refine cond_ndec h rfl (fun c1 => ?_) (fun c1 => ?_) | refine cond_split h rfl (fun c1 => ?_) (fun c1 => ?_)
        · refine id ?_
          refine wp_seq ?_
          refine wp_region_lit ?_
          refine st_assign h rfl rfl ?_; clear h a; intro a h
          refine st_assign h rfl rfl ?_; clear h a; intro a h
          replace h : Ag a 53 [(4, _), (5, _)] := h.sub (.cons rfl (.cons rfl .nil))
          refine wpList_nil (norm_then ?_)
          refine wp_ret (ret_then ?_)
          refine ret2 h Tryd.results53 rfl rfl ?_
          exact ⟨_, rfl, by first | rw [count_bad hw hk c1] | rw [count_good hw hk c1], rfl⟩
        · refine id ?_
          refine wp_skip (norm_then ?_)
          refine wp_seq ?_
          refine wp_region_lit ?_
          refine st_move h rfl rfl ?_; clear h a; intro a h
          refine st_move h rfl rfl ?_; clear h a; intro a h
          refine st_assign h rfl rfl ?_; clear h a; intro a h
          refine st_assign h rfl rfl ?_; clear h a; intro a h
          replace h : Ag a 53 [(4, _), (5, _)] := h.sub (.cons rfl (.cons rfl .nil))
          refine wpList_nil (norm_then ?_)
          refine wp_ret ?_
          refine ret2 h Tryd.results53 rfl rfl ?_
          exact ⟨_, rfl, by first | rw [count_bad hw hk c1] | rw [count_good hw hk c1], rfl⟩
theorem better_ok (l m : List UInt8) (w0 : World) : Rets Tryd.prog 56 #[S l, S m] w0 fun v w' => v = S (betterS l m) ∧ w0 = w' := by
  refine enter [(0, S l), (1, S m)] Tryd.func56 rfl Tryd.ntmps56 rfl (.cons rfl (.cons rfl .nil)) ?_
  intro a h
  refine wp_seq ?_
  refine wp_region_lit ?_
  refine st_assign h rfl rfl ?_; clear h a; intro a h
  replace h : Ag a 32 [(0, _), (1, _)] := h.sub (.cons rfl (.cons rfl .nil))
  refine wpList_nil (norm_then ?_)
  refine wp_seq ?_
  refine wp_seq ?_
  refine region_bool (r := 29) (L' := [(0, _), (1, _)]) (l = [] ∨ (m ≠ [] ∧ lessP m l)) h (.cons rfl (.cons rfl .nil)) ?_ ?_
  · refine id ?_
    refine st_move h rfl rfl ?_; clear h a; intro a h
    refine st_eqs h rfl rfl rfl ?_; clear h a; intro a h
    refine st_move h rfl rfl ?_; clear h a; intro a h
    first | refine guard_dec (D := 7) h rfl ?_ ?_ | refine guard_ndec (D := 7) h rfl ?_ ?_ | refine guard_any (D := 7) h rfl ?_ ?_
    · clear h; intro g0 h
      refine gd_no h rfl rfl rfl rfl rfl rfl rfl rfl ?_; clear h a; intro a h
      refine gd_no h rfl rfl rfl rfl rfl rfl rfl rfl ?_; clear h a; intro a h
      refine gd_no h rfl rfl rfl rfl rfl rfl rfl rfl ?_; clear h a; intro a h
      refine gd_skip h rfl rfl rfl rfl rfl rfl rfl ?_; clear h a; intro a h
      refine gd_skip h rfl rfl rfl rfl rfl rfl rfl ?_; clear h a; intro a h
      refine gd_skip h rfl rfl rfl rfl rfl rfl rfl ?_; clear h a; intro a h
      refine gd_skip h rfl rfl rfl rfl rfl rfl rfl ?_; clear h a; intro a h
      refine gd_skip h rfl rfl rfl rfl rfl rfl rfl ?_; clear h a; intro a h
      refine gd_skip h rfl rfl rfl rfl rfl rfl rfl ?_; clear h a; intro a h
      refine gd_skip h rfl rfl rfl rfl rfl rfl rfl ?_; clear h a; intro a h
      refine gd_skip h rfl rfl rfl rfl rfl rfl rfl ?_; clear h a; intro a h
      refine gd_skip h rfl rfl rfl rfl rfl rfl rfl ?_; clear h a; intro a h
      refine gd_skip h rfl rfl rfl rfl rfl rfl rfl ?_; clear h a; intro a h
      refine gd_skip h rfl rfl rfl rfl rfl rfl rfl ?_; clear h a; intro a h
      refine gd_skip h rfl rfl rfl rfl rfl rfl rfl ?_; clear h a; intro a h
      refine gd_skip h rfl rfl rfl rfl rfl rfl rfl ?_; clear h a; intro a h
      refine gd_skip h rfl rfl rfl rfl rfl rfl rfl ?_; clear h a; intro a h
      refine gd_skip h rfl rfl rfl rfl rfl rfl rfl ?_; clear h a; intro a h
      refine gd_skip h rfl rfl rfl rfl rfl rfl rfl ?_; clear h a; intro a h
      refine gd_skip h rfl rfl rfl rfl rfl rfl rfl ?_; clear h a; intro a h
      refine gd_no h rfl rfl rfl rfl rfl rfl rfl rfl ?_; clear h a; intro a h
      refine st_pick_t h rfl rfl rfl rfl ?_; clear h a; intro a h
      exact wpList_nil (bool_end h rfl (by first | exact bt (Or.inl ‹l = []›) | exact bf (by rintro (h | ⟨h, _⟩); exact absurd h ‹¬ l = []›; exact absurd h ‹¬ m ≠ []›) | exact bt (.inr ⟨‹m ≠ []›, .inl (by omega)⟩) | exact bf (by rintro (h | ⟨_, h | h⟩); exact absurd h ‹¬ l = []›; omega; omega) | exact bb ⟨fun e => .inr ⟨‹m ≠ []›, .inr ⟨by omega, e⟩⟩, by rintro (h | ⟨_, h | h⟩); exact absurd h ‹¬ l = []›; omega; exact h.2⟩) (.cons rfl (.cons rfl .nil)))
    · clear h; intro g0 h
      refine gd_yes h rfl rfl rfl rfl rfl rfl ?_
      refine st_move h rfl rfl ?_; clear h a; intro a h
      refine gd_yes h rfl rfl rfl rfl rfl rfl ?_
      refine st_nes h rfl rfl rfl ?_; clear h a; intro a h
      refine gd_yes h rfl rfl rfl rfl rfl rfl ?_
      refine st_move h rfl rfl ?_; clear h a; intro a h
      first | refine guard_dec (D := 10) h rfl ?_ ?_ | refine guard_ndec (D := 10) h rfl ?_ ?_ | refine guard_any (D := 10) h rfl ?_ ?_
      · clear h; intro g1 h
        refine gd_yes h rfl rfl rfl rfl rfl rfl ?_
        refine st_move h rfl rfl ?_; clear h a; intro a h
        refine gd_yes h rfl rfl rfl rfl rfl rfl ?_
        refine st_len h rfl Tryd.underlying9 rfl ?_; clear h a; intro a h
        refine gd_yes h rfl rfl rfl rfl rfl rfl ?_
        refine st_move h rfl rfl ?_; clear h a; intro a h
        refine gd_yes h rfl rfl rfl rfl rfl rfl ?_
        refine st_len h rfl Tryd.underlying9 rfl ?_; clear h a; intro a h
        refine gd_yes h rfl rfl rfl rfl rfl rfl ?_
        refine st_lt h rfl rfl rfl ?_; clear h a; intro a h
        refine gd_yes h rfl rfl rfl rfl rfl rfl ?_
        refine st_move h rfl rfl ?_; clear h a; intro a h
        first | refine guard_dec (D := 16) h rfl ?_ ?_ | refine guard_ndec (D := 16) h rfl ?_ ?_ | refine guard_any (D := 16) h rfl ?_ ?_
        · clear h; intro g2 h
          refine gd_no h rfl rfl rfl rfl rfl rfl rfl rfl ?_; clear h a; intro a h
          refine gd_no h rfl rfl rfl rfl rfl rfl rfl rfl ?_; clear h a; intro a h
          refine gd_no h rfl rfl rfl rfl rfl rfl rfl rfl ?_; clear h a; intro a h
          refine gd_no h rfl rfl rfl rfl rfl rfl rfl rfl ?_; clear h a; intro a h
          refine gd_no h rfl rfl rfl rfl rfl rfl rfl rfl ?_; clear h a; intro a h
          refine gd_no h rfl rfl rfl rfl rfl rfl rfl rfl ?_; clear h a; intro a h
          refine gd_skip h rfl rfl rfl rfl rfl rfl rfl ?_; clear h a; intro a h
          refine gd_skip h rfl rfl rfl rfl rfl rfl rfl ?_; clear h a; intro a h
          refine gd_skip h rfl rfl rfl rfl rfl rfl rfl ?_; clear h a; intro a h
          refine gd_no h rfl rfl rfl rfl rfl rfl rfl rfl ?_; clear h a; intro a h
          refine gd_yes h rfl rfl rfl rfl rfl rfl ?_
          refine st_pick_t h rfl rfl rfl rfl ?_; clear h a; intro a h
          refine gd_yes h rfl rfl rfl rfl rfl rfl ?_
          refine st_pick_t h rfl rfl rfl rfl ?_; clear h a; intro a h
          refine st_pick_f h rfl rfl rfl rfl ?_; clear h a; intro a h
          exact wpList_nil (bool_end h rfl (by first | exact bt (Or.inl ‹l = []›) | exact bf (by rintro (h | ⟨h, _⟩); exact absurd h ‹¬ l = []›; exact absurd h ‹¬ m ≠ []›) | exact bt (.inr ⟨‹m ≠ []›, .inl (by omega)⟩) | exact bf (by rintro (h | ⟨_, h | h⟩); exact absurd h ‹¬ l = []›; omega; omega) | exact bb ⟨fun e => .inr ⟨‹m ≠ []›, .inr ⟨by omega, e⟩⟩, by rintro (h | ⟨_, h | h⟩); exact absurd h ‹¬ l = []›; omega; exact h.2⟩) (.cons rfl (.cons rfl .nil)))
        · clear h; intro g2 h
          refine gd_yes h rfl rfl rfl rfl rfl rfl ?_
          refine st_move h rfl rfl ?_; clear h a; intro a h
          refine gd_yes h rfl rfl rfl rfl rfl rfl ?_
          refine st_len h rfl Tryd.underlying9 rfl ?_; clear h a; intro a h
          refine gd_yes h rfl rfl rfl rfl rfl rfl ?_
          refine st_move h rfl rfl ?_; clear h a; intro a h
          refine gd_yes h rfl rfl rfl rfl rfl rfl ?_
          refine st_len h rfl Tryd.underlying9 rfl ?_; clear h a; intro a h
          refine gd_yes h rfl rfl rfl rfl rfl rfl ?_
          refine st_eq h rfl rfl rfl ?_; clear h a; intro a h
          refine gd_yes h rfl rfl rfl rfl rfl rfl ?_
          refine st_move h rfl rfl ?_; clear h a; intro a h
          first | refine guard_dec (D := 22) h rfl ?_ ?_ | refine guard_ndec (D := 22) h rfl ?_ ?_ | refine guard_any (D := 22) h rfl ?_ ?_
          · clear h; intro g3 h
            refine gd_yes h rfl rfl rfl rfl rfl rfl ?_
            refine st_move h rfl rfl ?_; clear h a; intro a h
            refine gd_yes h rfl rfl rfl rfl rfl rfl ?_
            refine st_move h rfl rfl ?_; clear h a; intro a h
            refine gd_yes h rfl rfl rfl rfl rfl rfl ?_
            refine st_lts h rfl rfl rfl ?_; clear h a; intro a h
            refine gd_yes h rfl rfl rfl rfl rfl rfl ?_
            refine st_pick_t h rfl rfl rfl rfl ?_; clear h a; intro a h
            refine gd_yes h rfl rfl rfl rfl rfl rfl ?_
            refine st_pick_f h rfl rfl rfl rfl ?_; clear h a; intro a h
            refine gd_yes h rfl rfl rfl rfl rfl rfl ?_
            refine st_pick_t h rfl rfl rfl rfl ?_; clear h a; intro a h
            refine st_pick_f h rfl rfl rfl rfl ?_; clear h a; intro a h
            exact wpList_nil (bool_end h rfl (by first | exact bt (Or.inl ‹l = []›) | exact bf (by rintro (h | ⟨h, _⟩); exact absurd h ‹¬ l = []›; exact absurd h ‹¬ m ≠ []›) | exact bt (.inr ⟨‹m ≠ []›, .inl (by omega)⟩) | exact bf (by rintro (h | ⟨_, h | h⟩); exact absurd h ‹¬ l = []›; omega; omega) | exact bb ⟨fun e => .inr ⟨‹m ≠ []›, .inr ⟨by omega, e⟩⟩, by rintro (h | ⟨_, h | h⟩); exact absurd h ‹¬ l = []›; omega; exact h.2⟩) (.cons rfl (.cons rfl .nil)))
          · clear h; intro g3 h
            refine gd_no h rfl rfl rfl rfl rfl rfl rfl rfl ?_; clear h a; intro a h
            refine gd_no h rfl rfl rfl rfl rfl rfl rfl rfl ?_; clear h a; intro a h
            refine gd_no h rfl rfl rfl rfl rfl rfl rfl rfl ?_; clear h a; intro a h
            refine gd_yes h rfl rfl rfl rfl rfl rfl ?_
            refine st_pick_f h rfl rfl rfl rfl ?_; clear h a; intro a h
            refine gd_yes h rfl rfl rfl rfl rfl rfl ?_
            refine st_pick_f h rfl rfl rfl rfl ?_; clear h a; intro a h
            refine gd_yes h rfl rfl rfl rfl rfl rfl ?_
            refine st_pick_t h rfl rfl rfl rfl ?_; clear h a; intro a h
            refine st_pick_f h rfl rfl rfl rfl ?_; clear h a; intro a h
            exact wpList_nil (bool_end h rfl (by first | exact bt (Or.inl ‹l = []›) | exact bf (by rintro (h | ⟨h, _⟩); exact absurd h ‹¬ l = []›; exact absurd h ‹¬ m ≠ []›) | exact bt (.inr ⟨‹m ≠ []›, .inl (by omega)⟩) | exact bf (by rintro (h | ⟨_, h | h⟩); exact absurd h ‹¬ l = []›; omega; omega) | exact bb ⟨fun e => .inr ⟨‹m ≠ []›, .inr ⟨by omega, e⟩⟩, by rintro (h | ⟨_, h | h⟩); exact absurd h ‹¬ l = []›; omega; exact h.2⟩) (.cons rfl (.cons rfl .nil)))
      · clear h; intro g1 h
        refine gd_no h rfl rfl rfl rfl rfl rfl rfl rfl ?_; clear h a; intro a h
        refine gd_no h rfl rfl rfl rfl rfl rfl rfl rfl ?_; clear h a; intro a h
        refine gd_no h rfl rfl rfl rfl rfl rfl rfl rfl ?_; clear h a; intro a h
        refine gd_no h rfl rfl rfl rfl rfl rfl rfl rfl ?_; clear h a; intro a h
        refine gd_no h rfl rfl rfl rfl rfl rfl rfl rfl ?_; clear h a; intro a h
        refine gd_no h rfl rfl rfl rfl rfl rfl rfl rfl ?_; clear h a; intro a h
        refine gd_skip h rfl rfl rfl rfl rfl rfl rfl ?_; clear h a; intro a h
        refine gd_skip h rfl rfl rfl rfl rfl rfl rfl ?_; clear h a; intro a h
        refine gd_skip h rfl rfl rfl rfl rfl rfl rfl ?_; clear h a; intro a h
        refine gd_skip h rfl rfl rfl rfl rfl rfl rfl ?_; clear h a; intro a h
        refine gd_skip h rfl rfl rfl rfl rfl rfl rfl ?_; clear h a; intro a h
        refine gd_skip h rfl rfl rfl rfl rfl rfl rfl ?_; clear h a; intro a h
        refine gd_skip h rfl rfl rfl rfl rfl rfl rfl ?_; clear h a; intro a h
        refine gd_skip h rfl rfl rfl rfl rfl rfl rfl ?_; clear h a; intro a h
        refine gd_skip h rfl rfl rfl rfl rfl rfl rfl ?_; clear h a; intro a h
        refine gd_skip h rfl rfl rfl rfl rfl rfl rfl ?_; clear h a; intro a h
        refine gd_no h rfl rfl rfl rfl rfl rfl rfl rfl ?_; clear h a; intro a h
        refine gd_yes h rfl rfl rfl rfl rfl rfl ?_
        refine st_pick_f h rfl rfl rfl rfl ?_; clear h a; intro a h
        refine st_pick_f h rfl rfl rfl rfl ?_; clear h a; intro a h
        exact wpList_nil (bool_end h rfl (by first | exact bt (Or.inl ‹l = []›) | exact bf (by rintro (h | ⟨h, _⟩); exact absurd h ‹¬ l = []›; exact absurd h ‹¬ m ≠ []›) | exact bt (.inr ⟨‹m ≠ []›, .inl (by omega)⟩) | exact bf (by rintro (h | ⟨_, h | h⟩); exact absurd h ‹¬ l = []›; omega; omega) | exact bb ⟨fun e => .inr ⟨‹m ≠ []›, .inr ⟨by omega, e⟩⟩, by rintro (h | ⟨_, h | h⟩); exact absurd h ‹¬ l = []›; omega; exact h.2⟩) (.cons rfl (.cons rfl .nil)))
  · clear h a; intro a h
    refine (norm_then ?_)
    first | refine cond_dec h rfl (fun c0 => ?_) (fun c0 => ?_) | refine cond_ndec h rfl (fun c0 => ?_) (fun c0 => ?_) | refine cond_split h rfl (fun c0 => ?_) (fun c0 => ?_)
    · refine id ?_
      refine wp_seq ?_
      refine wp_region_lit ?_
      refine st_move h rfl rfl ?_; clear h a; intro a h
      refine st_assign h rfl rfl ?_; clear h a; intro a h
      replace h : Ag a 32 [(4, _)] := h.sub (.cons rfl .nil)
      refine wpList_nil (norm_then ?_)
      refine wp_ret (ret_then ?_)
      refine ret1 h Tryd.results56 rfl ?_
      exact ⟨_, rfl, by first | rw [betterS, if_pos c0] | rw [betterS, if_neg c0], rfl⟩
    · refine id ?_
      refine wp_skip (norm_then ?_)
      refine wp_seq ?_
      refine wp_region_lit ?_
      refine st_move h rfl rfl ?_; clear h a; intro a h
      refine st_assign h rfl rfl ?_; clear h a; intro a h
      replace h : Ag a 32 [(4, _)] := h.sub (.cons rfl .nil)
      refine wpList_nil (norm_then ?_)
      refine wp_ret ?_
      refine ret1 h Tryd.results56 rfl ?_
      exact ⟨_, rfl, by first | rw [betterS, if_pos c0] | rw [betterS, if_neg c0], rfl⟩
theorem cut_ok (A : Option Addr) (m c : Nat) (w0 : World) (hc : m ≤ c) : Rets Tryd.prog 50 #[.slice A m c] w0 fun v w' => v = .slice A (min m 17) c ∧ w0 = w' := by
  refine enter [(0, .slice A m c)] Tryd.func50 rfl Tryd.ntmps50 rfl (.cons rfl .nil) ?_
  intro a h
  refine wp_seq ?_
  refine wp_region_lit ?_
  refine st_assign h rfl rfl ?_; clear h a; intro a h
  replace h : Ag a 8 [(0, _)] := h.sub (.cons rfl .nil)
  refine wpList_nil (norm_then ?_)
  refine wp_seq ?_
  refine wp_region_lit ?_
  refine st_move h rfl rfl ?_; clear h a; intro a h
  refine st_move h rfl rfl ?_; clear h a; intro a h
  refine st_lenS h rfl Tryd.underlying22 rfl ?_; clear h a; intro a h
  refine st_min h rfl rfl rfl ?_; clear h a; intro a h
  refine st_sl_h (p := min m 17) h rfl rfl el22 (by omega) (by omega) (by omega) rfl ?_; clear h a; intro a h
  refine st_assign h rfl rfl ?_; clear h a; intro a h
  replace h : Ag a 8 [(2, _)] := h.sub (.cons rfl .nil)
  refine wpList_nil (norm_then ?_)
  refine wp_ret ?_
  refine ret1 h Tryd.results50 rfl ?_
  exact ⟨_, rfl, rfl, rfl⟩
theorem clip_ok (A : Option Addr) (m c : Nat) (w0 : World) (hc : m ≤ c) : Rets Tryd.prog 26 #[.slice A m c] w0 fun v w' => v = .slice A m m ∧ w0 = w' := by
  refine enter [(0, .slice A m c)] Tryd.func26 rfl Tryd.ntmps26 rfl (.cons rfl .nil) ?_
  intro a h
  refine wp_seq ?_
  refine wp_region_lit ?_
  refine st_assign h rfl rfl ?_; clear h a; intro a h
  replace h : Ag a 9 [(0, _)] := h.sub (.cons rfl .nil)
  refine wpList_nil (norm_then ?_)
  refine wp_seq ?_
  refine wp_region_lit ?_
  refine st_move h rfl rfl ?_; clear h a; intro a h
  refine st_move h rfl rfl ?_; clear h a; intro a h
  refine st_lenS h rfl Tryd.underlying22 rfl ?_; clear h a; intro a h
  refine st_move h rfl rfl ?_; clear h a; intro a h
  refine st_lenS h rfl Tryd.underlying22 rfl ?_; clear h a; intro a h
  refine st_sl_hm h rfl rfl rfl el22 (by omega) (by omega) (by omega) rfl rfl rfl ?_; clear h a; intro a h
  refine st_assign h rfl rfl ?_; clear h a; intro a h
  replace h : Ag a 9 [(2, _)] := h.sub (.cons rfl .nil)
  refine wpList_nil (norm_then ?_)
  refine wp_ret ?_
  refine ret1 h Tryd.results26 rfl ?_
  exact ⟨_, rfl, rfl, rfl⟩
end Go.Proofs.YtbbnampdgefljaaDoor
namespace Go.Proofs.YtbbnampdgefljaaDoor
open Go.Lw Go.G14
theorem eqv36 : EqOf Tryd.prog 36 stV := by
  intro e f ox oy w
  have hg : ∀ op, (eqGuard op 36 ox oy (stV e) (stV f)).run Tryd.prog w = .ok () w := fun op => run_eqGuard_agg w op 36 ox oy _ _ (by kernel_rfl)
  have h1 : Tryd.prog.stoodInHeld 36 = false := by kernel_rfl
  obtain ⟨k, y, a, b, c⟩ := e
  obtain ⟨k', y', a', b', c'⟩ := f
  refine ⟨hg _, hg _, ?_, ?_⟩
  · unfold stV
    simp [go_sem, h1, Tryd.underlying36]
    (repeat' split) <;> simp_all
  · unfold stV
    simp [go_sem, h1, Tryd.underlying36]
    (repeat' split) <;> simp_all
theorem equal_ok (u v : Value) (xs ys : List Stitch) (w0 : World) (hu : Sl encSt w0 u xs) (hv : Sl encSt w0 v ys) : Rets Tryd.prog 44 #[u, v] w0 fun r w' => r = .bool (decide (xs = ys)) ∧ Fr [] w0 w' := by
  obtain ⟨A, c, rfl, hc, hM, hA⟩ := hu
  obtain ⟨B, d, rfl, hd, hN, hB⟩ := hv
  unfold maxLen at hM hN
  refine enter [(0, .slice A xs.length c), (1, .slice B ys.length d)] Tryd.func44 rfl Tryd.ntmps44 rfl (.cons rfl (.cons rfl .nil)) ?_
  have hf := Fr.refl [] w0
  intro a h
  refine wp_seq ?_
  refine wp_region_lit ?_
  refine st_assign h rfl rfl ?_; clear h a; intro a h
  replace h : Ag a 26 [(0, _), (1, _)] := h.sub (.cons rfl (.cons rfl .nil))
  refine wpList_nil (norm_then ?_)
  refine wp_seq ?_
  refine wp_seq ?_
  refine wp_region_lit ?_
  refine st_move h rfl rfl ?_; clear h a; intro a h
  refine st_lenS h rfl Tryd.underlying22 rfl ?_; clear h a; intro a h
  refine st_move h rfl rfl ?_; clear h a; intro a h
  refine st_lenS h rfl Tryd.underlying22 rfl ?_; clear h a; intro a h
  refine st_ne h rfl rfl rfl ?_; clear h a; intro a h
  replace h : Ag a 26 [(0, _), (1, _), (10, _)] := h.sub (.cons rfl (.cons rfl (.cons rfl .nil)))
  refine wpList_nil (norm_then ?_)
  first | refine cond_dec h rfl (fun c0 => ?_) (fun c0 => ?_) | refine cond_ndec h rfl (fun c0 => ?_) (fun c0 => ?_) | refine cond_split h rfl (fun c0 => ?_) (fun c0 => ?_)
  · refine id ?_
    refine wp_seq ?_
    refine wp_region_lit ?_
    refine st_assign h rfl rfl ?_; clear h a; intro a h
    replace h : Ag a 26 [(4, _)] := h.sub (.cons rfl .nil)
    refine wpList_nil (norm_then ?_)
    refine wp_ret (ret_then ?_)
    refine ret1 h Tryd.results44 rfl ?_
    exact ⟨_, rfl, by first | (rw [decide_eq_false]; intro e; subst e; omega) | (rw [decide_eq_false]; intro e; subst e; rw [hxk] at hyk; cases hyk; exact c2 rfl) | rw [decide_eq_true ht], hf⟩
  · refine id ?_
    refine wp_skip (norm_then ?_)
    refine wp_seq ?_
    refine wp_seq ?_
    refine wp_region_lit ?_
    refine st_move h rfl rfl ?_; clear h a; intro a h
    refine st_lenS h rfl Tryd.underlying22 rfl ?_; clear h a; intro a h
    refine st_move h rfl rfl ?_; clear h a; intro a h
    replace h : Ag a 26 [(0, _), (1, _), (12, _), (13, _)] := h.sub (.cons rfl (.cons rfl (.cons rfl (.cons rfl .nil))))
    refine wpList_nil (norm_then ?_)
    refine wp_block ?_
    refine loop (ι := Nat) (fun k => [(0, .slice A xs.length c), (1, .slice B ys.length d), (12, .int .i64 (xs.length : Int)), (13, .int .i64 (k : Int))]) (fun k w' => k ≤ xs.length ∧ xs.take k = ys.take k ∧ Fr [] w0 w') (fun k => xs.length - k) 0 (h.sub (.cons rfl (.cons rfl (.cons rfl (.cons rfl .nil))))) ⟨by omega, by simp, hf⟩ ?_
    clear h a hf
    rintro k w1 a h ⟨hk, ht, hf⟩
    refine wp_seq ?_
    refine wp_region_lit ?_
    refine st_lt h rfl rfl rfl ?_; clear h a; intro a h
    refine wpList_nil (norm_then ?_)
    refine wp_seq ?_
    first | refine cond_dec h rfl (fun c1 => ?_) (fun c1 => ?_) | refine cond_ndec h rfl (fun c1 => ?_) (fun c1 => ?_) | refine cond_split h rfl (fun c1 => ?_) (fun c1 => ?_)
    · obtain ⟨x, hxk⟩ : ∃ x, xs[k]? = some x := ⟨_, List.getElem?_eq_getElem (by omega)⟩
      obtain ⟨y, hyk⟩ : ∃ y, ys[k]? = some y := ⟨_, List.getElem?_eq_getElem (by omega)⟩
      obtain ⟨ad, rfl, ca⟩ := hA k x hxk
      obtain ⟨bd, rfl, cb⟩ := hB k y hyk
      refine wp_skip (norm_then ?_)
      refine wp_seq ?_
      refine wp_block ?_
      refine wp_seq ?_
      refine wp_region_lit ?_
      refine st_move h rfl rfl ?_; clear h a; intro a h
      refine st_assign h rfl rfl ?_; clear h a; intro a h
      replace h : Ag a 26 [(0, _), (1, _), (5, _), (12, _), (13, _)] := h.sub (.cons rfl (.cons rfl (.cons rfl (.cons rfl (.cons rfl .nil)))))
      refine wpList_nil (norm_then ?_)
      refine wp_seq ?_
      refine region_quiet hmix (by kernel_rfl) ?_
      refine qt_move h rfl rfl ?_; clear h a; intro a h
      refine qt_move h rfl rfl ?_; clear h a; intro a h
      refine qt_idx h rfl rfl rfl el22 (by omega) (by omega) rfl ?_; clear h a; intro a h
      refine qt_loadA h rfl (fun _ hw => (ca.fr hf (by simp)).fr hw (by simp)) ag36 rfl ?_; clear h a; intro a h
      refine qt_move h rfl rfl ?_; clear h a; intro a h
      refine qt_move h rfl rfl ?_; clear h a; intro a h
      refine qt_idx h rfl rfl rfl el22 (by omega) (by omega) rfl ?_; clear h a; intro a h
      refine qt_loadA h rfl (fun _ hw => (cb.fr hf (by simp)).fr hw (by simp)) ag36 rfl ?_; clear h a; intro a h
      refine qt_neV (e := x) (f := y) h rfl rfl eqv36 rfl ?_; clear h a; intro a h
      refine wpQuiet_nil ?_
      intro w2 hq
      replace hf := hf.next hq
      clear hq
      replace h : Ag a 26 [(0, _), (1, _), (12, _), (13, _), (24, _)] := h.sub (.cons rfl (.cons rfl (.cons rfl (.cons rfl (.cons rfl .nil)))))
      refine (norm_then ?_)
      first | refine cond_dec h rfl (fun c2 => ?_) (fun c2 => ?_) | refine cond_ndec h rfl (fun c2 => ?_) (fun c2 => ?_) | refine cond_split h rfl (fun c2 => ?_) (fun c2 => ?_)
      · refine id ?_
        refine wp_seq ?_
        refine wp_region_lit ?_
        refine st_assign h rfl rfl ?_; clear h a; intro a h
        replace h : Ag a 26 [(4, _)] := h.sub (.cons rfl .nil)
        refine wpList_nil (norm_then ?_)
        refine wp_ret (ret_blk (ret_then (ret_then (ret_blk (ret_then ?_)))))
        refine ret1 h Tryd.results44 rfl ?_
        exact ⟨_, rfl, by first | (rw [decide_eq_false]; intro e; subst e; omega) | (rw [decide_eq_false]; intro e; subst e; rw [hxk] at hyk; cases hyk; exact c2 rfl) | rw [decide_eq_true ht], hf⟩
      · refine id ?_
        refine wp_skip (norm_blk (norm_then ?_))
        refine wp_region_lit ?_
        refine st_add h rfl rfl (by first | exact IntWalk.i64_in _ (by omega) | rfl) rfl ?_; clear h a; intro a h
        refine st_move h rfl rfl ?_; clear h a; intro a h
        replace h : Ag a 26 [(0, _), (1, _), (12, _), (13, _)] := h.sub (.cons rfl (.cons rfl (.cons rfl (.cons rfl .nil))))
        refine wpList_nil (norm_then ?_)
        exact ⟨k + 1, h.sub (.cons rfl (.cons rfl (.cons rfl (.cons rfl .nil)))), ⟨by omega, by rw [List.take_add_one, List.take_add_one, ht, hxk, hyk, Decidable.not_not.1 c2], hf⟩, by omega⟩
    · obtain rfl : k = xs.length := by omega
      rw [List.take_length, show xs.length = ys.length by omega, List.take_length] at ht
      refine wp_exit (exit_then (exit_then (exit_here (norm_then ?_))))
      refine wp_seq ?_
      refine wp_region_lit ?_
      refine st_assign h rfl rfl ?_; clear h a; intro a h
      replace h : Ag a 26 [(4, _)] := h.sub (.cons rfl .nil)
      refine wpList_nil (norm_then ?_)
      refine wp_ret ?_
      refine ret1 h Tryd.results44 rfl ?_
      exact ⟨_, rfl, by first | (rw [decide_eq_false]; intro e; subst e; omega) | (rw [decide_eq_false]; intro e; subst e; rw [hxk] at hyk; cases hyk; exact c2 rfl) | rw [decide_eq_true ht], hf⟩
theorem pref0_ok (l m : List UInt8) (w0 : World) : Rets Tryd.prog 63 #[S l, S m] w0 fun v w' => v = .bool (decide (m <+: l)) ∧ w0 = w' := by
  refine enter [(0, S l), (1, S m)] Tryd.func63 rfl Tryd.ntmps63 rfl (.cons rfl (.cons rfl .nil)) ?_
  intro a h
  refine wp_seq ?_
  refine wp_region_lit ?_
  refine st_assign h rfl rfl ?_; clear h a; intro a h
  replace h : Ag a 18 [(0, _), (1, _)] := h.sub (.cons rfl (.cons rfl .nil))
  refine wpList_nil (norm_then ?_)
  refine wp_seq ?_
  refine wp_region_lit ?_
  refine st_move h rfl rfl ?_; clear h a; intro a h
  refine st_len h rfl Tryd.underlying9 rfl ?_; clear h a; intro a h
  refine st_move h rfl rfl ?_; clear h a; intro a h
  refine st_len h rfl Tryd.underlying9 rfl ?_; clear h a; intro a h
  refine st_ge h rfl rfl rfl ?_; clear h a; intro a h
  refine st_move h rfl rfl ?_; clear h a; intro a h
  first | refine guard_dec (D := 10) h rfl ?_ ?_ | refine guard_ndec (D := 10) h rfl ?_ ?_ | refine guard_any (D := 10) h rfl ?_ ?_
  · clear h; intro g0 h
    refine gd_yes h rfl rfl rfl rfl rfl rfl ?_
    refine st_move h rfl rfl ?_; clear h a; intro a h
    refine gd_yes h rfl rfl rfl rfl rfl rfl ?_
    refine st_move h rfl rfl ?_; clear h a; intro a h
    refine gd_yes h rfl rfl rfl rfl rfl rfl ?_
    refine st_len h rfl Tryd.underlying9 rfl ?_; clear h a; intro a h
    refine gd_yes h rfl rfl rfl rfl rfl rfl ?_
    refine st_ss_h (p := m.length) h rfl rfl Tryd.underlying9 (by omega) (by omega) (by omega) rfl ?_; clear h a; intro a h
    refine gd_yes h rfl rfl rfl rfl rfl rfl ?_
    refine st_move h rfl rfl ?_; clear h a; intro a h
    refine gd_yes h rfl rfl rfl rfl rfl rfl ?_
    refine st_eqs h rfl rfl rfl ?_; clear h a; intro a h
    refine st_pick_t h rfl rfl rfl rfl ?_; clear h a; intro a h
    refine st_assign h rfl rfl ?_; clear h a; intro a h
    replace h : Ag a 18 [(4, _)] := h.sub (.cons rfl .nil)
    refine wpList_nil (norm_then ?_)
    refine wp_ret ?_
    refine ret1 h Tryd.results63 rfl ?_
    exact ⟨_, rfl, by first | (congr 1; exact bi (by rw [List.prefix_iff_eq_take]; exact eq_comm)) | (congr 1; exact bf (fun e => by have := e.length_le; omega)), rfl⟩
  · clear h; intro g0 h
    refine gd_no h rfl rfl rfl rfl rfl rfl rfl rfl ?_; clear h a; intro a h
    refine gd_no h rfl rfl rfl rfl rfl rfl rfl rfl ?_; clear h a; intro a h
    refine gd_no h rfl rfl rfl rfl rfl rfl rfl rfl ?_; clear h a; intro a h
    refine gd_no h rfl rfl rfl rfl rfl rfl rfl rfl ?_; clear h a; intro a h
    refine gd_no h rfl rfl rfl rfl rfl rfl rfl rfl ?_; clear h a; intro a h
    refine gd_no h rfl rfl rfl rfl rfl rfl rfl rfl ?_; clear h a; intro a h
    refine st_pick_f h rfl rfl rfl rfl ?_; clear h a; intro a h
    refine st_assign h rfl rfl ?_; clear h a; intro a h
    replace h : Ag a 18 [(4, _)] := h.sub (.cons rfl .nil)
    refine wpList_nil (norm_then ?_)
    refine wp_ret ?_
    refine ret1 h Tryd.results63 rfl ?_
    exact ⟨_, rfl, by first | (congr 1; exact bi (by rw [List.prefix_iff_eq_take]; exact eq_comm)) | (congr 1; exact bf (fun e => by have := e.length_le; omega)), rfl⟩
theorem pref_ok (l m : List UInt8) (w0 : World) : Rets Tryd.prog 52 #[S l, S m] w0 fun v w' => v = .bool (decide (m <+: l)) ∧ w0 = w' := by
  refine enter [(0, S l), (1, S m)] Tryd.func52 rfl Tryd.ntmps52 rfl (.cons rfl (.cons rfl .nil)) ?_
  intro a h
  refine wp_seq ?_
  refine wp_region_lit ?_
  refine st_assign h rfl rfl ?_; clear h a; intro a h
  replace h : Ag a 8 [(0, _), (1, _)] := h.sub (.cons rfl (.cons rfl .nil))
  refine wpList_nil (norm_then ?_)
  refine wp_seq ?_
  refine wp_region_lit ?_
  refine st_move h rfl rfl ?_; clear h a; intro a h
  refine st_move h rfl rfl ?_; clear h a; intro a h
  refine st_call h (evs_cons rfl (evs_cons rfl evs_nil)) co63 (pref0_ok _ _ _) rfl ?_; clear h a; rintro _ _ ⟨rfl, rfl⟩ a h
  refine st_assign h rfl rfl ?_; clear h a; intro a h
  replace h : Ag a 8 [(4, _)] := h.sub (.cons rfl .nil)
  refine wpList_nil (norm_then ?_)
  refine wp_ret ?_
  refine ret1 h Tryd.results52 rfl ?_
  exact ⟨_, rfl, rfl, rfl⟩
theorem small_ok (n : Nat) (w0 : World) (hn : n < 100) : Rets Tryd.prog 81 #[.int .i64 (n : Int)] w0 fun v w' => v = S (itoaS n) ∧ w0 = w' := by
  refine enter [(0, .int .i64 (n : Int))] Tryd.func81 rfl Tryd.ntmps81 rfl (.cons rfl .nil) ?_
  intro a h
  refine wp_seq ?_
  refine wp_region_lit ?_
  refine st_assign h rfl rfl ?_; clear h a; intro a h
  replace h : Ag a 15 [(0, _)] := h.sub (.cons rfl .nil)
  refine wpList_nil (norm_then ?_)
  refine wp_seq ?_
  refine wp_seq ?_
  refine wp_region_lit ?_
  refine st_move h rfl rfl ?_; clear h a; intro a h
  refine st_lt h rfl rfl rfl ?_; clear h a; intro a h
  replace h : Ag a 15 [(0, _), (4, _)] := h.sub (.cons rfl (.cons rfl .nil))
  refine wpList_nil (norm_then ?_)
  first | refine cond_dec h rfl (fun c0 => ?_) (fun c0 => ?_) | refine cond_ndec h rfl (fun c0 => ?_) (fun c0 => ?_) | refine cond_split h rfl (fun c0 => ?_) (fun c0 => ?_)
  · refine id ?_
    refine wp_seq ?_
    refine wp_region_lit ?_
    refine st_move h rfl rfl ?_; clear h a; intro a h
    refine st_move h rfl rfl ?_; clear h a; intro a h
    refine st_add h rfl rfl (by first | exact IntWalk.i64_in _ (by omega) | rfl) rfl ?_; clear h a; intro a h
    refine st_ss_lh (p := n) (p' := n + 1) h rfl rfl rfl Tryd.underlying9 (by omega) (by omega) (by simp; omega) (by omega) (by omega) rfl ?_; clear h a; intro a h
    refine st_assign h rfl rfl ?_; clear h a; intro a h
    replace h : Ag a 15 [(2, _)] := h.sub (.cons rfl .nil)
    refine wpList_nil (norm_then ?_)
    refine wp_ret (ret_then ?_)
    refine ret1 h Tryd.results81 rfl ?_
    refine ⟨_, rfl, ?_, rfl⟩
    clear h
    have e : n < 10 := by omega
    clear c0 hn; refine congrArg S ?_; revert n; decide +kernel
  · refine id ?_
    refine wp_skip (norm_then ?_)
    refine wp_seq ?_
    refine wp_region_lit ?_
    refine st_move h rfl rfl ?_; clear h a; intro a h
    refine st_mul h rfl rfl (by first | exact IntWalk.i64_in _ (by omega) | rfl) rfl ?_; clear h a; intro a h
    refine st_move h rfl rfl ?_; clear h a; intro a h
    refine st_mul h rfl rfl (by first | exact IntWalk.i64_in _ (by omega) | rfl) rfl ?_; clear h a; intro a h
    refine st_add h rfl rfl (by first | exact IntWalk.i64_in _ (by omega) | rfl) rfl ?_; clear h a; intro a h
    refine st_ss_lh (p := 2 * n) (p' := 2 * n + 2) h rfl rfl rfl Tryd.underlying9 (by omega) (by omega) (Int.le_trans (b := 200) (by omega) (by decide +kernel)) (by omega) (by omega) rfl ?_; clear h a; intro a h
    refine st_assign h rfl rfl ?_; clear h a; intro a h
    replace h : Ag a 15 [(2, _)] := h.sub (.cons rfl .nil)
    refine wpList_nil (norm_then ?_)
    refine wp_ret ?_
    refine ret1 h Tryd.results81 rfl ?_
    refine ⟨_, rfl, ?_, rfl⟩
    clear h
    have e : 10 ≤ n := by omega
    clear c0; refine congrArg S ?_; revert n; decide +kernel
theorem formatInt_ok (n : Nat) (w0 : World) (hn : n < 100) : Rets Tryd.prog 73 #[.int .i64 (n : Int), .int .i64 10] w0 fun v w' => v = S (itoaS n) ∧ w0 = w' := by
  refine enter [(0, .int .i64 (n : Int)), (1, .int .i64 10)] Tryd.func73 rfl Tryd.ntmps73 rfl (.cons rfl (.cons rfl .nil)) ?_
  intro a h
  refine wp_seq ?_
  refine wp_region_lit ?_
  refine st_assign h rfl rfl ?_; clear h a; intro a h
  replace h : Ag a 54 [(0, _), (1, _)] := h.sub (.cons rfl (.cons rfl .nil))
  refine wpList_nil (norm_then ?_)
  refine wp_seq ?_
  refine wp_seq ?_
  refine wp_region_lit ?_
  refine st_move h rfl rfl ?_; clear h a; intro a h
  refine st_eq h rfl rfl rfl ?_; clear h a; intro a h
  replace h : Ag a 54 [(0, _), (1, _), (11, _)] := h.sub (.cons rfl (.cons rfl (.cons rfl .nil)))
  refine wpList_nil (norm_then ?_)
  first | refine cond_dec h rfl (fun c0 => ?_) (fun c0 => ?_) | refine cond_ndec h rfl (fun c0 => ?_) (fun c0 => ?_) | refine cond_split h rfl (fun c0 => ?_) (fun c0 => ?_)
  · refine id ?_
    refine wp_seq ?_
    refine wp_seq ?_
    refine region_bool (r := 17) (L' := [(0, _)]) (True) h (.cons rfl .nil) ?_ ?_
    · refine id ?_
      refine st_move h rfl rfl ?_; clear h a; intro a h
      refine st_le h rfl rfl rfl ?_; clear h a; intro a h
      refine st_move h rfl rfl ?_; clear h a; intro a h
      first | refine guard_dec (D := 14) h rfl ?_ ?_ | refine guard_ndec (D := 14) h rfl ?_ ?_ | refine guard_any (D := 14) h rfl ?_ ?_
      · clear h; intro g0 h
        refine gd_yes h rfl rfl rfl rfl rfl rfl ?_
        refine st_move h rfl rfl ?_; clear h a; intro a h
        refine gd_yes h rfl rfl rfl rfl rfl rfl ?_
        refine st_lt h rfl rfl rfl ?_; clear h a; intro a h
        refine st_pick_t h rfl rfl rfl rfl ?_; clear h a; intro a h
        exact wpList_nil (bool_end h rfl (by first | exact bi (iff_true_intro (by omega)) | (exfalso; omega)) (.cons rfl .nil))
      · clear h; intro g0 h
        refine gd_no h rfl rfl rfl rfl rfl rfl rfl rfl ?_; clear h a; intro a h
        refine gd_no h rfl rfl rfl rfl rfl rfl rfl rfl ?_; clear h a; intro a h
        refine st_pick_f h rfl rfl rfl rfl ?_; clear h a; intro a h
        exact wpList_nil (bool_end h rfl (by first | exact bi (iff_true_intro (by omega)) | (exfalso; omega)) (.cons rfl .nil))
    · clear h a; intro a h
      refine (norm_then ?_)
      first | refine cond_dec h rfl (fun c1 => ?_) (fun c1 => ?_) | refine cond_ndec h rfl (fun c1 => ?_) (fun c1 => ?_) | refine cond_split h rfl (fun c1 => ?_) (fun c1 => ?_)
      · refine id ?_
        refine wp_seq ?_
        refine wp_region_lit ?_
        refine st_move h rfl rfl ?_; clear h a; intro a h
        refine st_call h (evs_cons rfl evs_nil) co81 (small_ok _ _ (by omega)) rfl ?_; clear h a; rintro _ _ ⟨rfl, rfl⟩ a h
        refine st_assign h rfl rfl ?_; clear h a; intro a h
        replace h : Ag a 54 [(4, _)] := h.sub (.cons rfl .nil)
        refine wpList_nil (norm_then ?_)
        refine wp_ret (ret_then (ret_then ?_))
        refine ret1 h Tryd.results73 rfl ?_
        exact ⟨_, rfl, rfl, rfl⟩
      · exact absurd trivial c1
  · exact absurd rfl c0
theorem itoa0_ok (n : Nat) (w0 : World) (hn : n < 100) : Rets Tryd.prog 62 #[.int .i64 (n : Int)] w0 fun v w' => v = S (itoaS n) ∧ w0 = w' := by
  refine enter [(0, .int .i64 (n : Int))] Tryd.func62 rfl Tryd.ntmps62 rfl (.cons rfl .nil) ?_
  intro a h
  refine wp_seq ?_
  refine wp_region_lit ?_
  refine st_assign h rfl rfl ?_; clear h a; intro a h
  replace h : Ag a 5 [(0, _)] := h.sub (.cons rfl .nil)
  refine wpList_nil (norm_then ?_)
  refine wp_seq ?_
  refine wp_region_lit ?_
  refine st_move h rfl rfl ?_; clear h a; intro a h
  refine st_call h (evs_cons rfl (evs_cons rfl evs_nil)) co73 (formatInt_ok _ _ (by omega)) rfl ?_; clear h a; rintro _ _ ⟨rfl, rfl⟩ a h
  refine st_assign h rfl rfl ?_; clear h a; intro a h
  replace h : Ag a 5 [(2, _)] := h.sub (.cons rfl .nil)
  refine wpList_nil (norm_then ?_)
  refine wp_ret ?_
  refine ret1 h Tryd.results62 rfl ?_
  exact ⟨_, rfl, rfl, rfl⟩
theorem itoa_ok (n : Nat) (w0 : World) (hn : n < 100) : Rets Tryd.prog 46 #[.int .i64 (n : Int)] w0 fun v w' => v = S (itoaS n) ∧ w0 = w' := by
  refine enter [(0, .int .i64 (n : Int))] Tryd.func46 rfl Tryd.ntmps46 rfl (.cons rfl .nil) ?_
  intro a h
  refine wp_seq ?_
  refine wp_region_lit ?_
  refine st_assign h rfl rfl ?_; clear h a; intro a h
  replace h : Ag a 5 [(0, _)] := h.sub (.cons rfl .nil)
  refine wpList_nil (norm_then ?_)
  refine wp_seq ?_
  refine wp_region_lit ?_
  refine st_move h rfl rfl ?_; clear h a; intro a h
  refine st_call h (evs_cons rfl evs_nil) co62 (itoa0_ok _ _ (by omega)) rfl ?_; clear h a; rintro _ _ ⟨rfl, rfl⟩ a h
  refine st_assign h rfl rfl ?_; clear h a; intro a h
  replace h : Ag a 5 [(2, _)] := h.sub (.cons rfl .nil)
  refine wpList_nil (norm_then ?_)
  refine wp_ret ?_
  refine ret1 h Tryd.results46 rfl ?_
  exact ⟨_, rfl, rfl, rfl⟩
end Go.Proofs.YtbbnampdgefljaaDoor
namespace Go.Proofs.YtbbnampdgefljaaDoor
open Go.Lw Go.G14
theorem ne_rows {xs ys : List (List Stitch)} {i k : Nat} {x y : List Stitch} {s t : Stitch} (hx : xs[i]? = some x) (hy : ys[i]? = some y) (hs : x[k]? = some s) (ht : y[k]? = some t) (h : s ≠ t) : xs ≠ ys := take_ne hx hy (take_ne hs ht h)
set_option maxHeartbeats 1000000 in
theorem differ2_ok (u v : Value) (xs ys : List (List Stitch)) (w0 : World) (hu : Sl2 w0 u xs) (hv : Sl2 w0 v ys) : Rets Tryd.prog 22 #[.agg #[u], .agg #[v]] w0 fun r w' => r = .int .i64 (if xs = ys then 0 else 1) ∧ Fr [] w0 w' := by
  obtain ⟨hs, hsl, hl, hr⟩ := hu
  obtain ⟨gs, gsl, gl, gr⟩ := hv
  obtain ⟨A, c, rfl, hc, hM, hA⟩ := hsl
  obtain ⟨B, d, rfl, hd, hN, hB⟩ := gsl
  unfold maxLen at hM hN
  refine enter [(0, .agg #[.slice A hs.length c]), (1, .agg #[.slice B gs.length d])] Tryd.func22 rfl Tryd.ntmps22 rfl (.cons rfl (.cons rfl .nil)) ?_
  have hf := Fr.refl [] w0
  intro a h
  refine wp_seq ?_
  refine wp_region_lit ?_
  refine st_box h rfl rfl rfl ?_; clear h a; intro w1 hb2 hq hz a h
  obtain ⟨g_2, hg⟩ : ∃ g, g = w0.heap.size := ⟨_, rfl⟩; rw [← hg] at hb2 h hz
  have hl2 : w0.heap.size ≤ g_2 := by have := hf.size; omega
  replace hf := hf.next hq
  clear hq hz hg
  refine st_box h rfl rfl rfl ?_; clear h a; intro w2 hb3 hq hz a h
  obtain ⟨g_3, hg⟩ : ∃ g, g = w1.heap.size := ⟨_, rfl⟩; rw [← hg] at hb3 h hz
  have hl3 : w0.heap.size ≤ g_3 := by have := hf.size; omega
  have hn_2_3 : g_2 < g_3 := by have := hb2.lt; omega
  replace hf := hf.next hq
  replace hb2 := hb2.ext hq
  clear hq hz hg
  refine st_assign h rfl rfl ?_; clear h a; intro a h
  replace h : Ag a 61 [(2, _), (3, _)] := h.sub (.cons rfl (.cons rfl .nil))
  refine wpList_nil (norm_then ?_)
  refine wp_seq ?_
  refine wp_seq ?_
  refine wp_region_lit ?_
  refine st_fieldAddr h rfl fa45_0 rfl ?_; clear h a; intro a h
  refine st_loadB h rfl hb2 rfl na43 rfl ?_; clear h a; intro a h
  refine st_lenS h rfl Tryd.underlying43 rfl ?_; clear h a; intro a h
  refine st_fieldAddr h rfl fa45_0 rfl ?_; clear h a; intro a h
  refine st_loadB h rfl hb3 rfl na43 rfl ?_; clear h a; intro a h
  refine st_lenS h rfl Tryd.underlying43 rfl ?_; clear h a; intro a h
  refine st_ne h rfl rfl rfl ?_; clear h a; intro a h
  replace h : Ag a 61 [(2, _), (3, _), (13, _)] := h.sub (.cons rfl (.cons rfl (.cons rfl .nil)))
  refine wpList_nil (norm_then ?_)
  first | refine cond_dec h rfl (fun c0 => ?_) (fun c0 => ?_) | refine cond_ndec h rfl (fun c0 => ?_) (fun c0 => ?_) | refine cond_split h rfl (fun c0 => ?_) (fun c0 => ?_)
  · refine id ?_
    refine wp_seq ?_
    refine wp_region_lit ?_
    refine st_assign h rfl rfl ?_; clear h a; intro a h
    replace h : Ag a 61 [(4, _)] := h.sub (.cons rfl .nil)
    refine wpList_nil (norm_then ?_)
    refine wp_ret (ret_then ?_)
    refine ret1 h Tryd.results22 rfl ?_
    exact ⟨_, rfl, by rw [if_neg (by rintro rfl; omega)], hf⟩
  · refine id ?_
    refine wp_skip (norm_then ?_)
    refine wp_seq ?_
    refine wp_seq ?_
    refine wp_region_lit ?_
    refine st_assign h rfl rfl ?_; clear h a; intro a h
    replace h : Ag a 61 [(2, _), (3, _), (5, _)] := h.sub (.cons rfl (.cons rfl (.cons rfl .nil)))
    refine wpList_nil (norm_then ?_)
    refine wp_block ?_
    refine loop (ι := Nat) (fun i => [(2, .pointer (some ⟨g_2, 0, none⟩)), (3, .pointer (some ⟨g_3, 0, none⟩)), (5, .int .i64 (i : Int))]) (fun i w' => i ≤ hs.length ∧ xs.take i = ys.take i ∧ Blk w' g_2 45 [.slice A hs.length c] ∧ Blk w' g_3 45 [.slice B gs.length d] ∧ Fr [] w0 w') (fun i => hs.length - i) 0 (h.sub (.cons rfl (.cons rfl (.cons rfl .nil)))) ⟨by omega, by simp, hb2, hb3, hf⟩ ?_
    clear h a hf hb2 hb3
    rintro i w3 a h ⟨hi, ht, hb2, hb3, hf⟩
    refine wp_seq ?_
    refine wp_seq ?_
    refine wp_region_lit ?_
    refine st_move h rfl rfl ?_; clear h a; intro a h
    refine st_fieldAddr h rfl fa45_0 rfl ?_; clear h a; intro a h
    refine st_loadB h rfl hb2 rfl na43 rfl ?_; clear h a; intro a h
    refine st_lenS h rfl Tryd.underlying43 rfl ?_; clear h a; intro a h
    refine st_lt h rfl rfl rfl ?_; clear h a; intro a h
    replace h : Ag a 61 [(2, _), (3, _), (5, _), (18, _)] := h.sub (.cons rfl (.cons rfl (.cons rfl (.cons rfl .nil))))
    refine wpList_nil (norm_then ?_)
    first | refine cond_dec h rfl (fun c1 => ?_) (fun c1 => ?_) | refine cond_ndec h rfl (fun c1 => ?_) (fun c1 => ?_) | refine cond_split h rfl (fun c1 => ?_) (fun c1 => ?_)
    · obtain ⟨p, hp⟩ : ∃ p, hs[i]? = some p := ⟨_, List.getElem?_eq_getElem (by omega)⟩
      obtain ⟨q, hq'⟩ : ∃ p, gs[i]? = some p := ⟨_, List.getElem?_eq_getElem (by omega)⟩
      obtain ⟨x, hx⟩ : ∃ x, xs[i]? = some x := ⟨_, List.getElem?_eq_getElem (by omega)⟩
      obtain ⟨y, hy⟩ : ∃ y, ys[i]? = some y := ⟨_, List.getElem?_eq_getElem (by omega)⟩
      obtain ⟨ad, rfl, ca⟩ := hA i p hp
      obtain ⟨bd, rfl, cb⟩ := hB i q hq'
      obtain ⟨pl, pc, pM, pA⟩ := Sl.open_ (hr i p x hp hx)
      obtain ⟨ql, qc, qM, qB⟩ := Sl.open_ (gr i q y hq' hy)
      unfold maxLen at pM qM
      refine wp_skip (norm_then ?_)
      refine wp_seq ?_
      refine wp_block ?_
      refine wp_seq ?_
      refine wp_seq ?_
      refine region_quiet hmix (by kernel_rfl) ?_
      refine qt_fieldAddr h rfl fa45_0 rfl ?_; clear h a; intro a h
      refine qt_loadB h rfl (fun _ hw => hb2.ext hw) rfl na43 rfl ?_; clear h a; intro a h
      refine qt_move h rfl rfl ?_; clear h a; intro a h
      refine qt_idxS h rfl rfl el43 (by omega) (by omega) rfl rfl ?_; clear h a; intro a h
      refine qt_loadC0 h rfl (fun _ hw => (ca.fr hf (by simp)).fr hw (by simp)) na22 rfl ?_; clear h a; intro a h
      refine qt_lenS h rfl Tryd.underlying22 rfl ?_; clear h a; intro a h
      refine qt_fieldAddr h rfl fa45_0 rfl ?_; clear h a; intro a h
      refine qt_loadB h rfl (fun _ hw => hb3.ext hw) rfl na43 rfl ?_; clear h a; intro a h
      refine qt_move h rfl rfl ?_; clear h a; intro a h
      refine qt_idxS h rfl rfl el43 (by omega) (by omega) rfl rfl ?_; clear h a; intro a h
      refine qt_loadC0 h rfl (fun _ hw => (cb.fr hf (by simp)).fr hw (by simp)) na22 rfl ?_; clear h a; intro a h
      refine qt_lenS h rfl Tryd.underlying22 rfl ?_; clear h a; intro a h
      refine qt_ne h rfl rfl rfl ?_; clear h a; intro a h
      refine wpQuiet_nil ?_
      intro w4 hq
      replace hf := hf.next hq
      replace hb2 := hb2.ext hq
      replace hb3 := hb3.ext hq
      clear hq
      replace h : Ag a 61 [(2, _), (3, _), (5, _), (33, _)] := h.sub (.cons rfl (.cons rfl (.cons rfl (.cons rfl .nil))))
      refine (norm_then ?_)
      first | refine cond_dec h rfl (fun c2 => ?_) (fun c2 => ?_) | refine cond_ndec h rfl (fun c2 => ?_) (fun c2 => ?_) | refine cond_split h rfl (fun c2 => ?_) (fun c2 => ?_)
      · refine id ?_
        refine wp_seq ?_
        refine wp_region_lit ?_
        refine st_assign h rfl rfl ?_; clear h a; intro a h
        replace h : Ag a 61 [(4, _)] := h.sub (.cons rfl .nil)
        refine wpList_nil (norm_then ?_)
        refine wp_ret (ret_then (ret_blk (ret_then (ret_then (ret_blk (ret_then ?_))))))
        refine ret1 h Tryd.results22 rfl ?_
        exact ⟨_, rfl, by rw [if_neg (take_ne hx hy (by rintro rfl; omega))], hf⟩
      · refine id ?_
        refine wp_skip (norm_then ?_)
        refine wp_seq ?_
        refine wp_region_lit ?_
        refine st_assign h rfl rfl ?_; clear h a; intro a h
        replace h : Ag a 61 [(2, _), (3, _), (5, _), (6, _)] := h.sub (.cons rfl (.cons rfl (.cons rfl (.cons rfl .nil))))
        refine wpList_nil (norm_then ?_)
        refine wp_block ?_
        refine loop (ι := Nat) (fun k => [(2, .pointer (some ⟨g_2, 0, none⟩)), (3, .pointer (some ⟨g_3, 0, none⟩)), (5, .int .i64 (i : Int)), (6, .int .i64 (k : Int))]) (fun k w' => k ≤ p.2.1 ∧ x.take k = y.take k ∧ Blk w' g_2 45 [.slice (some ad) hs.length c] ∧ Blk w' g_3 45 [.slice (some bd) gs.length d] ∧ Fr [] w0 w') (fun k => p.2.1 - k) 0 (h.sub (.cons rfl (.cons rfl (.cons rfl (.cons rfl .nil))))) ⟨by omega, by simp, hb2, hb3, hf⟩ ?_
        clear h a hf hb2 hb3
        rintro k w5 a h ⟨hk, hkt, hb2, hb3, hf⟩
        refine wp_seq ?_
        refine wp_seq ?_
        refine wp_region_lit ?_
        refine st_move h rfl rfl ?_; clear h a; intro a h
        refine st_fieldAddr h rfl fa45_0 rfl ?_; clear h a; intro a h
        refine st_loadB h rfl hb2 rfl na43 rfl ?_; clear h a; intro a h
        refine st_move h rfl rfl ?_; clear h a; intro a h
        refine st_idxS h rfl rfl el43 (by omega) (by omega) rfl rfl ?_; clear h a; intro a h
        refine st_loadC0 h rfl (ca.fr hf (by simp)) na22 rfl ?_; clear h a; intro a h
        refine st_lenS h rfl Tryd.underlying22 rfl ?_; clear h a; intro a h
        refine st_lt h rfl rfl rfl ?_; clear h a; intro a h
        replace h : Ag a 61 [(2, _), (3, _), (5, _), (6, _), (41, _)] := h.sub (.cons rfl (.cons rfl (.cons rfl (.cons rfl (.cons rfl .nil)))))
        refine wpList_nil (norm_then ?_)
        first | refine cond_dec h rfl (fun c3 => ?_) (fun c3 => ?_) | refine cond_ndec h rfl (fun c3 => ?_) (fun c3 => ?_) | refine cond_split h rfl (fun c3 => ?_) (fun c3 => ?_)
        · obtain ⟨s, hs'⟩ : ∃ s, x[k]? = some s := ⟨_, List.getElem?_eq_getElem (by omega)⟩
          obtain ⟨t, ht'⟩ : ∃ t, y[k]? = some t := ⟨_, List.getElem?_eq_getElem (by omega)⟩
          obtain ⟨pa, hpa, cs⟩ := pA k s hs'
          obtain ⟨qa, hqa, ct⟩ := qB k t ht'
          refine wp_skip (norm_then ?_)
          refine wp_seq ?_
          refine wp_block ?_
          refine wp_seq ?_
          refine region_quiet hmix (by kernel_rfl) ?_
          refine qt_fieldAddr h rfl fa45_0 rfl ?_; clear h a; intro a h
          refine qt_loadB h rfl (fun _ hw => hb2.ext hw) rfl na43 rfl ?_; clear h a; intro a h
          refine qt_move h rfl rfl ?_; clear h a; intro a h
          refine qt_idxS h rfl rfl el43 (by omega) (by omega) rfl rfl ?_; clear h a; intro a h
          refine qt_loadC0 h rfl (fun _ hw => (ca.fr hf (by simp)).fr hw (by simp)) na22 rfl ?_; clear h a; intro a h
          refine qt_move h rfl rfl ?_; clear h a; intro a h
          refine qt_idx h rfl rfl hpa el22 (by omega) (by omega) rfl ?_; clear h a; intro a h
          refine qt_loadA h rfl (fun _ hw => (cs.fr hf (by simp)).fr hw (by simp)) ag36 rfl ?_; clear h a; intro a h
          refine qt_fieldAddr h rfl fa45_0 rfl ?_; clear h a; intro a h
          refine qt_loadB h rfl (fun _ hw => hb3.ext hw) rfl na43 rfl ?_; clear h a; intro a h
          refine qt_move h rfl rfl ?_; clear h a; intro a h
          refine qt_idxS h rfl rfl el43 (by omega) (by omega) rfl rfl ?_; clear h a; intro a h
          refine qt_loadC0 h rfl (fun _ hw => (cb.fr hf (by simp)).fr hw (by simp)) na22 rfl ?_; clear h a; intro a h
          refine qt_move h rfl rfl ?_; clear h a; intro a h
          refine qt_idx h rfl rfl hqa el22 (by omega) (by omega) rfl ?_; clear h a; intro a h
          refine qt_loadA h rfl (fun _ hw => (ct.fr hf (by simp)).fr hw (by simp)) ag36 rfl ?_; clear h a; intro a h
          refine qt_neV (e := s) (f := t) h rfl rfl eqv36 rfl ?_; clear h a; intro a h
          refine wpQuiet_nil ?_
          intro w6 hq
          replace hf := hf.next hq
          replace hb2 := hb2.ext hq
          replace hb3 := hb3.ext hq
          clear hq
          replace h : Ag a 61 [(2, _), (3, _), (5, _), (6, _), (60, _)] := h.sub (.cons rfl (.cons rfl (.cons rfl (.cons rfl (.cons rfl .nil)))))
          refine (norm_then ?_)
          first | refine cond_dec h rfl (fun c4 => ?_) (fun c4 => ?_) | refine cond_ndec h rfl (fun c4 => ?_) (fun c4 => ?_) | refine cond_split h rfl (fun c4 => ?_) (fun c4 => ?_)
          · refine id ?_
            refine wp_seq ?_
            refine wp_region_lit ?_
            refine st_assign h rfl rfl ?_; clear h a; intro a h
            replace h : Ag a 61 [(4, _)] := h.sub (.cons rfl .nil)
            refine wpList_nil (norm_then ?_)
            refine wp_ret (ret_blk (ret_then (ret_then (ret_blk (ret_blk (ret_then (ret_then (ret_blk (ret_then ?_)))))))))
            refine ret1 h Tryd.results22 rfl ?_
            exact ⟨_, rfl, by rw [if_neg (ne_rows hx hy hs' ht' c4)], hf⟩
          · refine id ?_
            refine wp_skip (norm_blk (norm_then ?_))
            refine wp_region_lit ?_
            refine st_move h rfl rfl ?_; clear h a; intro a h
            refine st_add h rfl rfl (by first | exact IntWalk.i64_in _ (by omega) | rfl) rfl ?_; clear h a; intro a h
            refine st_assign h rfl rfl ?_; clear h a; intro a h
            replace h : Ag a 61 [(2, _), (3, _), (5, _), (6, _)] := h.sub (.cons rfl (.cons rfl (.cons rfl (.cons rfl .nil))))
            refine wpList_nil (norm_then ?_)
            exact ⟨k + 1, h.sub (.cons rfl (.cons rfl (.cons rfl (.cons rfl .nil)))), ⟨by omega, by rw [List.take_add_one, List.take_add_one, hkt, hs', ht', Decidable.not_not.1 c4], hb2, hb3, hf⟩, by omega⟩
        · have hxy : x = y := by
            have e : k = x.length := by omega
            rwa [e, List.take_length, show x.length = y.length by omega, List.take_length] at hkt
          refine wp_exit (exit_then (exit_then (exit_here (norm_blk (norm_then ?_)))))
          refine wp_region_lit ?_
          refine st_move h rfl rfl ?_; clear h a; intro a h
          refine st_add h rfl rfl (by first | exact IntWalk.i64_in _ (by omega) | rfl) rfl ?_; clear h a; intro a h
          refine st_assign h rfl rfl ?_; clear h a; intro a h
          replace h : Ag a 61 [(2, _), (3, _), (5, _)] := h.sub (.cons rfl (.cons rfl (.cons rfl .nil)))
          refine wpList_nil (norm_then ?_)
          exact ⟨i + 1, h.sub (.cons rfl (.cons rfl (.cons rfl .nil))), ⟨by omega, by rw [List.take_add_one, List.take_add_one, ht, hx, hy, hxy], hb2, hb3, hf⟩, by omega⟩
    · obtain rfl : i = hs.length := by omega
      have hxy : xs = ys := by
        rwa [hl, List.take_length, show xs.length = ys.length by omega, List.take_length] at ht
      refine wp_exit (exit_then (exit_then (exit_here (norm_then ?_))))
      refine wp_seq ?_
      refine wp_region_lit ?_
      refine st_assign h rfl rfl ?_; clear h a; intro a h
      replace h : Ag a 61 [(4, _)] := h.sub (.cons rfl .nil)
      refine wpList_nil (norm_then ?_)
      refine wp_ret ?_
      refine ret1 h Tryd.results22 rfl ?_
      exact ⟨_, rfl, by rw [if_pos hxy], hf⟩
theorem repeats_ok (u : Value) (xs : List Stitch) (m : Nat) (w0 : World) (hu : Sl encSt w0 u xs) (hm : m ≤ xs.length) : Rets Tryd.prog 55 #[u, .int .i64 (m : Int)] w0 fun r w' => r = .bool (decide (xs.drop m = xs.take (xs.length - m))) ∧ Fr [] w0 w' := by
  have hu' := hu
  obtain ⟨A, c, rfl, hc, hM, hA⟩ := hu
  unfold maxLen at hM
  have ha := hu'.drop rfl hm (B := if c = m then A else A.map (·.add (m * encSt.sz))) (c' := c - m) (by omega) (by unfold maxLen; omega) (fun hlt => by rw [if_neg (by omega)])
  have hb := hu'.take rfl (m := xs.length - m) (by omega) (B := A) (c' := c) (by omega) (by unfold maxLen; omega) (fun _ => rfl)
  refine enter [(0, .slice A xs.length c), (1, .int .i64 (m : Int))] Tryd.func55 rfl Tryd.ntmps55 rfl (.cons rfl (.cons rfl .nil)) ?_
  have hf := Fr.refl [] w0
  intro a h
  refine wp_seq ?_
  refine wp_region_lit ?_
  refine st_assign h rfl rfl ?_; clear h a; intro a h
  replace h : Ag a 15 [(0, _), (1, _)] := h.sub (.cons rfl (.cons rfl .nil))
  refine wpList_nil (norm_then ?_)
  refine wp_seq ?_
  refine region_quiet hmix (by kernel_rfl) ?_
  refine qt_move h rfl rfl ?_; clear h a; intro a h
  refine qt_move h rfl rfl ?_; clear h a; intro a h
  refine qt_sl_l (p := m) h rfl rfl el22 (by omega) (by omega) (by omega) rfl ?_; clear h a; intro a h
  refine qt_move h rfl rfl ?_; clear h a; intro a h
  refine qt_move h rfl rfl ?_; clear h a; intro a h
  refine qt_lenS h rfl Tryd.underlying22 rfl ?_; clear h a; intro a h
  refine qt_move h rfl rfl ?_; clear h a; intro a h
  refine qt_sub h rfl rfl (by first | exact IntWalk.i64_in _ (by omega) | rfl) rfl ?_; clear h a; intro a h
  refine qt_sl_h (p := xs.length - m) h rfl rfl el22 (by omega) (by omega) (by omega) rfl ?_; clear h a; intro a h
  refine qt_call h (evs_cons rfl (evs_cons rfl evs_nil)) co44 (fun w hw => (equal_ok _ _ _ _ w (ha.ext hw) (hb.ext hw)).mono fun u w' ⟨e, f⟩ => ⟨e, hw.next f⟩) rfl ?_; clear h a; intro a h
  refine qt_assign h rfl rfl ?_; clear h a; intro a h
  refine wpQuiet_nil ?_
  intro w1 hq
  replace hf := hf.next hq
  clear hq
  replace h : Ag a 15 [(4, _)] := h.sub (.cons rfl .nil)
  refine (norm_then ?_)
  refine wp_ret ?_
  refine ret1 h Tryd.results55 rfl ?_
  exact ⟨_, rfl, rfl, hf⟩
theorem differ_ok (u v : Value) (xs ys : List Stitch) (w0 : World) (hu : Sl encSt w0 u xs) (hv : Sl encSt w0 v ys) : Rets Tryd.prog 13 #[u, v] w0 fun r w' => r = .int .i64 (if xs = ys then 0 else 1) ∧ Fr [] w0 w' := by
  obtain ⟨A, c, rfl, hc⟩ := hu.form
  obtain ⟨B, d, rfl, hd⟩ := hv.form
  refine enter [(0, .slice A xs.length c), (1, .slice B ys.length d)] Tryd.func13 rfl Tryd.ntmps13 rfl (.cons rfl (.cons rfl .nil)) ?_
  have hf := Fr.refl [] w0
  intro a h
  refine wp_seq ?_
  refine wp_region_lit ?_
  refine st_assign h rfl rfl ?_; clear h a; intro a h
  replace h : Ag a 12 [(0, _), (1, _)] := h.sub (.cons rfl (.cons rfl .nil))
  refine wpList_nil (norm_then ?_)
  refine wp_seq ?_
  refine wp_region_lit ?_
  refine st_move h rfl rfl ?_; clear h a; intro a h
  refine st_bslice ([(A, xs.length, c)]) h (evs_cons rfl evs_nil) rfl rfl rfl el43 (by decide) rfl ?_; clear h a; intro g_6 w1 hg ho6 hq hz a h
  have hl6 : w0.heap.size ≤ g_6 := by have := hf.size; omega
  replace hf := hf.next hq
  replace hu := hu.ext hq
  replace hv := hv.ext hq
  clear hq hz hg
  refine st_lit (cs := [_]) h (evs_cons rfl evs_nil) bo45 (pok_cons rfl rfl rfl pok_nil) rfl rfl ?_; clear h a; intro a h
  refine st_move h rfl rfl ?_; clear h a; intro a h
  refine st_bslice ([(B, ys.length, d)]) h (evs_cons rfl evs_nil) rfl rfl rfl el43 (by decide) rfl ?_; clear h a; intro g_9 w2 hg ho9 hq hz a h
  have hl9 : w0.heap.size ≤ g_9 := by have := hf.size; omega
  replace hf := hf.next hq
  replace hu := hu.ext hq
  replace hv := hv.ext hq
  replace ho6 := ho6.ext hq
  clear hq hz hg
  refine st_lit (cs := [_]) h (evs_cons rfl evs_nil) bo45 (pok_cons rfl rfl rfl pok_nil) rfl rfl ?_; clear h a; intro a h
  refine st_call h (evs_cons rfl (evs_cons rfl evs_nil)) co22 (differ2_ok _ _ [xs] [ys] _ (sl2_one ho6.sl hu) (sl2_one ho9.sl hv)) rfl ?_; clear h a; rintro _ w3 ⟨rfl, hq⟩ a h
  replace hf := hf.next hq
  replace hu := hu.ext hq
  replace hv := hv.ext hq
  replace ho6 := ho6.ext hq
  replace ho9 := ho9.ext hq
  clear hq
  refine st_assign h rfl rfl ?_; clear h a; intro a h
  replace h : Ag a 12 [(4, _)] := h.sub (.cons rfl .nil)
  refine wpList_nil (norm_then ?_)
  refine wp_ret ?_
  refine ret1 h Tryd.results13 rfl ?_
  exact ⟨_, rfl, by simp, hf⟩
end Go.Proofs.YtbbnampdgefljaaDoor
namespace Go.Proofs.YtbbnampdgefljaaDoor
open Go.Lw Go.G14
def P3 (g : Nat) : Value := .pointer (some ⟨g, 0, none⟩)
/-- What the two functions that read a row know of memory. -/
def EnvOk (l : List UInt8) (gs ga gr gi p : Nat) (w : World) : Prop :=
  Blk w gs 9 [S l] ∧ Blk w ga 3 [.int .i64 (p : Int)] ∧ Blk w gr 90 [.func (.func 49) #[] #[P3 gi, P3 ga, P3 gs]] ∧ Blk w gi 90 [.func (.func 51) #[] #[P3 ga, P3 gs, P3 gr]] ∧ Sym w
/-- What they return. -/
def RetOk (ga : Nat) (w0 : World) (r : Option (List Stitch × Nat)) (v : Value) (w' : World) : Prop :=
  ∃ (x : Value) (b : Bool), v = .tuple #[x, .bool b] ∧ Fr [ga] w0 w' ∧ (b = true → ∃ xs q, r = some (xs, q) ∧ Own encSt 36 w0.heap.size w' x xs ∧ Blk w' ga 3 [.int .i64 ((q : Nat) : Int)]) ∧ (b = false → r = none)
def ItemC (l : List UInt8) (gs ga gr gi F : Nat) : Prop := ∀ (p : Nat) (w0 : World), p ≤ l.length → 2 * (l.length - p) ≤ F → EnvOk l gs ga gr gi p w0 → Rets Tryd.prog 51 #[P3 ga, P3 gs, P3 gr] w0 (RetOk ga w0 (readS l F false p []))
def RowC (l : List UInt8) (gs ga gr gi F : Nat) : Prop := ∀ (p : Nat) (w0 : World), p ≤ l.length → 2 * (l.length - p) + 1 ≤ F → EnvOk l gs ga gr gi p w0 → Rets Tryd.prog 49 #[P3 gi, P3 ga, P3 gs] w0 (RetOk ga w0 (readS l F true p []))
set_option maxHeartbeats 1000000 in
theorem row_step (l : List UInt8) (gs ga gr gi F : Nat) (hl : l.length ≤ 1024) (o0 : 0 < gs) (o1 : gs < ga) (o2 : ga < gr) (o3 : gr < gi) (hi : ∀ m, m < F → ItemC l gs ga gr gi m) : RowC l gs ga gr gi F := by
  intro p w0 hp hF he
  obtain ⟨hbs, hba, hbr, hbi, hy⟩ := he
  have hgi := hbi.lt
  unfold P3 at *
  refine enter [(0, .pointer (some ⟨gi, 0, none⟩)), (1, .pointer (some ⟨ga, 0, none⟩)), (2, .pointer (some ⟨gs, 0, none⟩))] Tryd.func49 rfl Tryd.ntmps49 rfl (.cons rfl (.cons rfl (.cons rfl .nil))) ?_
  have hf := Fr.refl [ga] w0
  intro a h
  refine wp_seq ?_
  refine wp_region_lit ?_
  refine st_assign h rfl rfl ?_; clear h a; intro a h
  refine st_assign h rfl rfl ?_; clear h a; intro a h
  replace h : Ag a 32 [(0, _), (1, _), (2, _)] := h.sub (.cons rfl (.cons rfl (.cons rfl .nil)))
  refine wpList_nil (norm_then ?_)
  refine wp_seq ?_
  refine wp_region_lit ?_
  refine st_assign h rfl rfl ?_; clear h a; intro a h
  refine wpList_nil (norm_then ?_)
  refine wp_block ?_
  refine loop (ι := Nat × Nat × List Stitch × Value) (fun z => [(0, .pointer (some ⟨gi, 0, none⟩)), (1, .pointer (some ⟨ga, 0, none⟩)), (2, .pointer (some ⟨gs, 0, none⟩)), (5, z.2.2.2)]) (fun z w' => readS l F true p [] = readS l z.1 true z.2.1 z.2.2.1 ∧ z.2.1 ≤ l.length ∧ 2 * (l.length - z.2.1) + 1 ≤ z.1 ∧ z.1 ≤ F ∧ z.2.2.1.length ≤ 17 ∧ Own encSt 36 w0.heap.size w' z.2.2.2 z.2.2.1 ∧ EnvOk l gs ga gr gi z.2.1 w' ∧ Fr [ga] w0 w') (fun z => z.1) (F, p, [], .slice none 0 0) (h.sub (.cons rfl (.cons rfl (.cons rfl (.cons rfl .nil))))) ⟨rfl, hp, hF, Nat.le_refl _, by simp, Own.nil _, ⟨hbs, hba, hbr, hbi, hy⟩, hf⟩ ?_
  clear h a hf hbs hba hbr hbi hy
  rintro ⟨m', q, acc, x⟩ w1 a h ⟨hFe, hql, hm, hmF, hac, ho, ⟨hbs, hba, hbr, hbi, hy⟩, hf⟩
  simp only at hFe hql hm hmF hac ho hbs hba hbr hbi h
  obtain ⟨m, rfl⟩ : ∃ m, m' = m + 1 := ⟨m' - 1, by omega⟩
  unfold P3 at *
  refine wp_block ?_
  refine wp_seq ?_
  refine wp_region_lit ?_
  refine st_loadB0 h rfl hbi na90 rfl ?_; clear h a; intro a h
  refine st_callv (us := []) (ws := [_, _, _]) h rfl evs_nil co51 (hi m (by omega) q w1 hql (by omega) ⟨hbs, hba, hbr, hbi, hy⟩) rfl (by intro g; simp) ?_; clear h a hba; rintro _ w2x ⟨x2, ok, rfl, hq, hyes, hno⟩ a h
  replace hf := hf.step hq (by simp)
  replace hbs := hbs.fr hq (by simp; omega)
  replace hbr := hbr.fr hq (by simp; omega)
  replace hbi := hbi.fr hq (by simp; omega)
  replace hy := hy.fr hq (by simp; omega)
  replace ho := ho.fr hq (by intro k hk hb; have := ho.blk k hb; simp at hk; omega)
  have hsz := hq.size
  clear hq
  refine st_move h rfl rfl ?_; clear h a; intro a h
  refine st_extract h rfl rfl rfl ?_; clear h a; intro a h
  refine st_extract h rfl rfl rfl ?_; clear h a; intro a h
  refine st_assign h rfl rfl ?_; clear h a; intro a h
  refine st_assign h rfl rfl ?_; clear h a; intro a h
  replace h : Ag a 32 [(0, _), (1, _), (2, _), (5, _), (6, _), (7, _)] := h.sub (.cons rfl (.cons rfl (.cons rfl (.cons rfl (.cons rfl (.cons rfl .nil))))))
  refine wpList_nil (norm_then ?_)
  refine wp_seq ?_
  refine wp_seq ?_
  refine wp_region_lit ?_
  refine st_move h rfl rfl ?_; clear h a; intro a h
  refine st_not h rfl rfl ?_; clear h a; intro a h
  replace h : Ag a 32 [(0, _), (1, _), (2, _), (5, _), (6, _), (14, _)] := h.sub (.cons rfl (.cons rfl (.cons rfl (.cons rfl (.cons rfl (.cons rfl .nil))))))
  refine wpList_nil (norm_then ?_)
  first | refine cond_dec h rfl (fun c0 => ?_) (fun c0 => ?_) | refine cond_ndec h rfl (fun c0 => ?_) (fun c0 => ?_) | refine cond_split h rfl (fun c0 => ?_) (fun c0 => ?_)
  · have hok : ok = false := by simpa using c0
    subst hok
    refine wp_seq ?_
    refine wp_region_lit ?_
    refine st_assign h rfl rfl ?_; clear h a; intro a h
    refine st_assign h rfl rfl ?_; clear h a; intro a h
    replace h : Ag a 32 [(3, _), (4, _)] := h.sub (.cons rfl (.cons rfl .nil))
    refine wpList_nil (norm_then ?_)
    refine wp_ret (ret_then (ret_blk (ret_then (ret_blk ?_))))
    refine ret2 h Tryd.results49 rfl rfl ?_
    exact ⟨_, rfl, _, false, rfl, hf, (fun e => by cases e), fun _ => by rw [hFe]; exact read_row_none (hno rfl)⟩
  · have hok : ok = true := by simpa using c0
    subst hok
    obtain ⟨xs, q', hr, ho2, hba⟩ := hyes rfl
    obtain ⟨hq1, hq2, hxl⟩ := read_pos m false q [] xs q' hql hr
    clear hyes hno c0
    refine wp_skip (norm_then ?_)
    refine wp_seq ?_
    refine wp_region_lit ?_
    refine st_move h rfl rfl ?_; clear h a; intro a h
    refine st_move h rfl rfl ?_; clear h a; intro a h
    refine st_append h rfl rfl ho ho2.sl el22 (by unfold maxLen; omega) (by omega) (by have := hf.size; omega) rfl ?_; clear h a; intro x3 w3x ho3 hq _ a h
    replace hbs := hbs.fr hq (fun hb => by have := ho.blk _ hb; omega)
    replace hba := hba.fr hq (fun hb => by have := ho.blk _ hb; omega)
    replace hbr := hbr.fr hq (fun hb => by have := ho.blk _ hb; omega)
    replace hbi := hbi.fr hq (fun hb => by have := ho.blk _ hb; omega)
    replace hy := hy.fr hq (fun hb => by have := ho.blk _ hb; omega)
    replace hf := hf.step hq (fun k hk hlt => by have := ho.blk k hk; omega)
    clear hq
    clear ho ho2
    obtain ⟨A3, cp3, rfl, hc3⟩ := ho3.sl.form
    refine st_call h (evs_cons rfl evs_nil) co50 (cut_ok _ _ _ _ hc3) rfl ?_; clear h a; rintro _ _ ⟨rfl, rfl⟩ a h
    replace ho3 := ho3.take rfl (m := min (acc ++ xs).length 17) (by omega) (Nat.le_refl _) (by omega)
    rw [take_min] at ho3
    refine st_assign h rfl rfl ?_; clear h a; intro a h
    replace h : Ag a 32 [(0, _), (1, _), (2, _), (5, _)] := h.sub (.cons rfl (.cons rfl (.cons rfl (.cons rfl .nil))))
    refine wpList_nil (norm_then ?_)
    refine wp_seq ?_
    refine wp_seq ?_
    refine region_bool (r := 28) (L' := [(0, _), (1, _), (2, _), (5, _)]) (q' = l.length ∨ ((l.getD q' 0).toNat : Int) ≠ 32) h (.cons rfl (.cons rfl (.cons rfl (.cons rfl .nil)))) ?_ ?_
    · refine id ?_
      refine st_loadB0 h rfl hba na3 rfl ?_; clear h a; intro a h
      refine st_loadB0 h rfl hbs na9 rfl ?_; clear h a; intro a h
      refine st_len h rfl Tryd.underlying9 rfl ?_; clear h a; intro a h
      refine st_eq h rfl rfl rfl ?_; clear h a; intro a h
      refine st_move h rfl rfl ?_; clear h a; intro a h
      first | refine guard_dec (D := 23) h rfl ?_ ?_ | refine guard_ndec (D := 23) h rfl ?_ ?_ | refine guard_any (D := 23) h rfl ?_ ?_
      · clear h; intro g0 h
        refine gd_no h rfl rfl rfl rfl rfl rfl rfl rfl ?_; clear h a; intro a h
        refine gd_no h rfl rfl rfl rfl rfl rfl rfl rfl ?_; clear h a; intro a h
        refine gd_no h rfl rfl rfl rfl rfl rfl rfl rfl ?_; clear h a; intro a h
        refine gd_no h rfl rfl rfl rfl rfl rfl rfl rfl ?_; clear h a; intro a h
        refine st_pick_t h rfl rfl rfl rfl ?_; clear h a; intro a h
        exact wpList_nil (bool_end h rfl (by first | exact bt (by omega) | exact bf (by omega) | exact bi (by omega) | exact bn (by omega)) (.cons rfl (.cons rfl (.cons rfl (.cons rfl .nil)))))
      · clear h; intro g0 h
        refine gd_yes h rfl rfl rfl rfl rfl rfl ?_
        refine st_loadB0 h rfl hbs na9 rfl ?_; clear h a; intro a h
        refine gd_yes h rfl rfl rfl rfl rfl rfl ?_
        refine st_loadB0 h rfl hba na3 rfl ?_; clear h a; intro a h
        refine gd_yes h rfl rfl rfl rfl rfl rfl ?_
        refine st_index (p := q') h rfl rfl Tryd.underlying9 (by omega) (by omega) (by omega) rfl ?_; clear h a; intro hy26 a h
        refine gd_yes h rfl rfl rfl rfl rfl rfl ?_
        refine st_ne h rfl rfl rfl ?_; clear h a; intro a h
        refine st_pick_f h rfl rfl rfl rfl ?_; clear h a; intro a h
        exact wpList_nil (bool_end h rfl (by first | exact bt (by omega) | exact bf (by omega) | exact bi (by omega) | exact bn (by omega)) (.cons rfl (.cons rfl (.cons rfl (.cons rfl .nil)))))
    · clear h a; intro a h
      refine (norm_then ?_)
      first | refine cond_dec h rfl (fun c1 => ?_) (fun c1 => ?_) | refine cond_ndec h rfl (fun c1 => ?_) (fun c1 => ?_) | refine cond_split h rfl (fun c1 => ?_) (fun c1 => ?_)
      · refine id ?_
        refine wp_seq ?_
        refine wp_region_lit ?_
        refine st_move h rfl rfl ?_; clear h a; intro a h
        refine st_assign h rfl rfl ?_; clear h a; intro a h
        refine st_assign h rfl rfl ?_; clear h a; intro a h
        replace h : Ag a 32 [(3, _), (4, _)] := h.sub (.cons rfl (.cons rfl .nil))
        refine wpList_nil (norm_then ?_)
        refine wp_ret (ret_then (ret_blk (ret_then (ret_blk ?_))))
        refine ret2 h Tryd.results49 rfl rfl ?_
        exact ⟨_, rfl, _, true, rfl, hf, fun _ => ⟨_, _, by rw [hFe]; exact read_row_end hr (or_byte (c := 32) c1), ho3, hba⟩, (fun e => by cases e)⟩
      · refine id ?_
        refine wp_skip (norm_then ?_)
        refine wp_region_lit ?_
        refine st_loadB0 h rfl hba na3 rfl ?_; clear h a; intro a h
        refine st_add h rfl rfl (by first | exact IntWalk.i64_in _ (by omega) | rfl) rfl ?_; clear h a; intro a h
        refine st_storeB0 h rfl rfl hba rfl rfl sz3 ?_; clear h a; intro w2 hbn hq hz a h
        replace hf := hf.step hq (by first | (simp; done) | (simp; omega))
        replace hbs := hbs.fr hq (by first | (simp; done) | (simp; omega) | (simp [blks]; done) | (simp [blks]; omega))
        replace hbr := hbr.fr hq (by first | (simp; done) | (simp; omega) | (simp [blks]; done) | (simp [blks]; omega))
        replace hbi := hbi.fr hq (by first | (simp; done) | (simp; omega) | (simp [blks]; done) | (simp [blks]; omega))
        replace hy := hy.fr hq (by first | (simp; done) | (simp; omega) | (simp [blks]; done) | (simp [blks]; omega))
        replace ho3 := ho3.fr hq (by intro k hk hb; have := ho3.blk k hb; simp at hk; omega)
        clear hba hq hz; have hba : Blk w2 ga _ [_] := hbn; clear hbn
        replace h : Ag a 32 [(0, _), (1, _), (2, _), (5, _)] := h.sub (.cons rfl (.cons rfl (.cons rfl (.cons rfl .nil))))
        refine wpList_nil (norm_blk (norm_then ?_))
        exact ⟨(m, q' + 1, (acc ++ xs).take 17, _), h.sub (.cons rfl (.cons rfl (.cons rfl (.cons rfl .nil)))), ⟨by rw [hFe]; exact read_row_next hr (nor_byte (c := 32) c1), by simp only; omega, by simp only; omega, by simp only; omega, by simp; omega, ho3, ⟨hbs, hba, hbr, hbi, hy⟩, hf⟩, by simp only; omega⟩
set_option maxHeartbeats 2000000 in
theorem item_step (l : List UInt8) (gs ga gr gi F : Nat) (hl : l.length ≤ 1024) (o0 : 0 < gs) (o1 : gs < ga) (o2 : ga < gr) (o3 : gr < gi) (hi : ∀ m, m < F → RowC l gs ga gr gi m) : ItemC l gs ga gr gi F := by
  intro p w0 hp hF he
  obtain ⟨hbs, hba, hbr, hbi, hy⟩ := he
  have hgi := hbi.lt
  unfold P3 at *
  refine enter [(0, .pointer (some ⟨ga, 0, none⟩)), (1, .pointer (some ⟨gs, 0, none⟩)), (2, .pointer (some ⟨gr, 0, none⟩))] Tryd.func51 rfl Tryd.ntmps51 rfl (.cons rfl (.cons rfl (.cons rfl .nil))) ?_
  have hf := Fr.refl [ga] w0
  intro a h
  refine wp_seq ?_
  refine wp_region_lit ?_
  refine st_assign h rfl rfl ?_; clear h a; intro a h
  refine st_assign h rfl rfl ?_; clear h a; intro a h
  replace h : Ag a 94 [(0, _), (1, _), (2, _)] := h.sub (.cons rfl (.cons rfl (.cons rfl .nil)))
  refine wpList_nil (norm_then ?_)
  refine wp_seq ?_
  refine wp_seq ?_
  refine region_bool (r := 22) (L' := [(0, _), (1, _), (2, _)]) (p = l.length ∨ ((l.getD p 0).toNat : Int) ≠ 91) h (.cons rfl (.cons rfl (.cons rfl .nil))) ?_ ?_
  · refine id ?_
    refine st_loadB0 h rfl hba na3 rfl ?_; clear h a; intro a h
    refine st_loadB0 h rfl hbs na9 rfl ?_; clear h a; intro a h
    refine st_len h rfl Tryd.underlying9 rfl ?_; clear h a; intro a h
    refine st_eq h rfl rfl rfl ?_; clear h a; intro a h
    refine st_move h rfl rfl ?_; clear h a; intro a h
    first | refine guard_dec (D := 17) h rfl ?_ ?_ | refine guard_ndec (D := 17) h rfl ?_ ?_ | refine guard_any (D := 17) h rfl ?_ ?_
    · clear h; intro g0 h
      refine gd_no h rfl rfl rfl rfl rfl rfl rfl rfl ?_; clear h a; intro a h
      refine gd_no h rfl rfl rfl rfl rfl rfl rfl rfl ?_; clear h a; intro a h
      refine gd_no h rfl rfl rfl rfl rfl rfl rfl rfl ?_; clear h a; intro a h
      refine gd_no h rfl rfl rfl rfl rfl rfl rfl rfl ?_; clear h a; intro a h
      refine st_pick_t h rfl rfl rfl rfl ?_; clear h a; intro a h
      exact wpList_nil (bool_end h rfl (by first | exact bt (by omega) | exact bf (by omega) | exact bi (by omega) | exact bn (by omega)) (.cons rfl (.cons rfl (.cons rfl .nil))))
    · clear h; intro g0 h
      refine gd_yes h rfl rfl rfl rfl rfl rfl ?_
      refine st_loadB0 h rfl hbs na9 rfl ?_; clear h a; intro a h
      refine gd_yes h rfl rfl rfl rfl rfl rfl ?_
      refine st_loadB0 h rfl hba na3 rfl ?_; clear h a; intro a h
      refine gd_yes h rfl rfl rfl rfl rfl rfl ?_
      refine st_index (p := p) h rfl rfl Tryd.underlying9 (by omega) (by omega) (by omega) rfl ?_; clear h a; intro hy20 a h
      refine gd_yes h rfl rfl rfl rfl rfl rfl ?_
      refine st_ne h rfl rfl rfl ?_; clear h a; intro a h
      refine st_pick_f h rfl rfl rfl rfl ?_; clear h a; intro a h
      exact wpList_nil (bool_end h rfl (by first | exact bt (by omega) | exact bf (by omega) | exact bi (by omega) | exact bn (by omega)) (.cons rfl (.cons rfl (.cons rfl .nil))))
  · clear h a; intro a h
    refine (norm_then ?_)
    first | refine cond_dec h rfl (fun c0 => ?_) (fun c0 => ?_) | refine cond_ndec h rfl (fun c0 => ?_) (fun c0 => ?_) | refine cond_split h rfl (fun c0 => ?_) (fun c0 => ?_)
    · have c0' := or_byte (c := 91) c0
      refine wp_seq ?_
      refine wp_region_lit ?_
      refine st_loadB0 h rfl hba na3 rfl ?_; clear h a; intro a h
      refine st_assign h rfl rfl ?_; clear h a; intro a h
      replace h : Ag a 94 [(0, _), (1, _), (5, _)] := h.sub (.cons rfl (.cons rfl (.cons rfl .nil)))
      refine wpList_nil (norm_then ?_)
      refine wp_seq ?_
      refine wp_block ?_
      refine loop (ι := Nat) (fun k => [(0, .pointer (some ⟨ga, 0, none⟩)), (1, .pointer (some ⟨gs, 0, none⟩)), (5, .int .i64 (k : Int))]) (fun k w' => p ≤ k ∧ k ≤ l.length ∧ wordEnd l k = wordEnd l p ∧ EnvOk l gs ga gr gi p w' ∧ Fr [ga] w0 w') (fun k => l.length - k) p (h.sub (.cons rfl (.cons rfl (.cons rfl .nil)))) ⟨Nat.le_refl _, hp, rfl, ⟨hbs, hba, hbr, hbi, hy⟩, hf⟩ ?_
      clear h a hf hbs hba hbr hbi hy
      rintro k w1 a h ⟨hpk, hkl, hwe, ⟨hbs, hba, hbr, hbi, hy⟩, hf⟩
      unfold P3 at *
      refine wp_seq ?_
      refine wp_seq ?_
      refine region_bool (r := 39) (L' := [(0, _), (1, _), (5, _)]) (k < l.length ∧ ((l.getD k 0).toNat : Int) ≠ 32 ∧ ((l.getD k 0).toNat : Int) ≠ 93) h (.cons rfl (.cons rfl (.cons rfl .nil))) ?_ ?_
      · refine id ?_
        refine st_move h rfl rfl ?_; clear h a; intro a h
        refine st_loadB0 h rfl hbs na9 rfl ?_; clear h a; intro a h
        refine st_len h rfl Tryd.underlying9 rfl ?_; clear h a; intro a h
        refine st_lt h rfl rfl rfl ?_; clear h a; intro a h
        refine st_move h rfl rfl ?_; clear h a; intro a h
        first | refine guard_dec (D := 28) h rfl ?_ ?_ | refine guard_ndec (D := 28) h rfl ?_ ?_ | refine guard_any (D := 28) h rfl ?_ ?_
        · clear h; intro g1 h
          refine gd_yes h rfl rfl rfl rfl rfl rfl ?_
          refine st_loadB0 h rfl hbs na9 rfl ?_; clear h a; intro a h
          refine gd_yes h rfl rfl rfl rfl rfl rfl ?_
          refine st_move h rfl rfl ?_; clear h a; intro a h
          refine gd_yes h rfl rfl rfl rfl rfl rfl ?_
          refine st_index (p := k) h rfl rfl Tryd.underlying9 (by omega) (by omega) (by omega) rfl ?_; clear h a; intro hy31 a h
          refine gd_yes h rfl rfl rfl rfl rfl rfl ?_
          refine st_ne h rfl rfl rfl ?_; clear h a; intro a h
          refine st_pick_t h rfl rfl rfl rfl ?_; clear h a; intro a h
          refine st_move h rfl rfl ?_; clear h a; intro a h
          first | refine guard_dec (D := 34) h rfl ?_ ?_ | refine guard_ndec (D := 34) h rfl ?_ ?_ | refine guard_any (D := 34) h rfl ?_ ?_
          · clear h; intro g2 h
            refine gd_yes h rfl rfl rfl rfl rfl rfl ?_
            refine st_loadB0 h rfl hbs na9 rfl ?_; clear h a; intro a h
            refine gd_yes h rfl rfl rfl rfl rfl rfl ?_
            refine st_move h rfl rfl ?_; clear h a; intro a h
            refine gd_yes h rfl rfl rfl rfl rfl rfl ?_
            refine st_index (p := k) h rfl rfl Tryd.underlying9 (by omega) (by omega) (by omega) rfl ?_; clear h a; intro hy37 a h
            refine gd_yes h rfl rfl rfl rfl rfl rfl ?_
            refine st_ne h rfl rfl rfl ?_; clear h a; intro a h
            refine st_pick_t h rfl rfl rfl rfl ?_; clear h a; intro a h
            exact wpList_nil (bool_end h rfl (by first | exact bt (by omega) | exact bf (by omega) | exact bi (by omega) | exact bn (by omega)) (.cons rfl (.cons rfl (.cons rfl .nil))))
          · clear h; intro g2 h
            refine gd_no h rfl rfl rfl rfl rfl rfl rfl rfl ?_; clear h a; intro a h
            refine gd_no h rfl rfl rfl rfl rfl rfl rfl rfl ?_; clear h a; intro a h
            refine gd_no h rfl rfl rfl rfl rfl rfl rfl rfl ?_; clear h a; intro a h
            refine gd_no h rfl rfl rfl rfl rfl rfl rfl rfl ?_; clear h a; intro a h
            refine st_pick_f h rfl rfl rfl rfl ?_; clear h a; intro a h
            exact wpList_nil (bool_end h rfl (by first | exact bt (by omega) | exact bf (by omega) | exact bi (by omega) | exact bn (by omega)) (.cons rfl (.cons rfl (.cons rfl .nil))))
        · clear h; intro g1 h
          refine gd_no h rfl rfl rfl rfl rfl rfl rfl rfl ?_; clear h a; intro a h
          refine gd_no h rfl rfl rfl rfl rfl rfl rfl rfl ?_; clear h a; intro a h
          refine gd_no h rfl rfl rfl rfl rfl rfl rfl rfl ?_; clear h a; intro a h
          refine gd_no h rfl rfl rfl rfl rfl rfl rfl rfl ?_; clear h a; intro a h
          refine st_pick_f h rfl rfl rfl rfl ?_; clear h a; intro a h
          refine st_move h rfl rfl ?_; clear h a; intro a h
          refine gd_no h rfl rfl rfl rfl rfl rfl rfl rfl ?_; clear h a; intro a h
          refine gd_no h rfl rfl rfl rfl rfl rfl rfl rfl ?_; clear h a; intro a h
          refine gd_no h rfl rfl rfl rfl rfl rfl rfl rfl ?_; clear h a; intro a h
          refine gd_no h rfl rfl rfl rfl rfl rfl rfl rfl ?_; clear h a; intro a h
          refine st_pick_f h rfl rfl rfl rfl ?_; clear h a; intro a h
          exact wpList_nil (bool_end h rfl (by first | exact bt (by omega) | exact bf (by omega) | exact bi (by omega) | exact bn (by omega)) (.cons rfl (.cons rfl (.cons rfl .nil))))
      · clear h a; intro a h
        refine (norm_then ?_)
        first | refine cond_dec h rfl (fun c1 => ?_) (fun c1 => ?_) | refine cond_ndec h rfl (fun c1 => ?_) (fun c1 => ?_) | refine cond_split h rfl (fun c1 => ?_) (fun c1 => ?_)
        · have c1' : k < l.length ∧ l.getD k 0 ≠ 32 ∧ l.getD k 0 ≠ 93 := ⟨c1.1, fun e => c1.2.1 (by rw [e]; rfl), fun e => c1.2.2 (by rw [e]; rfl)⟩
          refine wp_skip (norm_then ?_)
          refine wp_block ?_
          refine wp_region_lit ?_
          refine st_move h rfl rfl ?_; clear h a; intro a h
          refine st_add h rfl rfl (by first | exact IntWalk.i64_in _ (by omega) | rfl) rfl ?_; clear h a; intro a h
          refine st_assign h rfl rfl ?_; clear h a; intro a h
          replace h : Ag a 94 [(0, _), (1, _), (5, _)] := h.sub (.cons rfl (.cons rfl (.cons rfl .nil)))
          refine wpList_nil (norm_blk (norm_then ?_))
          exact ⟨k + 1, h.sub (.cons rfl (.cons rfl (.cons rfl .nil))), ⟨by omega, by omega, by rw [← hwe, wordEnd_next c1'], ⟨hbs, hba, hbr, hbi, hy⟩, hf⟩, by omega⟩
        · have hke : k = wordEnd l p := by
            rw [← hwe]; exact (wordEnd_here (fun e => c1 ⟨e.1, fun h => e.2.1 (byte_eq.1 h), fun h => e.2.2 (byte_eq.1 h)⟩)).symm
          refine wp_exit (exit_then (exit_then (exit_here (norm_then ?_))))
          refine wp_seq ?_
          refine wp_region_lit ?_
          refine st_loadB0 h rfl hbs na9 rfl ?_; clear h a; intro a h
          refine st_loadB0 h rfl hba na3 rfl ?_; clear h a; intro a h
          refine st_move h rfl rfl ?_; clear h a; intro a h
          refine st_ss_lh (p := p) (p' := k) h rfl rfl rfl Tryd.underlying9 (by omega) (by omega) (by omega) (by omega) (by omega) rfl ?_; clear h a; intro a h
          refine st_call h (evs_cons rfl evs_nil) co28 (parse_ok _ _ hy) rfl ?_; clear h a; rintro _ w2 ⟨rfl, hq⟩ a h
          replace hf := hf.next hq
          replace hbs := hbs.ext hq
          replace hba := hba.ext hq
          replace hbr := hbr.ext hq
          replace hbi := hbi.ext hq
          replace hy := hy.ext hq
          clear hq
          refine st_move h rfl rfl ?_; clear h a; intro a h
          refine st_extract h rfl rfl rfl ?_; clear h a; intro a h
          refine st_extract h rfl rfl rfl ?_; clear h a; intro a h
          refine st_alloc h zv36 rfl rfl ?_; clear h a; intro w3 hb6 hq hz a h
          obtain ⟨g_6, hg⟩ : ∃ g, g = w2.heap.size := ⟨_, rfl⟩; rw [← hg] at hb6 h hz
          have hl6 : w0.heap.size ≤ g_6 := by have := hf.size; omega
          have hn__6 : gs < g_6 := by have := hbs.lt; omega
          have hn__6 : ga < g_6 := by have := hba.lt; omega
          have hn__6 : gr < g_6 := by have := hbr.lt; omega
          have hn__6 : gi < g_6 := by have := hbi.lt; omega
          replace hf := hf.next hq
          replace hbs := hbs.ext hq
          replace hba := hba.ext hq
          replace hbr := hbr.ext hq
          replace hbi := hbi.ext hq
          replace hy := hy.ext hq
          clear hq hz hg
          refine st_storeBA h rfl rfl hb6 rfl (by first | (simp [Value.oneCell', S]; done) | exact Enc.one _ _) sz36 ?_; clear h a; intro w4 hbn hq hz a h
          replace hf := hf.step hq (by first | (simp; done) | (simp; omega))
          replace hbs := hbs.fr hq (by first | (simp; done) | (simp; omega) | (simp [blks]; done) | (simp [blks]; omega))
          replace hba := hba.fr hq (by first | (simp; done) | (simp; omega) | (simp [blks]; done) | (simp [blks]; omega))
          replace hbr := hbr.fr hq (by first | (simp; done) | (simp; omega) | (simp [blks]; done) | (simp [blks]; omega))
          replace hbi := hbi.fr hq (by first | (simp; done) | (simp; omega) | (simp [blks]; done) | (simp [blks]; omega))
          replace hy := hy.fr hq (by first | (simp; done) | (simp; omega) | (simp [blks]; done) | (simp [blks]; omega))
          clear hb6 hq hz; have hb6 : Blk w4 g_6 _ [_, _, _, _, _] := hbn; clear hbn
          refine st_assign h rfl rfl ?_; clear h a; intro a h
          replace h : Ag a 94 [(0, _), (5, _), (6, _), (7, _)] := h.sub (.cons rfl (.cons rfl (.cons rfl (.cons rfl .nil))))
          refine wpList_nil (norm_then ?_)
          refine wp_seq ?_
          refine wp_region_lit ?_
          refine st_move h rfl rfl ?_; clear h a; intro a h
          refine st_storeB0 h rfl rfl hba rfl rfl sz3 ?_; clear h a; intro w5 hbn hq hz a h
          replace hf := hf.step hq (by first | (simp; done) | (simp; omega))
          replace hbs := hbs.fr hq (by first | (simp; done) | (simp; omega) | (simp [blks]; done) | (simp [blks]; omega))
          replace hbr := hbr.fr hq (by first | (simp; done) | (simp; omega) | (simp [blks]; done) | (simp [blks]; omega))
          replace hbi := hbi.fr hq (by first | (simp; done) | (simp; omega) | (simp [blks]; done) | (simp [blks]; omega))
          replace hy := hy.fr hq (by first | (simp; done) | (simp; omega) | (simp [blks]; done) | (simp [blks]; omega))
          replace hb6 := hb6.fr hq (by first | (simp; done) | (simp; omega) | (simp [blks]; done) | (simp [blks]; omega))
          clear hba hq hz; have hba : Blk w5 ga _ [_] := hbn; clear hbn
          replace h : Ag a 94 [(6, _), (7, _)] := h.sub (.cons rfl (.cons rfl .nil))
          refine wpList_nil (norm_then ?_)
          refine wp_seq ?_
          refine wp_region_lit ?_
          refine st_loadBA h rfl hb6 ag36 rfl ?_; clear h a; intro a h
          refine st_bslice ([(parseS ((l.take k).drop p)).1]) h (evs_cons rfl evs_nil) rfl rfl rfl el22 (by decide) rfl ?_; clear h a; intro g_52 w6 hg ho52 hq hz a h
          have hn__52 : gs < g_52 := by have := hbs.lt; omega
          have hn__52 : ga < g_52 := by have := hba.lt; omega
          have hn__52 : gr < g_52 := by have := hbr.lt; omega
          have hn__52 : gi < g_52 := by have := hbi.lt; omega
          have hn_6_52 : g_6 < g_52 := by have := hb6.lt; omega
          have hl52 : w0.heap.size ≤ g_52 := by have := hf.size; omega
          replace hf := hf.next hq
          replace hbs := hbs.ext hq
          replace hba := hba.ext hq
          replace hbr := hbr.ext hq
          replace hbi := hbi.ext hq
          replace hy := hy.ext hq
          replace hb6 := hb6.ext hq
          clear hq hz hg
          refine st_move h rfl rfl ?_; clear h a; intro a h
          refine st_eq h rfl rfl rfl ?_; clear h a; intro a h
          refine st_assign h rfl rfl ?_; clear h a; intro a h
          refine st_assign h rfl rfl ?_; clear h a; intro a h
          replace h : Ag a 94 [(3, _), (4, _)] := h.sub (.cons rfl (.cons rfl .nil))
          refine wpList_nil (norm_then ?_)
          refine wp_ret (ret_then ?_)
          refine ret2 h Tryd.results51 rfl rfl ?_
          refine ⟨_, rfl, _, _, rfl, hf, fun e => ⟨_, _, ?_, ho52.low (by omega), hba⟩, fun e => ?_⟩
          · rw [read_leaf c0']; exact leaf_some hke (of_decide_eq_true e)
          · rw [read_leaf c0']; exact leaf_none hke (of_decide_eq_false e)
    · have c0' := nor_byte (c := 91) c0
      have hpl : p < l.length := by omega
      obtain ⟨m, rfl⟩ : ∃ m, F = m + 1 := ⟨F - 1, by omega⟩
      refine wp_skip (norm_then ?_)
      refine wp_seq ?_
      refine wp_region_lit ?_
      refine st_loadB0 h rfl hba na3 rfl ?_; clear h a; intro a h
      refine st_add h rfl rfl (by first | exact IntWalk.i64_in _ (by omega) | rfl) rfl ?_; clear h a; intro a h
      refine st_storeB0 h rfl rfl hba rfl rfl sz3 ?_; clear h a; intro w7 hbn hq hz a h
      replace hf := hf.step hq (by first | (simp; done) | (simp; omega))
      replace hbs := hbs.fr hq (by first | (simp; done) | (simp; omega) | (simp [blks]; done) | (simp [blks]; omega))
      replace hbr := hbr.fr hq (by first | (simp; done) | (simp; omega) | (simp [blks]; done) | (simp [blks]; omega))
      replace hbi := hbi.fr hq (by first | (simp; done) | (simp; omega) | (simp [blks]; done) | (simp [blks]; omega))
      replace hy := hy.fr hq (by first | (simp; done) | (simp; omega) | (simp [blks]; done) | (simp [blks]; omega))
      clear hba hq hz; have hba : Blk w7 ga _ [_] := hbn; clear hbn
      replace h : Ag a 94 [(0, _), (1, _), (2, _)] := h.sub (.cons rfl (.cons rfl (.cons rfl .nil)))
      refine wpList_nil (norm_then ?_)
      refine wp_seq ?_
      refine wp_region_lit ?_
      refine st_loadB0 h rfl hbr na90 rfl ?_; clear h a; intro a h
      refine st_callv (us := []) (ws := [_, _, _]) h rfl evs_nil co49 (hi m (by omega) (p + 1) w7 (by omega) (by omega) ⟨hbs, hba, hbr, hbi, hy⟩) rfl (by intro g; simp) ?_; clear h a hba; rintro _ w2x ⟨x2, ok, rfl, hq, hyes, hno⟩ a h
      have hfs := hf.size
      replace hf := hf.step hq (by simp)
      replace hbs := hbs.fr hq (by simp; omega)
      replace hbr := hbr.fr hq (by simp; omega)
      replace hbi := hbi.fr hq (by simp; omega)
      replace hy := hy.fr hq (by simp; omega)
      clear hq
      refine st_move h rfl rfl ?_; clear h a; intro a h
      refine st_extract h rfl rfl rfl ?_; clear h a; intro a h
      refine st_extract h rfl rfl rfl ?_; clear h a; intro a h
      refine st_assign h rfl rfl ?_; clear h a; intro a h
      refine st_assign h rfl rfl ?_; clear h a; intro a h
      replace h : Ag a 94 [(0, _), (1, _), (8, _), (9, _)] := h.sub (.cons rfl (.cons rfl (.cons rfl (.cons rfl .nil))))
      refine wpList_nil (norm_then ?_)
      refine wp_seq ?_
      refine wp_seq ?_
      refine wp_region_lit ?_
      refine st_move h rfl rfl ?_; clear h a; intro a h
      refine st_not h rfl rfl ?_; clear h a; intro a h
      refine st_move h rfl rfl ?_; clear h a; intro a h
      first | refine guard_dec (D := 64) h rfl ?_ ?_ | refine guard_ndec (D := 64) h rfl ?_ ?_ | refine guard_any (D := 64) h rfl ?_ ?_
      · clear h; intro g3 h
        refine gd_no h rfl rfl rfl rfl rfl rfl rfl rfl ?_; clear h a; intro a h
        refine gd_no h rfl rfl rfl rfl rfl rfl rfl rfl ?_; clear h a; intro a h
        refine gd_no h rfl rfl rfl rfl rfl rfl rfl rfl ?_; clear h a; intro a h
        refine gd_no h rfl rfl rfl rfl rfl rfl rfl rfl ?_; clear h a; intro a h
        refine gd_no h rfl rfl rfl rfl rfl rfl rfl rfl ?_; clear h a; intro a h
        refine st_pick_t h rfl rfl rfl rfl ?_; clear h a; intro a h
        replace h : Ag a 94 [(0, _), (1, _), (8, _), (70, _)] := h.sub (.cons rfl (.cons rfl (.cons rfl (.cons rfl .nil))))
        refine wpList_nil (norm_then ?_)
        refine cond_true h rfl ?_
        refine wp_seq ?_
        refine wp_region_lit ?_
        refine st_assign h rfl rfl ?_; clear h a; intro a h
        refine st_assign h rfl rfl ?_; clear h a; intro a h
        replace h : Ag a 94 [(3, _), (4, _)] := h.sub (.cons rfl (.cons rfl .nil))
        refine wpList_nil (norm_then ?_)
        refine wp_ret (ret_then ?_)
        refine ret2 h Tryd.results51 rfl rfl ?_
        exact ⟨_, rfl, _, false, rfl, hf, (fun e => by cases e), fun _ => by rw [read_rep c0', hno (by simpa using ‹(!ok) = true›)]⟩
      · clear h; intro g3 h
        refine gd_yes h rfl rfl rfl rfl rfl rfl ?_
        have hok : ok = true := by simpa using g3
        subst hok
        obtain ⟨xs, q, hr, ho2, hba⟩ := hyes rfl
        obtain ⟨hq1, hq2, hxl⟩ := read_pos m true (p + 1) [] xs q (by omega) hr
        replace ho2 := ho2.low hfs
        clear hyes hno
        refine st_loadB0 h rfl hbs na9 rfl ?_; clear h a; intro a h
        refine gd_yes h rfl rfl rfl rfl rfl rfl ?_
        refine st_loadB0 h rfl hba na3 rfl ?_; clear h a; intro a h
        refine gd_yes h rfl rfl rfl rfl rfl rfl ?_
        refine st_ss_l (p := q) h rfl rfl Tryd.underlying9 (by omega) (by omega) (by omega) rfl ?_; clear h a; intro a h
        refine gd_yes h rfl rfl rfl rfl rfl rfl ?_
        refine st_call h (evs_cons rfl (evs_cons rfl evs_nil)) co52 (pref_ok _ _ _) rfl ?_; clear h a; rintro _ _ ⟨rfl, rfl⟩ a h
        refine gd_yes h rfl rfl rfl rfl rfl rfl ?_
        refine st_not h rfl rfl ?_; clear h a; intro a h
        refine st_pick_f h rfl rfl rfl rfl ?_; clear h a; intro a h
        replace h : Ag a 94 [(0, _), (1, _), (8, _), (70, _)] := h.sub (.cons rfl (.cons rfl (.cons rfl (.cons rfl .nil))))
        refine wpList_nil (norm_then ?_)
        first | refine cond_dec h rfl (fun c2 => ?_) (fun c2 => ?_) | refine cond_ndec h rfl (fun c2 => ?_) (fun c2 => ?_) | refine cond_split h rfl (fun c2 => ?_) (fun c2 => ?_)
        · refine id ?_
          refine wp_seq ?_
          refine wp_region_lit ?_
          refine st_assign h rfl rfl ?_; clear h a; intro a h
          refine st_assign h rfl rfl ?_; clear h a; intro a h
          replace h : Ag a 94 [(3, _), (4, _)] := h.sub (.cons rfl (.cons rfl .nil))
          refine wpList_nil (norm_then ?_)
          refine wp_ret (ret_then ?_)
          refine ret2 h Tryd.results51 rfl rfl ?_
          exact ⟨_, rfl, _, false, rfl, hf, (fun e => by cases e), fun _ => by rw [read_rep c0', hr]; show closeS l xs q = none; rw [closeS, if_neg c2]⟩
        · have hpre := c2.length_le
          simp at hpre
          refine wp_skip (norm_then ?_)
          refine wp_seq ?_
          refine wp_region_lit ?_
          refine st_loadB0 h rfl hba na3 rfl ?_; clear h a; intro a h
          refine st_add h rfl rfl (by first | exact IntWalk.i64_in _ (by omega) | rfl) rfl ?_; clear h a; intro a h
          refine st_storeB0 h rfl rfl hba rfl rfl sz3 ?_; clear h a; intro w8 hbn hq hz a h
          replace hf := hf.step hq (by first | (simp; done) | (simp; omega))
          replace hbs := hbs.fr hq (by first | (simp; done) | (simp; omega) | (simp [blks]; done) | (simp [blks]; omega))
          replace hbr := hbr.fr hq (by first | (simp; done) | (simp; omega) | (simp [blks]; done) | (simp [blks]; omega))
          replace hbi := hbi.fr hq (by first | (simp; done) | (simp; omega) | (simp [blks]; done) | (simp [blks]; omega))
          replace hy := hy.fr hq (by first | (simp; done) | (simp; omega) | (simp [blks]; done) | (simp [blks]; omega))
          replace ho2 := ho2.fr hq (by intro k hk hb; have := ho2.blk k hb; simp at hk; omega)
          clear hba hq hz; have hba : Blk w8 ga _ [_] := hbn; clear hbn
          replace h : Ag a 94 [(0, _), (1, _), (8, _)] := h.sub (.cons rfl (.cons rfl (.cons rfl .nil)))
          refine wpList_nil (norm_then ?_)
          refine wp_seq ?_
          refine wp_region_lit ?_
          refine st_loadB0 h rfl hbs na9 rfl ?_; clear h a; intro a h
          refine st_loadB0 h rfl hba na3 rfl ?_; clear h a; intro a h
          refine st_ss_l (p := q + 2) h rfl rfl Tryd.underlying9 (by omega) (by omega) (by omega) rfl ?_; clear h a; intro a h
          have hcr := @count_rng (l.drop (q + 2)) 16
          simp only [List.length_drop] at hcr
          refine st_call h (evs_cons rfl (evs_cons rfl evs_nil)) co53 (count_ok _ _ _ (by simp; omega)) rfl ?_; clear h a; rintro _ _ ⟨rfl, rfl⟩ a h
          refine st_move h rfl rfl ?_; clear h a; intro a h
          refine st_extract h rfl rfl rfl ?_; clear h a; intro a h
          refine st_extract h rfl rfl rfl ?_; clear h a; intro a h
          refine st_assign h rfl rfl ?_; clear h a; intro a h
          refine st_assign h rfl rfl ?_; clear h a; intro a h
          replace h : Ag a 94 [(0, _), (8, _), (10, _), (11, _)] := h.sub (.cons rfl (.cons rfl (.cons rfl (.cons rfl .nil))))
          refine wpList_nil (norm_then ?_)
          refine wp_seq ?_
          refine wp_region_lit ?_
          refine st_loadB0 h rfl hba na3 rfl ?_; clear h a; intro a h
          refine st_move h rfl rfl ?_; clear h a; intro a h
          refine st_add h rfl rfl (by first | exact IntWalk.i64_in _ (by omega) | rfl) rfl ?_; clear h a; intro a h
          refine st_storeB0 h rfl rfl hba rfl rfl sz3 ?_; clear h a; intro w9 hbn hq hz a h
          replace hf := hf.step hq (by first | (simp; done) | (simp; omega))
          replace hbs := hbs.fr hq (by first | (simp; done) | (simp; omega) | (simp [blks]; done) | (simp [blks]; omega))
          replace hbr := hbr.fr hq (by first | (simp; done) | (simp; omega) | (simp [blks]; done) | (simp [blks]; omega))
          replace hbi := hbi.fr hq (by first | (simp; done) | (simp; omega) | (simp [blks]; done) | (simp [blks]; omega))
          replace hy := hy.fr hq (by first | (simp; done) | (simp; omega) | (simp [blks]; done) | (simp [blks]; omega))
          replace ho2 := ho2.fr hq (by intro k hk hb; have := ho2.blk k hb; simp at hk; omega)
          clear hba hq hz; have hba : Blk w9 ga _ [_] := hbn; clear hbn
          replace h : Ag a 94 [(8, _), (10, _), (11, _)] := h.sub (.cons rfl (.cons rfl (.cons rfl .nil)))
          refine wpList_nil (norm_then ?_)
          refine wp_seq ?_
          refine wp_region_lit ?_
          refine st_assign h rfl rfl ?_; clear h a; intro a h
          refine wpList_nil (norm_then ?_)
          refine wp_seq ?_
          refine wp_seq ?_
          refine wp_region_lit ?_
          refine st_move h rfl rfl ?_; clear h a; intro a h
          refine st_move h rfl rfl ?_; clear h a; intro a h
          replace h : Ag a 94 [(8, _), (11, _), (12, _), (83, _), (84, _)] := h.sub (.cons rfl (.cons rfl (.cons rfl (.cons rfl (.cons rfl .nil)))))
          refine wpList_nil (norm_then ?_)
          refine wp_block ?_
          refine loop (ι := Nat × Value) (fun z => [(8, x2), (11, .int .i64 (countS (l.drop (q + 2)) 16).2), (12, z.2), (83, .int .i64 (countS (l.drop (q + 2)) 16).1), (84, .int .i64 (z.1 : Int))]) (fun z w' => z.1 ≤ (countS (l.drop (q + 2)) 16).1.toNat ∧ Own encSt 36 w0.heap.size w' z.2 (timesS xs z.1) ∧ Own encSt 36 w0.heap.size w' x2 xs ∧ (∀ k ∈ blks z.2, k ∉ blks x2) ∧ Blk w' ga 3 [.int .i64 ((q + 2 + (countS (l.drop (q + 2)) 16).2.toNat : Nat) : Int)] ∧ Fr [ga] w0 w') (fun z => (countS (l.drop (q + 2)) 16).1.toNat - z.1) (0, .slice none 0 0) (h.sub (.cons rfl (.cons rfl (.cons rfl (.cons rfl (.cons rfl .nil)))))) ⟨Nat.zero_le _, Own.nil _, ho2, (by intro k hk; cases hk), by rw [show ((q + 2 + (countS (l.drop (q + 2)) 16).2.toNat : Nat) : Int) = (q : Int) + 2 + (countS (l.drop (q + 2)) 16).2 by omega]; exact hba, hf⟩ ?_
          clear h a hf hba ho2 hbs hbr hbi hy
          rintro ⟨j, x⟩ w10 a h ⟨hj, ho, ho2, hdis, hba, hf⟩
          simp only at hj ho hdis h
          refine wp_seq ?_
          refine wp_region_lit ?_
          refine st_lt h rfl rfl rfl ?_; clear h a; intro a h
          refine wpList_nil (norm_then ?_)
          refine wp_seq ?_
          first | refine cond_dec h rfl (fun c3 => ?_) (fun c3 => ?_) | refine cond_ndec h rfl (fun c3 => ?_) (fun c3 => ?_) | refine cond_split h rfl (fun c3 => ?_) (fun c3 => ?_)
          · refine id ?_
            refine wp_skip (norm_then ?_)
            refine wp_seq ?_
            refine wp_block ?_
            refine wp_region_lit ?_
            refine st_move h rfl rfl ?_; clear h a; intro a h
            refine st_move h rfl rfl ?_; clear h a; intro a h
            refine st_append h rfl rfl ho ho2.sl el22 (by unfold maxLen; rw [times_len]; have := Nat.mul_le_mul (show j ≤ 16 by omega) hxl; omega) (by rw [times_len]; have := Nat.mul_le_mul (show j ≤ 16 by omega) hxl; omega) (by have := hf.size; omega) rfl ?_; clear h a; intro x5 w5x ho5 hq hx5 a h
            have hd5 : ∀ k ∈ blks x5, k ∉ blks x2 := by
              intro k hk
              rcases hx5 with e | e | e
              · rw [e] at hk; exact hdis k hk
              · rw [e] at hk; exact hdis k hk
              · rw [e] at hk; simp at hk; intro hb; have := (ho2.blk k hb).2; omega
            replace ho2 := ho2.fr hq (fun k hk hb => hdis k hk hb)
            replace hba := hba.fr hq (fun hb => by have := ho.blk _ hb; omega)
            replace hf := hf.step hq (fun k hk hlt => by have := ho.blk k hk; omega)
            clear hq
            clear ho hdis hx5
            rw [← times_succ] at ho5
            refine st_assign h rfl rfl ?_; clear h a; intro a h
            replace h : Ag a 94 [(8, _), (11, _), (12, _), (83, _), (84, _)] := h.sub (.cons rfl (.cons rfl (.cons rfl (.cons rfl (.cons rfl .nil)))))
            refine wpList_nil (norm_blk (norm_then ?_))
            refine wp_region_lit ?_
            refine st_add h rfl rfl (by first | exact IntWalk.i64_in _ (by omega) | rfl) rfl ?_; clear h a; intro a h
            refine st_move h rfl rfl ?_; clear h a; intro a h
            replace h : Ag a 94 [(8, _), (11, _), (12, _), (83, _), (84, _)] := h.sub (.cons rfl (.cons rfl (.cons rfl (.cons rfl (.cons rfl .nil)))))
            refine wpList_nil (norm_then ?_)
            exact ⟨(j + 1, x5), h.sub (.cons rfl (.cons rfl (.cons rfl (.cons rfl (.cons rfl .nil))))), ⟨by simp only; omega, ho5, ho2, hd5, hba, hf⟩, by simp only; omega⟩
          · obtain rfl : j = (countS (l.drop (q + 2)) 16).1.toNat := by omega
            refine wp_exit (exit_then (exit_then (exit_here (norm_then ?_))))
            refine wp_seq ?_
            refine wp_region_lit ?_
            refine st_move h rfl rfl ?_; clear h a; intro a h
            obtain ⟨A3, cp3, rfl, hc3⟩ := ho.sl.form
            refine st_call h (evs_cons rfl evs_nil) co50 (cut_ok _ _ _ _ hc3) rfl ?_; clear h a; rintro _ _ ⟨rfl, rfl⟩ a h
            replace ho := ho.take rfl (m := min (timesS xs (countS (l.drop (q + 2)) 16).1.toNat).length 17) (by omega) (Nat.le_refl _) (by omega)
            rw [take_min] at ho
            refine st_move h rfl rfl ?_; clear h a; intro a h
            refine st_gt h rfl rfl rfl ?_; clear h a; intro a h
            refine st_assign h rfl rfl ?_; clear h a; intro a h
            refine st_assign h rfl rfl ?_; clear h a; intro a h
            replace h : Ag a 94 [(3, _), (4, _)] := h.sub (.cons rfl (.cons rfl .nil))
            refine wpList_nil (norm_then ?_)
            refine wp_ret ?_
            refine ret2 h Tryd.results51 rfl rfl ?_
            refine ⟨_, rfl, _, _, rfl, hf, fun e => ⟨_, _, ?_, ho, hba⟩, fun e => ?_⟩
            · rw [read_rep c0', hr]; show closeS l xs q = _; rw [closeS, if_pos c2]; exact if_pos (of_decide_eq_true e)
            · rw [read_rep c0', hr]; show closeS l xs q = _; rw [closeS, if_pos c2]; exact if_neg (of_decide_eq_false e)
end Go.Proofs.YtbbnampdgefljaaDoor
namespace Go.Proofs.YtbbnampdgefljaaDoor
open Go.Lw Go.G14
theorem readC (l : List UInt8) (gs ga gr gi : Nat) (hl : l.length ≤ 1024) (o0 : 0 < gs) (o1 : gs < ga) (o2 : ga < gr) (o3 : gr < gi) : ∀ F, RowC l gs ga gr gi F ∧ ItemC l gs ga gr gi F := by
  intro F
  induction F using Nat.strongRecOn with
  | _ F ih => exact ⟨row_step l gs ga gr gi F hl o0 o1 o2 o3 fun m hm => (ih m hm).2, item_step l gs ga gr gi F hl o0 o1 o2 o3 fun m hm => (ih m hm).1⟩
set_option maxHeartbeats 1000000 in
theorem read_ok (l : List UInt8) (w0 : World) (hl : l.length ≤ 1024) (hy : Sym w0) : Rets Tryd.prog 25 #[S l] w0 fun v w' => ∃ (x : Value) (b : Bool), v = .tuple #[x, .bool b] ∧ Fr [] w0 w' ∧ (b = true → ∃ xs, rowS l = some xs ∧ xs.length ≤ 17 ∧ Own encSt 36 w0.heap.size w' x xs) ∧ (b = false → rowS l = none) := by
  have h00 := hy.pos
  refine enter [(0, S l)] Tryd.func25 rfl Tryd.ntmps25 rfl (.cons rfl .nil) ?_
  have hf := Fr.refl [] w0
  intro a h
  refine wp_seq ?_
  refine wp_region_lit ?_
  refine st_box h rfl rfl rfl ?_; clear h a; intro w1 hb1 hq hz a h
  obtain ⟨g_1, hg⟩ : ∃ g, g = w0.heap.size := ⟨_, rfl⟩; rw [← hg] at hb1 h hz
  have hl1 : w0.heap.size ≤ g_1 := by have := hf.size; omega
  replace hf := hf.next hq
  replace hy := hy.ext hq
  clear hq hz hg
  refine st_assign h rfl rfl ?_; clear h a; intro a h
  refine st_assign h rfl rfl ?_; clear h a; intro a h
  replace h : Ag a 24 [(1, _)] := h.sub (.cons rfl .nil)
  refine wpList_nil (norm_then ?_)
  refine wp_seq ?_
  refine wp_region_lit ?_
  refine st_alloc h zv3 rfl rfl ?_; clear h a; intro w2 hb4 hq hz a h
  obtain ⟨g_4, hg⟩ : ∃ g, g = w1.heap.size := ⟨_, rfl⟩; rw [← hg] at hb4 h hz
  have hl4 : w0.heap.size ≤ g_4 := by have := hf.size; omega
  have hn_1_4 : g_1 < g_4 := by have := hb1.lt; omega
  replace hf := hf.next hq
  replace hy := hy.ext hq
  replace hb1 := hb1.ext hq
  clear hq hz hg
  refine st_storeB0 h rfl rfl hb4 rfl rfl sz3 ?_; clear h a; intro w3 hbn hq hz a h
  replace hf := hf.step hq (by first | (simp; done) | (simp; omega))
  replace hy := hy.fr hq (by first | (simp; done) | (simp; omega) | (simp [blks]; done) | (simp [blks]; omega))
  replace hb1 := hb1.fr hq (by first | (simp; done) | (simp; omega) | (simp [blks]; done) | (simp [blks]; omega))
  clear hb4 hq hz; have hb4 : Blk w3 g_4 _ [_] := hbn; clear hbn
  refine wpList_nil (norm_then ?_)
  refine wp_seq ?_
  refine wp_region_lit ?_
  refine st_alloc h zv90 rfl rfl ?_; clear h a; intro w4 hb5 hq hz a h
  obtain ⟨g_5, hg⟩ : ∃ g, g = w3.heap.size := ⟨_, rfl⟩; rw [← hg] at hb5 h hz
  have hl5 : w0.heap.size ≤ g_5 := by have := hf.size; omega
  have hn_1_5 : g_1 < g_5 := by have := hb1.lt; omega
  have hn_4_5 : g_4 < g_5 := by have := hb4.lt; omega
  replace hf := hf.next hq
  replace hy := hy.ext hq
  replace hb1 := hb1.ext hq
  replace hb4 := hb4.ext hq
  clear hq hz hg
  refine st_alloc h zv90 rfl rfl ?_; clear h a; intro w5 hb6 hq hz a h
  obtain ⟨g_6, hg⟩ : ∃ g, g = w4.heap.size := ⟨_, rfl⟩; rw [← hg] at hb6 h hz
  have hl6 : w0.heap.size ≤ g_6 := by have := hf.size; omega
  have hn_1_6 : g_1 < g_6 := by have := hb1.lt; omega
  have hn_4_6 : g_4 < g_6 := by have := hb4.lt; omega
  have hn_5_6 : g_5 < g_6 := by have := hb5.lt; omega
  replace hf := hf.next hq
  replace hy := hy.ext hq
  replace hb1 := hb1.ext hq
  replace hb4 := hb4.ext hq
  replace hb5 := hb5.ext hq
  clear hq hz hg
  refine wpList_nil (norm_then ?_)
  refine wp_seq ?_
  refine wp_region_lit ?_
  refine st_makeFunc h evs_nil (evs_cons rfl (evs_cons rfl (evs_cons rfl evs_nil))) rfl ?_; clear h a; intro a h
  refine st_storeB0 h rfl rfl hb5 rfl rfl sz90 ?_; clear h a; intro w6 hbn hq hz a h
  replace hf := hf.step hq (by first | (simp; done) | (simp; omega))
  replace hy := hy.fr hq (by first | (simp; done) | (simp; omega) | (simp [blks]; done) | (simp [blks]; omega))
  replace hb1 := hb1.fr hq (by first | (simp; done) | (simp; omega) | (simp [blks]; done) | (simp [blks]; omega))
  replace hb4 := hb4.fr hq (by first | (simp; done) | (simp; omega) | (simp [blks]; done) | (simp [blks]; omega))
  replace hb6 := hb6.fr hq (by first | (simp; done) | (simp; omega) | (simp [blks]; done) | (simp [blks]; omega))
  clear hb5 hq hz; have hb5 : Blk w6 g_5 _ [_] := hbn; clear hbn
  replace h : Ag a 24 [(1, _), (4, _), (5, _), (6, _)] := h.sub (.cons rfl (.cons rfl (.cons rfl (.cons rfl .nil))))
  refine wpList_nil (norm_then ?_)
  refine wp_seq ?_
  refine wp_region_lit ?_
  refine st_makeFunc h evs_nil (evs_cons rfl (evs_cons rfl (evs_cons rfl evs_nil))) rfl ?_; clear h a; intro a h
  refine st_storeB0 h rfl rfl hb6 rfl rfl sz90 ?_; clear h a; intro w7 hbn hq hz a h
  replace hf := hf.step hq (by first | (simp; done) | (simp; omega))
  replace hy := hy.fr hq (by first | (simp; done) | (simp; omega) | (simp [blks]; done) | (simp [blks]; omega))
  replace hb1 := hb1.fr hq (by first | (simp; done) | (simp; omega) | (simp [blks]; done) | (simp [blks]; omega))
  replace hb4 := hb4.fr hq (by first | (simp; done) | (simp; omega) | (simp [blks]; done) | (simp [blks]; omega))
  replace hb5 := hb5.fr hq (by first | (simp; done) | (simp; omega) | (simp [blks]; done) | (simp [blks]; omega))
  clear hb6 hq hz; have hb6 : Blk w7 g_6 _ [_] := hbn; clear hbn
  replace h : Ag a 24 [(1, _), (4, _), (5, _)] := h.sub (.cons rfl (.cons rfl (.cons rfl .nil)))
  refine wpList_nil (norm_then ?_)
  refine wp_seq ?_
  refine wp_region_lit ?_
  refine st_loadB0 h rfl hb5 na90 rfl ?_; clear h a; intro a h
  have hrow := (readC l g_1 g_4 g_5 g_6 hl (by omega) hn_1_4 hn_4_5 hn_5_6 (2 * l.length + 1)).1 0 w7 (Nat.zero_le _) (by omega) ⟨hb1, hb4, hb5, hb6, hy⟩
  have hfs := hf.size
  refine st_callv (us := []) (ws := [_, _, _]) h rfl evs_nil co49 hrow rfl (by intro g; simp) ?_; clear h a hrow hb4; rintro _ w9x ⟨x2, ok, rfl, hq, hyes, hno⟩ a h
  replace hf := hf.step hq (by simp; omega)
  replace hb1 := hb1.fr hq (by simp; omega)
  clear hq hb5 hb6 hy
  refine st_move h rfl rfl ?_; clear h a; intro a h
  refine st_extract h rfl rfl rfl ?_; clear h a; intro a h
  refine st_extract h rfl rfl rfl ?_; clear h a; intro a h
  refine st_assign h rfl rfl ?_; clear h a; intro a h
  refine st_assign h rfl rfl ?_; clear h a; intro a h
  replace h : Ag a 24 [(1, _), (4, _), (7, _), (8, _)] := h.sub (.cons rfl (.cons rfl (.cons rfl (.cons rfl .nil))))
  refine wpList_nil (norm_then ?_)
  refine wp_seq ?_
  refine region_quiet hmix (by kernel_rfl) ?_
  refine qt_move h rfl rfl ?_; clear h a; intro a h
  refine qt_move h rfl rfl ?_; clear h a; intro a h
  refine qt_move h rfl rfl ?_; clear h a; intro a h
  first | refine guard_dec (D := 18) h rfl ?_ ?_ | refine guard_ndec (D := 18) h rfl ?_ ?_ | refine guard_any (D := 18) h rfl ?_ ?_
  · clear h; intro g0 h
    refine qd_yes h rfl rfl rfl rfl rfl rfl ?_
    have hok : ok = true := by simpa using g0
    subst hok
    obtain ⟨xs, q, hr, ho2, hb4⟩ := hyes rfl
    obtain ⟨hq1, hq2, hxl⟩ := read_pos _ true 0 [] xs q (by omega) hr
    replace ho2 := ho2.low hfs
    clear hyes hno
    refine qt_loadB0 h rfl (fun _ hw => hb4.ext hw) na3 rfl ?_; clear h a; intro a h
    refine qd_yes h rfl rfl rfl rfl rfl rfl ?_
    refine qt_loadB0 h rfl (fun _ hw => hb1.ext hw) na9 rfl ?_; clear h a; intro a h
    refine qd_yes h rfl rfl rfl rfl rfl rfl ?_
    refine qt_len h rfl Tryd.underlying9 rfl ?_; clear h a; intro a h
    refine qd_yes h rfl rfl rfl rfl rfl rfl ?_
    refine qt_eq h rfl rfl rfl ?_; clear h a; intro a h
    refine qt_pick_t h rfl rfl rfl rfl ?_; clear h a; intro a h
    refine qt_assign h rfl rfl ?_; clear h a; intro a h
    refine qt_assign h rfl rfl ?_; clear h a; intro a h
    refine wpQuiet_nil ?_
    intro w8 hq
    replace hf := hf.next hq
    replace hb1 := hb1.ext hq
    replace hb4 := hb4.ext hq
    replace ho2 := ho2.ext hq
    clear hq
    replace h : Ag a 24 [(2, _), (3, _)] := h.sub (.cons rfl (.cons rfl .nil))
    refine (norm_then ?_)
    refine wp_ret ?_
    refine ret2 h Tryd.results25 rfl rfl ?_
    refine ⟨_, rfl, _, _, rfl, hf, fun e => ⟨xs, ?_, hxl, ho2⟩, fun e => ?_⟩
    · rw [rowS, hr]; exact if_pos (by have := of_decide_eq_true e; omega)
    · rw [rowS, hr]; exact if_neg (by have := of_decide_eq_false e; omega)
  · clear h; intro g0 h
    refine qd_no h rfl rfl rfl rfl rfl rfl rfl rfl ?_; clear h a; intro a h
    refine qd_no h rfl rfl rfl rfl rfl rfl rfl rfl ?_; clear h a; intro a h
    refine qd_no h rfl rfl rfl rfl rfl rfl rfl rfl ?_; clear h a; intro a h
    refine qd_no h rfl rfl rfl rfl rfl rfl rfl rfl ?_; clear h a; intro a h
    refine qt_pick_f h rfl rfl rfl rfl ?_; clear h a; intro a h
    refine qt_assign h rfl rfl ?_; clear h a; intro a h
    refine qt_assign h rfl rfl ?_; clear h a; intro a h
    refine wpQuiet_nil ?_
    intro w9 hq
    replace hf := hf.next hq
    replace hb1 := hb1.ext hq
    clear hq
    replace h : Ag a 24 [(2, _), (3, _)] := h.sub (.cons rfl (.cons rfl .nil))
    refine (norm_then ?_)
    refine wp_ret ?_
    refine ret2 h Tryd.results25 rfl rfl ?_
    exact ⟨_, rfl, _, false, rfl, hf, (fun e => by cases e), fun _ => by rw [rowS, hno (by assumption)]⟩
theorem expand_ok (l : List UInt8) (w0 : World) (hy : Sym w0) (hlen : l.length ≤ 9223372036854775807) : Rets Tryd.prog 10 #[S l] w0 fun v w' => ∃ x c, v = .tuple #[.slice x (expandS l).1.length c, .int .i64 (expandS l).2] ∧ c = (expandS l).1.length ∧ Own encSt 36 w0.heap.size w' (.slice x (expandS l).1.length c) (expandS l).1 ∧ Fr [] w0 w' := by
  refine enter [(0, S l)] Tryd.func10 rfl Tryd.ntmps10 rfl (.cons rfl .nil) ?_
  have hf := Fr.refl [] w0
  intro a h
  refine wp_seq ?_
  refine wp_region_lit ?_
  refine st_assign h rfl rfl ?_; clear h a; intro a h
  refine st_assign h rfl rfl ?_; clear h a; intro a h
  replace h : Ag a 21 [(0, _)] := h.sub (.cons rfl .nil)
  refine wpList_nil (norm_then ?_)
  refine wp_seq ?_
  refine wp_seq ?_
  refine wp_region_lit ?_
  refine st_move h rfl rfl ?_; clear h a; intro a h
  refine st_len h rfl Tryd.underlying9 rfl ?_; clear h a; intro a h
  refine st_gt h rfl rfl rfl ?_; clear h a; intro a h
  replace h : Ag a 21 [(0, _), (8, _)] := h.sub (.cons rfl (.cons rfl .nil))
  refine wpList_nil (norm_then ?_)
  first | refine cond_dec h rfl (fun c0 => ?_) (fun c0 => ?_) | refine cond_ndec h rfl (fun c0 => ?_) (fun c0 => ?_) | refine cond_split h rfl (fun c0 => ?_) (fun c0 => ?_)
  · refine id ?_
    refine wp_seq ?_
    refine wp_region_lit ?_
    refine st_assign h rfl rfl ?_; clear h a; intro a h
    refine st_assign h rfl rfl ?_; clear h a; intro a h
    replace h : Ag a 21 [(2, _), (3, _)] := h.sub (.cons rfl (.cons rfl .nil))
    refine wpList_nil (norm_then ?_)
    refine wp_ret (ret_then ?_)
    refine ret2 h Tryd.results10 rfl rfl ?_
    have e : expandS l = ([], 3) := by rw [expandS, if_pos (by omega)]
    rw [e]
    exact ⟨_, rfl, none, 0, rfl, rfl, Own.nil _, hf⟩
  · refine id ?_
    refine wp_skip (norm_then ?_)
    refine wp_seq ?_
    refine wp_region_lit ?_
    refine st_move h rfl rfl ?_; clear h a; intro a h
    refine st_call h (evs_cons rfl evs_nil) co25 (read_ok _ _ (by omega) hy) rfl ?_; clear h a; rintro _ w1 ⟨x2, ok, rfl, hq, hyes, hno⟩ a h
    replace hf := hf.next hq
    replace hy := hy.ext hq
    clear hq
    refine st_move h rfl rfl ?_; clear h a; intro a h
    refine st_extract h rfl rfl rfl ?_; clear h a; intro a h
    refine st_extract h rfl rfl rfl ?_; clear h a; intro a h
    refine st_assign h rfl rfl ?_; clear h a; intro a h
    refine st_assign h rfl rfl ?_; clear h a; intro a h
    replace h : Ag a 21 [(4, _), (5, _)] := h.sub (.cons rfl (.cons rfl .nil))
    refine wpList_nil (norm_then ?_)
    refine wp_seq ?_
    refine wp_seq ?_
    refine wp_region_lit ?_
    refine st_move h rfl rfl ?_; clear h a; intro a h
    refine st_not h rfl rfl ?_; clear h a; intro a h
    replace h : Ag a 21 [(4, _), (15, _)] := h.sub (.cons rfl (.cons rfl .nil))
    refine wpList_nil (norm_then ?_)
    first | refine cond_dec h rfl (fun c1 => ?_) (fun c1 => ?_) | refine cond_ndec h rfl (fun c1 => ?_) (fun c1 => ?_) | refine cond_split h rfl (fun c1 => ?_) (fun c1 => ?_)
    · have hok : ok = false := by simpa using c1
      subst hok
      refine wp_seq ?_
      refine wp_region_lit ?_
      refine st_assign h rfl rfl ?_; clear h a; intro a h
      refine st_assign h rfl rfl ?_; clear h a; intro a h
      replace h : Ag a 21 [(2, _), (3, _)] := h.sub (.cons rfl (.cons rfl .nil))
      refine wpList_nil (norm_then ?_)
      refine wp_ret (ret_then ?_)
      refine ret2 h Tryd.results10 rfl rfl ?_
      have e : expandS l = ([], 4) := by rw [expandS, if_neg (by omega), hno rfl]
      rw [e]
      exact ⟨_, rfl, none, 0, rfl, rfl, Own.nil _, hf⟩
    · have hok : ok = true := by simpa using c1
      subst hok
      obtain ⟨xs, hr, hxl, ho⟩ := hyes rfl
      obtain ⟨A, c, rfl, hc⟩ := ho.sl.form
      refine wp_skip (norm_then ?_)
      refine wp_seq ?_
      refine wp_seq ?_
      refine wp_region_lit ?_
      refine st_move h rfl rfl ?_; clear h a; intro a h
      refine st_lenS h rfl Tryd.underlying22 rfl ?_; clear h a; intro a h
      refine st_gt h rfl rfl rfl ?_; clear h a; intro a h
      replace h : Ag a 21 [(4, _), (18, _)] := h.sub (.cons rfl (.cons rfl .nil))
      refine wpList_nil (norm_then ?_)
      first | refine cond_dec h rfl (fun c2 => ?_) (fun c2 => ?_) | refine cond_ndec h rfl (fun c2 => ?_) (fun c2 => ?_) | refine cond_split h rfl (fun c2 => ?_) (fun c2 => ?_)
      · refine id ?_
        refine wp_seq ?_
        refine wp_region_lit ?_
        refine st_assign h rfl rfl ?_; clear h a; intro a h
        refine st_assign h rfl rfl ?_; clear h a; intro a h
        replace h : Ag a 21 [(2, _), (3, _)] := h.sub (.cons rfl (.cons rfl .nil))
        refine wpList_nil (norm_then ?_)
        refine wp_ret (ret_then ?_)
        refine ret2 h Tryd.results10 rfl rfl ?_
        have e : expandS l = ([], 3) := by rw [expandS, if_neg (by omega), hr]; exact if_pos (by omega)
        rw [e]
        exact ⟨_, rfl, none, 0, rfl, rfl, Own.nil _, hf⟩
      · refine id ?_
        refine wp_skip (norm_then ?_)
        refine wp_seq ?_
        refine wp_region_lit ?_
        refine st_move h rfl rfl ?_; clear h a; intro a h
        refine st_call h (evs_cons rfl evs_nil) co26 (clip_ok _ _ _ _ hc) rfl ?_; clear h a; rintro _ _ ⟨rfl, rfl⟩ a h
        replace ho := ho.take rfl (m := xs.length) (Nat.le_refl _) hc (Nat.le_refl _)
        rw [List.take_length] at ho
        refine st_assign h rfl rfl ?_; clear h a; intro a h
        refine st_assign h rfl rfl ?_; clear h a; intro a h
        replace h : Ag a 21 [(2, _), (3, _)] := h.sub (.cons rfl (.cons rfl .nil))
        refine wpList_nil (norm_then ?_)
        refine wp_ret ?_
        refine ret2 h Tryd.results10 rfl rfl ?_
        have e : expandS l = (xs, 0) := by rw [expandS, if_neg (by omega), hr]; exact if_neg (by omega)
        rw [e]
        exact ⟨_, rfl, A, _, rfl, rfl, ho, hf⟩
end Go.Proofs.YtbbnampdgefljaaDoor
