/- Walks. -/
import Derived.Test.YtbbnampdgefljaaDoorRows
import Derived.Test.YtbbnampdgefljaaDoorW8
import Derived.Test.YtbbnampdgefljaaDoorXMap
import Derived.Test.YtbbnampdgefljaaDoorXMach
import Derived.Test.YtbbnampdgefljaaDoorFactsB
set_option linter.unusedVariables false
set_option linter.unusedSimpArgs false
namespace Go.Proofs.YtbbnampdgefljaaDoor
open Go.Lw Go.G14
theorem shorten_ok (u : Value) (xs : List Stitch) (w0 : World) (hu : Sl encSt w0 u xs) (hy : Sym w0) : Rets Tryd.prog 14 #[u] w0 fun v w' => v = .tuple #[S (shortenS xs).1, .int .i64 (shortenS xs).2] ∧ Fr [] w0 w' := by
  have h00 := hy.pos
  obtain ⟨A, c, rfl, hc⟩ := hu.form
  have hs := hu
  obtain ⟨-, -, hM, hA⟩ := Sl.open_ hu
  unfold maxLen at hM
  refine enter [(0, .slice A xs.length c)] Tryd.func14 rfl Tryd.ntmps14 rfl (.cons rfl .nil) ?_
  have hf := Fr.refl [] w0
  intro a h
  refine wp_seq ?_
  refine wp_region_lit ?_
  refine st_assign h rfl rfl ?_; clear h a; intro a h
  refine st_assign h rfl rfl ?_; clear h a; intro a h
  replace h : Ag a 24 [(0, _)] := h.sub (.cons rfl .nil)
  refine wpList_nil (norm_then ?_)
  refine wp_seq ?_
  refine wp_seq ?_
  refine wp_region_lit ?_
  refine st_move h rfl rfl ?_; clear h a; intro a h
  refine st_lenS h rfl Tryd.underlying22 rfl ?_; clear h a; intro a h
  refine st_gt h rfl rfl rfl ?_; clear h a; intro a h
  replace h : Ag a 24 [(0, _), (8, _)] := h.sub (.cons rfl (.cons rfl .nil))
  refine wpList_nil (norm_then ?_)
  first | refine cond_dec h rfl (fun c0 => ?_) (fun c0 => ?_) | refine cond_ndec h rfl (fun c0 => ?_) (fun c0 => ?_) | refine cond_split h rfl (fun c0 => ?_) (fun c0 => ?_)
  · refine id ?_
    refine wp_seq ?_
    refine wp_region_lit ?_
    refine st_assign h rfl rfl ?_; clear h a; intro a h
    refine st_assign h rfl rfl ?_; clear h a; intro a h
    replace h : Ag a 24 [(2, _), (3, _)] := h.sub (.cons rfl (.cons rfl .nil))
    refine wpList_nil (norm_then ?_)
    refine wp_ret (ret_then ?_)
    refine ret2 h Tryd.results14 rfl rfl ?_
    exact ⟨_, rfl, by rw [shortenS, if_pos (by omega)]; rfl, hf⟩
  · refine id ?_
    refine wp_skip (norm_then ?_)
    refine wp_seq ?_
    refine wp_seq ?_
    refine wp_region_lit ?_
    refine st_move h rfl rfl ?_; clear h a; intro a h
    refine st_lenS h rfl Tryd.underlying22 rfl ?_; clear h a; intro a h
    refine st_eq h rfl rfl rfl ?_; clear h a; intro a h
    replace h : Ag a 24 [(0, _), (11, _)] := h.sub (.cons rfl (.cons rfl .nil))
    refine wpList_nil (norm_then ?_)
    first | refine cond_dec h rfl (fun c1 => ?_) (fun c1 => ?_) | refine cond_ndec h rfl (fun c1 => ?_) (fun c1 => ?_) | refine cond_split h rfl (fun c1 => ?_) (fun c1 => ?_)
    · refine id ?_
      refine wp_seq ?_
      refine wp_region_lit ?_
      refine st_assign h rfl rfl ?_; clear h a; intro a h
      refine st_assign h rfl rfl ?_; clear h a; intro a h
      replace h : Ag a 24 [(2, _), (3, _)] := h.sub (.cons rfl (.cons rfl .nil))
      refine wpList_nil (norm_then ?_)
      refine wp_ret (ret_then ?_)
      refine ret2 h Tryd.results14 rfl rfl ?_
      exact ⟨_, rfl, by rw [shortenS, if_neg (by omega), if_pos (by omega)]; rfl, hf⟩
    · refine id ?_
      refine wp_skip (norm_then ?_)
      refine wp_seq ?_
      refine wp_seq ?_
      refine wp_region_lit ?_
      refine st_move h rfl rfl ?_; clear h a; intro a h
      refine st_lenS h rfl Tryd.underlying22 rfl ?_; clear h a; intro a h
      refine st_move h rfl rfl ?_; clear h a; intro a h
      replace h : Ag a 24 [(0, _), (12, _), (13, _), (14, _)] := h.sub (.cons rfl (.cons rfl (.cons rfl (.cons rfl .nil))))
      refine wpList_nil (norm_then ?_)
      refine wp_block ?_
      refine loop (ι := Nat) (fun k => [(0, .slice A xs.length c), (12, .slice A xs.length c), (13, .int .i64 (xs.length : Int)), (14, .int .i64 (k : Int))]) (fun k w' => k ≤ xs.length ∧ (xs.take k).all okB = true ∧ Sl encSt w' (.slice A xs.length c) xs ∧ Sym w' ∧ Fr [] w0 w') (fun k => xs.length - k) 0 (h.sub (.cons rfl (.cons rfl (.cons rfl (.cons rfl .nil))))) ⟨by omega, rfl, hs, hy, hf⟩ ?_
      clear h a hs hy hf
      rintro k w1 a h ⟨hk, ha, hs, hy, hf⟩
      refine wp_seq ?_
      refine wp_region_lit ?_
      refine st_lt h rfl rfl rfl ?_; clear h a; intro a h
      refine wpList_nil (norm_then ?_)
      refine wp_seq ?_
      first | refine cond_dec h rfl (fun c2 => ?_) (fun c2 => ?_) | refine cond_ndec h rfl (fun c2 => ?_) (fun c2 => ?_) | refine cond_split h rfl (fun c2 => ?_) (fun c2 => ?_)
      · have hrb := hu.blk (by intro e; subst e; simp at c1)
        obtain ⟨x, hxk⟩ : ∃ x, xs[k]? = some x := ⟨_, List.getElem?_eq_getElem (by omega)⟩
        obtain ⟨ad, hAd, ca⟩ := hA k x hxk
        refine wp_skip (norm_then ?_)
        refine wp_seq ?_
        refine wp_block ?_
        refine wp_seq ?_
        refine wp_region_lit ?_
        refine st_idxS h (by rw [hAd]; rfl) rfl el22 (by omega) (by omega) rfl rfl ?_; clear h a; intro a h
        refine st_loadA h rfl (ca.fr hf (by simp)) ag36 rfl ?_; clear h a; intro a h
        refine st_alloc h zv36 rfl rfl ?_; clear h a; intro w2 hb5 hq hz a h
        obtain ⟨g_5, hg⟩ : ∃ g, g = w1.heap.size := ⟨_, rfl⟩; rw [← hg] at hb5 h hz
        have hl5 : w0.heap.size ≤ g_5 := by have := hf.size; omega
        replace hf := hf.next hq
        replace hs := hs.ext hq
        replace hy := hy.ext hq
        clear hq hz hg
        refine st_storeBA h rfl rfl hb5 rfl (by first | (simp [Value.oneCell', S]; done) | exact Enc.one _ _) sz36 ?_; clear h a; intro w3 hbn hq hz a h
        replace hf := hf.step hq (by first | (simp; done) | (simp; omega))
        replace hs := hs.fr hq (by intro k hk hb; have := hrb k hb; simp at hk; omega)
        replace hy := hy.fr hq (by first | (simp; done) | (simp; omega) | (simp [blks]; done) | (simp [blks]; omega))
        clear hb5 hq hz; have hb5 : Blk w3 g_5 _ [_, _, _, _, _] := hbn; clear hbn
        replace h : Ag a 24 [(0, _), (5, _), (12, _), (13, _), (14, _)] := h.sub (.cons rfl (.cons rfl (.cons rfl (.cons rfl (.cons rfl .nil)))))
        refine wpList_nil (norm_then ?_)
        refine wp_seq ?_
        refine wp_region_lit ?_
        refine st_loadBA h rfl hb5 ag36 rfl ?_; clear h a; intro a h
        refine st_call h (evs_cons rfl evs_nil) co30 (check_ok x _) rfl ?_; clear h a; rintro _ w4 ⟨rfl, hq⟩ a h
        replace hf := hf.next hq
        replace hs := hs.ext hq
        replace hy := hy.ext hq
        replace hb5 := hb5.ext hq
        clear hq
        refine st_ne h rfl rfl rfl ?_; clear h a; intro a h
        replace h : Ag a 24 [(0, _), (12, _), (13, _), (14, _), (20, _)] := h.sub (.cons rfl (.cons rfl (.cons rfl (.cons rfl (.cons rfl .nil)))))
        refine wpList_nil (norm_then ?_)
        first | refine cond_dec h rfl (fun c3 => ?_) (fun c3 => ?_) | refine cond_ndec h rfl (fun c3 => ?_) (fun c3 => ?_) | refine cond_split h rfl (fun c3 => ?_) (fun c3 => ?_)
        · refine id ?_
          refine wp_seq ?_
          refine wp_region_lit ?_
          refine st_assign h rfl rfl ?_; clear h a; intro a h
          refine st_assign h rfl rfl ?_; clear h a; intro a h
          replace h : Ag a 24 [(2, _), (3, _)] := h.sub (.cons rfl (.cons rfl .nil))
          refine wpList_nil (norm_then ?_)
          refine wp_ret (ret_blk (ret_then (ret_then (ret_blk (ret_then ?_)))))
          refine ret2 h Tryd.results14 rfl rfl ?_
          exact ⟨_, rfl, by rw [shortenS, if_neg (by omega), if_neg (by omega), if_neg (fun e => c3 ((okB_iff _).1 (List.all_eq_true.1 e x (List.mem_of_getElem? hxk))))]; rfl, hf⟩
        · refine id ?_
          refine wp_skip (norm_blk (norm_then ?_))
          refine wp_region_lit ?_
          refine st_add h rfl rfl (by first | exact IntWalk.i64_in _ (by omega) | rfl) rfl ?_; clear h a; intro a h
          refine st_move h rfl rfl ?_; clear h a; intro a h
          replace h : Ag a 24 [(0, _), (12, _), (13, _), (14, _)] := h.sub (.cons rfl (.cons rfl (.cons rfl (.cons rfl .nil))))
          refine wpList_nil (norm_then ?_)
          exact ⟨k + 1, h.sub (.cons rfl (.cons rfl (.cons rfl (.cons rfl .nil)))), ⟨by omega, by rw [List.take_add_one, hxk]; exact all_snocS _ _ ha ((okB_iff _).2 (by omega)), hs, hy, hf⟩, by omega⟩
      · obtain rfl : k = xs.length := by omega
        rw [List.take_length] at ha
        refine wp_exit (exit_then (exit_then (exit_here (norm_then ?_))))
        refine wp_seq ?_
        refine wp_region_lit ?_
        refine st_move h rfl rfl ?_; clear h a; intro a h
        refine st_call h (evs_cons rfl evs_nil) co31 (shortest_ok _ xs _ hs (by omega) (by omega) hy) rfl ?_; clear h a; rintro _ w5 ⟨rfl, hq⟩ a h
        replace hf := hf.next hq
        replace hs := hs.ext hq
        replace hy := hy.ext hq
        clear hq
        refine st_assign h rfl rfl ?_; clear h a; intro a h
        refine st_assign h rfl rfl ?_; clear h a; intro a h
        replace h : Ag a 24 [(2, _), (3, _)] := h.sub (.cons rfl (.cons rfl .nil))
        refine wpList_nil (norm_then ?_)
        refine wp_ret ?_
        refine ret2 h Tryd.results14 rfl rfl ?_
        exact ⟨_, rfl, by rw [shortenS, if_neg (by omega), if_neg (by omega), if_pos ha], hf⟩
theorem valid_ok (s : Stitch) (w0 : World) (hk : 0 ≤ s.k) (hy : 0 ≤ s.y) : Rets Tryd.prog 15 #[stV s] w0 fun v w' => v = .int .i64 (if checkS s = 0 then 1 else 0) ∧ Fr [] w0 w' := by
  refine enter [(0, stV s)] Tryd.func15 rfl Tryd.ntmps15 rfl (.cons rfl .nil) ?_
  have hf := Fr.refl [] w0
  intro a h
  refine wp_seq ?_
  refine wp_region_lit ?_
  refine st_box h rfl rfl rfl ?_; clear h a; intro w1 hb1 hq hz a h
  obtain ⟨g_1, hg⟩ : ∃ g, g = w0.heap.size := ⟨_, rfl⟩; rw [← hg] at hb1 h hz
  have hl1 : w0.heap.size ≤ g_1 := by have := hf.size; omega
  replace hf := hf.next hq
  clear hq hz hg
  refine st_assign h rfl rfl ?_; clear h a; intro a h
  replace h : Ag a 58 [(1, _)] := h.sub (.cons rfl .nil)
  refine wpList_nil (norm_then ?_)
  refine wp_seq ?_
  refine wp_seq ?_
  refine region_bool (r := 22) (L' := [(1, _)]) (s.y = 0 ∨ 6 < s.y ∨ s.k = 0 ∨ 8 < s.k) h (.cons rfl .nil) ?_ ?_
  · refine id ?_
    refine st_fieldAddr h rfl fa36_1 rfl ?_; clear h a; intro a h
    refine st_loadB h rfl hb1 rfl na5 rfl ?_; clear h a; intro a h
    refine st_eq h rfl rfl rfl ?_; clear h a; intro a h
    refine st_move h rfl rfl ?_; clear h a; intro a h
    first | refine guard_dec (D := 8) h rfl ?_ ?_ | refine guard_ndec (D := 8) h rfl ?_ ?_ | refine guard_any (D := 8) h rfl ?_ ?_
    · clear h; intro g0 h
      refine gd_no h rfl rfl rfl rfl rfl rfl rfl rfl ?_; clear h a; intro a h
      refine gd_no h rfl rfl rfl rfl rfl rfl rfl rfl ?_; clear h a; intro a h
      refine gd_no h rfl rfl rfl rfl rfl rfl rfl rfl ?_; clear h a; intro a h
      refine st_pick_t h rfl rfl rfl rfl ?_; clear h a; intro a h
      refine st_move h rfl rfl ?_; clear h a; intro a h
      refine gd_no h rfl rfl rfl rfl rfl rfl rfl rfl ?_; clear h a; intro a h
      refine gd_no h rfl rfl rfl rfl rfl rfl rfl rfl ?_; clear h a; intro a h
      refine gd_no h rfl rfl rfl rfl rfl rfl rfl rfl ?_; clear h a; intro a h
      refine st_pick_t h rfl rfl rfl rfl ?_; clear h a; intro a h
      refine st_move h rfl rfl ?_; clear h a; intro a h
      refine gd_no h rfl rfl rfl rfl rfl rfl rfl rfl ?_; clear h a; intro a h
      refine gd_no h rfl rfl rfl rfl rfl rfl rfl rfl ?_; clear h a; intro a h
      refine gd_no h rfl rfl rfl rfl rfl rfl rfl rfl ?_; clear h a; intro a h
      refine st_pick_t h rfl rfl rfl rfl ?_; clear h a; intro a h
      exact wpList_nil (bool_end h rfl (by first | exact bt (by omega) | exact bf (by omega) | exact bi (by omega) | exact bn (by omega)) (.cons rfl .nil))
    · clear h; intro g0 h
      refine gd_yes h rfl rfl rfl rfl rfl rfl ?_
      refine st_fieldAddr h rfl fa36_1 rfl ?_; clear h a; intro a h
      refine gd_yes h rfl rfl rfl rfl rfl rfl ?_
      refine st_loadB h rfl hb1 rfl na5 rfl ?_; clear h a; intro a h
      refine gd_yes h rfl rfl rfl rfl rfl rfl ?_
      refine st_gt h rfl rfl rfl ?_; clear h a; intro a h
      refine st_pick_f h rfl rfl rfl rfl ?_; clear h a; intro a h
      refine st_move h rfl rfl ?_; clear h a; intro a h
      first | refine guard_dec (D := 13) h rfl ?_ ?_ | refine guard_ndec (D := 13) h rfl ?_ ?_ | refine guard_any (D := 13) h rfl ?_ ?_
      · clear h; intro g1 h
        refine gd_no h rfl rfl rfl rfl rfl rfl rfl rfl ?_; clear h a; intro a h
        refine gd_no h rfl rfl rfl rfl rfl rfl rfl rfl ?_; clear h a; intro a h
        refine gd_no h rfl rfl rfl rfl rfl rfl rfl rfl ?_; clear h a; intro a h
        refine st_pick_t h rfl rfl rfl rfl ?_; clear h a; intro a h
        refine st_move h rfl rfl ?_; clear h a; intro a h
        refine gd_no h rfl rfl rfl rfl rfl rfl rfl rfl ?_; clear h a; intro a h
        refine gd_no h rfl rfl rfl rfl rfl rfl rfl rfl ?_; clear h a; intro a h
        refine gd_no h rfl rfl rfl rfl rfl rfl rfl rfl ?_; clear h a; intro a h
        refine st_pick_t h rfl rfl rfl rfl ?_; clear h a; intro a h
        exact wpList_nil (bool_end h rfl (by first | exact bt (by omega) | exact bf (by omega) | exact bi (by omega) | exact bn (by omega)) (.cons rfl .nil))
      · clear h; intro g1 h
        refine gd_yes h rfl rfl rfl rfl rfl rfl ?_
        refine st_fieldAddr h rfl fa36_0 rfl ?_; clear h a; intro a h
        refine gd_yes h rfl rfl rfl rfl rfl rfl ?_
        refine st_loadB h rfl hb1 rfl na34 rfl ?_; clear h a; intro a h
        refine gd_yes h rfl rfl rfl rfl rfl rfl ?_
        refine st_eq h rfl rfl rfl ?_; clear h a; intro a h
        refine st_pick_f h rfl rfl rfl rfl ?_; clear h a; intro a h
        refine st_move h rfl rfl ?_; clear h a; intro a h
        first | refine guard_dec (D := 18) h rfl ?_ ?_ | refine guard_ndec (D := 18) h rfl ?_ ?_ | refine guard_any (D := 18) h rfl ?_ ?_
        · clear h; intro g2 h
          refine gd_no h rfl rfl rfl rfl rfl rfl rfl rfl ?_; clear h a; intro a h
          refine gd_no h rfl rfl rfl rfl rfl rfl rfl rfl ?_; clear h a; intro a h
          refine gd_no h rfl rfl rfl rfl rfl rfl rfl rfl ?_; clear h a; intro a h
          refine st_pick_t h rfl rfl rfl rfl ?_; clear h a; intro a h
          exact wpList_nil (bool_end h rfl (by first | exact bt (by omega) | exact bf (by omega) | exact bi (by omega) | exact bn (by omega)) (.cons rfl .nil))
        · clear h; intro g2 h
          refine gd_yes h rfl rfl rfl rfl rfl rfl ?_
          refine st_fieldAddr h rfl fa36_0 rfl ?_; clear h a; intro a h
          refine gd_yes h rfl rfl rfl rfl rfl rfl ?_
          refine st_loadB h rfl hb1 rfl na34 rfl ?_; clear h a; intro a h
          refine gd_yes h rfl rfl rfl rfl rfl rfl ?_
          refine st_gt h rfl rfl rfl ?_; clear h a; intro a h
          refine st_pick_f h rfl rfl rfl rfl ?_; clear h a; intro a h
          exact wpList_nil (bool_end h rfl (by first | exact bt (by omega) | exact bf (by omega) | exact bi (by omega) | exact bn (by omega)) (.cons rfl .nil))
  · clear h a; intro a h
    refine (norm_then ?_)
    first | refine cond_dec h rfl (fun c0 => ?_) (fun c0 => ?_) | refine cond_ndec h rfl (fun c0 => ?_) (fun c0 => ?_) | refine cond_split h rfl (fun c0 => ?_) (fun c0 => ?_)
    · refine id ?_
      refine wp_seq ?_
      refine wp_region_lit ?_
      refine st_assign h rfl rfl ?_; clear h a; intro a h
      replace h : Ag a 58 [(2, _)] := h.sub (.cons rfl .nil)
      refine wpList_nil (norm_then ?_)
      refine wp_ret (ret_then ?_)
      refine ret1 h Tryd.results15 rfl ?_
      exact ⟨_, rfl, by rw [if_neg (fun e => by have := check_rng e; omega)], hf⟩
    · refine id ?_
      refine wp_skip (norm_then ?_)
      refine wp_seq ?_
      refine wp_seq ?_
      refine wp_region_lit ?_
      refine st_fieldAddr h rfl fa36_0 rfl ?_; clear h a; intro a h
      refine st_loadB h rfl hb1 rfl na34 rfl ?_; clear h a; intro a h
      refine st_eq h rfl rfl rfl ?_; clear h a; intro a h
      replace h : Ag a 58 [(1, _), (25, _)] := h.sub (.cons rfl (.cons rfl .nil))
      refine wpList_nil (norm_then ?_)
      first | refine cond_dec h rfl (fun c1 => ?_) (fun c1 => ?_) | refine cond_ndec h rfl (fun c1 => ?_) (fun c1 => ?_) | refine cond_split h rfl (fun c1 => ?_) (fun c1 => ?_)
      · refine id ?_
        refine wp_seq ?_
        refine wp_seq ?_
        refine wp_region_lit ?_
        refine st_assign h rfl rfl ?_; clear h a; intro a h
        replace h : Ag a 58 [(1, _), (3, _)] := h.sub (.cons rfl (.cons rfl .nil))
        refine wpList_nil (norm_then ?_)
        refine wp_block ?_
        refine loop (ι := Nat) (fun i => [(1, .pointer (some ⟨g_1, 0, none⟩)), (3, .int .i64 (i : Int))]) (fun i w' => 1 ≤ i ∧ i ≤ 4 ∧ ¬ (1 ≤ s.a ∧ s.a < i ∧ 1 ≤ s.b ∧ s.a + s.b ≤ 4) ∧ Blk w' g_1 36 [.int .u8 s.k, .int .u8 s.y, .int .i64 s.a, .int .i64 s.b, .bool s.f] ∧ Fr [] w0 w') (fun i => 4 - i) 1 (h.sub (.cons rfl (.cons rfl .nil))) ⟨by omega, by omega, by omega, hb1, hf⟩ ?_
        clear h a hb1 hf
        rintro i w2 a h ⟨hi1, hi4, hno, hb1, hf⟩
        refine wp_seq ?_
        refine wp_seq ?_
        refine wp_region_lit ?_
        refine st_move h rfl rfl ?_; clear h a; intro a h
        refine st_lt h rfl rfl rfl ?_; clear h a; intro a h
        replace h : Ag a 58 [(1, _), (3, _), (27, _)] := h.sub (.cons rfl (.cons rfl (.cons rfl .nil)))
        refine wpList_nil (norm_then ?_)
        first | refine cond_dec h rfl (fun c2 => ?_) (fun c2 => ?_) | refine cond_ndec h rfl (fun c2 => ?_) (fun c2 => ?_) | refine cond_split h rfl (fun c2 => ?_) (fun c2 => ?_)
        · refine id ?_
          refine wp_skip (norm_then ?_)
          refine wp_seq ?_
          refine wp_block ?_
          refine wp_seq ?_
          refine wp_region_lit ?_
          refine st_assign h rfl rfl ?_; clear h a; intro a h
          replace h : Ag a 58 [(1, _), (3, _), (4, _)] := h.sub (.cons rfl (.cons rfl (.cons rfl .nil)))
          refine wpList_nil (norm_then ?_)
          refine wp_block ?_
          refine loop (ι := Nat) (fun j => [(1, .pointer (some ⟨g_1, 0, none⟩)), (3, .int .i64 (i : Int)), (4, .int .i64 (j : Int))]) (fun j w' => 1 ≤ j ∧ i + j ≤ 5 ∧ ¬ (s.a = i ∧ 1 ≤ s.b ∧ s.b < j) ∧ Blk w' g_1 36 [.int .u8 s.k, .int .u8 s.y, .int .i64 s.a, .int .i64 s.b, .bool s.f] ∧ Fr [] w0 w') (fun j => 5 - j) 1 (h.sub (.cons rfl (.cons rfl (.cons rfl .nil)))) ⟨by omega, by omega, by omega, hb1, hf⟩ ?_
          clear h a hb1 hf
          rintro j w3 a h ⟨hj1, hj4, hnj, hb1, hf⟩
          refine wp_seq ?_
          refine wp_seq ?_
          refine wp_region_lit ?_
          refine st_move h rfl rfl ?_; clear h a; intro a h
          refine st_move h rfl rfl ?_; clear h a; intro a h
          refine st_add h rfl rfl (by first | exact IntWalk.i64_in _ (by omega) | rfl) rfl ?_; clear h a; intro a h
          refine st_le h rfl rfl rfl ?_; clear h a; intro a h
          replace h : Ag a 58 [(1, _), (3, _), (4, _), (33, _)] := h.sub (.cons rfl (.cons rfl (.cons rfl (.cons rfl .nil))))
          refine wpList_nil (norm_then ?_)
          first | refine cond_dec h rfl (fun c3 => ?_) (fun c3 => ?_) | refine cond_ndec h rfl (fun c3 => ?_) (fun c3 => ?_) | refine cond_split h rfl (fun c3 => ?_) (fun c3 => ?_)
          · refine id ?_
            refine wp_skip (norm_then ?_)
            refine wp_seq ?_
            refine wp_block ?_
            refine wp_seq ?_
            refine region_bool (r := 45) (L' := [(1, _), (3, _), (4, _)]) (s.a = i ∧ s.b = j) h (.cons rfl (.cons rfl (.cons rfl .nil))) ?_ ?_
            · refine id ?_
              refine st_fieldAddr h rfl fa36_2 rfl ?_; clear h a; intro a h
              refine st_loadB h rfl hb1 rfl na3 rfl ?_; clear h a; intro a h
              refine st_move h rfl rfl ?_; clear h a; intro a h
              refine st_eq h rfl rfl rfl ?_; clear h a; intro a h
              refine st_move h rfl rfl ?_; clear h a; intro a h
              first | refine guard_dec (D := 40) h rfl ?_ ?_ | refine guard_ndec (D := 40) h rfl ?_ ?_ | refine guard_any (D := 40) h rfl ?_ ?_
              · clear h; intro g3 h
                refine gd_yes h rfl rfl rfl rfl rfl rfl ?_
                refine st_fieldAddr h rfl fa36_3 rfl ?_; clear h a; intro a h
                refine gd_yes h rfl rfl rfl rfl rfl rfl ?_
                refine st_loadB h rfl hb1 rfl na3 rfl ?_; clear h a; intro a h
                refine gd_yes h rfl rfl rfl rfl rfl rfl ?_
                refine st_move h rfl rfl ?_; clear h a; intro a h
                refine gd_yes h rfl rfl rfl rfl rfl rfl ?_
                refine st_eq h rfl rfl rfl ?_; clear h a; intro a h
                refine st_pick_t h rfl rfl rfl rfl ?_; clear h a; intro a h
                exact wpList_nil (bool_end h rfl (by first | exact bt (by omega) | exact bf (by omega) | exact bi (by omega) | exact bn (by omega)) (.cons rfl (.cons rfl (.cons rfl .nil))))
              · clear h; intro g3 h
                refine gd_no h rfl rfl rfl rfl rfl rfl rfl rfl ?_; clear h a; intro a h
                refine gd_no h rfl rfl rfl rfl rfl rfl rfl rfl ?_; clear h a; intro a h
                refine gd_no h rfl rfl rfl rfl rfl rfl rfl rfl ?_; clear h a; intro a h
                refine gd_no h rfl rfl rfl rfl rfl rfl rfl rfl ?_; clear h a; intro a h
                refine st_pick_f h rfl rfl rfl rfl ?_; clear h a; intro a h
                exact wpList_nil (bool_end h rfl (by first | exact bt (by omega) | exact bf (by omega) | exact bi (by omega) | exact bn (by omega)) (.cons rfl (.cons rfl (.cons rfl .nil))))
            · clear h a; intro a h
              refine (norm_then ?_)
              first | refine cond_dec h rfl (fun c4 => ?_) (fun c4 => ?_) | refine cond_ndec h rfl (fun c4 => ?_) (fun c4 => ?_) | refine cond_split h rfl (fun c4 => ?_) (fun c4 => ?_)
              · refine id ?_
                refine wp_seq ?_
                refine wp_region_lit ?_
                refine st_assign h rfl rfl ?_; clear h a; intro a h
                replace h : Ag a 58 [(2, _)] := h.sub (.cons rfl .nil)
                refine wpList_nil (norm_then ?_)
                refine wp_ret (ret_blk (ret_then (ret_then (ret_blk (ret_blk (ret_then (ret_then (ret_blk (ret_then (ret_then ?_))))))))))
                refine ret1 h Tryd.results15 rfl ?_
                exact ⟨_, rfl, by rw [if_pos (check_zero hk hy (by omega) (.inl (by omega)))], hf⟩
              · refine id ?_
                refine wp_skip (norm_blk (norm_then ?_))
                refine wp_region_lit ?_
                refine st_move h rfl rfl ?_; clear h a; intro a h
                refine st_add h rfl rfl (by first | exact IntWalk.i64_in _ (by omega) | rfl) rfl ?_; clear h a; intro a h
                refine st_assign h rfl rfl ?_; clear h a; intro a h
                replace h : Ag a 58 [(1, _), (3, _), (4, _)] := h.sub (.cons rfl (.cons rfl (.cons rfl .nil)))
                refine wpList_nil (norm_then ?_)
                exact ⟨j + 1, h.sub (.cons rfl (.cons rfl (.cons rfl .nil))), ⟨by omega, by omega, by omega, hb1, hf⟩, by omega⟩
          · refine id ?_
            refine wp_exit (exit_then (exit_then (exit_here (norm_blk (norm_then ?_)))))
            refine wp_region_lit ?_
            refine st_move h rfl rfl ?_; clear h a; intro a h
            refine st_add h rfl rfl (by first | exact IntWalk.i64_in _ (by omega) | rfl) rfl ?_; clear h a; intro a h
            refine st_assign h rfl rfl ?_; clear h a; intro a h
            replace h : Ag a 58 [(1, _), (3, _)] := h.sub (.cons rfl (.cons rfl .nil))
            refine wpList_nil (norm_then ?_)
            exact ⟨i + 1, h.sub (.cons rfl (.cons rfl .nil)), ⟨by omega, by omega, by omega, hb1, hf⟩, by omega⟩
        · refine id ?_
          refine wp_exit (exit_then (exit_then (exit_here (norm_then ?_))))
          refine wp_seq ?_
          refine wp_region_lit ?_
          refine st_assign h rfl rfl ?_; clear h a; intro a h
          replace h : Ag a 58 [(2, _)] := h.sub (.cons rfl .nil)
          refine wpList_nil (norm_then ?_)
          refine wp_ret (ret_then ?_)
          refine ret1 h Tryd.results15 rfl ?_
          exact ⟨_, rfl, by rw [if_neg (fun e => by have := check_rng e; omega)], hf⟩
      · refine id ?_
        refine wp_skip (norm_then ?_)
        refine wp_seq ?_
        refine wp_seq ?_
        refine region_bool (r := 57) (L' := []) (s.a ≠ 0 ∨ s.b ≠ 0 ∨ s.f = true) h .nil ?_ ?_
        · refine id ?_
          refine st_fieldAddr h rfl fa36_2 rfl ?_; clear h a; intro a h
          refine st_loadB h rfl hb1 rfl na3 rfl ?_; clear h a; intro a h
          refine st_ne h rfl rfl rfl ?_; clear h a; intro a h
          refine st_move h rfl rfl ?_; clear h a; intro a h
          first | refine guard_dec (D := 49) h rfl ?_ ?_ | refine guard_ndec (D := 49) h rfl ?_ ?_ | refine guard_any (D := 49) h rfl ?_ ?_
          · clear h; intro g4 h
            refine gd_no h rfl rfl rfl rfl rfl rfl rfl rfl ?_; clear h a; intro a h
            refine gd_no h rfl rfl rfl rfl rfl rfl rfl rfl ?_; clear h a; intro a h
            refine gd_no h rfl rfl rfl rfl rfl rfl rfl rfl ?_; clear h a; intro a h
            refine st_pick_t h rfl rfl rfl rfl ?_; clear h a; intro a h
            refine st_move h rfl rfl ?_; clear h a; intro a h
            refine gd_no h rfl rfl rfl rfl rfl rfl rfl rfl ?_; clear h a; intro a h
            refine gd_no h rfl rfl rfl rfl rfl rfl rfl rfl ?_; clear h a; intro a h
            refine st_pick_t h rfl rfl rfl rfl ?_; clear h a; intro a h
            exact wpList_nil (bool_end h rfl (by simp_all) .nil)
          · clear h; intro g4 h
            refine gd_yes h rfl rfl rfl rfl rfl rfl ?_
            refine st_fieldAddr h rfl fa36_3 rfl ?_; clear h a; intro a h
            refine gd_yes h rfl rfl rfl rfl rfl rfl ?_
            refine st_loadB h rfl hb1 rfl na3 rfl ?_; clear h a; intro a h
            refine gd_yes h rfl rfl rfl rfl rfl rfl ?_
            refine st_ne h rfl rfl rfl ?_; clear h a; intro a h
            refine st_pick_f h rfl rfl rfl rfl ?_; clear h a; intro a h
            refine st_move h rfl rfl ?_; clear h a; intro a h
            first | refine guard_dec (D := 54) h rfl ?_ ?_ | refine guard_ndec (D := 54) h rfl ?_ ?_ | refine guard_any (D := 54) h rfl ?_ ?_
            · clear h; intro g5 h
              refine gd_no h rfl rfl rfl rfl rfl rfl rfl rfl ?_; clear h a; intro a h
              refine gd_no h rfl rfl rfl rfl rfl rfl rfl rfl ?_; clear h a; intro a h
              refine st_pick_t h rfl rfl rfl rfl ?_; clear h a; intro a h
              exact wpList_nil (bool_end h rfl (by simp_all) .nil)
            · clear h; intro g5 h
              refine gd_yes h rfl rfl rfl rfl rfl rfl ?_
              refine st_fieldAddr h rfl fa36_4 rfl ?_; clear h a; intro a h
              refine gd_yes h rfl rfl rfl rfl rfl rfl ?_
              refine st_loadB h rfl hb1 rfl na4 rfl ?_; clear h a; intro a h
              refine st_pick_f h rfl rfl rfl rfl ?_; clear h a; intro a h
              exact wpList_nil (bool_end h rfl (by simp_all) .nil)
        · clear h a; intro a h
          refine (norm_then ?_)
          first | refine cond_dec h rfl (fun c5 => ?_) (fun c5 => ?_) | refine cond_ndec h rfl (fun c5 => ?_) (fun c5 => ?_) | refine cond_split h rfl (fun c5 => ?_) (fun c5 => ?_)
          · refine id ?_
            refine wp_seq ?_
            refine wp_region_lit ?_
            refine st_assign h rfl rfl ?_; clear h a; intro a h
            replace h : Ag a 58 [(2, _)] := h.sub (.cons rfl .nil)
            refine wpList_nil (norm_then ?_)
            refine wp_ret (ret_then ?_)
            refine ret1 h Tryd.results15 rfl ?_
            exact ⟨_, rfl, by rw [if_neg (fun e => by obtain ⟨p, q, r⟩ := (check_rng e).2.2.2.2.1 c1; rcases c5 with x | x | x; exact x p; exact x q; rw [r] at x; cases x)], hf⟩
          · refine id ?_
            refine wp_skip (norm_then ?_)
            refine wp_seq ?_
            refine wp_region_lit ?_
            refine st_assign h rfl rfl ?_; clear h a; intro a h
            replace h : Ag a 58 [(2, _)] := h.sub (.cons rfl .nil)
            refine wpList_nil (norm_then ?_)
            refine wp_ret ?_
            refine ret1 h Tryd.results15 rfl ?_
            exact ⟨_, rfl, by rw [if_pos (check_zero hk hy (by omega) (.inr ⟨c1, by omega, by omega, by cases hsf : s.f with | false => rfl | true => exact absurd (.inr (.inr hsf)) c5⟩))], hf⟩
theorem reftext_ok (s : Stitch) (w0 : World) (hk : 0 ≤ s.k) (hy : 0 ≤ s.y) : Rets Tryd.prog 29 #[stV s] w0 fun v w' => v = S (textS s) ∧ Fr [] w0 w' := by
  refine enter [(0, stV s)] Tryd.func29 rfl Tryd.ntmps29 rfl (.cons rfl .nil) ?_
  have hf := Fr.refl [] w0
  intro a h
  refine wp_seq ?_
  refine wp_region_lit ?_
  refine st_box h rfl rfl rfl ?_; clear h a; intro w1 hb1 hq hz a h
  obtain ⟨g_1, hg⟩ : ∃ g, g = w0.heap.size := ⟨_, rfl⟩; rw [← hg] at hb1 h hz
  have hl1 : w0.heap.size ≤ g_1 := by have := hf.size; omega
  replace hf := hf.next hq
  clear hq hz hg
  refine st_assign h rfl rfl ?_; clear h a; intro a h
  replace h : Ag a 55 [(1, _)] := h.sub (.cons rfl .nil)
  refine wpList_nil (norm_then ?_)
  refine wp_seq ?_
  refine wp_seq ?_
  refine wp_region_lit ?_
  refine st_loadBA h rfl hb1 ag36 rfl ?_; clear h a; intro a h
  refine st_call h (evs_cons rfl evs_nil) co15 (valid_ok s _ hk hy) rfl ?_; clear h a; rintro _ w2 ⟨rfl, hq⟩ a h
  replace hf := hf.next hq
  replace hb1 := hb1.ext hq
  clear hq
  refine st_eq h rfl rfl rfl ?_; clear h a; intro a h
  replace h : Ag a 55 [(1, _), (8, _)] := h.sub (.cons rfl (.cons rfl .nil))
  refine wpList_nil (norm_then ?_)
  first | refine cond_dec h rfl (fun c0 => ?_) (fun c0 => ?_) | refine cond_ndec h rfl (fun c0 => ?_) (fun c0 => ?_) | refine cond_split h rfl (fun c0 => ?_) (fun c0 => ?_)
  · have hc : checkS s ≠ 0 := fun e => by rw [if_pos e] at c0; omega
    refine wp_seq ?_
    refine wp_region_lit ?_
    refine st_assign h rfl rfl ?_; clear h a; intro a h
    replace h : Ag a 55 [(2, _)] := h.sub (.cons rfl .nil)
    refine wpList_nil (norm_then ?_)
    refine wp_ret (ret_then ?_)
    refine ret1 h Tryd.results29 rfl ?_
    exact ⟨_, rfl, by rw [textS, if_pos hc]; rfl, hf⟩
  · have hc : checkS s = 0 := Decidable.not_not.1 fun e => c0 (if_neg e)
    obtain ⟨k1, k8, y1, y6, kn, ky⟩ := check_rng hc
    refine wp_skip (norm_then ?_)
    refine wp_seq ?_
    refine wp_region_lit ?_
    refine st_assign h rfl rfl ?_; clear h a; intro a h
    replace h : Ag a 55 [(1, _), (3, _)] := h.sub (.cons rfl (.cons rfl .nil))
    refine wpList_nil (norm_then ?_)
    refine wp_seq ?_
    refine wp_region_lit ?_
    refine st_move h rfl rfl ?_; clear h a; intro a h
    refine st_fieldAddr h rfl fa36_0 rfl ?_; clear h a; intro a h
    refine st_loadB h rfl hb1 rfl na34 rfl ?_; clear h a; intro a h
    refine st_fieldAddr h rfl fa36_0 rfl ?_; clear h a; intro a h
    refine st_loadB h rfl hb1 rfl na34 rfl ?_; clear h a; intro a h
    refine st_add h rfl rfl (by first | exact IntWalk.u8_in _ (by omega) | rfl) rfl ?_; clear h a; intro a h
    refine st_ss_lh (p := (s.k).toNat) (p' := (s.k + 1).toNat) h rfl rfl rfl Tryd.underlying9 (by omega) (by omega) (by simp only [List.length_cons, List.length_nil]; omega) rfl rfl rfl ?_; clear h a; intro a h
    rw [refsym s.k k1 k8] at h
    refine st_assign h rfl rfl ?_; clear h a; intro a h
    replace h : Ag a 55 [(1, _), (4, _)] := h.sub (.cons rfl (.cons rfl .nil))
    refine wpList_nil (norm_then ?_)
    refine wp_seq ?_
    refine wp_region_lit ?_
    refine st_assign h rfl rfl ?_; clear h a; intro a h
    refine wpList_nil (norm_then ?_)
    refine wp_seq ?_
    refine wp_seq ?_
    refine wp_region_lit ?_
    refine st_fieldAddr h rfl fa36_0 rfl ?_; clear h a; intro a h
    refine st_loadB h rfl hb1 rfl na34 rfl ?_; clear h a; intro a h
    refine st_eq h rfl rfl rfl ?_; clear h a; intro a h
    replace h : Ag a 55 [(1, _), (4, _), (5, _), (18, _)] := h.sub (.cons rfl (.cons rfl (.cons rfl (.cons rfl .nil))))
    refine wpList_nil (norm_then ?_)
    first | refine cond_dec h rfl (fun c1 => ?_) (fun c1 => ?_) | refine cond_ndec h rfl (fun c1 => ?_) (fun c1 => ?_) | refine cond_split h rfl (fun c1 => ?_) (fun c1 => ?_)
    · obtain ⟨a1, a3, b1, b3, ab⟩ := ky c1
      refine wp_seq ?_
      refine region_quiet hmix (by kernel_rfl) ?_
      refine qt_move h rfl rfl ?_; clear h a; intro a h
      refine qt_move h rfl rfl ?_; clear h a; intro a h
      refine qt_fieldAddr h rfl fa36_2 rfl ?_; clear h a; intro a h
      refine qt_loadB h rfl (fun _ hw => hb1.ext hw) rfl na3 rfl ?_; clear h a; intro a h
      refine qt_fieldAddr h rfl fa36_2 rfl ?_; clear h a; intro a h
      refine qt_loadB h rfl (fun _ hw => hb1.ext hw) rfl na3 rfl ?_; clear h a; intro a h
      refine qt_add h rfl rfl (by first | exact IntWalk.i64_in _ (by omega) | rfl) rfl ?_; clear h a; intro a h
      refine qt_ss_lh (p := (s.a).toNat) (p' := (s.a + 1).toNat) h rfl rfl rfl Tryd.underlying9 (by omega) (by omega) (by simp only [List.length_cons, List.length_nil]; omega) rfl rfl rfl ?_; clear h a; intro a h
      rw [refdig s.a (by omega) (by omega)] at h
      refine qt_move h rfl rfl ?_; clear h a; intro a h
      refine qt_fieldAddr h rfl fa36_3 rfl ?_; clear h a; intro a h
      refine qt_loadB h rfl (fun _ hw => hb1.ext hw) rfl na3 rfl ?_; clear h a; intro a h
      refine qt_fieldAddr h rfl fa36_3 rfl ?_; clear h a; intro a h
      refine qt_loadB h rfl (fun _ hw => hb1.ext hw) rfl na3 rfl ?_; clear h a; intro a h
      refine qt_add h rfl rfl (by first | exact IntWalk.i64_in _ (by omega) | rfl) rfl ?_; clear h a; intro a h
      refine qt_ss_lh (p := (s.b).toNat) (p' := (s.b + 1).toNat) h rfl rfl rfl Tryd.underlying9 (by omega) (by omega) (by simp only [List.length_cons, List.length_nil]; omega) rfl rfl rfl ?_; clear h a; intro a h
      rw [refdig s.b (by omega) (by omega)] at h
      refine qt_adds h rfl rfl (by first | (simp; done) | (simp; omega)) rfl ?_; clear h a; intro a h
      refine qt_adds h rfl rfl (by first | (simp; done) | (simp; omega)) rfl ?_; clear h a; intro a h
      refine qt_assign h rfl rfl ?_; clear h a; intro a h
      refine wpQuiet_nil ?_
      intro w3 hq
      replace hf := hf.next hq
      replace hb1 := hb1.ext hq
      clear hq
      replace h : Ag a 55 [(1, _), (4, _), (5, _)] := h.sub (.cons rfl (.cons rfl (.cons rfl .nil)))
      refine (norm_then ?_)
      refine wp_seq ?_
      refine wp_region_lit ?_
      refine st_fieldAddr h rfl fa36_4 rfl ?_; clear h a; intro a h
      refine st_loadB h rfl hb1 rfl na4 rfl ?_; clear h a; intro a h
      replace h : Ag a 55 [(1, _), (4, _), (5, _), (37, _)] := h.sub (.cons rfl (.cons rfl (.cons rfl (.cons rfl .nil))))
      refine wpList_nil (norm_then ?_)
      first | refine cond_dec h rfl (fun c2 => ?_) (fun c2 => ?_) | refine cond_ndec h rfl (fun c2 => ?_) (fun c2 => ?_) | refine cond_split h rfl (fun c2 => ?_) (fun c2 => ?_)
      · refine id ?_
        refine wp_region_lit ?_
        refine st_move h rfl rfl ?_; clear h a; intro a h
        refine st_adds h rfl rfl (by first | (simp; done) | (simp; omega)) rfl ?_; clear h a; intro a h
        refine st_assign h rfl rfl ?_; clear h a; intro a h
        replace h : Ag a 55 [(1, _), (4, _), (5, _)] := h.sub (.cons rfl (.cons rfl (.cons rfl .nil)))
        refine wpList_nil (norm_then ?_)
        refine wp_seq ?_
        refine wp_seq ?_
        refine wp_region_lit ?_
        refine st_fieldAddr h rfl fa36_1 rfl ?_; clear h a; intro a h
        refine st_loadB h rfl hb1 rfl na5 rfl ?_; clear h a; intro a h
        refine st_ne h rfl rfl rfl ?_; clear h a; intro a h
        replace h : Ag a 55 [(1, _), (4, _), (5, _), (44, _)] := h.sub (.cons rfl (.cons rfl (.cons rfl (.cons rfl .nil))))
        refine wpList_nil (norm_then ?_)
        first | refine cond_dec h rfl (fun c3 => ?_) (fun c3 => ?_) | refine cond_ndec h rfl (fun c3 => ?_) (fun c3 => ?_) | refine cond_split h rfl (fun c3 => ?_) (fun c3 => ?_)
        · refine id ?_
          refine wp_region_lit ?_
          refine st_move h rfl rfl ?_; clear h a; intro a h
          refine st_move h rfl rfl ?_; clear h a; intro a h
          refine st_fieldAddr h rfl fa36_1 rfl ?_; clear h a; intro a h
          refine st_loadB h rfl hb1 rfl na5 rfl ?_; clear h a; intro a h
          refine st_fieldAddr h rfl fa36_1 rfl ?_; clear h a; intro a h
          refine st_loadB h rfl hb1 rfl na5 rfl ?_; clear h a; intro a h
          refine st_add h rfl rfl (by first | exact IntWalk.u8_in _ (by omega) | rfl) rfl ?_; clear h a; intro a h
          refine st_ss_lh (p := (s.y).toNat) (p' := (s.y + 1).toNat) h rfl rfl rfl Tryd.underlying9 (by omega) (by omega) (by simp only [List.length_cons, List.length_nil]; omega) rfl rfl rfl ?_; clear h a; intro a h
          rw [refdig s.y (by omega) (by omega)] at h
          refine st_adds h rfl rfl (by first | (simp; done) | (simp; omega)) rfl ?_; clear h a; intro a h
          refine st_assign h rfl rfl ?_; clear h a; intro a h
          replace h : Ag a 55 [(4, _)] := h.sub (.cons rfl .nil)
          refine wpList_nil (norm_then ?_)
          refine wp_seq ?_
          refine wp_region_lit ?_
          refine st_move h rfl rfl ?_; clear h a; intro a h
          refine st_assign h rfl rfl ?_; clear h a; intro a h
          replace h : Ag a 55 [(2, _)] := h.sub (.cons rfl .nil)
          refine wpList_nil (norm_then ?_)
          refine wp_ret ?_
          refine ret1 h Tryd.results29 rfl ?_
          exact ⟨_, rfl, by simp_all [textS], hf⟩
        · refine id ?_
          refine wp_skip (norm_then ?_)
          refine wp_seq ?_
          refine wp_region_lit ?_
          refine st_move h rfl rfl ?_; clear h a; intro a h
          refine st_assign h rfl rfl ?_; clear h a; intro a h
          replace h : Ag a 55 [(2, _)] := h.sub (.cons rfl .nil)
          refine wpList_nil (norm_then ?_)
          refine wp_ret ?_
          refine ret1 h Tryd.results29 rfl ?_
          exact ⟨_, rfl, by simp_all [textS], hf⟩
      · refine id ?_
        refine wp_region_lit ?_
        refine st_move h rfl rfl ?_; clear h a; intro a h
        refine st_adds h rfl rfl (by first | (simp; done) | (simp; omega)) rfl ?_; clear h a; intro a h
        refine st_assign h rfl rfl ?_; clear h a; intro a h
        replace h : Ag a 55 [(1, _), (4, _), (5, _)] := h.sub (.cons rfl (.cons rfl (.cons rfl .nil)))
        refine wpList_nil (norm_then ?_)
        refine wp_seq ?_
        refine wp_seq ?_
        refine wp_region_lit ?_
        refine st_fieldAddr h rfl fa36_1 rfl ?_; clear h a; intro a h
        refine st_loadB h rfl hb1 rfl na5 rfl ?_; clear h a; intro a h
        refine st_ne h rfl rfl rfl ?_; clear h a; intro a h
        replace h : Ag a 55 [(1, _), (4, _), (5, _), (44, _)] := h.sub (.cons rfl (.cons rfl (.cons rfl (.cons rfl .nil))))
        refine wpList_nil (norm_then ?_)
        first | refine cond_dec h rfl (fun c3 => ?_) (fun c3 => ?_) | refine cond_ndec h rfl (fun c3 => ?_) (fun c3 => ?_) | refine cond_split h rfl (fun c3 => ?_) (fun c3 => ?_)
        · refine id ?_
          refine wp_region_lit ?_
          refine st_move h rfl rfl ?_; clear h a; intro a h
          refine st_move h rfl rfl ?_; clear h a; intro a h
          refine st_fieldAddr h rfl fa36_1 rfl ?_; clear h a; intro a h
          refine st_loadB h rfl hb1 rfl na5 rfl ?_; clear h a; intro a h
          refine st_fieldAddr h rfl fa36_1 rfl ?_; clear h a; intro a h
          refine st_loadB h rfl hb1 rfl na5 rfl ?_; clear h a; intro a h
          refine st_add h rfl rfl (by first | exact IntWalk.u8_in _ (by omega) | rfl) rfl ?_; clear h a; intro a h
          refine st_ss_lh (p := (s.y).toNat) (p' := (s.y + 1).toNat) h rfl rfl rfl Tryd.underlying9 (by omega) (by omega) (by simp only [List.length_cons, List.length_nil]; omega) rfl rfl rfl ?_; clear h a; intro a h
          rw [refdig s.y (by omega) (by omega)] at h
          refine st_adds h rfl rfl (by first | (simp; done) | (simp; omega)) rfl ?_; clear h a; intro a h
          refine st_assign h rfl rfl ?_; clear h a; intro a h
          replace h : Ag a 55 [(4, _)] := h.sub (.cons rfl .nil)
          refine wpList_nil (norm_then ?_)
          refine wp_seq ?_
          refine wp_region_lit ?_
          refine st_move h rfl rfl ?_; clear h a; intro a h
          refine st_assign h rfl rfl ?_; clear h a; intro a h
          replace h : Ag a 55 [(2, _)] := h.sub (.cons rfl .nil)
          refine wpList_nil (norm_then ?_)
          refine wp_ret ?_
          refine ret1 h Tryd.results29 rfl ?_
          exact ⟨_, rfl, by simp_all [textS], hf⟩
        · refine id ?_
          refine wp_skip (norm_then ?_)
          refine wp_seq ?_
          refine wp_region_lit ?_
          refine st_move h rfl rfl ?_; clear h a; intro a h
          refine st_assign h rfl rfl ?_; clear h a; intro a h
          replace h : Ag a 55 [(2, _)] := h.sub (.cons rfl .nil)
          refine wpList_nil (norm_then ?_)
          refine wp_ret ?_
          refine ret1 h Tryd.results29 rfl ?_
          exact ⟨_, rfl, by simp_all [textS], hf⟩
    · refine id ?_
      refine wp_skip (norm_then ?_)
      refine wp_seq ?_
      refine wp_seq ?_
      refine wp_region_lit ?_
      refine st_fieldAddr h rfl fa36_1 rfl ?_; clear h a; intro a h
      refine st_loadB h rfl hb1 rfl na5 rfl ?_; clear h a; intro a h
      refine st_ne h rfl rfl rfl ?_; clear h a; intro a h
      replace h : Ag a 55 [(1, _), (4, _), (5, _), (44, _)] := h.sub (.cons rfl (.cons rfl (.cons rfl (.cons rfl .nil))))
      refine wpList_nil (norm_then ?_)
      first | refine cond_dec h rfl (fun c3 => ?_) (fun c3 => ?_) | refine cond_ndec h rfl (fun c3 => ?_) (fun c3 => ?_) | refine cond_split h rfl (fun c3 => ?_) (fun c3 => ?_)
      · refine id ?_
        refine wp_region_lit ?_
        refine st_move h rfl rfl ?_; clear h a; intro a h
        refine st_move h rfl rfl ?_; clear h a; intro a h
        refine st_fieldAddr h rfl fa36_1 rfl ?_; clear h a; intro a h
        refine st_loadB h rfl hb1 rfl na5 rfl ?_; clear h a; intro a h
        refine st_fieldAddr h rfl fa36_1 rfl ?_; clear h a; intro a h
        refine st_loadB h rfl hb1 rfl na5 rfl ?_; clear h a; intro a h
        refine st_add h rfl rfl (by first | exact IntWalk.u8_in _ (by omega) | rfl) rfl ?_; clear h a; intro a h
        refine st_ss_lh (p := (s.y).toNat) (p' := (s.y + 1).toNat) h rfl rfl rfl Tryd.underlying9 (by omega) (by omega) (by simp only [List.length_cons, List.length_nil]; omega) rfl rfl rfl ?_; clear h a; intro a h
        rw [refdig s.y (by omega) (by omega)] at h
        refine st_adds h rfl rfl (by first | (simp; done) | (simp; omega)) rfl ?_; clear h a; intro a h
        refine st_assign h rfl rfl ?_; clear h a; intro a h
        replace h : Ag a 55 [(4, _)] := h.sub (.cons rfl .nil)
        refine wpList_nil (norm_then ?_)
        refine wp_seq ?_
        refine wp_region_lit ?_
        refine st_move h rfl rfl ?_; clear h a; intro a h
        refine st_assign h rfl rfl ?_; clear h a; intro a h
        replace h : Ag a 55 [(2, _)] := h.sub (.cons rfl .nil)
        refine wpList_nil (norm_then ?_)
        refine wp_ret ?_
        refine ret1 h Tryd.results29 rfl ?_
        exact ⟨_, rfl, by simp_all [textS], hf⟩
      · refine id ?_
        refine wp_skip (norm_then ?_)
        refine wp_seq ?_
        refine wp_region_lit ?_
        refine st_move h rfl rfl ?_; clear h a; intro a h
        refine st_assign h rfl rfl ?_; clear h a; intro a h
        replace h : Ag a 55 [(2, _)] := h.sub (.cons rfl .nil)
        refine wpList_nil (norm_then ?_)
        refine wp_ret ?_
        refine ret1 h Tryd.results29 rfl ?_
        exact ⟨_, rfl, by simp_all [textS], hf⟩
end Go.Proofs.YtbbnampdgefljaaDoor
