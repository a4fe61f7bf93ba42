/- Walks. -/
import Derived.Test.YtbbnampdgefljaaDoorW14
import Derived.Test.YtbbnampdgefljaaDoorXRowOf
import Derived.Test.YtbbnampdgefljaaDoorXMake
set_option linter.unusedVariables false
set_option linter.unusedSimpArgs false
namespace Go.Proofs.YtbbnampdgefljaaDoor
open Go.Lw Go.G14
theorem co16 : CallOf Tryd.prog 16 := CallOf.mk' Tryd.func16 (by kernel_rfl) (by kernel_rfl)
theorem law_shorten (u : Value) (xs : List Stitch) (w0 : World) (hu : Sl encSt w0 u xs) (hR : ∀ x ∈ xs, 0 ≤ x.k ∧ 0 ≤ x.y) (hy : Sym w0) : Rets Tryd.prog 4 #[u] w0 fun v w' => v = .bool true ∧ Fr [] w0 w' := by
  obtain ⟨A, c, rfl, hc⟩ := hu.form
  have hs := hu
  obtain ⟨-, -, hM, hA⟩ := Sl.open_ hu
  unfold maxLen at hM
  refine enter [(0, .slice A xs.length c)] Tryd.func4 rfl Tryd.ntmps4 rfl (.cons rfl .nil) ?_
  have hf := Fr.refl [] w0
  intro a h
  refine wp_seq ?_
  refine wp_region_lit ?_
  refine st_assign h rfl rfl ?_; clear h a; intro a h
  replace h : Ag a 67 [(0, _)] := h.sub (.cons rfl .nil)
  refine wpList_nil (norm_then ?_)
  refine wp_seq ?_
  refine wp_seq ?_
  refine wp_region_lit ?_
  refine st_move h rfl rfl ?_; clear h a; intro a h
  refine st_lenS h rfl Tryd.underlying22 rfl ?_; clear h a; intro a h
  refine st_gt h rfl rfl rfl ?_; clear h a; intro a h
  replace h : Ag a 67 [(0, _), (11, _)] := h.sub (.cons rfl (.cons rfl .nil))
  refine wpList_nil (norm_then ?_)
  first | refine cond_dec h rfl (fun c0 => ?_) (fun c0 => ?_) | refine cond_ndec h rfl (fun c0 => ?_) (fun c0 => ?_) | refine cond_split h rfl (fun c0 => ?_) (fun c0 => ?_)
  · refine id ?_
    refine wp_seq ?_
    refine wp_region_lit ?_
    refine st_assign h rfl rfl ?_; clear h a; intro a h
    replace h : Ag a 67 [(2, _)] := h.sub (.cons rfl .nil)
    refine wpList_nil (norm_then ?_)
    refine wp_ret (ret_then ?_)
    refine ret1 h Tryd.results4 rfl ?_
    first | exact ⟨_, rfl, rfl, hf⟩ | (exfalso; first | simp_all | omega)
  · refine id ?_
    refine wp_skip (norm_then ?_)
    refine wp_seq ?_
    refine wp_region_lit ?_
    refine st_move h rfl rfl ?_; clear h a; intro a h
    refine st_call h (evs_cons rfl evs_nil) co14 (shorten_ok _ _ _ hs hy) rfl ?_; clear h a; rintro _ w1 ⟨rfl, hq⟩ a h
    replace hf := hf.next hq
    replace hs := hs.ext hq
    replace hy := hy.ext hq
    clear hq
    refine st_move h rfl rfl ?_; clear h a; intro a h
    refine st_extract h rfl rfl rfl ?_; clear h a; intro a h
    refine st_extract h rfl rfl rfl ?_; clear h a; intro a h
    refine st_assign h rfl rfl ?_; clear h a; intro a h
    refine st_assign h rfl rfl ?_; clear h a; intro a h
    replace h : Ag a 67 [(0, _), (3, _), (4, _)] := h.sub (.cons rfl (.cons rfl (.cons rfl .nil)))
    refine wpList_nil (norm_then ?_)
    refine wp_seq ?_
    refine wp_region_lit ?_
    refine st_assign h rfl rfl ?_; clear h a; intro a h
    refine wpList_nil (norm_then ?_)
    refine wp_seq ?_
    refine wp_seq ?_
    refine wp_region_lit ?_
    refine st_assign h rfl rfl ?_; clear h a; intro a h
    refine wpList_nil (norm_then ?_)
    refine wp_block ?_
    refine loop (ι := Nat) (fun k => [(0, .slice A xs.length c), (3, S (shortenS xs).1), (4, .int .i64 (shortenS xs).2), (5, .int .i64 (if (xs.take k).all okB = true then 0 else 1)), (6, .int .i64 (k : Int))]) (fun k w' => k ≤ xs.length ∧ Sl encSt w' (.slice A xs.length c) xs ∧ Sym w' ∧ Fr [] w0 w') (fun k => xs.length - k) 0 (h.sub (.cons rfl (.cons rfl (.cons rfl (.cons rfl (.cons rfl .nil)))))) ⟨by omega, hs, hy, hf⟩ ?_
    clear h a hs hy hf
    rintro k w2 a h ⟨hk, hs, hy, hf⟩
    refine wp_seq ?_
    refine wp_seq ?_
    refine wp_region_lit ?_
    refine st_move h rfl rfl ?_; clear h a; intro a h
    refine st_move h rfl rfl ?_; clear h a; intro a h
    refine st_lenS h rfl Tryd.underlying22 rfl ?_; clear h a; intro a h
    refine st_lt h rfl rfl rfl ?_; clear h a; intro a h
    replace h : Ag a 67 [(0, _), (3, _), (4, _), (5, _), (6, _), (20, _)] := h.sub (.cons rfl (.cons rfl (.cons rfl (.cons rfl (.cons rfl (.cons rfl .nil))))))
    refine wpList_nil (norm_then ?_)
    first | refine cond_dec h rfl (fun c1 => ?_) (fun c1 => ?_) | refine cond_ndec h rfl (fun c1 => ?_) (fun c1 => ?_) | refine cond_split h rfl (fun c1 => ?_) (fun c1 => ?_)
    · obtain ⟨x, hxk⟩ : ∃ x, xs[k]? = some x := ⟨_, List.getElem?_eq_getElem (by omega)⟩
      obtain ⟨ad, hAd, ca⟩ := hA k x hxk
      have q1 := hR x (List.mem_of_getElem? hxk)
      refine wp_skip (norm_then ?_)
      refine wp_seq ?_
      refine wp_block ?_
      refine wp_seq ?_
      refine wp_region_lit ?_
      refine st_move h rfl rfl ?_; clear h a; intro a h
      refine st_move h rfl rfl ?_; clear h a; intro a h
      refine st_idxS h (by rw [hAd]; rfl) rfl el22 (by omega) (by omega) rfl rfl ?_; clear h a; intro a h
      refine st_loadA h rfl (ca.fr hf (by simp)) ag36 rfl ?_; clear h a; intro a h
      refine st_call h (evs_cons rfl evs_nil) co15 (valid_ok x _ q1.1 q1.2) rfl ?_; clear h a; rintro _ w3 ⟨rfl, hq⟩ a h
      replace hf := hf.next hq
      replace hs := hs.ext hq
      replace hy := hy.ext hq
      clear hq
      refine st_eq h rfl rfl rfl ?_; clear h a; intro a h
      replace h : Ag a 67 [(0, _), (3, _), (4, _), (5, _), (6, _), (28, _)] := h.sub (.cons rfl (.cons rfl (.cons rfl (.cons rfl (.cons rfl (.cons rfl .nil))))))
      refine wpList_nil (norm_then ?_)
      first | refine cond_dec h rfl (fun c2 => ?_) (fun c2 => ?_) | refine cond_ndec h rfl (fun c2 => ?_) (fun c2 => ?_) | refine cond_split h rfl (fun c2 => ?_) (fun c2 => ?_)
      · have c2' : okB x = false := by cases e : okB x with | false => rfl | true => rw [if_pos ((okB_iff x).1 e)] at c2; omega
        refine wp_region_lit ?_
        refine st_assign h rfl rfl ?_; clear h a; intro a h
        replace h : Ag a 67 [(0, _), (3, _), (4, _), (5, _), (6, _)] := h.sub (.cons rfl (.cons rfl (.cons rfl (.cons rfl (.cons rfl .nil)))))
        refine wpList_nil (norm_blk (norm_then ?_))
        refine wp_region_lit ?_
        refine st_move h rfl rfl ?_; clear h a; intro a h
        refine st_add h rfl rfl (by first | exact IntWalk.i64_in _ (by omega) | rfl) rfl ?_; clear h a; intro a h
        refine st_assign h rfl rfl ?_; clear h a; intro a h
        replace h : Ag a 67 [(0, _), (3, _), (4, _), (5, _), (6, _)] := h.sub (.cons rfl (.cons rfl (.cons rfl (.cons rfl (.cons rfl .nil)))))
        refine wpList_nil (norm_then ?_)
        exact ⟨k + 1, h.sub (.cons rfl (.cons rfl (.cons rfl (.cons (by rw [List.take_add_one, hxk]; first | (rw [all_bad c2']; rfl) | (rw [all_good c2']; rfl)) (.cons rfl .nil))))), ⟨by omega, hs, hy, hf⟩, by omega⟩
      · have c2' : okB x = true := by cases e : okB x with | true => rfl | false => exact absurd (if_neg (fun e2 => by rw [(okB_iff x).2 e2] at e; cases e)) c2
        refine wp_skip (norm_blk (norm_then ?_))
        refine wp_region_lit ?_
        refine st_move h rfl rfl ?_; clear h a; intro a h
        refine st_add h rfl rfl (by first | exact IntWalk.i64_in _ (by omega) | rfl) rfl ?_; clear h a; intro a h
        refine st_assign h rfl rfl ?_; clear h a; intro a h
        replace h : Ag a 67 [(0, _), (3, _), (4, _), (5, _), (6, _)] := h.sub (.cons rfl (.cons rfl (.cons rfl (.cons rfl (.cons rfl .nil)))))
        refine wpList_nil (norm_then ?_)
        exact ⟨k + 1, h.sub (.cons rfl (.cons rfl (.cons rfl (.cons (by rw [List.take_add_one, hxk]; first | (rw [all_bad c2']; rfl) | (rw [all_good c2']; rfl)) (.cons rfl .nil))))), ⟨by omega, hs, hy, hf⟩, by omega⟩
    · obtain rfl : k = xs.length := by omega
      rw [List.take_length] at h
      refine wp_exit (exit_then (exit_then (exit_here (norm_then ?_))))
      refine seq_cut (Cut (ι := Unit) 67 (fun u => [(0, .slice A xs.length c), (3, S (shortenS xs).1), (4, .int .i64 (shortenS xs).2), (5, .int .i64 (if xs.length = 0 then 1 else if xs.all okB = true then 0 else 1))]) (fun u w' => Sl encSt w' (.slice A xs.length c) xs ∧ Sym w' ∧ Fr [] w0 w')) ?_ ?_
      · refine id ?_
        refine wp_seq ?_
        refine wp_region_lit ?_
        refine st_move h rfl rfl ?_; clear h a; intro a h
        refine st_lenS h rfl Tryd.underlying22 rfl ?_; clear h a; intro a h
        refine st_eq h rfl rfl rfl ?_; clear h a; intro a h
        replace h : Ag a 67 [(0, _), (3, _), (4, _), (5, _), (31, _)] := h.sub (.cons rfl (.cons rfl (.cons rfl (.cons rfl (.cons rfl .nil)))))
        refine wpList_nil (norm_then ?_)
        first | refine cond_dec h rfl (fun c3 => ?_) (fun c3 => ?_) | refine cond_ndec h rfl (fun c3 => ?_) (fun c3 => ?_) | refine cond_split h rfl (fun c3 => ?_) (fun c3 => ?_)
        · refine id ?_
          refine wp_region_lit ?_
          refine st_assign h rfl rfl ?_; clear h a; intro a h
          replace h : Ag a 67 [(0, _), (3, _), (4, _), (5, _)] := h.sub (.cons rfl (.cons rfl (.cons rfl (.cons rfl .nil))))
          refine wpList_nil (norm_then ?_)
          exact ⟨(), h.sub (.cons rfl (.cons rfl (.cons rfl (.cons (by first | (rw [if_pos (show xs.length = 0 by omega)]; rfl) | (rw [if_neg (show ¬ xs.length = 0 by omega)]; rfl)) .nil)))), hs, hy, hf⟩
        · refine id ?_
          refine wp_skip (norm_then ?_)
          exact ⟨(), h.sub (.cons rfl (.cons rfl (.cons rfl (.cons (by first | (rw [if_pos (show xs.length = 0 by omega)]; rfl) | (rw [if_neg (show ¬ xs.length = 0 by omega)]; rfl)) .nil)))), hs, hy, hf⟩
      · clear h a hs hy hf
        rintro a w4 ⟨u, h, ⟨hs, hy, hf⟩⟩
        refine seq_cut (Cut (ι := Unit) 67 (fun u => [(0, .slice A xs.length c), (3, S (shortenS xs).1), (4, .int .i64 (shortenS xs).2), (5, .int .i64 (shortenS xs).2)]) (fun u w' => Sl encSt w' (.slice A xs.length c) xs ∧ Sym w' ∧ Fr [] w0 w')) ?_ ?_
        · refine id ?_
          refine wp_seq ?_
          refine wp_region_lit ?_
          refine st_move h rfl rfl ?_; clear h a; intro a h
          refine st_lenS h rfl Tryd.underlying22 rfl ?_; clear h a; intro a h
          refine st_gt h rfl rfl rfl ?_; clear h a; intro a h
          replace h : Ag a 67 [(0, _), (3, _), (4, _), (5, _), (34, _)] := h.sub (.cons rfl (.cons rfl (.cons rfl (.cons rfl (.cons rfl .nil)))))
          refine wpList_nil (norm_then ?_)
          first | refine cond_dec h rfl (fun c4 => ?_) (fun c4 => ?_) | refine cond_ndec h rfl (fun c4 => ?_) (fun c4 => ?_) | refine cond_split h rfl (fun c4 => ?_) (fun c4 => ?_)
          · refine id ?_
            refine wp_region_lit ?_
            refine st_assign h rfl rfl ?_; clear h a; intro a h
            replace h : Ag a 67 [(0, _), (3, _), (4, _), (5, _)] := h.sub (.cons rfl (.cons rfl (.cons rfl (.cons rfl .nil))))
            refine wpList_nil (norm_then ?_)
            exact ⟨(), h.sub (.cons rfl (.cons rfl (.cons rfl (.cons (by first | (rw [sh_big (by omega)]; rfl) | (rw [sh_err (by omega)]; rfl)) .nil)))), hs, hy, hf⟩
          · refine id ?_
            refine wp_skip (norm_then ?_)
            exact ⟨(), h.sub (.cons rfl (.cons rfl (.cons rfl (.cons (by first | (rw [sh_big (by omega)]; rfl) | (rw [sh_err (by omega)]; rfl)) .nil)))), hs, hy, hf⟩
        · clear h a hs hy hf
          rintro a w5 ⟨u, h, ⟨hs, hy, hf⟩⟩
          refine wp_seq ?_
          refine wp_seq ?_
          refine wp_region_lit ?_
          refine st_move h rfl rfl ?_; clear h a; intro a h
          refine st_move h rfl rfl ?_; clear h a; intro a h
          refine st_ne h rfl rfl rfl ?_; clear h a; intro a h
          replace h : Ag a 67 [(0, _), (3, _), (5, _), (37, _)] := h.sub (.cons rfl (.cons rfl (.cons rfl (.cons rfl .nil))))
          refine wpList_nil (norm_then ?_)
          first | refine cond_dec h rfl (fun c5 => ?_) (fun c5 => ?_) | refine cond_ndec h rfl (fun c5 => ?_) (fun c5 => ?_) | refine cond_split h rfl (fun c5 => ?_) (fun c5 => ?_)
          · exact absurd rfl c5
          · refine id ?_
            refine wp_skip (norm_then ?_)
            refine wp_seq ?_
            refine wp_seq ?_
            refine wp_region_lit ?_
            refine st_move h rfl rfl ?_; clear h a; intro a h
            refine st_ne h rfl rfl rfl ?_; clear h a; intro a h
            replace h : Ag a 67 [(0, _), (3, _), (39, _)] := h.sub (.cons rfl (.cons rfl (.cons rfl .nil)))
            refine wpList_nil (norm_then ?_)
            first | refine cond_dec h rfl (fun c6 => ?_) (fun c6 => ?_) | refine cond_ndec h rfl (fun c6 => ?_) (fun c6 => ?_) | refine cond_split h rfl (fun c6 => ?_) (fun c6 => ?_)
            · have hnil := sh_bad c6
              refine wp_seq ?_
              refine wp_region_lit ?_
              refine st_move h rfl rfl ?_; clear h a; intro a h
              refine st_eqs h rfl rfl rfl ?_; clear h a; intro a h
              refine st_move h rfl rfl ?_; clear h a; intro a h
              first | refine guard_dec (D := 42) h rfl ?_ ?_ | refine guard_ndec (D := 42) h rfl ?_ ?_ | refine guard_any (D := 42) h rfl ?_ ?_
              · clear h; intro g0 h
                refine gd_yes h rfl rfl rfl rfl rfl rfl ?_
                refine st_call h evs_nil co12 (lives_ok _ hy) rfl ?_; clear h a; rintro _ w6 ⟨rfl, hq⟩ a h
                replace hf := hf.next hq
                replace hs := hs.ext hq
                replace hy := hy.ext hq
                clear hq
                refine st_pick_t h rfl rfl rfl rfl ?_; clear h a; intro a h
                refine st_assign h rfl rfl ?_; clear h a; intro a h
                replace h : Ag a 67 [(2, _)] := h.sub (.cons rfl .nil)
                refine wpList_nil (norm_then ?_)
                refine wp_ret (ret_then ?_)
                refine ret1 h Tryd.results4 rfl ?_
                first | exact ⟨_, rfl, rfl, hf⟩ | (exfalso; first | simp_all | omega)
              · clear h; intro g0 h
                refine gd_no h rfl rfl rfl rfl rfl rfl rfl rfl ?_; clear h a; intro a h
                refine st_pick_f h rfl rfl rfl rfl ?_; clear h a; intro a h
                refine st_assign h rfl rfl ?_; clear h a; intro a h
                replace h : Ag a 67 [(2, _)] := h.sub (.cons rfl .nil)
                refine wpList_nil (norm_then ?_)
                refine wp_ret (ret_then ?_)
                refine ret1 h Tryd.results4 rfl ?_
                first | exact ⟨_, rfl, rfl, hf⟩ | (exfalso; first | simp_all | omega)
            · obtain ⟨g1, g2, g3, g4⟩ := sh_good (Decidable.not_not.1 c6)
              rw [g4] at h
              have hln := short_len g2 g3
              replace hln : (shortS xs).length ≤ 9223372036854775807 := by omega
              have hback := short_back g1 g2 g3
              refine wp_skip (norm_then ?_)
              refine wp_seq ?_
              refine wp_region_lit ?_
              refine st_move h rfl rfl ?_; clear h a; intro a h
              refine st_call h (evs_cons rfl evs_nil) co10 (expand_ok _ _ hy hln) rfl ?_; clear h a; rintro _ w7 ⟨x, c2, rfl, rfl, ho, hq⟩ a h
              replace hf := hf.next hq
              replace hs := hs.ext hq
              replace hy := hy.ext hq
              clear hq
              rw [hback] at h ho
              refine st_move h rfl rfl ?_; clear h a; intro a h
              refine st_extract h rfl rfl rfl ?_; clear h a; intro a h
              refine st_extract h rfl rfl rfl ?_; clear h a; intro a h
              refine st_assign h rfl rfl ?_; clear h a; intro a h
              refine st_assign h rfl rfl ?_; clear h a; intro a h
              replace h : Ag a 67 [(0, _), (3, _), (7, _), (8, _)] := h.sub (.cons rfl (.cons rfl (.cons rfl (.cons rfl .nil))))
              refine wpList_nil (norm_then ?_)
              refine wp_seq ?_
              refine wp_region_lit ?_
              refine st_move h rfl rfl ?_; clear h a; intro a h
              refine st_move h rfl rfl ?_; clear h a; intro a h
              refine st_call h (evs_cons rfl evs_nil) co16 (refshort_ok _ xs _ hs g1 g2 g3) rfl ?_; clear h a; rintro _ w8 ⟨rfl, hq⟩ a h
              replace hf := hf.next hq
              replace hs := hs.ext hq
              replace hy := hy.ext hq
              replace ho := ho.ext hq
              clear hq
              refine st_eqs h rfl rfl rfl ?_; clear h a; intro a h
              refine st_move h rfl rfl ?_; clear h a; intro a h
              first | refine guard_dec (D := 54) h rfl ?_ ?_ | refine guard_ndec (D := 54) h rfl ?_ ?_ | refine guard_any (D := 54) h rfl ?_ ?_
              · clear h; intro g1 h
                refine gd_yes h rfl rfl rfl rfl rfl rfl ?_
                refine st_move h rfl rfl ?_; clear h a; intro a h
                refine gd_yes h rfl rfl rfl rfl rfl rfl ?_
                refine st_eq h rfl rfl rfl ?_; clear h a; intro a h
                refine st_pick_t h rfl rfl rfl rfl ?_; clear h a; intro a h
                refine st_move h rfl rfl ?_; clear h a; intro a h
                first | refine guard_dec (D := 58) h rfl ?_ ?_ | refine guard_ndec (D := 58) h rfl ?_ ?_ | refine guard_any (D := 58) h rfl ?_ ?_
                · clear h; intro g2 h
                  refine gd_yes h rfl rfl rfl rfl rfl rfl ?_
                  refine st_move h rfl rfl ?_; clear h a; intro a h
                  refine gd_yes h rfl rfl rfl rfl rfl rfl ?_
                  refine st_move h rfl rfl ?_; clear h a; intro a h
                  refine gd_yes h rfl rfl rfl rfl rfl rfl ?_
                  refine st_call h (evs_cons rfl (evs_cons rfl evs_nil)) co13 (differ_ok _ _ _ _ _ ho.sl hs) rfl ?_; clear h a; rintro _ w9 ⟨rfl, hq⟩ a h
                  replace hf := hf.next hq
                  replace hs := hs.ext hq
                  replace hy := hy.ext hq
                  replace ho := ho.ext hq
                  clear hq
                  rw [if_pos rfl] at h
                  refine gd_yes h rfl rfl rfl rfl rfl rfl ?_
                  refine st_eq h rfl rfl rfl ?_; clear h a; intro a h
                  refine st_pick_t h rfl rfl rfl rfl ?_; clear h a; intro a h
                  refine st_move h rfl rfl ?_; clear h a; intro a h
                  first | refine guard_dec (D := 64) h rfl ?_ ?_ | refine guard_ndec (D := 64) h rfl ?_ ?_ | refine guard_any (D := 64) h rfl ?_ ?_
                  · clear h; intro g3 h
                    refine gd_yes h rfl rfl rfl rfl rfl rfl ?_
                    refine st_call h evs_nil co12 (lives_ok _ hy) rfl ?_; clear h a; rintro _ w10 ⟨rfl, hq⟩ a h
                    replace hf := hf.next hq
                    replace hs := hs.ext hq
                    replace hy := hy.ext hq
                    replace ho := ho.ext hq
                    clear hq
                    refine st_pick_t h rfl rfl rfl rfl ?_; clear h a; intro a h
                    refine st_assign h rfl rfl ?_; clear h a; intro a h
                    replace h : Ag a 67 [(2, _)] := h.sub (.cons rfl .nil)
                    refine wpList_nil (norm_then ?_)
                    refine wp_ret ?_
                    refine ret1 h Tryd.results4 rfl ?_
                    first | exact ⟨_, rfl, rfl, hf⟩ | (exfalso; first | simp_all | omega)
                  · clear h; intro g3 h
                    refine gd_no h rfl rfl rfl rfl rfl rfl rfl rfl ?_; clear h a; intro a h
                    refine st_pick_f h rfl rfl rfl rfl ?_; clear h a; intro a h
                    refine st_assign h rfl rfl ?_; clear h a; intro a h
                    replace h : Ag a 67 [(2, _)] := h.sub (.cons rfl .nil)
                    refine wpList_nil (norm_then ?_)
                    refine wp_ret ?_
                    refine ret1 h Tryd.results4 rfl ?_
                    first | exact ⟨_, rfl, rfl, hf⟩ | (exfalso; first | simp_all | omega)
                · clear h; intro g2 h
                  refine gd_no h rfl rfl rfl rfl rfl rfl rfl rfl ?_; clear h a; intro a h
                  refine gd_no h rfl rfl rfl rfl rfl rfl rfl rfl ?_; clear h a; intro a h
                  refine gd_no h rfl rfl rfl rfl rfl rfl rfl rfl ?_; clear h a; intro a h
                  refine gd_no h rfl rfl rfl rfl rfl rfl rfl rfl ?_; clear h a; intro a h
                  refine st_pick_f h rfl rfl rfl rfl ?_; clear h a; intro a h
                  refine st_move h rfl rfl ?_; clear h a; intro a h
                  refine gd_no h rfl rfl rfl rfl rfl rfl rfl rfl ?_; clear h a; intro a h
                  refine st_pick_f h rfl rfl rfl rfl ?_; clear h a; intro a h
                  refine st_assign h rfl rfl ?_; clear h a; intro a h
                  replace h : Ag a 67 [(2, _)] := h.sub (.cons rfl .nil)
                  refine wpList_nil (norm_then ?_)
                  refine wp_ret ?_
                  refine ret1 h Tryd.results4 rfl ?_
                  first | exact ⟨_, rfl, rfl, hf⟩ | (exfalso; first | simp_all | omega)
              · clear h; intro g1 h
                refine gd_no h rfl rfl rfl rfl rfl rfl rfl rfl ?_; clear h a; intro a h
                refine gd_no h rfl rfl rfl rfl rfl rfl rfl rfl ?_; clear h a; intro a h
                refine st_pick_f h rfl rfl rfl rfl ?_; clear h a; intro a h
                refine st_move h rfl rfl ?_; clear h a; intro a h
                refine gd_no h rfl rfl rfl rfl rfl rfl rfl rfl ?_; clear h a; intro a h
                refine gd_no h rfl rfl rfl rfl rfl rfl rfl rfl ?_; clear h a; intro a h
                refine gd_no h rfl rfl rfl rfl rfl rfl rfl rfl ?_; clear h a; intro a h
                refine gd_no h rfl rfl rfl rfl rfl rfl rfl rfl ?_; clear h a; intro a h
                refine st_pick_f h rfl rfl rfl rfl ?_; clear h a; intro a h
                refine st_move h rfl rfl ?_; clear h a; intro a h
                refine gd_no h rfl rfl rfl rfl rfl rfl rfl rfl ?_; clear h a; intro a h
                refine st_pick_f h rfl rfl rfl rfl ?_; clear h a; intro a h
                refine st_assign h rfl rfl ?_; clear h a; intro a h
                replace h : Ag a 67 [(2, _)] := h.sub (.cons rfl .nil)
                refine wpList_nil (norm_then ?_)
                refine wp_ret ?_
                refine ret1 h Tryd.results4 rfl ?_
                first | exact ⟨_, rfl, rfl, hf⟩ | (exfalso; first | simp_all | omega)
end Go.Proofs.YtbbnampdgefljaaDoor
