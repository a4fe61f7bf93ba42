/- Walks. -/
import Derived.Test.YtbbnampdgefljaaDoorRows
import Derived.Test.YtbbnampdgefljaaDoorW11
import Derived.Test.YtbbnampdgefljaaDoorXMap
import Derived.Test.YtbbnampdgefljaaDoorXMach
import Derived.Test.YtbbnampdgefljaaDoorFactsB
set_option linter.unusedVariables false
set_option linter.unusedSimpArgs false
namespace Go.Proofs.YtbbnampdgefljaaDoor
open Go.Lw Go.G14
theorem law_expand (l : List UInt8) (w0 : World) (hy : Sym w0) (hlen : l.length ≤ 9223372036854775807) : Rets Tryd.prog 3 #[S l] w0 fun v w' => v = .bool true ∧ Fr [] w0 w' := by
  refine enter [(0, S l)] Tryd.func3 rfl Tryd.ntmps3 rfl (.cons rfl .nil) ?_
  have hf := Fr.refl [] w0
  intro a h
  refine wp_seq ?_
  refine wp_region_lit ?_
  refine st_assign h rfl rfl ?_; clear h a; intro a h
  replace h : Ag a 45 [(0, _)] := h.sub (.cons rfl .nil)
  refine wpList_nil (norm_then ?_)
  refine wp_seq ?_
  refine wp_seq ?_
  refine wp_region_lit ?_
  refine st_move h rfl rfl ?_; clear h a; intro a h
  refine st_len h rfl Tryd.underlying9 rfl ?_; clear h a; intro a h
  refine st_gt h rfl rfl rfl ?_; clear h a; intro a h
  replace h : Ag a 45 [(0, _), (9, _)] := h.sub (.cons rfl (.cons rfl .nil))
  refine wpList_nil (norm_then ?_)
  first | refine cond_dec h rfl (fun c0 => ?_) (fun c0 => ?_) | refine cond_ndec h rfl (fun c0 => ?_) (fun c0 => ?_) | refine cond_split h rfl (fun c0 => ?_) (fun c0 => ?_)
  · refine id ?_
    refine wp_seq ?_
    refine wp_region_lit ?_
    refine st_assign h rfl rfl ?_; clear h a; intro a h
    replace h : Ag a 45 [(2, _)] := h.sub (.cons rfl .nil)
    refine wpList_nil (norm_then ?_)
    refine wp_ret (ret_then ?_)
    refine ret1 h Tryd.results3 rfl ?_
    first | exact ⟨_, rfl, rfl, hf⟩ | (exfalso; simp_all)
  · refine id ?_
    refine wp_skip (norm_then ?_)
    refine wp_seq ?_
    refine wp_region_lit ?_
    refine st_move h rfl rfl ?_; clear h a; intro a h
    refine st_call h (evs_cons rfl evs_nil) co10 (expand_ok _ _ hy hlen) rfl ?_; clear h a; rintro _ w1 ⟨x, c, rfl, rfl, ho, hq⟩ a h
    replace hf := hf.next hq
    replace hy := hy.ext hq
    clear hq
    refine st_move h rfl rfl ?_; clear h a; intro a h
    refine st_extract h rfl rfl rfl ?_; clear h a; intro a h
    refine st_extract h rfl rfl rfl ?_; clear h a; intro a h
    refine st_assign h rfl rfl ?_; clear h a; intro a h
    refine st_assign h rfl rfl ?_; clear h a; intro a h
    replace h : Ag a 45 [(0, _), (3, _), (4, _)] := h.sub (.cons rfl (.cons rfl (.cons rfl .nil)))
    refine wpList_nil (norm_then ?_)
    refine wp_seq ?_
    refine wp_region_lit ?_
    refine st_move h rfl rfl ?_; clear h a; intro a h
    refine st_call h (evs_cons rfl evs_nil) co11 (refexpand_ok _ _ hy) rfl ?_; clear h a; rintro _ w2 ⟨x2, R, rfl, hR1, hR2, hs2, hq⟩ a h
    replace hf := hf.next hq
    replace hy := hy.ext hq
    replace ho := ho.ext hq
    clear hq
    obtain rfl : R = expandS l := mach_all hR1 hR2
    clear hR1 hR2
    refine st_move h rfl rfl ?_; clear h a; intro a h
    refine st_extract h rfl rfl rfl ?_; clear h a; intro a h
    refine st_extract h rfl rfl rfl ?_; clear h a; intro a h
    refine st_assign h rfl rfl ?_; clear h a; intro a h
    refine st_assign h rfl rfl ?_; clear h a; intro a h
    replace h : Ag a 45 [(3, _), (4, _), (5, _), (6, _)] := h.sub (.cons rfl (.cons rfl (.cons rfl (.cons rfl .nil))))
    refine wpList_nil (norm_then ?_)
    refine wp_seq ?_
    refine wp_seq ?_
    refine wp_region_lit ?_
    refine st_move h rfl rfl ?_; clear h a; intro a h
    refine st_move h rfl rfl ?_; clear h a; intro a h
    refine st_ne h rfl rfl rfl ?_; clear h a; intro a h
    replace h : Ag a 45 [(3, _), (4, _), (5, _), (22, _)] := h.sub (.cons rfl (.cons rfl (.cons rfl (.cons rfl .nil))))
    refine wpList_nil (norm_then ?_)
    first | refine cond_dec h rfl (fun c1 => ?_) (fun c1 => ?_) | refine cond_ndec h rfl (fun c1 => ?_) (fun c1 => ?_) | refine cond_split h rfl (fun c1 => ?_) (fun c1 => ?_)
    · exact absurd rfl c1
    · refine id ?_
      refine wp_skip (norm_then ?_)
      refine wp_seq ?_
      refine wp_seq ?_
      refine wp_region_lit ?_
      refine st_move h rfl rfl ?_; clear h a; intro a h
      refine st_ne h rfl rfl rfl ?_; clear h a; intro a h
      replace h : Ag a 45 [(3, _), (5, _), (24, _)] := h.sub (.cons rfl (.cons rfl (.cons rfl .nil)))
      refine wpList_nil (norm_then ?_)
      first | refine cond_dec h rfl (fun c2 => ?_) (fun c2 => ?_) | refine cond_ndec h rfl (fun c2 => ?_) (fun c2 => ?_) | refine cond_split h rfl (fun c2 => ?_) (fun c2 => ?_)
      · have hnil := expand_err c2
        refine wp_seq ?_
        refine wp_region_lit ?_
        refine st_move h rfl rfl ?_; clear h a; intro a h
        refine st_lenS h rfl Tryd.underlying22 rfl ?_; clear h a; intro a h
        refine st_eq h rfl rfl rfl ?_; clear h a; intro a h
        refine st_move h rfl rfl ?_; clear h a; intro a h
        first | refine guard_dec (D := 28) h rfl ?_ ?_ | refine guard_ndec (D := 28) h rfl ?_ ?_ | refine guard_any (D := 28) h rfl ?_ ?_
        · clear h; intro g0 h
          refine gd_yes h rfl rfl rfl rfl rfl rfl ?_
          refine st_call h evs_nil co12 (lives_ok _ hy) rfl ?_; clear h a; rintro _ w3 ⟨rfl, hq⟩ a h
          replace hf := hf.next hq
          replace hy := hy.ext hq
          replace ho := ho.ext hq
          replace hs2 := hs2.ext hq
          clear hq
          refine st_pick_t h rfl rfl rfl rfl ?_; clear h a; intro a h
          refine st_assign h rfl rfl ?_; clear h a; intro a h
          replace h : Ag a 45 [(2, _)] := h.sub (.cons rfl .nil)
          refine wpList_nil (norm_then ?_)
          refine wp_ret (ret_then ?_)
          refine ret1 h Tryd.results3 rfl ?_
          first | exact ⟨_, rfl, rfl, hf⟩ | (exfalso; simp_all)
        · clear h; intro g0 h
          refine gd_no h rfl rfl rfl rfl rfl rfl rfl rfl ?_; clear h a; intro a h
          refine st_pick_f h rfl rfl rfl rfl ?_; clear h a; intro a h
          refine st_assign h rfl rfl ?_; clear h a; intro a h
          replace h : Ag a 45 [(2, _)] := h.sub (.cons rfl .nil)
          refine wpList_nil (norm_then ?_)
          refine wp_ret (ret_then ?_)
          refine ret1 h Tryd.results3 rfl ?_
          first | exact ⟨_, rfl, rfl, hf⟩ | (exfalso; simp_all)
      · refine id ?_
        refine wp_skip (norm_then ?_)
        refine wp_seq ?_
        refine wp_region_lit ?_
        refine st_move h rfl rfl ?_; clear h a; intro a h
        refine st_move h rfl rfl ?_; clear h a; intro a h
        refine st_call h (evs_cons rfl (evs_cons rfl evs_nil)) co13 (differ_ok _ _ _ _ _ ho.sl hs2) rfl ?_; clear h a; rintro _ w4 ⟨rfl, hq⟩ a h
        replace hf := hf.next hq
        replace hy := hy.ext hq
        replace ho := ho.ext hq
        replace hs2 := hs2.ext hq
        clear hq
        refine st_eq h rfl rfl rfl ?_; clear h a; intro a h
        refine st_move h rfl rfl ?_; clear h a; intro a h
        first | refine guard_dec (D := 35) h rfl ?_ ?_ | refine guard_ndec (D := 35) h rfl ?_ ?_ | refine guard_any (D := 35) h rfl ?_ ?_
        · clear h; intro g1 h
          refine gd_yes h rfl rfl rfl rfl rfl rfl ?_
          refine st_move h rfl rfl ?_; clear h a; intro a h
          refine gd_yes h rfl rfl rfl rfl rfl rfl ?_
          refine st_capS h rfl Tryd.underlying22 rfl ?_; clear h a; intro a h
          refine gd_yes h rfl rfl rfl rfl rfl rfl ?_
          refine st_move h rfl rfl ?_; clear h a; intro a h
          refine gd_yes h rfl rfl rfl rfl rfl rfl ?_
          refine st_lenS h rfl Tryd.underlying22 rfl ?_; clear h a; intro a h
          refine gd_yes h rfl rfl rfl rfl rfl rfl ?_
          refine st_eq h rfl rfl rfl ?_; clear h a; intro a h
          refine st_pick_t h rfl rfl rfl rfl ?_; clear h a; intro a h
          refine st_move h rfl rfl ?_; clear h a; intro a h
          first | refine guard_dec (D := 42) h rfl ?_ ?_ | refine guard_ndec (D := 42) h rfl ?_ ?_ | refine guard_any (D := 42) h rfl ?_ ?_
          · clear h; intro g2 h
            refine gd_yes h rfl rfl rfl rfl rfl rfl ?_
            refine st_call h evs_nil co12 (lives_ok _ hy) rfl ?_; clear h a; rintro _ w5 ⟨rfl, hq⟩ a h
            replace hf := hf.next hq
            replace hy := hy.ext hq
            replace ho := ho.ext hq
            replace hs2 := hs2.ext hq
            clear hq
            refine st_pick_t h rfl rfl rfl rfl ?_; clear h a; intro a h
            refine st_assign h rfl rfl ?_; clear h a; intro a h
            replace h : Ag a 45 [(2, _)] := h.sub (.cons rfl .nil)
            refine wpList_nil (norm_then ?_)
            refine wp_ret ?_
            refine ret1 h Tryd.results3 rfl ?_
            first | exact ⟨_, rfl, rfl, hf⟩ | (exfalso; simp_all)
          · clear h; intro g2 h
            refine gd_no h rfl rfl rfl rfl rfl rfl rfl rfl ?_; clear h a; intro a h
            refine st_pick_f h rfl rfl rfl rfl ?_; clear h a; intro a h
            refine st_assign h rfl rfl ?_; clear h a; intro a h
            replace h : Ag a 45 [(2, _)] := h.sub (.cons rfl .nil)
            refine wpList_nil (norm_then ?_)
            refine wp_ret ?_
            refine ret1 h Tryd.results3 rfl ?_
            first | exact ⟨_, rfl, rfl, hf⟩ | (exfalso; simp_all)
        · clear h; intro g1 h
          refine gd_no h rfl rfl rfl rfl rfl rfl rfl rfl ?_; clear h a; intro a h
          refine gd_no h rfl rfl rfl rfl rfl rfl rfl rfl ?_; clear h a; intro a h
          refine gd_no h rfl rfl rfl rfl rfl rfl rfl rfl ?_; clear h a; intro a h
          refine gd_no h rfl rfl rfl rfl rfl rfl rfl rfl ?_; clear h a; intro a h
          refine gd_no h rfl rfl rfl rfl rfl rfl rfl rfl ?_; clear h a; intro a h
          refine st_pick_f h rfl rfl rfl rfl ?_; clear h a; intro a h
          refine st_move h rfl rfl ?_; clear h a; intro a h
          refine gd_no h rfl rfl rfl rfl rfl rfl rfl rfl ?_; clear h a; intro a h
          refine st_pick_f h rfl rfl rfl rfl ?_; clear h a; intro a h
          refine st_assign h rfl rfl ?_; clear h a; intro a h
          replace h : Ag a 45 [(2, _)] := h.sub (.cons rfl .nil)
          refine wpList_nil (norm_then ?_)
          refine wp_ret ?_
          refine ret1 h Tryd.results3 rfl ?_
          first | exact ⟨_, rfl, rfl, hf⟩ | (exfalso; simp_all)
end Go.Proofs.YtbbnampdgefljaaDoor
