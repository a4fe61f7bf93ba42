/- Walks. -/
import Derived.Test.YtbbnampdgefljaaDoorRows
import Derived.Test.YtbbnampdgefljaaDoorW9
import Derived.Test.YtbbnampdgefljaaDoorXMap
import Derived.Test.YtbbnampdgefljaaDoorXMach
import Derived.Test.YtbbnampdgefljaaDoorFactsB
set_option linter.unusedVariables false
set_option linter.unusedSimpArgs false
namespace Go.Proofs.YtbbnampdgefljaaDoor
open Go.Lw Go.G14
set_option maxHeartbeats 1000000 in
theorem lives_ok (w0 : World) (hy : Sym w0) : Rets Tryd.prog 12 #[] w0 fun v w' => v = .bool true ∧ Fr [] w0 w' := by
  have h00 := hy.pos
  refine enter [] Tryd.func12 rfl Tryd.ntmps12 rfl .nil ?_
  have hf := Fr.refl [] w0
  intro a h
  refine wp_seq ?_
  refine wp_region_lit ?_
  refine st_assign h rfl rfl ?_; clear h a; intro a h
  replace h : Ag a 97 [] := h.sub .nil
  refine wpList_nil (norm_then ?_)
  refine wp_seq ?_
  refine wp_region_lit ?_
  refine st_bslice (textsL) h (evs_cons rfl (evs_cons rfl (evs_cons rfl (evs_cons rfl (evs_cons rfl (evs_cons rfl (evs_cons rfl (evs_cons rfl evs_nil)))))))) rfl rfl rfl el48 (by decide) rfl ?_; clear h a; intro g_16 w1 hg ho16 hq hz a h
  have hl16 : w0.heap.size ≤ g_16 := by have := hf.size; omega
  replace hf := hf.next hq
  replace hy := hy.ext hq
  clear hq hz hg
  refine st_assign h rfl rfl ?_; clear h a; intro a h
  replace h : Ag a 97 [(1, _)] := h.sub (.cons rfl .nil)
  refine wpList_nil (norm_then ?_)
  refine wp_seq ?_
  refine wp_region_lit ?_
  refine st_bslice (plainL) h (evs_cons rfl (evs_cons rfl (evs_cons rfl (evs_cons rfl (evs_cons rfl (evs_cons rfl (evs_cons rfl (evs_cons rfl evs_nil)))))))) rfl rfl rfl el48 (by decide) rfl ?_; clear h a; intro g_17 w2 hg ho17 hq hz a h
  have hl17 : w0.heap.size ≤ g_17 := by have := hf.size; omega
  replace hf := hf.next hq
  replace hy := hy.ext hq
  replace ho16 := ho16.ext hq
  clear hq hz hg
  refine st_assign h rfl rfl ?_; clear h a; intro a h
  replace h : Ag a 97 [(1, _), (2, _)] := h.sub (.cons rfl (.cons rfl .nil))
  refine wpList_nil (norm_then ?_)
  refine wp_seq ?_
  refine wp_region_lit ?_
  refine st_bslice (errsL) h (evs_cons rfl (evs_cons rfl (evs_cons rfl (evs_cons rfl (evs_cons rfl (evs_cons rfl (evs_cons rfl (evs_cons rfl evs_nil)))))))) rfl rfl rfl el65 (by decide) rfl ?_; clear h a; intro g_18 w3 hg ho18 hq hz a h
  have hl18 : w0.heap.size ≤ g_18 := by have := hf.size; omega
  replace hf := hf.next hq
  replace hy := hy.ext hq
  replace ho16 := ho16.ext hq
  replace ho17 := ho17.ext hq
  clear hq hz hg
  refine st_assign h rfl rfl ?_; clear h a; intro a h
  replace h : Ag a 97 [(1, _), (2, _), (3, _)] := h.sub (.cons rfl (.cons rfl (.cons rfl .nil)))
  refine wpList_nil (norm_then ?_)
  refine wp_seq ?_
  refine wp_seq ?_
  refine wp_region_lit ?_
  refine st_assign h rfl rfl ?_; clear h a; intro a h
  refine wpList_nil (norm_then ?_)
  refine wp_block ?_
  refine loop (ι := Nat) (fun i => [(1, .slice (some ⟨g_16, 0, none⟩) 8 8), (2, .slice (some ⟨g_17, 0, none⟩) 8 8), (3, .slice (some ⟨g_18, 0, none⟩) 8 8), (4, .int .i64 (i : Int))]) (fun i w' => i ≤ 8 ∧ Own Enc.str 9 g_16 w' (.slice (some ⟨g_16, 0, none⟩) 8 8) textsL ∧ Own Enc.str 9 g_17 w' (.slice (some ⟨g_17, 0, none⟩) 8 8) plainL ∧ Own Enc.i64 23 g_18 w' (.slice (some ⟨g_18, 0, none⟩) 8 8) errsL ∧ Sym w' ∧ Fr [] w0 w') (fun i => 8 - i) 0 (h.sub (.cons rfl (.cons rfl (.cons rfl (.cons rfl .nil))))) ⟨by omega, ho16, ho17, ho18, hy, hf⟩ ?_
  clear h a ho16 ho17 ho18 hy hf
  rintro i w4 a h ⟨hi, ho16, ho17, ho18, hy, hf⟩
  refine wp_seq ?_
  refine wp_seq ?_
  refine wp_region_lit ?_
  refine st_move h rfl rfl ?_; clear h a; intro a h
  refine st_move h rfl rfl ?_; clear h a; intro a h
  refine st_lenS h rfl Tryd.underlying48 rfl ?_; clear h a; intro a h
  refine st_lt h rfl rfl rfl ?_; clear h a; intro a h
  replace h : Ag a 97 [(1, _), (2, _), (3, _), (4, _), (22, _)] := h.sub (.cons rfl (.cons rfl (.cons rfl (.cons rfl (.cons rfl .nil)))))
  refine wpList_nil (norm_then ?_)
  first | refine cond_dec h rfl (fun c0 => ?_) (fun c0 => ?_) | refine cond_ndec h rfl (fun c0 => ?_) (fun c0 => ?_) | refine cond_split h rfl (fun c0 => ?_) (fun c0 => ?_)
  · obtain ⟨e1, e2, e3⟩ := livesT i (by omega)
    have hln := livesN i (by omega)
    refine wp_skip (norm_then ?_)
    refine wp_seq ?_
    refine wp_block ?_
    refine wp_seq ?_
    refine wp_region_lit ?_
    refine st_move h rfl rfl ?_; clear h a; intro a h
    refine st_move h rfl rfl ?_; clear h a; intro a h
    refine st_idx (p := i) h rfl rfl ho16.sl el48 (by omega) rfl (getD_get (show i < textsL.length by rw [show textsL.length = 8 from rfl]; omega) []) rfl ?_; clear h a; intro ad cc a h
    refine st_loadC0 h rfl cc na9 rfl ?_; clear h a; intro a h
    refine st_call h (evs_cons rfl evs_nil) co10 (expand_ok _ _ hy (by omega)) rfl ?_; clear h a; rintro _ w5 ⟨x, c, rfl, hc, ho, hq⟩ a h
    replace hf := hf.next hq
    replace hy := hy.ext hq
    replace ho16 := ho16.ext hq
    replace ho17 := ho17.ext hq
    replace ho18 := ho18.ext hq
    clear hq
    obtain ⟨xs, hxs⟩ : ∃ xs, xs = (expandS (textsL.getD i [])).1 := ⟨_, rfl⟩
    have hxm := livesX i (by omega)
    rw [← hxs] at h ho e2 e3 hxm
    refine st_move h rfl rfl ?_; clear h a; intro a h
    refine st_extract h rfl rfl rfl ?_; clear h a; intro a h
    refine st_extract h rfl rfl rfl ?_; clear h a; intro a h
    refine st_assign h rfl rfl ?_; clear h a; intro a h
    refine st_assign h rfl rfl ?_; clear h a; intro a h
    replace h : Ag a 97 [(1, _), (2, _), (3, _), (4, _), (5, _), (6, _)] := h.sub (.cons rfl (.cons rfl (.cons rfl (.cons rfl (.cons rfl (.cons rfl .nil))))))
    refine wpList_nil (norm_then ?_)
    refine wp_seq ?_
    refine wp_seq ?_
    refine wp_region_lit ?_
    refine st_move h rfl rfl ?_; clear h a; intro a h
    refine st_move h rfl rfl ?_; clear h a; intro a h
    refine st_move h rfl rfl ?_; clear h a; intro a h
    refine st_idx (p := i) h rfl rfl ho18.sl el65 (by omega) rfl (getD_get (show i < errsL.length by rw [show errsL.length = 8 from rfl]; omega) 0) rfl ?_; clear h a; intro ad cc a h
    refine st_loadC0 h rfl cc na23 rfl ?_; clear h a; intro a h
    refine st_ne h rfl rfl rfl ?_; clear h a; intro a h
    replace h : Ag a 97 [(1, _), (2, _), (3, _), (4, _), (5, _), (38, _)] := h.sub (.cons rfl (.cons rfl (.cons rfl (.cons rfl (.cons rfl (.cons rfl .nil))))))
    refine wpList_nil (norm_then ?_)
    first | refine cond_dec h rfl (fun c1 => ?_) (fun c1 => ?_) | refine cond_ndec h rfl (fun c1 => ?_) (fun c1 => ?_) | refine cond_split h rfl (fun c1 => ?_) (fun c1 => ?_)
    · exact absurd e1 c1
    · refine id ?_
      refine wp_skip (norm_then ?_)
      refine wp_seq ?_
      refine wp_region_lit ?_
      refine st_assign h rfl rfl ?_; clear h a; intro a h
      replace h : Ag a 97 [(1, _), (2, _), (3, _), (4, _), (5, _), (7, _)] := h.sub (.cons rfl (.cons rfl (.cons rfl (.cons rfl (.cons rfl (.cons rfl .nil))))))
      refine wpList_nil (norm_then ?_)
      refine wp_seq ?_
      refine wp_seq ?_
      refine wp_region_lit ?_
      refine st_assign h rfl rfl ?_; clear h a; intro a h
      refine wpList_nil (norm_then ?_)
      refine wp_block ?_
      refine loop (ι := Nat) (fun k => [(1, .slice (some ⟨g_16, 0, none⟩) 8 8), (2, .slice (some ⟨g_17, 0, none⟩) 8 8), (3, .slice (some ⟨g_18, 0, none⟩) 8 8), (4, .int .i64 (i : Int)), (5, .slice x xs.length c), (7, S (joinTo xs k)), (8, .int .i64 (k : Int))]) (fun k w' => k ≤ xs.length ∧ Own encSt 36 0 w' (.slice x xs.length c) xs ∧ Own Enc.str 9 g_16 w' (.slice (some ⟨g_16, 0, none⟩) 8 8) textsL ∧ Own Enc.str 9 g_17 w' (.slice (some ⟨g_17, 0, none⟩) 8 8) plainL ∧ Own Enc.i64 23 g_18 w' (.slice (some ⟨g_18, 0, none⟩) 8 8) errsL ∧ Sym w' ∧ Fr [] w0 w') (fun k => xs.length - k) 0 (h.sub (.cons rfl (.cons rfl (.cons rfl (.cons rfl (.cons rfl (.cons rfl (.cons rfl .nil)))))))) ⟨by omega, ho.low (Nat.zero_le _), ho16, ho17, ho18, hy, hf⟩ ?_
      clear h a ho ho16 ho17 ho18 hy hf
      rintro k w6 a h ⟨hk, ho, ho16, ho17, ho18, hy, hf⟩
      have hjl := join_len xs k
      refine wp_seq ?_
      refine wp_seq ?_
      refine wp_region_lit ?_
      refine st_move h rfl rfl ?_; clear h a; intro a h
      refine st_move h rfl rfl ?_; clear h a; intro a h
      refine st_lenS h rfl Tryd.underlying22 rfl ?_; clear h a; intro a h
      refine st_lt h rfl rfl rfl ?_; clear h a; intro a h
      replace h : Ag a 97 [(1, _), (2, _), (3, _), (4, _), (5, _), (7, _), (8, _), (42, _)] := h.sub (.cons rfl (.cons rfl (.cons rfl (.cons rfl (.cons rfl (.cons rfl (.cons rfl (.cons rfl .nil))))))))
      refine wpList_nil (norm_then ?_)
      first | refine cond_dec h rfl (fun c2 => ?_) (fun c2 => ?_) | refine cond_ndec h rfl (fun c2 => ?_) (fun c2 => ?_) | refine cond_split h rfl (fun c2 => ?_) (fun c2 => ?_)
      · obtain ⟨x1, hxk⟩ : ∃ x1, xs[k]? = some x1 := ⟨_, List.getElem?_eq_getElem (by omega)⟩
        obtain ⟨p1, p2⟩ := okB_pos (List.all_eq_true.1 e3 x1 (List.mem_of_getElem? hxk))
        have htl := textS_len x1
        refine wp_skip (norm_then ?_)
        refine wp_seq ?_
        refine wp_block ?_
        refine wp_seq ?_
        refine wp_seq ?_
        refine wp_region_lit ?_
        refine st_move h rfl rfl ?_; clear h a; intro a h
        refine st_gt h rfl rfl rfl ?_; clear h a; intro a h
        replace h : Ag a 97 [(1, _), (2, _), (3, _), (4, _), (5, _), (7, _), (8, _), (46, _)] := h.sub (.cons rfl (.cons rfl (.cons rfl (.cons rfl (.cons rfl (.cons rfl (.cons rfl (.cons rfl .nil))))))))
        refine wpList_nil (norm_then ?_)
        first | refine cond_dec h rfl (fun c3 => ?_) (fun c3 => ?_) | refine cond_ndec h rfl (fun c3 => ?_) (fun c3 => ?_) | refine cond_split h rfl (fun c3 => ?_) (fun c3 => ?_)
        · refine id ?_
          refine wp_region_lit ?_
          refine st_move h rfl rfl ?_; clear h a; intro a h
          refine st_adds h rfl rfl (by first | (simp; done) | (simp; omega)) rfl ?_; clear h a; intro a h
          refine st_assign h rfl rfl ?_; clear h a; intro a h
          replace h : Ag a 97 [(1, _), (2, _), (3, _), (4, _), (5, _), (7, _), (8, _)] := h.sub (.cons rfl (.cons rfl (.cons rfl (.cons rfl (.cons rfl (.cons rfl (.cons rfl .nil)))))))
          refine wpList_nil (norm_then ?_)
          refine wp_region_lit ?_
          refine st_move h rfl rfl ?_; clear h a; intro a h
          refine st_move h rfl rfl ?_; clear h a; intro a h
          refine st_move h rfl rfl ?_; clear h a; intro a h
          refine st_idx (p := k) h rfl rfl ho.sl el22 (by omega) rfl hxk rfl ?_; clear h a; intro ad cc a h
          refine st_loadA h rfl cc ag36 rfl ?_; clear h a; intro a h
          refine st_call h (evs_cons rfl evs_nil) co29 (reftext_ok x1 _ p1 p2) rfl ?_; clear h a; rintro _ w7 ⟨rfl, hq⟩ a h
          replace hf := hf.next hq
          replace hy := hy.ext hq
          replace ho16 := ho16.ext hq
          replace ho17 := ho17.ext hq
          replace ho18 := ho18.ext hq
          replace ho := ho.ext hq
          clear hq
          refine st_adds h rfl rfl (by first | (simp; omega) | omega) rfl ?_; clear h a; intro a h
          refine st_assign h rfl rfl ?_; clear h a; intro a h
          replace h : Ag a 97 [(1, _), (2, _), (3, _), (4, _), (5, _), (7, _), (8, _)] := h.sub (.cons rfl (.cons rfl (.cons rfl (.cons rfl (.cons rfl (.cons rfl (.cons rfl .nil)))))))
          refine wpList_nil (norm_blk (norm_then ?_))
          refine wp_region_lit ?_
          refine st_move h rfl rfl ?_; clear h a; intro a h
          refine st_add h rfl rfl (by first | exact IntWalk.i64_in _ (by omega) | rfl) rfl ?_; clear h a; intro a h
          refine st_assign h rfl rfl ?_; clear h a; intro a h
          replace h : Ag a 97 [(1, _), (2, _), (3, _), (4, _), (5, _), (7, _), (8, _)] := h.sub (.cons rfl (.cons rfl (.cons rfl (.cons rfl (.cons rfl (.cons rfl (.cons rfl .nil)))))))
          refine wpList_nil (norm_then ?_)
          exact ⟨k + 1, h.sub (.cons rfl (.cons rfl (.cons rfl (.cons rfl (.cons rfl (.cons (by first | exact congrArg (fun l => some (S l)) (join_next hxk c3) | exact congrArg (fun l => some (S l)) (join_one hxk c3)) (.cons rfl .nil))))))), ⟨by omega, ho, ho16, ho17, ho18, hy, hf⟩, by omega⟩
        · refine id ?_
          refine wp_skip (norm_then ?_)
          refine wp_region_lit ?_
          refine st_move h rfl rfl ?_; clear h a; intro a h
          refine st_move h rfl rfl ?_; clear h a; intro a h
          refine st_move h rfl rfl ?_; clear h a; intro a h
          refine st_idx (p := k) h rfl rfl ho.sl el22 (by omega) rfl hxk rfl ?_; clear h a; intro ad cc a h
          refine st_loadA h rfl cc ag36 rfl ?_; clear h a; intro a h
          refine st_call h (evs_cons rfl evs_nil) co29 (reftext_ok x1 _ p1 p2) rfl ?_; clear h a; rintro _ w8 ⟨rfl, hq⟩ a h
          replace hf := hf.next hq
          replace hy := hy.ext hq
          replace ho16 := ho16.ext hq
          replace ho17 := ho17.ext hq
          replace ho18 := ho18.ext hq
          replace ho := ho.ext hq
          clear hq
          refine st_adds h rfl rfl (by first | (simp; omega) | omega) rfl ?_; clear h a; intro a h
          refine st_assign h rfl rfl ?_; clear h a; intro a h
          replace h : Ag a 97 [(1, _), (2, _), (3, _), (4, _), (5, _), (7, _), (8, _)] := h.sub (.cons rfl (.cons rfl (.cons rfl (.cons rfl (.cons rfl (.cons rfl (.cons rfl .nil)))))))
          refine wpList_nil (norm_blk (norm_then ?_))
          refine wp_region_lit ?_
          refine st_move h rfl rfl ?_; clear h a; intro a h
          refine st_add h rfl rfl (by first | exact IntWalk.i64_in _ (by omega) | rfl) rfl ?_; clear h a; intro a h
          refine st_assign h rfl rfl ?_; clear h a; intro a h
          replace h : Ag a 97 [(1, _), (2, _), (3, _), (4, _), (5, _), (7, _), (8, _)] := h.sub (.cons rfl (.cons rfl (.cons rfl (.cons rfl (.cons rfl (.cons rfl (.cons rfl .nil)))))))
          refine wpList_nil (norm_then ?_)
          exact ⟨k + 1, h.sub (.cons rfl (.cons rfl (.cons rfl (.cons rfl (.cons rfl (.cons (by first | exact congrArg (fun l => some (S l)) (join_next hxk c3) | exact congrArg (fun l => some (S l)) (join_one hxk c3)) (.cons rfl .nil))))))), ⟨by omega, ho, ho16, ho17, ho18, hy, hf⟩, by omega⟩
      · obtain rfl : k = xs.length := by omega
        refine wp_exit (exit_then (exit_then (exit_here (norm_then ?_))))
        refine wp_seq ?_
        refine wp_region_lit ?_
        refine st_move h rfl rfl ?_; clear h a; intro a h
        refine st_move h rfl rfl ?_; clear h a; intro a h
        refine st_move h rfl rfl ?_; clear h a; intro a h
        refine st_idx (p := i) h rfl rfl ho17.sl el48 (by omega) rfl (getD_get (show i < plainL.length by rw [show plainL.length = 8 from rfl]; omega) []) rfl ?_; clear h a; intro ad cc a h
        refine st_loadC0 h rfl cc na9 rfl ?_; clear h a; intro a h
        refine st_nes h rfl rfl rfl ?_; clear h a; intro a h
        replace h : Ag a 97 [(1, _), (2, _), (3, _), (4, _), (61, _)] := h.sub (.cons rfl (.cons rfl (.cons rfl (.cons rfl (.cons rfl .nil)))))
        refine wpList_nil (norm_then ?_)
        first | refine cond_dec h rfl (fun c4 => ?_) (fun c4 => ?_) | refine cond_ndec h rfl (fun c4 => ?_) (fun c4 => ?_) | refine cond_split h rfl (fun c4 => ?_) (fun c4 => ?_)
        · exact absurd e2 c4
        · refine id ?_
          refine wp_skip (norm_blk (norm_then ?_))
          refine wp_region_lit ?_
          refine st_move h rfl rfl ?_; clear h a; intro a h
          refine st_add h rfl rfl (by first | exact IntWalk.i64_in _ (by omega) | rfl) rfl ?_; clear h a; intro a h
          refine st_assign h rfl rfl ?_; clear h a; intro a h
          replace h : Ag a 97 [(1, _), (2, _), (3, _), (4, _)] := h.sub (.cons rfl (.cons rfl (.cons rfl (.cons rfl .nil))))
          refine wpList_nil (norm_then ?_)
          exact ⟨i + 1, h.sub (.cons rfl (.cons rfl (.cons rfl (.cons rfl .nil)))), ⟨by omega, ho16, ho17, ho18, hy, hf⟩, by omega⟩
  · refine id ?_
    refine wp_exit (exit_then (exit_then (exit_here (norm_then ?_))))
    refine wp_seq ?_
    refine wp_region_lit ?_
    refine st_bslice (longL) h (evs_cons rfl (evs_cons rfl (evs_cons rfl (evs_cons rfl (evs_cons rfl evs_nil))))) rfl rfl rfl el48 (by decide) rfl ?_; clear h a; intro g_62 w9 hg ho62 hq hz a h
    have hl62 : w0.heap.size ≤ g_62 := by have := hf.size; omega
    replace hf := hf.next hq
    replace hy := hy.ext hq
    replace ho16 := ho16.ext hq
    replace ho17 := ho17.ext hq
    replace ho18 := ho18.ext hq
    clear hq hz hg
    refine st_assign h rfl rfl ?_; clear h a; intro a h
    replace h : Ag a 97 [(9, _)] := h.sub (.cons rfl .nil)
    refine wpList_nil (norm_then ?_)
    refine wp_seq ?_
    refine wp_region_lit ?_
    refine st_bslice (shortL) h (evs_cons rfl (evs_cons rfl (evs_cons rfl (evs_cons rfl (evs_cons rfl evs_nil))))) rfl rfl rfl el48 (by decide) rfl ?_; clear h a; intro g_63 w10 hg ho63 hq hz a h
    have hl63 : w0.heap.size ≤ g_63 := by have := hf.size; omega
    replace hf := hf.next hq
    replace hy := hy.ext hq
    replace ho16 := ho16.ext hq
    replace ho17 := ho17.ext hq
    replace ho18 := ho18.ext hq
    replace ho62 := ho62.ext hq
    clear hq hz hg
    refine st_assign h rfl rfl ?_; clear h a; intro a h
    replace h : Ag a 97 [(9, _), (10, _)] := h.sub (.cons rfl (.cons rfl .nil))
    refine wpList_nil (norm_then ?_)
    refine wp_seq ?_
    refine wp_seq ?_
    refine wp_region_lit ?_
    refine st_assign h rfl rfl ?_; clear h a; intro a h
    refine wpList_nil (norm_then ?_)
    refine wp_block ?_
    refine loop (ι := Nat) (fun i => [(9, .slice (some ⟨g_62, 0, none⟩) 5 5), (10, .slice (some ⟨g_63, 0, none⟩) 5 5), (11, .int .i64 (i : Int))]) (fun i w' => i ≤ 5 ∧ Own Enc.str 9 g_62 w' (.slice (some ⟨g_62, 0, none⟩) 5 5) longL ∧ Own Enc.str 9 g_63 w' (.slice (some ⟨g_63, 0, none⟩) 5 5) shortL ∧ Sym w' ∧ Fr [] w0 w') (fun i => 5 - i) 0 (h.sub (.cons rfl (.cons rfl (.cons rfl .nil)))) ⟨by omega, ho62, ho63, hy, hf⟩ ?_
    clear h a ho62 ho63 hy hf
    rintro i w11 a h ⟨hi, ho62, ho63, hy, hf⟩
    refine wp_seq ?_
    refine wp_seq ?_
    refine wp_region_lit ?_
    refine st_move h rfl rfl ?_; clear h a; intro a h
    refine st_move h rfl rfl ?_; clear h a; intro a h
    refine st_lenS h rfl Tryd.underlying48 rfl ?_; clear h a; intro a h
    refine st_lt h rfl rfl rfl ?_; clear h a; intro a h
    replace h : Ag a 97 [(9, _), (10, _), (11, _), (67, _)] := h.sub (.cons rfl (.cons rfl (.cons rfl (.cons rfl .nil))))
    refine wpList_nil (norm_then ?_)
    first | refine cond_dec h rfl (fun c5 => ?_) (fun c5 => ?_) | refine cond_ndec h rfl (fun c5 => ?_) (fun c5 => ?_) | refine cond_split h rfl (fun c5 => ?_) (fun c5 => ?_)
    · obtain ⟨e1, e2⟩ := livesU i (by omega)
      have hln := livesM i (by omega)
      refine wp_skip (norm_then ?_)
      refine wp_seq ?_
      refine wp_block ?_
      refine wp_seq ?_
      refine wp_region_lit ?_
      refine st_move h rfl rfl ?_; clear h a; intro a h
      refine st_move h rfl rfl ?_; clear h a; intro a h
      refine st_idx (p := i) h rfl rfl ho62.sl el48 (by omega) rfl (getD_get (show i < longL.length by rw [show longL.length = 5 from rfl]; omega) []) rfl ?_; clear h a; intro ad cc a h
      refine st_loadC0 h rfl cc na9 rfl ?_; clear h a; intro a h
      refine st_call h (evs_cons rfl evs_nil) co10 (expand_ok _ _ hy (by omega)) rfl ?_; clear h a; rintro _ w12 ⟨x, c, rfl, hc, ho, hq⟩ a h
      replace hf := hf.next hq
      replace hy := hy.ext hq
      replace ho62 := ho62.ext hq
      replace ho63 := ho63.ext hq
      clear hq
      rw [e1] at h
      refine st_move h rfl rfl ?_; clear h a; intro a h
      refine st_extract h rfl rfl rfl ?_; clear h a; intro a h
      refine st_extract h rfl rfl rfl ?_; clear h a; intro a h
      refine st_assign h rfl rfl ?_; clear h a; intro a h
      refine st_assign h rfl rfl ?_; clear h a; intro a h
      replace h : Ag a 97 [(9, _), (10, _), (11, _), (12, _), (13, _)] := h.sub (.cons rfl (.cons rfl (.cons rfl (.cons rfl (.cons rfl .nil)))))
      refine wpList_nil (norm_then ?_)
      refine wp_seq ?_
      refine wp_region_lit ?_
      refine st_move h rfl rfl ?_; clear h a; intro a h
      refine st_call h (evs_cons rfl evs_nil) co14 (shorten_ok _ _ _ ho.sl hy) rfl ?_; clear h a; rintro _ w13 ⟨rfl, hq⟩ a h
      replace hf := hf.next hq
      replace hy := hy.ext hq
      replace ho62 := ho62.ext hq
      replace ho63 := ho63.ext hq
      replace ho := ho.ext hq
      clear hq
      rw [e2] at h
      refine st_move h rfl rfl ?_; clear h a; intro a h
      refine st_extract h rfl rfl rfl ?_; clear h a; intro a h
      refine st_extract h rfl rfl rfl ?_; clear h a; intro a h
      refine st_assign h rfl rfl ?_; clear h a; intro a h
      refine st_assign h rfl rfl ?_; clear h a; intro a h
      replace h : Ag a 97 [(9, _), (10, _), (11, _), (13, _), (14, _), (15, _)] := h.sub (.cons rfl (.cons rfl (.cons rfl (.cons rfl (.cons rfl (.cons rfl .nil))))))
      refine wpList_nil (norm_then ?_)
      refine wp_seq ?_
      refine wp_region_lit ?_
      refine st_move h rfl rfl ?_; clear h a; intro a h
      refine st_ne h rfl rfl rfl ?_; clear h a; intro a h
      refine st_move h rfl rfl ?_; clear h a; intro a h
      first | refine guard_dec (D := 85) h rfl ?_ ?_ | refine guard_ndec (D := 85) h rfl ?_ ?_ | refine guard_any (D := 85) h rfl ?_ ?_
      · clear h; intro g0 h
        refine gd_no h rfl rfl rfl rfl rfl rfl rfl rfl ?_; clear h a; intro a h
        refine gd_no h rfl rfl rfl rfl rfl rfl rfl rfl ?_; clear h a; intro a h
        refine st_pick_t h rfl rfl rfl rfl ?_; clear h a; intro a h
        refine st_move h rfl rfl ?_; clear h a; intro a h
        refine gd_no h rfl rfl rfl rfl rfl rfl rfl rfl ?_; clear h a; intro a h
        refine gd_no h rfl rfl rfl rfl rfl rfl rfl rfl ?_; clear h a; intro a h
        refine gd_no h rfl rfl rfl rfl rfl rfl rfl rfl ?_; clear h a; intro a h
        refine gd_no h rfl rfl rfl rfl rfl rfl rfl rfl ?_; clear h a; intro a h
        refine gd_no h rfl rfl rfl rfl rfl rfl rfl rfl ?_; clear h a; intro a h
        refine gd_no h rfl rfl rfl rfl rfl rfl rfl rfl ?_; clear h a; intro a h
        refine st_pick_t h rfl rfl rfl rfl ?_; clear h a; intro a h
        replace h : Ag a 97 [(9, _), (10, _), (11, _), (86, _), (87, _), (90, _), (91, _), (92, _), (93, _), (94, _), (95, _), (96, _)] := h.sub (.cons rfl (.cons rfl (.cons rfl (.cons rfl (.cons rfl (.cons rfl (.cons rfl (.cons rfl (.cons rfl (.cons rfl (.cons rfl (.cons rfl .nil))))))))))))
        refine wpList_nil (norm_then ?_)
        refine cond_true h rfl ?_
        refine wp_seq ?_
        refine wp_region_lit ?_
        refine st_assign h rfl rfl ?_; clear h a; intro a h
        replace h : Ag a 97 [(0, _)] := h.sub (.cons rfl .nil)
        refine wpList_nil (norm_then ?_)
        refine wp_ret (ret_blk (ret_then (ret_then (ret_blk (ret_then ?_)))))
        refine ret1 h Tryd.results12 rfl ?_
        first | exact ⟨_, rfl, rfl, hf⟩ | (exfalso; first | omega | simp_all)
      · clear h; intro g0 h
        refine gd_yes h rfl rfl rfl rfl rfl rfl ?_
        refine st_move h rfl rfl ?_; clear h a; intro a h
        refine gd_yes h rfl rfl rfl rfl rfl rfl ?_
        refine st_ne h rfl rfl rfl ?_; clear h a; intro a h
        refine st_pick_f h rfl rfl rfl rfl ?_; clear h a; intro a h
        refine st_move h rfl rfl ?_; clear h a; intro a h
        first | refine guard_dec (D := 89) h rfl ?_ ?_ | refine guard_ndec (D := 89) h rfl ?_ ?_ | refine guard_any (D := 89) h rfl ?_ ?_
        · clear h; intro g1 h
          refine gd_no h rfl rfl rfl rfl rfl rfl rfl rfl ?_; clear h a; intro a h
          refine gd_no h rfl rfl rfl rfl rfl rfl rfl rfl ?_; clear h a; intro a h
          refine gd_no h rfl rfl rfl rfl rfl rfl rfl rfl ?_; clear h a; intro a h
          refine gd_no h rfl rfl rfl rfl rfl rfl rfl rfl ?_; clear h a; intro a h
          refine gd_no h rfl rfl rfl rfl rfl rfl rfl rfl ?_; clear h a; intro a h
          refine gd_no h rfl rfl rfl rfl rfl rfl rfl rfl ?_; clear h a; intro a h
          refine st_pick_t h rfl rfl rfl rfl ?_; clear h a; intro a h
          replace h : Ag a 97 [(9, _), (10, _), (11, _), (86, _), (87, _), (90, _), (91, _), (92, _), (93, _), (94, _), (95, _), (96, _)] := h.sub (.cons rfl (.cons rfl (.cons rfl (.cons rfl (.cons rfl (.cons rfl (.cons rfl (.cons rfl (.cons rfl (.cons rfl (.cons rfl (.cons rfl .nil))))))))))))
          refine wpList_nil (norm_then ?_)
          refine cond_true h rfl ?_
          refine wp_seq ?_
          refine wp_region_lit ?_
          refine st_assign h rfl rfl ?_; clear h a; intro a h
          replace h : Ag a 97 [(0, _)] := h.sub (.cons rfl .nil)
          refine wpList_nil (norm_then ?_)
          refine wp_ret (ret_blk (ret_then (ret_then (ret_blk (ret_then ?_)))))
          refine ret1 h Tryd.results12 rfl ?_
          first | exact ⟨_, rfl, rfl, hf⟩ | (exfalso; first | omega | simp_all)
        · clear h; intro g1 h
          refine gd_yes h rfl rfl rfl rfl rfl rfl ?_
          refine st_move h rfl rfl ?_; clear h a; intro a h
          refine gd_yes h rfl rfl rfl rfl rfl rfl ?_
          refine st_move h rfl rfl ?_; clear h a; intro a h
          refine gd_yes h rfl rfl rfl rfl rfl rfl ?_
          refine st_move h rfl rfl ?_; clear h a; intro a h
          refine gd_yes h rfl rfl rfl rfl rfl rfl ?_
          refine st_idx (p := i) h rfl rfl ho63.sl el48 (by omega) rfl (getD_get (show i < shortL.length by rw [show shortL.length = 5 from rfl]; omega) []) rfl ?_; clear h a; intro ad cc a h
          refine gd_yes h rfl rfl rfl rfl rfl rfl ?_
          refine st_loadC0 h rfl cc na9 rfl ?_; clear h a; intro a h
          refine gd_yes h rfl rfl rfl rfl rfl rfl ?_
          refine st_nes h rfl rfl rfl ?_; clear h a; intro a h
          refine st_pick_f h rfl rfl rfl rfl ?_; clear h a; intro a h
          replace h : Ag a 97 [(9, _), (10, _), (11, _), (86, _), (87, _), (90, _), (91, _), (92, _), (93, _), (94, _), (95, _), (96, _)] := h.sub (.cons rfl (.cons rfl (.cons rfl (.cons rfl (.cons rfl (.cons rfl (.cons rfl (.cons rfl (.cons rfl (.cons rfl (.cons rfl (.cons rfl .nil))))))))))))
          refine wpList_nil (norm_then ?_)
          first | refine cond_dec h rfl (fun c6 => ?_) (fun c6 => ?_) | refine cond_ndec h rfl (fun c6 => ?_) (fun c6 => ?_) | refine cond_split h rfl (fun c6 => ?_) (fun c6 => ?_)
          · refine id ?_
            refine wp_seq ?_
            refine wp_region_lit ?_
            refine st_assign h rfl rfl ?_; clear h a; intro a h
            replace h : Ag a 97 [(0, _)] := h.sub (.cons rfl .nil)
            refine wpList_nil (norm_then ?_)
            refine wp_ret (ret_blk (ret_then (ret_then (ret_blk (ret_then ?_)))))
            refine ret1 h Tryd.results12 rfl ?_
            first | exact ⟨_, rfl, rfl, hf⟩ | (exfalso; first | omega | simp_all)
          · refine id ?_
            refine wp_skip (norm_blk (norm_then ?_))
            refine wp_region_lit ?_
            refine st_move h rfl rfl ?_; clear h a; intro a h
            refine st_add h rfl rfl (by first | exact IntWalk.i64_in _ (by omega) | rfl) rfl ?_; clear h a; intro a h
            refine st_assign h rfl rfl ?_; clear h a; intro a h
            replace h : Ag a 97 [(9, _), (10, _), (11, _), (86, _), (87, _), (90, _), (91, _), (92, _), (93, _), (94, _), (95, _)] := h.sub (.cons rfl (.cons rfl (.cons rfl (.cons rfl (.cons rfl (.cons rfl (.cons rfl (.cons rfl (.cons rfl (.cons rfl (.cons rfl .nil)))))))))))
            refine wpList_nil (norm_then ?_)
            exact ⟨i + 1, h.sub (.cons rfl (.cons rfl (.cons rfl .nil))), ⟨by omega, ho62, ho63, hy, hf⟩, by omega⟩
    · refine id ?_
      refine wp_exit (exit_then (exit_then (exit_here (norm_then ?_))))
      refine wp_seq ?_
      refine wp_region_lit ?_
      refine st_assign h rfl rfl ?_; clear h a; intro a h
      replace h : Ag a 97 [(0, _)] := h.sub (.cons rfl .nil)
      refine wpList_nil (norm_then ?_)
      refine wp_ret ?_
      refine ret1 h Tryd.results12 rfl ?_
      first | exact ⟨_, rfl, rfl, hf⟩ | (exfalso; first | omega | simp_all)
end Go.Proofs.YtbbnampdgefljaaDoor
