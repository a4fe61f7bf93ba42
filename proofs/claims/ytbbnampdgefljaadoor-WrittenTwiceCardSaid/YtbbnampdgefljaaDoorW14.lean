/- Walks. -/
import Derived.Test.YtbbnampdgefljaaDoorRows
import Derived.Test.YtbbnampdgefljaaDoorW13
import Derived.Test.YtbbnampdgefljaaDoorFactsC
import Derived.Test.YtbbnampdgefljaaDoorXRowOf
import Derived.Test.YtbbnampdgefljaaDoorXMake
set_option linter.unusedVariables false
set_option linter.unusedSimpArgs false
namespace Go.Proofs.YtbbnampdgefljaaDoor
open Go.Lw Go.G14
theorem sz9 : SizeOf Tryd.prog 9 1 := fun _ => by kernel_rfl
set_option maxHeartbeats 4000000 in
theorem refshort_ok (u : Value) (xs : List Stitch) (w0 : World) (hu : Sl encSt w0 u xs) (hok : xs.all okB = true) (hn : 1 ≤ xs.length) (hm : xs.length ≤ 16) : Rets Tryd.prog 16 #[u] w0 fun v w' => v = S (shortS xs) ∧ Fr [] w0 w' := by
  have hrb := hu.blk (by intro e; subst e; simp at hn)
  obtain ⟨A, c, rfl, hc⟩ := hu.form
  have hs := hu
  obtain ⟨-, -, hM, hA⟩ := Sl.open_ hu
  unfold maxLen at hM
  obtain ⟨N, hN⟩ : ∃ N, N = (xs.length + 1) * (xs.length + 1) := ⟨_, rfl⟩
  have hN2 : N ≤ 289 := by rw [hN]; exact Nat.mul_le_mul (show xs.length + 1 ≤ 17 by omega) (show xs.length + 1 ≤ 17 by omega)
  refine enter [(0, .slice A xs.length c)] Tryd.func16 rfl Tryd.ntmps16 rfl (.cons rfl .nil) ?_
  have hf := Fr.refl [] w0
  intro a h
  refine wp_seq ?_
  refine wp_region_lit ?_
  refine st_assign h rfl rfl ?_; clear h a; intro a h
  replace h : Ag a 151 [(0, _)] := h.sub (.cons rfl .nil)
  refine wpList_nil (norm_then ?_)
  refine wp_seq ?_
  refine wp_region_lit ?_
  refine st_move h rfl rfl ?_; clear h a; intro a h
  refine st_lenS h rfl Tryd.underlying22 rfl ?_; clear h a; intro a h
  refine st_assign h rfl rfl ?_; clear h a; intro a h
  replace h : Ag a 151 [(0, _), (3, _)] := h.sub (.cons rfl (.cons rfl .nil))
  refine wpList_nil (norm_then ?_)
  refine wp_seq ?_
  refine wp_region_lit ?_
  refine st_move h rfl rfl ?_; clear h a; intro a h
  refine st_add h rfl rfl (by first | exact IntWalk.i64_in _ (by omega) | rfl) rfl ?_; clear h a; intro a h
  refine st_move h rfl rfl ?_; clear h a; intro a h
  refine st_add h rfl rfl (by first | exact IntWalk.i64_in _ (by omega) | rfl) rfl ?_; clear h a; intro a h
  refine st_mul (z := (N : Int)) h rfl rfl (by rw [show ((xs.length : Int) + 1) * ((xs.length : Int) + 1) = (N : Int) by rw [hN]; push_cast; rfl]; exact IntWalk.i64_in _ (by omega)) rfl ?_; clear h a; intro a h
  refine st_makeSlice ([] : List UInt8) h rfl rfl el48 zv9 rfl (Nat.le_refl _) (by omega) (by unfold maxLen; omega) rfl ?_; clear h a; intro gT w1 hg hO hq hz a h
  have hgT : w0.heap.size ≤ gT := by have := hf.size; omega
  replace hO := hO.low hgT
  replace hf := hf.next hq
  replace hs := hs.ext hq
  clear hq hz hg
  refine st_assign h rfl rfl ?_; clear h a; intro a h
  replace h : Ag a 151 [(0, _), (3, _), (4, _)] := h.sub (.cons rfl (.cons rfl (.cons rfl .nil)))
  refine wpList_nil (norm_then ?_)
  refine wp_seq ?_
  refine wp_seq ?_
  refine wp_region_lit ?_
  refine st_assign h rfl rfl ?_; clear h a; intro a h
  refine wpList_nil (norm_then ?_)
  refine wp_block ?_
  refine loop (ι := Nat × List (List UInt8)) (fun z => [(0, .slice A xs.length c), (3, .int .i64 (xs.length : Int)), (4, .slice (some ⟨gT, 0, none⟩) N N), (5, .int .i64 (z.1 : Int))]) (fun z w' => 1 ≤ z.1 ∧ z.1 ≤ xs.length + 1 ∧ Own Enc.str 9 w0.heap.size w' (.slice (some ⟨gT, 0, none⟩) N N) z.2 ∧ Filled xs z.1 0 z.2 ∧ Sl encSt w' (.slice A xs.length c) xs ∧ Fr [] w0 w') (fun z => xs.length + 1 - z.1) (1, List.replicate N []) (h.sub (.cons rfl (.cons rfl (.cons rfl (.cons rfl .nil))))) ⟨by simp, by simp only; omega, hO, by rw [hN]; exact fill_start xs, hs, hf⟩ ?_
  clear h a hO hs hf
  rintro ⟨L, tab⟩ w2 a h ⟨hL1, hL2, hO, hfl, hs, hf⟩
  simp only at hL1 hL2 hO hfl h
  refine wp_seq ?_
  refine wp_seq ?_
  refine wp_region_lit ?_
  refine st_move h rfl rfl ?_; clear h a; intro a h
  refine st_move h rfl rfl ?_; clear h a; intro a h
  refine st_le h rfl rfl rfl ?_; clear h a; intro a h
  replace h : Ag a 151 [(0, _), (3, _), (4, _), (5, _), (26, _)] := h.sub (.cons rfl (.cons rfl (.cons rfl (.cons rfl (.cons rfl .nil)))))
  refine wpList_nil (norm_then ?_)
  first | refine cond_dec h rfl (fun c0 => ?_) (fun c0 => ?_) | refine cond_ndec h rfl (fun c0 => ?_) (fun c0 => ?_) | refine cond_split h rfl (fun c0 => ?_) (fun c0 => ?_)
  · refine id ?_
    refine wp_skip (norm_then ?_)
    refine wp_seq ?_
    refine wp_block ?_
    refine wp_seq ?_
    refine wp_region_lit ?_
    refine st_assign h rfl rfl ?_; clear h a; intro a h
    replace h : Ag a 151 [(0, _), (3, _), (4, _), (5, _), (6, _)] := h.sub (.cons rfl (.cons rfl (.cons rfl (.cons rfl (.cons rfl .nil)))))
    refine wpList_nil (norm_then ?_)
    refine wp_block ?_
    refine loop (ι := Nat × List (List UInt8)) (fun z => [(0, .slice A xs.length c), (3, .int .i64 (xs.length : Int)), (4, .slice (some ⟨gT, 0, none⟩) N N), (5, .int .i64 (L : Int)), (6, .int .i64 (z.1 : Int))]) (fun z w' => z.1 ≤ xs.length + 1 - L ∧ Own Enc.str 9 w0.heap.size w' (.slice (some ⟨gT, 0, none⟩) N N) z.2 ∧ Filled xs L z.1 z.2 ∧ Sl encSt w' (.slice A xs.length c) xs ∧ Fr [] w0 w') (fun z => xs.length + 1 - z.1) (0, tab) (h.sub (.cons rfl (.cons rfl (.cons rfl (.cons rfl (.cons rfl .nil)))))) ⟨by simp, hO, hfl, hs, hf⟩ ?_
    clear h a hO hs hf hfl
    rintro ⟨i, tab⟩ w3 a h ⟨hiL, hO, hfl, hs, hf⟩
    simp only at hiL hO hfl h
    refine wp_seq ?_
    refine wp_seq ?_
    refine wp_region_lit ?_
    refine st_move h rfl rfl ?_; clear h a; intro a h
    refine st_move h rfl rfl ?_; clear h a; intro a h
    refine st_add h rfl rfl (by first | exact IntWalk.i64_in _ (by omega) | rfl) rfl ?_; clear h a; intro a h
    refine st_move h rfl rfl ?_; clear h a; intro a h
    refine st_le h rfl rfl rfl ?_; clear h a; intro a h
    replace h : Ag a 151 [(0, _), (3, _), (4, _), (5, _), (6, _), (33, _)] := h.sub (.cons rfl (.cons rfl (.cons rfl (.cons rfl (.cons rfl (.cons rfl .nil))))))
    refine wpList_nil (norm_then ?_)
    first | refine cond_dec h rfl (fun c1 => ?_) (fun c1 => ?_) | refine cond_ndec h rfl (fun c1 => ?_) (fun c1 => ?_) | refine cond_split h rfl (fun c1 => ?_) (fun c1 => ?_)
    · refine id ?_
      refine wp_skip (norm_then ?_)
      refine wp_seq ?_
      refine wp_block ?_
      refine wp_seq ?_
      refine wp_region_lit ?_
      refine st_assign h rfl rfl ?_; clear h a; intro a h
      replace h : Ag a 151 [(0, _), (3, _), (4, _), (5, _), (6, _), (7, _)] := h.sub (.cons rfl (.cons rfl (.cons rfl (.cons rfl (.cons rfl (.cons rfl .nil))))))
      refine wpList_nil (norm_then ?_)
      refine seq_cut (Cut (ι := Unit) 151 (fun u => [(0, .slice A xs.length c), (3, .int .i64 (xs.length : Int)), (4, .slice (some ⟨gT, 0, none⟩) N N), (5, .int .i64 (L : Int)), (6, .int .i64 (i : Int)), (7, S (refTo xs i L 0))]) (fun u w' => Own Enc.str 9 w0.heap.size w' (.slice (some ⟨gT, 0, none⟩) N N) tab ∧ Filled xs L i tab ∧ Sl encSt w' (.slice A xs.length c) xs ∧ Fr [] w0 w')) ?_ ?_
      · refine id ?_
        refine wp_seq ?_
        refine wp_region_lit ?_
        refine st_move h rfl rfl ?_; clear h a; intro a h
        refine st_eq h rfl rfl rfl ?_; clear h a; intro a h
        replace h : Ag a 151 [(0, _), (3, _), (4, _), (5, _), (6, _), (7, _), (37, _)] := h.sub (.cons rfl (.cons rfl (.cons rfl (.cons rfl (.cons rfl (.cons rfl (.cons rfl .nil)))))))
        refine wpList_nil (norm_then ?_)
        first | refine cond_dec h rfl (fun c2 => ?_) (fun c2 => ?_) | refine cond_ndec h rfl (fun c2 => ?_) (fun c2 => ?_) | refine cond_split h rfl (fun c2 => ?_) (fun c2 => ?_)
        · obtain ⟨x, hxi⟩ : ∃ x, xs[i]? = some x := ⟨_, List.getElem?_eq_getElem (by omega)⟩
          obtain ⟨ad, hAd, ca⟩ := hA i x hxi
          obtain ⟨p1, p2⟩ := okB_pos (List.all_eq_true.1 hok x (List.mem_of_getElem? hxi))
          refine wp_region_lit ?_
          refine st_move h rfl rfl ?_; clear h a; intro a h
          refine st_move h rfl rfl ?_; clear h a; intro a h
          refine st_idxS h (by rw [hAd]; rfl) rfl el22 (by omega) (by omega) rfl rfl ?_; clear h a; intro a h
          refine st_loadA h rfl (ca.fr hf (by simp)) ag36 rfl ?_; clear h a; intro a h
          refine st_call h (evs_cons rfl evs_nil) co29 (reftext_ok x _ p1 p2) rfl ?_; clear h a; rintro _ w4 ⟨rfl, hq⟩ a h
          replace hf := hf.next hq
          replace hO := hO.ext hq
          replace hs := hs.ext hq
          clear hq
          refine st_assign h rfl rfl ?_; clear h a; intro a h
          replace h : Ag a 151 [(0, _), (3, _), (4, _), (5, _), (6, _), (7, _)] := h.sub (.cons rfl (.cons rfl (.cons rfl (.cons rfl (.cons rfl (.cons rfl .nil))))))
          refine wpList_nil (norm_then ?_)
          exact ⟨(), h.sub (.cons rfl (.cons rfl (.cons rfl (.cons rfl (.cons rfl (.cons (by first | (rw [refTo, if_pos (by omega), List.getD, hxi]; rfl) | (rw [refTo, if_neg (by omega)]; rfl)) .nil)))))), hO, hfl, hs, hf⟩
        · refine id ?_
          refine wp_skip (norm_then ?_)
          exact ⟨(), h.sub (.cons rfl (.cons rfl (.cons rfl (.cons rfl (.cons rfl (.cons (by first | (rw [refTo, if_pos (by omega), List.getD, hxi]; rfl) | (rw [refTo, if_neg (by omega)]; rfl)) .nil)))))), hO, hfl, hs, hf⟩
      · clear h a hO hs hf hfl
        rintro a w5 ⟨u, h, ⟨hO, hfl, hs, hf⟩⟩
        refine wp_seq ?_
        refine wp_seq ?_
        refine wp_region_lit ?_
        refine st_assign h rfl rfl ?_; clear h a; intro a h
        refine wpList_nil (norm_then ?_)
        refine wp_block ?_
        refine loop (ι := Nat) (fun k => [(0, .slice A xs.length c), (3, .int .i64 (xs.length : Int)), (4, .slice (some ⟨gT, 0, none⟩) N N), (5, .int .i64 (L : Int)), (6, .int .i64 (i : Int)), (7, S (refTo xs i L k)), (8, .int .i64 ((k : Int) + 1))]) (fun k w' => k ≤ L - 1 ∧ Own Enc.str 9 w0.heap.size w' (.slice (some ⟨gT, 0, none⟩) N N) tab ∧ Filled xs L i tab ∧ Sl encSt w' (.slice A xs.length c) xs ∧ Fr [] w0 w') (fun k => L - k) 0 (h.sub (.cons rfl (.cons rfl (.cons rfl (.cons rfl (.cons rfl (.cons rfl (.cons rfl .nil)))))))) ⟨by omega, hO, hfl, hs, hf⟩ ?_
        clear h a hO hs hf hfl
        rintro k w6 a h ⟨hk, hO, hfl, hs, hf⟩
        have hix1 : i * (xs.length + 1) ≤ 16 * 17 := Nat.mul_le_mul (show i ≤ 16 by omega) (show xs.length + 1 ≤ 17 by omega)
        have hix := idx_lt (n := xs.length) (a := i) (m := L) (by omega)
        rw [← hN] at hix
        refine wp_seq ?_
        refine wp_seq ?_
        refine wp_region_lit ?_
        refine st_move h rfl rfl ?_; clear h a; intro a h
        refine st_move h rfl rfl ?_; clear h a; intro a h
        refine st_lt h rfl rfl rfl ?_; clear h a; intro a h
        replace h : Ag a 151 [(0, _), (3, _), (4, _), (5, _), (6, _), (7, _), (8, _), (45, _)] := h.sub (.cons rfl (.cons rfl (.cons rfl (.cons rfl (.cons rfl (.cons rfl (.cons rfl (.cons rfl .nil))))))))
        refine wpList_nil (norm_then ?_)
        first | refine cond_dec h rfl (fun c3 => ?_) (fun c3 => ?_) | refine cond_ndec h rfl (fun c3 => ?_) (fun c3 => ?_) | refine cond_split h rfl (fun c3 => ?_) (fun c3 => ?_)
        · have hTi : (bT xs i (k + 1)).length ≤ _ := (T_len xs i (k + 1) (by omega)).2
          have hTr : (bT xs (i + (k + 1)) (L - (k + 1))).length ≤ _ := (T_len xs (i + (k + 1)) (L - (k + 1)) (by omega)).2
          have hix2 : (i + (k + 1)) * (xs.length + 1) ≤ 16 * 17 := Nat.mul_le_mul (show i + (k + 1) ≤ 16 by omega) (show xs.length + 1 ≤ 17 by omega)
          have hix3 := idx_lt (n := xs.length) (a := i + (k + 1)) (m := L - (k + 1)) (by omega)
          rw [← hN] at hix3
          refine wp_skip (norm_then ?_)
          refine wp_seq ?_
          refine wp_block ?_
          refine wp_seq ?_
          refine wp_region_lit ?_
          refine st_move h rfl rfl ?_; clear h a; intro a h
          refine st_move h rfl rfl ?_; clear h a; intro a h
          refine st_move h rfl rfl ?_; clear h a; intro a h
          refine st_add h rfl rfl (by first | exact IntWalk.i64_in _ (by omega) | rfl) rfl ?_; clear h a; intro a h
          refine st_mul (z := ((i * (xs.length + 1) : Nat) : Int)) h rfl rfl (by rw [show ((i : Int)) * ((xs.length : Int) + 1) = ((i * (xs.length + 1) : Nat) : Int) by push_cast; rfl]; exact IntWalk.i64_in _ (by have : i * (xs.length + 1) ≤ 16 * 17 := Nat.mul_le_mul (show i ≤ 16 by omega) (show xs.length + 1 ≤ 17 by omega); omega)) rfl ?_; clear h a; intro a h
          refine st_move h rfl rfl ?_; clear h a; intro a h
          refine st_add h rfl rfl (by first | exact IntWalk.i64_in _ (by omega) | rfl) rfl ?_; clear h a; intro a h
          refine st_move h rfl rfl ?_; clear h a; intro a h
          refine st_add h rfl rfl (by first | exact IntWalk.i64_in _ (by omega) | rfl) rfl ?_; clear h a; intro a h
          refine st_idx (p := i * (xs.length + 1) + i + (k + 1)) h rfl rfl hO.sl el48 (by omega) (by omega) (hfl.2 (i) ((k + 1)) (by omega) (by omega) (by omega)) rfl ?_; clear h a; intro ad cc a h
          refine st_loadC0 h rfl cc na9 rfl ?_; clear h a; intro a h
          refine st_assign h rfl rfl ?_; clear h a; intro a h
          replace h : Ag a 151 [(0, _), (3, _), (4, _), (5, _), (6, _), (7, _), (8, _), (9, _)] := h.sub (.cons rfl (.cons rfl (.cons rfl (.cons rfl (.cons rfl (.cons rfl (.cons rfl (.cons rfl .nil))))))))
          refine wpList_nil (norm_then ?_)
          refine wp_seq ?_
          refine wp_region_lit ?_
          refine st_move h rfl rfl ?_; clear h a; intro a h
          refine st_adds h rfl rfl (by first | (simp; done) | (simp; omega)) rfl ?_; clear h a; intro a h
          refine st_move h rfl rfl ?_; clear h a; intro a h
          refine st_move h rfl rfl ?_; clear h a; intro a h
          refine st_move h rfl rfl ?_; clear h a; intro a h
          refine st_add h rfl rfl (by first | exact IntWalk.i64_in _ (by omega) | rfl) rfl ?_; clear h a; intro a h
          refine st_move h rfl rfl ?_; clear h a; intro a h
          refine st_add h rfl rfl (by first | exact IntWalk.i64_in _ (by omega) | rfl) rfl ?_; clear h a; intro a h
          refine st_mul (z := (((i + (k + 1)) * (xs.length + 1) : Nat) : Int)) h rfl rfl (by rw [show ((i : Int) + ((k : Int) + 1)) * ((xs.length : Int) + 1) = (((i + (k + 1)) * (xs.length + 1) : Nat) : Int) by push_cast; rfl]; exact IntWalk.i64_in _ (by have : (i + (k + 1)) * (xs.length + 1) ≤ 16 * 17 := Nat.mul_le_mul (show (i + (k + 1)) ≤ 16 by omega) (show xs.length + 1 ≤ 17 by omega); omega)) rfl ?_; clear h a; intro a h
          refine st_move h rfl rfl ?_; clear h a; intro a h
          refine st_add h rfl rfl (by first | exact IntWalk.i64_in _ (by omega) | rfl) rfl ?_; clear h a; intro a h
          refine st_move h rfl rfl ?_; clear h a; intro a h
          refine st_add h rfl rfl (by first | exact IntWalk.i64_in _ (by omega) | rfl) rfl ?_; clear h a; intro a h
          refine st_idx (p := (i + (k + 1)) * (xs.length + 1) + (i + (k + 1)) + (L - (k + 1))) h rfl rfl hO.sl el48 (by omega) (by omega) (hfl.2 (i + (k + 1)) (L - (k + 1)) (by omega) (by omega) (by omega)) rfl ?_; clear h a; intro ad cc a h
          refine st_loadC0 h rfl cc na9 rfl ?_; clear h a; intro a h
          refine st_adds h rfl rfl (by first | (simp; done) | (simp; omega)) rfl ?_; clear h a; intro a h
          refine st_assign h rfl rfl ?_; clear h a; intro a h
          replace h : Ag a 151 [(0, _), (3, _), (4, _), (5, _), (6, _), (7, _), (8, _), (9, _), (10, _)] := h.sub (.cons rfl (.cons rfl (.cons rfl (.cons rfl (.cons rfl (.cons rfl (.cons rfl (.cons rfl (.cons rfl .nil)))))))))
          refine wpList_nil (norm_then ?_)
          refine seq_cut (Cut (ι := Unit) 151 (fun u => [(0, .slice A xs.length c), (3, .int .i64 (xs.length : Int)), (4, .slice (some ⟨gT, 0, none⟩) N N), (5, .int .i64 (L : Int)), (6, .int .i64 (i : Int)), (7, S (betterS (refTo xs i L k) (bothT xs i L (k + 1)))), (8, .int .i64 ((k : Int) + 1)), (9, S (bT xs i (k + 1)))]) (fun u w' => Own Enc.str 9 w0.heap.size w' (.slice (some ⟨gT, 0, none⟩) N N) tab ∧ Filled xs L i tab ∧ Sl encSt w' (.slice A xs.length c) xs ∧ Fr [] w0 w')) ?_ ?_
          · refine id ?_
            refine wp_seq ?_
            refine region_bool (r := 82) (L' := [(0, _), (3, _), (4, _), (5, _), (6, _), (7, _), (8, _), (9, _), (10, _)]) (refTo xs i L k = [] ∨ lessP (bothT xs i L (k + 1)) (refTo xs i L k)) h (.cons rfl (.cons rfl (.cons rfl (.cons rfl (.cons rfl (.cons rfl (.cons rfl (.cons rfl (.cons rfl .nil))))))))) ?_ ?_
            · refine id ?_
              refine st_move h rfl rfl ?_; clear h a; intro a h
              refine st_eqs h rfl rfl rfl ?_; clear h a; intro a h
              refine st_move h rfl rfl ?_; clear h a; intro a h
              first | refine guard_dec (D := 77) h rfl ?_ ?_ | refine guard_ndec (D := 77) h rfl ?_ ?_ | refine guard_any (D := 77) h rfl ?_ ?_
              · clear h; intro g0 h
                refine gd_no h rfl rfl rfl rfl rfl rfl rfl rfl ?_; clear h a; intro a h
                refine gd_no h rfl rfl rfl rfl rfl rfl rfl rfl ?_; clear h a; intro a h
                refine gd_no h rfl rfl rfl rfl rfl rfl rfl rfl ?_; clear h a; intro a h
                refine gd_no h rfl rfl rfl rfl rfl rfl rfl rfl ?_; clear h a; intro a h
                refine st_pick_t h rfl rfl rfl rfl ?_; clear h a; intro a h
                exact wpList_nil (bool_end h rfl (by first | exact bt (.inl (by assumption)) | exact bi (by constructor; intro e; split at e; exact .inr (by assumption); omega; rintro (e | e); exact absurd e (by assumption); rw [if_pos e])) (.cons rfl (.cons rfl (.cons rfl (.cons rfl (.cons rfl (.cons rfl (.cons rfl (.cons rfl (.cons rfl .nil))))))))))
              · clear h; intro g0 h
                refine gd_yes h rfl rfl rfl rfl rfl rfl ?_
                refine st_move h rfl rfl ?_; clear h a; intro a h
                refine gd_yes h rfl rfl rfl rfl rfl rfl ?_
                refine st_move h rfl rfl ?_; clear h a; intro a h
                refine gd_yes h rfl rfl rfl rfl rfl rfl ?_
                refine st_call h (evs_cons rfl (evs_cons rfl evs_nil)) co17 (less_ok _ _ _) rfl ?_; clear h a; rintro _ _ ⟨rfl, rfl⟩ a h
                refine gd_yes h rfl rfl rfl rfl rfl rfl ?_
                refine st_eq h rfl rfl rfl ?_; clear h a; intro a h
                refine st_pick_f h rfl rfl rfl rfl ?_; clear h a; intro a h
                exact wpList_nil (bool_end h rfl (by first | exact bt (.inl (by assumption)) | exact bi (by constructor; intro e; split at e; exact .inr (by assumption); omega; rintro (e | e); exact absurd e (by assumption); rw [if_pos e])) (.cons rfl (.cons rfl (.cons rfl (.cons rfl (.cons rfl (.cons rfl (.cons rfl (.cons rfl (.cons rfl .nil))))))))))
            · clear h a; intro a h
              refine (norm_then ?_)
              first | refine cond_dec h rfl (fun c4 => ?_) (fun c4 => ?_) | refine cond_ndec h rfl (fun c4 => ?_) (fun c4 => ?_) | refine cond_split h rfl (fun c4 => ?_) (fun c4 => ?_)
              · refine id ?_
                refine wp_region_lit ?_
                refine st_move h rfl rfl ?_; clear h a; intro a h
                refine st_assign h rfl rfl ?_; clear h a; intro a h
                replace h : Ag a 151 [(0, _), (3, _), (4, _), (5, _), (6, _), (7, _), (8, _), (9, _)] := h.sub (.cons rfl (.cons rfl (.cons rfl (.cons rfl (.cons rfl (.cons rfl (.cons rfl (.cons rfl .nil))))))))
                refine wpList_nil (norm_then ?_)
                exact ⟨(), h.sub (.cons rfl (.cons rfl (.cons rfl (.cons rfl (.cons rfl (.cons (by first | exact congrArg (fun x => some (S x)) (better_pos (cons_ne _ _) c4).symm | exact congrArg (fun x => some (S x)) (better_neg c4).symm) (.cons rfl (.cons rfl .nil)))))))), hO, hfl, hs, hf⟩
              · refine id ?_
                refine wp_skip (norm_then ?_)
                exact ⟨(), h.sub (.cons rfl (.cons rfl (.cons rfl (.cons rfl (.cons rfl (.cons (by first | exact congrArg (fun x => some (S x)) (better_pos (cons_ne _ _) c4).symm | exact congrArg (fun x => some (S x)) (better_neg c4).symm) (.cons rfl (.cons rfl .nil)))))))), hO, hfl, hs, hf⟩
          · clear h a hO hs hf hfl
            rintro a w7 ⟨u, h, ⟨hO, hfl, hs, hf⟩⟩
            refine wp_seq ?_
            refine wp_seq ?_
            refine wp_region_lit ?_
            refine st_move h rfl rfl ?_; clear h a; intro a h
            refine st_move h rfl rfl ?_; clear h a; intro a h
            refine st_rem (z := ((L % (k + 1) : Nat) : Int)) h rfl rfl (by omega) (by rw [IntWalk.rem_in _ _ (by omega)]; exact (Int.natCast_emod L (k + 1)).symm) rfl ?_; clear h a; intro a h
            refine st_ne h rfl rfl rfl ?_; clear h a; intro a h
            replace h : Ag a 151 [(0, _), (3, _), (4, _), (5, _), (6, _), (7, _), (8, _), (9, _), (87, _)] := h.sub (.cons rfl (.cons rfl (.cons rfl (.cons rfl (.cons rfl (.cons rfl (.cons rfl (.cons rfl (.cons rfl .nil)))))))))
            refine wpList_nil (norm_then ?_)
            first | refine cond_dec h rfl (fun c5 => ?_) (fun c5 => ?_) | refine cond_ndec h rfl (fun c5 => ?_) (fun c5 => ?_) | refine cond_split h rfl (fun c5 => ?_) (fun c5 => ?_)
            · refine id ?_
              refine wp_exit (exit_then (exit_here (norm_then ?_)))
              refine wp_region_lit ?_
              refine st_move h rfl rfl ?_; clear h a; intro a h
              refine st_add h rfl rfl (by first | exact IntWalk.i64_in _ (by omega) | rfl) rfl ?_; clear h a; intro a h
              refine st_assign h rfl rfl ?_; clear h a; intro a h
              replace h : Ag a 151 [(0, _), (3, _), (4, _), (5, _), (6, _), (7, _), (8, _)] := h.sub (.cons rfl (.cons rfl (.cons rfl (.cons rfl (.cons rfl (.cons rfl (.cons rfl .nil)))))))
              refine wpList_nil (norm_then ?_)
              exact ⟨k + 1, h.sub (.cons rfl (.cons rfl (.cons rfl (.cons rfl (.cons rfl (.cons (by first | exact congrArg (fun x => some (S x)) (ref_no (fun e => absurd e.1 (by omega))) | exact congrArg (fun x => some (S x)) hres) (.cons (by first | rfl | (congr 2; omega)) .nil))))))), ⟨by omega, hO, hfl, hs, hf⟩, by omega⟩
            · have hmod : L % (k + 1) = 0 := by omega
              obtain ⟨tm, htmE⟩ : ∃ q, q = L / (k + 1) := ⟨_, rfl⟩
              have htm : tm ≤ L := by rw [htmE]; exact Nat.div_le_self _ _
              refine wp_skip (norm_then ?_)
              refine wp_seq ?_
              refine wp_region_lit ?_
              refine st_assign h rfl rfl ?_; clear h a; intro a h
              replace h : Ag a 151 [(0, _), (3, _), (4, _), (5, _), (6, _), (7, _), (8, _), (9, _), (11, _)] := h.sub (.cons rfl (.cons rfl (.cons rfl (.cons rfl (.cons rfl (.cons rfl (.cons rfl (.cons rfl (.cons rfl .nil)))))))))
              refine wpList_nil (norm_then ?_)
              refine wp_seq ?_
              refine wp_seq ?_
              refine wp_region_lit ?_
              refine st_move h rfl rfl ?_; clear h a; intro a h
              refine st_move h rfl rfl ?_; clear h a; intro a h
              refine st_add h rfl rfl (by first | exact IntWalk.i64_in _ (by omega) | rfl) rfl ?_; clear h a; intro a h
              refine st_assign h rfl rfl ?_; clear h a; intro a h
              replace h : Ag a 151 [(0, _), (3, _), (4, _), (5, _), (6, _), (7, _), (8, _), (9, _), (11, _), (12, _)] := h.sub (.cons rfl (.cons rfl (.cons rfl (.cons rfl (.cons rfl (.cons rfl (.cons rfl (.cons rfl (.cons rfl (.cons rfl .nil))))))))))
              refine wpList_nil (norm_then ?_)
              refine wp_block ?_
              refine loop (ι := Nat) (fun e => [(0, .slice A xs.length c), (3, .int .i64 (xs.length : Int)), (4, .slice (some ⟨gT, 0, none⟩) N N), (5, .int .i64 (L : Int)), (6, .int .i64 (i : Int)), (7, S (betterS (refTo xs i L k) (bothT xs i L (k + 1)))), (8, .int .i64 ((k : Int) + 1)), (9, S (bT xs i (k + 1))), (11, .int .i64 (if sameB xs i (k + 1) e then 1 else 0)), (12, .int .i64 ((i : Int) + ((k : Int) + 1) + (e : Int)))]) (fun e w' => e ≤ L - (k + 1) ∧ Own Enc.str 9 w0.heap.size w' (.slice (some ⟨gT, 0, none⟩) N N) tab ∧ Filled xs L i tab ∧ Sl encSt w' (.slice A xs.length c) xs ∧ Fr [] w0 w') (fun e => L - e) 0 (h.sub (.cons rfl (.cons rfl (.cons rfl (.cons rfl (.cons rfl (.cons rfl (.cons rfl (.cons rfl (.cons rfl (.cons (by first | rfl | (congr 2; omega) | congr 2) .nil))))))))))) ⟨by omega, hO, hfl, hs, hf⟩ ?_
              clear h a hO hs hf hfl
              rintro e w8 a h ⟨he, hO, hfl, hs, hf⟩
              refine wp_seq ?_
              refine wp_seq ?_
              refine wp_region_lit ?_
              refine st_move h rfl rfl ?_; clear h a; intro a h
              refine st_move h rfl rfl ?_; clear h a; intro a h
              refine st_move h rfl rfl ?_; clear h a; intro a h
              refine st_add h rfl rfl (by first | exact IntWalk.i64_in _ (by omega) | rfl) rfl ?_; clear h a; intro a h
              refine st_lt h rfl rfl rfl ?_; clear h a; intro a h
              replace h : Ag a 151 [(0, _), (3, _), (4, _), (5, _), (6, _), (7, _), (8, _), (9, _), (11, _), (12, _), (95, _)] := h.sub (.cons rfl (.cons rfl (.cons rfl (.cons rfl (.cons rfl (.cons rfl (.cons rfl (.cons rfl (.cons rfl (.cons rfl (.cons rfl .nil)))))))))))
              refine wpList_nil (norm_then ?_)
              first | refine cond_dec h rfl (fun c6 => ?_) (fun c6 => ?_) | refine cond_ndec h rfl (fun c6 => ?_) (fun c6 => ?_) | refine cond_split h rfl (fun c6 => ?_) (fun c6 => ?_)
              · obtain ⟨x, hx⟩ : ∃ x, xs[i + (k + 1) + e]? = some x := ⟨_, List.getElem?_eq_getElem (by omega)⟩
                obtain ⟨y, hy⟩ : ∃ y, xs[i + e]? = some y := ⟨_, List.getElem?_eq_getElem (by omega)⟩
                obtain ⟨xa, hxa, cx⟩ := hA _ x hx
                obtain ⟨ya, hya, cy⟩ := hA _ y hy
                refine wp_skip (norm_then ?_)
                refine wp_seq ?_
                refine wp_block ?_
                refine wp_seq ?_
                refine region_quiet hmix (by kernel_rfl) ?_
                refine qt_move h rfl rfl ?_; clear h a; intro a h
                refine qt_move h rfl rfl ?_; clear h a; intro a h
                refine qt_idxS (p := i + (k + 1) + e) h (by rw [hxa]; rfl) rfl el22 (by omega) (by omega) (by omega) rfl ?_; clear h a; intro a h
                refine qt_loadA h rfl (fun _ hw => (cx.fr hf (by simp)).fr hw (by simp)) ag36 rfl ?_; clear h a; intro a h
                refine qt_move h rfl rfl ?_; clear h a; intro a h
                refine qt_move h rfl rfl ?_; clear h a; intro a h
                refine qt_move h rfl rfl ?_; clear h a; intro a h
                refine qt_sub h rfl rfl (by first | exact IntWalk.i64_in _ (by omega) | rfl) rfl ?_; clear h a; intro a h
                refine qt_idxS (p := i + e) h (by rw [hya]; rfl) rfl el22 (by omega) (by omega) (by omega) rfl ?_; clear h a; intro a h
                refine qt_loadA h rfl (fun _ hw => (cy.fr hf (by simp)).fr hw (by simp)) ag36 rfl ?_; clear h a; intro a h
                refine qt_neV (e := x) (f := y) h rfl rfl eqv36 rfl ?_; clear h a; intro a h
                refine wpQuiet_nil ?_
                intro w9 hq
                replace hf := hf.next hq
                replace hO := hO.ext hq
                replace hs := hs.ext hq
                clear hq
                replace h : Ag a 151 [(0, _), (3, _), (4, _), (5, _), (6, _), (7, _), (8, _), (9, _), (11, _), (12, _), (108, _)] := h.sub (.cons rfl (.cons rfl (.cons rfl (.cons rfl (.cons rfl (.cons rfl (.cons rfl (.cons rfl (.cons rfl (.cons rfl (.cons rfl .nil)))))))))))
                refine (norm_then ?_)
                first | refine cond_dec h rfl (fun c7 => ?_) (fun c7 => ?_) | refine cond_ndec h rfl (fun c7 => ?_) (fun c7 => ?_) | refine cond_split h rfl (fun c7 => ?_) (fun c7 => ?_)
                · refine id ?_
                  refine wp_region_lit ?_
                  refine st_assign h rfl rfl ?_; clear h a; intro a h
                  replace h : Ag a 151 [(0, _), (3, _), (4, _), (5, _), (6, _), (7, _), (8, _), (9, _), (11, _), (12, _)] := h.sub (.cons rfl (.cons rfl (.cons rfl (.cons rfl (.cons rfl (.cons rfl (.cons rfl (.cons rfl (.cons rfl (.cons rfl .nil))))))))))
                  refine wpList_nil (norm_blk (norm_then ?_))
                  refine wp_region_lit ?_
                  refine st_move h rfl rfl ?_; clear h a; intro a h
                  refine st_add h rfl rfl (by first | exact IntWalk.i64_in _ (by omega) | rfl) rfl ?_; clear h a; intro a h
                  refine st_assign h rfl rfl ?_; clear h a; intro a h
                  replace h : Ag a 151 [(0, _), (3, _), (4, _), (5, _), (6, _), (7, _), (8, _), (9, _), (11, _), (12, _)] := h.sub (.cons rfl (.cons rfl (.cons rfl (.cons rfl (.cons rfl (.cons rfl (.cons rfl (.cons rfl (.cons rfl (.cons rfl .nil))))))))))
                  refine wpList_nil (norm_then ?_)
                  exact ⟨e + 1, h.sub (.cons rfl (.cons rfl (.cons rfl (.cons rfl (.cons rfl (.cons rfl (.cons rfl (.cons rfl (.cons (by first | (rw [same_yes hx hy (Decidable.not_not.1 c7)]; rfl) | (rw [same_no hx hy c7]; rfl)) (.cons (by first | rfl | (congr 2; omega) | congr 2) .nil)))))))))), ⟨by omega, hO, hfl, hs, hf⟩, by omega⟩
                · refine id ?_
                  refine wp_skip (norm_blk (norm_then ?_))
                  refine wp_region_lit ?_
                  refine st_move h rfl rfl ?_; clear h a; intro a h
                  refine st_add h rfl rfl (by first | exact IntWalk.i64_in _ (by omega) | rfl) rfl ?_; clear h a; intro a h
                  refine st_assign h rfl rfl ?_; clear h a; intro a h
                  replace h : Ag a 151 [(0, _), (3, _), (4, _), (5, _), (6, _), (7, _), (8, _), (9, _), (11, _), (12, _)] := h.sub (.cons rfl (.cons rfl (.cons rfl (.cons rfl (.cons rfl (.cons rfl (.cons rfl (.cons rfl (.cons rfl (.cons rfl .nil))))))))))
                  refine wpList_nil (norm_then ?_)
                  exact ⟨e + 1, h.sub (.cons rfl (.cons rfl (.cons rfl (.cons rfl (.cons rfl (.cons rfl (.cons rfl (.cons rfl (.cons (by first | (rw [same_yes hx hy (Decidable.not_not.1 c7)]; rfl) | (rw [same_no hx hy c7]; rfl)) (.cons (by first | rfl | (congr 2; omega) | congr 2) .nil)))))))))), ⟨by omega, hO, hfl, hs, hf⟩, by omega⟩
              · obtain rfl : e = L - (k + 1) := by omega
                rw [same_reps (by omega) (by omega)] at h
                refine wp_exit (exit_then (exit_then (exit_here (norm_then ?_))))
                refine wp_seq ?_
                refine wp_region_lit ?_
                refine st_move h rfl rfl ?_; clear h a; intro a h
                refine st_move h rfl rfl ?_; clear h a; intro a h
                refine st_quo (z := ((tm : Nat) : Int)) h rfl rfl (by omega) (by rw [IntWalk.i64_quo _ _ (by omega)]; rw [htmE]; exact (Int.natCast_ediv L (k + 1)).symm) rfl ?_; clear h a; intro a h
                refine st_assign h rfl rfl ?_; clear h a; intro a h
                replace h : Ag a 151 [(0, _), (3, _), (4, _), (5, _), (6, _), (7, _), (8, _), (9, _), (11, _), (13, _)] := h.sub (.cons rfl (.cons rfl (.cons rfl (.cons rfl (.cons rfl (.cons rfl (.cons rfl (.cons rfl (.cons rfl (.cons rfl .nil))))))))))
                refine wpList_nil (norm_then ?_)
                refine wp_seq ?_
                refine wp_region_lit ?_
                refine st_move h rfl rfl ?_; clear h a; intro a h
                refine st_rem (z := ((tm % 10 : Nat) : Int)) h rfl rfl (by omega) (by rw [IntWalk.rem_in _ _ (by omega)]; omega) rfl ?_; clear h a; intro a h
                refine st_add h rfl rfl (by first | exact IntWalk.i64_in _ (by omega) | rfl) rfl ?_; clear h a; intro a h
                refine st_conv h rfl (by rw [Tryd.underlying3]; rfl) Tryd.underlying5 (by first | exact IntWalk.u8_in _ (by omega) | rfl) rfl ?_; clear h a; intro a h
                refine st_bslice ([dg ((tm % 10 : Nat) : Int)]) h (evs_cons rfl evs_nil) rfl (by rw [show (48 : Int) + ((tm % 10 : Nat) : Int) = ((dg ((tm % 10 : Nat) : Int)).toNat : Int) from (dg_val _ (by omega) (by omega)).symm]; rfl) rfl el58 (by decide) rfl ?_; clear h a; intro g_116 w10 hg ho116 hq hz a h
                have hl116 : w0.heap.size ≤ g_116 := by have := hf.size; omega
                replace hf := hf.next hq
                replace hO := hO.ext hq
                replace hs := hs.ext hq
                clear hq hz hg
                refine st_b2s h rfl ho116.sl el58 Tryd.underlying5 Tryd.underlying9 rfl ?_; clear h a; intro a h
                refine st_assign h rfl rfl ?_; clear h a; intro a h
                replace h : Ag a 151 [(0, _), (3, _), (4, _), (5, _), (6, _), (7, _), (8, _), (9, _), (11, _), (13, _), (14, _)] := h.sub (.cons rfl (.cons rfl (.cons rfl (.cons rfl (.cons rfl (.cons rfl (.cons rfl (.cons rfl (.cons rfl (.cons rfl (.cons rfl .nil)))))))))))
                refine wpList_nil (norm_then ?_)
                refine seq_cut (Cut (ι := Unit) 151 (fun u => [(0, .slice A xs.length c), (3, .int .i64 (xs.length : Int)), (4, .slice (some ⟨gT, 0, none⟩) N N), (5, .int .i64 (L : Int)), (6, .int .i64 (i : Int)), (7, S (betterS (refTo xs i L k) (bothT xs i L (k + 1)))), (8, .int .i64 ((k : Int) + 1)), (9, S (bT xs i (k + 1))), (11, .int .i64 (if repsB xs i L (k + 1) then 1 else 0)), (14, S (itoaS (tm)))]) (fun u w' => Own Enc.str 9 w0.heap.size w' (.slice (some ⟨gT, 0, none⟩) N N) tab ∧ Filled xs L i tab ∧ Sl encSt w' (.slice A xs.length c) xs ∧ Fr [] w0 w')) ?_ ?_
                · refine id ?_
                  refine wp_seq ?_
                  refine wp_region_lit ?_
                  refine st_move h rfl rfl ?_; clear h a; intro a h
                  refine st_gt h rfl rfl rfl ?_; clear h a; intro a h
                  replace h : Ag a 151 [(0, _), (3, _), (4, _), (5, _), (6, _), (7, _), (8, _), (9, _), (11, _), (14, _), (119, _)] := h.sub (.cons rfl (.cons rfl (.cons rfl (.cons rfl (.cons rfl (.cons rfl (.cons rfl (.cons rfl (.cons rfl (.cons rfl (.cons rfl .nil)))))))))))
                  refine wpList_nil (norm_then ?_)
                  first | refine cond_dec h rfl (fun c8 => ?_) (fun c8 => ?_) | refine cond_ndec h rfl (fun c8 => ?_) (fun c8 => ?_) | refine cond_split h rfl (fun c8 => ?_) (fun c8 => ?_)
                  · refine id ?_
                    refine wp_region_lit ?_
                    refine st_move h rfl rfl ?_; clear h a; intro a h
                    refine st_adds h rfl rfl (by first | (simp; done) | (simp; omega)) rfl ?_; clear h a; intro a h
                    refine st_assign h rfl rfl ?_; clear h a; intro a h
                    replace h : Ag a 151 [(0, _), (3, _), (4, _), (5, _), (6, _), (7, _), (8, _), (9, _), (11, _), (14, _)] := h.sub (.cons rfl (.cons rfl (.cons rfl (.cons rfl (.cons rfl (.cons rfl (.cons rfl (.cons rfl (.cons rfl (.cons rfl .nil))))))))))
                    refine wpList_nil (norm_then ?_)
                    exact ⟨(), h.sub (.cons rfl (.cons rfl (.cons rfl (.cons rfl (.cons rfl (.cons rfl (.cons rfl (.cons rfl (.cons rfl (.cons (by first | exact congrArg (fun x => some (S x)) (itoa_hi _ (by omega) (by omega)) | exact congrArg (fun x => some (S x)) (itoa_lo _ (by omega) (by omega))) .nil)))))))))), hO, hfl, hs, hf⟩
                  · refine id ?_
                    refine wp_skip (norm_then ?_)
                    exact ⟨(), h.sub (.cons rfl (.cons rfl (.cons rfl (.cons rfl (.cons rfl (.cons rfl (.cons rfl (.cons rfl (.cons rfl (.cons (by first | exact congrArg (fun x => some (S x)) (itoa_hi _ (by omega) (by omega)) | exact congrArg (fun x => some (S x)) (itoa_lo _ (by omega) (by omega))) .nil)))))))))), hO, hfl, hs, hf⟩
                · clear h a hO hs hf hfl
                  rintro a w11 ⟨u, h, ⟨hO, hfl, hs, hf⟩⟩
                  refine wp_seq ?_
                  refine wp_region_lit ?_
                  refine st_move h rfl rfl ?_; clear h a; intro a h
                  refine st_adds h rfl rfl (by first | (simp; done) | (simp; omega)) rfl ?_; clear h a; intro a h
                  refine st_adds h rfl rfl (by simp; omega) rfl ?_; clear h a; intro a h
                  refine st_move h rfl rfl ?_; clear h a; intro a h
                  have hit := itoa_len (tm)
                  refine st_adds h rfl rfl (by simp; omega) rfl ?_; clear h a; intro a h
                  rw [rep_eq] at h
                  refine st_assign h rfl rfl ?_; clear h a; intro a h
                  replace h : Ag a 151 [(0, _), (3, _), (4, _), (5, _), (6, _), (7, _), (8, _), (11, _), (15, _)] := h.sub (.cons rfl (.cons rfl (.cons rfl (.cons rfl (.cons rfl (.cons rfl (.cons rfl (.cons rfl (.cons rfl .nil)))))))))
                  refine wpList_nil (norm_then ?_)
                  refine wp_seq ?_
                  refine region_bool (r := 134) (L' := [(0, _), (3, _), (4, _), (5, _), (6, _), (7, _), (8, _), (15, _)]) (repsB xs i L (k + 1) = true ∧ lessP (repT (bT xs i (k + 1)) (tm)) (betterS (refTo xs i L k) (bothT xs i L (k + 1)))) h (.cons rfl (.cons rfl (.cons rfl (.cons rfl (.cons rfl (.cons rfl (.cons rfl (.cons rfl .nil)))))))) ?_ ?_
                  · refine id ?_
                    refine st_move h rfl rfl ?_; clear h a; intro a h
                    refine st_eq h rfl rfl rfl ?_; clear h a; intro a h
                    refine st_move h rfl rfl ?_; clear h a; intro a h
                    first | refine guard_dec (D := 129) h rfl ?_ ?_ | refine guard_ndec (D := 129) h rfl ?_ ?_ | refine guard_any (D := 129) h rfl ?_ ?_
                    · clear h; intro g1 h
                      refine gd_yes h rfl rfl rfl rfl rfl rfl ?_
                      refine st_move h rfl rfl ?_; clear h a; intro a h
                      refine gd_yes h rfl rfl rfl rfl rfl rfl ?_
                      refine st_move h rfl rfl ?_; clear h a; intro a h
                      refine gd_yes h rfl rfl rfl rfl rfl rfl ?_
                      refine st_call h (evs_cons rfl (evs_cons rfl evs_nil)) co17 (less_ok _ _ _) rfl ?_; clear h a; rintro _ _ ⟨rfl, rfl⟩ a h
                      refine gd_yes h rfl rfl rfl rfl rfl rfl ?_
                      refine st_eq h rfl rfl rfl ?_; clear h a; intro a h
                      refine st_pick_t h rfl rfl rfl rfl ?_; clear h a; intro a h
                      exact wpList_nil (bool_end h rfl (by first | exact bi (by constructor; intro e; split at e; exact ⟨by split at g1; assumption; omega, by assumption⟩; omega; rintro ⟨_, e⟩; rw [if_pos e]) | exact bf (fun e => by rw [if_pos e.1] at g1; exact g1 rfl)) (.cons rfl (.cons rfl (.cons rfl (.cons rfl (.cons rfl (.cons rfl (.cons rfl (.cons rfl .nil)))))))))
                    · clear h; intro g1 h
                      refine gd_no h rfl rfl rfl rfl rfl rfl rfl rfl ?_; clear h a; intro a h
                      refine gd_no h rfl rfl rfl rfl rfl rfl rfl rfl ?_; clear h a; intro a h
                      refine gd_no h rfl rfl rfl rfl rfl rfl rfl rfl ?_; clear h a; intro a h
                      refine gd_no h rfl rfl rfl rfl rfl rfl rfl rfl ?_; clear h a; intro a h
                      refine st_pick_f h rfl rfl rfl rfl ?_; clear h a; intro a h
                      exact wpList_nil (bool_end h rfl (by first | exact bi (by constructor; intro e; split at e; exact ⟨by split at g1; assumption; omega, by assumption⟩; omega; rintro ⟨_, e⟩; rw [if_pos e]) | exact bf (fun e => by rw [if_pos e.1] at g1; exact g1 rfl)) (.cons rfl (.cons rfl (.cons rfl (.cons rfl (.cons rfl (.cons rfl (.cons rfl (.cons rfl .nil)))))))))
                  · clear h a; intro a h
                    refine (norm_then ?_)
                    first | refine cond_dec h rfl (fun c9 => ?_) (fun c9 => ?_) | refine cond_ndec h rfl (fun c9 => ?_) (fun c9 => ?_) | refine cond_split h rfl (fun c9 => ?_) (fun c9 => ?_)
                    · have hres := ref_yes (i := i) hmod c9.1
                      rw [← htmE] at hres
                      rw [better_pos (rep_ne _ _) (.inr c9.2)] at hres
                      refine wp_region_lit ?_
                      refine st_move h rfl rfl ?_; clear h a; intro a h
                      refine st_assign h rfl rfl ?_; clear h a; intro a h
                      replace h : Ag a 151 [(0, _), (3, _), (4, _), (5, _), (6, _), (7, _), (8, _)] := h.sub (.cons rfl (.cons rfl (.cons rfl (.cons rfl (.cons rfl (.cons rfl (.cons rfl .nil)))))))
                      refine wpList_nil (norm_blk (norm_then ?_))
                      refine wp_region_lit ?_
                      refine st_move h rfl rfl ?_; clear h a; intro a h
                      refine st_add h rfl rfl (by first | exact IntWalk.i64_in _ (by omega) | rfl) rfl ?_; clear h a; intro a h
                      refine st_assign h rfl rfl ?_; clear h a; intro a h
                      replace h : Ag a 151 [(0, _), (3, _), (4, _), (5, _), (6, _), (7, _), (8, _)] := h.sub (.cons rfl (.cons rfl (.cons rfl (.cons rfl (.cons rfl (.cons rfl (.cons rfl .nil)))))))
                      refine wpList_nil (norm_then ?_)
                      exact ⟨k + 1, h.sub (.cons rfl (.cons rfl (.cons rfl (.cons rfl (.cons rfl (.cons (by first | exact congrArg (fun x => some (S x)) (ref_no (fun e => absurd e.1 (by omega))) | exact congrArg (fun x => some (S x)) hres) (.cons (by first | rfl | (congr 2; omega)) .nil))))))), ⟨by omega, hO, hfl, hs, hf⟩, by omega⟩
                    · have hres : betterS (refTo xs i L k) (bothT xs i L (k + 1)) = refTo xs i L (k + 1) := by
                        by_cases hr : repsB xs i L (k + 1) = true
                        · rw [← ref_yes hmod hr, ← htmE, better_neg (fun e => e.elim (both_ne _ _ _ _ _) (fun e => c9 ⟨hr, e⟩))]
                        · exact ref_no (fun e => hr e.2)
                      refine wp_skip (norm_blk (norm_then ?_))
                      refine wp_region_lit ?_
                      refine st_move h rfl rfl ?_; clear h a; intro a h
                      refine st_add h rfl rfl (by first | exact IntWalk.i64_in _ (by omega) | rfl) rfl ?_; clear h a; intro a h
                      refine st_assign h rfl rfl ?_; clear h a; intro a h
                      replace h : Ag a 151 [(0, _), (3, _), (4, _), (5, _), (6, _), (7, _), (8, _)] := h.sub (.cons rfl (.cons rfl (.cons rfl (.cons rfl (.cons rfl (.cons rfl (.cons rfl .nil)))))))
                      refine wpList_nil (norm_then ?_)
                      exact ⟨k + 1, h.sub (.cons rfl (.cons rfl (.cons rfl (.cons rfl (.cons rfl (.cons (by first | exact congrArg (fun x => some (S x)) (ref_no (fun e => absurd e.1 (by omega))) | exact congrArg (fun x => some (S x)) hres) (.cons (by first | rfl | (congr 2; omega)) .nil))))))), ⟨by omega, hO, hfl, hs, hf⟩, by omega⟩
        · obtain rfl : k = L - 1 := by omega
          rw [ref_done hok hm (by omega) hL1] at h
          refine wp_exit (exit_then (exit_then (exit_here (norm_then ?_))))
          refine wp_region_lit ?_
          refine st_move h rfl rfl ?_; clear h a; intro a h
          refine st_move h rfl rfl ?_; clear h a; intro a h
          refine st_move h rfl rfl ?_; clear h a; intro a h
          refine st_add h rfl rfl (by first | exact IntWalk.i64_in _ (by omega) | rfl) rfl ?_; clear h a; intro a h
          refine st_mul (z := ((i * (xs.length + 1) : Nat) : Int)) h rfl rfl (by rw [show ((i : Int)) * ((xs.length : Int) + 1) = ((i * (xs.length + 1) : Nat) : Int) by push_cast; rfl]; exact IntWalk.i64_in _ (by have : i * (xs.length + 1) ≤ 16 * 17 := Nat.mul_le_mul (show i ≤ 16 by omega) (show xs.length + 1 ≤ 17 by omega); omega)) rfl ?_; clear h a; intro a h
          refine st_move h rfl rfl ?_; clear h a; intro a h
          refine st_add h rfl rfl (by first | exact IntWalk.i64_in _ (by omega) | rfl) rfl ?_; clear h a; intro a h
          refine st_move h rfl rfl ?_; clear h a; intro a h
          refine st_add h rfl rfl (by first | exact IntWalk.i64_in _ (by omega) | rfl) rfl ?_; clear h a; intro a h
          refine st_move h rfl rfl ?_; clear h a; intro a h
          refine st_idxS (p := i * (xs.length + 1) + i + L) h rfl rfl el48 (by omega) (by omega) (by omega) rfl ?_; clear h a; intro a h
          refine st_storeO (bT xs i L) h rfl rfl hO (by have := hfl.1; have := idx_lt (n := xs.length) (a := i) (m := L) (by omega); omega) rfl sz9 ?_; clear h a; intro w12 hO2 hq hz a h
          replace hO := hO2
          replace hfl := fill_set (by omega) hfl
          replace hs := hs.fr hq (by intro k hk hb; have := hrb k hb; simp at hk; omega)
          replace hf := hf.step hq (by simp; omega)
          clear hq hz hO2
          replace h : Ag a 151 [(0, _), (3, _), (4, _), (5, _), (6, _)] := h.sub (.cons rfl (.cons rfl (.cons rfl (.cons rfl (.cons rfl .nil)))))
          refine wpList_nil (norm_blk (norm_then ?_))
          refine wp_region_lit ?_
          refine st_move h rfl rfl ?_; clear h a; intro a h
          refine st_add h rfl rfl (by first | exact IntWalk.i64_in _ (by omega) | rfl) rfl ?_; clear h a; intro a h
          refine st_assign h rfl rfl ?_; clear h a; intro a h
          replace h : Ag a 151 [(0, _), (3, _), (4, _), (5, _), (6, _)] := h.sub (.cons rfl (.cons rfl (.cons rfl (.cons rfl (.cons rfl .nil)))))
          refine wpList_nil (norm_then ?_)
          exact ⟨(i + 1, _), h.sub (.cons rfl (.cons rfl (.cons rfl (.cons rfl (.cons rfl .nil))))), ⟨by simp only; omega, hO, hfl, hs, hf⟩, by simp only; omega⟩
    · refine id ?_
      refine wp_exit (exit_then (exit_then (exit_here (norm_blk (norm_then ?_)))))
      refine wp_region_lit ?_
      refine st_move h rfl rfl ?_; clear h a; intro a h
      refine st_add h rfl rfl (by first | exact IntWalk.i64_in _ (by omega) | rfl) rfl ?_; clear h a; intro a h
      refine st_assign h rfl rfl ?_; clear h a; intro a h
      replace h : Ag a 151 [(0, _), (3, _), (4, _), (5, _)] := h.sub (.cons rfl (.cons rfl (.cons rfl (.cons rfl .nil))))
      refine wpList_nil (norm_then ?_)
      exact ⟨(L + 1, tab), h.sub (.cons rfl (.cons rfl (.cons rfl (.cons rfl .nil)))), ⟨by simp only; omega, by simp only; omega, hO, fill_next (by omega) hfl, hs, hf⟩, by simp only; omega⟩
  · obtain rfl : L = xs.length + 1 := by omega
    refine wp_exit (exit_then (exit_then (exit_here (norm_then ?_))))
    refine wp_seq ?_
    refine wp_region_lit ?_
    refine st_move h rfl rfl ?_; clear h a; intro a h
    refine st_move h rfl rfl ?_; clear h a; intro a h
    refine st_idx (p := 0 * (xs.length + 1) + 0 + xs.length) h rfl rfl hO.sl el48 (by omega) (by omega) (hfl.2 0 xs.length (by omega) (by omega) (by omega)) rfl ?_; clear h a; intro ad cc a h
    refine st_loadC0 h rfl cc na9 rfl ?_; clear h a; intro a h
    refine st_assign h rfl rfl ?_; clear h a; intro a h
    replace h : Ag a 151 [(2, _)] := h.sub (.cons rfl .nil)
    refine wpList_nil (norm_then ?_)
    refine wp_ret ?_
    refine ret1 h Tryd.results16 rfl ?_
    exact ⟨_, rfl, rfl, hf⟩
end Go.Proofs.YtbbnampdgefljaaDoor
