/- Texts of the proof, joined: W22 W23 W24 W25 XArr XIn XRange XBuf XS XStr V1 V2 -/
import Derived.Test.YthehggmdcmpjeaaDoorRows
import Derived.RangeFuncNested
import Derived.RangeFuncBound
import Derived.RangeFuncCalls
import Derived.RangeFuncLeaves
import Derived.OrdersIn
import Derived.Lib.Builder
import Derived.Lib.AppendStr
import Derived.Laws.Pointers
import Derived.Laws.Externs
import Derived.Lib.ConvBytes
import Derived.Laws.AppendOwn
import Derived.Laws.RangeString
import Derived.Test.YthehggmdcmpjeaaDoorB3
set_option linter.unusedVariables false
set_option linter.unusedSimpArgs false
namespace Go.Proofs.YthehggmdcmpjeaaDoor
open Go.Lw Go.G14
theorem co48 : CallOf Tryd.prog 48 := CallOf.mk' Tryd.func48 (by kernel_rfl) (by kernel_rfl)
theorem co49 : CallOf Tryd.prog 49 := CallOf.mk' Tryd.func49 (by kernel_rfl) (by kernel_rfl)
theorem co66 : CallOf Tryd.prog 66 := CallOf.mk' Tryd.func66 (by kernel_rfl) (by kernel_rfl)
theorem co70 : CallOf Tryd.prog 70 := CallOf.mk' Tryd.func70 (by kernel_rfl) (by kernel_rfl)
theorem co71 : CallOf Tryd.prog 71 := CallOf.mk' Tryd.func71 (by kernel_rfl) (by kernel_rfl)
theorem total_ok (fid : Nat) (g : Stitch → Int) (hg : ∀ s, 0 ≤ g s ∧ g s ≤ 4) (hgc : ∀ s w, Rets Tryd.prog fid #[stV s] w fun v w' => v = .int .i64 (g s) ∧ Fr [] w w') (hco : CallOf Tryd.prog fid) (u : Value) (xs : List Stitch) (w0 : World) (hu : Sl encSt w0 u xs) (h16 : xs.length ≤ 16) : Rets Tryd.prog 66 #[u, .func (.func fid) #[] #[]] w0 fun v w' => v = .int .i64 (xs.map g).sum ∧ Fr [] w0 w' := by
 obtain ⟨A, c, rfl, hcp⟩ := hu.form
 obtain ⟨-, -, hM, hA⟩ := Sl.open_ hu
 unfold maxLen at hM
 refine enter [(0, .slice A xs.length c), (1, .func (.func fid) #[] #[])] Tryd.func66 rfl Tryd.ntmps66 rfl (.cons rfl (.cons rfl .nil)) ?_
 have hf := Fr.refl [] w0
 intro a h
 refine wp_seq ?_
 refine wR ?_
 refine st_assign h rfl rfl ?_; clear h a; intro a h
 replace h : Ag a 21 [(0, _), (1, _)] := h.sub (.cons rfl (.cons rfl .nil))
 refine wnt ?_
 refine wp_seq ?_
 refine wR ?_
 refine st_assign h rfl rfl ?_; clear h a; intro a h
 refine wnt ?_
 refine wp_seq ?_
 refine wp_seq ?_
 refine wR ?_
 refine st_move h rfl rfl ?_; clear h a; intro a h
 refine st_lenS h rfl Tryd.underlying61 rfl ?_; clear h a; intro a h
 refine st_move h rfl rfl ?_; clear h a; intro a h
 replace h : Ag a 21 [(1, _), (5, _), (8, _), (9, _), (10, _)] := h.sub (.cons rfl (.cons rfl (.cons rfl (.cons rfl (.cons rfl .nil)))))
 refine wnt ?_
 refine wp_block ?_
 refine loop (ι := Nat) (fun k => [(1, .func (.func fid) #[] #[]), (5, .int .i64 ((xs.take k).map g).sum), (8, .slice A xs.length c), (9, .int .i64 (xs.length : Int)), (10, .int .i64 (k : Int))]) (fun k w' => k ≤ xs.length ∧ Fr [] w0 w') (fun k => xs.length - k) 0 (h.sub (.cons rfl (.cons rfl (.cons rfl (.cons rfl (.cons rfl .nil)))))) ⟨by omega, hf⟩ ?_
 clear h a hf
 rintro k w1 a h ⟨hk, hf⟩
 have hsr := sum_rng hg (xs.take k)
 rw [List.length_take] at hsr
 refine wp_seq ?_
 refine wR ?_
 refine st_lt h rfl rfl rfl ?_; clear h a; intro a h
 refine wnt ?_
 refine wp_seq ?_
 first | refine cond_dec h rfl (fun c0 => ?_) (fun c0 => ?_) | refine cond_ndec h rfl (fun c0 => ?_) (fun c0 => ?_) | refine cond_split h rfl (fun c0 => ?_) (fun c0 => ?_)
 ·obtain ⟨x, hxk⟩ : ∃ x, xs[k]? = some x := ⟨_, List.getElem?_eq_getElem (by omega)⟩
  obtain ⟨ad, hAd, ca⟩ := hA k x hxk
  have hgx := hg x
  refine wsn ?_
  refine wp_seq ?_
  refine wp_block ?_
  refine wp_seq ?_
  refine wR ?_
  refine st_idxS h (by rw [hAd]; rfl) rfl el61 (by omega) (by omega) rfl rfl ?_; clear h a; intro a h
  refine st_loadA h rfl (ca.fr hf (by simp)) ag100 rfl ?_; clear h a; intro a h
  refine st_alloc h zv100 rfl rfl ?_; clear h a; intro w2 hb7 hq hz a h
  obtain ⟨g_7, hg⟩ : ∃ g, g = w1.heap.size := ⟨_, rfl⟩; rw [← hg] at hb7 h hz
  have hl7 : w0.heap.size ≤ g_7 := by have := hf.size; omega
  replace hf := hf.next hq
  clear hq hz hg
  refine st_storeBA h rfl rfl hb7 rfl (by first | (simp [Value.oneCell', S]; done) | exact Enc.one _ _) sz100 ?_; clear h a; intro w3 hbn hq hz a h
  replace hf := hf.step hq (by first | (simp; done) | (simp; omega))
  clear hb7 hq hz; have hb7 : Blk w3 g_7 _ [_, _, _, _, _] := hbn; clear hbn
  replace h : Ag a 21 [(1, _), (5, _), (7, _), (8, _), (9, _), (10, _)] := h.sub (.cons rfl (.cons rfl (.cons rfl (.cons rfl (.cons rfl (.cons rfl .nil))))))
  refine wnt ?_
  refine wR ?_
  refine st_move h rfl rfl ?_; clear h a; intro a h
  refine st_move h rfl rfl ?_; clear h a; intro a h
  refine st_loadBA h rfl hb7 ag100 rfl ?_; clear h a; intro a h
  refine st_callv (us := []) (ws := []) h rfl (evs_cons rfl evs_nil) hco (hgc x _) rfl (by intro g; simp) ?_; clear h a; rintro _ w4 ⟨rfl, hq⟩ a h
  replace hf := hf.next hq
  replace hb7 := hb7.ext hq
  clear hq
  refine st_add h rfl rfl (by first | exact IntWalk.i64_in _ (by omega) | rfl) rfl ?_; clear h a; intro a h
  refine st_assign h rfl rfl ?_; clear h a; intro a h
  replace h : Ag a 21 [(1, _), (5, _), (8, _), (9, _), (10, _)] := h.sub (.cons rfl (.cons rfl (.cons rfl (.cons rfl (.cons rfl .nil)))))
  refine wpList_nil (norm_blk (norm_then ?_))
  refine wR ?_
  refine st_add h rfl rfl (by first | exact IntWalk.i64_in _ (by omega) | rfl) rfl ?_; clear h a; intro a h
  refine st_move h rfl rfl ?_; clear h a; intro a h
  replace h : Ag a 21 [(1, _), (5, _), (8, _), (9, _), (10, _)] := h.sub (.cons rfl (.cons rfl (.cons rfl (.cons rfl (.cons rfl .nil)))))
  refine wnt ?_
  exact ⟨k + 1, h.sub (.cons rfl (.cons (by rw [sum_next hxk]; rfl) (.cons rfl (.cons rfl (.cons rfl .nil))))), ⟨by omega, hf⟩, by omega⟩
 ·obtain rfl : k = xs.length := by omega
  rw [List.take_length] at h
  refine wp_exit (exit_then (exit_then (exit_here (norm_then ?_))))
  refine wp_seq ?_
  refine wR ?_
  refine st_move h rfl rfl ?_; clear h a; intro a h
  refine st_assign h rfl rfl ?_; clear h a; intro a h
  replace h : Ag a 21 [(4, _)] := h.sub (.cons rfl .nil)
  refine wnt ?_
  refine wp_ret ?_
  refine ret1 h Tryd.results66 rfl ?_
  exact ⟨_, rfl, rfl, hf⟩
theorem cneeds_ok (u : Value) (xs : List Stitch) (w0 : World) (hu : Sl encSt w0 u xs) (h16 : xs.length ≤ 16) : Rets Tryd.prog 48 #[u] w0 fun v w' => v = .int .i64 (needsR xs) ∧ Fr [] w0 w' := by
 obtain ⟨A, c, rfl, hcp⟩ := hu.form
 refine enter [(0, .slice A xs.length c)] Tryd.func48 rfl Tryd.ntmps48 rfl (.cons rfl .nil) ?_
 have hf := Fr.refl [] w0
 intro a h
 refine wp_seq ?_
 refine wR ?_
 refine st_assign h rfl rfl ?_; clear h a; intro a h
 replace h : Ag a 5 [(0, _)] := h.sub (.cons rfl .nil)
 refine wnt ?_
 refine wp_seq ?_
 refine wR ?_
 refine st_move h rfl rfl ?_; clear h a; intro a h
 refine st_call h (evs_cons rfl (evs_cons rfl evs_nil)) co66 (total_ok 67 needsS needs_rng (fun s w => needs_ok s w) co67 _ xs _ hu h16) rfl ?_; clear h a; rintro _ w1 ⟨rfl, hq⟩ a h
 replace hf := hf.next hq
 clear hq
 refine st_assign h rfl rfl ?_; clear h a; intro a h
 replace h : Ag a 5 [(2, _)] := h.sub (.cons rfl .nil)
 refine wnt ?_
 refine wp_ret ?_
 refine ret1 h Tryd.results48 rfl ?_
 exact ⟨_, rfl, rfl, hf⟩
theorem cmakes_ok (u : Value) (xs : List Stitch) (w0 : World) (hu : Sl encSt w0 u xs) (h16 : xs.length ≤ 16) : Rets Tryd.prog 49 #[u] w0 fun v w' => v = .int .i64 (makesR xs) ∧ Fr [] w0 w' := by
 obtain ⟨A, c, rfl, hcp⟩ := hu.form
 refine enter [(0, .slice A xs.length c)] Tryd.func49 rfl Tryd.ntmps49 rfl (.cons rfl .nil) ?_
 have hf := Fr.refl [] w0
 intro a h
 refine wp_seq ?_
 refine wR ?_
 refine st_assign h rfl rfl ?_; clear h a; intro a h
 replace h : Ag a 5 [(0, _)] := h.sub (.cons rfl .nil)
 refine wnt ?_
 refine wp_seq ?_
 refine wR ?_
 refine st_move h rfl rfl ?_; clear h a; intro a h
 refine st_call h (evs_cons rfl (evs_cons rfl evs_nil)) co66 (total_ok 50 makesS makes_rng (fun s w => makes_ok s w) co50 _ xs _ hu h16) rfl ?_; clear h a; rintro _ w1 ⟨rfl, hq⟩ a h
 replace hf := hf.next hq
 clear hq
 refine st_assign h rfl rfl ?_; clear h a; intro a h
 replace h : Ag a 5 [(2, _)] := h.sub (.cons rfl .nil)
 refine wnt ?_
 refine wp_ret ?_
 refine ret1 h Tryd.results49 rfl ?_
 exact ⟨_, rfl, rfl, hf⟩
theorem checkrow_ok (u : Value) (xs : List Stitch) (w0 : World) (hu : Sl encSt w0 u xs) : Rets Tryd.prog 95 #[u] w0 fun v w' => v = .int .i64 (rowE xs) ∧ Fr [] w0 w' := by
 obtain ⟨A, c, rfl, hcp⟩ := hu.form
 obtain ⟨-, -, hM, hA⟩ := Sl.open_ hu
 unfold maxLen at hM
 refine enter [(0, .slice A xs.length c)] Tryd.func95 rfl Tryd.ntmps95 rfl (.cons rfl .nil) ?_
 have hf := Fr.refl [] w0
 intro a h
 refine wp_seq ?_
 refine wR ?_
 refine st_assign h rfl rfl ?_; clear h a; intro a h
 replace h : Ag a 41 [(0, _)] := h.sub (.cons rfl .nil)
 refine wnt ?_
 refine wp_seq ?_
 refine wp_seq ?_
 refine wR ?_
 refine st_move h rfl rfl ?_; clear h a; intro a h
 refine st_lenS h rfl Tryd.underlying61 rfl ?_; clear h a; intro a h
 refine st_gt h rfl rfl rfl ?_; clear h a; intro a h
 replace h : Ag a 41 [(0, _), (9, _)] := h.sub (.cons rfl (.cons rfl .nil))
 refine wnt ?_
 first | refine cond_dec h rfl (fun c0 => ?_) (fun c0 => ?_) | refine cond_ndec h rfl (fun c0 => ?_) (fun c0 => ?_) | refine cond_split h rfl (fun c0 => ?_) (fun c0 => ?_)
 ·refine id ?_
  refine wp_seq ?_
  refine wR ?_
  refine st_assign h rfl rfl ?_; clear h a; intro a h
  replace h : Ag a 41 [(2, _)] := h.sub (.cons rfl .nil)
  refine wnt ?_
  refine wp_ret (ret_then ?_)
  refine ret1 h Tryd.results95 rfl ?_
  exact ⟨_, rfl, by rw [row3 (by omega)], hf⟩
 ·refine id ?_
  refine wsn ?_
  refine wp_seq ?_
  refine wp_seq ?_
  refine wR ?_
  refine st_move h rfl rfl ?_; clear h a; intro a h
  refine st_lenS h rfl Tryd.underlying61 rfl ?_; clear h a; intro a h
  refine st_eq h rfl rfl rfl ?_; clear h a; intro a h
  replace h : Ag a 41 [(0, _), (12, _)] := h.sub (.cons rfl (.cons rfl .nil))
  refine wnt ?_
  first | refine cond_dec h rfl (fun c1 => ?_) (fun c1 => ?_) | refine cond_ndec h rfl (fun c1 => ?_) (fun c1 => ?_) | refine cond_split h rfl (fun c1 => ?_) (fun c1 => ?_)
  ·refine id ?_
   refine wp_seq ?_
   refine wR ?_
   refine st_assign h rfl rfl ?_; clear h a; intro a h
   replace h : Ag a 41 [(2, _)] := h.sub (.cons rfl .nil)
   refine wnt ?_
   refine wp_ret (ret_then ?_)
   refine ret1 h Tryd.results95 rfl ?_
   exact ⟨_, rfl, by rw [row1 (by omega) (by omega)], hf⟩
  ·refine id ?_
   refine wsn ?_
   refine wp_seq ?_
   refine wp_seq ?_
   refine wR ?_
   refine st_move h rfl rfl ?_; clear h a; intro a h
   refine st_lenS h rfl Tryd.underlying61 rfl ?_; clear h a; intro a h
   refine st_move h rfl rfl ?_; clear h a; intro a h
   replace h : Ag a 41 [(0, _), (13, _), (14, _), (15, _)] := h.sub (.cons rfl (.cons rfl (.cons rfl (.cons rfl .nil))))
   refine wnt ?_
   refine wp_block ?_
   refine loop (ι := Nat) (fun k => [(0, .slice A xs.length c), (13, .slice A xs.length c), (14, .int .i64 (xs.length : Int)), (15, .int .i64 (k : Int))]) (fun k w' => k ≤ xs.length ∧ (xs.take k).all okB = true ∧ Fr [] w0 w') (fun k => xs.length - k) 0 (h.sub (.cons rfl (.cons rfl (.cons rfl (.cons rfl .nil))))) ⟨by omega, rfl, hf⟩ ?_
   clear h a hf
   rintro k w1 a h ⟨hk, ha, hf⟩
   refine wp_seq ?_
   refine wR ?_
   refine st_lt h rfl rfl rfl ?_; clear h a; intro a h
   refine wnt ?_
   refine wp_seq ?_
   first | refine cond_dec h rfl (fun c2 => ?_) (fun c2 => ?_) | refine cond_ndec h rfl (fun c2 => ?_) (fun c2 => ?_) | refine cond_split h rfl (fun c2 => ?_) (fun c2 => ?_)
   ·obtain ⟨x, hxk⟩ : ∃ x, xs[k]? = some x := ⟨_, List.getElem?_eq_getElem (by omega)⟩
    obtain ⟨ad, hAd, ca⟩ := hA k x hxk
    refine wsn ?_
    refine wp_seq ?_
    refine wp_block ?_
    refine wp_seq ?_
    refine wR ?_
    refine st_idxS h (by rw [hAd]; rfl) rfl el61 (by omega) (by omega) rfl rfl ?_; clear h a; intro a h
    refine st_loadA h rfl (ca.fr hf (by simp)) ag100 rfl ?_; clear h a; intro a h
    refine st_alloc h zv100 rfl rfl ?_; clear h a; intro w2 hb4 hq hz a h
    obtain ⟨g_4, hg⟩ : ∃ g, g = w1.heap.size := ⟨_, rfl⟩; rw [← hg] at hb4 h hz
    have hl4 : w0.heap.size ≤ g_4 := by have := hf.size; omega
    replace hf := hf.next hq
    clear hq hz hg
    refine st_storeBA h rfl rfl hb4 rfl (by first | (simp [Value.oneCell', S]; done) | exact Enc.one _ _) sz100 ?_; clear h a; intro w3 hbn hq hz a h
    replace hf := hf.step hq (by first | (simp; done) | (simp; omega))
    clear hb4 hq hz; have hb4 : Blk w3 g_4 _ [_, _, _, _, _] := hbn; clear hbn
    replace h : Ag a 41 [(0, _), (4, _), (13, _), (14, _), (15, _)] := h.sub (.cons rfl (.cons rfl (.cons rfl (.cons rfl (.cons rfl .nil)))))
    refine wnt ?_
    refine wp_seq ?_
    refine wR ?_
    refine st_loadBA h rfl hb4 ag100 rfl ?_; clear h a; intro a h
    refine st_call h (evs_cons rfl evs_nil) co68 (check_ok x _) rfl ?_; clear h a; rintro _ w4 ⟨rfl, hq⟩ a h
    replace hf := hf.next hq
    replace hb4 := hb4.ext hq
    clear hq
    refine st_ne h rfl rfl rfl ?_; clear h a; intro a h
    replace h : Ag a 41 [(0, _), (13, _), (14, _), (15, _), (21, _)] := h.sub (.cons rfl (.cons rfl (.cons rfl (.cons rfl (.cons rfl .nil)))))
    refine wnt ?_
    first | refine cond_dec h rfl (fun c3 => ?_) (fun c3 => ?_) | refine cond_ndec h rfl (fun c3 => ?_) (fun c3 => ?_) | refine cond_split h rfl (fun c3 => ?_) (fun c3 => ?_)
    ·have c3' : checkS x ≠ 0 := c3
     refine wp_seq ?_
     refine wR ?_
     refine st_assign h rfl rfl ?_; clear h a; intro a h
     replace h : Ag a 41 [(2, _)] := h.sub (.cons rfl .nil)
     refine wnt ?_
     refine wp_ret (ret_blk (ret_then (ret_then (ret_blk (ret_then ?_)))))
     refine ret1 h Tryd.results95 rfl ?_
     exact ⟨_, rfl, by rw [row1b (by omega) hxk c3'], hf⟩
    ·have c3' : checkS x = 0 := Decidable.not_not.1 c3
     refine wp_skip (norm_blk (norm_then ?_))
     refine wR ?_
     refine st_add h rfl rfl (by first | exact IntWalk.i64_in _ (by omega) | rfl) rfl ?_; clear h a; intro a h
     refine st_move h rfl rfl ?_; clear h a; intro a h
     replace h : Ag a 41 [(0, _), (13, _), (14, _), (15, _)] := h.sub (.cons rfl (.cons rfl (.cons rfl (.cons rfl .nil))))
     refine wnt ?_
     exact ⟨k + 1, h.sub (.cons rfl (.cons rfl (.cons rfl (.cons rfl .nil)))), ⟨by omega, by rw [List.take_add_one, hxk]; exact all_snocS _ _ ha ((okB_iff _).2 c3'), hf⟩, by omega⟩
   ·obtain rfl : k = xs.length := by omega
    rw [List.take_length] at ha
    refine wp_exit (exit_then (exit_then (exit_here (norm_then ?_))))
    refine wp_seq ?_
    refine wR ?_
    refine st_move h rfl rfl ?_; clear h a; intro a h
    refine st_call h (evs_cons rfl evs_nil) co48 (cneeds_ok _ xs _ (hu.ext hf) (by omega)) rfl ?_; clear h a; rintro _ w5 ⟨rfl, hq⟩ a h
    replace hf := hf.next hq
    clear hq
    refine st_move h rfl rfl ?_; clear h a; intro a h
    refine st_call h (evs_cons rfl evs_nil) co49 (cmakes_ok _ xs _ (hu.ext hf) (by omega)) rfl ?_; clear h a; rintro _ w6 ⟨rfl, hq⟩ a h
    replace hf := hf.next hq
    clear hq
    refine st_assign h rfl rfl ?_; clear h a; intro a h
    refine st_assign h rfl rfl ?_; clear h a; intro a h
    replace h : Ag a 41 [(5, _), (6, _)] := h.sub (.cons rfl (.cons rfl .nil))
    refine wnt ?_
    refine wp_seq ?_
    refine wp_seq ?_
    refine region_bool (r := 40) (L' := []) (needsR xs < 1 ∨ 16 < needsR xs ∨ makesR xs < 1 ∨ 16 < makesR xs) h .nil ?_ ?_
    ·refine id ?_
     refine st_move h rfl rfl ?_; clear h a; intro a h
     refine st_lt h rfl rfl rfl ?_; clear h a; intro a h
     refine st_move h rfl rfl ?_; clear h a; intro a h
     first | refine guard_dec (D := 29) h rfl ?_ ?_ | refine guard_ndec (D := 29) h rfl ?_ ?_ | refine guard_any (D := 29) h rfl ?_ ?_
     ·clear h; intro g0 h
      refine gd_no h rfl rfl rfl rfl rfl rfl rfl rfl ?_; clear h a; intro a h
      refine gd_no h rfl rfl rfl rfl rfl rfl rfl rfl ?_; clear h a; intro a h
      refine st_pick_t h rfl rfl rfl rfl ?_; clear h a; intro a h
      refine st_move h rfl rfl ?_; clear h a; intro a h
      refine gd_no h rfl rfl rfl rfl rfl rfl rfl rfl ?_; clear h a; intro a h
      refine gd_no h rfl rfl rfl rfl rfl rfl rfl rfl ?_; clear h a; intro a h
      refine st_pick_t h rfl rfl rfl rfl ?_; clear h a; intro a h
      refine st_move h rfl rfl ?_; clear h a; intro a h
      refine gd_no h rfl rfl rfl rfl rfl rfl rfl rfl ?_; clear h a; intro a h
      refine gd_no h rfl rfl rfl rfl rfl rfl rfl rfl ?_; clear h a; intro a h
      refine st_pick_t h rfl rfl rfl rfl ?_; clear h a; intro a h
      exact wpList_nil (bool_end h rfl (by first | exact bt (by omega) | exact bf (by omega) | exact bi (by omega) | exact bn (by omega)) .nil)
     ·clear h; intro g0 h
      refine gd_yes h rfl rfl rfl rfl rfl rfl ?_
      refine st_move h rfl rfl ?_; clear h a; intro a h
      refine gd_yes h rfl rfl rfl rfl rfl rfl ?_
      refine st_gt h rfl rfl rfl ?_; clear h a; intro a h
      refine st_pick_f h rfl rfl rfl rfl ?_; clear h a; intro a h
      refine st_move h rfl rfl ?_; clear h a; intro a h
      first | refine guard_dec (D := 33) h rfl ?_ ?_ | refine guard_ndec (D := 33) h rfl ?_ ?_ | refine guard_any (D := 33) h rfl ?_ ?_
      ·clear h; intro g1 h
       refine gd_no h rfl rfl rfl rfl rfl rfl rfl rfl ?_; clear h a; intro a h
       refine gd_no h rfl rfl rfl rfl rfl rfl rfl rfl ?_; clear h a; intro a h
       refine st_pick_t h rfl rfl rfl rfl ?_; clear h a; intro a h
       refine st_move h rfl rfl ?_; clear h a; intro a h
       refine gd_no h rfl rfl rfl rfl rfl rfl rfl rfl ?_; clear h a; intro a h
       refine gd_no h rfl rfl rfl rfl rfl rfl rfl rfl ?_; clear h a; intro a h
       refine st_pick_t h rfl rfl rfl rfl ?_; clear h a; intro a h
       exact wpList_nil (bool_end h rfl (by first | exact bt (by omega) | exact bf (by omega) | exact bi (by omega) | exact bn (by omega)) .nil)
      ·clear h; intro g1 h
       refine gd_yes h rfl rfl rfl rfl rfl rfl ?_
       refine st_move h rfl rfl ?_; clear h a; intro a h
       refine gd_yes h rfl rfl rfl rfl rfl rfl ?_
       refine st_lt h rfl rfl rfl ?_; clear h a; intro a h
       refine st_pick_f h rfl rfl rfl rfl ?_; clear h a; intro a h
       refine st_move h rfl rfl ?_; clear h a; intro a h
       first | refine guard_dec (D := 37) h rfl ?_ ?_ | refine guard_ndec (D := 37) h rfl ?_ ?_ | refine guard_any (D := 37) h rfl ?_ ?_
       ·clear h; intro g2 h
        refine gd_no h rfl rfl rfl rfl rfl rfl rfl rfl ?_; clear h a; intro a h
        refine gd_no h rfl rfl rfl rfl rfl rfl rfl rfl ?_; clear h a; intro a h
        refine st_pick_t h rfl rfl rfl rfl ?_; clear h a; intro a h
        exact wpList_nil (bool_end h rfl (by first | exact bt (by omega) | exact bf (by omega) | exact bi (by omega) | exact bn (by omega)) .nil)
       ·clear h; intro g2 h
        refine gd_yes h rfl rfl rfl rfl rfl rfl ?_
        refine st_move h rfl rfl ?_; clear h a; intro a h
        refine gd_yes h rfl rfl rfl rfl rfl rfl ?_
        refine st_gt h rfl rfl rfl ?_; clear h a; intro a h
        refine st_pick_f h rfl rfl rfl rfl ?_; clear h a; intro a h
        exact wpList_nil (bool_end h rfl (by first | exact bt (by omega) | exact bf (by omega) | exact bi (by omega) | exact bn (by omega)) .nil)
    ·clear h a; intro a h
     refine (norm_then ?_)
     first | refine cond_dec h rfl (fun c4 => ?_) (fun c4 => ?_) | refine cond_ndec h rfl (fun c4 => ?_) (fun c4 => ?_) | refine cond_split h rfl (fun c4 => ?_) (fun c4 => ?_)
     ·refine id ?_
      refine wp_seq ?_
      refine wR ?_
      refine st_assign h rfl rfl ?_; clear h a; intro a h
      replace h : Ag a 41 [(2, _)] := h.sub (.cons rfl .nil)
      refine wnt ?_
      refine wp_ret (ret_then ?_)
      refine ret1 h Tryd.results95 rfl ?_
      exact ⟨_, rfl, by rw [row5 (by omega) (by omega) ha c4], hf⟩
     ·refine id ?_
      refine wsn ?_
      refine wp_seq ?_
      refine wR ?_
      refine st_assign h rfl rfl ?_; clear h a; intro a h
      replace h : Ag a 41 [(2, _)] := h.sub (.cons rfl .nil)
      refine wnt ?_
      refine wp_ret ?_
      refine ret1 h Tryd.results95 rfl ?_
      exact ⟨_, rfl, by rw [row0 (by omega) (by omega) ha c4], hf⟩
theorem rneeds_ok (u : Value) (xs : List Stitch) (w0 : World) (hu : Sl encSt w0 u xs) (hR : ∀ x ∈ xs, 0 ≤ x.k ∧ 0 ≤ x.y) (h16 : xs.length ≤ 16) : Rets Tryd.prog 70 #[u] w0 fun v w' => v = .int .i64 (needsR xs) ∧ Fr [] w0 w' := by
 obtain ⟨A, c, rfl, hcp⟩ := hu.form
 obtain ⟨-, -, hM, hA⟩ := Sl.open_ hu
 unfold maxLen at hM
 refine enter [(0, .slice A xs.length c)] Tryd.func70 rfl Tryd.ntmps70 rfl (.cons rfl .nil) ?_
 have hf := Fr.refl [] w0
 intro a h
 refine wp_seq ?_
 refine wR ?_
 refine st_assign h rfl rfl ?_; clear h a; intro a h
 replace h : Ag a 19 [(0, _)] := h.sub (.cons rfl .nil)
 refine wnt ?_
 refine wp_seq ?_
 refine wR ?_
 refine st_assign h rfl rfl ?_; clear h a; intro a h
 refine wnt ?_
 refine wp_seq ?_
 refine wp_seq ?_
 refine wR ?_
 refine st_assign h rfl rfl ?_; clear h a; intro a h
 refine wnt ?_
 refine wp_block ?_
 refine loop (ι := Nat) (fun k => [(0, .slice A xs.length c), (3, .int .i64 ((xs.take k).map needsS).sum), (4, .int .i64 (k : Int))]) (fun k w' => k ≤ xs.length ∧ Fr [] w0 w') (fun k => xs.length - k) 0 (h.sub (.cons rfl (.cons rfl (.cons rfl .nil)))) ⟨by omega, hf⟩ ?_
 clear h a hf
 rintro k w1 a h ⟨hk, hf⟩
 have hsr := sum_rng needs_rng (xs.take k)
 rw [List.length_take] at hsr
 refine wp_seq ?_
 refine wp_seq ?_
 refine wR ?_
 refine st_move h rfl rfl ?_; clear h a; intro a h
 refine st_move h rfl rfl ?_; clear h a; intro a h
 refine st_lenS h rfl Tryd.underlying61 rfl ?_; clear h a; intro a h
 refine st_lt h rfl rfl rfl ?_; clear h a; intro a h
 replace h : Ag a 19 [(0, _), (3, _), (4, _), (8, _)] := h.sub (.cons rfl (.cons rfl (.cons rfl (.cons rfl .nil))))
 refine wnt ?_
 first | refine cond_dec h rfl (fun c0 => ?_) (fun c0 => ?_) | refine cond_ndec h rfl (fun c0 => ?_) (fun c0 => ?_) | refine cond_split h rfl (fun c0 => ?_) (fun c0 => ?_)
 ·obtain ⟨x, hxk⟩ : ∃ x, xs[k]? = some x := ⟨_, List.getElem?_eq_getElem (by omega)⟩
  obtain ⟨ad, hAd, ca⟩ := hA k x hxk
  obtain ⟨p1, p2⟩ := hR x (List.mem_of_getElem? hxk)
  have hgx := needs_rng x
  refine wsn ?_
  refine wp_seq ?_
  refine wp_block ?_
  refine wR ?_
  refine st_move h rfl rfl ?_; clear h a; intro a h
  refine st_move h rfl rfl ?_; clear h a; intro a h
  refine st_move h rfl rfl ?_; clear h a; intro a h
  refine st_idxS h (by rw [hAd]; rfl) rfl el61 (by omega) (by omega) rfl rfl ?_; clear h a; intro a h
  refine st_loadA h rfl (ca.fr hf (by simp)) ag100 rfl ?_; clear h a; intro a h
  refine st_call h (evs_cons rfl evs_nil) co72 (refneeds_ok x _ p1 p2) rfl ?_; clear h a; rintro _ w2 ⟨rfl, hq⟩ a h
  replace hf := hf.next hq
  clear hq
  refine st_add h rfl rfl (by first | exact IntWalk.i64_in _ (by omega) | rfl) rfl ?_; clear h a; intro a h
  refine st_assign h rfl rfl ?_; clear h a; intro a h
  replace h : Ag a 19 [(0, _), (3, _), (4, _)] := h.sub (.cons rfl (.cons rfl (.cons rfl .nil)))
  refine wpList_nil (norm_blk (norm_then ?_))
  refine wR ?_
  refine st_move h rfl rfl ?_; clear h a; intro a h
  refine st_add h rfl rfl (by first | exact IntWalk.i64_in _ (by omega) | rfl) rfl ?_; clear h a; intro a h
  refine st_assign h rfl rfl ?_; clear h a; intro a h
  replace h : Ag a 19 [(0, _), (3, _), (4, _)] := h.sub (.cons rfl (.cons rfl (.cons rfl .nil)))
  refine wnt ?_
  exact ⟨k + 1, h.sub (.cons rfl (.cons (by rw [sum_next hxk]; rfl) (.cons rfl .nil))), ⟨by omega, hf⟩, by omega⟩
 ·obtain rfl : k = xs.length := by omega
  rw [List.take_length] at h
  refine wp_exit (exit_then (exit_then (exit_here (norm_then ?_))))
  refine wp_seq ?_
  refine wR ?_
  refine st_move h rfl rfl ?_; clear h a; intro a h
  refine st_assign h rfl rfl ?_; clear h a; intro a h
  replace h : Ag a 19 [(2, _)] := h.sub (.cons rfl .nil)
  refine wnt ?_
  refine wp_ret ?_
  refine ret1 h Tryd.results70 rfl ?_
  exact ⟨_, rfl, rfl, hf⟩
theorem rmakes_ok (u : Value) (xs : List Stitch) (w0 : World) (hu : Sl encSt w0 u xs) (hR : ∀ x ∈ xs, 0 ≤ x.k ∧ 0 ≤ x.y) (h16 : xs.length ≤ 16) : Rets Tryd.prog 71 #[u] w0 fun v w' => v = .int .i64 (makesR xs) ∧ Fr [] w0 w' := by
 obtain ⟨A, c, rfl, hcp⟩ := hu.form
 obtain ⟨-, -, hM, hA⟩ := Sl.open_ hu
 unfold maxLen at hM
 refine enter [(0, .slice A xs.length c)] Tryd.func71 rfl Tryd.ntmps71 rfl (.cons rfl .nil) ?_
 have hf := Fr.refl [] w0
 intro a h
 refine wp_seq ?_
 refine wR ?_
 refine st_assign h rfl rfl ?_; clear h a; intro a h
 replace h : Ag a 19 [(0, _)] := h.sub (.cons rfl .nil)
 refine wnt ?_
 refine wp_seq ?_
 refine wR ?_
 refine st_assign h rfl rfl ?_; clear h a; intro a h
 refine wnt ?_
 refine wp_seq ?_
 refine wp_seq ?_
 refine wR ?_
 refine st_assign h rfl rfl ?_; clear h a; intro a h
 refine wnt ?_
 refine wp_block ?_
 refine loop (ι := Nat) (fun k => [(0, .slice A xs.length c), (3, .int .i64 ((xs.take k).map makesS).sum), (4, .int .i64 (k : Int))]) (fun k w' => k ≤ xs.length ∧ Fr [] w0 w') (fun k => xs.length - k) 0 (h.sub (.cons rfl (.cons rfl (.cons rfl .nil)))) ⟨by omega, hf⟩ ?_
 clear h a hf
 rintro k w1 a h ⟨hk, hf⟩
 have hsr := sum_rng makes_rng (xs.take k)
 rw [List.length_take] at hsr
 refine wp_seq ?_
 refine wp_seq ?_
 refine wR ?_
 refine st_move h rfl rfl ?_; clear h a; intro a h
 refine st_move h rfl rfl ?_; clear h a; intro a h
 refine st_lenS h rfl Tryd.underlying61 rfl ?_; clear h a; intro a h
 refine st_lt h rfl rfl rfl ?_; clear h a; intro a h
 replace h : Ag a 19 [(0, _), (3, _), (4, _), (8, _)] := h.sub (.cons rfl (.cons rfl (.cons rfl (.cons rfl .nil))))
 refine wnt ?_
 first | refine cond_dec h rfl (fun c0 => ?_) (fun c0 => ?_) | refine cond_ndec h rfl (fun c0 => ?_) (fun c0 => ?_) | refine cond_split h rfl (fun c0 => ?_) (fun c0 => ?_)
 ·obtain ⟨x, hxk⟩ : ∃ x, xs[k]? = some x := ⟨_, List.getElem?_eq_getElem (by omega)⟩
  obtain ⟨ad, hAd, ca⟩ := hA k x hxk
  obtain ⟨p1, p2⟩ := hR x (List.mem_of_getElem? hxk)
  have hgx := makes_rng x
  refine wsn ?_
  refine wp_seq ?_
  refine wp_block ?_
  refine wR ?_
  refine st_move h rfl rfl ?_; clear h a; intro a h
  refine st_move h rfl rfl ?_; clear h a; intro a h
  refine st_move h rfl rfl ?_; clear h a; intro a h
  refine st_idxS h (by rw [hAd]; rfl) rfl el61 (by omega) (by omega) rfl rfl ?_; clear h a; intro a h
  refine st_loadA h rfl (ca.fr hf (by simp)) ag100 rfl ?_; clear h a; intro a h
  refine st_call h (evs_cons rfl evs_nil) co85 (refmakes_ok x _ p1 p2) rfl ?_; clear h a; rintro _ w2 ⟨rfl, hq⟩ a h
  replace hf := hf.next hq
  clear hq
  refine st_add h rfl rfl (by first | exact IntWalk.i64_in _ (by omega) | rfl) rfl ?_; clear h a; intro a h
  refine st_assign h rfl rfl ?_; clear h a; intro a h
  replace h : Ag a 19 [(0, _), (3, _), (4, _)] := h.sub (.cons rfl (.cons rfl (.cons rfl .nil)))
  refine wpList_nil (norm_blk (norm_then ?_))
  refine wR ?_
  refine st_move h rfl rfl ?_; clear h a; intro a h
  refine st_add h rfl rfl (by first | exact IntWalk.i64_in _ (by omega) | rfl) rfl ?_; clear h a; intro a h
  refine st_assign h rfl rfl ?_; clear h a; intro a h
  replace h : Ag a 19 [(0, _), (3, _), (4, _)] := h.sub (.cons rfl (.cons rfl (.cons rfl .nil)))
  refine wnt ?_
  exact ⟨k + 1, h.sub (.cons rfl (.cons (by rw [sum_next hxk]; rfl) (.cons rfl .nil))), ⟨by omega, hf⟩, by omega⟩
 ·obtain rfl : k = xs.length := by omega
  rw [List.take_length] at h
  refine wp_exit (exit_then (exit_then (exit_here (norm_then ?_))))
  refine wp_seq ?_
  refine wR ?_
  refine st_move h rfl rfl ?_; clear h a; intro a h
  refine st_assign h rfl rfl ?_; clear h a; intro a h
  replace h : Ag a 19 [(2, _)] := h.sub (.cons rfl .nil)
  refine wnt ?_
  refine wp_ret ?_
  refine ret1 h Tryd.results71 rfl ?_
  exact ⟨_, rfl, rfl, hf⟩
theorem refrow_ok (u : Value) (xs : List Stitch) (w0 : World) (hu : Sl encSt w0 u xs) (hR : ∀ x ∈ xs, 0 ≤ x.k ∧ 0 ≤ x.y) : Rets Tryd.prog 69 #[u] w0 fun v w' => v = .int .i64 (rowE xs) ∧ Fr [] w0 w' := by
 obtain ⟨A, c, rfl, hcp⟩ := hu.form
 obtain ⟨-, -, hM, hA⟩ := Sl.open_ hu
 unfold maxLen at hM
 refine enter [(0, .slice A xs.length c)] Tryd.func69 rfl Tryd.ntmps69 rfl (.cons rfl .nil) ?_
 have hf := Fr.refl [] w0
 intro a h
 refine wp_seq ?_
 refine wR ?_
 refine st_assign h rfl rfl ?_; clear h a; intro a h
 replace h : Ag a 40 [(0, _)] := h.sub (.cons rfl .nil)
 refine wnt ?_
 refine wp_seq ?_
 refine wp_seq ?_
 refine wR ?_
 refine st_move h rfl rfl ?_; clear h a; intro a h
 refine st_lenS h rfl Tryd.underlying61 rfl ?_; clear h a; intro a h
 refine st_gt h rfl rfl rfl ?_; clear h a; intro a h
 replace h : Ag a 40 [(0, _), (6, _)] := h.sub (.cons rfl (.cons rfl .nil))
 refine wnt ?_
 first | refine cond_dec h rfl (fun c0 => ?_) (fun c0 => ?_) | refine cond_ndec h rfl (fun c0 => ?_) (fun c0 => ?_) | refine cond_split h rfl (fun c0 => ?_) (fun c0 => ?_)
 ·refine id ?_
  refine wp_seq ?_
  refine wR ?_
  refine st_assign h rfl rfl ?_; clear h a; intro a h
  replace h : Ag a 40 [(2, _)] := h.sub (.cons rfl .nil)
  refine wnt ?_
  refine wp_ret (ret_then ?_)
  refine ret1 h Tryd.results69 rfl ?_
  exact ⟨_, rfl, by rw [row3 (by omega)], hf⟩
 ·refine id ?_
  refine wsn ?_
  refine wp_seq ?_
  refine wp_seq ?_
  refine wR ?_
  refine st_move h rfl rfl ?_; clear h a; intro a h
  refine st_lenS h rfl Tryd.underlying61 rfl ?_; clear h a; intro a h
  refine st_eq h rfl rfl rfl ?_; clear h a; intro a h
  replace h : Ag a 40 [(0, _), (9, _)] := h.sub (.cons rfl (.cons rfl .nil))
  refine wnt ?_
  first | refine cond_dec h rfl (fun c1 => ?_) (fun c1 => ?_) | refine cond_ndec h rfl (fun c1 => ?_) (fun c1 => ?_) | refine cond_split h rfl (fun c1 => ?_) (fun c1 => ?_)
  ·refine id ?_
   refine wp_seq ?_
   refine wR ?_
   refine st_assign h rfl rfl ?_; clear h a; intro a h
   replace h : Ag a 40 [(2, _)] := h.sub (.cons rfl .nil)
   refine wnt ?_
   refine wp_ret (ret_then ?_)
   refine ret1 h Tryd.results69 rfl ?_
   exact ⟨_, rfl, by rw [row1 (by omega) (by omega)], hf⟩
  ·refine id ?_
   refine wsn ?_
   refine wp_seq ?_
   refine wp_seq ?_
   refine wR ?_
   refine st_assign h rfl rfl ?_; clear h a; intro a h
   replace h : Ag a 40 [(0, _), (3, _)] := h.sub (.cons rfl (.cons rfl .nil))
   refine wnt ?_
   refine wp_block ?_
   refine loop (ι := Nat) (fun k => [(0, .slice A xs.length c), (3, .int .i64 (k : Int))]) (fun k w' => k ≤ xs.length ∧ (xs.take k).all okB = true ∧ Fr [] w0 w') (fun k => xs.length - k) 0 (h.sub (.cons rfl (.cons rfl .nil))) ⟨by omega, rfl, hf⟩ ?_
   clear h a hf
   rintro k w1 a h ⟨hk, ha, hf⟩
   refine wp_seq ?_
   refine wp_seq ?_
   refine wR ?_
   refine st_move h rfl rfl ?_; clear h a; intro a h
   refine st_move h rfl rfl ?_; clear h a; intro a h
   refine st_lenS h rfl Tryd.underlying61 rfl ?_; clear h a; intro a h
   refine st_lt h rfl rfl rfl ?_; clear h a; intro a h
   replace h : Ag a 40 [(0, _), (3, _), (13, _)] := h.sub (.cons rfl (.cons rfl (.cons rfl .nil)))
   refine wnt ?_
   first | refine cond_dec h rfl (fun c2 => ?_) (fun c2 => ?_) | refine cond_ndec h rfl (fun c2 => ?_) (fun c2 => ?_) | refine cond_split h rfl (fun c2 => ?_) (fun c2 => ?_)
   ·obtain ⟨x, hxk⟩ : ∃ x, xs[k]? = some x := ⟨_, List.getElem?_eq_getElem (by omega)⟩
    obtain ⟨ad, hAd, ca⟩ := hA k x hxk
    obtain ⟨p1, p2⟩ := hR x (List.mem_of_getElem? hxk)
    refine wsn ?_
    refine wp_seq ?_
    refine wp_block ?_
    refine wp_seq ?_
    refine wR ?_
    refine st_move h rfl rfl ?_; clear h a; intro a h
    refine st_move h rfl rfl ?_; clear h a; intro a h
    refine st_idxS h (by rw [hAd]; rfl) rfl el61 (by omega) (by omega) rfl rfl ?_; clear h a; intro a h
    refine st_loadA h rfl (ca.fr hf (by simp)) ag100 rfl ?_; clear h a; intro a h
    refine st_call h (evs_cons rfl evs_nil) co42 (valid_ok x _ p1 p2) rfl ?_; clear h a; rintro _ w2 ⟨rfl, hq⟩ a h
    replace hf := hf.next hq
    clear hq
    refine st_eq h rfl rfl rfl ?_; clear h a; intro a h
    replace h : Ag a 40 [(0, _), (3, _), (21, _)] := h.sub (.cons rfl (.cons rfl (.cons rfl .nil)))
    refine wnt ?_
    first | refine cond_dec h rfl (fun c3 => ?_) (fun c3 => ?_) | refine cond_ndec h rfl (fun c3 => ?_) (fun c3 => ?_) | refine cond_split h rfl (fun c3 => ?_) (fun c3 => ?_)
    ·have c3' : checkS x ≠ 0 := fun e => by rw [if_pos e] at c3; omega
     refine wp_seq ?_
     refine wR ?_
     refine st_assign h rfl rfl ?_; clear h a; intro a h
     replace h : Ag a 40 [(2, _)] := h.sub (.cons rfl .nil)
     refine wnt ?_
     refine wp_ret (ret_blk (ret_then (ret_then (ret_blk (ret_then ?_)))))
     refine ret1 h Tryd.results69 rfl ?_
     exact ⟨_, rfl, by rw [row1b (by omega) hxk c3'], hf⟩
    ·have c3' : checkS x = 0 := Decidable.not_not.1 fun e => c3 (if_neg e)
     refine wp_skip (norm_blk (norm_then ?_))
     refine wR ?_
     refine st_move h rfl rfl ?_; clear h a; intro a h
     refine st_add h rfl rfl (by first | exact IntWalk.i64_in _ (by omega) | rfl) rfl ?_; clear h a; intro a h
     refine st_assign h rfl rfl ?_; clear h a; intro a h
     replace h : Ag a 40 [(0, _), (3, _)] := h.sub (.cons rfl (.cons rfl .nil))
     refine wnt ?_
     exact ⟨k + 1, h.sub (.cons rfl (.cons rfl .nil)), ⟨by omega, by rw [List.take_add_one, hxk]; exact all_snocS _ _ ha ((okB_iff _).2 c3'), hf⟩, by omega⟩
   ·obtain rfl : k = xs.length := by omega
    rw [List.take_length] at ha
    refine wp_exit (exit_then (exit_then (exit_here (norm_then ?_))))
    refine wp_seq ?_
    refine wp_seq ?_
    refine wR ?_
    refine st_move h rfl rfl ?_; clear h a; intro a h
    refine st_call h (evs_cons rfl evs_nil) co70 (rneeds_ok _ xs _ (hu.ext hf) hR (by omega)) rfl ?_; clear h a; rintro _ w3 ⟨rfl, hq⟩ a h
    replace hf := hf.next hq
    clear hq
    refine st_lt h rfl rfl rfl ?_; clear h a; intro a h
    refine st_move h rfl rfl ?_; clear h a; intro a h
    first | refine guard_dec (D := 25) h rfl ?_ ?_ | refine guard_ndec (D := 25) h rfl ?_ ?_ | refine guard_any (D := 25) h rfl ?_ ?_
    ·clear h; intro g0 h
     refine gd_no h rfl rfl rfl rfl rfl rfl rfl rfl ?_; clear h a; intro a h
     refine gd_no h rfl rfl rfl rfl rfl rfl rfl rfl ?_; clear h a; intro a h
     refine gd_no h rfl rfl rfl rfl rfl rfl rfl rfl ?_; clear h a; intro a h
     refine st_pick_t h rfl rfl rfl rfl ?_; clear h a; intro a h
     refine st_move h rfl rfl ?_; clear h a; intro a h
     refine gd_no h rfl rfl rfl rfl rfl rfl rfl rfl ?_; clear h a; intro a h
     refine gd_no h rfl rfl rfl rfl rfl rfl rfl rfl ?_; clear h a; intro a h
     refine gd_no h rfl rfl rfl rfl rfl rfl rfl rfl ?_; clear h a; intro a h
     refine st_pick_t h rfl rfl rfl rfl ?_; clear h a; intro a h
     refine st_move h rfl rfl ?_; clear h a; intro a h
     refine gd_no h rfl rfl rfl rfl rfl rfl rfl rfl ?_; clear h a; intro a h
     refine gd_no h rfl rfl rfl rfl rfl rfl rfl rfl ?_; clear h a; intro a h
     refine gd_no h rfl rfl rfl rfl rfl rfl rfl rfl ?_; clear h a; intro a h
     refine st_pick_t h rfl rfl rfl rfl ?_; clear h a; intro a h
     replace h : Ag a 40 [(39, _)] := h.sub (.cons rfl .nil)
     refine wnt ?_
     refine cond_true h rfl ?_
     refine wp_seq ?_
     refine wR ?_
     refine st_assign h rfl rfl ?_; clear h a; intro a h
     replace h : Ag a 40 [(2, _)] := h.sub (.cons rfl .nil)
     refine wnt ?_
     refine wp_ret (ret_then ?_)
     refine ret1 h Tryd.results69 rfl ?_
     exact ⟨_, rfl, by first | rw [row5 (by omega) (by omega) ha (by omega)] | rw [row0 (by omega) (by omega) ha (by omega)], hf⟩
    ·clear h; intro g0 h
     refine gd_yes h rfl rfl rfl rfl rfl rfl ?_
     refine st_move h rfl rfl ?_; clear h a; intro a h
     refine gd_yes h rfl rfl rfl rfl rfl rfl ?_
     refine st_call h (evs_cons rfl evs_nil) co70 (rneeds_ok _ xs _ (hu.ext hf) hR (by omega)) rfl ?_; clear h a; rintro _ w4 ⟨rfl, hq⟩ a h
     replace hf := hf.next hq
     clear hq
     refine gd_yes h rfl rfl rfl rfl rfl rfl ?_
     refine st_gt h rfl rfl rfl ?_; clear h a; intro a h
     refine st_pick_f h rfl rfl rfl rfl ?_; clear h a; intro a h
     refine st_move h rfl rfl ?_; clear h a; intro a h
     first | refine guard_dec (D := 30) h rfl ?_ ?_ | refine guard_ndec (D := 30) h rfl ?_ ?_ | refine guard_any (D := 30) h rfl ?_ ?_
     ·clear h; intro g1 h
      refine gd_no h rfl rfl rfl rfl rfl rfl rfl rfl ?_; clear h a; intro a h
      refine gd_no h rfl rfl rfl rfl rfl rfl rfl rfl ?_; clear h a; intro a h
      refine gd_no h rfl rfl rfl rfl rfl rfl rfl rfl ?_; clear h a; intro a h
      refine st_pick_t h rfl rfl rfl rfl ?_; clear h a; intro a h
      refine st_move h rfl rfl ?_; clear h a; intro a h
      refine gd_no h rfl rfl rfl rfl rfl rfl rfl rfl ?_; clear h a; intro a h
      refine gd_no h rfl rfl rfl rfl rfl rfl rfl rfl ?_; clear h a; intro a h
      refine gd_no h rfl rfl rfl rfl rfl rfl rfl rfl ?_; clear h a; intro a h
      refine st_pick_t h rfl rfl rfl rfl ?_; clear h a; intro a h
      replace h : Ag a 40 [(39, _)] := h.sub (.cons rfl .nil)
      refine wnt ?_
      refine cond_true h rfl ?_
      refine wp_seq ?_
      refine wR ?_
      refine st_assign h rfl rfl ?_; clear h a; intro a h
      replace h : Ag a 40 [(2, _)] := h.sub (.cons rfl .nil)
      refine wnt ?_
      refine wp_ret (ret_then ?_)
      refine ret1 h Tryd.results69 rfl ?_
      exact ⟨_, rfl, by first | rw [row5 (by omega) (by omega) ha (by omega)] | rw [row0 (by omega) (by omega) ha (by omega)], hf⟩
     ·clear h; intro g1 h
      refine gd_yes h rfl rfl rfl rfl rfl rfl ?_
      refine st_move h rfl rfl ?_; clear h a; intro a h
      refine gd_yes h rfl rfl rfl rfl rfl rfl ?_
      refine st_call h (evs_cons rfl evs_nil) co71 (rmakes_ok _ xs _ (hu.ext hf) hR (by omega)) rfl ?_; clear h a; rintro _ w5 ⟨rfl, hq⟩ a h
      replace hf := hf.next hq
      clear hq
      refine gd_yes h rfl rfl rfl rfl rfl rfl ?_
      refine st_lt h rfl rfl rfl ?_; clear h a; intro a h
      refine st_pick_f h rfl rfl rfl rfl ?_; clear h a; intro a h
      refine st_move h rfl rfl ?_; clear h a; intro a h
      first | refine guard_dec (D := 35) h rfl ?_ ?_ | refine guard_ndec (D := 35) h rfl ?_ ?_ | refine guard_any (D := 35) h rfl ?_ ?_
      ·clear h; intro g2 h
       refine gd_no h rfl rfl rfl rfl rfl rfl rfl rfl ?_; clear h a; intro a h
       refine gd_no h rfl rfl rfl rfl rfl rfl rfl rfl ?_; clear h a; intro a h
       refine gd_no h rfl rfl rfl rfl rfl rfl rfl rfl ?_; clear h a; intro a h
       refine st_pick_t h rfl rfl rfl rfl ?_; clear h a; intro a h
       replace h : Ag a 40 [(39, _)] := h.sub (.cons rfl .nil)
       refine wnt ?_
       refine cond_true h rfl ?_
       refine wp_seq ?_
       refine wR ?_
       refine st_assign h rfl rfl ?_; clear h a; intro a h
       replace h : Ag a 40 [(2, _)] := h.sub (.cons rfl .nil)
       refine wnt ?_
       refine wp_ret (ret_then ?_)
       refine ret1 h Tryd.results69 rfl ?_
       exact ⟨_, rfl, by first | rw [row5 (by omega) (by omega) ha (by omega)] | rw [row0 (by omega) (by omega) ha (by omega)], hf⟩
      ·clear h; intro g2 h
       refine gd_yes h rfl rfl rfl rfl rfl rfl ?_
       refine st_move h rfl rfl ?_; clear h a; intro a h
       refine gd_yes h rfl rfl rfl rfl rfl rfl ?_
       refine st_call h (evs_cons rfl evs_nil) co71 (rmakes_ok _ xs _ (hu.ext hf) hR (by omega)) rfl ?_; clear h a; rintro _ w6 ⟨rfl, hq⟩ a h
       replace hf := hf.next hq
       clear hq
       refine gd_yes h rfl rfl rfl rfl rfl rfl ?_
       refine st_gt h rfl rfl rfl ?_; clear h a; intro a h
       refine st_pick_f h rfl rfl rfl rfl ?_; clear h a; intro a h
       replace h : Ag a 40 [(39, _)] := h.sub (.cons rfl .nil)
       refine wnt ?_
       first | refine cond_dec h rfl (fun c4 => ?_) (fun c4 => ?_) | refine cond_ndec h rfl (fun c4 => ?_) (fun c4 => ?_) | refine cond_split h rfl (fun c4 => ?_) (fun c4 => ?_)
       ·refine id ?_
        refine wp_seq ?_
        refine wR ?_
        refine st_assign h rfl rfl ?_; clear h a; intro a h
        replace h : Ag a 40 [(2, _)] := h.sub (.cons rfl .nil)
        refine wnt ?_
        refine wp_ret (ret_then ?_)
        refine ret1 h Tryd.results69 rfl ?_
        exact ⟨_, rfl, by first | rw [row5 (by omega) (by omega) ha (by omega)] | rw [row0 (by omega) (by omega) ha (by omega)], hf⟩
       ·refine id ?_
        refine wsn ?_
        refine wp_seq ?_
        refine wR ?_
        refine st_assign h rfl rfl ?_; clear h a; intro a h
        replace h : Ag a 40 [(2, _)] := h.sub (.cons rfl .nil)
        refine wnt ?_
        refine wp_ret ?_
        refine ret1 h Tryd.results69 rfl ?_
        exact ⟨_, rfl, by first | rw [row5 (by omega) (by omega) ha (by omega)] | rw [row0 (by omega) (by omega) ha (by omega)], hf⟩
end Go.Proofs.YthehggmdcmpjeaaDoor
namespace Go.Proofs.YthehggmdcmpjeaaDoor
open Go.Lw Go.G14
theorem co95 : CallOf Tryd.prog 95 := CallOf.mk' Tryd.func95 (by kernel_rfl) (by kernel_rfl)
theorem checkrows_ok (u : Value) (rows : List (List Stitch)) (w0 : World) (hS : Sll encSt w0 u rows) : Rets Tryd.prog 83 #[u] w0 fun v w' => v = .int .i64 (rowsE rows) ∧ Fr [] w0 w' := by
 obtain ⟨A, c, rfl, hcp, hM⟩ := hS.form
 unfold maxLen at hM
 refine enter [(0, .slice A rows.length c)] Tryd.func83 rfl Tryd.ntmps83 rfl (.cons rfl .nil) ?_
 have hf := Fr.refl [] w0
 intro a h
 refine wp_seq ?_
 refine wR ?_
 refine st_assign h rfl rfl ?_; clear h a; intro a h
 replace h : Ag a 44 [(0, _)] := h.sub (.cons rfl .nil)
 refine wnt ?_
 refine wp_seq ?_
 refine wp_seq ?_
 refine wR ?_
 refine st_move h rfl rfl ?_; clear h a; intro a h
 refine st_lenS h rfl Tryd.underlying45 rfl ?_; clear h a; intro a h
 refine st_gt h rfl rfl rfl ?_; clear h a; intro a h
 replace h : Ag a 44 [(0, _), (9, _)] := h.sub (.cons rfl (.cons rfl .nil))
 refine wnt ?_
 first | refine cond_dec h rfl (fun c0 => ?_) (fun c0 => ?_) | refine cond_ndec h rfl (fun c0 => ?_) (fun c0 => ?_) | refine cond_split h rfl (fun c0 => ?_) (fun c0 => ?_)
 ·refine id ?_
  refine wp_seq ?_
  refine wR ?_
  refine st_assign h rfl rfl ?_; clear h a; intro a h
  replace h : Ag a 44 [(2, _)] := h.sub (.cons rfl .nil)
  refine wnt ?_
  refine wp_ret (ret_then ?_)
  refine ret1 h Tryd.results83 rfl ?_
  exact ⟨_, rfl, by rw [rows3 (by omega)], hf⟩
 ·refine id ?_
  refine wsn ?_
  refine wp_seq ?_
  refine wp_seq ?_
  refine wR ?_
  refine st_move h rfl rfl ?_; clear h a; intro a h
  refine st_lenS h rfl Tryd.underlying45 rfl ?_; clear h a; intro a h
  refine st_rem h rfl rfl (by omega) (by first | exact IntWalk.rem_in _ _ (by omega) | rfl) rfl ?_; clear h a; intro a h
  refine st_eq h rfl rfl rfl ?_; clear h a; intro a h
  replace h : Ag a 44 [(0, _), (13, _)] := h.sub (.cons rfl (.cons rfl .nil))
  refine wnt ?_
  first | refine cond_dec h rfl (fun c1 => ?_) (fun c1 => ?_) | refine cond_ndec h rfl (fun c1 => ?_) (fun c1 => ?_) | refine cond_split h rfl (fun c1 => ?_) (fun c1 => ?_)
  ·refine id ?_
   refine wp_seq ?_
   refine wR ?_
   refine st_assign h rfl rfl ?_; clear h a; intro a h
   replace h : Ag a 44 [(2, _)] := h.sub (.cons rfl .nil)
   refine wnt ?_
   refine wp_ret (ret_then ?_)
   refine ret1 h Tryd.results83 rfl ?_
   exact ⟨_, rfl, by rw [rows1 (by omega) (by omega)], hf⟩
  ·refine id ?_
   refine wsn ?_
   refine wp_seq ?_
   refine wp_seq ?_
   refine wR ?_
   refine st_move h rfl rfl ?_; clear h a; intro a h
   refine st_lenS h rfl Tryd.underlying45 rfl ?_; clear h a; intro a h
   refine st_move h rfl rfl ?_; clear h a; intro a h
   replace h : Ag a 44 [(0, _), (14, _), (15, _), (16, _)] := h.sub (.cons rfl (.cons rfl (.cons rfl (.cons rfl .nil))))
   refine wnt ?_
   refine wp_block ?_
   refine loop (ι := Nat) (fun k => [(0, .slice A rows.length c), (14, .slice A rows.length c), (15, .int .i64 (rows.length : Int)), (16, .int .i64 (k : Int))]) (fun k w' => k ≤ rows.length ∧ (∀ (i : Nat) (q : List Stitch), i < k → rows[i]? = some q → rowE q = 0) ∧ Fr [] w0 w') (fun k => rows.length - k) 0 (h.sub (.cons rfl (.cons rfl (.cons rfl (.cons rfl .nil))))) ⟨by omega, fun i q h => by omega, hf⟩ ?_
   clear h a hf
   rintro k w1 a h ⟨hk, hz, hf⟩
   refine wp_seq ?_
   refine wR ?_
   refine st_lt h rfl rfl rfl ?_; clear h a; intro a h
   refine wnt ?_
   refine wp_seq ?_
   first | refine cond_dec h rfl (fun c2 => ?_) (fun c2 => ?_) | refine cond_ndec h rfl (fun c2 => ?_) (fun c2 => ?_) | refine cond_split h rfl (fun c2 => ?_) (fun c2 => ?_)
   ·obtain ⟨r, hrk⟩ : ∃ r, rows[k]? = some r := ⟨_, List.getElem?_eq_getElem (by omega)⟩
    obtain ⟨RA, rc, ad, hAd, cc, hr, hrc, hrm⟩ := (hS.ext hf).row hrk
    unfold maxLen at hrm
    refine wsn ?_
    refine wp_seq ?_
    refine wp_block ?_
    refine wp_seq ?_
    refine wR ?_
    refine st_idxS h (by rw [hAd]; rfl) rfl el45 (by omega) (by omega) rfl rfl ?_; clear h a; intro a h
    refine st_loadC0 h rfl cc na61 rfl ?_; clear h a; intro a h
    refine st_assign h rfl rfl ?_; clear h a; intro a h
    replace h : Ag a 44 [(0, _), (4, _), (14, _), (15, _), (16, _)] := h.sub (.cons rfl (.cons rfl (.cons rfl (.cons rfl (.cons rfl .nil)))))
    refine wnt ?_
    refine wp_seq ?_
    refine wR ?_
    refine st_move h rfl rfl ?_; clear h a; intro a h
    refine st_call h (evs_cons rfl evs_nil) co95 (checkrow_ok _ r _ hr) rfl ?_; clear h a; rintro _ w2 ⟨rfl, hq⟩ a h
    replace hf := hf.next hq
    clear hq
    refine st_assign h rfl rfl ?_; clear h a; intro a h
    replace h : Ag a 44 [(0, _), (5, _), (14, _), (15, _), (16, _)] := h.sub (.cons rfl (.cons rfl (.cons rfl (.cons rfl (.cons rfl .nil)))))
    refine wnt ?_
    refine wp_seq ?_
    refine wR ?_
    refine st_move h rfl rfl ?_; clear h a; intro a h
    refine st_ne h rfl rfl rfl ?_; clear h a; intro a h
    replace h : Ag a 44 [(0, _), (5, _), (14, _), (15, _), (16, _), (23, _)] := h.sub (.cons rfl (.cons rfl (.cons rfl (.cons rfl (.cons rfl (.cons rfl .nil))))))
    refine wnt ?_
    first | refine cond_dec h rfl (fun c3 => ?_) (fun c3 => ?_) | refine cond_ndec h rfl (fun c3 => ?_) (fun c3 => ?_) | refine cond_split h rfl (fun c3 => ?_) (fun c3 => ?_)
    ·have c3' : rowE r ≠ 0 := c3
     refine wp_seq ?_
     refine wR ?_
     refine st_move h rfl rfl ?_; clear h a; intro a h
     refine st_assign h rfl rfl ?_; clear h a; intro a h
     replace h : Ag a 44 [(2, _)] := h.sub (.cons rfl .nil)
     refine wnt ?_
     refine wp_ret (ret_blk (ret_then (ret_then (ret_blk (ret_then ?_)))))
     refine ret1 h Tryd.results83 rfl ?_
     exact ⟨_, rfl, by rw [rowsB (by omega) (by omega) hz hrk c3'], hf⟩
    ·have c3' : rowE r = 0 := Decidable.not_not.1 c3
     refine wp_skip (norm_blk (norm_then ?_))
     refine wR ?_
     refine st_add h rfl rfl (by first | exact IntWalk.i64_in _ (by omega) | rfl) rfl ?_; clear h a; intro a h
     refine st_move h rfl rfl ?_; clear h a; intro a h
     replace h : Ag a 44 [(0, _), (14, _), (15, _), (16, _)] := h.sub (.cons rfl (.cons rfl (.cons rfl (.cons rfl .nil))))
     refine wnt ?_
     exact ⟨k + 1, h.sub (.cons rfl (.cons rfl (.cons rfl (.cons rfl .nil)))), ⟨by omega, z_next hz hrk c3', hf⟩, by omega⟩
   ·obtain rfl : k = rows.length := by omega
    replace hz : ∀ (i : Nat) (q : List Stitch), rows[i]? = some q → rowE q = 0 := fun i q hq => hz i q (List.getElem?_eq_some_iff.1 hq).1 hq
    refine wp_exit (exit_then (exit_then (exit_here (norm_then ?_))))
    refine wp_seq ?_
    refine wp_seq ?_
    refine wR ?_
    refine st_assign h rfl rfl ?_; clear h a; intro a h
    replace h : Ag a 44 [(0, _), (6, _)] := h.sub (.cons rfl (.cons rfl .nil))
    refine wnt ?_
    refine wp_block ?_
    refine loop (ι := Nat) (fun k => [(0, .slice A rows.length c), (6, .int .i64 ((k : Int) + 1))]) (fun k w' => k + 1 ≤ rows.length ∧ (∀ (j : Nat) (r q : List Stitch), j < k → rows[j]? = some r → rows[j + 1]? = some q → needsR q = makesR r) ∧ Fr [] w0 w') (fun k => rows.length - k) 0 (h.sub (.cons rfl (.cons rfl .nil))) ⟨by omega, fun j r q h => by omega, hf⟩ ?_
    clear h a hf
    rintro k w3 a h ⟨hk1, hadj, hf⟩
    refine wp_seq ?_
    refine wp_seq ?_
    refine wR ?_
    refine st_move h rfl rfl ?_; clear h a; intro a h
    refine st_move h rfl rfl ?_; clear h a; intro a h
    refine st_lenS h rfl Tryd.underlying45 rfl ?_; clear h a; intro a h
    refine st_lt h rfl rfl rfl ?_; clear h a; intro a h
    replace h : Ag a 44 [(0, _), (6, _), (29, _)] := h.sub (.cons rfl (.cons rfl (.cons rfl .nil)))
    refine wnt ?_
    first | refine cond_dec h rfl (fun c4 => ?_) (fun c4 => ?_) | refine cond_ndec h rfl (fun c4 => ?_) (fun c4 => ?_) | refine cond_split h rfl (fun c4 => ?_) (fun c4 => ?_)
    ·obtain ⟨r, hrk⟩ : ∃ r, rows[k]? = some r := ⟨_, List.getElem?_eq_getElem (by omega)⟩
     obtain ⟨RA, rc, ad, hAd, cc, hr, hrc, hrm⟩ := (hS.ext hf).row hrk
     unfold maxLen at hrm
     obtain ⟨q, hqk⟩ : ∃ r, rows[k + 1]? = some r := ⟨_, List.getElem?_eq_getElem (by omega)⟩
     obtain ⟨RA2, rc2, ad2, hAd2, cc2, hr2, hrc2, hrm2⟩ := (hS.ext hf).row hqk
     unfold maxLen at hrm2
     have hr16 := (row_ok_of (hz _ _ hrk)).1
     have hq16 := (row_ok_of (hz _ _ hqk)).1
     refine wsn ?_
     refine wp_seq ?_
     refine wp_block ?_
     refine wp_seq ?_
     refine region_quiet hmix (by kernel_rfl) ?_
     refine qt_move h rfl rfl ?_; clear h a; intro a h
     refine qt_move h rfl rfl ?_; clear h a; intro a h
     refine qt_idxS (p := k + 1) h (by rw [hAd2]; rfl) rfl el45 (by omega) (by omega) (by omega) rfl ?_; clear h a; intro a h
     refine qt_loadC0 h rfl (fun _ hw => cc2.fr hw (by simp)) na61 rfl ?_; clear h a; intro a h
     refine qt_call h (evs_cons rfl evs_nil) co48 (fun w hw => (cneeds_ok _ q w (hr2.ext hw) (by omega)).mono fun u w' ⟨e, f⟩ => ⟨e, hw.next f⟩) rfl ?_; clear h a; intro a h
     refine qt_move h rfl rfl ?_; clear h a; intro a h
     refine qt_move h rfl rfl ?_; clear h a; intro a h
     refine qt_sub h rfl rfl (by first | exact IntWalk.i64_in _ (by omega) | rfl) rfl ?_; clear h a; intro a h
     refine qt_idxS (p := k) h (by rw [hAd]; rfl) rfl el45 (by omega) (by omega) (by omega) rfl ?_; clear h a; intro a h
     refine qt_loadC0 h rfl (fun _ hw => cc.fr hw (by simp)) na61 rfl ?_; clear h a; intro a h
     refine qt_call h (evs_cons rfl evs_nil) co49 (fun w hw => (cmakes_ok _ r w (hr.ext hw) (by omega)).mono fun u w' ⟨e, f⟩ => ⟨e, hw.next f⟩) rfl ?_; clear h a; intro a h
     refine qt_ne h rfl rfl rfl ?_; clear h a; intro a h
     refine wpQuiet_nil ?_
     intro w4 hq
     replace hf := hf.next hq
     clear hq
     replace h : Ag a 44 [(0, _), (6, _), (43, _)] := h.sub (.cons rfl (.cons rfl (.cons rfl .nil)))
     refine (norm_then ?_)
     first | refine cond_dec h rfl (fun c5 => ?_) (fun c5 => ?_) | refine cond_ndec h rfl (fun c5 => ?_) (fun c5 => ?_) | refine cond_split h rfl (fun c5 => ?_) (fun c5 => ?_)
     ·refine id ?_
      refine wp_seq ?_
      refine wR ?_
      refine st_assign h rfl rfl ?_; clear h a; intro a h
      replace h : Ag a 44 [(2, _)] := h.sub (.cons rfl .nil)
      refine wnt ?_
      refine wp_ret (ret_blk (ret_then (ret_then (ret_blk (ret_then ?_)))))
      refine ret1 h Tryd.results83 rfl ?_
      exact ⟨_, rfl, by rw [rows14 (by omega) (by omega) hz hrk hqk c5], hf⟩
     ·refine id ?_
      refine wp_skip (norm_blk (norm_then ?_))
      refine wR ?_
      refine st_move h rfl rfl ?_; clear h a; intro a h
      refine st_add h rfl rfl (by first | exact IntWalk.i64_in _ (by omega) | rfl) rfl ?_; clear h a; intro a h
      refine st_assign h rfl rfl ?_; clear h a; intro a h
      replace h : Ag a 44 [(0, _), (6, _)] := h.sub (.cons rfl (.cons rfl .nil))
      refine wnt ?_
      exact ⟨k + 1, h.sub (.cons rfl (.cons (by first | rfl | (congr 2; omega)) .nil)), ⟨by omega, adj_next hadj hrk hqk (Decidable.not_not.1 c5), hf⟩, by omega⟩
    ·obtain hkl : k + 1 = rows.length := by omega
     refine wp_exit (exit_then (exit_then (exit_here (norm_then ?_))))
     refine wp_seq ?_
     refine wR ?_
     refine st_assign h rfl rfl ?_; clear h a; intro a h
     replace h : Ag a 44 [(2, _)] := h.sub (.cons rfl .nil)
     refine wnt ?_
     refine wp_ret ?_
     refine ret1 h Tryd.results83 rfl ?_
     exact ⟨_, rfl, by rw [rows0 (by omega) (by omega) hz (fun j r q h1 h2 => hadj j r q (by have := (List.getElem?_eq_some_iff.1 h2).1; omega) h1 h2)], hf⟩
end Go.Proofs.YthehggmdcmpjeaaDoor
namespace Go.Proofs.YthehggmdcmpjeaaDoor
open Go.Lw Go.G14
theorem co69 : CallOf Tryd.prog 69 := CallOf.mk' Tryd.func69 (by kernel_rfl) (by kernel_rfl)
theorem el111 : ElemOf Tryd.prog 111 30 Enc.sl 24 := ElemOf.mk' (z := (.slice none 0 0)) Tryd.underlying111 (by kernel_rfl) rfl
set_option maxHeartbeats 2000000 in
theorem refchart_ok (u : Value) (rows : List (List Stitch)) (w0 : World) (hS : Sll encSt w0 u rows) (hR : ∀ r ∈ rows, ∀ x ∈ r, 0 ≤ x.k ∧ 0 ≤ x.y) : Rets Tryd.prog 53 #[.agg #[u]] w0 fun v w' => ∃ X, v = .tuple #[X, .int .i64 (chartE rows)] ∧ Fr [] w0 w' := by
 obtain ⟨A, c, rfl, hcp, hM⟩ := hS.form
 unfold maxLen at hM
 refine enter [(0, .agg #[.slice A rows.length c])] Tryd.func53 rfl Tryd.ntmps53 rfl (.cons rfl .nil) ?_
 have hf := Fr.refl [] w0
 intro a h
 refine wp_seq ?_
 refine wR ?_
 refine st_box h rfl rfl rfl ?_; clear h a; intro w1 hb1 hq hz a h
 obtain ⟨g_1, hg⟩ : ∃ g, g = w0.heap.size := ⟨_, rfl⟩; rw [← hg] at hb1 h hz
 have hl1 : w0.heap.size ≤ g_1 := by have := hf.size; omega
 replace hf := hf.next hq
 clear hq hz hg
 refine st_assign h rfl rfl ?_; clear h a; intro a h
 refine st_assign h rfl rfl ?_; clear h a; intro a h
 replace h : Ag a 131 [(1, _)] := h.sub (.cons rfl .nil)
 refine wnt ?_
 refine wp_seq ?_
 refine wp_seq ?_
 refine wR ?_
 refine st_fieldAddr h rfl fa47_0 rfl ?_; clear h a; intro a h
 refine st_loadB h rfl hb1 rfl na45 rfl ?_; clear h a; intro a h
 refine st_lenS h rfl Tryd.underlying45 rfl ?_; clear h a; intro a h
 refine st_gt h rfl rfl rfl ?_; clear h a; intro a h
 replace h : Ag a 131 [(1, _), (21, _)] := h.sub (.cons rfl (.cons rfl .nil))
 refine wnt ?_
 first | refine cond_dec h rfl (fun c0 => ?_) (fun c0 => ?_) | refine cond_ndec h rfl (fun c0 => ?_) (fun c0 => ?_) | refine cond_split h rfl (fun c0 => ?_) (fun c0 => ?_)
 ·refine id ?_
  refine wp_seq ?_
  refine wR ?_
  refine st_assign h rfl rfl ?_; clear h a; intro a h
  refine st_assign h rfl rfl ?_; clear h a; intro a h
  replace h : Ag a 131 [(2, _), (3, _)] := h.sub (.cons rfl (.cons rfl .nil))
  refine wnt ?_
  refine wp_ret (ret_then ?_)
  refine ret2 h Tryd.results53 rfl rfl ?_
  exact ⟨_, rfl, _, by rw [chart_bad (rows3 (by omega)) (by decide)], hf⟩
 ·refine id ?_
  refine wsn ?_
  refine wp_seq ?_
  refine wp_seq ?_
  refine wR ?_
  refine st_fieldAddr h rfl fa47_0 rfl ?_; clear h a; intro a h
  refine st_loadB h rfl hb1 rfl na45 rfl ?_; clear h a; intro a h
  refine st_lenS h rfl Tryd.underlying45 rfl ?_; clear h a; intro a h
  refine st_rem h rfl rfl (by omega) (by first | exact IntWalk.rem_in _ _ (by omega) | rfl) rfl ?_; clear h a; intro a h
  refine st_eq h rfl rfl rfl ?_; clear h a; intro a h
  replace h : Ag a 131 [(1, _), (26, _)] := h.sub (.cons rfl (.cons rfl .nil))
  refine wnt ?_
  first | refine cond_dec h rfl (fun c1 => ?_) (fun c1 => ?_) | refine cond_ndec h rfl (fun c1 => ?_) (fun c1 => ?_) | refine cond_split h rfl (fun c1 => ?_) (fun c1 => ?_)
  ·refine id ?_
   refine wp_seq ?_
   refine wR ?_
   refine st_assign h rfl rfl ?_; clear h a; intro a h
   refine st_assign h rfl rfl ?_; clear h a; intro a h
   replace h : Ag a 131 [(2, _), (3, _)] := h.sub (.cons rfl (.cons rfl .nil))
   refine wnt ?_
   refine wp_ret (ret_then ?_)
   refine ret2 h Tryd.results53 rfl rfl ?_
   exact ⟨_, rfl, _, by rw [chart_bad (rows1 (by omega) (by omega)) (by decide)], hf⟩
  ·refine id ?_
   refine wsn ?_
   refine wp_seq ?_
   refine wp_seq ?_
   refine wR ?_
   refine st_assign h rfl rfl ?_; clear h a; intro a h
   replace h : Ag a 131 [(1, _), (4, _)] := h.sub (.cons rfl (.cons rfl .nil))
   refine wnt ?_
   refine wp_block ?_
   refine loop (ι := Nat) (fun k => [(1, .pointer (some ⟨g_1, 0, none⟩)), (4, .int .i64 (k : Int))]) (fun k w' => k ≤ rows.length ∧ (∀ (i : Nat) (q : List Stitch), i < k → rows[i]? = some q → rowE q = 0) ∧ Blk w' g_1 47 [.slice A rows.length c] ∧ Fr [] w0 w') (fun k => rows.length - k) 0 (h.sub (.cons rfl (.cons rfl .nil))) ⟨by omega, fun i q h => by omega, hb1, hf⟩ ?_
   clear h a hf hb1
   rintro k w2 a h ⟨hk, hz, hb1, hf⟩
   refine wp_seq ?_
   refine wp_seq ?_
   refine wR ?_
   refine st_move h rfl rfl ?_; clear h a; intro a h
   refine st_fieldAddr h rfl fa47_0 rfl ?_; clear h a; intro a h
   refine st_loadB h rfl hb1 rfl na45 rfl ?_; clear h a; intro a h
   refine st_lenS h rfl Tryd.underlying45 rfl ?_; clear h a; intro a h
   refine st_lt h rfl rfl rfl ?_; clear h a; intro a h
   replace h : Ag a 131 [(1, _), (4, _), (31, _)] := h.sub (.cons rfl (.cons rfl (.cons rfl .nil)))
   refine wnt ?_
   first | refine cond_dec h rfl (fun c2 => ?_) (fun c2 => ?_) | refine cond_ndec h rfl (fun c2 => ?_) (fun c2 => ?_) | refine cond_split h rfl (fun c2 => ?_) (fun c2 => ?_)
   ·obtain ⟨r, hrk⟩ : ∃ r, rows[k]? = some r := ⟨_, List.getElem?_eq_getElem (by omega)⟩
    obtain ⟨RA, rc, ad, hAd, cc, hr, hrc, hrm⟩ := (hS.ext hf).row hrk
    unfold maxLen at hrm
    have hRr := hR r (List.mem_of_getElem? hrk)
    refine wsn ?_
    refine wp_seq ?_
    refine wp_block ?_
    refine wp_seq ?_
    refine wR ?_
    refine st_fieldAddr h rfl fa47_0 rfl ?_; clear h a; intro a h
    refine st_loadB h rfl hb1 rfl na45 rfl ?_; clear h a; intro a h
    refine st_move h rfl rfl ?_; clear h a; intro a h
    refine st_idxS h (by rw [hAd]; rfl) rfl el45 (by omega) (by omega) rfl rfl ?_; clear h a; intro a h
    refine st_loadC0 h rfl cc na61 rfl ?_; clear h a; intro a h
    refine st_call h (evs_cons rfl evs_nil) co69 (refrow_ok _ r _ hr hRr) rfl ?_; clear h a; rintro _ w3 ⟨rfl, hq⟩ a h
    replace hf := hf.next hq
    replace hb1 := hb1.ext hq
    clear hq
    refine st_assign h rfl rfl ?_; clear h a; intro a h
    replace h : Ag a 131 [(1, _), (4, _), (5, _)] := h.sub (.cons rfl (.cons rfl (.cons rfl .nil)))
    refine wnt ?_
    refine wp_seq ?_
    refine wR ?_
    refine st_move h rfl rfl ?_; clear h a; intro a h
    refine st_ne h rfl rfl rfl ?_; clear h a; intro a h
    replace h : Ag a 131 [(1, _), (4, _), (5, _), (41, _)] := h.sub (.cons rfl (.cons rfl (.cons rfl (.cons rfl .nil))))
    refine wnt ?_
    first | refine cond_dec h rfl (fun c3 => ?_) (fun c3 => ?_) | refine cond_ndec h rfl (fun c3 => ?_) (fun c3 => ?_) | refine cond_split h rfl (fun c3 => ?_) (fun c3 => ?_)
    ·have c3' : rowE r ≠ 0 := c3
     refine wp_seq ?_
     refine wR ?_
     refine st_move h rfl rfl ?_; clear h a; intro a h
     refine st_assign h rfl rfl ?_; clear h a; intro a h
     refine st_assign h rfl rfl ?_; clear h a; intro a h
     replace h : Ag a 131 [(2, _), (3, _)] := h.sub (.cons rfl (.cons rfl .nil))
     refine wnt ?_
     refine wp_ret (ret_blk (ret_then (ret_then (ret_blk (ret_then ?_)))))
     refine ret2 h Tryd.results53 rfl rfl ?_
     exact ⟨_, rfl, _, by rw [chart_bad (rowsB (by omega) (by omega) hz hrk c3') c3'], hf⟩
    ·have c3' : rowE r = 0 := Decidable.not_not.1 c3
     refine wp_skip (norm_blk (norm_then ?_))
     refine wR ?_
     refine st_move h rfl rfl ?_; clear h a; intro a h
     refine st_add h rfl rfl (by first | exact IntWalk.i64_in _ (by omega) | rfl) rfl ?_; clear h a; intro a h
     refine st_assign h rfl rfl ?_; clear h a; intro a h
     replace h : Ag a 131 [(1, _), (4, _)] := h.sub (.cons rfl (.cons rfl .nil))
     refine wnt ?_
     exact ⟨k + 1, h.sub (.cons rfl (.cons rfl .nil)), ⟨by omega, z_next hz hrk c3', hb1, hf⟩, by omega⟩
   ·obtain rfl : k = rows.length := by omega
    replace hz : ∀ (i : Nat) (q : List Stitch), rows[i]? = some q → rowE q = 0 := fun i q hq => hz i q (List.getElem?_eq_some_iff.1 hq).1 hq
    refine wp_exit (exit_then (exit_then (exit_here (norm_then ?_))))
    refine wp_seq ?_
    refine wp_seq ?_
    refine wR ?_
    refine st_assign h rfl rfl ?_; clear h a; intro a h
    replace h : Ag a 131 [(1, _), (6, _)] := h.sub (.cons rfl (.cons rfl .nil))
    refine wnt ?_
    refine wp_block ?_
    refine loop (ι := Nat) (fun k => [(1, .pointer (some ⟨g_1, 0, none⟩)), (6, .int .i64 ((k : Int) + 1))]) (fun k w' => k + 1 ≤ rows.length ∧ (∀ (j : Nat) (r q : List Stitch), j < k → rows[j]? = some r → rows[j + 1]? = some q → needsR q = makesR r) ∧ Blk w' g_1 47 [.slice A rows.length c] ∧ Fr [] w0 w') (fun k => rows.length - k) 0 (h.sub (.cons rfl (.cons rfl .nil))) ⟨by omega, fun j r q h => by omega, hb1, hf⟩ ?_
    clear h a hf hb1
    rintro k w4 a h ⟨hk1, hadj, hb1, hf⟩
    refine wp_seq ?_
    refine wp_seq ?_
    refine wR ?_
    refine st_move h rfl rfl ?_; clear h a; intro a h
    refine st_fieldAddr h rfl fa47_0 rfl ?_; clear h a; intro a h
    refine st_loadB h rfl hb1 rfl na45 rfl ?_; clear h a; intro a h
    refine st_lenS h rfl Tryd.underlying45 rfl ?_; clear h a; intro a h
    refine st_lt h rfl rfl rfl ?_; clear h a; intro a h
    replace h : Ag a 131 [(1, _), (6, _), (47, _)] := h.sub (.cons rfl (.cons rfl (.cons rfl .nil)))
    refine wnt ?_
    first | refine cond_dec h rfl (fun c4 => ?_) (fun c4 => ?_) | refine cond_ndec h rfl (fun c4 => ?_) (fun c4 => ?_) | refine cond_split h rfl (fun c4 => ?_) (fun c4 => ?_)
    ·obtain ⟨r, hrk⟩ : ∃ r, rows[k]? = some r := ⟨_, List.getElem?_eq_getElem (by omega)⟩
     obtain ⟨RA, rc, ad, hAd, cc, hr, hrc, hrm⟩ := (hS.ext hf).row hrk
     unfold maxLen at hrm
     obtain ⟨q, hqk⟩ : ∃ r, rows[k + 1]? = some r := ⟨_, List.getElem?_eq_getElem (by omega)⟩
     obtain ⟨RA2, rc2, ad2, hAd2, cc2, hr2, hrc2, hrm2⟩ := (hS.ext hf).row hqk
     unfold maxLen at hrm2
     have hr16 := (row_ok_of (hz _ _ hrk)).1
     have hq16 := (row_ok_of (hz _ _ hqk)).1
     have hRr := hR r (List.mem_of_getElem? hrk)
     have hRq := hR q (List.mem_of_getElem? hqk)
     refine wsn ?_
     refine wp_seq ?_
     refine wp_block ?_
     refine wp_seq ?_
     refine region_quiet hmix (by kernel_rfl) ?_
     refine qt_fieldAddr h rfl fa47_0 rfl ?_; clear h a; intro a h
     refine qt_loadB h rfl (fun _ hw => hb1.ext hw) rfl na45 rfl ?_; clear h a; intro a h
     refine qt_move h rfl rfl ?_; clear h a; intro a h
     refine qt_idxS (p := k + 1) h (by rw [hAd2]; rfl) rfl el45 (by omega) (by omega) (by omega) rfl ?_; clear h a; intro a h
     refine qt_loadC0 h rfl (fun _ hw => cc2.fr hw (by simp)) na61 rfl ?_; clear h a; intro a h
     refine qt_call h (evs_cons rfl evs_nil) co70 (fun w hw => (rneeds_ok _ q w (hr2.ext hw) hRq (by omega)).mono fun u w' ⟨e, f⟩ => ⟨e, hw.next f⟩) rfl ?_; clear h a; intro a h
     refine qt_fieldAddr h rfl fa47_0 rfl ?_; clear h a; intro a h
     refine qt_loadB h rfl (fun _ hw => hb1.ext hw) rfl na45 rfl ?_; clear h a; intro a h
     refine qt_move h rfl rfl ?_; clear h a; intro a h
     refine qt_sub h rfl rfl (by first | exact IntWalk.i64_in _ (by omega) | rfl) rfl ?_; clear h a; intro a h
     refine qt_idxS (p := k) h (by rw [hAd]; rfl) rfl el45 (by omega) (by omega) (by omega) rfl ?_; clear h a; intro a h
     refine qt_loadC0 h rfl (fun _ hw => cc.fr hw (by simp)) na61 rfl ?_; clear h a; intro a h
     refine qt_call h (evs_cons rfl evs_nil) co71 (fun w hw => (rmakes_ok _ r w (hr.ext hw) hRr (by omega)).mono fun u w' ⟨e, f⟩ => ⟨e, hw.next f⟩) rfl ?_; clear h a; intro a h
     refine qt_ne h rfl rfl rfl ?_; clear h a; intro a h
     refine wpQuiet_nil ?_
     intro w5 hq
     replace hf := hf.next hq
     replace hb1 := hb1.ext hq
     clear hq
     replace h : Ag a 131 [(1, _), (6, _), (63, _)] := h.sub (.cons rfl (.cons rfl (.cons rfl .nil)))
     refine (norm_then ?_)
     first | refine cond_dec h rfl (fun c5 => ?_) (fun c5 => ?_) | refine cond_ndec h rfl (fun c5 => ?_) (fun c5 => ?_) | refine cond_split h rfl (fun c5 => ?_) (fun c5 => ?_)
     ·refine id ?_
      refine wp_seq ?_
      refine wR ?_
      refine st_assign h rfl rfl ?_; clear h a; intro a h
      refine st_assign h rfl rfl ?_; clear h a; intro a h
      replace h : Ag a 131 [(2, _), (3, _)] := h.sub (.cons rfl (.cons rfl .nil))
      refine wnt ?_
      refine wp_ret (ret_blk (ret_then (ret_then (ret_blk (ret_then ?_)))))
      refine ret2 h Tryd.results53 rfl rfl ?_
      exact ⟨_, rfl, _, by rw [chart_bad (rows14 (by omega) (by omega) hz hrk hqk c5) (by decide)], hf⟩
     ·refine id ?_
      refine wp_skip (norm_blk (norm_then ?_))
      refine wR ?_
      refine st_move h rfl rfl ?_; clear h a; intro a h
      refine st_add h rfl rfl (by first | exact IntWalk.i64_in _ (by omega) | rfl) rfl ?_; clear h a; intro a h
      refine st_assign h rfl rfl ?_; clear h a; intro a h
      replace h : Ag a 131 [(1, _), (6, _)] := h.sub (.cons rfl (.cons rfl .nil))
      refine wnt ?_
      exact ⟨k + 1, h.sub (.cons rfl (.cons (by first | rfl | (congr 2; omega)) .nil)), ⟨by omega, adj_next hadj hrk hqk (Decidable.not_not.1 c5), hb1, hf⟩, by omega⟩
    ·obtain hkl : k + 1 = rows.length := by omega
     have hE0 := rows0 (by omega) (by omega) hz (fun j r q h1 h2 => hadj j r q (by have := (List.getElem?_eq_some_iff.1 h2).1; omega) h1 h2)
     obtain ⟨-, -, -, hadj2⟩ := rows_of hE0
     obtain ⟨r0, hr0k⟩ : ∃ r, rows[0]? = some r := ⟨_, List.getElem?_eq_getElem (by omega)⟩
     have hr016 := row_ok_of (hz _ _ hr0k)
     have hR0 := hR r0 (List.mem_of_getElem? hr0k)
     refine wp_exit (exit_then (exit_then (exit_here (norm_then ?_))))
     refine wp_seq ?_
     refine wR ?_
     refine st_assign h rfl rfl ?_; clear h a; intro a h
     replace h : Ag a 131 [(1, _), (7, _)] := h.sub (.cons rfl (.cons rfl .nil))
     refine wnt ?_
     refine wp_seq ?_
     refine wp_seq ?_
     refine wR ?_
     refine st_assign h rfl rfl ?_; clear h a; intro a h
     refine wnt ?_
     refine wp_block ?_
     refine loop (ι := Nat × Value) (fun z => [(1, .pointer (some ⟨g_1, 0, none⟩)), (7, z.2), (8, .int .i64 (z.1 : Int))]) (fun z w' => (z.1 : Int) ≤ needsR r0 ∧ Lw.Own Enc.i64 3 (g_1 + 1) w' z.2 (List.replicate z.1 1) ∧ Blk w' g_1 47 [.slice A rows.length c] ∧ Fr [] w0 w') (fun z => (needsR r0).toNat - z.1) (0, .slice none 0 0) (h.sub (.cons rfl (.cons rfl (.cons rfl .nil)))) ⟨by simp only; omega, Own.nil _, hb1, hf⟩ ?_
     clear h a hf hb1
     rintro ⟨j, x⟩ w6 a h ⟨hj, ho, hb1, hf⟩
     simp only at hj ho h
     obtain ⟨RA, rc, ad, hAd, cc, hr, hrc, hrm⟩ := (hS.ext hf).row hr0k
     unfold maxLen at hrm
     refine wp_seq ?_
     refine wp_seq ?_
     refine wR ?_
     refine st_move h rfl rfl ?_; clear h a; intro a h
     refine st_fieldAddr h rfl fa47_0 rfl ?_; clear h a; intro a h
     refine st_loadB h rfl hb1 rfl na45 rfl ?_; clear h a; intro a h
     refine st_idxS (p := 0) h (by rw [hAd]; rfl) rfl el45 (by omega) (by omega) (by omega) rfl ?_; clear h a; intro a h
     refine st_loadC0 h rfl cc na61 rfl ?_; clear h a; intro a h
     refine st_call h (evs_cons rfl evs_nil) co70 (rneeds_ok _ r0 _ hr hR0 (by omega)) rfl ?_; clear h a; rintro _ w7 ⟨rfl, hq⟩ a h
     replace hf := hf.next hq
     replace hb1 := hb1.ext hq
     replace ho := ho.ext hq
     clear hq
     refine st_lt h rfl rfl rfl ?_; clear h a; intro a h
     replace h : Ag a 131 [(1, _), (7, _), (8, _), (70, _)] := h.sub (.cons rfl (.cons rfl (.cons rfl (.cons rfl .nil))))
     refine wnt ?_
     first | refine cond_dec h rfl (fun c6 => ?_) (fun c6 => ?_) | refine cond_ndec h rfl (fun c6 => ?_) (fun c6 => ?_) | refine cond_split h rfl (fun c6 => ?_) (fun c6 => ?_)
     ·refine id ?_
      refine wsn ?_
      refine wp_seq ?_
      refine wp_block ?_
      refine wR ?_
      refine st_move h rfl rfl ?_; clear h a; intro a h
      refine st_bslice [(1 : Int)] h (evs_cons rfl evs_nil) rfl rfl rfl el30 (by decide) rfl ?_; clear h a; intro gN w8 hg hoN hq hz a h
      replace hf := hf.next hq
      replace hb1 := hb1.ext hq
      replace ho := ho.ext hq
      clear hq hz hg
      have hbO := ho.blk
      refine st_append h rfl rfl ho hoN.sl el30 (by unfold maxLen; simp; omega) (by simp; omega) (by have := hb1.lt; omega) rfl ?_; clear h a; intro v3 w9 ho3 hq hx3 a h
      replace hb1 := hb1.fr hq (fun hb => by have := (hbO _ hb).1; omega)
      replace hf := hf.step hq (fun k hk hlt => absurd (hbO k hk).1 (by omega))
      clear hoN
      clear ho hq hx3 hbO; have ho := ho3; clear ho3
      refine st_assign h rfl rfl ?_; clear h a; intro a h
      replace h : Ag a 131 [(1, _), (7, _), (8, _)] := h.sub (.cons rfl (.cons rfl (.cons rfl .nil)))
      refine wpList_nil (norm_blk (norm_then ?_))
      refine wR ?_
      refine st_move h rfl rfl ?_; clear h a; intro a h
      refine st_add h rfl rfl (by first | exact IntWalk.i64_in _ (by omega) | rfl) rfl ?_; clear h a; intro a h
      refine st_assign h rfl rfl ?_; clear h a; intro a h
      replace h : Ag a 131 [(1, _), (7, _), (8, _)] := h.sub (.cons rfl (.cons rfl (.cons rfl .nil)))
      refine wnt ?_
      exact ⟨(j + 1, _), h.sub (.cons rfl (.cons rfl (.cons rfl .nil))), ⟨by simp only; omega, by rw [rep_succ]; exact ho, hb1, hf⟩, by simp only; omega⟩
     ·have hjj : (j : Int) = needsR r0 := by omega
      obtain ⟨NA, nc, e, hnc⟩ := ho.sl.form
      rw [List.length_replicate] at e
      subst e
      refine wp_exit (exit_then (exit_then (exit_here (norm_then ?_))))
      refine wp_seq ?_
      refine wR ?_
      refine st_move h rfl rfl ?_; clear h a; intro a h
      refine st_bslice [((NA, j, nc) : SV)] h (evs_cons rfl evs_nil) rfl rfl rfl el111 (by decide) rfl ?_; clear h a; intro gV w10 hg hoV hq hz a h
      have hgV : g_1 + 1 ≤ gV := by have := hb1.lt; omega
      replace hf := hf.next hq
      replace hb1 := hb1.ext hq
      replace ho := ho.ext hq
      clear hq hz hg
      refine st_assign h rfl rfl ?_; clear h a; intro a h
      replace h : Ag a 131 [(1, _), (7, _), (9, _)] := h.sub (.cons rfl (.cons rfl (.cons rfl .nil)))
      refine wnt ?_
      refine wp_seq ?_
      refine wp_seq ?_
      refine wR ?_
      refine st_assign h rfl rfl ?_; clear h a; intro a h
      refine wnt ?_
      refine wp_block ?_
      refine loop (ι := RefSt) (fun z => [(1, .pointer (some ⟨g_1, 0, none⟩)), (7, z.N), (9, z.OV), (10, .int .i64 (z.i : Int))]) (fun z w' => z.i ≤ rows.length ∧ (∀ r, rows[z.i]? = some r → (z.ls.length : Int) = needsR r) ∧ runRows (rows.drop z.i) z.ls = chartE rows ∧ Lw.Own Enc.i64 3 (g_1 + 1) w' z.N z.ls ∧ Lw.Own Enc.sl 30 (g_1 + 1) w' z.OV z.hs ∧ z.hs.length = z.i + 1 ∧ Blk w' g_1 47 [.slice A rows.length c] ∧ Fr [] w0 w') (fun z => rows.length - z.i) ⟨0, _, List.replicate j 1, _, [(NA, j, nc)]⟩ (h.sub (.cons rfl (.cons rfl (.cons rfl (.cons rfl .nil))))) ⟨Nat.zero_le _, fun r hr => by rw [hr0k] at hr; cases hr; simpa using hjj, by rw [chart_run hE0, startL, List.getD, hr0k, List.drop_zero]; show runRows rows (List.replicate j 1) = runRows rows (List.replicate (needsR r0).toNat 1); rw [show (needsR r0).toNat = j by omega], ho, hoV.low hgV, rfl, hb1, hf⟩ ?_
      clear h a hf hb1 ho hoV
      rintro ⟨i, N, ls, OV, hs⟩ w11 a h ⟨hi, hln, hrs, hN, hO, hol, hb1, hf⟩
      simp only at hi hln hrs hN hO hol h
      obtain ⟨NA, nc, rfl, hnc⟩ := hN.sl.form
      refine wp_seq ?_
      refine wp_seq ?_
      refine wR ?_
      refine st_move h rfl rfl ?_; clear h a; intro a h
      refine st_fieldAddr h rfl fa47_0 rfl ?_; clear h a; intro a h
      refine st_loadB h rfl hb1 rfl na45 rfl ?_; clear h a; intro a h
      refine st_lenS h rfl Tryd.underlying45 rfl ?_; clear h a; intro a h
      refine st_lt h rfl rfl rfl ?_; clear h a; intro a h
      replace h : Ag a 131 [(1, _), (7, _), (9, _), (10, _), (82, _)] := h.sub (.cons rfl (.cons rfl (.cons rfl (.cons rfl (.cons rfl .nil)))))
      refine wnt ?_
      first | refine cond_dec h rfl (fun c7 => ?_) (fun c7 => ?_) | refine cond_ndec h rfl (fun c7 => ?_) (fun c7 => ?_) | refine cond_split h rfl (fun c7 => ?_) (fun c7 => ?_)
      ·obtain ⟨r, hrk⟩ : ∃ r, rows[i]? = some r := ⟨_, List.getElem?_eq_getElem (by omega)⟩
       have hr16 := row_ok_of (hz _ _ hrk)
       have hRr := hR r (List.mem_of_getElem? hrk)
       obtain ⟨gI, hgI⟩ : ∃ g, g = w11.heap.size := ⟨_, rfl⟩
       have hOI : ∀ k ∈ blks OV, k < gI := fun k hk => by have := (hO.blk k hk).2; omega
       have hNI : ∀ k ∈ blks (.slice NA ls.length nc), k < gI := fun k hk => by have := (hN.blk k hk).2; omega
       have hg1I : g_1 < gI := by have := hb1.lt; omega
       have hw0I : w0.heap.size ≤ gI := by have := hf.size; omega
       refine wsn ?_
       refine wp_seq ?_
       refine wp_block ?_
       refine wp_seq ?_
       refine wR ?_
       refine st_assign h rfl rfl ?_; clear h a; intro a h
       replace h : Ag a 131 [(1, _), (7, _), (9, _), (10, _), (11, _)] := h.sub (.cons rfl (.cons rfl (.cons rfl (.cons rfl (.cons rfl .nil)))))
       refine wnt ?_
       refine wp_seq ?_
       refine wR ?_
       refine st_assign h rfl rfl ?_; clear h a; intro a h
       refine wnt ?_
       refine wp_seq ?_
       refine wp_seq ?_
       refine wR ?_
       refine st_assign h rfl rfl ?_; clear h a; intro a h
       refine wnt ?_
       refine wp_block ?_
       refine loop (ι := InSt) (fun z => [(1, .pointer (some ⟨g_1, 0, none⟩)), (7, .slice NA ls.length nc), (9, OV), (10, .int .i64 (i : Int)), (11, .int .i64 (z.at_ : Int)), (12, z.X), (13, .int .i64 (z.k : Int))]) (fun z w' => z.k ≤ r.length ∧ z.at_ ≤ ls.length ∧ ((ls.drop z.at_).length : Int) = needsR (r.drop z.k) ∧ runRow (r.drop z.k) (ls.drop z.at_) z.acc = runRow r ls [] ∧ z.acc.length ≤ 4 * z.k ∧ Lw.Own Enc.i64 3 gI w' z.X z.acc ∧ Lw.Own Enc.i64 3 (g_1 + 1) w' (.slice NA ls.length nc) ls ∧ Lw.Own Enc.sl 30 (g_1 + 1) w' OV hs ∧ Blk w' g_1 47 [.slice A rows.length c] ∧ gI ≤ w'.heap.size ∧ Fr [] w0 w') (fun z => r.length - z.k) ⟨0, 0, [], .slice none 0 0⟩ (h.sub (.cons rfl (.cons rfl (.cons rfl (.cons rfl (.cons rfl (.cons rfl (.cons rfl .nil)))))))) ⟨Nat.zero_le _, Nat.zero_le _, by simpa using hln r hrk, rfl, Nat.le_refl _, Own.nil _, hN, hO, hb1, by omega, hf⟩ ?_
       clear h a hf hb1 hN hO
       rintro ⟨k, at_, acc, X⟩ w12 a h ⟨hk, hat, hdl, hrr, hal, hX, hN, hO, hb1, hgs, hf⟩
       simp only at hk hat hdl hrr hal hX h
       obtain ⟨RA, rc, ad, hAd, cc, hr, hrc, hrm⟩ := (hS.ext hf).row hrk
       unfold maxLen at hrm
       refine wp_seq ?_
       refine wp_seq ?_
       refine wR ?_
       refine st_move h rfl rfl ?_; clear h a; intro a h
       refine st_fieldAddr h rfl fa47_0 rfl ?_; clear h a; intro a h
       refine st_loadB h rfl hb1 rfl na45 rfl ?_; clear h a; intro a h
       refine st_move h rfl rfl ?_; clear h a; intro a h
       refine st_idxS (p := i) h (by rw [hAd]; rfl) rfl el45 (by omega) (by omega) (by omega) rfl ?_; clear h a; intro a h
       refine st_loadC0 h rfl cc na61 rfl ?_; clear h a; intro a h
       refine st_lenS h rfl Tryd.underlying61 rfl ?_; clear h a; intro a h
       refine st_lt h rfl rfl rfl ?_; clear h a; intro a h
       replace h : Ag a 131 [(1, _), (7, _), (9, _), (10, _), (11, _), (12, _), (13, _), (92, _)] := h.sub (.cons rfl (.cons rfl (.cons rfl (.cons rfl (.cons rfl (.cons rfl (.cons rfl (.cons rfl .nil))))))))
       refine wnt ?_
       first | refine cond_dec h rfl (fun c8 => ?_) (fun c8 => ?_) | refine cond_ndec h rfl (fun c8 => ?_) (fun c8 => ?_) | refine cond_split h rfl (fun c8 => ?_) (fun c8 => ?_)
       ·obtain ⟨s, hsk⟩ : ∃ s, r[k]? = some s := ⟨_, List.getElem?_eq_getElem (by omega)⟩
        obtain ⟨-, -, -, hE⟩ := Sl.open_ hr
        obtain ⟨sa, hsa, csx⟩ := hE k s hsk
        obtain ⟨p1, p2⟩ := hRr s (List.mem_of_getElem? hsk)
        have hnd := needs_drop hsk
        have hnp := needs_pos (r.drop (k + 1))
        have hnr := needs_rng s
        have hdl2 : ((ls.length - at_ : Nat) : Int) = needsR (r.drop k) := by rw [← hdl, List.length_drop]
        have hls16 : ls.length ≤ 16 := by have := hln r hrk; omega
        refine wsn ?_
        refine wp_seq ?_
        refine wp_block ?_
        refine wp_seq ?_
        refine wR ?_
        refine st_fieldAddr h rfl fa47_0 rfl ?_; clear h a; intro a h
        refine st_loadB h rfl hb1 rfl na45 rfl ?_; clear h a; intro a h
        refine st_move h rfl rfl ?_; clear h a; intro a h
        refine st_idxS (p := i) h (by rw [hAd]; rfl) rfl el45 (by omega) (by omega) (by omega) rfl ?_; clear h a; intro a h
        refine st_loadC0 h rfl cc na61 rfl ?_; clear h a; intro a h
        refine st_move h rfl rfl ?_; clear h a; intro a h
        refine st_idxS (p := k) h (by rw [hsa]; rfl) rfl el61 (by omega) (by omega) (by omega) rfl ?_; clear h a; intro a h
        refine st_loadA h rfl csx ag100 rfl ?_; clear h a; intro a h
        refine st_alloc h zv100 rfl rfl ?_; clear h a; intro w13 hb14 hq hz a h
        obtain ⟨g_14, hg⟩ : ∃ g, g = w12.heap.size := ⟨_, rfl⟩; rw [← hg] at hb14 h hz
        have hl14 : w0.heap.size ≤ g_14 := by have := hf.size; omega
        have hn_1_14 : g_1 < g_14 := by have := hb1.lt; omega
        have hlt_hX_14 : ∀ k ∈ blks X, k < g_14 := fun k hk => by have := (hX.blk k hk).2; omega
        have hlt_hN_14 : ∀ k ∈ blks (.slice NA ls.length nc), k < g_14 := fun k hk => by have := (hN.blk k hk).2; omega
        have hlt_hO_14 : ∀ k ∈ blks OV, k < g_14 := fun k hk => by have := (hO.blk k hk).2; omega
        replace hf := hf.next hq
        replace hb1 := hb1.ext hq
        replace hX := hX.ext hq
        replace hN := hN.ext hq
        replace hO := hO.ext hq
        replace hgs := Nat.le_trans hgs hq.size
        clear hq hz hg
        refine st_storeBA h rfl rfl hb14 rfl (by first | (simp [Value.oneCell', S]; done) | exact Enc.one _ _) sz100 ?_; clear h a; intro w14 hbn hq hz a h
        replace hf := hf.step hq (by first | (simp; done) | (simp; omega))
        replace hb1 := hb1.fr hq (by first | (simp; done) | (simp; omega) | (simp [blks]; done) | (simp [blks]; omega))
        replace hX := hX.fr hq (by intro k hk hb; simp at hk; subst hk; exact absurd (hlt_hX_14 _ hb) (by omega))
        replace hN := hN.fr hq (by intro k hk hb; simp at hk; subst hk; exact absurd (hlt_hN_14 _ hb) (by omega))
        replace hO := hO.fr hq (by intro k hk hb; simp at hk; subst hk; exact absurd (hlt_hO_14 _ hb) (by omega))
        replace hgs := Nat.le_trans hgs hq.size
        clear hb14 hq hz; have hb14 : Blk w14 g_14 _ [_, _, _, _, _] := hbn; clear hbn
        replace h : Ag a 131 [(1, _), (7, _), (9, _), (10, _), (11, _), (12, _), (13, _), (14, _)] := h.sub (.cons rfl (.cons rfl (.cons rfl (.cons rfl (.cons rfl (.cons rfl (.cons rfl (.cons rfl .nil))))))))
        refine wnt ?_
        refine wp_seq ?_
        refine wR ?_
        refine st_loadBA h rfl hb14 ag100 rfl ?_; clear h a; intro a h
        refine st_call h (evs_cons rfl evs_nil) co72 (refneeds_ok s _ p1 p2) rfl ?_; clear h a; rintro _ w15 ⟨rfl, hq⟩ a h
        replace hf := hf.next hq
        replace hb1 := hb1.ext hq
        replace hX := hX.ext hq
        replace hN := hN.ext hq
        replace hO := hO.ext hq
        replace hgs := Nat.le_trans hgs hq.size
        replace hb14 := hb14.ext hq
        clear hq
        refine st_assign h rfl rfl ?_; clear h a; intro a h
        replace h : Ag a 131 [(1, _), (7, _), (9, _), (10, _), (11, _), (12, _), (13, _), (14, _), (15, _)] := h.sub (.cons rfl (.cons rfl (.cons rfl (.cons rfl (.cons rfl (.cons rfl (.cons rfl (.cons rfl (.cons rfl .nil)))))))))
        refine wnt ?_
        refine wp_seq ?_
        refine region_held (fun wb w' => Fr [] wb w') hmix ?_; intro w16 hq
        replace hf := hf.next hq
        replace hb1 := hb1.ext hq
        replace hX := hX.ext hq
        replace hN := hN.ext hq
        replace hO := hO.ext hq
        replace hgs := Nat.le_trans hgs hq.size
        replace hb14 := hb14.ext hq
        clear hq; have hC : Fr [] w16 w16 := Fr.refl _ _
        have hb1_b := hb1
        have hX_b := hX
        have hN_b := hN
        have hO_b := hO
        have hb14_b := hb14
        refine hd_loadBA 0 (by kernel_rfl) (by kernel_rfl) (by kernel_rfl) hC h wn rfl (fun _ hw => hb14_b.ext hw) ag100 rfl rfl ?_; clear h a; intro a h
        refine hd_move 1 (by kernel_rfl) (by kernel_rfl) (by kernel_rfl) hC h wn rfl rfl rfl ?_; clear h a; intro a h
        refine hd_move 2 (by kernel_rfl) (by kernel_rfl) (by kernel_rfl) hC h wn rfl rfl rfl ?_; clear h a; intro a h
        refine hd_move 3 (by kernel_rfl) (by kernel_rfl) (by kernel_rfl) hC h wn rfl rfl rfl ?_; clear h a; intro a h
        refine hd_move 4 (by kernel_rfl) (by kernel_rfl) (by kernel_rfl) hC h wn rfl rfl rfl ?_; clear h a; intro a h
        refine hd_add 5 (by kernel_rfl) (by kernel_rfl) (by kernel_rfl) hC h wn rfl rfl (by first | exact IntWalk.i64_in _ (by omega) | rfl) rfl rfl ?_; clear h a; intro a h
        refine hd_sl_lh 6 (by kernel_rfl) (by kernel_rfl) (by kernel_rfl) hC (p := at_) (p' := at_ + (needsS s).toNat) h wn rfl rfl rfl el30 (by omega) (by omega) (by omega) (by omega) (by omega) rfl rfl ?_; clear h a; intro a h
        refine hd_one 7 (by kernel_rfl) rfl ?_
        have hpt := Sl.part hN.sl (i := at_) (m := (needsS s).toNat) (by omega)
        refine st_call h (evs_cons rfl (evs_cons rfl evs_nil)) co73 (refloads_ok s _ _ _ p1 p2 hpt) rfl ?_; clear h a; rintro _ w17 ⟨rv, rfl, hrv, hq⟩ a h
        have hXr : ∀ k ∈ blks X, k ∉ blks rv := fun k hk hk2 => by have := (hX.blk k hk).2; have := (hrv.blk k hk2).1; omega
        replace hf := hf.next hq
        replace hb1 := hb1.ext hq
        replace hX := hX.ext hq
        replace hN := hN.ext hq
        replace hO := hO.ext hq
        replace hgs := Nat.le_trans hgs hq.size
        replace hb14 := hb14.ext hq
        replace hC := hC.next hq
        clear hq hpt
        refine hd_next hC ?_
        refine hd_move 8 (by kernel_rfl) (by kernel_rfl) (by kernel_rfl) hC h wn rfl rfl rfl ?_; clear h a; intro a h
        refine hd_extract 9 (by kernel_rfl) (by kernel_rfl) (by kernel_rfl) hC h wn rfl rfl rfl rfl ?_; clear h a; intro a h
        refine hd_extract 10 (by kernel_rfl) (by kernel_rfl) (by kernel_rfl) hC h wn rfl rfl rfl rfl ?_; clear h a; intro a h
        refine hd_one 11 (by kernel_rfl) rfl ?_
        refine st_assign h rfl rfl ?_; clear h a; intro a h
        refine hd_next hC ?_
        refine hd_one 12 (by kernel_rfl) rfl ?_
        refine st_assign h rfl rfl ?_; clear h a; intro a h
        refine hd_next hC ?_
        refine hd_end (by kernel_rfl) ?_
        clear hC hb1_b hX_b hN_b hO_b hb14_b
        replace h : Ag a 131 [(1, _), (7, _), (9, _), (10, _), (11, _), (12, _), (13, _), (15, _), (16, _), (17, _)] := h.sub (.cons rfl (.cons rfl (.cons rfl (.cons rfl (.cons rfl (.cons rfl (.cons rfl (.cons rfl (.cons rfl (.cons rfl .nil))))))))))
        refine (norm_then ?_)
        refine wp_seq ?_
        refine wp_seq ?_
        refine wR ?_
        refine st_move h rfl rfl ?_; clear h a; intro a h
        refine st_ne h rfl rfl rfl ?_; clear h a; intro a h
        replace h : Ag a 131 [(1, _), (7, _), (9, _), (10, _), (11, _), (12, _), (13, _), (15, _), (16, _), (17, _), (117, _)] := h.sub (.cons rfl (.cons rfl (.cons rfl (.cons rfl (.cons rfl (.cons rfl (.cons rfl (.cons rfl (.cons rfl (.cons rfl (.cons rfl .nil)))))))))))
        refine wnt ?_
        first | refine cond_dec h rfl (fun c9 => ?_) (fun c9 => ?_) | refine cond_ndec h rfl (fun c9 => ?_) (fun c9 => ?_) | refine cond_split h rfl (fun c9 => ?_) (fun c9 => ?_)
        ·have hbad := rs_bad hrs hrk (by rw [rr_bad hrr hsk c9]; exact c9)
         rw [rr_bad hrr hsk c9] at hbad
         refine wp_seq ?_
         refine wR ?_
         refine st_move h rfl rfl ?_; clear h a; intro a h
         refine st_assign h rfl rfl ?_; clear h a; intro a h
         refine st_assign h rfl rfl ?_; clear h a; intro a h
         replace h : Ag a 131 [(2, _), (3, _)] := h.sub (.cons rfl (.cons rfl .nil))
         refine wnt ?_
         refine wp_ret (ret_then (ret_blk (ret_then (ret_then (ret_blk (ret_then (ret_blk (ret_then (ret_then (ret_blk (ret_then ?_)))))))))))
         refine ret2 h Tryd.results53 rfl rfl ?_
         exact ⟨_, rfl, _, by rw [hbad]; rfl, hf⟩
        ·clear hb14
         have h0' : ¬ (loadsS s ((ls.drop at_).take (needsS s).toNat)).2 ≠ 0 := c9
         have hll := loads_len s ((ls.drop at_).take (needsS s).toNat)
         refine wsn ?_
         refine wp_seq ?_
         refine wR ?_
         refine st_move h rfl rfl ?_; clear h a; intro a h
         refine st_move h rfl rfl ?_; clear h a; intro a h
         have hbO := hX.blk
         refine st_append h rfl rfl hX hrv.sl el30 (by unfold maxLen; omega) (by omega) (by omega) rfl ?_; clear h a; intro X3 w18 ho3 hq hx3 a h
         replace hN := hN.fr hq (fun k hk hb => by have := (hbO k hk).1; have := hNI k hb; omega)
         replace hO := hO.fr hq (fun k hk hb => by have := (hbO k hk).1; have := hOI k hb; omega)
         replace hb1 := hb1.fr hq (fun hb => by have := (hbO _ hb).1; omega)
         replace hf := hf.step hq (fun k hk hlt => absurd (hbO k hk).1 (by omega))
         replace hgs := Nat.le_trans hgs hq.size
         clear hrv hXr
         clear hX hq hx3 hbO; have hX := ho3; clear ho3
         refine st_assign h rfl rfl ?_; clear h a; intro a h
         replace h : Ag a 131 [(1, _), (7, _), (9, _), (10, _), (11, _), (12, _), (13, _), (15, _)] := h.sub (.cons rfl (.cons rfl (.cons rfl (.cons rfl (.cons rfl (.cons rfl (.cons rfl (.cons rfl .nil))))))))
         refine wnt ?_
         refine wR ?_
         refine st_move h rfl rfl ?_; clear h a; intro a h
         refine st_move h rfl rfl ?_; clear h a; intro a h
         refine st_add h rfl rfl (by first | exact IntWalk.i64_in _ (by omega) | rfl) rfl ?_; clear h a; intro a h
         refine st_assign h rfl rfl ?_; clear h a; intro a h
         replace h : Ag a 131 [(1, _), (7, _), (9, _), (10, _), (11, _), (12, _), (13, _)] := h.sub (.cons rfl (.cons rfl (.cons rfl (.cons rfl (.cons rfl (.cons rfl (.cons rfl .nil)))))))
         refine wpList_nil (norm_blk (norm_then ?_))
         refine wR ?_
         refine st_move h rfl rfl ?_; clear h a; intro a h
         refine st_add h rfl rfl (by first | exact IntWalk.i64_in _ (by omega) | rfl) rfl ?_; clear h a; intro a h
         refine st_assign h rfl rfl ?_; clear h a; intro a h
         replace h : Ag a 131 [(1, _), (7, _), (9, _), (10, _), (11, _), (12, _), (13, _)] := h.sub (.cons rfl (.cons rfl (.cons rfl (.cons rfl (.cons rfl (.cons rfl (.cons rfl .nil)))))))
         refine wnt ?_
         exact ⟨⟨k + 1, at_ + (needsS s).toNat, acc ++ (loadsS s ((ls.drop at_).take (needsS s).toNat)).1, _⟩, h.sub (.cons rfl (.cons rfl (.cons rfl (.cons rfl (.cons (by show some (Value.int IntKind.i64 ((at_ : Int) + needsS s)) = some (Value.int IntKind.i64 ((at_ + (needsS s).toNat : Nat) : Int)); congr 2; omega) (.cons rfl (.cons rfl .nil))))))), ⟨by simp only; omega, by simp only; omega, by simp only [List.length_drop] at hdl ⊢; omega, rr_next hrr hsk h0', by simp only [List.length_append]; omega, hX, hN, hO, hb1, hgs, hf⟩, by simp only; omega⟩
       ·obtain rfl : k = r.length := by omega
        have hrow := rr_end hrr
        have hrsn := rs_next hrs hrk hrow
        have hal2 := run_next_len hrow
        have hlnn : ∀ q, rows[i + 1]? = some q → (acc.length : Int) = needsR q := fun q hq => by rw [hadj2 i r q hrk hq]; exact hal2
        obtain ⟨XA, xc, rfl, hxc⟩ := hX.sl.form
        refine wp_exit (exit_then (exit_then (exit_here (norm_then ?_))))
        refine wp_seq ?_
        refine wR ?_
        refine st_move h rfl rfl ?_; clear h a; intro a h
        refine st_assign h rfl rfl ?_; clear h a; intro a h
        replace h : Ag a 131 [(1, _), (7, _), (9, _), (10, _), (12, _)] := h.sub (.cons rfl (.cons rfl (.cons rfl (.cons rfl (.cons rfl .nil)))))
        refine wnt ?_
        refine wR ?_
        refine st_move h rfl rfl ?_; clear h a; intro a h
        refine st_move h rfl rfl ?_; clear h a; intro a h
        refine st_bslice [((XA, acc.length, xc) : SV)] h (evs_cons rfl evs_nil) rfl rfl rfl el111 (by decide) rfl ?_; clear h a; intro gV w19 hg hoV hq hz a h
        have hXO : ∀ k ∈ blks OV, k ∉ blks (.slice XA acc.length xc) := fun k hk hk2 => by have := hOI k hk; have := (hX.blk k hk2).1; omega
        replace hf := hf.next hq
        replace hb1 := hb1.ext hq
        replace hX := hX.ext hq
        replace hN := hN.ext hq
        replace hO := hO.ext hq
        replace hgs := Nat.le_trans hgs hq.size
        clear hq hz hg
        have hbO := hO.blk
        refine st_append h rfl rfl hO hoV.sl el111 (by unfold maxLen; simp; omega) (by simp; omega) (by have := hb1.lt; omega) rfl ?_; clear h a; intro O3 w20 ho3 hq hx3 a h
        replace hX := hX.fr hq hXO
        replace hb1 := hb1.fr hq (fun hb => by have := (hbO _ hb).1; omega)
        replace hf := hf.step hq (fun k hk hlt => absurd (hbO k hk).1 (by omega))
        clear hoV hN
        clear hO hq hx3 hbO; have hO := ho3; clear ho3
        refine st_assign h rfl rfl ?_; clear h a; intro a h
        replace h : Ag a 131 [(1, _), (7, _), (9, _), (10, _)] := h.sub (.cons rfl (.cons rfl (.cons rfl (.cons rfl .nil))))
        refine wpList_nil (norm_blk (norm_then ?_))
        refine wR ?_
        refine st_move h rfl rfl ?_; clear h a; intro a h
        refine st_add h rfl rfl (by first | exact IntWalk.i64_in _ (by omega) | rfl) rfl ?_; clear h a; intro a h
        refine st_assign h rfl rfl ?_; clear h a; intro a h
        replace h : Ag a 131 [(1, _), (7, _), (9, _), (10, _)] := h.sub (.cons rfl (.cons rfl (.cons rfl (.cons rfl .nil))))
        refine wnt ?_
        exact ⟨⟨i + 1, _, acc, _, hs ++ [(XA, acc.length, xc)]⟩, h.sub (.cons rfl (.cons rfl (.cons rfl (.cons rfl .nil)))), ⟨by simp only; omega, hlnn, hrsn, hX.low (by omega), hO, by simp [hol], hb1, hf⟩, by simp only; omega⟩
      ·obtain rfl : i = rows.length := by omega
       have hend := rs_end hrs
       refine wp_exit (exit_then (exit_then (exit_here (norm_then ?_))))
       refine wp_seq ?_
       refine wR ?_
       refine st_move h rfl rfl ?_; clear h a; intro a h
       refine st_assign h rfl rfl ?_; clear h a; intro a h
       refine st_assign h rfl rfl ?_; clear h a; intro a h
       replace h : Ag a 131 [(2, _), (3, _)] := h.sub (.cons rfl (.cons rfl .nil))
       refine wnt ?_
       refine wp_ret ?_
       refine ret2 h Tryd.results53 rfl rfl ?_
       exact ⟨_, rfl, _, by rw [hend], hf⟩
end Go.Proofs.YthehggmdcmpjeaaDoor
namespace Go.Proofs.YthehggmdcmpjeaaDoor
open Go.Lw Go.G14
theorem co65 : CallOf Tryd.prog 65 := CallOf.mk' Tryd.func65 (by kernel_rfl) (by kernel_rfl)
theorem co83 : CallOf Tryd.prog 83 := CallOf.mk' Tryd.func83 (by kernel_rfl) (by kernel_rfl)
theorem co84 : CallOf Tryd.prog 84 := CallOf.mk' Tryd.func84 (by kernel_rfl) (by kernel_rfl)
theorem na30 : NotAgg Tryd.prog 30 := fun _ => by kernel_rfl
theorem sz30 : SizeOf Tryd.prog 30 1 := fun _ => by kernel_rfl
theorem zv30 (w : World) : (zeroValue 30).run Tryd.prog w = .ok (.slice none 0 0) w := by kernel_rfl
set_option maxHeartbeats 2000000 in
theorem chart_ok (u : Value) (rows : List (List Stitch)) (w0 : World) (hS : Sll encSt w0 u rows) : Rets Tryd.prog 65 #[.agg #[u]] w0 fun v w' => ∃ X, v = .tuple #[X, .int .i64 (chartE rows)] ∧ Fr [] w0 w' := by
 obtain ⟨A, c, rfl, hcp, hM⟩ := hS.form
 unfold maxLen at hM
 refine enter [(0, .agg #[.slice A rows.length c])] Tryd.func65 rfl Tryd.ntmps65 rfl (.cons rfl .nil) ?_
 have hf := Fr.refl [] w0
 intro a h
 refine wp_seq ?_
 refine wR ?_
 refine st_box h rfl rfl rfl ?_; clear h a; intro w1 hb1 hq hz a h
 obtain ⟨g_1, hg⟩ : ∃ g, g = w0.heap.size := ⟨_, rfl⟩; rw [← hg] at hb1 h hz
 have hl1 : w0.heap.size ≤ g_1 := by have := hf.size; omega
 replace hf := hf.next hq
 clear hq hz hg
 refine st_assign h rfl rfl ?_; clear h a; intro a h
 refine st_assign h rfl rfl ?_; clear h a; intro a h
 replace h : Ag a 97 [(1, _)] := h.sub (.cons rfl .nil)
 refine wnt ?_
 refine wp_scope_straight ?_
 refine wp_seq ?_
 refine wp_seq ?_
 refine wR ?_
 refine st_fieldAddr h rfl fa47_0 rfl ?_; clear h a; intro a h
 refine st_loadB h rfl hb1 rfl na45 rfl ?_; clear h a; intro a h
 refine st_call h (evs_cons rfl evs_nil) co83 (checkrows_ok _ rows _ (hS.ext hf)) rfl ?_; clear h a; rintro _ w2 ⟨rfl, hq⟩ a h
 replace hf := hf.next hq
 replace hb1 := hb1.ext hq
 clear hq
 refine st_assign h rfl rfl ?_; clear h a; intro a h
 replace h : Ag a 97 [(1, _), (4, _)] := h.sub (.cons rfl (.cons rfl .nil))
 refine wnt ?_
 refine wp_seq ?_
 refine wR ?_
 refine st_move h rfl rfl ?_; clear h a; intro a h
 refine st_ne h rfl rfl rfl ?_; clear h a; intro a h
 replace h : Ag a 97 [(1, _), (4, _), (22, _)] := h.sub (.cons rfl (.cons rfl (.cons rfl .nil)))
 refine wnt ?_
 first | refine cond_dec h rfl (fun c0 => ?_) (fun c0 => ?_) | refine cond_ndec h rfl (fun c0 => ?_) (fun c0 => ?_) | refine cond_split h rfl (fun c0 => ?_) (fun c0 => ?_)
 ·have hE := c0
  refine wp_seq ?_
  refine wR ?_
  refine st_move h rfl rfl ?_; clear h a; intro a h
  refine st_assign h rfl rfl ?_; clear h a; intro a h
  refine st_assign h rfl rfl ?_; clear h a; intro a h
  replace h : Ag a 97 [(2, _), (3, _)] := h.sub (.cons rfl (.cons rfl .nil))
  refine wnt ?_
  refine wp_ret (ret_then (ret_sc ?_))
  refine ret2 h Tryd.results65 rfl rfl ?_
  exact ⟨_, rfl, _, by rw [chart_bad rfl hE], hf⟩
 ·have hE0 : rowsE rows = 0 := Decidable.not_not.1 c0
  obtain ⟨hl31, hl2, hz, hadj2⟩ := rows_of hE0
  obtain ⟨r0, hr0k⟩ : ∃ r, rows[0]? = some r := ⟨_, List.getElem?_eq_getElem (by omega)⟩
  have hr016 := row_ok_of (hz _ _ hr0k)
  obtain ⟨RA, rc, ad, hAd, cc, hr, hrc, hrm⟩ := hS.row hr0k
  unfold maxLen at hrm
  refine wsn ?_
  refine wp_seq ?_
  refine wR ?_
  refine st_fieldAddr h rfl fa47_0 rfl ?_; clear h a; intro a h
  refine st_loadB h rfl hb1 rfl na45 rfl ?_; clear h a; intro a h
  refine st_idxS (p := 0) h (by rw [hAd]; rfl) rfl el45 (by omega) (by omega) (by omega) rfl ?_; clear h a; intro a h
  refine st_loadC0 h rfl (cc.fr hf (by simp)) na61 rfl ?_; clear h a; intro a h
  refine st_call h (evs_cons rfl evs_nil) co48 (cneeds_ok _ r0 _ (hr.ext hf) (by omega)) rfl ?_; clear h a; rintro _ w3 ⟨rfl, hq⟩ a h
  replace hf := hf.next hq
  replace hb1 := hb1.ext hq
  clear hq
  obtain ⟨n0, hn0⟩ : ∃ n : Nat, (n : Int) = needsR r0 := ⟨(needsR r0).toNat, by omega⟩
  rw [← hn0] at h
  refine st_makeSlice (0 : Int) h rfl rfl el30 zv3 rfl (Nat.le_refl _) (by omega) (by unfold maxLen; omega) rfl ?_; clear h a; intro gF w4 hg hF hq hz a h
  have hgF : w0.heap.size ≤ gF := by have := hf.size; omega
  have hg1F : g_1 < gF := by have := hb1.lt; omega
  replace hf := hf.next hq
  replace hb1 := hb1.ext hq
  clear hq hz hg
  refine st_assign h rfl rfl ?_; clear h a; intro a h
  replace h : Ag a 97 [(1, _), (5, _)] := h.sub (.cons rfl (.cons rfl .nil))
  refine wnt ?_
  refine wp_seq ?_
  refine wp_seq ?_
  refine wR ?_
  refine st_move h rfl rfl ?_; clear h a; intro a h
  refine st_lenS h rfl Tryd.underlying30 rfl ?_; clear h a; intro a h
  refine st_move h rfl rfl ?_; clear h a; intro a h
  replace h : Ag a 97 [(1, _), (5, _), (31, _), (32, _)] := h.sub (.cons rfl (.cons rfl (.cons rfl (.cons rfl .nil))))
  refine wnt ?_
  refine wp_block ?_
  refine loop (ι := Nat) (fun j => [(1, .pointer (some ⟨g_1, 0, none⟩)), (5, .slice (some ⟨gF, 0, none⟩) n0 n0), (31, .int .i64 (n0 : Int)), (32, .int .i64 (j : Int))]) (fun j w' => j ≤ n0 ∧ Lw.Own Enc.i64 3 gF w' (.slice (some ⟨gF, 0, none⟩) n0 n0) (List.replicate j 1 ++ List.replicate (n0 - j) 0) ∧ Blk w' g_1 47 [.slice A rows.length c] ∧ Fr [] w0 w') (fun j => n0 - j) 0 (h.sub (.cons rfl (.cons rfl (.cons rfl (.cons rfl .nil))))) ⟨by omega, by simpa using hF, hb1, hf⟩ ?_
  clear h a hf hb1 hF
  rintro j w5 a h ⟨hj, hF, hb1, hf⟩
  refine wp_seq ?_
  refine wR ?_
  refine st_lt h rfl rfl rfl ?_; clear h a; intro a h
  refine wnt ?_
  refine wp_seq ?_
  first | refine cond_dec h rfl (fun c1 => ?_) (fun c1 => ?_) | refine cond_ndec h rfl (fun c1 => ?_) (fun c1 => ?_) | refine cond_split h rfl (fun c1 => ?_) (fun c1 => ?_)
  ·refine id ?_
   refine wsn ?_
   refine wp_seq ?_
   refine wp_block ?_
   refine wp_seq ?_
   refine wR ?_
   refine st_move h rfl rfl ?_; clear h a; intro a h
   refine st_assign h rfl rfl ?_; clear h a; intro a h
   replace h : Ag a 97 [(1, _), (5, _), (6, _), (31, _), (32, _)] := h.sub (.cons rfl (.cons rfl (.cons rfl (.cons rfl (.cons rfl .nil)))))
   refine wnt ?_
   refine wR ?_
   refine st_move h rfl rfl ?_; clear h a; intro a h
   refine st_move h rfl rfl ?_; clear h a; intro a h
   refine st_idxS (p := j) h rfl rfl el30 (by omega) (by omega) (by omega) rfl ?_; clear h a; intro a h
   refine st_storeO (i := j) (1 : Int) h rfl rfl hF (by simp; omega) rfl sz3 ?_; clear h a; intro w6 hO2 hq hz a h
   replace hb1 := hb1.fr hq (by simp; omega)
   replace hf := hf.step hq (by simp; omega)
   clear hF hq hz; have hF := hO2; clear hO2
   rw [set_one j _ (by omega)] at hF
   replace h : Ag a 97 [(1, _), (5, _), (31, _), (32, _)] := h.sub (.cons rfl (.cons rfl (.cons rfl (.cons rfl .nil))))
   refine wpList_nil (norm_blk (norm_then ?_))
   refine wR ?_
   refine st_add h rfl rfl (by first | exact IntWalk.i64_in _ (by omega) | rfl) rfl ?_; clear h a; intro a h
   refine st_move h rfl rfl ?_; clear h a; intro a h
   replace h : Ag a 97 [(1, _), (5, _), (31, _), (32, _)] := h.sub (.cons rfl (.cons rfl (.cons rfl (.cons rfl .nil))))
   refine wnt ?_
   exact ⟨j + 1, h.sub (.cons rfl (.cons rfl (.cons rfl (.cons rfl .nil)))), ⟨by omega, hF, hb1, hf⟩, by omega⟩
  ·obtain rfl : n0 = j := by omega
   rw [Nat.sub_self, List.replicate_zero, List.append_nil] at hF
   refine wp_exit (exit_then (exit_then (exit_here (norm_then ?_))))
   refine wp_seq ?_
   refine wR ?_
   refine st_fieldAddr h rfl fa47_0 rfl ?_; clear h a; intro a h
   refine st_loadB h rfl hb1 rfl na45 rfl ?_; clear h a; intro a h
   refine st_lenS h rfl Tryd.underlying45 rfl ?_; clear h a; intro a h
   refine st_add h rfl rfl (by first | exact IntWalk.i64_in _ (by omega) | rfl) rfl ?_; clear h a; intro a h
   rw [show (1 : Int) + (rows.length : Int) = ((1 + rows.length : Nat) : Int) by omega] at h
   refine st_makeSlice (m := 1) (c := 1 + rows.length) ((none, 0, 0) : SV) h rfl rfl el111 zv30 rfl (by omega) (by omega) (by unfold maxLen; omega) rfl ?_; clear h a; intro gL w7 hg hL hq hz a h
   have hgL : w0.heap.size ≤ gL := by have := hf.size; omega
   have hgFL : gF < gL := by have := (hF.blk gF (by simp [blks])).2; omega
   replace hf := hf.next hq
   replace hb1 := hb1.ext hq
   replace hF := hF.ext hq
   clear hq hz hg
   refine st_assign h rfl rfl ?_; clear h a; intro a h
   replace h : Ag a 97 [(1, _), (5, _), (7, _)] := h.sub (.cons rfl (.cons rfl (.cons rfl .nil)))
   refine wnt ?_
   refine wp_seq ?_
   refine wR ?_
   refine st_move h rfl rfl ?_; clear h a; intro a h
   refine st_move h rfl rfl ?_; clear h a; intro a h
   refine st_idxS (p := 0) h rfl rfl el111 (by omega) (by omega) (by omega) rfl ?_; clear h a; intro a h
   refine st_storeO (i := 0) ((some ⟨gF, 0, none⟩, n0, n0) : SV) h rfl rfl hL (by simp) rfl sz30 ?_; clear h a; intro w8 hO2 hq hz a h
   replace hF := hF.fr hq (by simp [blks]; omega)
   replace hb1 := hb1.fr hq (by simp; omega)
   replace hf := hf.step hq (by simp; omega)
   have hR : Rws Enc.i64 30 3 (g_1 + 1) w8 _ ([] ++ [((some ⟨gF, 0, none⟩, n0, n0), List.replicate n0 1)]) := rws_one (hO2.low (by omega)) (hF.low (by omega)) (by simp [slv, blks]; omega)
   clear hL hF hq hz hO2
   replace h : Ag a 97 [(1, _), (7, _)] := h.sub (.cons rfl (.cons rfl .nil))
   refine wnt ?_
   refine wp_seq ?_
   refine wR ?_
   refine st_assign h rfl rfl ?_; clear h a; intro a h
   refine wnt ?_
   refine wp_seq ?_
   refine wp_label (norm_then ?_)
   refine seq_cut (Cut (ι := Value) 97 (fun V => [(7, V), (8, .int .i64 (chartE rows))]) (fun V w' => Fr [] w0 w')) ?_ ?_
   ·refine id ?_
    refine wp_seq ?_
    refine wR ?_
    refine st_fieldAddr h rfl fa47_0 rfl ?_; clear h a; intro a h
    refine st_loadB h rfl hb1 rfl na45 rfl ?_; clear h a; intro a h
    refine st_lenS h rfl Tryd.underlying45 rfl ?_; clear h a; intro a h
    refine st_move h rfl rfl ?_; clear h a; intro a h
    replace h : Ag a 97 [(7, _), (8, _), (48, _), (49, _), (50, _)] := h.sub (.cons rfl (.cons rfl (.cons rfl (.cons rfl (.cons rfl .nil)))))
    refine wnt ?_
    refine wp_block ?_
    refine loop (ι := LdSt) (fun z => [(7, z.OV), (8, .int .i64 0), (48, .slice A rows.length c), (49, .int .i64 (rows.length : Int)), (50, .int .i64 (z.i : Int))]) (fun z w' => z.i ≤ rows.length ∧ (∀ r, rows[z.i]? = some r → (z.ls.length : Int) = needsR r) ∧ runRows (rows.drop z.i) z.ls = chartE rows ∧ Rws Enc.i64 30 3 (g_1 + 1) w' z.OV (z.ps ++ [(z.u, z.ls)]) ∧ z.ps.length = z.i ∧ g_1 < w'.heap.size ∧ Fr [] w0 w') (fun z => rows.length - z.i) ⟨0, _, [], (some ⟨gF, 0, none⟩, n0, n0), List.replicate n0 1⟩ (h.sub (.cons rfl (.cons rfl (.cons rfl (.cons rfl (.cons rfl .nil)))))) ⟨Nat.zero_le _, fun r hr => by rw [hr0k] at hr; cases hr; simpa using hn0, by rw [chart_run hE0, startL, List.getD, hr0k, List.drop_zero]; show runRows rows (List.replicate n0 1) = runRows rows (List.replicate (needsR r0).toNat 1); rw [show (needsR r0).toNat = n0 by omega], hR, rfl, by have := (hR.out.blk gL (by simp [blks])).2; omega, hf⟩ ?_
    clear h a hf hR hb1
    rintro ⟨i, OV, ps, u, ls⟩ w9 a h ⟨hi, hln, hrs, hR, hpl, hgz, hf⟩
    simp only at hi hln hrs hR hpl h
    obtain ⟨uA, un, uc⟩ := u
    obtain ⟨e1, e2⟩ := Own.lens (hR.ins _ (show ((uA, un, uc), ls) ∈ ps ++ [((uA, un, uc), ls)] by simp))
    simp only at e1 e2
    subst e1
    refine wp_seq ?_
    refine wR ?_
    refine st_lt h rfl rfl rfl ?_; clear h a; intro a h
    refine wnt ?_
    refine wp_seq ?_
    first | refine cond_dec h rfl (fun c2 => ?_) (fun c2 => ?_) | refine cond_ndec h rfl (fun c2 => ?_) (fun c2 => ?_) | refine cond_split h rfl (fun c2 => ?_) (fun c2 => ?_)
    ·obtain ⟨r, hrk⟩ : ∃ r, rows[i]? = some r := ⟨_, List.getElem?_eq_getElem (by omega)⟩
     have hr16 := row_ok_of (hz _ _ hrk)
     have hls := hln r hrk
     obtain ⟨RA, rc, ad, hAd, cc, hr, hrc, hrm⟩ := hS.row hrk
     unfold maxLen at hrm
     refine wsn ?_
     refine wp_seq ?_
     refine wp_block ?_
     refine wp_seq ?_
     refine wR ?_
     refine st_move h rfl rfl ?_; clear h a; intro a h
     refine st_idxS (p := i) h (by rw [hAd]; rfl) rfl el45 (by omega) (by omega) (by omega) rfl ?_; clear h a; intro a h
     refine st_loadC0 h rfl (cc.fr hf (by simp)) na61 rfl ?_; clear h a; intro a h
     refine st_assign h rfl rfl ?_; clear h a; intro a h
     refine st_assign h rfl rfl ?_; clear h a; intro a h
     replace h : Ag a 97 [(7, _), (8, _), (9, _), (10, _), (48, _), (49, _), (50, _)] := h.sub (.cons rfl (.cons rfl (.cons rfl (.cons rfl (.cons rfl (.cons rfl (.cons rfl .nil)))))))
     refine wnt ?_
     refine wp_seq ?_
     refine wR ?_
     refine st_move h rfl rfl ?_; clear h a; intro a h
     refine st_move h rfl rfl ?_; clear h a; intro a h
     refine st_idx (p := i) h rfl rfl hR.out.sl el111 (by omega) (by omega) (top_get hpl.symm) rfl ?_; clear h a; intro la lc a h
     refine st_loadC0 (v := .slice uA ls.length uc) h rfl lc na30 rfl ?_; clear h a; intro a h
     refine st_assign h rfl rfl ?_; clear h a; intro a h
     replace h : Ag a 97 [(7, _), (8, _), (10, _), (11, _), (48, _), (49, _), (50, _)] := h.sub (.cons rfl (.cons rfl (.cons rfl (.cons rfl (.cons rfl (.cons rfl (.cons rfl .nil)))))))
     refine wnt ?_
     refine wp_seq ?_
     refine wR ?_
     refine st_move h rfl rfl ?_; clear h a; intro a h
     refine st_call h (evs_cons rfl evs_nil) co49 (cmakes_ok _ r _ (hr.ext hf) (by omega)) rfl ?_; clear h a; rintro _ w10 ⟨rfl, hq⟩ a h
     replace hf := hf.next hq
     replace hR := hR.ext hq
     replace hgz := Nat.lt_of_lt_of_le hgz hq.size
     clear hq
     obtain ⟨m0, hm0⟩ : ∃ n : Nat, (n : Int) = makesR r := ⟨(makesR r).toNat, by omega⟩
     rw [← hm0] at h
     have hOb := hR.out.blk
     have hub := (hR.ins _ (show ((uA, ls.length, uc), ls) ∈ ps ++ [((uA, ls.length, uc), ls)] by simp)).blk
     refine st_makeSlice (m := 0) (c := m0) (0 : Int) h rfl rfl el30 zv3 rfl (by omega) (by omega) (by unfold maxLen; omega) rfl ?_; clear h a; intro gI w11 hg hX hq hz a h
     have hgI : w0.heap.size ≤ gI := by have := hf.size; omega
     have hOI : ∀ k ∈ blks OV, k < gI := fun k hk => by have := (hOb k hk).2; omega
     have hBI : ∀ k ∈ blks (slv (uA, ls.length, uc)), k < gI := fun k hk => by have := (hub k hk).2; omega
     have hg1I : g_1 + 1 ≤ gI := by omega
     have hRA : RAll gI OV (ps ++ [((uA, ls.length, uc), ls)]) := by rw [hg]; exact hR.bnd
     replace hf := hf.next hq
     replace hR := hR.ext hq
     replace hgz := Nat.lt_of_lt_of_le hgz hq.size
     have hgs : gI ≤ w11.heap.size := by omega
     have hB : Sl Enc.i64 w11 (.slice uA ls.length uc) ls := (hR.ins _ (show ((uA, ls.length, uc), ls) ∈ ps ++ [((uA, ls.length, uc), ls)] by simp)).sl
     clear hq hz hg hOb hub
     refine st_assign h rfl rfl ?_; clear h a; intro a h
     replace h : Ag a 97 [(7, _), (8, _), (10, _), (11, _), (12, _), (48, _), (49, _), (50, _)] := h.sub (.cons rfl (.cons rfl (.cons rfl (.cons rfl (.cons rfl (.cons rfl (.cons rfl (.cons rfl .nil))))))))
     refine wnt ?_
     refine wp_seq ?_
     refine wp_seq ?_
     refine wR ?_
     refine st_move h rfl rfl ?_; clear h a; intro a h
     refine st_lenS h rfl Tryd.underlying61 rfl ?_; clear h a; intro a h
     refine st_move h rfl rfl ?_; clear h a; intro a h
     replace h : Ag a 97 [(7, _), (8, _), (11, _), (12, _), (48, _), (49, _), (50, _), (62, _), (63, _), (64, _)] := h.sub (.cons rfl (.cons rfl (.cons rfl (.cons rfl (.cons rfl (.cons rfl (.cons rfl (.cons rfl (.cons rfl (.cons rfl .nil))))))))))
     refine wnt ?_
     refine wp_block ?_
     refine loop (ι := LeSt) (fun z => [(7, OV), (8, .int .i64 0), (11, z.B), (12, z.X), (48, .slice A rows.length c), (49, .int .i64 (rows.length : Int)), (50, .int .i64 (i : Int)), (62, .slice RA r.length rc), (63, .int .i64 (r.length : Int)), (64, .int .i64 (z.k : Int))]) (fun z w' => z.k ≤ r.length ∧ z.at_ ≤ ls.length ∧ ((ls.drop z.at_).length : Int) = needsR (r.drop z.k) ∧ runRow (r.drop z.k) (ls.drop z.at_) z.acc = runRow r ls [] ∧ z.acc.length ≤ 4 * z.k ∧ Lw.Own Enc.i64 3 gI w' z.X z.acc ∧ Sl Enc.i64 w' z.B (ls.drop z.at_) ∧ (∀ k ∈ blks z.B, k < gI) ∧ Rws Enc.i64 30 3 (g_1 + 1) w' OV (ps ++ [((uA, ls.length, uc), ls)]) ∧ gI ≤ w'.heap.size ∧ Fr [] w0 w') (fun z => r.length - z.k) ⟨0, 0, [], _, _⟩ (h.sub (.cons rfl (.cons rfl (.cons rfl (.cons rfl (.cons rfl (.cons rfl (.cons rfl (.cons rfl (.cons rfl (.cons rfl .nil))))))))))) ⟨Nat.zero_le _, Nat.zero_le _, by simpa using hln r hrk, rfl, Nat.le_refl _, hX, hB, hBI, hR, hgs, hf⟩ ?_
     clear h a hf hX hB hBI hR hgs
     rintro ⟨k, at_, acc, X, B⟩ w12 a h ⟨hk, hat, hdl, hrr, hal, hX, hB, hBI, hR, hgs, hf⟩
     simp only at hk hat hdl hrr hal hX hB hBI h
     obtain ⟨BA, bc, rfl, hbc⟩ := hB.form
     obtain ⟨-, -, hbM, -⟩ := Sl.open_ hB
     unfold maxLen at hbM
     refine wp_seq ?_
     refine wR ?_
     refine st_lt h rfl rfl rfl ?_; clear h a; intro a h
     refine wnt ?_
     refine wp_seq ?_
     first | refine cond_dec h rfl (fun c3 => ?_) (fun c3 => ?_) | refine cond_ndec h rfl (fun c3 => ?_) (fun c3 => ?_) | refine cond_split h rfl (fun c3 => ?_) (fun c3 => ?_)
     ·obtain ⟨s, hsk⟩ : ∃ s, r[k]? = some s := ⟨_, List.getElem?_eq_getElem (by omega)⟩
      obtain ⟨-, -, -, hE⟩ := Sl.open_ hr
      obtain ⟨sa, hsa, csx⟩ := hE k s hsk
      have hnd := needs_drop hsk
      have hnp := needs_pos (r.drop (k + 1))
      have hnr := needs_rng s
      have hdl2 : ((ls.length - at_ : Nat) : Int) = needsR (r.drop k) := by rw [← hdl, List.length_drop]
      refine wsn ?_
      refine wp_seq ?_
      refine wp_block ?_
      refine wp_seq ?_
      refine wR ?_
      refine st_idxS (p := k) h (by rw [hsa]; rfl) rfl el61 (by omega) (by omega) (by omega) rfl ?_; clear h a; intro a h
      refine st_loadA h rfl (csx.fr hf (by simp)) ag100 rfl ?_; clear h a; intro a h
      refine st_alloc h zv100 rfl rfl ?_; clear h a; intro w13 hb14 hq hz a h
      obtain ⟨g_14, hg⟩ : ∃ g, g = w12.heap.size := ⟨_, rfl⟩; rw [← hg] at hb14 h hz
      have hl14 : w0.heap.size ≤ g_14 := by have := hf.size; omega
      have hlt_hX_14 : ∀ k ∈ blks X, k < g_14 := fun k hk => by have := (hX.blk k hk).2; omega
      have hl_hgs_14 : gI ≤ g_14 := by omega
      replace hf := hf.next hq
      replace hX := hX.ext hq
      replace hB := hB.ext hq
      replace hR := hR.up hq hRA (by first | (simp; done) | (simp; omega))
      replace hgs := Nat.le_trans hgs hq.size
      clear hq hz hg
      refine st_storeBA h rfl rfl hb14 rfl (by first | (simp [Value.oneCell', S]; done) | exact Enc.one _ _) sz100 ?_; clear h a; intro w14 hbn hq hz a h
      replace hf := hf.step hq (by first | (simp; done) | (simp; omega))
      replace hX := hX.fr hq (by intro k hk hb; simp at hk; subst hk; exact absurd (hlt_hX_14 _ hb) (by omega))
      replace hB := hB.fr hq (by intro k hk hb; simp at hk; have := hBI k hb; omega)
      replace hR := hR.up hq hRA (by first | (simp; done) | (simp; omega))
      replace hgs := Nat.le_trans hgs hq.size
      clear hb14 hq hz; have hb14 : Blk w14 g_14 _ [_, _, _, _, _] := hbn; clear hbn
      replace h : Ag a 97 [(7, _), (8, _), (11, _), (12, _), (14, _), (48, _), (49, _), (50, _), (62, _), (63, _), (64, _)] := h.sub (.cons rfl (.cons rfl (.cons rfl (.cons rfl (.cons rfl (.cons rfl (.cons rfl (.cons rfl (.cons rfl (.cons rfl (.cons rfl .nil)))))))))))
      refine wnt ?_
      refine wp_seq ?_
      refine wR ?_
      refine st_loadBA h rfl hb14 ag100 rfl ?_; clear h a; intro a h
      refine st_call h (evs_cons rfl evs_nil) co67 (needs_ok s _) rfl ?_; clear h a; rintro _ w15 ⟨rfl, hq⟩ a h
      replace hf := hf.next hq
      replace hX := hX.ext hq
      replace hB := hB.ext hq
      replace hR := hR.up hq hRA (by first | (simp; done) | (simp; omega))
      replace hgs := Nat.le_trans hgs hq.size
      replace hb14 := hb14.ext hq
      clear hq
      refine st_assign h rfl rfl ?_; clear h a; intro a h
      replace h : Ag a 97 [(7, _), (8, _), (11, _), (12, _), (14, _), (15, _), (48, _), (49, _), (50, _), (62, _), (63, _), (64, _)] := h.sub (.cons rfl (.cons rfl (.cons rfl (.cons rfl (.cons rfl (.cons rfl (.cons rfl (.cons rfl (.cons rfl (.cons rfl (.cons rfl (.cons rfl .nil))))))))))))
      refine wnt ?_
      refine wp_seq ?_
      refine region_held (fun wb w' => Fr [] wb w') hmix ?_; intro w16 hq
      replace hf := hf.next hq
      replace hX := hX.ext hq
      replace hB := hB.ext hq
      replace hR := hR.up hq hRA (by first | (simp; done) | (simp; omega))
      replace hgs := Nat.le_trans hgs hq.size
      replace hb14 := hb14.ext hq
      clear hq; have hC : Fr [] w16 w16 := Fr.refl _ _
      have hX_b := hX
      have hB_b := hB
      have hb14_b := hb14
      refine hd_loadBA 0 (by kernel_rfl) (by kernel_rfl) (by kernel_rfl) hC h wn rfl (fun _ hw => hb14_b.ext hw) ag100 rfl rfl ?_; clear h a; intro a h
      refine hd_move 1 (by kernel_rfl) (by kernel_rfl) (by kernel_rfl) hC h wn rfl rfl rfl ?_; clear h a; intro a h
      refine hd_move 2 (by kernel_rfl) (by kernel_rfl) (by kernel_rfl) hC h wn rfl rfl rfl ?_; clear h a; intro a h
      refine hd_sl_h 3 (by kernel_rfl) (by kernel_rfl) (by kernel_rfl) hC (p := (needsS s).toNat) h wn rfl rfl el30 (by omega) (by omega) rfl rfl rfl ?_; clear h a; intro a h
      refine hd_one 4 (by kernel_rfl) rfl ?_
      have hpt := hB.take rfl (m := (needsS s).toNat) (by omega) (B := BA) (c' := bc) (by omega) (by unfold maxLen; omega) (fun _ => rfl)
      refine st_call h (evs_cons rfl (evs_cons rfl evs_nil)) co84 (loads_ok s _ _ _ hpt) rfl ?_; clear h a; rintro _ w17 ⟨rv, rfl, hrv, hq⟩ a h
      replace hf := hf.next hq
      replace hX := hX.ext hq
      replace hB := hB.ext hq
      replace hR := hR.up hq hRA (by first | (simp; done) | (simp; omega))
      replace hgs := Nat.le_trans hgs hq.size
      replace hb14 := hb14.ext hq
      replace hC := hC.next hq
      clear hq hpt
      refine hd_next hC ?_
      refine hd_move 5 (by kernel_rfl) (by kernel_rfl) (by kernel_rfl) hC h wn rfl rfl rfl ?_; clear h a; intro a h
      refine hd_extract 6 (by kernel_rfl) (by kernel_rfl) (by kernel_rfl) hC h wn rfl rfl rfl rfl ?_; clear h a; intro a h
      refine hd_extract 7 (by kernel_rfl) (by kernel_rfl) (by kernel_rfl) hC h wn rfl rfl rfl rfl ?_; clear h a; intro a h
      refine hd_one 8 (by kernel_rfl) rfl ?_
      refine st_assign h rfl rfl ?_; clear h a; intro a h
      refine hd_next hC ?_
      refine hd_one 9 (by kernel_rfl) rfl ?_
      refine st_assign h rfl rfl ?_; clear h a; intro a h
      refine hd_next hC ?_
      refine hd_end (by kernel_rfl) ?_
      clear hC hX_b hB_b hb14_b
      replace h : Ag a 97 [(7, _), (8, _), (11, _), (12, _), (15, _), (16, _), (17, _), (48, _), (49, _), (50, _), (62, _), (63, _), (64, _)] := h.sub (.cons rfl (.cons rfl (.cons rfl (.cons rfl (.cons rfl (.cons rfl (.cons rfl (.cons rfl (.cons rfl (.cons rfl (.cons rfl (.cons rfl (.cons rfl .nil)))))))))))))
      refine (norm_then ?_)
      refine wp_seq ?_
      refine wp_seq ?_
      refine wR ?_
      refine st_move h rfl rfl ?_; clear h a; intro a h
      refine st_ne h rfl rfl rfl ?_; clear h a; intro a h
      replace h : Ag a 97 [(7, _), (8, _), (11, _), (12, _), (15, _), (16, _), (17, _), (48, _), (49, _), (50, _), (62, _), (63, _), (64, _), (79, _)] := h.sub (.cons rfl (.cons rfl (.cons rfl (.cons rfl (.cons rfl (.cons rfl (.cons rfl (.cons rfl (.cons rfl (.cons rfl (.cons rfl (.cons rfl (.cons rfl (.cons rfl .nil))))))))))))))
      refine wnt ?_
      first | refine cond_dec h rfl (fun c4 => ?_) (fun c4 => ?_) | refine cond_ndec h rfl (fun c4 => ?_) (fun c4 => ?_) | refine cond_split h rfl (fun c4 => ?_) (fun c4 => ?_)
      ·have hbad := rs_bad hrs hrk (by rw [rr_bad hrr hsk c4]; exact c4)
       rw [rr_bad hrr hsk c4] at hbad
       refine wp_seq ?_
       refine wR ?_
       refine st_move h rfl rfl ?_; clear h a; intro a h
       refine st_assign h rfl rfl ?_; clear h a; intro a h
       replace h : Ag a 97 [(7, _), (8, _)] := h.sub (.cons rfl (.cons rfl .nil))
       refine wnt ?_
       refine wp_exit (exit_then (exit_out rfl (exit_then (exit_then (exit_out rfl (exit_then (exit_out rfl (exit_then (exit_then (exit_here (norm_then ?_)))))))))))
       exact ⟨_, h.sub (.cons rfl (.cons (by first | (rw [hend]; rfl) | (rw [hbad]; rfl)) .nil)), hf⟩
      ·clear hb14
       have h0' : ¬ (loadsS s ((ls.drop at_).take (needsS s).toNat)).2 ≠ 0 := c4
       have hll := loads_len s ((ls.drop at_).take (needsS s).toNat)
       refine wsn ?_
       refine wp_seq ?_
       refine wR ?_
       refine st_move h rfl rfl ?_; clear h a; intro a h
       refine st_move h rfl rfl ?_; clear h a; intro a h
       refine st_sl_l (p := (needsS s).toNat) h rfl rfl el30 (by omega) (by omega) rfl rfl ?_; clear h a; intro a h
       replace hB := hB.drop rfl (m := (needsS s).toNat) (by omega) (B := if bc = (needsS s).toNat then BA else BA.map (·.add ((needsS s).toNat * Enc.i64.sz))) (c' := bc - (needsS s).toNat) (by omega) (by unfold maxLen; omega) (fun hlt => by rw [if_neg (by omega)])
       rw [List.drop_drop] at hB
       replace hBI : ∀ k ∈ blks (.slice (if bc = (needsS s).toNat then BA else BA.map (·.add ((needsS s).toNat * Enc.i64.sz))) ((ls.drop at_).length - (needsS s).toNat) (bc - (needsS s).toNat)), k < gI := by
        intro k hk; split at hk; exact hBI k (by rw [blks_any BA _ _ ((ls.drop at_).length - (needsS s).toNat) (bc - (needsS s).toNat)]; exact hk); exact hBI k (by rw [← blks_add BA ((needsS s).toNat * Enc.i64.sz) ((ls.drop at_).length - (needsS s).toNat) (bc - (needsS s).toNat)]; exact hk)
       refine st_assign h rfl rfl ?_; clear h a; intro a h
       replace h : Ag a 97 [(7, _), (8, _), (11, _), (12, _), (16, _), (48, _), (49, _), (50, _), (62, _), (63, _), (64, _)] := h.sub (.cons rfl (.cons rfl (.cons rfl (.cons rfl (.cons rfl (.cons rfl (.cons rfl (.cons rfl (.cons rfl (.cons rfl (.cons rfl .nil)))))))))))
       refine wnt ?_
       refine wR ?_
       refine st_move h rfl rfl ?_; clear h a; intro a h
       refine st_move h rfl rfl ?_; clear h a; intro a h
       have hbO := hX.blk
       refine st_append h rfl rfl hX hrv.sl el30 (by unfold maxLen; omega) (by omega) (by omega) rfl ?_; clear h a; intro X3 w18 ho3 hq hx3 a h
       replace hB := hB.fr hq (fun k hk hb => by have := (hbO k hk).1; have := hBI k hb; omega)
       replace hR := hR.up hq hRA (fun k hk => (hbO k hk).1)
       replace hf := hf.step hq (fun k hk hlt => absurd (hbO k hk).1 (by omega))
       replace hgs := Nat.le_trans hgs hq.size
       clear hrv
       clear hX hq hx3 hbO; have hX := ho3; clear ho3
       refine st_assign h rfl rfl ?_; clear h a; intro a h
       replace h : Ag a 97 [(7, _), (8, _), (11, _), (12, _), (48, _), (49, _), (50, _), (62, _), (63, _), (64, _)] := h.sub (.cons rfl (.cons rfl (.cons rfl (.cons rfl (.cons rfl (.cons rfl (.cons rfl (.cons rfl (.cons rfl (.cons rfl .nil))))))))))
       refine wpList_nil (norm_blk (norm_then ?_))
       refine wR ?_
       refine st_add h rfl rfl (by first | exact IntWalk.i64_in _ (by omega) | rfl) rfl ?_; clear h a; intro a h
       refine st_move h rfl rfl ?_; clear h a; intro a h
       replace h : Ag a 97 [(7, _), (8, _), (11, _), (12, _), (48, _), (49, _), (50, _), (62, _), (63, _), (64, _)] := h.sub (.cons rfl (.cons rfl (.cons rfl (.cons rfl (.cons rfl (.cons rfl (.cons rfl (.cons rfl (.cons rfl (.cons rfl .nil))))))))))
       refine wnt ?_
       exact ⟨⟨k + 1, at_ + (needsS s).toNat, acc ++ (loadsS s ((ls.drop at_).take (needsS s).toNat)).1, _, _⟩, h.sub (.cons rfl (.cons rfl (.cons (by rw [List.length_drop]; rfl) (.cons rfl (.cons rfl (.cons rfl (.cons rfl (.cons rfl (.cons rfl (.cons rfl .nil)))))))))), ⟨by simp only; omega, by simp only; omega, by simp only [List.length_drop] at hdl ⊢; omega, rr_next hrr hsk h0', by simp only [List.length_append]; omega, hX, hB, hBI, hR, hgs, hf⟩, by simp only; omega⟩
     ·obtain rfl : k = r.length := by omega
      have hrow := rr_end hrr
      have hrsn := rs_next hrs hrk hrow
      have hal2 := run_next_len hrow
      have hlnn : ∀ q, rows[i + 1]? = some q → (acc.length : Int) = needsR q := fun q hq => by rw [hadj2 i r q hrk hq]; exact hal2
      obtain ⟨XA, xc, rfl, hxc⟩ := hX.sl.form
      refine wp_exit (exit_then (exit_then (exit_here (norm_then ?_))))
      refine wR ?_
      refine st_move h rfl rfl ?_; clear h a; intro a h
      refine st_move h rfl rfl ?_; clear h a; intro a h
      refine st_bslice [((XA, acc.length, xc) : SV)] h (evs_cons rfl evs_nil) rfl rfl rfl el111 (by decide) rfl ?_; clear h a; intro gV w19 hg hoV hq hz a h
      replace hf := hf.next hq
      replace hX := hX.ext hq
      replace hB := hB.ext hq
      replace hR := hR.up hq hRA (by first | (simp; done) | (simp; omega))
      replace hgs := Nat.le_trans hgs hq.size
      clear hq hz hg
      have hbO := hR.out.blk
      refine st_append h rfl rfl hR.out hoV.sl el111 (by unfold maxLen; simp; omega) (by simp; omega) (by omega) rfl ?_; clear h a; intro O3 w20 ho3 hq hx3 a h
      replace hR := hR.push (u := (XA, acc.length, xc)) (hX.low (by omega)) (fun k hk hk2 => by have := (hX.blk k hk).1; have := hOI k hk2; omega) ho3 hq hx3
      replace hf := hf.step hq (fun k hk hlt => absurd (hbO k hk).1 (by omega))
      replace hgs := Nat.le_trans hgs hq.size
      clear hq hx3 hoV hbO ho3 hX
      refine st_assign h rfl rfl ?_; clear h a; intro a h
      replace h : Ag a 97 [(7, _), (8, _), (48, _), (49, _), (50, _)] := h.sub (.cons rfl (.cons rfl (.cons rfl (.cons rfl (.cons rfl .nil)))))
      refine wpList_nil (norm_blk (norm_then ?_))
      refine wR ?_
      refine st_add h rfl rfl (by first | exact IntWalk.i64_in _ (by omega) | rfl) rfl ?_; clear h a; intro a h
      refine st_move h rfl rfl ?_; clear h a; intro a h
      replace h : Ag a 97 [(7, _), (8, _), (48, _), (49, _), (50, _)] := h.sub (.cons rfl (.cons rfl (.cons rfl (.cons rfl (.cons rfl .nil)))))
      refine wnt ?_
      exact ⟨⟨i + 1, O3, ps ++ [((uA, ls.length, uc), ls)], (XA, acc.length, xc), acc⟩, h.sub (.cons rfl (.cons rfl (.cons rfl (.cons rfl (.cons rfl .nil))))), ⟨by simp only; omega, hlnn, hrsn, hR, by simp [hpl], by omega, hf⟩, by simp only; omega⟩
    ·obtain rfl : i = rows.length := by omega
     have hend := rs_end hrs
     refine wp_exit (exit_then (exit_then (exit_here (norm_then ?_))))
     exact ⟨_, h.sub (.cons rfl (.cons (by first | (rw [hend]; rfl) | (rw [hbad]; rfl)) .nil)), hf⟩
   ·clear h a hf
    rintro a w21 ⟨V, h, hf⟩
    refine wp_seq ?_
    refine wp_seq ?_
    refine wR ?_
    refine st_move h rfl rfl ?_; clear h a; intro a h
    refine st_ne h rfl rfl rfl ?_; clear h a; intro a h
    replace h : Ag a 97 [(7, _), (8, _), (94, _)] := h.sub (.cons rfl (.cons rfl (.cons rfl .nil)))
    refine wnt ?_
    first | refine cond_dec h rfl (fun c5 => ?_) (fun c5 => ?_) | refine cond_ndec h rfl (fun c5 => ?_) (fun c5 => ?_) | refine cond_split h rfl (fun c5 => ?_) (fun c5 => ?_)
    ·refine id ?_
     refine wp_seq ?_
     refine wR ?_
     refine st_move h rfl rfl ?_; clear h a; intro a h
     refine st_assign h rfl rfl ?_; clear h a; intro a h
     refine st_assign h rfl rfl ?_; clear h a; intro a h
     replace h : Ag a 97 [(2, _), (3, _)] := h.sub (.cons rfl (.cons rfl .nil))
     refine wnt ?_
     refine wp_ret (ret_then (ret_sc ?_))
     refine ret2 h Tryd.results65 rfl rfl ?_
     exact ⟨_, rfl, _, rfl, hf⟩
    ·refine id ?_
     refine wsn ?_
     refine wp_seq ?_
     refine wR ?_
     refine st_move h rfl rfl ?_; clear h a; intro a h
     refine st_assign h rfl rfl ?_; clear h a; intro a h
     refine st_assign h rfl rfl ?_; clear h a; intro a h
     replace h : Ag a 97 [(2, _), (3, _)] := h.sub (.cons rfl (.cons rfl .nil))
     refine wnt ?_
     refine wp_ret (ret_sc ?_)
     refine ret2 h Tryd.results65 rfl rfl ?_
     exact ⟨_, rfl, _, by rw [show chartE rows = 0 from Decidable.not_not.1 c5], hf⟩
theorem check_chart_ok (u : Value) (rows : List (List Stitch)) (w0 : World) (hS : Sll encSt w0 u rows) : Rets Tryd.prog 46 #[.agg #[u]] w0 fun v w' => v = .int .i64 (chartE rows) ∧ Fr [] w0 w' := by
 obtain ⟨A, c, rfl, hcp, hM⟩ := hS.form
 unfold maxLen at hM
 refine enter [(0, .agg #[.slice A rows.length c])] Tryd.func46 rfl Tryd.ntmps46 rfl (.cons rfl .nil) ?_
 have hf := Fr.refl [] w0
 intro a h
 refine wp_seq ?_
 refine wR ?_
 refine st_box h rfl rfl rfl ?_; clear h a; intro w1 hb1 hq hz a h
 obtain ⟨g_1, hg⟩ : ∃ g, g = w0.heap.size := ⟨_, rfl⟩; rw [← hg] at hb1 h hz
 have hl1 : w0.heap.size ≤ g_1 := by have := hf.size; omega
 replace hf := hf.next hq
 clear hq hz hg
 refine st_assign h rfl rfl ?_; clear h a; intro a h
 replace h : Ag a 11 [(1, _)] := h.sub (.cons rfl .nil)
 refine wnt ?_
 refine wp_seq ?_
 refine wR ?_
 refine st_loadBA h rfl hb1 ag47 rfl ?_; clear h a; intro a h
 refine st_call h (evs_cons rfl evs_nil) co65 (chart_ok _ rows _ (hS.ext hf)) rfl ?_; clear h a; rintro _ w2 ⟨X, rfl, hq⟩ a h
 replace hf := hf.next hq
 replace hb1 := hb1.ext hq
 clear hq
 refine st_move h rfl rfl ?_; clear h a; intro a h
 refine st_extract h rfl rfl rfl ?_; clear h a; intro a h
 refine st_extract h rfl rfl rfl ?_; clear h a; intro a h
 refine st_assign h rfl rfl ?_; clear h a; intro a h
 refine st_assign h rfl rfl ?_; clear h a; intro a h
 replace h : Ag a 11 [(4, _)] := h.sub (.cons rfl .nil)
 refine wnt ?_
 refine wp_seq ?_
 refine wR ?_
 refine st_move h rfl rfl ?_; clear h a; intro a h
 refine st_assign h rfl rfl ?_; clear h a; intro a h
 replace h : Ag a 11 [(2, _)] := h.sub (.cons rfl .nil)
 refine wnt ?_
 refine wp_ret ?_
 refine ret1 h Tryd.results46 rfl ?_
 exact ⟨_, rfl, rfl, hf⟩
end Go.Proofs.YthehggmdcmpjeaaDoor
namespace Go.Lw
open Go.RowKit
section
variable {P : Program} {a : Act} {n : Nat} {L : List (Nat × Value)} {ds : List Nat} {w w' : World} {Q : Exit → Act → World → Prop} {C : World → Prop} {Qa : Act → Prop} {ops : Array Oper} {rest : List Oper} {d d2 : Nat} {ty ty2 : TypeId} {pos pos2 : String} {after after2 : Array Edge} {v u : Value} {x y z : Operand} {t T : TypeId} {k k' k'' : IntKind} {i j : Int}
theorem Sl.at {α : Type} {E : Enc α} {ys : List α} (hs : Sl E w v ys) {p : Nat} (hp : p < ys.length) : ∃ ad c, v = .slice (some ad) ys.length c ∧ ∀ W, Sl E W v ys → Cells W (ad.add (p * E.sz)) (E.enc ys[p]) := by
  obtain ⟨A, c, rfl, h1, h2, h3⟩ := hs
  obtain ⟨ad, rfl, _⟩ := h3 p _ (List.getElem?_eq_getElem hp)
  refine ⟨ad, c, rfl, fun W hW => ?_⟩
  obtain ⟨A', c', e, _, _, h3'⟩ := hW
  cases e
  obtain ⟨ad', e, hc⟩ := h3' p _ (List.getElem?_eq_getElem hp)
  cases e; exact hc
theorem getD_at {α : Type} (ys : List α) (p : Nat) (hp : p < ys.length) (z : α) : ys[p] = ys.getD p z := by simp [List.getD, hp]
/-- x[y] = z. -/
theorem st_ixs {α : Type} {E : Enc α} {bytes base : Nat} {ys : List α} {p : Nat} (e : α) (h : AgM ds a n L) (hx : ev L x = some v) (ho : Own E T base w v ys) (hy : ev L y = some (.int k i)) (hz : ev L z = some u) (hzd : z ≠ .tmp d) (he : ElemOf P t T E bytes) (hsz : SizeOf P T E.sz) (hc : u.cells = (E.enc e).toArray) (h0 : 0 ≤ i) (h1 : i < ys.length) (hp : i.toNat = p) (hf : look L d = none) (hn : Nat.blt d n = true)
    (q : ∀ w', Own E T base w' v (ys.set p e) → Fr (blks v) w w' → w'.heap.size = w.heap.size → ∀ a, AgM ds a n L → wpList P ops Q rest a w') : wpList P ops Q (⟨some d, .indexAddr t x y, ty, pos, after, none⟩ :: ⟨none, .store T (.tmp d) z, ty2, pos2, after2, none⟩ :: rest) a w := by
  subst hp
  have hlt : i.toNat < ys.length := by omega
  rcases ho with ⟨rfl, rfl⟩ | ⟨g, cap, cur, rfl, r⟩
  · simp at hlt
  have ho : Own E T base w (.slice (some ⟨g, 0, none⟩) ys.length cap) ys := .inr ⟨g, cap, cur, rfl, r⟩
  refine st_idxS h hx hy he h0 h1 rfl hn fun a h => ?_
  have hz' : ev ((d, Value.pointer (some ((⟨g, 0, none⟩ : Addr).add (i.toNat * E.sz)))) :: L) z = some u := by
    cases z with
    | tmp s =>
      have : ¬ d = s := fun e => hzd (by rw [e])
      simp only [ev, look, beq_no this, cond_false]; exact hz
    | _ => exact hz
  refine st_storeO e h (by simp [ev, look]) hz' ho hlt hc hsz fun w' h1 h2 h3 a h => ?_
  exact q w' h1 h2 h3 a ⟨h.dfr, h.size, fun s u hu => h.at_ s u (by
    simp only [look]
    by_cases e : d = s
    · subst e; rw [hf] at hu; cases hu
    · rw [beq_no e]; exact hu)⟩
theorem s_ixs {α : Type} {E : Enc α} {bytes base : Nat} {ys : List α} {p : Nat} (e : α) (hx : ev L x = some v) (ho : Own E T base w v ys) (hy : ev L y = some (.int k i)) (hz : ev L z = some u) (hzd : z ≠ .tmp d) (he : ElemOf P t T E bytes) (hsz : SizeOf P T E.sz) (hc : u.cells = (E.enc e).toArray) (h0 : 0 ≤ i) (h1 : i < ys.length) (hp : i.toNat = p) (hf : look L d = none) (hn : Nat.blt d n = true) (q : ∀ w', Own E T base w' v (ys.set p e) → Fr (blks v) w w' → w'.heap.size = w.heap.size → WL P ops Q rest n ds w' L) : WL P ops Q (⟨some d, .indexAddr t x y, ty, pos, after, none⟩ :: ⟨none, .store T (.tmp d) z, ty2, pos2, after2, none⟩ :: rest) n ds w L := fun a h => st_ixs e h hx ho hy hz hzd he hsz hc h0 h1 hp hf hn q -- short
/-- The address of an element of a slice that reads as a list. -/
theorem Sl.at' {α : Type} {E : Enc α} {ys : List α} (hs : Sl E w v ys) {p : Nat} (hp : p < ys.length) (y0 : α) : ∃ ad c, v = .slice (some ad) ys.length c ∧ ∀ W, Sl E W v ys → Cells W (ad.add (p * E.sz)) (E.enc (ys.getD p y0)) := by
  obtain ⟨ad, c, h1, h2⟩ := hs.at hp
  exact ⟨ad, c, h1, by rw [← getD_at ys p hp y0]; exact h2⟩
theorem st_idxL {α : Type} {E : Enc α} {bytes : Nat} {ys : List α} {p : Nat} (y0 : α) (h : AgM ds a n L) (hx : ev L x = some v) (hs : Sl E w' v ys) (hy : ev L y = some (.int k i)) (he : ElemOf P t T E bytes) (h0 : 0 ≤ i) (h1 : i < ys.length) (hp : i.toNat = p) (hn : Nat.blt d n = true)
    (q : ∀ ad, (∀ W, Sl E W v ys → Cells W ad (E.enc (ys.getD p y0))) → ∀ a, AgM ds a n ((d, .pointer (some ad)) :: L) → wpList P ops Q rest a w) : wpList P ops Q (⟨some d, .indexAddr t x y, ty, pos, after, none⟩ :: rest) a w := by
  subst hp
  obtain ⟨ad, c, rfl, hc⟩ := hs.at' (p := i.toNat) (by omega) y0
  exact st_idxS h hx hy he h0 h1 rfl hn (q _ hc)
theorem s_idxL {α : Type} {E : Enc α} {bytes : Nat} {ys : List α} {p : Nat} (y0 : α) (hx : ev L x = some v) (hs : Sl E w' v ys) (hy : ev L y = some (.int k i)) (he : ElemOf P t T E bytes) (h0 : 0 ≤ i) (h1 : i < ys.length) (hp : i.toNat = p) (hn : Nat.blt d n = true) (q : ∀ ad, (∀ W, Sl E W v ys → Cells W ad (E.enc (ys.getD p y0))) → WL P ops Q rest n ds w ((d, .pointer (some ad)) :: L)) : WL P ops Q (⟨some d, .indexAddr t x y, ty, pos, after, none⟩ :: rest) n ds w L := fun a h => st_idxL y0 h hx hs hy he h0 h1 hp hn q -- short
theorem qt_idxL {α : Type} {E : Enc α} {bytes : Nat} {ys : List α} {p : Nat} (y0 : α) (h : AgM ds a n L) (hx : ev L x = some v) (hs : Sl E w' v ys) (hy : ev L y = some (.int k i)) (he : ElemOf P t T E bytes) (h0 : 0 ≤ i) (h1 : i < ys.length) (hp : i.toNat = p) (hn : Nat.blt d n = true)
    (q : ∀ ad, (∀ W, Sl E W v ys → Cells W ad (E.enc (ys.getD p y0))) → ∀ a, AgM ds a n ((d, .pointer (some ad)) :: L) → wpQuiet P ops C Qa rest a) : wpQuiet P ops C Qa (⟨some d, .indexAddr t x y, ty, pos, after, none⟩ :: rest) a := by
  subst hp
  obtain ⟨ad, c, rfl, hc⟩ := hs.at' (p := i.toNat) (by omega) y0
  exact qt_idxS h hx hy he h0 h1 rfl hn (q _ hc)
theorem hd_idxL {G : Option (Nat × Bool)} {K : Act → World → Prop} {fu : Nat} {listed : Array Bool} {pq : Option Nat} {α : Type} {E : Enc α} {bytes : Nat} {ys : List α} {p : Nat} (y0 : α) (ix : Nat) (hsel : Region.noSelect ops = true) (hfr : Fre pq ops listed ix = true) (hre : (Region.ready .any ops listed).contains ix = true) (hC : C w) (h : AgM ds a n L) (hG : Wd ops n L G)
    (hx : ev L x = some v) (hs : Sl E w' v ys) (hy : ev L y = some (.int k i)) (he : ElemOf P t T E bytes) (h0 : 0 ≤ i) (h1 : i < ys.length) (hp : i.toNat = p) (hix : ops[ix]? = some ⟨some d, .indexAddr t x y, ty, pos, after, G⟩) (hn : Nat.blt d n = true)
    (q : ∀ ad, (∀ W, Sl E W v ys → Cells W ad (E.enc (ys.getD p y0))) → ∀ a, AgM ds a n ((d, .pointer (some ad)) :: L) → wpAnyP pq P ops (NormEnd K) C fu (listed.setIfInBounds ix true) a w) : wpAnyP pq P ops (NormEnd K) C (fu + 1) listed a w := by
  subst hp
  obtain ⟨ad, c, rfl, hc⟩ := hs.at' (p := i.toNat) (by omega) y0
  exact hd_idxS ix hsel hfr hre hC h hG hx hy he h0 h1 rfl hix hn (q _ hc)
theorem hd_loadC0 {G : Option (Nat × Bool)} {K : Act → World → Prop} {fu : Nat} {listed : Array Bool} {pq : Option Nat} {ad : Addr} (ix : Nat) (hsel : Region.noSelect ops = true) (hfr : Fre pq ops listed ix = true) (hre : (Region.ready .any ops listed).contains ix = true) (hC : C w) (h : AgM ds a n L) (hG : Wd ops n L G) (hx : ev L x = some (.pointer (some ad))) (hc : ∀ w, C w → Cells w ad [v]) (hg : NotAgg P t)
    (hix : ops[ix]? = some ⟨some d, .load t x, ty, pos, after, G⟩) (hn : Nat.blt d n = true) (q : ∀ a, AgM ds a n ((d, v) :: L) → wpAnyP pq P ops (NormEnd K) C fu (listed.setIfInBounds ix true) a w) : wpAnyP pq P ops (NormEnd K) C (fu + 1) listed a w :=
  hd_load ix hsel hfr hre hC h hG hx (fun W hW => by have := hc W hW 0 v rfl; rwa [Addr.add_zero'] at this) hg hix hn q
theorem st_fad2 {ad : Addr} {f off o1 : Nat} (h : AgM ds a n L) (hx : ev L x = some (.pointer (some (ad.add o1)))) (hf : FieldAt P t f off) (hn : Nat.blt d n = true) (q : ∀ a, AgM ds a n ((d, .pointer (some (ad.add (o1 + off)))) :: L) → wpList P ops Q rest a w) : wpList P ops Q (⟨some d, .fieldAddr t x f, ty, pos, after, none⟩ :: rest) a w :=
  st_fieldAddr h hx hf hn (by rw [add_add]; exact q)
theorem s_fad2 {ad : Addr} {f off o1 : Nat} (hx : ev L x = some (.pointer (some (ad.add o1)))) (hf : FieldAt P t f off) (hn : Nat.blt d n = true) (q : WL P ops Q rest n ds w ((d, .pointer (some (ad.add (o1 + off)))) :: L)) : WL P ops Q (⟨some d, .fieldAddr t x f, ty, pos, after, none⟩ :: rest) n ds w L := fun a h => st_fad2 h hx hf hn q -- short
theorem Blk.part {w : World} {g T off : Nat} {cs vs : List Value} (hb : Blk w g T cs) (hv : (cs.drop off).take vs.length = vs) : Cells w ((⟨g, 0, none⟩ : Addr).add off) vs := fun j u hu => by
    rw [← hv] at hu
    have hj : (cs.drop off)[j]? = some u := by
      rw [List.getElem?_take] at hu; split at hu
      · exact hu
      · cases hu
    rw [List.getElem?_drop] at hj
    rw [add_add]; exact hb.cellAdd hj
theorem hd_loadBP {G : Option (Nat × Bool)} {K : Act → World → Prop} {fu : Nat} {listed : Array Bool} {pq : Option Nat} {g T off : Nat} {cs vs : List Value} (ix : Nat) (hsel : Region.noSelect ops = true) (hfr : Fre pq ops listed ix = true) (hre : (Region.ready .any ops listed).contains ix = true) (hC : C w) (h : AgM ds a n L) (hG : Wd ops n L G) (hx : ev L x = some (.pointer (some ((⟨g, 0, none⟩ : Addr).add off)))) (hb : ∀ w, C w → Blk w g T cs) (hg : AggOf P t vs.length) (hv : (cs.drop off).take vs.length = vs)
    (hix : ops[ix]? = some ⟨some d, .load t x, ty, pos, after, G⟩) (hn : Nat.blt d n = true) (q : ∀ a, AgM ds a n ((d, .agg vs.toArray) :: L) → wpAnyP pq P ops (NormEnd K) C fu (listed.setIfInBounds ix true) a w) : wpAnyP pq P ops (NormEnd K) C (fu + 1) listed a w :=
  hd_loadA ix hsel hfr hre hC h hG hx (fun w hw => (hb w hw).part hv) hg hix hn q
end
end Go.Lw
namespace Go.Lw
open Go.RowKit

section
variable {P : Program} {a : Act} {n N : Nat} {L : List (Nat × Value)} {ds : List Nat} {w w' : World} {Q : Exit → Act → World → Prop} {ops : Array Oper} {rest : List Oper} {o : Oper} {r : Option Nat}

theorem nm_end (h : Q .normal a w) : wpList P ops (NormEnd (Q .normal)) [] a w := h
end
end Go.Lw
namespace Go.Lw
open Go.RowKit

/-- Behind it the blocks of K are as they were. -/
structure FrK (K : Nat → Prop) (w w' : World) : Prop where
  os : w'.os = w.os
  tape : w'.tape = w.tape
  output : w'.output = w.output
  size : w.heap.size ≤ w'.heap.size
  block : ∀ k, k < w.heap.size → K k → w'.heap[k]? = w.heap[k]?
theorem FrK.refl (K : Nat → Prop) (w : World) : FrK K w w := ⟨rfl, rfl, rfl, Nat.le_refl _, fun _ _ _ => rfl⟩
theorem FrK.trans {K K' : Nat → Prop} {x y z : World} (h : FrK K x y) (h' : FrK K' y z) (hk : ∀ k, k < x.heap.size → K k → K' k) : FrK K x z :=
  ⟨h'.os.trans h.os, h'.tape.trans h.tape, h'.output.trans h.output, Nat.le_trans h.size h'.size, fun k hl hK =>
    (h'.block k (Nat.lt_of_lt_of_le hl h.size) (hk k hl hK)).trans (h.block k hl hK)⟩
theorem FrK.weak {K K' : Nat → Prop} {x y : World} (h : FrK K x y) (hk : ∀ k, k < x.heap.size → K' k → K k) : FrK K' x y := ⟨h.os, h.tape, h.output, h.size, fun k hl hK => h.block k hl (hk k hl hK)⟩
theorem Fr.toK {S : List Nat} {w w' : World} (h : Fr S w w') : FrK (· ∉ S) w w' := ⟨h.os, h.tape, h.output, h.size, h.block⟩
theorem FrK.step {K : Nat → Prop} {S : List Nat} {x y z : World} (h : FrK K x y) (h' : Fr S y z) (hS : ∀ k ∈ S, k < x.heap.size → ¬ K k) : FrK K x z :=
  h.trans h'.toK fun k hl hK e => hS k e hl hK
theorem FrK.next {K : Nat → Prop} {x y z : World} (h : FrK K x y) (h' : Fr [] y z) : FrK K x z := h.step h' (by simp)

section
variable {α : Type} {E : Enc α} {T : TypeId} {base g : Nat} {w w' : World} {v : Value} {ys : List α} {K : Nat → Prop} {cs : List Value} {ad : Addr}
theorem FrK.cell (h : FrK K w w') {p : Addr} {u : Value} (hc : w.cell? p = some u) (hn : K p.block) : w'.cell? p = some u :=
  (World.cell?_of_block (w := w) (h.block p.block (block_lt_of_cell hc) hn)).trans hc
end

/-- A step of the loop's book-keeping: new blocks, and at most one block that holds no cells is another. -/
def Turn (n0 : Nat) (W W' : World) : Prop := ∃ row, W.grownBy W' row ∧ ∀ r, row = some r → n0 ≤ r ∧ ∃ o : Obj, W.heap[r]? = some o ∧ o.isCells = false
section
variable {α : Type} {E : Enc α} {T : TypeId} {base g n0 : Nat} {w W W' : World} {v : Value} {ys : List α} {K : Nat → Prop} {cs : List Value} {ad : Addr} {S : List Nat}
theorem Turn.at (h : Turn n0 W W') {k : Nat} {o : Obj} (hk : W.heap[k]? = some o) (hc : o.isCells = true ∨ k < n0) : W'.heap[k]? = some o := by
  obtain ⟨row, hg, hr⟩ := h
  refine (hg.block k (Array.getElem?_eq_some_iff.1 hk).1 fun e => ?_).trans hk
  obtain ⟨h1, o', h2, h3⟩ := hr k e.symm
  rw [hk] at h2; cases h2
  rcases hc with hc | hc
  · rw [hc] at h3; cases h3
  · omega
theorem cells_of_cell {p : Addr} {u : Value} (h : W.cell? p = some u) : ∃ o, W.heap[p.block]? = some o ∧ o.isCells = true := by
  unfold World.cell? at h
  split at h
  · rename_i e; exact ⟨_, e, rfl⟩
  · cases h
theorem Turn.cell (h : Turn n0 W W') {p : Addr} {u : Value} (hc : W.cell? p = some u) : W'.cell? p = some u := by
  obtain ⟨o, h1, h2⟩ := cells_of_cell hc
  exact (World.cell?_of_block (w := W) ((h.at h1 (.inl h2)).trans h1.symm)).trans hc
theorem Cells.turn (h : Cells W ad cs) (ht : Turn n0 W W') : Cells W' ad cs := fun j u hu => ht.cell (h j u hu)
theorem Sl.turn (h : Sl E W v ys) (ht : Turn n0 W W') : Sl E W' v ys := by
  obtain ⟨A, c, rfl, h1, h2, h3⟩ := h
  exact ⟨A, c, rfl, h1, h2, fun i y hy => by obtain ⟨ad, rfl, hc⟩ := h3 i y hy; exact ⟨ad, rfl, hc.turn ht⟩⟩
theorem Own.turn (h : Own E T base W v ys) (ht : Turn n0 W W') : Own E T base W' v ys := by
  rcases h with ⟨rfl, rfl⟩ | ⟨g, cap, cur, rfl, hb, hg, r⟩
  · exact .inl ⟨rfl, rfl⟩
  · exact .inr ⟨g, cap, cur, rfl, hb, ht.at hg (.inl rfl), r⟩
theorem Blk.turn (h : Blk W g T cs) (ht : Turn n0 W W') : Blk W' g T cs := ht.at h (.inl rfl)
theorem Fr.turn (h : Fr S w W) (ht : Turn n0 W W') (hn : w.heap.size ≤ n0) : Fr S w W' := by
  obtain ⟨row, hg, hr⟩ := ht
  exact ⟨hg.os.trans h.os, hg.tape.trans h.tape, hg.output.trans h.output, Nat.le_trans h.size hg.size, fun k hk hS =>
    (hg.block k (Nat.lt_of_lt_of_le hk h.size) (fun e => by have := (hr k e.symm).1; omega)).trans (h.block k hk hS)⟩
theorem FrK.turn (h : FrK K w W) (ht : Turn n0 W W') (hn : w.heap.size ≤ n0) : FrK K w W' := by
  obtain ⟨row, hg, hr⟩ := ht
  exact ⟨hg.os.trans h.os, hg.tape.trans h.tape, hg.output.trans h.output, Nat.le_trans h.size hg.size, fun k hk hS =>
    (hg.block k (Nat.lt_of_lt_of_le hk h.size) (fun e => by have := (hr k e.symm).1; omega)).trans (h.block k hk hS)⟩
end

/-- What a round that goes on keeps: the blocks that the iterator reads. -/
def Keep (B : List Nat) (W W' : World) : Prop := ∀ b ∈ B, W'.heap[b]? = W.heap[b]?
section
variable {P : Program} {a : Act} {n N : Nat} {L : List (Nat × Value)} {ds : List Nat} {w w' : World} {Q : Exit → Act → World → Prop} {ops : Array Oper} {rest : List Oper} {o : Oper} {r : Option Nat}

end
end Go.Lw
namespace Go.Lw
open Go.RowKit
theorem Blk.of_below {w w' : World} {g B : Nat} {T : TypeId} {cs : List Value} (h : Blk w g T cs) (hb : Below B w w') (hg : g < B) : Blk w' g T cs := by
  unfold Blk at h ⊢; rw [hb.block g hg]; exact h
theorem below_of_fr {w w' : World} {B : Nat} {S : List Nat} (hf : Fr S w w') (hS : ∀ k ∈ S, B ≤ k) (hB : B ≤ w.heap.size) : Below B w w' :=
  ⟨hf.os, hf.tape, hf.output, hf.size, fun k hk => hf.block k (by omega) (fun e => by have := hS k e; omega)⟩
theorem bAt_fr {T e : TypeId} {B b : Nat} {p : Value} {bs : List Value} {w w' : World} (h : Lib.BuilderAt T e B b p bs w) (hf : Fr [] w w') : Lib.BuilderAt T e B b p bs w' := by
  obtain ⟨hB, v, hb, ⟨hl, hown⟩, hne⟩ := h
  have hblk : ∀ k o, w.heap[k]? = some o → w'.heap[k]? = some o := fun k o hk => by
    rw [hf.block k (Array.getElem?_eq_some_iff.1 hk).1 (by simp)]; exact hk
  refine ⟨hB, v, hblk _ _ hb, ⟨hl, ?_⟩, hne⟩
  rcases hown with h1 | ⟨g, cap, cur, h1, h2, h3, r⟩
  · exact .inl h1
  · exact .inr ⟨g, cap, cur, h1, h2, hblk _ _ h3, r⟩
theorem isB_fr {T e : TypeId} {B b : Nat} {bs : List Value} {w w' : World} (h : Lib.IsBuilder T e B b bs w) (hf : Fr [] w w') : Lib.IsBuilder T e B b bs w' := h.imp (bAt_fr · hf) (bAt_fr · hf)
theorem own_fr {w w' : World} {S : List Nat} {B : Nat} {e : TypeId} {v : Value} {n : Nat} {xs : List Value} (h : w.ownsRow B e 1 v n xs) (hf : Fr S w w') (hS : ∀ g ∈ S, v.ownBlock ≠ some g) : w'.ownsRow B e 1 v n xs := by
  obtain ⟨hl, hown⟩ := h
  refine ⟨hl, ?_⟩
  rcases hown with h1 | ⟨g, cap, cur, rfl, h2, h3, r⟩
  · exact .inl h1
  · exact .inr ⟨g, cap, cur, rfl, h2, by rw [hf.block g (Array.getElem?_eq_some_iff.1 h3).1 (fun e => hS g e rfl)]; exact h3, r⟩
theorem fr_grown {w w' : World} {r : Option Nat} (h : w.grownBy w' r) : Fr r.toList w w' :=
  ⟨h.os, h.tape, h.output, h.size, fun k hk hn => h.block k hk (fun e => hn (by simp [← e]))⟩
theorem own_ge {w : World} {B : Nat} {e : TypeId} {v : Value} {n : Nat} {xs : List Value} (h : w.ownsRow B e 1 v n xs) : ∀ k ∈ v.ownBlock.toList, B ≤ k := by
  obtain ⟨-, ⟨rfl, -⟩ | ⟨g, cap, cur, rfl, h2, -⟩⟩ := h
  · simp [Value.ownBlock]
  · simpa [Value.ownBlock] using h2
theorem own_one {w : World} {B : Nat} {e : TypeId} {v : Value} {n : Nat} {xs : List Value} (h : w.ownsRow B e 1 v n xs) : v.oneCell' = true ∧ v.cells = #[v] := by
  obtain ⟨-, ⟨rfl, -⟩ | ⟨g, cap, cur, rfl, -⟩⟩ := h <;> exact ⟨rfl, rfl⟩
/-- The builder's fact after a store into its block. -/
theorem bAt_mk {T e : TypeId} {B b : Nat} {p v : Value} {bs : List Value} {w w' : World} (hB : B ≤ b) (hb : Blk w' b T [p, v]) (ho : w.ownsRow B e 1 v bs.length bs) (hf : Fr [b] w w') (hne : v.ownBlock ≠ some b) : Lib.BuilderAt T e B b p bs w' :=
  ⟨hB, v, hb, own_fr ho hf (fun g hg => by rw [List.mem_singleton.1 hg]; exact hne), hne⟩
theorem row_str {w : World} {B : Nat} {e : TypeId} {v : Value} {l s : List UInt8} (h : w.ownsRow B e 1 v (l.length + s.length) (Lib.byteCells l ++ Lib.strCells ⟨s.toArray⟩)) : w.ownsRow B e 1 v (Lib.byteCells (l ++ s)).length (Lib.byteCells (l ++ s)) := by
  have e : Lib.byteCells l ++ Lib.strCells ⟨s.toArray⟩ = Lib.byteCells (l ++ s) := by simp [Lib.byteCells, Lib.strCells]
  rw [Lib.byteCells_length, List.length_append, ← e]; exact h
section
variable {P : Program} {a : Act} {n : Nat} {L : List (Nat × Value)} {ds : List Nat} {w w' : World} {Q : Exit → Act → World → Prop} {ops : Array Oper} {rest : List Oper}
variable {d : Nat} {ty : TypeId} {pos : String} {after : Array Edge} {x y : Operand} {t t' T T' : TypeId} {v : Value} {ad : Addr} {po : Option Addr}
theorem st_eqnilP (h : AgM ds a n L) (hx : ev L x = some (.pointer po)) (hu : P.underlying t = some (.pointer T)) (hn : Nat.blt d n = true) (q : ∀ a, AgM ds a n ((d, .bool po.isNone) :: L) → wpList P ops Q rest a w) :
    wpList P ops Q (⟨some d, .binOp .eql t x (.const (.pointer none)) t', ty, pos, after, none⟩ :: rest) a w :=
  st_ok h rfl rfl hn (by
    have hp : P.pointee t = T := by simp [Program.pointee, hu]
    have h3 := run_eql_pointer_nil (P := P) (w := w) t po (by rw [hp]; exact hu)
    have h4 : a.eval (.const (.pointer none)) = .pointer none := rfl
    simp [execOp, h.eval hx, h4, eqGuard, h3]) q
theorem st_neSameP {j : TypeInfo} (h : AgM ds a n L) (hx : ev L x = some (.pointer (some ad))) (hy : ev L y = some (.pointer (some ad))) (hu : P.underlying t = some (.pointer T)) (hi : P.info? T = some j) (hn : Nat.blt d n = true)
    (q : ∀ a, AgM ds a n ((d, .bool false) :: L) → wpList P ops Q rest a w) : wpList P ops Q (⟨some d, .binOp .neq t x y t', ty, pos, after, none⟩ :: rest) a w :=
  st_ok h rfl rfl hn (by
    have h3 := Lib.run_neq_ptr_same (P := P) (w := w) ad hu hi
    simp [execOp, h.eval hx, h.eval hy, eqGuard, h3]) q
theorem st_toUnsafe {j : TypeInfo} {E cells : Nat} (h : AgM ds a n L) (hx : ev L x = some (.pointer (some ad))) (hs : P.underlying t = some (.pointer T)) (hd : P.underlying t' = some .unsafePointer) (hi : P.info? T = some j) (hj : j.size ≠ 0) (hsh : w.shape? ad.block = some (E, cells)) (ho : ad.off < cells) (hn : Nat.blt d n = true)
    (q : ∀ a, AgM ds a n ((d, .pointer (some ad)) :: L) → wpList P ops Q rest a w) : wpList P ops Q (⟨some d, .convert t t' x, ty, pos, after, none⟩ :: rest) a w :=
  st_ok h rfl rfl hn (by
    have h3 := Lib.run_to_unsafe (P := P) (w := w) ad hs hd hi hj hsh ho
    simp [execOp, h.eval hx, h3]) q
theorem st_fromUnsafe {j : TypeInfo} {E cells : Nat} (h : AgM ds a n L) (hx : ev L x = some (.pointer (some ad))) (hs : P.underlying t = some .unsafePointer) (hd : P.underlying t' = some (.pointer T)) (hi : P.info? T = some j) (hsh : w.shape? ad.block = some (E, cells)) (hl : liesAt P P.depth E (cells / P.cellsOf E) ad.off T 1 = true) (hn : Nat.blt d n = true)
    (q : ∀ a, AgM ds a n ((d, .pointer (some ad)) :: L) → wpList P ops Q rest a w) : wpList P ops Q (⟨some d, .convert t t' x, ty, pos, after, none⟩ :: rest) a w :=
  st_ok h rfl rfl hn (by
    have h3 := Lib.run_from_unsafe (P := P) (w := w) ad hs hd hi hsh hl
    simp [execOp, h.eval hx, h3]) q
/-- A call of a function without a body that returns its argument. -/
theorem st_same {f : FuncId} {ts : Array TypeId} (h : AgM ds a n L) (hx : ev L x = some v) (hf : ∀ (u : Value) (w : World), (callFunc f #[u]).run P w = .ok (.value u) w) (hn : Nat.blt d n = true)
    (q : ∀ a, AgM ds a n ((d, v) :: L) → wpList P ops Q rest a w) : wpList P ops Q (⟨some d, .call ⟨.value (.func f), #[x], ts⟩, ty, pos, after, none⟩ :: rest) a w :=
  st_ok h rfl rfl hn (by
    rw [execOp_call_go]
    simp only [List.map_toArray, List.map_cons, List.map_nil, h.eval hx]
    exact hf v w) q
/-- append of a string onto bytes of the call's own. -/
theorem st_appendStr {u : Value} {m B : Nat} {xs : List Value} {l : List UInt8} (h : AgM ds a n L) (hx : ev L x = some u) (hy : ev L y = some (S l)) (ht : P.underlying t = some (.slice T)) (hs : P.underlying t' = some .string) (hi : (P.info? T).map (fun i => (i.zero, i.size, i.bytes)) = some (some (.int .u8 0), 1, 1))
    (ho : w.ownsRow B T 1 u m xs) (hM : m + l.length ≤ maxLen) (hb : m + l.length ≤ 140737488355328) (hB : B ≤ w.heap.size) (hn : Nat.blt d n = true)
    (q : ∀ v' w', w'.ownsRow B T 1 v' (m + l.length) (xs ++ Lib.strCells ⟨l.toArray⟩) → w.grownBy w' u.ownBlock → ∀ a, AgM ds a n ((d, v') :: L) → wpList P ops Q rest a w') :
    wpList P ops Q (⟨some d, .call ⟨.builtin .append, #[x, y], #[t, t']⟩, ty, pos, after, none⟩ :: rest) a w := by
  obtain ⟨i, h1, h2, h3, h4⟩ := info_parts hi
  have hsz : (ByteArray.mk l.toArray).size = l.length := by simp [ByteArray.size]
  obtain ⟨v', w', hr, r1, r2, _⟩ := Lib.run_append_own_string (P := P) (w := w) B t t' ty T i ht hs h1 h2 h3 h4 u m xs ho ⟨l.toArray⟩ (by rw [hsz]; exact hM) (by rw [hsz]; exact hb) hB
  rw [hsz] at r1
  refine st_ok h rfl rfl hn (w' := w') ?_ (q v' w' r1 r2)
  rw [exec_builtin]; unfold builtin
  simp only [List.map_toArray, List.map_cons, List.map_nil, h.eval hx, h.eval hy, S, Sem.run_bind, hr, Result.andThen_ok, Sem.run_pure]
end
end Go.Lw
namespace Go.Lw
open Go.RowKit
section
variable {P : Program} {n : Nat} {L : List (Nat × Value)} {ds : List Nat} {w w' : World} {Q : Exit → Act → World → Prop} {ops : Array Oper} {rest : List Oper} {a : Act} {x y c : Code} {id : Nat}
/-- What a truth value says. -/
class Says (b : Bool) (p : outParam Prop) : Prop where
  iff : b = true ↔ p
instance (priority := 100) says_b (b : Bool) : Says b (b = true) := ⟨Iff.rfl⟩
instance (priority := 1000) says_d (p : Prop) {hp : Decidable p} : Says (@decide p hp) p := ⟨decide_eq_true_iff⟩
instance (priority := 1100) says_n (p : Prop) {hp : Decidable p} : Says (!(@decide p hp)) (¬ p) := ⟨by simp⟩
theorem Says.no {b : Bool} {p : Prop} [h : Says b p] (e : b = false) : ¬ p := fun hp => by rw [h.iff.2 hp] at e; cases e
/-! plain -/
theorem sq (h : CW P (Exit.then (y.wp P Q) Q) x n ds w L) : CW P Q (.seq x y) n ds w L := fun a ha => wp_seq (h a ha)
theorem rg {l : List Oper} (h : WL P l.toArray Q l n ds w L) : CW P Q (.region id l.toArray false) n ds w L := fun a ha => wp_region_lit (h a ha)
theorem sr {l : List Oper} (h : WL P l.toArray (Exit.then (y.wp P Q) Q) l n ds w L) : CW P Q (.seq (.region id l.toArray false) y) n ds w L := sq (rg h)
theorem bl (h : CW P (Exit.inBlock id Q) x n ds w L) : CW P Q (.block id x) n ds w L := fun a ha => wp_block (h a ha)
theorem sk (h : EW Q .normal n ds w L) : CW P Q .skip n ds w L := fun a ha => wp_skip (h a ha)
theorem lb {l : Nat} (h : EW Q .normal n ds w L) : CW P Q (.label l) n ds w L := fun a ha => wp_label (h a ha)
theorem rt (h : EW Q .ret n ds w L) : CW P Q .ret n ds w L := fun a ha => wp_ret (h a ha)
theorem ex (h : EW Q (.exit id) n ds w L) : CW P Q (.exit id) n ds w L := fun a ha => wp_exit (h a ha)
theorem nl (h : EW Q .normal n ds w L) : WL P ops Q [] n ds w L := fun a ha => wpList_nil (h a ha)
theorem tn (h : CW P Q y n ds w L) {Q' : Exit → Act → World → Prop} : EW (Exit.then (y.wp P Q) Q') .normal n ds w L := h
theorem nn (h : CW P Q y n ds w L) {Q' : Exit → Act → World → Prop} : WL P ops (Exit.then (y.wp P Q) Q') [] n ds w L := nl (tn h)
theorem bn' (h : EW Q .normal n ds w L) : EW (Exit.inBlock id Q) .normal n ds w L := h
theorem rb (h : EW Q .ret n ds w L) : EW (Exit.inBlock id Q) .ret n ds w L := h
theorem tr {K : Act → World → Prop} (h : EW Q .ret n ds w L) : EW (Exit.then K Q) .ret n ds w L := h
theorem te {K : Act → World → Prop} (h : EW Q (.exit id) n ds w L) : EW (Exit.then K Q) (.exit id) n ds w L := h
theorem xh (h : EW Q .normal n ds w L) : EW (Exit.inBlock id Q) (.exit id) n ds w L := fun a ha => exit_here (h a ha)
theorem ct {C : Operand} (hc : ev L C = some (.bool true)) (k : CW P Q x n ds w L) : CW P Q (.cond C x y) n ds w L := fun a h => cond_true h hc (k a h)
theorem cf {C : Operand} (hc : ev L C = some (.bool false)) (k : CW P Q y n ds w L) : CW P Q (.cond C x y) n ds w L := fun a h => cond_false h hc (k a h)
theorem cd {C : Operand} {b : Bool} {p : Prop} (hc : ev L C = some (.bool b)) [s : Says b p] (ht : p → CW P Q x n ds w L) (hf : ¬ p → CW P Q y n ds w L) : CW P Q (.cond C x y) n ds w L :=
  fun a h => cond_split h hc (fun e => ht (s.iff.1 e) a h) (fun e => hf (s.no e) a h)
/-- A truth value in a slot, known from here on. -/
theorem gs {l : List Oper} (D : Nat) {b : Bool} {p : Prop} (hb : look L D = some (.bool b)) [s : Says b p] (ht : p → WL P ops Q l n ds w ((D, .bool true) :: L)) (hf : ¬ p → WL P ops Q l n ds w ((D, .bool false) :: L)) : WL P ops Q l n ds w L :=
  fun a h => guard_any h hb (fun e h' => ht (s.iff.1 e) a h') (fun e h' => hf (s.no e) a h')
theorem kpL {l : List Oper} (L' : List (Nat × Value)) (hs : Sub L' L) (k : WL P ops Q l n ds w L') : WL P ops Q l n ds w L := fun a h => k a (h.sub hs)
theorem kpC (L' : List (Nat × Value)) (hs : Sub L' L) (k : CW P Q c n ds w L') : CW P Q c n ds w L := fun a h => k a (h.sub hs)
/-- What a guard asks for. -/
def gAskG (ops : Array Oper) (G : Option (Nat × Bool)) (n : Nat) (L : List (Nat × Value)) : Option (Value × Bool) :=
  match G with
  | none => none
  | some (j, want) =>
    match ops[j]? with
    | none => none
    | some oj =>
      match oj.dst with
      | none => none
      | some dj => bif Nat.blt dj n then (look L dj).map (fun v => (v, want)) else none
def gAsk (ops : Array Oper) (o : Oper) (n : Nat) (L : List (Nat × Value)) : Option (Value × Bool) := gAskG ops o.guard n L
theorem gAsk_spec {o : Oper} {v : Value} {want : Bool} (h : gAsk ops o n L = some (v, want)) : ∃ j dj oj, o.guard = some (j, want) ∧ ops[j]? = some oj ∧ oj.dst = some dj ∧ Nat.blt dj n = true ∧ look L dj = some v := by
  unfold gAsk gAskG at h
  split at h
  · cases h
  · rename_i j want' hg
    split at h
    · cases h
    · rename_i oj hj
      split at h
      · cases h
      · rename_i dj hd
        cases hb : Nat.blt dj n with
        | false => rw [hb] at h; cases h
        | true =>
          rw [hb] at h
          cases hl : look L dj with
          | none => rw [hl] at h; cases h
          | some u => rw [hl] at h; cases h; exact ⟨j, dj, oj, hg, hj, hd, hb, hl⟩
theorem gY {o : Oper} {b : Bool} (hg : gAsk ops o n L = some (.bool b, b)) (k : WL P ops Q ({ o with guard := none } :: rest) n ds w L) : WL P ops Q (o :: rest) n ds w L := by
  obtain ⟨j, dj, oj, h1, h2, h3, h4, h5⟩ := gAsk_spec hg
  exact fun a h => gd_yes h h1 h2 h3 h4 h5 (by cases b <;> rfl) (k a h)
theorem gN {o : Oper} {b : Bool} {d : Nat} (hg : gAsk ops o n L = some (.bool b, !b)) (hd : o.dst = some d) (hn : Nat.blt d n = true) (k : WL P ops Q rest n ds w ((d, undef) :: L)) : WL P ops Q (o :: rest) n ds w L := by
  obtain ⟨j, dj, oj, h1, h2, h3, h4, h5⟩ := gAsk_spec hg
  exact fun a h => gd_no h h1 h2 h3 h4 h5 (by cases b <;> rfl) hd hn k
theorem gS {o : Oper} {d : Nat} {want : Bool} (hg : gAsk ops o n L = some (undef, want)) (hd : o.dst = some d) (hn : Nat.blt d n = true) (k : WL P ops Q rest n ds w ((d, undef) :: L)) : WL P ops Q (o :: rest) n ds w L := by
  obtain ⟨j, dj, oj, h1, h2, h3, h4, h5⟩ := gAsk_spec hg
  exact fun a h => gd_skip h h1 h2 h3 h4 h5 hd hn k
/-- A loop: the slots K stay, the slots M turn. -/
theorem lpK {ι : Type} (K : List (Nat × Value)) (M : ι → List (Nat × Value)) (I : ι → World → Prop) (μ : ι → Nat) (i : ι) (hs : Sub (K ++ M i) L) (hI : I i w)
    (round : ∀ i w, I i w → CW P (Exit.then (fun a' w' => ∃ j, AgM ds a' n (K ++ M j) ∧ I j w' ∧ μ j < μ i) Q) c n ds w (K ++ M i)) : CW P Q (.loop c) n ds w L :=
  fun a h => loop (fun i => K ++ M i) I μ i (h.sub hs) hI (fun i w a h hI => round i w hI a h)
theorem lpE {ι : Type} {K : List (Nat × Value)} {M : ι → List (Nat × Value)} {I : ι → World → Prop} {μ : ι → Nat} {m : Nat} (j : ι) (hs : Sub (K ++ M j) L) (hI : I j w) (hm : μ j < m) : EW (Exit.then (fun a' w' => ∃ j, AgM ds a' n (K ++ M j) ∧ I j w' ∧ μ j < m) Q) .normal n ds w L :=
  fun a h => ⟨j, h.sub hs, hI, hm⟩
/-- What joins two ways: the slots K stay. -/
def JW {ι : Type} (n : Nat) (ds : List Nat) (K : List (Nat × Value)) (M : ι → List (Nat × Value)) (I : ι → World → Prop) (a : Act) (w : World) : Prop := ∃ j, AgM ds a n (K ++ M j) ∧ I j w
theorem jn {ι : Type} (K : List (Nat × Value)) (M : ι → List (Nat × Value)) (I : ι → World → Prop) (_hs : Sub K L) (h1 : CW P (Exit.then (JW n ds K M I) Q) x n ds w L) (h2 : ∀ j w, I j w → CW P Q y n ds w (K ++ M j)) : CW P Q (.seq x y) n ds w L :=
  fun a h => seq_cut (JW n ds K M I) (h1 a h) (fun a w ⟨j, h, hI⟩ => h2 j w hI a h)
theorem jE {ι : Type} {K : List (Nat × Value)} {M : ι → List (Nat × Value)} {I : ι → World → Prop} (j : ι) (hs : Sub (K ++ M j) L) (hI : I j w) : EW (Exit.then (JW n ds K M I) Q) .normal n ds w L := fun a h => ⟨j, h.sub hs, hI⟩
/-- A region that yields a truth value, by whatever way. -/
theorem rbo {ol : List Oper} {r : Nat} {L' : List (Nat × Value)} (C : Prop) [Decidable C] (hs : Sub L' L) (h1 : WL P ol.toArray (BoolEnd ds n r C L' w) ol n ds w L) (h2 : EW Q .normal n ds w ((r, .bool (decide C)) :: L')) : CW P Q (.region id ol.toArray false) n ds w L :=
  fun a h => region_bool C h hs (h1 a h) h2
theorem rbe {r : Nat} {L' : List (Nat × Value)} {C : Prop} [Decidable C] {b : Bool} (hr : look L r = some (.bool b)) (hb : b = decide C) (hs : Sub L' L) : WL P ops (BoolEnd ds n r C L' w) [] n ds w L :=
  fun a h => wpList_nil (bool_end h hr hb hs)
/-- The same, with a world that may have grown. -/
def BoolEndF (ds : List Nat) (n r : Nat) (C : Prop) [Decidable C] (L' : List (Nat × Value)) (w0 : World) : Exit → Act → World → Prop := fun e a w => e = .normal ∧ Fr [] w0 w ∧ AgM ds a n ((r, .bool (decide C)) :: L')
theorem rboF {ol : List Oper} {r : Nat} {L' : List (Nat × Value)} (C : Prop) [Decidable C] (_hs : Sub L' L) (h1 : WL P ol.toArray (BoolEndF ds n r C L' w) ol n ds w L) (h2 : ∀ w', Fr [] w w' → EW Q .normal n ds w' ((r, .bool (decide C)) :: L')) : CW P Q (.region id ol.toArray false) n ds w L :=
  fun a h => wp_mono (wp_region_lit (h1 a h)) (fun e a w h => by obtain ⟨rfl, hf, ha⟩ := h; exact h2 w hf a ha)
theorem rbeF {r : Nat} {L' : List (Nat × Value)} {C : Prop} [Decidable C] {b : Bool} {w0 : World} (hr : look L r = some (.bool b)) (hb : b = decide C) (hs : Sub L' L) (hf : Fr [] w0 w) : WL P ops (BoolEndF ds n r C L' w0) [] n ds w L :=
  fun a h => wpList_nil ⟨rfl, hf, (bool_end (w := w) h hr hb hs).2.2⟩
/-- Back from a frame with a name. -/
theorem bk {e : Exit} (h : AgM ds a n L) (k : EW Q e n ds w L) : Q e a w := k a h
theorem we {f : FuncId} {fn : Func} {c : Code} {args : Array Value} {R : Ending → World → Prop} (L : List (Nat × Value)) (hf : P.funcs[f]? = some fn) (hc : fn.body = some c) (hn : fn.ntmps = n) (hl : Nat.ble args.size n = true) (hL : argsOk args L)
    (h : CW P (bodyPost P fn R) c n [] w L) : Calls P f args w R := enter L hf hc hn hl hL h
section
variable {R : Ending → World → Prop} {fn : Func} {t u s : Nat} {v z : Value}
theorem r0 (hr : fn.results = #[]) (k : R (.returned (.tuple #[])) w) : EW (bodyPost P fn R) .ret n [] w L := fun _ h => ret0 h hr k
theorem r1 (hr : fn.results = #[.tmp t]) (hv : look L t = some v) (k : R (.returned v) w) : EW (bodyPost P fn R) .ret n [] w L := fun _ h => ret1 h hr hv k
theorem r2 (hr : fn.results = #[.tmp t, .tmp u]) (hv : look L t = some v) (hx : look L u = some z) (k : R (.returned (.tuple #[v, z])) w) : EW (bodyPost P fn R) .ret n [] w L := fun _ h => ret2 h hr hv hx k
theorem r3 {z' : Value} (hr : fn.results = #[.tmp t, .tmp u, .tmp s]) (hv : look L t = some v) (hx : look L u = some z) (hy : look L s = some z') (k : R (.returned (.tuple #[v, z, z'])) w) : EW (bodyPost P fn R) .ret n [] w L := fun _ h => ret3 h hr hv hx hy k
variable {p pt q r g T : Nat} {cs : List Value}
theorem rC (hr : fn.results = #[.cell p pt]) (hp : look L p = some (.pointer (some ⟨g, 0, none⟩))) (hb : Blk w g T cs) (hg : AggOf P pt cs.length) (k : R (.returned (.agg cs.toArray)) w) : EW (bodyPost P fn R) .ret n [] w L := fun _ h => retC h hr hp hb hg k
theorem rCT (hr : fn.results = #[.cell p pt, .tmp q]) (hp : look L p = some (.pointer (some ⟨g, 0, none⟩))) (hb : Blk w g T cs) (hg : AggOf P pt cs.length) (hv : look L q = some v) (k : R (.returned (.tuple #[.agg cs.toArray, v])) w) : EW (bodyPost P fn R) .ret n [] w L := fun _ h => retCT h hr hp hb hg hv k
end
theorem wi6 {z : Int} (h : -9223372036854775808 ≤ z ∧ z ≤ 9223372036854775807) : IntKind.i64.wrap z = z := IntWalk.i64_in z (by omega)
theorem wi8 {z : Int} (h : 0 ≤ z ∧ z ≤ 255) : IntKind.u8.wrap z = z := IntWalk.u8_in z (by omega)
theorem ev1 {x : Operand} {v : Value} (h : ev L x = some v) : evs L [x] [v] := ⟨h, trivial⟩
theorem ev2 {x y : Operand} {v u : Value} (h : ev L x = some v) (h2 : ev L y = some u) : evs L [x, y] [v, u] := ⟨h, h2, trivial⟩
theorem ev3 {x y z : Operand} {v u t : Value} (h : ev L x = some v) (h2 : ev L y = some u) (h3 : ev L z = some t) : evs L [x, y, z] [v, u, t] := ⟨h, h2, h3, trivial⟩
theorem ev4 {x y z o : Operand} {v u t s : Value} (h : ev L x = some v) (h2 : ev L y = some u) (h3 : ev L z = some t) (h4 : ev L o = some s) : evs L [x, y, z, o] [v, u, t, s] := ⟨h, h2, h3, h4, trivial⟩
theorem nat_of {k : Nat} : ((k : Nat) : Int).toNat = k := Int.toNat_natCast k
end
theorem us {P : Program} {t : TypeId} {u} (h : P.underlying t = some u) : (P.underlying t).isSome = true := by rw [h]; rfl
section
variable {P : Program} {n : Nat} {L : List (Nat × Value)} {ds : List Nat} {w w' : World} {Q : Exit → Act → World → Prop} {ops : Array Oper} {rest : List Oper} {d : Nat} {ty T : TypeId} {pos : String} {after : Array Edge} {v : Value} {x : Operand}
theorem bx {cs : List Value} (hx : ev L x = some v) (hc : v.cells = cs.toArray) (hn : Nat.blt d n = true) (q : ∀ g w', g = w.heap.size → Blk w' g T cs → Fr [] w w' → w'.heap.size = g + 1 → WL P ops Q rest n ds w' ((d, .pointer (some ⟨g, 0, none⟩)) :: L)) : WL P ops Q (⟨some d, .box T x, ty, pos, after, none⟩ :: rest) n ds w L :=
  s_box hx hc hn (fun w' h1 h2 h3 => q _ w' rfl h1 h2 h3)
theorem al {cs : List Value} (hz : ∀ w : World, (zeroValue T).run P w = .ok v w) (hc : v.cells = cs.toArray) (hn : Nat.blt d n = true) (q : ∀ g w', g = w.heap.size → Blk w' g T cs → Fr [] w w' → w'.heap.size = g + 1 → WL P ops Q rest n ds w' ((d, .pointer (some ⟨g, 0, none⟩)) :: L)) : WL P ops Q (⟨some d, .alloc T, ty, pos, after, none⟩ :: rest) n ds w L :=
  s_alloc hz hc hn (fun w' h1 h2 h3 => q _ w' rfl h1 h2 h3)
theorem s_loadBP {t : TypeId} {g off : Nat} {cs vs : List Value} (hx : ev L x = some (.pointer (some ((⟨g, 0, none⟩ : Addr).add off)))) (hb : Blk w g T cs) (hg : AggOf P t vs.length) (hv : (cs.drop off).take vs.length = vs) (hn : Nat.blt d n = true) (q : WL P ops Q rest n ds w ((d, .agg vs.toArray) :: L)) : WL P ops Q (⟨some d, .load t x, ty, pos, after, none⟩ :: rest) n ds w L :=
  s_loadA hx (fun j u hu => by
    rw [← hv] at hu
    have hj : (cs.drop off)[j]? = some u := by
      rw [List.getElem?_take] at hu; split at hu
      · exact hu
      · cases hu
    rw [List.getElem?_drop] at hj
    rw [add_add]; exact hb.cellAdd hj) hg hn q
section
variable {C : World → Prop} {K : Act → World → Prop} {fu : Nat} {listed : Array Bool} {pq : Option Nat} {o : Oper} {a : Act} {G : Option (Nat × Bool)} {t t' : TypeId} {y : Operand} {k : IntKind} {i j : Int} {l l' : List UInt8}
theorem wanted_yes {b : Bool} (h : AgM ds a n L) (hg : gAsk ops o n L = some (.bool b, b)) : Region.wanted o (yielded ops a.tmps) = true := by
  obtain ⟨j, dj, oj, h1, h2, h3, h4, h5⟩ := gAsk_spec hg
  have hy := yielded_of (ops := ops) h h2 h3 h4 h5
  simp [Region.wanted, h1, hy]
theorem wy {b : Bool} (hg : gAskG ops G n L = some (.bool b, b)) : Wd ops n L G := fun a ds h o ho => wanted_yes (o := o) h (by unfold gAsk; rw [ho]; exact hg)
theorem wanted_no {b : Bool} (h : AgM ds a n L) (hg : gAsk ops o n L = some (.bool b, !b)) : Region.wanted o (yielded ops a.tmps) = false := by
  obtain ⟨j, dj, oj, h1, h2, h3, h4, h5⟩ := gAsk_spec hg
  have hy := yielded_of (ops := ops) h h2 h3 h4 h5
  simp [Region.wanted, h1, hy]
theorem hd_gn {b : Bool} (ix : Nat) (hsel : Region.noSelect ops = true) (hfr : Fre pq ops listed ix = true) (hre : (Region.ready .any ops listed).contains ix = true) (hC : C w) (h : AgM ds a n L) (hix : ops[ix]? = some o) (hg : gAsk ops o n L = some (.bool b, !b)) (hd : o.dst = some d) (hn : Nat.blt d n = true)
    (q : ∀ a, AgM ds a n ((d, undef) :: L) → wpAnyP pq P ops (NormEnd K) C fu (listed.setIfInBounds ix true) a w) : wpAnyP pq P ops (NormEnd K) C (fu + 1) listed a w :=
  P_take hix hsel hfr hre (fun _ _ _ h => h) (.inr ⟨wanted_no h hg, rfl⟩) hC (by rw [hd]; exact q _ (h.put hn undef))
end
end
end Go.Lw
namespace Go.Lw
open Go.RowKit
theorem cells_part {w : World} {ad : Addr} {cs vs : List Value} {off : Nat} (h : Cells w ad cs) (hv : (cs.drop off).take vs.length = vs) : Cells w (ad.add off) vs := fun j u hu => by
  rw [← hv] at hu
  rw [List.getElem?_take] at hu
  split at hu
  · rw [List.getElem?_drop] at hu
    rw [add_add]; exact h _ u hu
  · cases hu
/-- A reader of a string, at a place. -/
def IterAt (w : World) (g : Nat) (l : List UInt8) (p : Nat) : Prop := w.heap[g]? = some (.stringIter ⟨l.toArray⟩ p)
theorem IterAt.fr {w w' : World} {g p : Nat} {l : List UInt8} {S : List Nat} (h : IterAt w g l p) (hf : Fr S w w') (hn : g ∉ S) : IterAt w' g l p := by
  unfold IterAt at h ⊢
  rw [hf.block g (Array.getElem?_eq_some_iff.1 h).1 hn]; exact h
theorem IterAt.ext {w w' : World} {g p : Nat} {l : List UInt8} (h : IterAt w g l p) (hf : Fr [] w w') : IterAt w' g l p := h.fr hf (by simp)
theorem IterAt.lt {w : World} {g p : Nat} {l : List UInt8} (h : IterAt w g l p) : g < w.heap.size := (Array.getElem?_eq_some_iff.1 h).1
abbrev dec8 (l : List UInt8) (p : Nat) : Nat × Nat := Utf8.decode ⟨l.toArray⟩ p
theorem dec_get (l : List UInt8) (p : Nat) : (ByteArray.mk l.toArray).get! p = l.getD p 0 := by
  show l.toArray[p]! = _
  rw [List.getD]
  by_cases h : p < l.length
  · simp [h]
  · simp [List.getElem?_eq_none (show l.length ≤ p by omega)]; rfl
theorem dec_low {l : List UInt8} {p : Nat} (h : (l.getD p 0).toNat < 128) : dec8 l p = ((l.getD p 0).toNat, 1) := by
  unfold dec8 Utf8.decode
  simp only [Nat.add_zero, dec_get]
  rw [if_pos h]
theorem dec_high {l : List UInt8} {p : Nat} (h : ¬ (l.getD p 0).toNat < 128) : 128 ≤ (dec8 l p).1 := by
  unfold dec8 Utf8.decode Utf8.runeError
  simp only [Nat.add_zero, dec_get]
  rw [if_neg h]
  repeat' split
  all_goals first | (simp only; omega) | (rename_i hh; simp only [Bool.and_eq_true, decide_eq_true_eq] at hh; simp only; omega)
section
variable {P : Program} {a : Act} {n : Nat} {L : List (Nat × Value)} {ds : List Nat} {w : World} {Q : Exit → Act → World → Prop} {ops : Array Oper} {rest : List Oper} {d g p : Nat} {ty t : TypeId} {pos : String} {after : Array Edge} {x : Operand} {l : List UInt8}
theorem st_range (h : AgM ds a n L) (hx : ev L x = some (S l)) (hu : P.underlying t = some .string) (hn : Nat.blt d n = true)
    (q : ∀ g w', g = w.heap.size → IterAt w' g l 0 → Fr [] w w' → w'.heap.size = g + 1 → ∀ a, AgM ds a n ((d, .pointer (some ⟨g, 0, none⟩)) :: L) → wpList P ops Q rest a w') : wpList P ops Q (⟨some d, .range t x, ty, pos, after, none⟩ :: rest) a w := by
  refine st_ok h rfl rfl hn (w' := w.alloc (.stringIter ⟨l.toArray⟩ 0)) (v := .pointer (some ⟨w.heap.size, 0, none⟩)) ?_ (q _ _ rfl (heap_alloc_new w _) (Fr.alloc [] w _) (by simp))
  have hx' := h.eval hx
  have e : w.iter ⟨l.toArray⟩ 0 = w.alloc (.stringIter ⟨l.toArray⟩ 0) := rfl
  simp only [execOp, hx', S, Sem.run_bind, run_range_string w t ⟨l.toArray⟩ hu, Result.andThen_ok, Sem.run_pure, e]
theorem next_in {w : World} {k p : Nat} (ty : TypeId) (hk : IterAt w k l p) (h : p < l.length) :
    (Instr.next (.pointer (some ⟨k, 0, none⟩)) true ty).run P w = .ok (.tuple #[.bool true, .int .i64 p, .int .i32 (dec8 l p).1]) { w with heap := w.heap.setIfInBounds k (.stringIter ⟨l.toArray⟩ (p + (dec8 l p).2)) } := by
  have hs : p < (⟨l.toArray⟩ : ByteArray).size := by simpa [ByteArray.size] using h
  have hk' : w.heap[k]? = some (.stringIter ⟨l.toArray⟩ p) := hk
  simp only [Instr.next, getObj, setObj, Sem.run_bind, Sem.run, hk', Result.andThen, hs, if_true]
  simp [goInt]
theorem st_next_t (h : AgM ds a n L) (hx : ev L x = some (.pointer (some ⟨g, 0, none⟩))) (hi : IterAt w g l p) (hp : p < l.length) (hn : Nat.blt d n = true)
    (q : ∀ w', IterAt w' g l (p + (dec8 l p).2) → Fr [g] w w' → w'.heap.size = w.heap.size → ∀ a, AgM ds a n ((d, .tuple #[.bool true, .int .i64 (p : Int), .int .i32 ((dec8 l p).1 : Int)]) :: L) → wpList P ops Q rest a w') : wpList P ops Q (⟨some d, .next x true, ty, pos, after, none⟩ :: rest) a w := by
  have hlt := hi.lt
  refine st_ok h rfl rfl hn (w' := { w with heap := w.heap.setIfInBounds g (.stringIter ⟨l.toArray⟩ (p + (dec8 l p).2)) }) (v := .tuple #[.bool true, .int .i64 (p : Int), .int .i32 ((dec8 l p).1 : Int)]) ?_ (q _ ?_ ⟨rfl, rfl, rfl, by simp, fun k hk hS => ?_⟩ (by simp))
  · have hx' := h.eval hx
    simp only [execOp, hx', Sem.run_bind, next_in ty hi hp, Result.andThen_ok, Sem.run_pure]
  · unfold IterAt; simp [hlt]
  · have : g ≠ k := fun e => hS (by simp [e])
    simp [Array.getElem?_setIfInBounds_ne this]
theorem st_next_f (h : AgM ds a n L) (hx : ev L x = some (.pointer (some ⟨g, 0, none⟩))) (hi : IterAt w g l p) (hp : ¬ p < l.length) (hn : Nat.blt d n = true)
    (q : ∀ a, AgM ds a n ((d, .tuple #[.bool false]) :: L) → wpList P ops Q rest a w) : wpList P ops Q (⟨some d, .next x true, ty, pos, after, none⟩ :: rest) a w := by
  refine st_ok h rfl rfl hn (w' := w) (v := .tuple #[.bool false]) ?_ q
  have hx' := h.eval hx
  have hs : ¬ p < (⟨l.toArray⟩ : ByteArray).size := by simpa [ByteArray.size] using hp
  have hk' : w.heap[g]? = some (.stringIter ⟨l.toArray⟩ p) := hi
  have e : (Instr.next (.pointer (some ⟨g, 0, none⟩)) true ty).run P w = .ok (.tuple #[.bool false]) w := by simp [Instr.next, getObj, Sem.run, hk', hs]
  simp only [execOp, hx', Sem.run_bind, e, Result.andThen_ok, Sem.run_pure]
theorem s_range (hx : ev L x = some (S l)) (hu : P.underlying t = some .string) (hn : Nat.blt d n = true)
    (q : ∀ g w', g = w.heap.size → IterAt w' g l 0 → Fr [] w w' → w'.heap.size = g + 1 → WL P ops Q rest n ds w' ((d, .pointer (some ⟨g, 0, none⟩)) :: L)) : WL P ops Q (⟨some d, .range t x, ty, pos, after, none⟩ :: rest) n ds w L := fun _ h => st_range h hx hu hn q
theorem s_next (hx : ev L x = some (.pointer (some ⟨g, 0, none⟩))) (hi : IterAt w g l p) (hn : Nat.blt d n = true)
    (qt : p < l.length → ∀ w', IterAt w' g l (p + (dec8 l p).2) → Fr [g] w w' → w'.heap.size = w.heap.size → WL P ops Q rest n ds w' ((d, .tuple #[.bool true, .int .i64 (p : Int), .int .i32 ((dec8 l p).1 : Int)]) :: L))
    (qf : ¬ p < l.length → WL P ops Q rest n ds w ((d, .tuple #[.bool false]) :: L)) : WL P ops Q (⟨some d, .next x true, ty, pos, after, none⟩ :: rest) n ds w L := fun _ h => by
  by_cases hp : p < l.length
  · exact st_next_t h hx hi hp hn (qt hp)
  · exact st_next_f h hx hi hp hn (qf hp)
end
end Go.Lw
namespace Go.Lw
open Go.RowKit
section
variable {P : Program} {a : Act} {n : Nat} {L : List (Nat × Value)} {ds : List Nat} {w : World} {Q : Exit → Act → World → Prop} {ops : Array Oper} {rest : List Oper} {d : Nat} {ty t T : TypeId} {pos : String} {after : Array Edge} {x : Operand}
/-- A local array as a slice. -/
theorem st_slArr {g N sz : Nat} (h : AgM ds a n L) (hx : ev L x = some (.pointer (some ⟨g, 0, none⟩))) (hu : P.underlying t = some (.array N T)) (hs : SizeOf P T sz) (hN : Nat.beq N 0 = false) (hn : Nat.blt d n = true)
    (q : ∀ a, AgM ds a n ((d, .slice (some ⟨g, 0, none⟩) N N) :: L) → wpList P ops Q rest a w) : wpList P ops Q (⟨some d, .slice t x none none none, ty, pos, after, none⟩ :: rest) a w := by
  have hN' : N ≠ 0 := fun e => by subst e; cases hN
  refine st_ok h rfl rfl hn (w' := w) ?_ q
  have hs' := hs w
  have hx' := h.eval hx
  simp [execOp, hx', Instr.sliceAt, Instr.slice, run_underlying hu, Instr.sliceBounds, hs', hN', Addr.add, Instr.sureAddr, Sem.run_bind, Result.andThen_ok]
theorem s_slArr {g N sz : Nat} (hx : ev L x = some (.pointer (some ⟨g, 0, none⟩))) (hu : P.underlying t = some (.array N T)) (hs : SizeOf P T sz) (hN : Nat.beq N 0 = false) (hn : Nat.blt d n = true)
    (q : WL P ops Q rest n ds w ((d, .slice (some ⟨g, 0, none⟩) N N) :: L)) : WL P ops Q (⟨some d, .slice t x none none none, ty, pos, after, none⟩ :: rest) n ds w L := fun _ h => st_slArr h hx hu hs hN hn q
/-- A local array of ints. -/
def ivs (c : List Int) : List Value := c.map fun z => .int .i64 z
theorem ivs_get {c : List Int} {k : Nat} (h : k < c.length) : (ivs c)[k]? = some (.int .i64 (c.getD k 0)) := by
  unfold ivs; rw [List.getElem?_map, List.getElem?_eq_getElem h, List.getD, List.getElem?_eq_getElem h]; rfl
theorem ivs_set (c : List Int) (k : Nat) (z : Int) : (ivs c).set k (.int .i64 z) = ivs (c.set k z) := by
  unfold ivs; rw [List.map_set]
theorem ivs_len (c : List Int) : (ivs c).length = c.length := by simp [ivs]
/-- A number is added to one element of a table. -/
theorem tab_add (F : Nat → Int) (n k : Nat) (z : Int) (h : k < n) : ((List.range n).map F).set k (F k + z) = (List.range n).map fun y => F y + if y = k then z else 0 := by
  apply List.ext_getElem?
  intro i
  rw [List.getElem?_set]
  by_cases e : k = i
  · subst e
    rw [if_pos rfl, if_pos (by simpa using h), List.getElem?_map, List.getElem?_range h]
    simp
  · rw [if_neg e, List.getElem?_map, List.getElem?_map]
    by_cases hi : i < n
    · rw [List.getElem?_range hi]; simp [Ne.symm e]
    · rw [List.getElem?_eq_none (by simpa using hi)]; rfl
theorem tab_get (F : Nat → Int) {n k : Nat} (h : k < n) : ((List.range n).map F).getD k 0 = F k := by
  rw [List.getD, List.getElem?_map, List.getElem?_range h]; rfl
theorem blk_own {g T : Nat} {c : List Int} {N : Nat} (h : Blk w g T (ivs c)) (hN : N ≤ g) (hM : c.length ≤ maxLen) : Own Enc.i64 T N w (.slice (some ⟨g, 0, none⟩) c.length c.length) c := by
  refine .inr ⟨g, c.length, (ivs c).toArray, rfl, hN, h, Nat.le_refl _, hM, ?_, ?_⟩
  · simp [ivs, Enc.i64]
  · have e : c.flatMap Enc.i64.enc = ivs c := by
      clear h hM
      unfold ivs
      induction c with
      | nil => rfl
      | cons x xs ih => rw [List.flatMap_cons, List.map_cons, ih]; rfl
    rw [e]
    simp only [ivs, Enc.i64, Nat.mul_one, List.drop_zero]
    exact List.take_of_length_le (by simp)
end
section
variable {P : Program} {a : Act} {n : Nat} {L : List (Nat × Value)} {ds : List Nat} {w : World} {Q : Exit → Act → World → Prop} {ops : Array Oper} {rest : List Oper} {d : Nat} {ty t T : TypeId} {pos : String} {after : Array Edge} {x y : Operand} {k : IntKind} {i : Int}
/-- An element of an array that is a value. -/
theorem st_ixv {vs : List Value} {N : Nat} {v : Value} (h : AgM ds a n L) (hx : ev L x = some (.agg vs.toArray)) (hy : ev L y = some (.int k i)) (hu : P.underlying t = some (.array N T)) (hs : SizeOf P T 1) (hg : NotAgg P T) (h0 : 0 ≤ i) (h1 : i < N) (hv : vs[i.toNat]? = some v) (hn : Nat.blt d n = true)
    (q : ∀ a, AgM ds a n ((d, v) :: L) → wpList P ops Q rest a w) : wpList P ops Q (⟨some d, .index t x y, ty, pos, after, none⟩ :: rest) a w := by
  refine st_ok h rfl rfl hn (w' := w) (v := v) ?_ q
  have hx' := h.eval hx
  have hy' := h.eval hy
  have hs' := hs w
  have hg' := hg w
  simp [execOp, hx', hy', Instr.index, asIntOf, run_underlying hu, h0, h1, hs', part, hg', hv]
theorem s_ixv {vs : List Value} {N : Nat} {v : Value} (hx : ev L x = some (.agg vs.toArray)) (hy : ev L y = some (.int k i)) (hu : P.underlying t = some (.array N T)) (hs : SizeOf P T 1) (hg : NotAgg P T) (h0 : 0 ≤ i) (h1 : i < N) (hv : vs[i.toNat]? = some v) (hn : Nat.blt d n = true)
    (q : WL P ops Q rest n ds w ((d, v) :: L)) : WL P ops Q (⟨some d, .index t x y, ty, pos, after, none⟩ :: rest) n ds w L := fun _ h => st_ixv h hx hy hu hs hg h0 h1 hv hn q
end
end Go.Lw
namespace Go.Proofs.YthehggmdcmpjeaaDoor
open Go.Lw Go.G14
theorem el34 : ElemOf Tryd.prog 34 47 encCq 24 := ElemOf.mk' (z := (.agg #[(.slice none 0 0)])) Tryd.underlying34 (by kernel_rfl) rfl
theorem er45 : ElemOf Tryd.prog 45 61 encRq 24 := ElemOf.mk' (z := (.slice none 0 0)) Tryd.underlying45 (by kernel_rfl) rfl
theorem low_of {l : List UInt8} {i : Nat} (h : i ≤ l.length) (ha : (l.take i).all lower = true) (h2 : i < l.length) (hc : 97 ≤ (dec8 l i).1 ∧ (dec8 l i).1 ≤ 122) : (l.take (i + 1)).all lower = true ∧ (dec8 l i).2 = 1 := by
  have hb : (l.getD i 0).toNat < 128 := by
    rcases Nat.lt_or_ge (l.getD i 0).toNat 128 with h | h
    · exact h
    · have := dec_high (l := l) (p := i) (by omega); omega
  rw [dec_low hb] at hc ⊢
  refine ⟨?_, rfl⟩
  rw [List.take_add_one, List.all_append, ha, List.getElem?_eq_getElem h2]
  have e : l.getD i 0 = l[i] := by rw [List.getD, List.getElem?_eq_getElem h2]; rfl
  rw [e] at hc
  simp [lower]; omega
theorem low_no {l : List UInt8} {i : Nat} (h2 : i < l.length) (hc : ¬ (97 ≤ (dec8 l i).1 ∧ (dec8 l i).1 ≤ 122)) : l.all lower = false := by
  rw [Bool.eq_false_iff]
  intro e
  have h1 := List.all_eq_true.1 e l[i] (List.getElem_mem h2)
  have e2 : l.getD i 0 = l[i] := by rw [List.getD, List.getElem?_eq_getElem h2]; rfl
  simp only [lower, decide_eq_true_eq] at h1
  rw [dec_low (by rw [e2]; omega), e2] at hc
  exact hc h1
theorem byte_lo {l : List UInt8} {i : Nat} (ha : (l.take i).all lower = true) (h2 : i < l.length) (hc : ¬ (((l.getD i 0).toNat : Int) < 97 ∨ 122 < ((l.getD i 0).toNat : Int))) : (l.take (i + 1)).all lower = true := by
  rw [List.take_add_one, List.all_append, ha, List.getElem?_eq_getElem h2]
  have e : l.getD i 0 = l[i] := by rw [List.getD, List.getElem?_eq_getElem h2]; rfl
  rw [e] at hc
  simp [lower]; omega
theorem byte_no {l : List UInt8} {i : Nat} (h2 : i < l.length) (hc : ((l.getD i 0).toNat : Int) < 97 ∨ 122 < ((l.getD i 0).toNat : Int)) : l.all lower = false := by
  rw [Bool.eq_false_iff]
  intro e
  have h1 := List.all_eq_true.1 e l[i] (List.getElem_mem h2)
  have e2 : l.getD i 0 = l[i] := by rw [List.getD, List.getElem?_eq_getElem h2]; rfl
  simp only [lower, decide_eq_true_eq] at h1
  rw [e2] at hc; omega
theorem name_iff (l : List UInt8) : nameB l = true ↔ (1 ≤ l.length ∧ l.length ≤ 16) ∧ l.all lower = true := by
  unfold nameB; rw [Bool.and_eq_true, decide_eq_true_eq]
theorem name_f1 {l : List UInt8} (h : ¬ (1 ≤ l.length ∧ l.length ≤ 16)) : nameB l = false := by
  rw [Bool.eq_false_iff]; exact fun e => h ((name_iff l).1 e).1
theorem name_f2 {l : List UInt8} (h : l.all lower = false) : nameB l = false := by
  rw [Bool.eq_false_iff]; intro e; rw [((name_iff l).1 e).2] at h; cases h
theorem named_ok (l : List UInt8) (w0 : World) : Rets Tryd.prog 26 #[S l] w0 fun r w' => r = .bool (nameB l) ∧ Fr [] w0 w' := by
 refine we [(0, S l)] Tryd.func26 rfl Tryd.ntmps26 rfl (.cons rfl .nil) ?_
 refine sr (asg rfl rfl (nn (sq (sq ?_))))
 refine rbo (r := 12) (L' := [(0, _)]) ((((l.length : Int) < 1) ∨ (16 < (l.length : Int)))) (.cons rfl .nil) ?_ ?_
 · refine mv rfl rfl (ln rfl Tryd.underlying9 rfl (lt' rfl rfl rfl (mv rfl rfl ?_)))
   refine gs 8 rfl (fun g0 => ?_) (fun g0 => ?_)
   · exact gN rfl rfl rfl (gN rfl rfl rfl (gN rfl rfl rfl (pkt rfl rfl rfl rfl (rbe rfl (by first | exact bt (by omega) | exact bf (by omega) | exact bi (by omega) | exact bn (by omega) | (simp_all; done) | (simp_all; omega)) (.cons rfl .nil)))))
   · exact gY rfl (mv rfl rfl (gY rfl (ln rfl Tryd.underlying9 rfl (gY rfl (gt' rfl rfl rfl (pkf rfl rfl rfl rfl (rbe rfl (by first | exact bt (by omega) | exact bf (by omega) | exact bi (by omega) | exact bn (by omega) | (simp_all; done) | (simp_all; omega)) (.cons rfl .nil))))))))
 · refine tn ?_
   refine cd rfl (fun c0 => ?_) (fun c0 => ?_)
   · refine sr (asg rfl rfl (nn (rt (tr (r1 Tryd.results26 rfl ?_)))))
     exact ⟨_, rfl, by first | rw [name_f1 (by omega)] | rw [name_f2 (low_no (by assumption) (by omega))] | rw [name_f2 (byte_no (by assumption) (by assumption))] | rw [(name_iff l).2 ⟨by omega, by first | assumption | (rw [← List.take_of_length_le (l := l) (show l.length ≤ i by omega)]; assumption)⟩], (Fr.refl _ _)⟩
   · refine sk (tn (sq (sr (mv rfl rfl (s_range rfl Tryd.underlying9 rfl (fun g14 w1 hg14 hit14 q1 z1 => ?_))))))
     refine nn (bl ?_)
     refine lpK (ι := Nat) [(14, _)] (fun i => []) (fun i w' => Fr [g14] w1 w' ∧ i ≤ l.length ∧ (l.take i).all lower = true ∧ IterAt w' g14 l i) (fun i => l.length - i) 0 (.cons rfl .nil) ⟨Fr.refl _ _, ⟨Nat.zero_le _, rfl, hit14⟩⟩ ?_
     rintro i w2 ⟨q2, ⟨hi, ha, hit14⟩⟩
     have z2 := q2.size
     refine kpC [(14, _)] (.cons rfl .nil) ?_
     refine sr ?_
     refine s_next rfl hit14 rfl (fun hlt w3 hit14 q3 z3 => ?_) (fun hlt => ?_)
     · refine xt rfl rfl rfl (nn (sq (ct rfl (sk (tn (bl (sr (xt rfl rfl rfl (asg rfl rfl (nn (sq ?_)))))))))))
       refine rbo (r := 23) (L' := [(14, _)]) (((((dec8 l i).1 : Int) < 97) ∨ (122 < ((dec8 l i).1 : Int)))) (.cons rfl .nil) ?_ ?_
       · refine mv rfl rfl (lt' rfl rfl rfl (mv rfl rfl ?_))
         refine gs 20 rfl (fun g1 => ?_) (fun g1 => ?_)
         · exact gN rfl rfl rfl (gN rfl rfl rfl (pkt rfl rfl rfl rfl (rbe rfl (by first | exact bt (by omega) | exact bf (by omega) | exact bi (by omega) | exact bn (by omega) | (simp_all; done) | (simp_all; omega)) (.cons rfl .nil))))
         · exact gY rfl (mv rfl rfl (gY rfl (gt' rfl rfl rfl (pkf rfl rfl rfl rfl (rbe rfl (by first | exact bt (by omega) | exact bf (by omega) | exact bi (by omega) | exact bn (by omega) | (simp_all; done) | (simp_all; omega)) (.cons rfl .nil))))))
       · refine tn ?_
         refine cd rfl (fun c2 => ?_) (fun c2 => ?_)
         · refine sr (asg rfl rfl (nn (rt (rb (tr (rb (tr (r1 Tryd.results26 rfl ?_))))))))
           exact ⟨_, rfl, by first | rw [name_f1 (by omega)] | rw [name_f2 (low_no (by assumption) (by omega))] | rw [name_f2 (byte_no (by assumption) (by assumption))] | rw [(name_iff l).2 ⟨by omega, by first | assumption | (rw [← List.take_of_length_le (l := l) (show l.length ≤ i by omega)]; assumption)⟩], ((q1.step q2 (by first | (simp; done) | (simp; omega))).step q3 (by first | (simp; done) | (simp; omega)))⟩
         · refine sk (bn' ?_)
           obtain ⟨ha2, hw1⟩ := low_of hi ha hlt (by omega)
           rw [hw1] at hit14
           exact lpE (i + 1) (.cons rfl .nil) ⟨(((Fr.refl [g14] _).step q2 (by first | (simp; done) | (simp; omega))).step q3 (by first | (simp; done) | (simp; omega))), ⟨by omega, ha2, hit14⟩⟩ (by omega)
     · refine xt rfl rfl rfl (nn (sq (cf rfl (ex (te (te (xh (tn (sr (asg rfl rfl (nn ?_)))))))))))
       refine rt (r1 Tryd.results26 rfl ?_)
       exact ⟨_, rfl, by first | rw [name_f1 (by omega)] | rw [name_f2 (low_no (by assumption) (by omega))] | rw [name_f2 (byte_no (by assumption) (by assumption))] | rw [(name_iff l).2 ⟨by omega, by first | assumption | (rw [← List.take_of_length_le (l := l) (show l.length ≤ i by omega)]; assumption)⟩], (q1.step q2 (by first | (simp; done) | (simp; omega)))⟩
theorem within_ok (n a b : Int) (w0 : World) : Rets Tryd.prog 23 #[.int .i64 n, .int .i64 a, .int .i64 b] w0 fun r w' => r = .bool (decide (a ≤ n ∧ n ≤ b)) ∧ Fr [] w0 w' := by
 refine we [(0, .int .i64 n), (1, .int .i64 a), (2, .int .i64 b)] Tryd.func23 rfl Tryd.ntmps23 rfl (.cons rfl (.cons rfl (.cons rfl .nil))) ?_
 refine sr (asg rfl rfl (nn (sq ?_)))
 refine rbo (r := 6) (L' := []) (((a ≤ n) ∧ (n ≤ b))) .nil ?_ ?_
 · refine mv rfl rfl (mv rfl rfl (le' rfl rfl rfl (mv rfl rfl ?_)))
   refine gs 10 rfl (fun g0 => ?_) (fun g0 => ?_)
   · exact gY rfl (mv rfl rfl (gY rfl (mv rfl rfl (gY rfl (le' rfl rfl rfl (pkt rfl rfl rfl rfl (asg rfl rfl (rbe rfl (by first | exact bt (by omega) | exact bf (by omega) | exact bi (by omega) | exact bn (by omega) | (simp_all; done) | (simp_all; omega)) .nil))))))))
   · exact gN rfl rfl rfl (gN rfl rfl rfl (gN rfl rfl rfl (pkf rfl rfl rfl rfl (asg rfl rfl (rbe rfl (by first | exact bt (by omega) | exact bf (by omega) | exact bi (by omega) | exact bn (by omega) | (simp_all; done) | (simp_all; omega)) .nil)))))
 · refine tn (rt (r1 Tryd.results23 rfl ?_))
   exact ⟨_, rfl, rfl, (Fr.refl _ _)⟩
theorem refname_ok (l : List UInt8) (w0 : World) : Rets Tryd.prog 21 #[S l] w0 fun r w' => r = .int .i64 (if nameB l = true then 1 else 0) ∧ Fr [] w0 w' := by
 refine we [(0, S l)] Tryd.func21 rfl Tryd.ntmps21 rfl (.cons rfl .nil) ?_
 refine sr (asg rfl rfl (nn (sq (sq ?_))))
 refine rbo (r := 11) (L' := [(0, _)]) ((((l.length : Int) = 0) ∨ (16 < (l.length : Int)))) (.cons rfl .nil) ?_ ?_
 · refine mv rfl rfl (ln rfl Tryd.underlying9 rfl (eq' rfl rfl rfl (mv rfl rfl ?_)))
   refine gs 7 rfl (fun g0 => ?_) (fun g0 => ?_)
   · exact gN rfl rfl rfl (gN rfl rfl rfl (gN rfl rfl rfl (pkt rfl rfl rfl rfl (rbe rfl (by first | exact bt (by omega) | exact bf (by omega) | exact bi (by omega) | exact bn (by omega) | (simp_all; done) | (simp_all; omega)) (.cons rfl .nil)))))
   · exact gY rfl (mv rfl rfl (gY rfl (ln rfl Tryd.underlying9 rfl (gY rfl (gt' rfl rfl rfl (pkf rfl rfl rfl rfl (rbe rfl (by first | exact bt (by omega) | exact bf (by omega) | exact bi (by omega) | exact bn (by omega) | (simp_all; done) | (simp_all; omega)) (.cons rfl .nil))))))))
 · refine tn ?_
   refine cd rfl (fun c0 => ?_) (fun c0 => ?_)
   · refine sr (asg rfl rfl (nn (rt (tr (r1 Tryd.results21 rfl ?_)))))
     exact ⟨_, rfl, by first | (rw [name_f1 (by omega)]; rfl) | rw [name_f2 (low_no (by assumption) (by omega))] | rw [name_f2 (byte_no (by assumption) (by assumption))]; rfl | rw [(name_iff l).2 ⟨by omega, by first | assumption | (rw [← List.take_of_length_le (l := l) (show l.length ≤ i by omega)]; assumption)⟩]; rfl, (Fr.refl _ _)⟩
   · refine sk (tn (sq (sr (asg rfl rfl (nn (bl ?_))))))
     refine lpK (ι := Nat) [(0, _)] (fun i => [(3, .int .i64 (i : Int))]) (fun i w' => Fr [] w0 w' ∧ i ≤ l.length ∧ (l.take i).all lower = true) (fun i => l.length - i) 0 (.cons rfl (.cons rfl .nil)) ⟨Fr.refl _ _, ⟨Nat.zero_le _, rfl⟩⟩ ?_
     rintro i w1 ⟨q1, ⟨hi, ha⟩⟩
     have z1 := q1.size
     refine kpC [(0, _), (3, _)] (.cons rfl (.cons rfl .nil)) ?_
     refine sq (sr (mv rfl rfl (mv rfl rfl (ln rfl Tryd.underlying9 rfl (lt' rfl rfl rfl (nn ?_))))))
     refine cd rfl (fun c1 => ?_) (fun c1 => ?_)
     · have hlt : i < l.length := by omega
       refine sk (tn (sq (bl (sq ?_))))
       refine rbo (r := 27) (L' := [(0, _), (3, _)]) (((((l.getD ((i : Int)).toNat 0).toNat : Int) < 97) ∨ (122 < ((l.getD ((i : Int)).toNat 0).toNat : Int)))) (.cons rfl (.cons rfl .nil)) ?_ ?_
       · refine mv rfl rfl (mv rfl rfl (s_index rfl rfl Tryd.underlying9 (by omega) (by omega) nat_of rfl (fun hy20 => ?_)))
         refine lt' rfl rfl rfl (mv rfl rfl ?_)
         refine gs 22 rfl (fun g1 => ?_) (fun g1 => ?_)
         · exact gN rfl rfl rfl (gN rfl rfl rfl (gN rfl rfl rfl (gN rfl rfl rfl (pkt rfl rfl rfl rfl (rbe rfl (by first | exact bt (by omega) | exact bf (by omega) | exact bi (by omega) | exact bn (by omega) | (simp_all; done) | (simp_all; omega)) (.cons rfl (.cons rfl .nil)))))))
         · refine gY rfl (mv rfl rfl (gY rfl (mv rfl rfl (gY rfl (s_index rfl rfl Tryd.underlying9 (by omega) (by omega) nat_of rfl (fun hy25 => ?_))))))
           exact gY rfl (gt' rfl rfl rfl (pkf rfl rfl rfl rfl (rbe rfl (by first | exact bt (by omega) | exact bf (by omega) | exact bi (by omega) | exact bn (by omega) | (simp_all; done) | (simp_all; omega)) (.cons rfl (.cons rfl .nil)))))
       · refine tn ?_
         refine cd rfl (fun c2 => ?_) (fun c2 => ?_)
         · refine sr (asg rfl rfl (nn (rt (rb (tr (tr (rb (tr (r1 Tryd.results21 rfl ?_)))))))))
           exact ⟨_, rfl, by first | (rw [name_f1 (by omega)]; rfl) | rw [name_f2 (low_no (by assumption) (by omega))] | rw [name_f2 (byte_no (by assumption) (by assumption))]; rfl | rw [(name_iff l).2 ⟨by omega, by first | assumption | (rw [← List.take_of_length_le (l := l) (show l.length ≤ i by omega)]; assumption)⟩]; rfl, q1⟩
         · refine sk (bn' (tn (rg (mv rfl rfl (s_add rfl rfl (wi6 (by omega)) rfl (asg rfl rfl (nl ?_)))))))
           exact lpE (i + 1) (.cons rfl (.cons rfl .nil)) ⟨q1, ⟨by omega, byte_lo ha (by omega) (by assumption)⟩⟩ (by omega)
     · obtain rfl : i = l.length := by omega
       rw [List.take_length] at ha
       refine ex (te (te (xh (tn (sr (asg rfl rfl (nn (rt (r1 Tryd.results21 rfl ?_)))))))))
       exact ⟨_, rfl, by first | (rw [name_f1 (by omega)]; rfl) | rw [name_f2 (low_no (by assumption) (by omega))] | rw [name_f2 (byte_no (by assumption) (by assumption))]; rfl | rw [(name_iff l).2 ⟨by omega, by first | assumption | (rw [← List.take_of_length_le (l := l) (show l.length ≤ i by omega)]; assumption)⟩]; rfl, q1⟩
theorem all_lt {α : Type} {l : List α} {d : α} {p : α → Prop} (h : ∀ j, j < l.length → p (l.getD j d)) : ∀ x ∈ l, p x := by
  intro x hx
  obtain ⟨i, hi⟩ := List.getElem?_of_mem hx
  have := h i (List.getElem?_eq_some_iff.1 hi).1
  rwa [List.getD, hi] at this
theorem all_step {p : Nat → Prop} {i : Nat} (h : ∀ j, j < i → p j) (hi : p i) : ∀ j, j < i + 1 → p j := fun j hj => by
  rcases Nat.lt_or_ge j i with h1 | h1
  · exact h j h1
  · obtain rfl : j = i := by omega
    exact hi
theorem large_iff (c : RowL) : largeB c = true ↔ 31 < c.length ∨ ∃ r ∈ c, 16 < r.length := by
  unfold largeB; rw [Bool.or_eq_true, decide_eq_true_eq, List.any_eq_true]; simp
theorem large_no {c : RowL} (h1 : ¬ 31 < c.length) (h2 : ∀ r ∈ c, ¬ 16 < r.length) : largeB c = false := by
  rw [Bool.eq_false_iff]; intro e
  rcases (large_iff c).1 e with e | ⟨r, hr, e⟩
  · exact h1 e
  · exact h2 r hr e
theorem good_no {c : RowL} {r : List Stitch} {s : Stitch} (hr : r ∈ c) (hs : s ∈ r) (h : checkS s ≠ 0) : goodB c = false := by
  rw [Bool.eq_false_iff]; intro e
  have := List.all_eq_true.1 (List.all_eq_true.1 e r hr) s hs
  exact h ((okB_iff s).1 this)
theorem mem_snd {α β : Type} {l : List (α × β)} {j : Nat} {d : α × β} (h : j < l.length) : (l.getD j d).2 ∈ l.map Prod.snd := List.mem_map.2 ⟨_, getD_memS h, rfl⟩
theorem all_snd {α β : Type} {l : List (α × β)} {d : α × β} {p : β → Prop} (h : ∀ j, j < l.length → p (l.getD j d).2) : ∀ r ∈ l.map Prod.snd, p r := by
  intro r hr
  obtain ⟨q, hq, rfl⟩ := List.mem_map.1 hr
  exact all_lt (p := fun q => p q.2) h q hq
theorem msmall_ok (v : Value) (qs : List CQ) (w0 : World) (hs : Sl encCq w0 v qs) (hq : ChsQ w0 qs) : Rets Tryd.prog 51 #[v] w0 fun r w' => r = .bool (decide (∀ q ∈ qs, largeB q.2 = false)) ∧ Fr [] w0 w' := by
 obtain ⟨A, c, rfl, hcc, hM, hA⟩ := id hs
 clear hA
 unfold maxLen at hM
 refine we [(0, .slice A qs.length c)] Tryd.func51 rfl Tryd.ntmps51 rfl (.cons rfl .nil) ?_
 have hs0 := hs
 have hq0 := hq
 refine sr (asg rfl rfl (nn (sq (sr (mv rfl rfl (lnS rfl Tryd.underlying34 rfl (mv rfl rfl (nn (bl ?_)))))))))
 refine lpK (ι := Nat) [(7, _), (8, _)] (fun i => [(9, .int .i64 (i : Int))]) (fun i w' => Fr [] w0 w' ∧ i ≤ qs.length ∧ ∀ j, j < i → largeB (qs.getD j cq0).2 = false) (fun i => qs.length - i) 0 (.cons rfl (.cons rfl (.cons rfl .nil))) ⟨Fr.refl _ _, ⟨Nat.zero_le _, fun j hj => absurd hj (Nat.not_lt_zero j)⟩⟩ ?_
 rintro i w1 ⟨q1, ⟨hi, hall⟩⟩
 have z1 := q1.size
 refine kpC [(7, _), (8, _), (9, _)] (.cons rfl (.cons rfl (.cons rfl .nil))) ?_
 refine sr (lt' rfl rfl rfl (nn (sq ?_)))
 refine cd rfl (fun c0 => ?_) (fun c0 => ?_)
 · replace hq := hq0.ext q1
   obtain ⟨hqS, hqL⟩ := hq.at (i := i) (by omega)
   obtain ⟨rs, hrs, hqr, hrm⟩ := Sll.opn hqS
   have hrl := sl_len hrs
   have hrc : rs.length = (qs.getD i cq0).2.length := by rw [← hrm, List.length_map]
   have hrM := hrs.len_le
   unfold maxLen at hrM
   have hrs0 := hrs
   have hqr0 := hqr
   refine sk (tn (sq (bl (sr ?_))))
   replace hs := hs0.ext q1
   refine s_idxL (cq0) rfl hs rfl el34 (by omega) (by omega) nat_of rfl (fun ad11 hc11 => ?_)
   refine s_loadA rfl (hc11 _ hs) ag47 rfl (al zv47 rfl rfl (fun g4 w2 hg4 hb4 q2 z2 => ?_))
   refine s_storeBA rfl rfl hb4 rfl (by first | (simp [Value.oneCell', S]; done) | exact Enc.one _ _) sz47 (fun w3 hb4 q3 z3 => ?_)
   refine nn (sq (sr (fad rfl fa47_0 rfl (s_loadB rfl hb4 rfl na45 rfl (lnS rfl Tryd.underlying45 rfl (gt' rfl rfl rfl (nn ?_)))))))
   refine cd rfl (fun c1 => ?_) (fun c1 => ?_)
   · refine sr (asg rfl rfl (nn (rt (tr (rb (tr (tr (rb (tr (r1 Tryd.results51 rfl ?_))))))))))
     exact ⟨_, rfl, by first | rw [decide_eq_true (all_lt (d := cq0) hall)] | (rw [decide_eq_false]; intro hh; have h1 := hh _ (getD_memS (d := cq0) (show i < qs.length by omega)); rw [(large_iff _).2 (by first | (left; omega) | (right; exact ⟨_, by rw [← hrm]; exact mem_snd (d := rq0) (show j < rs.length by omega), by omega⟩))] at h1; cases h1), ((q1.next q2).step q3 (by first | (simp; done) | (simp; omega)))⟩
   · refine sk (tn (sr (fad rfl fa47_0 rfl (s_loadB rfl hb4 rfl na45 rfl (lnS rfl Tryd.underlying45 rfl (mv rfl rfl (nn (bl ?_))))))))
     refine lpK (ι := Nat) [(7, _), (8, _), (9, _), (18, _), (19, _)] (fun j => [(20, .int .i64 (j : Int))]) (fun j w' => Fr [] w3 w' ∧ j ≤ rs.length ∧ ∀ k, k < j → ¬ 16 < (rs.getD k rq0).2.length) (fun j => rs.length - j) 0 (.cons rfl (.cons rfl (.cons rfl (.cons rfl (.cons rfl (.cons rfl .nil)))))) ⟨Fr.refl _ _, ⟨Nat.zero_le _, fun j hj => absurd hj (Nat.not_lt_zero j)⟩⟩ ?_
     rintro j w4 ⟨q4, ⟨hj, hrow⟩⟩
     have z4 := q4.size
     refine kpC [(7, _), (8, _), (9, _), (18, _), (19, _), (20, _)] (.cons rfl (.cons rfl (.cons rfl (.cons rfl (.cons rfl (.cons rfl .nil)))))) ?_
     refine sr (lt' rfl rfl rfl (nn (sq ?_)))
     refine cd rfl (fun c2 => ?_) (fun c2 => ?_)
     · replace hqr := hqr0.ext ((q2.step q3 (by first | (simp; done) | (simp; omega))).next q4)
       have hjl := sl_len (hqr (rs.getD j rq0) (getD_memS (by omega)))
       have hjM := (hqr (rs.getD j rq0) (getD_memS (by omega))).len_le
       unfold maxLen at hjM
       refine sk (tn (sq (bl (sr ?_))))
       replace hrs := hrs0.ext ((q2.step q3 (by first | (simp; done) | (simp; omega))).next q4)
       refine s_idxL (rq0) rfl hrs rfl er45 (by omega) (by omega) nat_of rfl (fun ad22 hc22 => ?_)
       refine s_loadC0 rfl (hc22 _ hrs) na61 rfl (asg rfl rfl (nn (sr (mv rfl rfl (lnS rfl Tryd.underlying61 rfl (gt' rfl rfl rfl (nn ?_)))))))
       refine cd rfl (fun c3 => ?_) (fun c3 => ?_)
       · refine sr (asg rfl rfl (kpL [(2, _)] (.cons rfl .nil) (nn (rt (rb (tr (tr (rb (rb (tr (tr ?_)))))))))))
         refine rb (tr (r1 Tryd.results51 rfl ?_))
         exact ⟨_, rfl, by first | rw [decide_eq_true (all_lt (d := cq0) hall)] | (rw [decide_eq_false]; intro hh; have h1 := hh _ (getD_memS (d := cq0) (show i < qs.length by omega)); rw [(large_iff _).2 (by first | (left; omega) | (right; exact ⟨_, by rw [← hrm]; exact mem_snd (d := rq0) (show j < rs.length by omega), by omega⟩))] at h1; cases h1), (((q1.next q2).step q3 (by first | (simp; done) | (simp; omega))).next q4)⟩
       · refine sk (bn' (tn (rg (s_add rfl rfl (wi6 (by omega)) rfl (mv rfl rfl (nl ?_))))))
         exact lpE (j + 1) (.cons rfl (.cons rfl (.cons rfl (.cons rfl (.cons rfl (.cons rfl .nil)))))) ⟨q4, ⟨by omega, all_step hrow (by omega)⟩⟩ (by omega)
     · obtain rfl : j = rs.length := by omega
       refine ex (te (te (xh (bn' (tn (rg (s_add rfl rfl (wi6 (by omega)) rfl (mv rfl rfl (nl ?_)))))))))
       exact lpE (i + 1) (.cons rfl (.cons rfl (.cons rfl .nil))) ⟨(((q1.next q2).step q3 (by first | (simp; done) | (simp; omega))).next q4), ⟨by omega, all_step hall (by rw [← hrm]; exact large_no (by rw [List.length_map]; omega) (all_snd (d := rq0) hrow))⟩⟩ (by omega)
 · obtain rfl : i = qs.length := by omega
   refine ex (te (te (xh (tn (sr (asg rfl rfl (nn (rt (r1 Tryd.results51 rfl ?_)))))))))
   exact ⟨_, rfl, by first | rw [decide_eq_true (all_lt (d := cq0) hall)] | (rw [decide_eq_false]; intro hh; have h1 := hh _ (getD_memS (d := cq0) (show i < qs.length by omega)); rw [(large_iff _).2 (by first | (left; omega) | (right; exact ⟨_, by rw [← hrm]; exact mem_snd (d := rq0) (show j < rs.length by omega), by omega⟩))] at h1; cases h1), q1⟩
theorem mgood_ok (v : Value) (qs : List CQ) (w0 : World) (hs : Sl encCq w0 v qs) (hq : ChsQ w0 qs) : Rets Tryd.prog 52 #[v] w0 fun r w' => r = .bool (decide (∀ q ∈ qs, goodB q.2 = true)) ∧ Fr [] w0 w' := by
 obtain ⟨A, c, rfl, hcc, hM, hA⟩ := id hs
 clear hA
 unfold maxLen at hM
 refine we [(0, .slice A qs.length c)] Tryd.func52 rfl Tryd.ntmps52 rfl (.cons rfl .nil) ?_
 have hs0 := hs
 have hq0 := hq
 refine sr (asg rfl rfl (nn (sq (sr (mv rfl rfl (lnS rfl Tryd.underlying34 rfl (mv rfl rfl (nn (bl ?_)))))))))
 refine lpK (ι := Nat) [(9, _), (10, _)] (fun i => [(11, .int .i64 (i : Int))]) (fun i w' => Fr [] w0 w' ∧ i ≤ qs.length ∧ ∀ j, j < i → goodB (qs.getD j cq0).2 = true) (fun i => qs.length - i) 0 (.cons rfl (.cons rfl (.cons rfl .nil))) ⟨Fr.refl _ _, ⟨Nat.zero_le _, fun j hj => absurd hj (Nat.not_lt_zero j)⟩⟩ ?_
 rintro i w1 ⟨q1, ⟨hi, hall⟩⟩
 have z1 := q1.size
 refine kpC [(9, _), (10, _), (11, _)] (.cons rfl (.cons rfl (.cons rfl .nil))) ?_
 refine sr (lt' rfl rfl rfl (nn (sq ?_)))
 refine cd rfl (fun c0 => ?_) (fun c0 => ?_)
 · replace hq := hq0.ext q1
   obtain ⟨hqS, hqL⟩ := hq.at (i := i) (by omega)
   obtain ⟨rs, hrs, hqr, hrm⟩ := Sll.opn hqS
   have hrl := sl_len hrs
   have hrc : rs.length = (qs.getD i cq0).2.length := by rw [← hrm, List.length_map]
   have hrM := hrs.len_le
   unfold maxLen at hrM
   have hrs0 := hrs
   have hqr0 := hqr
   refine sk (tn (sq (bl (sr ?_))))
   replace hs := hs0.ext q1
   refine s_idxL (cq0) rfl hs rfl el34 (by omega) (by omega) nat_of rfl (fun ad13 hc13 => ?_)
   refine s_loadA rfl (hc13 _ hs) ag47 rfl (al zv47 rfl rfl (fun g4 w2 hg4 hb4 q2 z2 => ?_))
   refine s_storeBA rfl rfl hb4 rfl (by first | (simp [Value.oneCell', S]; done) | exact Enc.one _ _) sz47 (fun w3 hb4 q3 z3 => ?_)
   refine nn (sr (fad rfl fa47_0 rfl (s_loadB rfl hb4 rfl na45 rfl (lnS rfl Tryd.underlying45 rfl (mv rfl rfl (nn (bl ?_)))))))
   refine lpK (ι := Nat) [(9, _), (10, _), (11, _), (16, _), (17, _)] (fun j => [(18, .int .i64 (j : Int))]) (fun j w' => Fr [] w3 w' ∧ j ≤ rs.length ∧ ∀ k, k < j → (rs.getD k rq0).2.all okB = true) (fun j => rs.length - j) 0 (.cons rfl (.cons rfl (.cons rfl (.cons rfl (.cons rfl (.cons rfl .nil)))))) ⟨Fr.refl _ _, ⟨Nat.zero_le _, fun j hj => absurd hj (Nat.not_lt_zero j)⟩⟩ ?_
   rintro j w4 ⟨q4, ⟨hj, hrow⟩⟩
   have z4 := q4.size
   refine kpC [(9, _), (10, _), (11, _), (16, _), (17, _), (18, _)] (.cons rfl (.cons rfl (.cons rfl (.cons rfl (.cons rfl (.cons rfl .nil)))))) ?_
   refine sr (lt' rfl rfl rfl (nn (sq ?_)))
   refine cd rfl (fun c1 => ?_) (fun c1 => ?_)
   · replace hqr := hqr0.ext ((q2.step q3 (by first | (simp; done) | (simp; omega))).next q4)
     have hjl := sl_len (hqr (rs.getD j rq0) (getD_memS (by omega)))
     have hjM := (hqr (rs.getD j rq0) (getD_memS (by omega))).len_le
     unfold maxLen at hjM
     refine sk (tn (sq (bl (sr ?_))))
     replace hrs := hrs0.ext ((q2.step q3 (by first | (simp; done) | (simp; omega))).next q4)
     refine s_idxL (rq0) rfl hrs rfl er45 (by omega) (by omega) nat_of rfl (fun ad20 hc20 => ?_)
     refine s_loadC0 rfl (hc20 _ hrs) na61 rfl (asg rfl rfl (nn (sr (mv rfl rfl (lnS rfl Tryd.underlying61 rfl (mv rfl rfl (nn (bl ?_))))))))
     refine lpK (ι := Nat) [(9, _), (10, _), (11, _), (16, _), (17, _), (18, _), (22, _), (23, _)] (fun k => [(24, .int .i64 (k : Int))]) (fun k w' => Fr [] w4 w' ∧ k ≤ (rs.getD j rq0).2.length ∧ ∀ m, m < k → okB ((rs.getD j rq0).2.getD m zeroS) = true) (fun k => (rs.getD j rq0).2.length - k) 0 (.cons rfl (.cons rfl (.cons rfl (.cons rfl (.cons rfl (.cons rfl (.cons rfl (.cons rfl (.cons rfl .nil))))))))) ⟨Fr.refl _ _, ⟨Nat.zero_le _, fun j hj => absurd hj (Nat.not_lt_zero j)⟩⟩ ?_
     rintro k w5 ⟨q5, ⟨hk, hst⟩⟩
     have z5 := q5.size
     refine kpC [(9, _), (10, _), (11, _), (16, _), (17, _), (18, _), (22, _), (23, _), (24, _)] (.cons rfl (.cons rfl (.cons rfl (.cons rfl (.cons rfl (.cons rfl (.cons rfl (.cons rfl (.cons rfl .nil))))))))) ?_
     refine sr (lt' rfl rfl rfl (nn (sq ?_)))
     refine cd rfl (fun c2 => ?_) (fun c2 => ?_)
     · refine sk (tn (sq (bl (sr ?_))))
       replace hqr := hqr0.ext (((q2.step q3 (by first | (simp; done) | (simp; omega))).next q4).next q5)
       refine s_idxL (zeroS) rfl (hqr (rs.getD j rq0) (getD_memS (by omega))) rfl el61 (by omega) (by omega) nat_of rfl (fun ad26 hc26 => ?_)
       refine s_loadA rfl (hc26 _ (hqr (rs.getD j rq0) (getD_memS (by omega)))) ag100 rfl (al zv100 rfl rfl (fun g8 w6 hg8 hb8 q6 z6 => ?_))
       refine s_storeBA rfl rfl hb8 rfl (by first | (simp [Value.oneCell', S]; done) | exact Enc.one _ _) sz100 (fun w7 hb8 q7 z7 => ?_)
       refine nn (sr (s_loadBA rfl hb8 ag100 rfl ?_))
       refine cl (ev1 rfl) co68 (check_ok ((rs.getD j rq0).2.getD k zeroS) _) rfl ?_
       rintro _ w8 ⟨rfl, q8⟩
       have z8 := q8.size
       refine ne' rfl rfl rfl (nn ?_)
       refine cd rfl (fun c3 => ?_) (fun c3 => ?_)
       · refine sr (asg rfl rfl (kpL [(2, _)] (.cons rfl .nil) (nn (rt (rb (tr (tr (rb (rb (tr (tr ?_)))))))))))
         refine rb (rb (tr (tr (rb (tr (r1 Tryd.results52 rfl ?_))))))
         exact ⟨_, rfl, by first | rw [decide_eq_true (all_lt (d := cq0) hall)] | (rw [decide_eq_false]; intro hh; have h1 := hh _ (getD_memS (d := cq0) (show i < qs.length by omega)); rw [← hrm, good_no (mem_snd (d := rq0) (show j < rs.length by omega)) (getD_memS (d := zeroS) (show k < (rs.getD j rq0).2.length by omega)) (by assumption)] at h1; cases h1), (((((((q1.next q2).step q3 (by first | (simp; done) | (simp; omega))).next q4).next q5).next q6).step q7 (by first | (simp; done) | (simp; omega))).next q8)⟩
       · refine sk (bn' (tn (rg (s_add rfl rfl (wi6 (by omega)) rfl (mv rfl rfl (nl ?_))))))
         exact lpE (k + 1) (.cons rfl (.cons rfl (.cons rfl (.cons rfl (.cons rfl (.cons rfl (.cons rfl (.cons rfl (.cons rfl .nil))))))))) ⟨(((q5.next q6).step q7 (by first | (simp; done) | (simp; omega))).next q8), ⟨by omega, all_step hst ((okB_iff _).2 (Classical.not_not.1 (by assumption)))⟩⟩ (by omega)
     · obtain rfl : k = (rs.getD j rq0).2.length := by omega
       refine ex (te (te (xh (bn' (tn (rg (s_add rfl rfl (wi6 (by omega)) rfl (mv rfl rfl (nl ?_)))))))))
       exact lpE (j + 1) (.cons rfl (.cons rfl (.cons rfl (.cons rfl (.cons rfl (.cons rfl .nil)))))) ⟨(q4.next q5), ⟨by omega, all_step hrow (List.all_eq_true.2 (all_lt (d := zeroS) hst))⟩⟩ (by omega)
   · obtain rfl : j = rs.length := by omega
     refine ex (te (te (xh (bn' (tn (rg (s_add rfl rfl (wi6 (by omega)) rfl (mv rfl rfl (nl ?_)))))))))
     exact lpE (i + 1) (.cons rfl (.cons rfl (.cons rfl .nil))) ⟨(((q1.next q2).step q3 (by first | (simp; done) | (simp; omega))).next q4), ⟨by omega, all_step hall (by rw [← hrm]; exact List.all_eq_true.2 (all_snd (d := rq0) hrow))⟩⟩ (by omega)
 · obtain rfl : i = qs.length := by omega
   refine ex (te (te (xh (tn (sr (asg rfl rfl (nn (rt (r1 Tryd.results52 rfl ?_)))))))))
   exact ⟨_, rfl, by first | rw [decide_eq_true (all_lt (d := cq0) hall)] | (rw [decide_eq_false]; intro hh; have h1 := hh _ (getD_memS (d := cq0) (show i < qs.length by omega)); rw [← hrm, good_no (mem_snd (d := rq0) (show j < rs.length by omega)) (getD_memS (d := zeroS) (show k < (rs.getD j rq0).2.length by omega)) (by assumption)] at h1; cases h1), q1⟩
end Go.Proofs.YthehggmdcmpjeaaDoor
namespace Go.Proofs.YthehggmdcmpjeaaDoor
open Go.Lw Go.G14
theorem bo60 : BuildAt Tryd.prog 60 [(0, 1), (1, 1), (2, 1)] [(.slice none 0 0), (.slice none 0 0), (.slice none 0 0)] := BuildAt.array (sz := 1) Tryd.underlying60 (fun _ => by kernel_rfl) (fun _ => by kernel_rfl) (fun i q h => by match i, h with | 0, h => simpa using h.symm | 1, h => simpa using h.symm | 2, h => simpa using h.symm | (k + 3), h => simp at h)
theorem co41 : CallOf Tryd.prog 41 := CallOf.mk' Tryd.func41 (by kernel_rfl) (by kernel_rfl)
theorem co51 : CallOf Tryd.prog 51 := CallOf.mk' Tryd.func51 (by kernel_rfl) (by kernel_rfl)
theorem co52 : CallOf Tryd.prog 52 := CallOf.mk' Tryd.func52 (by kernel_rfl) (by kernel_rfl)
theorem fa49_0 : FieldAt Tryd.prog 49 0 0 := fun _ _ => by kernel_rfl
theorem fa49_1 : FieldAt Tryd.prog 49 1 1 := fun _ _ => by kernel_rfl
theorem fa49_2 : FieldAt Tryd.prog 49 2 2 := fun _ _ => by kernel_rfl
theorem sz60 : SizeOf Tryd.prog 60 3 := fun _ => by kernel_rfl
theorem zv60 (w : World) : (zeroValue 60).run Tryd.prog w = .ok (.agg #[(.slice none 0 0), (.slice none 0 0), (.slice none 0 0)]) w := by kernel_rfl
theorem mcheck_ok (m : Mot) (l t r : SV) (w0 : World) (hm : MotAt w0 m l t r) : Rets Tryd.prog 28 #[.agg #[.slice l.1 l.2.1 l.2.2, .slice t.1 t.2.1 t.2.2, .slice r.1 r.2.1 r.2.2]] w0 fun v w' => v = .int .i64 (motE m) ∧ Fr [] w0 w' := by
 obtain ⟨hl1, hl2, hl3⟩ := hm.len
 obtain ⟨rs, hrs, hqr, hrm⟩ := Sll.opn hm.T
 have hrl := sl_len hrs
 have hrc : rs.length = m.T.length := by rw [← hrm, List.length_map]
 have hrM := hrs.len_le
 unfold maxLen at hrM
 refine we [(0, .agg #[.slice l.1 l.2.1 l.2.2, .slice t.1 t.2.1 t.2.2, .slice r.1 r.2.1 r.2.2])] Tryd.func28 rfl Tryd.ntmps28 rfl (.cons rfl .nil) ?_
 have hm0 := hm
 have hrs0 := hrs
 have hqr0 := hqr
 refine sr (bx rfl rfl rfl (fun g1 w1 hg1 hb1 q1 z1 => ?_))
 refine asg rfl rfl (nn (sq (sr (fad rfl fa49_0 rfl (s_loadBP (vs := [_]) rfl hb1 ag47 rfl rfl (fad rfl fa49_1 rfl (s_loadBP (vs := [_]) rfl hb1 ag47 rfl rfl (fad rfl fa49_2 rfl (s_loadBP (vs := [_]) rfl hb1 ag47 rfl rfl (s_bslice (bl3 m l t r) (ev3 rfl rfl rfl) rfl rfl rfl el34 (Nat.le_of_ble_eq_true rfl) rfl (fun g14 w2 hg14 ho14 q2 z2 => ?_)))))))))))
 replace hm := hm0.ext (q1.next q2)
 refine cl (ev1 rfl) co51 (msmall_ok _ _ _ ho14.sl hm.chs3) rfl ?_
 rintro _ w3 ⟨rfl, q3⟩
 have z3 := q3.size
 refine nt' rfl rfl (kpL [(1, _), (16, _)] (.cons rfl (.cons rfl .nil)) (nn ?_))
 refine cd rfl (fun c0 => ?_) (fun c0 => ?_)
 · refine sr (asg rfl rfl (nn (rt (tr (r1 Tryd.results28 rfl ?_)))))
   exact ⟨_, rfl, by rw [mot3 c0], ((q1.next q2).next q3)⟩
 · refine sk (tn (sr (fad rfl fa49_1 rfl (s_fad2 rfl fa47_0 rfl ?_))))
   replace hb1 := hb1.ext (q2.next q3)
   refine s_loadB rfl hb1 rfl na45 rfl (lnS rfl Tryd.underlying45 rfl (asg rfl rfl (nn (sq (sr (fad rfl fa49_0 rfl (s_loadBP (vs := [_]) rfl hb1 ag47 rfl rfl (fad rfl fa49_2 rfl (s_loadBP (vs := [_]) rfl hb1 ag47 rfl rfl (s_bslice (bl2 m l r) (ev2 rfl rfl) rfl rfl rfl el34 (Nat.le_of_ble_eq_true rfl) rfl (fun g25 w4 hg25 ho25 q4 z4 => ?_)))))))))))
   refine lnS rfl Tryd.underlying34 rfl (mv rfl rfl (nn (bl ?_)))
   have hes : (bl2 m l r).length = 2 := rfl
   refine lpK (ι := Nat) [(1, _), (3, _), (25, _), (26, _)] (fun i => [(27, .int .i64 (i : Int))]) (fun i w' => Fr [] w4 w' ∧ i ≤ 2 ∧ ∀ j, j < i → ¬ (0 < ((bl2 m l r).getD j cq0).2.length ∧ ((bl2 m l r).getD j cq0).2.length ≠ m.T.length)) (fun i => 2 - i) 0 (.cons rfl (.cons rfl (.cons rfl (.cons rfl (.cons rfl .nil))))) ⟨Fr.refl _ _, ⟨Nat.zero_le _, fun j hj => absurd hj (Nat.not_lt_zero j)⟩⟩ ?_
   rintro i w5 ⟨q5, ⟨hi, hall⟩⟩
   have z5 := q5.size
   refine kpC [(1, _), (3, _), (25, _), (26, _), (27, _)] (.cons rfl (.cons rfl (.cons rfl (.cons rfl (.cons rfl .nil))))) ?_
   refine sr (lt' rfl rfl rfl (nn (sq ?_)))
   refine cd rfl (fun c1 => ?_) (fun c1 => ?_)
   · replace hm := hm0.ext ((((q1.next q2).next q3).next q4).next q5)
     have hee := (hm.chs2.at (i := i) (by omega)).2
     refine sk (tn (sq (bl (sr ?_))))
     replace ho25 := ho25.ext q5
     refine s_idxL (cq0) rfl ho25.sl rfl el34 (by omega) (by omega) nat_of rfl (fun ad29 hc29 => ?_)
     refine s_loadA rfl (hc29 _ ho25.sl) ag47 rfl (al zv47 rfl rfl (fun g5 w6 hg5 hb5 q6 z6 => ?_))
     refine s_storeBA rfl rfl hb5 rfl (by first | (simp [Value.oneCell', S]; done) | exact Enc.one _ _) sz47 (fun w7 hb5 q7 z7 => ?_)
     refine nn (sq ?_)
     refine rbo (r := 41) (L' := [(1, _), (3, _), (25, _), (26, _), (27, _)]) (((0 < (((bl2 m l r).getD i cq0).1.2.1 : Int)) ∧ ((((bl2 m l r).getD i cq0).1.2.1 : Int) ≠ (t.2.1 : Int)))) (.cons rfl (.cons rfl (.cons rfl (.cons rfl (.cons rfl .nil))))) ?_ ?_
     · refine fad rfl fa47_0 rfl (s_loadB rfl hb5 rfl na45 rfl (lnS rfl Tryd.underlying45 rfl (gt' rfl rfl rfl (mv rfl rfl ?_))))
       refine gs 35 rfl (fun g0 => ?_) (fun g0 => ?_)
       · exact gY rfl (fad rfl fa47_0 rfl (gY rfl (s_loadB rfl hb5 rfl na45 rfl (gY rfl (lnS rfl Tryd.underlying45 rfl (gY rfl (mv rfl rfl (gY rfl (ne' rfl rfl rfl (pkt rfl rfl rfl rfl (rbe rfl (by first | exact bt (by omega) | exact bf (by omega) | exact bi (by omega) | exact bn (by omega) | (simp_all; done) | (simp_all; omega)) (.cons rfl (.cons rfl (.cons rfl (.cons rfl (.cons rfl .nil))))))))))))))))
       · exact gN rfl rfl rfl (gN rfl rfl rfl (gN rfl rfl rfl (gN rfl rfl rfl (gN rfl rfl rfl (pkf rfl rfl rfl rfl (rbe rfl (by first | exact bt (by omega) | exact bf (by omega) | exact bi (by omega) | exact bn (by omega) | (simp_all; done) | (simp_all; omega)) (.cons rfl (.cons rfl (.cons rfl (.cons rfl (.cons rfl .nil)))))))))))
     · refine tn ?_
       refine cd rfl (fun c2 => ?_) (fun c2 => ?_)
       · refine sr (asg rfl rfl (kpL [(2, _)] (.cons rfl .nil) (nn (rt (rb (tr (tr (rb (tr (r1 Tryd.results28 rfl ?_))))))))))
         exact ⟨_, rfl, by rw [mot5 (Classical.not_not.1 c0) (edg_at (l := l) (r := r) (i := i) (by omega) (by omega))], ((((((q1.next q2).next q3).next q4).next q5).next q6).step q7 (by first | (simp; done) | (simp; omega)))⟩
       · refine sk (bn' (tn (rg (s_add rfl rfl (wi6 (by omega)) rfl (mv rfl rfl (nl ?_))))))
         exact lpE (i + 1) (.cons rfl (.cons rfl (.cons rfl (.cons rfl (.cons rfl .nil))))) ⟨((q5.next q6).step q7 (by first | (simp; done) | (simp; omega))), ⟨by omega, all_step hall (by omega)⟩⟩ (by omega)
   · obtain rfl : i = 2 := by omega
     have hne := edg_no hall
     refine ex (te (te (xh (tn (sq (sq ?_))))))
     refine rboF (r := 55) (L' := [(1, _)]) ((((t.2.1 : Int) = 0) ∨ (¬ (∀ q ∈ bl3 m l t r, goodB q.2 = true)))) (.cons rfl .nil) ?_ ?_
     · refine mv rfl rfl (eq' rfl rfl rfl (mv rfl rfl ?_))
       refine gs 45 rfl (fun g1 => ?_) (fun g1 => ?_)
       · exact gN rfl rfl rfl (gN rfl rfl rfl (gN rfl rfl rfl (gN rfl rfl rfl (gN rfl rfl rfl (gN rfl rfl rfl (gN rfl rfl rfl (gN rfl rfl rfl (gN rfl rfl rfl (pkt rfl rfl rfl rfl (rbeF rfl (by first | exact bt (by omega) | exact bf (by omega) | exact bi (by omega) | exact bn (by omega) | (simp_all; done) | (simp_all; omega)) (.cons rfl .nil) (Fr.refl _ _)))))))))))
       · refine gY rfl (fad rfl fa49_0 rfl (gY rfl ?_))
         replace hb1 := hb1.ext (q4.next q5)
         refine s_loadBP (vs := [_]) rfl hb1 ag47 rfl rfl (gY rfl (fad rfl fa49_1 rfl (gY rfl (s_loadBP (vs := [_]) rfl hb1 ag47 rfl rfl (gY rfl (fad rfl fa49_2 rfl (gY rfl (s_loadBP (vs := [_]) rfl hb1 ag47 rfl rfl (gY rfl (s_bslice (bl3 m l t r) (ev3 rfl rfl rfl) rfl rfl rfl el34 (Nat.le_of_ble_eq_true rfl) rfl (fun g52 w8 hg52 ho52 q8 z8 => ?_)))))))))))
         refine gY rfl ?_
         replace hm := hm0.ext (((((q1.next q2).next q3).next q4).next q5).next q8)
         refine cl (ev1 rfl) co52 (mgood_ok _ _ _ ho52.sl hm.chs3) rfl ?_
         rintro _ w9 ⟨rfl, q9⟩
         have z9 := q9.size
         exact gY rfl (nt' rfl rfl (pkf rfl rfl rfl rfl (rbeF rfl (by first | exact bt (by omega) | exact bf (by omega) | exact bi (by omega) | exact bn (by omega) | (simp_all; done) | (simp_all; omega)) (.cons rfl .nil) (q8.next q9))))
     · intro w10 q10; have z10 := q10.size
       refine tn ?_
       refine cd rfl (fun c3 => ?_) (fun c3 => ?_)
       · refine sr (asg rfl rfl (nn (rt (tr (r1 Tryd.results28 rfl ?_)))))
         exact ⟨_, rfl, by rw [mot1 (Classical.not_not.1 c0) hne (by rcases c3 with h | h; exact .inl (by omega); exact .inr h)], (((((q1.next q2).next q3).next q4).next q5).next q10)⟩
       · refine sk (tn (sq (sr (fad rfl fa49_1 rfl (s_fad2 rfl fa47_0 rfl ?_)))))
         replace hb1 := hb1.ext ((q4.next q5).next q10)
         refine s_loadB rfl hb1 rfl na45 rfl (lnS rfl Tryd.underlying45 rfl (mv rfl rfl (nn (bl ?_))))
         refine lpK (ι := Nat) [(58, _), (59, _)] (fun j => [(60, .int .i64 (j : Int))]) (fun j w' => Fr [] w10 w' ∧ j ≤ rs.length ∧ ∀ k, k < j → ¬ (rs.getD k rq0).2.length = 0) (fun j => rs.length - j) 0 (.cons rfl (.cons rfl (.cons rfl .nil))) ⟨Fr.refl _ _, ⟨Nat.zero_le _, fun j hj => absurd hj (Nat.not_lt_zero j)⟩⟩ ?_
         rintro j w11 ⟨q11, ⟨hj, hrow⟩⟩
         have z11 := q11.size
         refine kpC [(58, _), (59, _), (60, _)] (.cons rfl (.cons rfl (.cons rfl .nil))) ?_
         refine sr (lt' rfl rfl rfl (nn (sq ?_)))
         refine cd rfl (fun c4 => ?_) (fun c4 => ?_)
         · replace hqr := hqr0.ext ((((((q1.next q2).next q3).next q4).next q5).next q10).next q11)
           have hjl := sl_len (hqr (rs.getD j rq0) (getD_memS (by omega)))
           have hjM := (hqr (rs.getD j rq0) (getD_memS (by omega))).len_le
           unfold maxLen at hjM
           refine sk (tn (sq (bl (sr ?_))))
           replace hrs := hrs0.ext ((((((q1.next q2).next q3).next q4).next q5).next q10).next q11)
           refine s_idxL (rq0) rfl hrs rfl er45 (by omega) (by omega) nat_of rfl (fun ad62 hc62 => ?_)
           refine s_loadC0 rfl (hc62 _ hrs) na61 rfl (asg rfl rfl (nn (sr (mv rfl rfl (lnS rfl Tryd.underlying61 rfl (eq' rfl rfl rfl (nn ?_)))))))
           refine cd rfl (fun c5 => ?_) (fun c5 => ?_)
           · refine sr (asg rfl rfl (nn (rt (rb (tr (tr (rb (tr (r1 Tryd.results28 rfl ?_)))))))))
             exact ⟨_, rfl, by rw [mot1r (Classical.not_not.1 c0) hne ⟨_, by rw [← hrm]; exact mem_snd (d := rq0) (show j < rs.length by omega), by omega⟩], ((((((q1.next q2).next q3).next q4).next q5).next q10).next q11)⟩
           · refine sk (bn' (tn (rg (s_add rfl rfl (wi6 (by omega)) rfl (mv rfl rfl (nl ?_))))))
             exact lpE (j + 1) (.cons rfl (.cons rfl (.cons rfl .nil))) ⟨q11, ⟨by omega, all_step hrow (by omega)⟩⟩ (by omega)
         · obtain rfl : j = rs.length := by omega
           refine ex (te (te (xh (tn (sr (asg rfl rfl (nn (rt (r1 Tryd.results28 rfl ?_)))))))))
           exact ⟨_, rfl, by rw [mot0 (l := l) (t := t) (r := r) (Classical.not_not.1 c0) hne (fun h => c3 (.inl (by omega))) (Classical.not_not.1 fun h => c3 (.inr h)) (by rw [← hrm]; exact all_snd (d := rq0) hrow)], ((((((q1.next q2).next q3).next q4).next q5).next q10).next q11)⟩
theorem large_ok (u : Value) (rows : RowL) (w0 : World) (hS : Sll encSt w0 u rows) : Rets Tryd.prog 41 #[.agg #[u]] w0 fun v w' => v = .int .i64 (if largeB rows = true then 1 else 0) ∧ Fr [] w0 w' := by
 obtain ⟨rs, hrs, hqr, hrm⟩ := Sll.opn hS
 obtain ⟨A, c, rfl, hcc, hM, hA⟩ := id hrs
 clear hA
 unfold maxLen at hM
 have hrc : rs.length = rows.length := by rw [← hrm, List.length_map]
 refine we [(0, .agg #[.slice A rs.length c])] Tryd.func41 rfl Tryd.ntmps41 rfl (.cons rfl .nil) ?_
 have hrs0 := hrs
 have hqr0 := hqr
 refine sr (bx rfl rfl rfl (fun g1 w1 hg1 hb1 q1 z1 => ?_))
 refine asg rfl rfl (nn (sq (sr (fad rfl fa47_0 rfl (s_loadB rfl hb1 rfl na45 rfl (lnS rfl Tryd.underlying45 rfl (gt' rfl rfl rfl (nn ?_))))))))
 refine cd rfl (fun c0 => ?_) (fun c0 => ?_)
 · refine sr (asg rfl rfl (nn (rt (tr (r1 Tryd.results41 rfl ?_)))))
   exact ⟨_, rfl, by first | rw [if_pos ((large_iff _).2 (.inl (by omega)))] | rw [if_pos ((large_iff _).2 (.inr ⟨_, by rw [← hrm]; exact mem_snd (d := rq0) (show j < rs.length by omega), by omega⟩))] | rw [large_no (by omega) (by rw [← hrm]; exact all_snd (d := rq0) hrow), if_neg (by decide)], q1⟩
 · refine sk (tn (sq (sr (asg rfl rfl (nn (bl ?_))))))
   refine lpK (ι := Nat) [(1, _)] (fun j => [(3, .int .i64 (j : Int))]) (fun j w' => Fr [] w1 w' ∧ j ≤ rs.length ∧ ∀ k, k < j → ¬ 16 < (rs.getD k rq0).2.length) (fun j => rs.length - j) 0 (.cons rfl (.cons rfl .nil)) ⟨Fr.refl _ _, ⟨Nat.zero_le _, fun j hj => absurd hj (Nat.not_lt_zero j)⟩⟩ ?_
   rintro j w2 ⟨q2, ⟨hj, hrow⟩⟩
   have z2 := q2.size
   refine kpC [(1, _), (3, _)] (.cons rfl (.cons rfl .nil)) ?_
   refine sq (sr (mv rfl rfl (fad rfl fa47_0 rfl ?_)))
   replace hb1 := hb1.ext q2
   refine s_loadB rfl hb1 rfl na45 rfl (lnS rfl Tryd.underlying45 rfl (lt' rfl rfl rfl (nn ?_)))
   refine cd rfl (fun c1 => ?_) (fun c1 => ?_)
   · replace hqr := hqr0.ext (q1.next q2)
     have hjl := sl_len (hqr (rs.getD j rq0) (getD_memS (by omega)))
     have hjM := (hqr (rs.getD j rq0) (getD_memS (by omega))).len_le
     unfold maxLen at hjM
     refine sk (tn (sq (bl (sr (fad rfl fa47_0 rfl (s_loadB rfl hb1 rfl na45 rfl (mv rfl rfl ?_)))))))
     replace hrs := hrs0.ext (q1.next q2)
     refine s_idxL (rq0) rfl hrs rfl er45 (by omega) (by omega) nat_of rfl (fun ad18 hc18 => ?_)
     refine s_loadC0 rfl (hc18 _ hrs) na61 rfl (lnS rfl Tryd.underlying61 rfl (gt' rfl rfl rfl (kpL [(1, _), (3, _), (21, _)] (.cons rfl (.cons rfl (.cons rfl .nil))) (nn ?_))))
     refine cd rfl (fun c2 => ?_) (fun c2 => ?_)
     · refine sr (asg rfl rfl (nn (rt (rb (tr (tr (rb (tr (r1 Tryd.results41 rfl ?_)))))))))
       exact ⟨_, rfl, by first | rw [if_pos ((large_iff _).2 (.inl (by omega)))] | rw [if_pos ((large_iff _).2 (.inr ⟨_, by rw [← hrm]; exact mem_snd (d := rq0) (show j < rs.length by omega), by omega⟩))] | rw [large_no (by omega) (by rw [← hrm]; exact all_snd (d := rq0) hrow), if_neg (by decide)], (q1.next q2)⟩
     · refine sk (bn' (tn (rg (mv rfl rfl (s_add rfl rfl (wi6 (by omega)) rfl (asg rfl rfl (nl ?_)))))))
       exact lpE (j + 1) (.cons rfl (.cons rfl .nil)) ⟨q2, ⟨by omega, all_step hrow (by omega)⟩⟩ (by omega)
   · obtain rfl : j = rs.length := by omega
     refine ex (te (te (xh (tn (sr (asg rfl rfl (nn (rt (r1 Tryd.results41 rfl ?_)))))))))
     exact ⟨_, rfl, by first | rw [if_pos ((large_iff _).2 (.inl (by omega)))] | rw [if_pos ((large_iff _).2 (.inr ⟨_, by rw [← hrm]; exact mem_snd (d := rq0) (show j < rs.length by omega), by omega⟩))] | rw [large_no (by omega) (by rw [← hrm]; exact all_snd (d := rq0) hrow), if_neg (by decide)], (q1.next q2)⟩
abbrev RowOk15 (k : Nat) (r : List Stitch) : Prop := ¬ (k = 1 ∧ r.length = 0) ∧ r.all okB = true
theorem rows_bad {m : Mot} {l t r : SV} {k : Nat} {row : List Stitch} (hN : NoL m l t r) (he : ¬ Edg m) (hk : k < 3) (hr : row ∈ ((bl3 m l t r).getD k cq0).2) (hb : (k = 1 ∧ row.length = 0) ∨ ∃ s ∈ row, checkS s ≠ 0) : motE m = 1 := by
  rcases hb with ⟨rfl, h0⟩ | ⟨s, hs, hc⟩
  · exact mot1r hN he ⟨row, hr, h0⟩
  · refine mot1 (l := l) (t := t) (r := r) hN he (.inr fun hg => ?_)
    have h1 := hg _ (getD_memS (d := cq0) (show k < (bl3 m l t r).length from hk))
    rw [good_no hr hs hc] at h1; cases h1
theorem rows_ok {m : Mot} {l t r : SV} (hN : NoL m l t r) (he : ¬ Edg m) (h0 : ¬ m.T.length = 0) (h : ∀ k, k < 3 → ∀ row ∈ ((bl3 m l t r).getD k cq0).2, RowOk15 k row) : motE m = 0 := by
  refine mot0 hN he h0 (fun q hq => ?_) (fun row hr e => (h 1 (by omega) row hr).1 ⟨rfl, e⟩)
  obtain ⟨k, hk⟩ := List.getElem?_of_mem hq
  have hk3 : k < 3 := (List.getElem?_eq_some_iff.1 hk).1
  have := h k hk3
  rw [List.getD, hk] at this
  exact List.all_eq_true.2 fun row hr => (this row hr).2
set_option maxHeartbeats 1000000 in
theorem refmot_ok (m : Mot) (l t r : SV) (w0 : World) (hm : MotAt w0 m l t r) : Rets Tryd.prog 22 #[.agg #[.slice l.1 l.2.1 l.2.2, .slice t.1 t.2.1 t.2.2, .slice r.1 r.2.1 r.2.2]] w0 fun v w' => v = .int .i64 (motE m) ∧ Fr [] w0 w' := by
 obtain ⟨hl1, hl2, hl3⟩ := hm.len
 refine we [(0, .agg #[.slice l.1 l.2.1 l.2.2, .slice t.1 t.2.1 t.2.2, .slice r.1 r.2.1 r.2.2])] Tryd.func22 rfl Tryd.ntmps22 rfl (.cons rfl .nil) ?_
 have hm0 := hm
 refine sr (bx rfl rfl rfl (fun g1 w1 hg1 hb1 q1 z1 => ?_))
 refine asg rfl rfl (nn (sq (sq ?_)))
 refine rboF (r := 23) (L' := [(1, _)]) (((((if largeB m.L = true then 1 else 0) = 1) ∨ ((if largeB m.T = true then 1 else 0) = 1)) ∨ ((if largeB m.R = true then 1 else 0) = 1))) (.cons rfl .nil) ?_ ?_
 · refine fad rfl fa49_0 rfl (s_loadBP (vs := [_]) rfl hb1 ag47 rfl rfl ?_)
   replace hm := hm0.ext q1
   refine cl (ev1 rfl) co41 (large_ok _ m.L _ hm.L) rfl ?_
   rintro _ w2 ⟨rfl, q2⟩
   have z2 := q2.size
   refine eq' rfl rfl rfl (mv rfl rfl ?_)
   refine gs 12 rfl (fun g0 => ?_) (fun g0 => ?_)
   · exact gN rfl rfl rfl (gN rfl rfl rfl (gN rfl rfl rfl (gN rfl rfl rfl (pkt rfl rfl rfl rfl (mv rfl rfl (gN rfl rfl rfl (gN rfl rfl rfl (gN rfl rfl rfl (gN rfl rfl rfl (pkt rfl rfl rfl rfl (rbeF rfl (by first | exact bt (by omega) | exact bf (by omega) | exact bi (by omega) | exact bn (by omega) | (simp_all; done) | (simp_all; omega)) (.cons rfl .nil) q2)))))))))))
   · refine gY rfl (fad rfl fa49_1 rfl (gY rfl ?_))
     replace hb1 := hb1.ext q2
     refine s_loadBP (vs := [_]) rfl hb1 ag47 rfl rfl (gY rfl ?_)
     replace hm := hm0.ext (q1.next q2)
     refine cl (ev1 rfl) co41 (large_ok _ m.T _ hm.T) rfl ?_
     rintro _ w3 ⟨rfl, q3⟩
     have z3 := q3.size
     refine gY rfl (eq' rfl rfl rfl (pkf rfl rfl rfl rfl (mv rfl rfl ?_)))
     refine gs 18 rfl (fun g1 => ?_) (fun g1 => ?_)
     · exact gN rfl rfl rfl (gN rfl rfl rfl (gN rfl rfl rfl (gN rfl rfl rfl (pkt rfl rfl rfl rfl (rbeF rfl (by first | exact bt (by omega) | exact bf (by omega) | exact bi (by omega) | exact bn (by omega) | (simp_all; done) | (simp_all; omega)) (.cons rfl .nil) (q2.next q3))))))
     · refine gY rfl (fad rfl fa49_2 rfl (gY rfl ?_))
       replace hb1 := hb1.ext q3
       refine s_loadBP (vs := [_]) rfl hb1 ag47 rfl rfl (gY rfl ?_)
       replace hm := hm0.ext ((q1.next q2).next q3)
       refine cl (ev1 rfl) co41 (large_ok _ m.R _ hm.R) rfl ?_
       rintro _ w4 ⟨rfl, q4⟩
       have z4 := q4.size
       exact gY rfl (eq' rfl rfl rfl (pkf rfl rfl rfl rfl (rbeF rfl (by first | exact bt (by omega) | exact bf (by omega) | exact bi (by omega) | exact bn (by omega) | (simp_all; done) | (simp_all; omega)) (.cons rfl .nil) ((q2.next q3).next q4))))
 · intro w5 q5; have z5 := q5.size
   refine tn ?_
   refine cd rfl (fun c0 => ?_) (fun c0 => ?_)
   · refine sr (asg rfl rfl (nn (rt (tr (r1 Tryd.results22 rfl ?_)))))
     exact ⟨_, rfl, by rw [mot3 (l := l) (t := t) (r := r) (fun h => by have := nol_iff.1 h; rw [this.1, this.2.1, this.2.2] at c0; simp at c0)], (q1.next q5)⟩
   · have hN : NoL m l t r := nol_iff.2 ⟨by cases e : largeB m.L <;> simp_all, by cases e : largeB m.T <;> simp_all, by cases e : largeB m.R <;> simp_all⟩
     refine sk (tn (sr (fad rfl fa49_1 rfl (s_fad2 rfl fa47_0 rfl ?_))))
     replace hb1 := hb1.ext q5
     refine s_loadB rfl hb1 rfl na45 rfl (lnS rfl Tryd.underlying45 rfl (asg rfl rfl (nn (sq (sq ?_)))))
     refine rbo (r := 55) (L' := [(1, _), (3, _)]) (((((l.2.1 : Int) ≠ 0) ∧ ((l.2.1 : Int) ≠ (t.2.1 : Int))) ∨ (((r.2.1 : Int) ≠ 0) ∧ ((r.2.1 : Int) ≠ (t.2.1 : Int))))) (.cons rfl (.cons rfl .nil)) ?_ ?_
     · refine fad rfl fa49_0 rfl (s_fad2 rfl fa47_0 rfl (s_loadB rfl hb1 rfl na45 rfl (lnS rfl Tryd.underlying45 rfl (ne' rfl rfl rfl (mv rfl rfl ?_)))))
       refine gs 33 rfl (fun g2 => ?_) (fun g2 => ?_)
       · refine gY rfl (fad rfl fa49_0 rfl (gY rfl (s_fad2 rfl fa47_0 rfl (gY rfl (s_loadB rfl hb1 rfl na45 rfl (gY rfl (lnS rfl Tryd.underlying45 rfl (gY rfl (mv rfl rfl (gY rfl (ne' rfl rfl rfl ?_)))))))))))
         refine pkt rfl rfl rfl rfl (mv rfl rfl ?_)
         refine gs 41 rfl (fun g3 => ?_) (fun g3 => ?_)
         · refine gN rfl rfl rfl (gN rfl rfl rfl (gN rfl rfl rfl (gN rfl rfl rfl (gN rfl rfl rfl (gN rfl rfl rfl (gS rfl rfl rfl (gS rfl rfl rfl (gS rfl rfl rfl (gS rfl rfl rfl (gS rfl rfl rfl (gS rfl rfl rfl ?_)))))))))))
           exact gN rfl rfl rfl (pkt rfl rfl rfl rfl (rbe rfl (by first | exact bt (by omega) | exact bf (by omega) | exact bi (by omega) | exact bn (by omega) | (simp_all; done) | (simp_all; omega)) (.cons rfl (.cons rfl .nil))))
         · refine gY rfl (fad rfl fa49_2 rfl (gY rfl (s_fad2 rfl fa47_0 rfl (gY rfl (s_loadB rfl hb1 rfl na45 rfl (gY rfl (lnS rfl Tryd.underlying45 rfl (gY rfl (ne' rfl rfl rfl (gY rfl (mv rfl rfl ?_)))))))))))
           refine gs 47 rfl (fun g4 => ?_) (fun g4 => ?_)
           · refine gY rfl (fad rfl fa49_2 rfl (gY rfl (s_fad2 rfl fa47_0 rfl (gY rfl (s_loadB rfl hb1 rfl na45 rfl (gY rfl (lnS rfl Tryd.underlying45 rfl (gY rfl (mv rfl rfl (gY rfl (ne' rfl rfl rfl ?_)))))))))))
             exact gY rfl (pkt rfl rfl rfl rfl (pkf rfl rfl rfl rfl (rbe rfl (by first | exact bt (by omega) | exact bf (by omega) | exact bi (by omega) | exact bn (by omega) | (simp_all; done) | (simp_all; omega)) (.cons rfl (.cons rfl .nil)))))
           · exact gN rfl rfl rfl (gN rfl rfl rfl (gN rfl rfl rfl (gN rfl rfl rfl (gN rfl rfl rfl (gN rfl rfl rfl (gY rfl (pkf rfl rfl rfl rfl (pkf rfl rfl rfl rfl (rbe rfl (by first | exact bt (by omega) | exact bf (by omega) | exact bi (by omega) | exact bn (by omega) | (simp_all; done) | (simp_all; omega)) (.cons rfl (.cons rfl .nil)))))))))))
       · refine gN rfl rfl rfl (gN rfl rfl rfl (gN rfl rfl rfl (gN rfl rfl rfl (gN rfl rfl rfl (gN rfl rfl rfl (pkf rfl rfl rfl rfl (mv rfl rfl (gY rfl (fad rfl fa49_2 rfl (gY rfl (s_fad2 rfl fa47_0 rfl ?_)))))))))))
         refine gY rfl (s_loadB rfl hb1 rfl na45 rfl (gY rfl (lnS rfl Tryd.underlying45 rfl (gY rfl (ne' rfl rfl rfl (gY rfl (mv rfl rfl ?_)))))))
         refine gs 47 rfl (fun g5 => ?_) (fun g5 => ?_)
         · refine gY rfl (fad rfl fa49_2 rfl (gY rfl (s_fad2 rfl fa47_0 rfl (gY rfl (s_loadB rfl hb1 rfl na45 rfl (gY rfl (lnS rfl Tryd.underlying45 rfl (gY rfl (mv rfl rfl (gY rfl (ne' rfl rfl rfl ?_)))))))))))
           exact gY rfl (pkt rfl rfl rfl rfl (pkf rfl rfl rfl rfl (rbe rfl (by first | exact bt (by omega) | exact bf (by omega) | exact bi (by omega) | exact bn (by omega) | (simp_all; done) | (simp_all; omega)) (.cons rfl (.cons rfl .nil)))))
         · exact gN rfl rfl rfl (gN rfl rfl rfl (gN rfl rfl rfl (gN rfl rfl rfl (gN rfl rfl rfl (gN rfl rfl rfl (gY rfl (pkf rfl rfl rfl rfl (pkf rfl rfl rfl rfl (rbe rfl (by first | exact bt (by omega) | exact bf (by omega) | exact bi (by omega) | exact bn (by omega) | (simp_all; done) | (simp_all; omega)) (.cons rfl (.cons rfl .nil)))))))))))
     · refine tn ?_
       refine cd rfl (fun c1 => ?_) (fun c1 => ?_)
       · refine sr (asg rfl rfl (nn (rt (tr (r1 Tryd.results22 rfl ?_)))))
         exact ⟨_, rfl, by rw [mot5 (l := l) (t := t) (r := r) hN (by unfold Edg; omega)], (q1.next q5)⟩
       · have hne : ¬ Edg m := fun e => c1 (by unfold Edg at e; omega)
         refine sk (tn (sq (sr (mv rfl rfl (eq' rfl rfl rfl (nn ?_))))))
         refine cd rfl (fun c2 => ?_) (fun c2 => ?_)
         · refine sr (asg rfl rfl (nn (rt (tr (r1 Tryd.results22 rfl ?_)))))
           exact ⟨_, rfl, by rw [mot1 (l := l) (t := t) (r := r) hN hne (.inl (by omega))], (q1.next q5)⟩
         · refine sk (tn (sr (fad rfl fa49_0 rfl (s_loadBP (vs := [_]) rfl hb1 ag47 rfl rfl (fad rfl fa49_1 rfl (s_loadBP (vs := [_]) rfl hb1 ag47 rfl rfl (fad rfl fa49_2 rfl (s_loadBP (vs := [_]) rfl hb1 ag47 rfl rfl (s_lit (cs := [_, _, _]) (ev3 rfl rfl rfl) bo60 (pok_cons rfl rfl rfl (pok_cons rfl rfl rfl (pok_cons rfl rfl rfl pok_nil))) rfl rfl ?_)))))))))
           refine al zv60 rfl rfl (fun g4 w6 hg4 hb4 q6 z6 => ?_)
           refine s_storeBA rfl rfl hb4 rfl (by first | (simp [Value.oneCell', S]; done) | exact Enc.one _ _) sz60 (fun w7 hb4 q7 z7 => ?_)
           refine kpL [(4, _)] (.cons rfl .nil) (nn (sq (sr (asg rfl rfl (nn (bl ?_))))))
           refine lpK (ι := Nat) [(4, _)] (fun k => [(5, .int .i64 (k : Int))]) (fun k w' => Fr [] w7 w' ∧ k ≤ 3 ∧ ∀ k', k' < k → ∀ row ∈ ((bl3 m l t r).getD k' cq0).2, RowOk15 k' row) (fun k => 3 - k) 0 (.cons rfl (.cons rfl .nil)) ⟨Fr.refl _ _, ⟨Nat.zero_le _, fun j hj => absurd hj (Nat.not_lt_zero j)⟩⟩ ?_
           rintro k w8 ⟨q8, ⟨hk, hall⟩⟩
           have z8 := q8.size
           refine kpC [(4, _), (5, _)] (.cons rfl (.cons rfl .nil)) ?_
           refine sq (sr (mv rfl rfl (lt' rfl rfl rfl (nn ?_))))
           refine cd rfl (fun c3 => ?_) (fun c3 => ?_)
           · replace hm := hm0.ext ((((q1.next q5).next q6).step q7 (by first | (simp; done) | (simp; omega))).next q8)
             obtain ⟨hqS, hqL⟩ := hm.chs3.at (i := k) (show k < 3 by omega)
             obtain ⟨rs, hrs, hqr, hrm⟩ := Sll.opn hqS
             have hrl := sl_len hrs
             have hrM := hrs.len_le
             unfold maxLen at hrM
             have hrs0 := hrs
             have hqr0 := hqr
             refine sk (tn (sq (bl (sr (asg rfl rfl (nn (bl ?_)))))))
             refine lpK (ι := Nat) [(4, _), (5, _)] (fun j => [(6, .int .i64 (j : Int))]) (fun j w' => Fr [] w8 w' ∧ j ≤ rs.length ∧ ∀ a, a < j → RowOk15 k (rs.getD a rq0).2) (fun j => rs.length - j) 0 (.cons rfl (.cons rfl (.cons rfl .nil))) ⟨Fr.refl _ _, ⟨Nat.zero_le _, fun j hj => absurd hj (Nat.not_lt_zero j)⟩⟩ ?_
             rintro j w9 ⟨q9, ⟨hj, hrow⟩⟩
             have z9 := q9.size
             refine kpC [(4, _), (5, _), (6, _)] (.cons rfl (.cons rfl (.cons rfl .nil))) ?_
             refine sq (sr (mv rfl rfl (mv rfl rfl (s_idxA rfl rfl Tryd.underlying60 sz47 (by omega) (by omega) rfl (s_fad2 rfl fa47_0 rfl ?_)))))
             replace hb4 := hb4.ext (q8.next q9)
             refine s_loadB rfl hb4 (bl3_get m l t r (by omega)) na45 rfl (lnS rfl Tryd.underlying45 rfl (lt' rfl rfl rfl (kpL [(4, _), (5, _), (6, _), (75, _)] (.cons rfl (.cons rfl (.cons rfl (.cons rfl .nil)))) (nn ?_))))
             refine cd rfl (fun c4 => ?_) (fun c4 => ?_)
             · replace hqr := hqr0.ext q9
               replace hm := hm0.ext (((((q1.next q5).next q6).step q7 (by first | (simp; done) | (simp; omega))).next q8).next q9)
               have hjl := sl_len (hqr (rs.getD j rq0) (getD_memS (by omega)))
               have hjM := (hqr (rs.getD j rq0) (getD_memS (by omega))).len_le
               unfold maxLen at hjM
               have hrg := hm.rng3 (l := l) (t := t) (r := r) (k := k) (by omega) (rs.getD j rq0).2 (by rw [← hrm]; exact mem_snd (d := rq0) (by omega))
               refine sk (tn (sq (bl (sq (sq ?_)))))
               refine rbo (r := 90) (L' := [(4, _), (5, _), (6, _)]) ((((k : Int) = 1) ∧ (((rs.getD j rq0).1.2.1 : Int) = 0))) (.cons rfl (.cons rfl (.cons rfl .nil))) ?_ ?_
               · refine mv rfl rfl (eq' rfl rfl rfl (mv rfl rfl ?_))
                 refine gs 80 rfl (fun g6 => ?_) (fun g6 => ?_)
                 · refine gY rfl (mv rfl rfl (gY rfl (s_idxA rfl rfl Tryd.underlying60 sz47 (by omega) (by omega) rfl (gY rfl (s_fad2 rfl fa47_0 rfl (gY rfl (s_loadB rfl hb4 (bl3_get m l t r (by omega)) na45 rfl (gY rfl (mv rfl rfl (gY rfl ?_))))))))))
                   replace hrs := hrs0.ext q9
                   refine s_idxL (rq0) rfl hrs rfl er45 (by omega) (by omega) nat_of rfl (fun ad86 hc86 => ?_)
                   exact gY rfl (s_loadC0 rfl (hc86 _ hrs) na61 rfl (gY rfl (lnS rfl Tryd.underlying61 rfl (gY rfl (eq' rfl rfl rfl (pkt rfl rfl rfl rfl (rbe rfl (by first | exact bt (by omega) | exact bf (by omega) | exact bi (by omega) | exact bn (by omega) | (simp_all; done) | (simp_all; omega)) (.cons rfl (.cons rfl (.cons rfl .nil))))))))))
                 · exact gN rfl rfl rfl (gN rfl rfl rfl (gN rfl rfl rfl (gN rfl rfl rfl (gN rfl rfl rfl (gN rfl rfl rfl (gN rfl rfl rfl (gN rfl rfl rfl (gN rfl rfl rfl (pkf rfl rfl rfl rfl (rbe rfl (by first | exact bt (by omega) | exact bf (by omega) | exact bi (by omega) | exact bn (by omega) | (simp_all; done) | (simp_all; omega)) (.cons rfl (.cons rfl (.cons rfl .nil)))))))))))))
               · refine tn ?_
                 refine cd rfl (fun c5 => ?_) (fun c5 => ?_)
                 · refine sr (asg rfl rfl (nn (rt (tr (rb (tr (tr (rb (rb (tr (tr ?_)))))))))))
                   refine rb (tr (r1 Tryd.results22 rfl ?_))
                   exact ⟨_, rfl, by rw [rows_bad hN hne (k := k) (by omega) (row := (rs.getD j rq0).2) (by rw [← hrm]; exact mem_snd (d := rq0) (by omega)) (.inl (by omega))], (((((q1.next q5).next q6).step q7 (by first | (simp; done) | (simp; omega))).next q8).next q9)⟩
                 · refine sk (tn (sr (asg rfl rfl (nn (bl ?_)))))
                   refine lpK (ι := Nat) [(4, _), (5, _), (6, _)] (fun n => [(7, .int .i64 (n : Int))]) (fun n w' => Fr [] w9 w' ∧ n ≤ (rs.getD j rq0).2.length ∧ ∀ a, a < n → okB ((rs.getD j rq0).2.getD a zeroS) = true) (fun n => (rs.getD j rq0).2.length - n) 0 (.cons rfl (.cons rfl (.cons rfl (.cons rfl .nil)))) ⟨Fr.refl _ _, ⟨Nat.zero_le _, fun j hj => absurd hj (Nat.not_lt_zero j)⟩⟩ ?_
                   rintro n w10 ⟨q10, ⟨hn, hst⟩⟩
                   have z10 := q10.size
                   refine kpC [(4, _), (5, _), (6, _), (7, _)] (.cons rfl (.cons rfl (.cons rfl (.cons rfl .nil)))) ?_
                   refine sq (sr (mv rfl rfl (mv rfl rfl (s_idxA rfl rfl Tryd.underlying60 sz47 (by omega) (by omega) rfl (s_fad2 rfl fa47_0 rfl ?_)))))
                   replace hb4 := hb4.ext q10
                   refine s_loadB rfl hb4 (bl3_get m l t r (by omega)) na45 rfl (mv rfl rfl ?_)
                   replace hrs := hrs0.ext (q9.next q10)
                   refine s_idxL (rq0) rfl hrs rfl er45 (by omega) (by omega) nat_of rfl (fun ad97 hc97 => ?_)
                   refine s_loadC0 rfl (hc97 _ hrs) na61 rfl (lnS rfl Tryd.underlying61 rfl (lt' rfl rfl rfl (kpL [(4, _), (5, _), (6, _), (7, _), (100, _)] (.cons rfl (.cons rfl (.cons rfl (.cons rfl (.cons rfl .nil))))) (nn ?_))))
                   refine cd rfl (fun c6 => ?_) (fun c6 => ?_)
                   · refine sk (tn (sq (bl (sr (mv rfl rfl (s_idxA rfl rfl Tryd.underlying60 sz47 (by omega) (by omega) rfl (s_fad2 rfl fa47_0 rfl (s_loadB rfl hb4 (bl3_get m l t r (by omega)) na45 rfl (mv rfl rfl (s_idxL (rq0) rfl hrs rfl er45 (by omega) (by omega) nat_of rfl (fun ad108 hc108 => ?_)))))))))))
                     refine s_loadC0 rfl (hc108 _ hrs) na61 rfl (mv rfl rfl ?_)
                     replace hqr := hqr0.ext (q9.next q10)
                     refine s_idxL (zeroS) rfl (hqr (rs.getD j rq0) (getD_memS (by omega))) rfl el61 (by omega) (by omega) nat_of rfl (fun ad111 hc111 => ?_)
                     refine s_loadA rfl (hc111 _ (hqr (rs.getD j rq0) (getD_memS (by omega)))) ag100 rfl ?_
                     refine cl (ev1 rfl) co42 (valid_ok ((rs.getD j rq0).2.getD n zeroS) _ (hrg _ (getD_memS (by omega))).1 (hrg _ (getD_memS (by omega))).2) rfl ?_
                     rintro _ w11 ⟨rfl, q11⟩
                     have z11 := q11.size
                     refine eq' rfl rfl rfl (kpL [(4, _), (5, _), (6, _), (7, _), (114, _)] (.cons rfl (.cons rfl (.cons rfl (.cons rfl (.cons rfl .nil))))) (nn ?_))
                     refine cd rfl (fun c7 => ?_) (fun c7 => ?_)
                     · refine sr (asg rfl rfl (nn (rt (rb (tr (tr (rb (rb (tr (tr (rb ?_)))))))))))
                       refine rb (tr (tr (rb (tr (r1 Tryd.results22 rfl ?_)))))
                       exact ⟨_, rfl, by rw [rows_bad hN hne (k := k) (by omega) (row := (rs.getD j rq0).2) (by rw [← hrm]; exact mem_snd (d := rq0) (by omega)) (.inr ⟨_, getD_memS (d := zeroS) (show n < (rs.getD j rq0).2.length by omega), fun e => by rw [if_pos e] at c7; cases c7⟩)], (((((((q1.next q5).next q6).step q7 (by first | (simp; done) | (simp; omega))).next q8).next q9).next q10).next q11)⟩
                     · refine sk (bn' (tn (rg (mv rfl rfl (s_add rfl rfl (wi6 (by omega)) rfl (asg rfl rfl (nl ?_)))))))
                       exact lpE (n + 1) (.cons rfl (.cons rfl (.cons rfl (.cons rfl .nil)))) ⟨(q10.next q11), ⟨by omega, all_step hst ((okB_iff _).2 (Classical.not_not.1 fun e => by rw [if_neg e] at c7; exact c7 rfl))⟩⟩ (by omega)
                   · obtain rfl : n = (rs.getD j rq0).2.length := by omega
                     refine ex (te (te (xh (bn' (tn (rg (mv rfl rfl (s_add rfl rfl (wi6 (by omega)) rfl (asg rfl rfl (nl ?_))))))))))
                     exact lpE (j + 1) (.cons rfl (.cons rfl (.cons rfl .nil))) ⟨(q9.next q10), ⟨by omega, all_step hrow ⟨by omega, List.all_eq_true.2 (all_lt (d := zeroS) hst)⟩⟩⟩ (by omega)
             · obtain rfl : j = rs.length := by omega
               refine ex (te (te (xh (bn' (tn (rg (mv rfl rfl (s_add rfl rfl (wi6 (by omega)) rfl (asg rfl rfl (nl ?_))))))))))
               exact lpE (k + 1) (.cons rfl (.cons rfl .nil)) ⟨(q8.next q9), ⟨by omega, all_step hall (by rw [← hrm]; exact all_snd (d := rq0) hrow)⟩⟩ (by omega)
           · obtain rfl : k = 3 := by omega
             refine ex (te (te (xh (tn (sr (asg rfl rfl (nn (rt (r1 Tryd.results22 rfl ?_)))))))))
             exact ⟨_, rfl, by rw [rows_ok hN hne (fun h => c2 (by omega)) hall], ((((q1.next q5).next q6).step q7 (by first | (simp; done) | (simp; omega))).next q8)⟩
end Go.Proofs.YthehggmdcmpjeaaDoor
