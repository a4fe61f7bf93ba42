/- Texts of the proof, joined: W9 W10 W11 W12 XCard CBase XGram XBest XOrd XMin XLaws FactsC W13 XRefS XRefT XLoads XRowOf XMake -/
import Derived.Test.YtbbnampdgefljaaDoorRows
import Derived.ProofKit
import Derived.OpenShut
import Derived.Carry
import Derived.ChangeOld
import Derived.Deep.DeepHandedRow
import Derived.Lib.LaidTab
import Derived.Test.YtbbnampdgefljaaDoorCards
import Derived.Test.YtbbnampdgefljaaDoorTie
import Derived.ChangeMaps5
import Derived.Test.YtbbnampdgefljaaDoorK2
set_option linter.unusedVariables false
set_option linter.unusedSimpArgs false
namespace Go.Proofs.YtbbnampdgefljaaDoor
open Go.Lw Go.G14
theorem shorten_ok (u : Value) (xs : List Stitch) (w0 : World) (hu : Sl encSt w0 u xs) (hy : Sym w0) : Rets Tryd.prog 14 #[u] w0 fun v w' => v = .tuple #[S (shortenS xs).1, .int .i64 (shortenS xs).2] ∧ Fr [] w0 w' := by
 have h00 := hy.pos
 obtain ⟨A, c, rfl, hc⟩ := hu.form
 have hs := hu
 obtain ⟨-, -, hM, hA⟩ := Sl.open_ hu
 unfold maxLen at hM
 refine enter [(0, .slice A xs.length c)] Tryd.func14 rfl Tryd.ntmps14 rfl (.cons rfl .nil) ?_
 have hf := Fr.refl [] w0
 intro a h
 refine wp_seq ?_
 refine wR ?_
 refine st_assign h rfl rfl ?_; clear h a; intro a h
 refine st_assign h rfl rfl ?_; clear h a; intro a h
 replace h : Ag a 24 [(0, _)] := h.sub (.cons rfl .nil)
 refine wnt ?_
 refine wp_seq ?_
 refine wp_seq ?_
 refine wR ?_
 refine st_move h rfl rfl ?_; clear h a; intro a h
 refine st_lenS h rfl Tryd.underlying22 rfl ?_; clear h a; intro a h
 refine st_gt h rfl rfl rfl ?_; clear h a; intro a h
 replace h : Ag a 24 [(0, _), (8, _)] := h.sub (.cons rfl (.cons rfl .nil))
 refine wnt ?_
 first | refine cond_dec h rfl (fun c0 => ?_) (fun c0 => ?_) | refine cond_ndec h rfl (fun c0 => ?_) (fun c0 => ?_) | refine cond_split h rfl (fun c0 => ?_) (fun c0 => ?_)
 ·refine id ?_
  refine wp_seq ?_
  refine wR ?_
  refine st_assign h rfl rfl ?_; clear h a; intro a h
  refine st_assign h rfl rfl ?_; clear h a; intro a h
  replace h : Ag a 24 [(2, _), (3, _)] := h.sub (.cons rfl (.cons rfl .nil))
  refine wnt ?_
  refine wp_ret (ret_then ?_)
  refine ret2 h Tryd.results14 rfl rfl ?_
  exact ⟨_, rfl, by rw [shortenS, if_pos (by omega)]; rfl, hf⟩
 ·refine id ?_
  refine wsn ?_
  refine wp_seq ?_
  refine wp_seq ?_
  refine wR ?_
  refine st_move h rfl rfl ?_; clear h a; intro a h
  refine st_lenS h rfl Tryd.underlying22 rfl ?_; clear h a; intro a h
  refine st_eq h rfl rfl rfl ?_; clear h a; intro a h
  replace h : Ag a 24 [(0, _), (11, _)] := h.sub (.cons rfl (.cons rfl .nil))
  refine wnt ?_
  first | refine cond_dec h rfl (fun c1 => ?_) (fun c1 => ?_) | refine cond_ndec h rfl (fun c1 => ?_) (fun c1 => ?_) | refine cond_split h rfl (fun c1 => ?_) (fun c1 => ?_)
  ·refine id ?_
   refine wp_seq ?_
   refine wR ?_
   refine st_assign h rfl rfl ?_; clear h a; intro a h
   refine st_assign h rfl rfl ?_; clear h a; intro a h
   replace h : Ag a 24 [(2, _), (3, _)] := h.sub (.cons rfl (.cons rfl .nil))
   refine wnt ?_
   refine wp_ret (ret_then ?_)
   refine ret2 h Tryd.results14 rfl rfl ?_
   exact ⟨_, rfl, by rw [shortenS, if_neg (by omega), if_pos (by omega)]; rfl, hf⟩
  ·refine id ?_
   refine wsn ?_
   refine wp_seq ?_
   refine wp_seq ?_
   refine wR ?_
   refine st_move h rfl rfl ?_; clear h a; intro a h
   refine st_lenS h rfl Tryd.underlying22 rfl ?_; clear h a; intro a h
   refine st_move h rfl rfl ?_; clear h a; intro a h
   replace h : Ag a 24 [(0, _), (12, _), (13, _), (14, _)] := h.sub (.cons rfl (.cons rfl (.cons rfl (.cons rfl .nil))))
   refine wnt ?_
   refine wp_block ?_
   refine loop (ι := Nat) (fun k => [(0, .slice A xs.length c), (12, .slice A xs.length c), (13, .int .i64 (xs.length : Int)), (14, .int .i64 (k : Int))]) (fun k w' => k ≤ xs.length ∧ (xs.take k).all okB = true ∧ Sl encSt w' (.slice A xs.length c) xs ∧ Sym w' ∧ Fr [] w0 w') (fun k => xs.length - k) 0 (h.sub (.cons rfl (.cons rfl (.cons rfl (.cons rfl .nil))))) ⟨by omega, rfl, hs, hy, hf⟩ ?_
   clear h a hs hy hf
   rintro k w1 a h ⟨hk, ha, hs, hy, hf⟩
   refine wp_seq ?_
   refine wR ?_
   refine st_lt h rfl rfl rfl ?_; clear h a; intro a h
   refine wnt ?_
   refine wp_seq ?_
   first | refine cond_dec h rfl (fun c2 => ?_) (fun c2 => ?_) | refine cond_ndec h rfl (fun c2 => ?_) (fun c2 => ?_) | refine cond_split h rfl (fun c2 => ?_) (fun c2 => ?_)
   ·have hrb := hu.blk (by intro e; subst e; simp at c1)
    obtain ⟨x, hxk⟩ : ∃ x, xs[k]? = some x := ⟨_, List.getElem?_eq_getElem (by omega)⟩
    obtain ⟨ad, hAd, ca⟩ := hA k x hxk
    refine wsn ?_
    refine wp_seq ?_
    refine wp_block ?_
    refine wp_seq ?_
    refine wR ?_
    refine st_idxS h (by rw [hAd]; rfl) rfl el22 (by omega) (by omega) rfl rfl ?_; clear h a; intro a h
    refine st_loadA h rfl (ca.fr hf (by simp)) ag36 rfl ?_; clear h a; intro a h
    refine st_alloc h zv36 rfl rfl ?_; clear h a; intro w2 hb5 hq hz a h
    obtain ⟨g_5, hg⟩ : ∃ g, g = w1.heap.size := ⟨_, rfl⟩; rw [← hg] at hb5 h hz
    have hl5 : w0.heap.size ≤ g_5 := by have := hf.size; omega
    replace hf := hf.next hq
    replace hs := hs.ext hq
    replace hy := hy.ext hq
    clear hq hz hg
    refine st_storeBA h rfl rfl hb5 rfl (by first | (simp [Value.oneCell', S]; done) | exact Enc.one _ _) sz36 ?_; clear h a; intro w3 hbn hq hz a h
    replace hf := hf.step hq (by first | (simp; done) | (simp; omega))
    replace hs := hs.fr hq (by intro k hk hb; have := hrb k hb; simp at hk; omega)
    replace hy := hy.fr hq (by first | (simp; done) | (simp; omega) | (simp [blks]; done) | (simp [blks]; omega))
    clear hb5 hq hz; have hb5 : Blk w3 g_5 _ [_, _, _, _, _] := hbn; clear hbn
    replace h : Ag a 24 [(0, _), (5, _), (12, _), (13, _), (14, _)] := h.sub (.cons rfl (.cons rfl (.cons rfl (.cons rfl (.cons rfl .nil)))))
    refine wnt ?_
    refine wp_seq ?_
    refine wR ?_
    refine st_loadBA h rfl hb5 ag36 rfl ?_; clear h a; intro a h
    refine st_call h (evs_cons rfl evs_nil) co30 (check_ok x _) rfl ?_; clear h a; rintro _ w4 ⟨rfl, hq⟩ a h
    replace hf := hf.next hq
    replace hs := hs.ext hq
    replace hy := hy.ext hq
    replace hb5 := hb5.ext hq
    clear hq
    refine st_ne h rfl rfl rfl ?_; clear h a; intro a h
    replace h : Ag a 24 [(0, _), (12, _), (13, _), (14, _), (20, _)] := h.sub (.cons rfl (.cons rfl (.cons rfl (.cons rfl (.cons rfl .nil)))))
    refine wnt ?_
    first | refine cond_dec h rfl (fun c3 => ?_) (fun c3 => ?_) | refine cond_ndec h rfl (fun c3 => ?_) (fun c3 => ?_) | refine cond_split h rfl (fun c3 => ?_) (fun c3 => ?_)
    ·refine id ?_
     refine wp_seq ?_
     refine wR ?_
     refine st_assign h rfl rfl ?_; clear h a; intro a h
     refine st_assign h rfl rfl ?_; clear h a; intro a h
     replace h : Ag a 24 [(2, _), (3, _)] := h.sub (.cons rfl (.cons rfl .nil))
     refine wnt ?_
     refine wp_ret (ret_blk (ret_then (ret_then (ret_blk (ret_then ?_)))))
     refine ret2 h Tryd.results14 rfl rfl ?_
     exact ⟨_, rfl, by rw [shortenS, if_neg (by omega), if_neg (by omega), if_neg (fun e => c3 ((okB_iff _).1 (List.all_eq_true.1 e x (List.mem_of_getElem? hxk))))]; rfl, hf⟩
    ·refine id ?_
     refine wp_skip (norm_blk (norm_then ?_))
     refine wR ?_
     refine st_add h rfl rfl (by first | exact IntWalk.i64_in _ (by omega) | rfl) rfl ?_; clear h a; intro a h
     refine st_move h rfl rfl ?_; clear h a; intro a h
     replace h : Ag a 24 [(0, _), (12, _), (13, _), (14, _)] := h.sub (.cons rfl (.cons rfl (.cons rfl (.cons rfl .nil))))
     refine wnt ?_
     exact ⟨k + 1, h.sub (.cons rfl (.cons rfl (.cons rfl (.cons rfl .nil)))), ⟨by omega, by rw [List.take_add_one, hxk]; exact all_snocS _ _ ha ((okB_iff _).2 (by omega)), hs, hy, hf⟩, by omega⟩
   ·obtain rfl : k = xs.length := by omega
    rw [List.take_length] at ha
    refine wp_exit (exit_then (exit_then (exit_here (norm_then ?_))))
    refine wp_seq ?_
    refine wR ?_
    refine st_move h rfl rfl ?_; clear h a; intro a h
    refine st_call h (evs_cons rfl evs_nil) co31 (shortest_ok _ xs _ hs (by omega) (by omega) hy) rfl ?_; clear h a; rintro _ w5 ⟨rfl, hq⟩ a h
    replace hf := hf.next hq
    replace hs := hs.ext hq
    replace hy := hy.ext hq
    clear hq
    refine st_assign h rfl rfl ?_; clear h a; intro a h
    refine st_assign h rfl rfl ?_; clear h a; intro a h
    replace h : Ag a 24 [(2, _), (3, _)] := h.sub (.cons rfl (.cons rfl .nil))
    refine wnt ?_
    refine wp_ret ?_
    refine ret2 h Tryd.results14 rfl rfl ?_
    exact ⟨_, rfl, by rw [shortenS, if_neg (by omega), if_neg (by omega), if_pos ha], hf⟩
theorem valid_ok (s : Stitch) (w0 : World) (hk : 0 ≤ s.k) (hy : 0 ≤ s.y) : Rets Tryd.prog 15 #[stV s] w0 fun v w' => v = .int .i64 (if checkS s = 0 then 1 else 0) ∧ Fr [] w0 w' := by
 refine enter [(0, stV s)] Tryd.func15 rfl Tryd.ntmps15 rfl (.cons rfl .nil) ?_
 have hf := Fr.refl [] w0
 intro a h
 refine wp_seq ?_
 refine wR ?_
 refine st_box h rfl rfl rfl ?_; clear h a; intro w1 hb1 hq hz a h
 obtain ⟨g_1, hg⟩ : ∃ g, g = w0.heap.size := ⟨_, rfl⟩; rw [← hg] at hb1 h hz
 have hl1 : w0.heap.size ≤ g_1 := by have := hf.size; omega
 replace hf := hf.next hq
 clear hq hz hg
 refine st_assign h rfl rfl ?_; clear h a; intro a h
 replace h : Ag a 58 [(1, _)] := h.sub (.cons rfl .nil)
 refine wnt ?_
 refine wp_seq ?_
 refine wp_seq ?_
 refine region_bool (r := 22) (L' := [(1, _)]) (s.y = 0 ∨ 6 < s.y ∨ s.k = 0 ∨ 8 < s.k) h (.cons rfl .nil) ?_ ?_
 ·refine id ?_
  refine st_fieldAddr h rfl fa36_1 rfl ?_; clear h a; intro a h
  refine st_loadB h rfl hb1 rfl na5 rfl ?_; clear h a; intro a h
  refine st_eq h rfl rfl rfl ?_; clear h a; intro a h
  refine st_move h rfl rfl ?_; clear h a; intro a h
  first | refine guard_dec (D := 8) h rfl ?_ ?_ | refine guard_ndec (D := 8) h rfl ?_ ?_ | refine guard_any (D := 8) h rfl ?_ ?_
  ·clear h; intro g0 h
   refine gd_no h rfl rfl rfl rfl rfl rfl rfl rfl ?_; clear h a; intro a h
   refine gd_no h rfl rfl rfl rfl rfl rfl rfl rfl ?_; clear h a; intro a h
   refine gd_no h rfl rfl rfl rfl rfl rfl rfl rfl ?_; clear h a; intro a h
   refine st_pick_t h rfl rfl rfl rfl ?_; clear h a; intro a h
   refine st_move h rfl rfl ?_; clear h a; intro a h
   refine gd_no h rfl rfl rfl rfl rfl rfl rfl rfl ?_; clear h a; intro a h
   refine gd_no h rfl rfl rfl rfl rfl rfl rfl rfl ?_; clear h a; intro a h
   refine gd_no h rfl rfl rfl rfl rfl rfl rfl rfl ?_; clear h a; intro a h
   refine st_pick_t h rfl rfl rfl rfl ?_; clear h a; intro a h
   refine st_move h rfl rfl ?_; clear h a; intro a h
   refine gd_no h rfl rfl rfl rfl rfl rfl rfl rfl ?_; clear h a; intro a h
   refine gd_no h rfl rfl rfl rfl rfl rfl rfl rfl ?_; clear h a; intro a h
   refine gd_no h rfl rfl rfl rfl rfl rfl rfl rfl ?_; clear h a; intro a h
   refine st_pick_t h rfl rfl rfl rfl ?_; clear h a; intro a h
   exact wpList_nil (bool_end h rfl (by first | exact bt (by omega) | exact bf (by omega) | exact bi (by omega) | exact bn (by omega)) (.cons rfl .nil))
  ·clear h; intro g0 h
   refine gd_yes h rfl rfl rfl rfl rfl rfl ?_
   refine st_fieldAddr h rfl fa36_1 rfl ?_; clear h a; intro a h
   refine gd_yes h rfl rfl rfl rfl rfl rfl ?_
   refine st_loadB h rfl hb1 rfl na5 rfl ?_; clear h a; intro a h
   refine gd_yes h rfl rfl rfl rfl rfl rfl ?_
   refine st_gt h rfl rfl rfl ?_; clear h a; intro a h
   refine st_pick_f h rfl rfl rfl rfl ?_; clear h a; intro a h
   refine st_move h rfl rfl ?_; clear h a; intro a h
   first | refine guard_dec (D := 13) h rfl ?_ ?_ | refine guard_ndec (D := 13) h rfl ?_ ?_ | refine guard_any (D := 13) h rfl ?_ ?_
   ·clear h; intro g1 h
    refine gd_no h rfl rfl rfl rfl rfl rfl rfl rfl ?_; clear h a; intro a h
    refine gd_no h rfl rfl rfl rfl rfl rfl rfl rfl ?_; clear h a; intro a h
    refine gd_no h rfl rfl rfl rfl rfl rfl rfl rfl ?_; clear h a; intro a h
    refine st_pick_t h rfl rfl rfl rfl ?_; clear h a; intro a h
    refine st_move h rfl rfl ?_; clear h a; intro a h
    refine gd_no h rfl rfl rfl rfl rfl rfl rfl rfl ?_; clear h a; intro a h
    refine gd_no h rfl rfl rfl rfl rfl rfl rfl rfl ?_; clear h a; intro a h
    refine gd_no h rfl rfl rfl rfl rfl rfl rfl rfl ?_; clear h a; intro a h
    refine st_pick_t h rfl rfl rfl rfl ?_; clear h a; intro a h
    exact wpList_nil (bool_end h rfl (by first | exact bt (by omega) | exact bf (by omega) | exact bi (by omega) | exact bn (by omega)) (.cons rfl .nil))
   ·clear h; intro g1 h
    refine gd_yes h rfl rfl rfl rfl rfl rfl ?_
    refine st_fieldAddr h rfl fa36_0 rfl ?_; clear h a; intro a h
    refine gd_yes h rfl rfl rfl rfl rfl rfl ?_
    refine st_loadB h rfl hb1 rfl na34 rfl ?_; clear h a; intro a h
    refine gd_yes h rfl rfl rfl rfl rfl rfl ?_
    refine st_eq h rfl rfl rfl ?_; clear h a; intro a h
    refine st_pick_f h rfl rfl rfl rfl ?_; clear h a; intro a h
    refine st_move h rfl rfl ?_; clear h a; intro a h
    first | refine guard_dec (D := 18) h rfl ?_ ?_ | refine guard_ndec (D := 18) h rfl ?_ ?_ | refine guard_any (D := 18) h rfl ?_ ?_
    ·clear h; intro g2 h
     refine gd_no h rfl rfl rfl rfl rfl rfl rfl rfl ?_; clear h a; intro a h
     refine gd_no h rfl rfl rfl rfl rfl rfl rfl rfl ?_; clear h a; intro a h
     refine gd_no h rfl rfl rfl rfl rfl rfl rfl rfl ?_; clear h a; intro a h
     refine st_pick_t h rfl rfl rfl rfl ?_; clear h a; intro a h
     exact wpList_nil (bool_end h rfl (by first | exact bt (by omega) | exact bf (by omega) | exact bi (by omega) | exact bn (by omega)) (.cons rfl .nil))
    ·clear h; intro g2 h
     refine gd_yes h rfl rfl rfl rfl rfl rfl ?_
     refine st_fieldAddr h rfl fa36_0 rfl ?_; clear h a; intro a h
     refine gd_yes h rfl rfl rfl rfl rfl rfl ?_
     refine st_loadB h rfl hb1 rfl na34 rfl ?_; clear h a; intro a h
     refine gd_yes h rfl rfl rfl rfl rfl rfl ?_
     refine st_gt h rfl rfl rfl ?_; clear h a; intro a h
     refine st_pick_f h rfl rfl rfl rfl ?_; clear h a; intro a h
     exact wpList_nil (bool_end h rfl (by first | exact bt (by omega) | exact bf (by omega) | exact bi (by omega) | exact bn (by omega)) (.cons rfl .nil))
 ·clear h a; intro a h
  refine (norm_then ?_)
  first | refine cond_dec h rfl (fun c0 => ?_) (fun c0 => ?_) | refine cond_ndec h rfl (fun c0 => ?_) (fun c0 => ?_) | refine cond_split h rfl (fun c0 => ?_) (fun c0 => ?_)
  ·refine id ?_
   refine wp_seq ?_
   refine wR ?_
   refine st_assign h rfl rfl ?_; clear h a; intro a h
   replace h : Ag a 58 [(2, _)] := h.sub (.cons rfl .nil)
   refine wnt ?_
   refine wp_ret (ret_then ?_)
   refine ret1 h Tryd.results15 rfl ?_
   exact ⟨_, rfl, by rw [if_neg (fun e => by have := check_rng e; omega)], hf⟩
  ·refine id ?_
   refine wsn ?_
   refine wp_seq ?_
   refine wp_seq ?_
   refine wR ?_
   refine st_fieldAddr h rfl fa36_0 rfl ?_; clear h a; intro a h
   refine st_loadB h rfl hb1 rfl na34 rfl ?_; clear h a; intro a h
   refine st_eq h rfl rfl rfl ?_; clear h a; intro a h
   replace h : Ag a 58 [(1, _), (25, _)] := h.sub (.cons rfl (.cons rfl .nil))
   refine wnt ?_
   first | refine cond_dec h rfl (fun c1 => ?_) (fun c1 => ?_) | refine cond_ndec h rfl (fun c1 => ?_) (fun c1 => ?_) | refine cond_split h rfl (fun c1 => ?_) (fun c1 => ?_)
   ·refine id ?_
    refine wp_seq ?_
    refine wp_seq ?_
    refine wR ?_
    refine st_assign h rfl rfl ?_; clear h a; intro a h
    replace h : Ag a 58 [(1, _), (3, _)] := h.sub (.cons rfl (.cons rfl .nil))
    refine wnt ?_
    refine wp_block ?_
    refine loop (ι := Nat) (fun i => [(1, .pointer (some ⟨g_1, 0, none⟩)), (3, .int .i64 (i : Int))]) (fun i w' => 1 ≤ i ∧ i ≤ 4 ∧ ¬ (1 ≤ s.a ∧ s.a < i ∧ 1 ≤ s.b ∧ s.a + s.b ≤ 4) ∧ Blk w' g_1 36 [.int .u8 s.k, .int .u8 s.y, .int .i64 s.a, .int .i64 s.b, .bool s.f] ∧ Fr [] w0 w') (fun i => 4 - i) 1 (h.sub (.cons rfl (.cons rfl .nil))) ⟨by omega, by omega, by omega, hb1, hf⟩ ?_
    clear h a hb1 hf
    rintro i w2 a h ⟨hi1, hi4, hno, hb1, hf⟩
    refine wp_seq ?_
    refine wp_seq ?_
    refine wR ?_
    refine st_move h rfl rfl ?_; clear h a; intro a h
    refine st_lt h rfl rfl rfl ?_; clear h a; intro a h
    replace h : Ag a 58 [(1, _), (3, _), (27, _)] := h.sub (.cons rfl (.cons rfl (.cons rfl .nil)))
    refine wnt ?_
    first | refine cond_dec h rfl (fun c2 => ?_) (fun c2 => ?_) | refine cond_ndec h rfl (fun c2 => ?_) (fun c2 => ?_) | refine cond_split h rfl (fun c2 => ?_) (fun c2 => ?_)
    ·refine id ?_
     refine wsn ?_
     refine wp_seq ?_
     refine wp_block ?_
     refine wp_seq ?_
     refine wR ?_
     refine st_assign h rfl rfl ?_; clear h a; intro a h
     replace h : Ag a 58 [(1, _), (3, _), (4, _)] := h.sub (.cons rfl (.cons rfl (.cons rfl .nil)))
     refine wnt ?_
     refine wp_block ?_
     refine loop (ι := Nat) (fun j => [(1, .pointer (some ⟨g_1, 0, none⟩)), (3, .int .i64 (i : Int)), (4, .int .i64 (j : Int))]) (fun j w' => 1 ≤ j ∧ i + j ≤ 5 ∧ ¬ (s.a = i ∧ 1 ≤ s.b ∧ s.b < j) ∧ Blk w' g_1 36 [.int .u8 s.k, .int .u8 s.y, .int .i64 s.a, .int .i64 s.b, .bool s.f] ∧ Fr [] w0 w') (fun j => 5 - j) 1 (h.sub (.cons rfl (.cons rfl (.cons rfl .nil)))) ⟨by omega, by omega, by omega, hb1, hf⟩ ?_
     clear h a hb1 hf
     rintro j w3 a h ⟨hj1, hj4, hnj, hb1, hf⟩
     refine wp_seq ?_
     refine wp_seq ?_
     refine wR ?_
     refine st_move h rfl rfl ?_; clear h a; intro a h
     refine st_move h rfl rfl ?_; clear h a; intro a h
     refine st_add h rfl rfl (by first | exact IntWalk.i64_in _ (by omega) | rfl) rfl ?_; clear h a; intro a h
     refine st_le h rfl rfl rfl ?_; clear h a; intro a h
     replace h : Ag a 58 [(1, _), (3, _), (4, _), (33, _)] := h.sub (.cons rfl (.cons rfl (.cons rfl (.cons rfl .nil))))
     refine wnt ?_
     first | refine cond_dec h rfl (fun c3 => ?_) (fun c3 => ?_) | refine cond_ndec h rfl (fun c3 => ?_) (fun c3 => ?_) | refine cond_split h rfl (fun c3 => ?_) (fun c3 => ?_)
     ·refine id ?_
      refine wsn ?_
      refine wp_seq ?_
      refine wp_block ?_
      refine wp_seq ?_
      refine region_bool (r := 45) (L' := [(1, _), (3, _), (4, _)]) (s.a = i ∧ s.b = j) h (.cons rfl (.cons rfl (.cons rfl .nil))) ?_ ?_
      ·refine id ?_
       refine st_fieldAddr h rfl fa36_2 rfl ?_; clear h a; intro a h
       refine st_loadB h rfl hb1 rfl na3 rfl ?_; clear h a; intro a h
       refine st_move h rfl rfl ?_; clear h a; intro a h
       refine st_eq h rfl rfl rfl ?_; clear h a; intro a h
       refine st_move h rfl rfl ?_; clear h a; intro a h
       first | refine guard_dec (D := 40) h rfl ?_ ?_ | refine guard_ndec (D := 40) h rfl ?_ ?_ | refine guard_any (D := 40) h rfl ?_ ?_
       ·clear h; intro g3 h
        refine gd_yes h rfl rfl rfl rfl rfl rfl ?_
        refine st_fieldAddr h rfl fa36_3 rfl ?_; clear h a; intro a h
        refine gd_yes h rfl rfl rfl rfl rfl rfl ?_
        refine st_loadB h rfl hb1 rfl na3 rfl ?_; clear h a; intro a h
        refine gd_yes h rfl rfl rfl rfl rfl rfl ?_
        refine st_move h rfl rfl ?_; clear h a; intro a h
        refine gd_yes h rfl rfl rfl rfl rfl rfl ?_
        refine st_eq h rfl rfl rfl ?_; clear h a; intro a h
        refine st_pick_t h rfl rfl rfl rfl ?_; clear h a; intro a h
        exact wpList_nil (bool_end h rfl (by first | exact bt (by omega) | exact bf (by omega) | exact bi (by omega) | exact bn (by omega)) (.cons rfl (.cons rfl (.cons rfl .nil))))
       ·clear h; intro g3 h
        refine gd_no h rfl rfl rfl rfl rfl rfl rfl rfl ?_; clear h a; intro a h
        refine gd_no h rfl rfl rfl rfl rfl rfl rfl rfl ?_; clear h a; intro a h
        refine gd_no h rfl rfl rfl rfl rfl rfl rfl rfl ?_; clear h a; intro a h
        refine gd_no h rfl rfl rfl rfl rfl rfl rfl rfl ?_; clear h a; intro a h
        refine st_pick_f h rfl rfl rfl rfl ?_; clear h a; intro a h
        exact wpList_nil (bool_end h rfl (by first | exact bt (by omega) | exact bf (by omega) | exact bi (by omega) | exact bn (by omega)) (.cons rfl (.cons rfl (.cons rfl .nil))))
      ·clear h a; intro a h
       refine (norm_then ?_)
       first | refine cond_dec h rfl (fun c4 => ?_) (fun c4 => ?_) | refine cond_ndec h rfl (fun c4 => ?_) (fun c4 => ?_) | refine cond_split h rfl (fun c4 => ?_) (fun c4 => ?_)
       ·refine id ?_
        refine wp_seq ?_
        refine wR ?_
        refine st_assign h rfl rfl ?_; clear h a; intro a h
        replace h : Ag a 58 [(2, _)] := h.sub (.cons rfl .nil)
        refine wnt ?_
        refine wp_ret (ret_blk (ret_then (ret_then (ret_blk (ret_blk (ret_then (ret_then (ret_blk (ret_then (ret_then ?_))))))))))
        refine ret1 h Tryd.results15 rfl ?_
        exact ⟨_, rfl, by rw [if_pos (check_zero hk hy (by omega) (.inl (by omega)))], hf⟩
       ·refine id ?_
        refine wp_skip (norm_blk (norm_then ?_))
        refine wR ?_
        refine st_move h rfl rfl ?_; clear h a; intro a h
        refine st_add h rfl rfl (by first | exact IntWalk.i64_in _ (by omega) | rfl) rfl ?_; clear h a; intro a h
        refine st_assign h rfl rfl ?_; clear h a; intro a h
        replace h : Ag a 58 [(1, _), (3, _), (4, _)] := h.sub (.cons rfl (.cons rfl (.cons rfl .nil)))
        refine wnt ?_
        exact ⟨j + 1, h.sub (.cons rfl (.cons rfl (.cons rfl .nil))), ⟨by omega, by omega, by omega, hb1, hf⟩, by omega⟩
     ·refine id ?_
      refine wp_exit (exit_then (exit_then (exit_here (norm_blk (norm_then ?_)))))
      refine wR ?_
      refine st_move h rfl rfl ?_; clear h a; intro a h
      refine st_add h rfl rfl (by first | exact IntWalk.i64_in _ (by omega) | rfl) rfl ?_; clear h a; intro a h
      refine st_assign h rfl rfl ?_; clear h a; intro a h
      replace h : Ag a 58 [(1, _), (3, _)] := h.sub (.cons rfl (.cons rfl .nil))
      refine wnt ?_
      exact ⟨i + 1, h.sub (.cons rfl (.cons rfl .nil)), ⟨by omega, by omega, by omega, hb1, hf⟩, by omega⟩
    ·refine id ?_
     refine wp_exit (exit_then (exit_then (exit_here (norm_then ?_))))
     refine wp_seq ?_
     refine wR ?_
     refine st_assign h rfl rfl ?_; clear h a; intro a h
     replace h : Ag a 58 [(2, _)] := h.sub (.cons rfl .nil)
     refine wnt ?_
     refine wp_ret (ret_then ?_)
     refine ret1 h Tryd.results15 rfl ?_
     exact ⟨_, rfl, by rw [if_neg (fun e => by have := check_rng e; omega)], hf⟩
   ·refine id ?_
    refine wsn ?_
    refine wp_seq ?_
    refine wp_seq ?_
    refine region_bool (r := 57) (L' := []) (s.a ≠ 0 ∨ s.b ≠ 0 ∨ s.f = true) h .nil ?_ ?_
    ·refine id ?_
     refine st_fieldAddr h rfl fa36_2 rfl ?_; clear h a; intro a h
     refine st_loadB h rfl hb1 rfl na3 rfl ?_; clear h a; intro a h
     refine st_ne h rfl rfl rfl ?_; clear h a; intro a h
     refine st_move h rfl rfl ?_; clear h a; intro a h
     first | refine guard_dec (D := 49) h rfl ?_ ?_ | refine guard_ndec (D := 49) h rfl ?_ ?_ | refine guard_any (D := 49) h rfl ?_ ?_
     ·clear h; intro g4 h
      refine gd_no h rfl rfl rfl rfl rfl rfl rfl rfl ?_; clear h a; intro a h
      refine gd_no h rfl rfl rfl rfl rfl rfl rfl rfl ?_; clear h a; intro a h
      refine gd_no h rfl rfl rfl rfl rfl rfl rfl rfl ?_; clear h a; intro a h
      refine st_pick_t h rfl rfl rfl rfl ?_; clear h a; intro a h
      refine st_move h rfl rfl ?_; clear h a; intro a h
      refine gd_no h rfl rfl rfl rfl rfl rfl rfl rfl ?_; clear h a; intro a h
      refine gd_no h rfl rfl rfl rfl rfl rfl rfl rfl ?_; clear h a; intro a h
      refine st_pick_t h rfl rfl rfl rfl ?_; clear h a; intro a h
      exact wpList_nil (bool_end h rfl (by simp_all) .nil)
     ·clear h; intro g4 h
      refine gd_yes h rfl rfl rfl rfl rfl rfl ?_
      refine st_fieldAddr h rfl fa36_3 rfl ?_; clear h a; intro a h
      refine gd_yes h rfl rfl rfl rfl rfl rfl ?_
      refine st_loadB h rfl hb1 rfl na3 rfl ?_; clear h a; intro a h
      refine gd_yes h rfl rfl rfl rfl rfl rfl ?_
      refine st_ne h rfl rfl rfl ?_; clear h a; intro a h
      refine st_pick_f h rfl rfl rfl rfl ?_; clear h a; intro a h
      refine st_move h rfl rfl ?_; clear h a; intro a h
      first | refine guard_dec (D := 54) h rfl ?_ ?_ | refine guard_ndec (D := 54) h rfl ?_ ?_ | refine guard_any (D := 54) h rfl ?_ ?_
      ·clear h; intro g5 h
       refine gd_no h rfl rfl rfl rfl rfl rfl rfl rfl ?_; clear h a; intro a h
       refine gd_no h rfl rfl rfl rfl rfl rfl rfl rfl ?_; clear h a; intro a h
       refine st_pick_t h rfl rfl rfl rfl ?_; clear h a; intro a h
       exact wpList_nil (bool_end h rfl (by simp_all) .nil)
      ·clear h; intro g5 h
       refine gd_yes h rfl rfl rfl rfl rfl rfl ?_
       refine st_fieldAddr h rfl fa36_4 rfl ?_; clear h a; intro a h
       refine gd_yes h rfl rfl rfl rfl rfl rfl ?_
       refine st_loadB h rfl hb1 rfl na4 rfl ?_; clear h a; intro a h
       refine st_pick_f h rfl rfl rfl rfl ?_; clear h a; intro a h
       exact wpList_nil (bool_end h rfl (by simp_all) .nil)
    ·clear h a; intro a h
     refine (norm_then ?_)
     first | refine cond_dec h rfl (fun c5 => ?_) (fun c5 => ?_) | refine cond_ndec h rfl (fun c5 => ?_) (fun c5 => ?_) | refine cond_split h rfl (fun c5 => ?_) (fun c5 => ?_)
     ·refine id ?_
      refine wp_seq ?_
      refine wR ?_
      refine st_assign h rfl rfl ?_; clear h a; intro a h
      replace h : Ag a 58 [(2, _)] := h.sub (.cons rfl .nil)
      refine wnt ?_
      refine wp_ret (ret_then ?_)
      refine ret1 h Tryd.results15 rfl ?_
      exact ⟨_, rfl, by rw [if_neg (fun e => by obtain ⟨p, q, r⟩ := (check_rng e).2.2.2.2.1 c1; rcases c5 with x | x | x; exact x p; exact x q; rw [r] at x; cases x)], hf⟩
     ·refine id ?_
      refine wsn ?_
      refine wp_seq ?_
      refine wR ?_
      refine st_assign h rfl rfl ?_; clear h a; intro a h
      replace h : Ag a 58 [(2, _)] := h.sub (.cons rfl .nil)
      refine wnt ?_
      refine wp_ret ?_
      refine ret1 h Tryd.results15 rfl ?_
      exact ⟨_, rfl, by rw [if_pos (check_zero hk hy (by omega) (.inr ⟨c1, by omega, by omega, by cases hsf : s.f with | false => rfl | true => exact absurd (.inr (.inr hsf)) c5⟩))], hf⟩
theorem reftext_ok (s : Stitch) (w0 : World) (hk : 0 ≤ s.k) (hy : 0 ≤ s.y) : Rets Tryd.prog 29 #[stV s] w0 fun v w' => v = S (textS s) ∧ Fr [] w0 w' := by
 refine enter [(0, stV s)] Tryd.func29 rfl Tryd.ntmps29 rfl (.cons rfl .nil) ?_
 have hf := Fr.refl [] w0
 intro a h
 refine wp_seq ?_
 refine wR ?_
 refine st_box h rfl rfl rfl ?_; clear h a; intro w1 hb1 hq hz a h
 obtain ⟨g_1, hg⟩ : ∃ g, g = w0.heap.size := ⟨_, rfl⟩; rw [← hg] at hb1 h hz
 have hl1 : w0.heap.size ≤ g_1 := by have := hf.size; omega
 replace hf := hf.next hq
 clear hq hz hg
 refine st_assign h rfl rfl ?_; clear h a; intro a h
 replace h : Ag a 55 [(1, _)] := h.sub (.cons rfl .nil)
 refine wnt ?_
 refine wp_seq ?_
 refine wp_seq ?_
 refine wR ?_
 refine st_loadBA h rfl hb1 ag36 rfl ?_; clear h a; intro a h
 refine st_call h (evs_cons rfl evs_nil) co15 (valid_ok s _ hk hy) rfl ?_; clear h a; rintro _ w2 ⟨rfl, hq⟩ a h
 replace hf := hf.next hq
 replace hb1 := hb1.ext hq
 clear hq
 refine st_eq h rfl rfl rfl ?_; clear h a; intro a h
 replace h : Ag a 55 [(1, _), (8, _)] := h.sub (.cons rfl (.cons rfl .nil))
 refine wnt ?_
 first | refine cond_dec h rfl (fun c0 => ?_) (fun c0 => ?_) | refine cond_ndec h rfl (fun c0 => ?_) (fun c0 => ?_) | refine cond_split h rfl (fun c0 => ?_) (fun c0 => ?_)
 ·have hc : checkS s ≠ 0 := fun e => by rw [if_pos e] at c0; omega
  refine wp_seq ?_
  refine wR ?_
  refine st_assign h rfl rfl ?_; clear h a; intro a h
  replace h : Ag a 55 [(2, _)] := h.sub (.cons rfl .nil)
  refine wnt ?_
  refine wp_ret (ret_then ?_)
  refine ret1 h Tryd.results29 rfl ?_
  exact ⟨_, rfl, by rw [textS, if_pos hc]; rfl, hf⟩
 ·have hc : checkS s = 0 := Decidable.not_not.1 fun e => c0 (if_neg e)
  obtain ⟨k1, k8, y1, y6, kn, ky⟩ := check_rng hc
  refine wsn ?_
  refine wp_seq ?_
  refine wR ?_
  refine st_assign h rfl rfl ?_; clear h a; intro a h
  replace h : Ag a 55 [(1, _), (3, _)] := h.sub (.cons rfl (.cons rfl .nil))
  refine wnt ?_
  refine wp_seq ?_
  refine wR ?_
  refine st_move h rfl rfl ?_; clear h a; intro a h
  refine st_fieldAddr h rfl fa36_0 rfl ?_; clear h a; intro a h
  refine st_loadB h rfl hb1 rfl na34 rfl ?_; clear h a; intro a h
  refine st_fieldAddr h rfl fa36_0 rfl ?_; clear h a; intro a h
  refine st_loadB h rfl hb1 rfl na34 rfl ?_; clear h a; intro a h
  refine st_add h rfl rfl (by first | exact IntWalk.u8_in _ (by omega) | rfl) rfl ?_; clear h a; intro a h
  refine st_ss_lh (p := (s.k).toNat) (p' := (s.k + 1).toNat) h rfl rfl rfl Tryd.underlying9 (by omega) (by omega) (by simp only [List.length_cons, List.length_nil]; omega) rfl rfl rfl ?_; clear h a; intro a h
  rw [refsym s.k k1 k8] at h
  refine st_assign h rfl rfl ?_; clear h a; intro a h
  replace h : Ag a 55 [(1, _), (4, _)] := h.sub (.cons rfl (.cons rfl .nil))
  refine wnt ?_
  refine wp_seq ?_
  refine wR ?_
  refine st_assign h rfl rfl ?_; clear h a; intro a h
  refine wnt ?_
  refine wp_seq ?_
  refine wp_seq ?_
  refine wR ?_
  refine st_fieldAddr h rfl fa36_0 rfl ?_; clear h a; intro a h
  refine st_loadB h rfl hb1 rfl na34 rfl ?_; clear h a; intro a h
  refine st_eq h rfl rfl rfl ?_; clear h a; intro a h
  replace h : Ag a 55 [(1, _), (4, _), (5, _), (18, _)] := h.sub (.cons rfl (.cons rfl (.cons rfl (.cons rfl .nil))))
  refine wnt ?_
  first | refine cond_dec h rfl (fun c1 => ?_) (fun c1 => ?_) | refine cond_ndec h rfl (fun c1 => ?_) (fun c1 => ?_) | refine cond_split h rfl (fun c1 => ?_) (fun c1 => ?_)
  ·obtain ⟨a1, a3, b1, b3, ab⟩ := ky c1
   refine wp_seq ?_
   refine region_quiet hmix (by kernel_rfl) ?_
   refine qt_move h rfl rfl ?_; clear h a; intro a h
   refine qt_move h rfl rfl ?_; clear h a; intro a h
   refine qt_fieldAddr h rfl fa36_2 rfl ?_; clear h a; intro a h
   refine qt_loadB h rfl (fun _ hw => hb1.ext hw) rfl na3 rfl ?_; clear h a; intro a h
   refine qt_fieldAddr h rfl fa36_2 rfl ?_; clear h a; intro a h
   refine qt_loadB h rfl (fun _ hw => hb1.ext hw) rfl na3 rfl ?_; clear h a; intro a h
   refine qt_add h rfl rfl (by first | exact IntWalk.i64_in _ (by omega) | rfl) rfl ?_; clear h a; intro a h
   refine qt_ss_lh (p := (s.a).toNat) (p' := (s.a + 1).toNat) h rfl rfl rfl Tryd.underlying9 (by omega) (by omega) (by simp only [List.length_cons, List.length_nil]; omega) rfl rfl rfl ?_; clear h a; intro a h
   rw [refdig s.a (by omega) (by omega)] at h
   refine qt_move h rfl rfl ?_; clear h a; intro a h
   refine qt_fieldAddr h rfl fa36_3 rfl ?_; clear h a; intro a h
   refine qt_loadB h rfl (fun _ hw => hb1.ext hw) rfl na3 rfl ?_; clear h a; intro a h
   refine qt_fieldAddr h rfl fa36_3 rfl ?_; clear h a; intro a h
   refine qt_loadB h rfl (fun _ hw => hb1.ext hw) rfl na3 rfl ?_; clear h a; intro a h
   refine qt_add h rfl rfl (by first | exact IntWalk.i64_in _ (by omega) | rfl) rfl ?_; clear h a; intro a h
   refine qt_ss_lh (p := (s.b).toNat) (p' := (s.b + 1).toNat) h rfl rfl rfl Tryd.underlying9 (by omega) (by omega) (by simp only [List.length_cons, List.length_nil]; omega) rfl rfl rfl ?_; clear h a; intro a h
   rw [refdig s.b (by omega) (by omega)] at h
   refine qt_adds h rfl rfl (by first | (simp; done) | (simp; omega)) rfl ?_; clear h a; intro a h
   refine qt_adds h rfl rfl (by first | (simp; done) | (simp; omega)) rfl ?_; clear h a; intro a h
   refine qt_assign h rfl rfl ?_; clear h a; intro a h
   refine wpQuiet_nil ?_
   intro w3 hq
   replace hf := hf.next hq
   replace hb1 := hb1.ext hq
   clear hq
   replace h : Ag a 55 [(1, _), (4, _), (5, _)] := h.sub (.cons rfl (.cons rfl (.cons rfl .nil)))
   refine (norm_then ?_)
   refine wp_seq ?_
   refine wR ?_
   refine st_fieldAddr h rfl fa36_4 rfl ?_; clear h a; intro a h
   refine st_loadB h rfl hb1 rfl na4 rfl ?_; clear h a; intro a h
   replace h : Ag a 55 [(1, _), (4, _), (5, _), (37, _)] := h.sub (.cons rfl (.cons rfl (.cons rfl (.cons rfl .nil))))
   refine wnt ?_
   first | refine cond_dec h rfl (fun c2 => ?_) (fun c2 => ?_) | refine cond_ndec h rfl (fun c2 => ?_) (fun c2 => ?_) | refine cond_split h rfl (fun c2 => ?_) (fun c2 => ?_)
   ·refine id ?_
    refine wR ?_
    refine st_move h rfl rfl ?_; clear h a; intro a h
    refine st_adds h rfl rfl (by first | (simp; done) | (simp; omega)) rfl ?_; clear h a; intro a h
    refine st_assign h rfl rfl ?_; clear h a; intro a h
    replace h : Ag a 55 [(1, _), (4, _), (5, _)] := h.sub (.cons rfl (.cons rfl (.cons rfl .nil)))
    refine wnt ?_
    refine wp_seq ?_
    refine wp_seq ?_
    refine wR ?_
    refine st_fieldAddr h rfl fa36_1 rfl ?_; clear h a; intro a h
    refine st_loadB h rfl hb1 rfl na5 rfl ?_; clear h a; intro a h
    refine st_ne h rfl rfl rfl ?_; clear h a; intro a h
    replace h : Ag a 55 [(1, _), (4, _), (5, _), (44, _)] := h.sub (.cons rfl (.cons rfl (.cons rfl (.cons rfl .nil))))
    refine wnt ?_
    first | refine cond_dec h rfl (fun c3 => ?_) (fun c3 => ?_) | refine cond_ndec h rfl (fun c3 => ?_) (fun c3 => ?_) | refine cond_split h rfl (fun c3 => ?_) (fun c3 => ?_)
    ·refine id ?_
     refine wR ?_
     refine st_move h rfl rfl ?_; clear h a; intro a h
     refine st_move h rfl rfl ?_; clear h a; intro a h
     refine st_fieldAddr h rfl fa36_1 rfl ?_; clear h a; intro a h
     refine st_loadB h rfl hb1 rfl na5 rfl ?_; clear h a; intro a h
     refine st_fieldAddr h rfl fa36_1 rfl ?_; clear h a; intro a h
     refine st_loadB h rfl hb1 rfl na5 rfl ?_; clear h a; intro a h
     refine st_add h rfl rfl (by first | exact IntWalk.u8_in _ (by omega) | rfl) rfl ?_; clear h a; intro a h
     refine st_ss_lh (p := (s.y).toNat) (p' := (s.y + 1).toNat) h rfl rfl rfl Tryd.underlying9 (by omega) (by omega) (by simp only [List.length_cons, List.length_nil]; omega) rfl rfl rfl ?_; clear h a; intro a h
     rw [refdig s.y (by omega) (by omega)] at h
     refine st_adds h rfl rfl (by first | (simp; done) | (simp; omega)) rfl ?_; clear h a; intro a h
     refine st_assign h rfl rfl ?_; clear h a; intro a h
     replace h : Ag a 55 [(4, _)] := h.sub (.cons rfl .nil)
     refine wnt ?_
     refine wp_seq ?_
     refine wR ?_
     refine st_move h rfl rfl ?_; clear h a; intro a h
     refine st_assign h rfl rfl ?_; clear h a; intro a h
     replace h : Ag a 55 [(2, _)] := h.sub (.cons rfl .nil)
     refine wnt ?_
     refine wp_ret ?_
     refine ret1 h Tryd.results29 rfl ?_
     exact ⟨_, rfl, by simp_all [textS], hf⟩
    ·refine id ?_
     refine wsn ?_
     refine wp_seq ?_
     refine wR ?_
     refine st_move h rfl rfl ?_; clear h a; intro a h
     refine st_assign h rfl rfl ?_; clear h a; intro a h
     replace h : Ag a 55 [(2, _)] := h.sub (.cons rfl .nil)
     refine wnt ?_
     refine wp_ret ?_
     refine ret1 h Tryd.results29 rfl ?_
     exact ⟨_, rfl, by simp_all [textS], hf⟩
   ·refine id ?_
    refine wR ?_
    refine st_move h rfl rfl ?_; clear h a; intro a h
    refine st_adds h rfl rfl (by first | (simp; done) | (simp; omega)) rfl ?_; clear h a; intro a h
    refine st_assign h rfl rfl ?_; clear h a; intro a h
    replace h : Ag a 55 [(1, _), (4, _), (5, _)] := h.sub (.cons rfl (.cons rfl (.cons rfl .nil)))
    refine wnt ?_
    refine wp_seq ?_
    refine wp_seq ?_
    refine wR ?_
    refine st_fieldAddr h rfl fa36_1 rfl ?_; clear h a; intro a h
    refine st_loadB h rfl hb1 rfl na5 rfl ?_; clear h a; intro a h
    refine st_ne h rfl rfl rfl ?_; clear h a; intro a h
    replace h : Ag a 55 [(1, _), (4, _), (5, _), (44, _)] := h.sub (.cons rfl (.cons rfl (.cons rfl (.cons rfl .nil))))
    refine wnt ?_
    first | refine cond_dec h rfl (fun c3 => ?_) (fun c3 => ?_) | refine cond_ndec h rfl (fun c3 => ?_) (fun c3 => ?_) | refine cond_split h rfl (fun c3 => ?_) (fun c3 => ?_)
    ·refine id ?_
     refine wR ?_
     refine st_move h rfl rfl ?_; clear h a; intro a h
     refine st_move h rfl rfl ?_; clear h a; intro a h
     refine st_fieldAddr h rfl fa36_1 rfl ?_; clear h a; intro a h
     refine st_loadB h rfl hb1 rfl na5 rfl ?_; clear h a; intro a h
     refine st_fieldAddr h rfl fa36_1 rfl ?_; clear h a; intro a h
     refine st_loadB h rfl hb1 rfl na5 rfl ?_; clear h a; intro a h
     refine st_add h rfl rfl (by first | exact IntWalk.u8_in _ (by omega) | rfl) rfl ?_; clear h a; intro a h
     refine st_ss_lh (p := (s.y).toNat) (p' := (s.y + 1).toNat) h rfl rfl rfl Tryd.underlying9 (by omega) (by omega) (by simp only [List.length_cons, List.length_nil]; omega) rfl rfl rfl ?_; clear h a; intro a h
     rw [refdig s.y (by omega) (by omega)] at h
     refine st_adds h rfl rfl (by first | (simp; done) | (simp; omega)) rfl ?_; clear h a; intro a h
     refine st_assign h rfl rfl ?_; clear h a; intro a h
     replace h : Ag a 55 [(4, _)] := h.sub (.cons rfl .nil)
     refine wnt ?_
     refine wp_seq ?_
     refine wR ?_
     refine st_move h rfl rfl ?_; clear h a; intro a h
     refine st_assign h rfl rfl ?_; clear h a; intro a h
     replace h : Ag a 55 [(2, _)] := h.sub (.cons rfl .nil)
     refine wnt ?_
     refine wp_ret ?_
     refine ret1 h Tryd.results29 rfl ?_
     exact ⟨_, rfl, by simp_all [textS], hf⟩
    ·refine id ?_
     refine wsn ?_
     refine wp_seq ?_
     refine wR ?_
     refine st_move h rfl rfl ?_; clear h a; intro a h
     refine st_assign h rfl rfl ?_; clear h a; intro a h
     replace h : Ag a 55 [(2, _)] := h.sub (.cons rfl .nil)
     refine wnt ?_
     refine wp_ret ?_
     refine ret1 h Tryd.results29 rfl ?_
     exact ⟨_, rfl, by simp_all [textS], hf⟩
  ·refine id ?_
   refine wsn ?_
   refine wp_seq ?_
   refine wp_seq ?_
   refine wR ?_
   refine st_fieldAddr h rfl fa36_1 rfl ?_; clear h a; intro a h
   refine st_loadB h rfl hb1 rfl na5 rfl ?_; clear h a; intro a h
   refine st_ne h rfl rfl rfl ?_; clear h a; intro a h
   replace h : Ag a 55 [(1, _), (4, _), (5, _), (44, _)] := h.sub (.cons rfl (.cons rfl (.cons rfl (.cons rfl .nil))))
   refine wnt ?_
   first | refine cond_dec h rfl (fun c3 => ?_) (fun c3 => ?_) | refine cond_ndec h rfl (fun c3 => ?_) (fun c3 => ?_) | refine cond_split h rfl (fun c3 => ?_) (fun c3 => ?_)
   ·refine id ?_
    refine wR ?_
    refine st_move h rfl rfl ?_; clear h a; intro a h
    refine st_move h rfl rfl ?_; clear h a; intro a h
    refine st_fieldAddr h rfl fa36_1 rfl ?_; clear h a; intro a h
    refine st_loadB h rfl hb1 rfl na5 rfl ?_; clear h a; intro a h
    refine st_fieldAddr h rfl fa36_1 rfl ?_; clear h a; intro a h
    refine st_loadB h rfl hb1 rfl na5 rfl ?_; clear h a; intro a h
    refine st_add h rfl rfl (by first | exact IntWalk.u8_in _ (by omega) | rfl) rfl ?_; clear h a; intro a h
    refine st_ss_lh (p := (s.y).toNat) (p' := (s.y + 1).toNat) h rfl rfl rfl Tryd.underlying9 (by omega) (by omega) (by simp only [List.length_cons, List.length_nil]; omega) rfl rfl rfl ?_; clear h a; intro a h
    rw [refdig s.y (by omega) (by omega)] at h
    refine st_adds h rfl rfl (by first | (simp; done) | (simp; omega)) rfl ?_; clear h a; intro a h
    refine st_assign h rfl rfl ?_; clear h a; intro a h
    replace h : Ag a 55 [(4, _)] := h.sub (.cons rfl .nil)
    refine wnt ?_
    refine wp_seq ?_
    refine wR ?_
    refine st_move h rfl rfl ?_; clear h a; intro a h
    refine st_assign h rfl rfl ?_; clear h a; intro a h
    replace h : Ag a 55 [(2, _)] := h.sub (.cons rfl .nil)
    refine wnt ?_
    refine wp_ret ?_
    refine ret1 h Tryd.results29 rfl ?_
    exact ⟨_, rfl, by simp_all [textS], hf⟩
   ·refine id ?_
    refine wsn ?_
    refine wp_seq ?_
    refine wR ?_
    refine st_move h rfl rfl ?_; clear h a; intro a h
    refine st_assign h rfl rfl ?_; clear h a; intro a h
    replace h : Ag a 55 [(2, _)] := h.sub (.cons rfl .nil)
    refine wnt ?_
    refine wp_ret ?_
    refine ret1 h Tryd.results29 rfl ?_
    exact ⟨_, rfl, by simp_all [textS], hf⟩
end Go.Proofs.YtbbnampdgefljaaDoor
namespace Go.Proofs.YtbbnampdgefljaaDoor
open Go.Lw Go.G14
set_option maxHeartbeats 1000000 in
theorem lives_ok (w0 : World) (hy : Sym w0) : Rets Tryd.prog 12 #[] w0 fun v w' => v = .bool true ∧ Fr [] w0 w' := by
 have h00 := hy.pos
 refine enter [] Tryd.func12 rfl Tryd.ntmps12 rfl .nil ?_
 have hf := Fr.refl [] w0
 intro a h
 refine wp_seq ?_
 refine wR ?_
 refine st_assign h rfl rfl ?_; clear h a; intro a h
 replace h : Ag a 97 [] := h.sub .nil
 refine wnt ?_
 refine wp_seq ?_
 refine wR ?_
 refine st_bslice (textsL) h (evs_cons rfl (evs_cons rfl (evs_cons rfl (evs_cons rfl (evs_cons rfl (evs_cons rfl (evs_cons rfl (evs_cons rfl evs_nil)))))))) rfl rfl rfl el48 (Nat.le_of_ble_eq_true rfl) rfl ?_; clear h a; intro g_16 w1 hg ho16 hq hz a h
 have hl16 : w0.heap.size ≤ g_16 := by have := hf.size; omega
 replace hf := hf.next hq
 replace hy := hy.ext hq
 clear hq hz hg
 refine st_assign h rfl rfl ?_; clear h a; intro a h
 replace h : Ag a 97 [(1, _)] := h.sub (.cons rfl .nil)
 refine wnt ?_
 refine wp_seq ?_
 refine wR ?_
 refine st_bslice (plainL) h (evs_cons rfl (evs_cons rfl (evs_cons rfl (evs_cons rfl (evs_cons rfl (evs_cons rfl (evs_cons rfl (evs_cons rfl evs_nil)))))))) rfl rfl rfl el48 (Nat.le_of_ble_eq_true rfl) rfl ?_; clear h a; intro g_17 w2 hg ho17 hq hz a h
 have hl17 : w0.heap.size ≤ g_17 := by have := hf.size; omega
 replace hf := hf.next hq
 replace hy := hy.ext hq
 replace ho16 := ho16.ext hq
 clear hq hz hg
 refine st_assign h rfl rfl ?_; clear h a; intro a h
 replace h : Ag a 97 [(1, _), (2, _)] := h.sub (.cons rfl (.cons rfl .nil))
 refine wnt ?_
 refine wp_seq ?_
 refine wR ?_
 refine st_bslice (errsL) h (evs_cons rfl (evs_cons rfl (evs_cons rfl (evs_cons rfl (evs_cons rfl (evs_cons rfl (evs_cons rfl (evs_cons rfl evs_nil)))))))) rfl rfl rfl el65 (Nat.le_of_ble_eq_true rfl) rfl ?_; clear h a; intro g_18 w3 hg ho18 hq hz a h
 have hl18 : w0.heap.size ≤ g_18 := by have := hf.size; omega
 replace hf := hf.next hq
 replace hy := hy.ext hq
 replace ho16 := ho16.ext hq
 replace ho17 := ho17.ext hq
 clear hq hz hg
 refine st_assign h rfl rfl ?_; clear h a; intro a h
 replace h : Ag a 97 [(1, _), (2, _), (3, _)] := h.sub (.cons rfl (.cons rfl (.cons rfl .nil)))
 refine wnt ?_
 refine wp_seq ?_
 refine wp_seq ?_
 refine wR ?_
 refine st_assign h rfl rfl ?_; clear h a; intro a h
 refine wnt ?_
 refine wp_block ?_
 refine loop (ι := Nat) (fun i => [(1, .slice (some ⟨g_16, 0, none⟩) 8 8), (2, .slice (some ⟨g_17, 0, none⟩) 8 8), (3, .slice (some ⟨g_18, 0, none⟩) 8 8), (4, .int .i64 (i : Int))]) (fun i w' => i ≤ 8 ∧ Lw.Own Enc.str 9 g_16 w' (.slice (some ⟨g_16, 0, none⟩) 8 8) textsL ∧ Lw.Own Enc.str 9 g_17 w' (.slice (some ⟨g_17, 0, none⟩) 8 8) plainL ∧ Lw.Own Enc.i64 23 g_18 w' (.slice (some ⟨g_18, 0, none⟩) 8 8) errsL ∧ Sym w' ∧ Fr [] w0 w') (fun i => 8 - i) 0 (h.sub (.cons rfl (.cons rfl (.cons rfl (.cons rfl .nil))))) ⟨by omega, ho16, ho17, ho18, hy, hf⟩ ?_
 clear h a ho16 ho17 ho18 hy hf
 rintro i w4 a h ⟨hi, ho16, ho17, ho18, hy, hf⟩
 refine wp_seq ?_
 refine wp_seq ?_
 refine wR ?_
 refine st_move h rfl rfl ?_; clear h a; intro a h
 refine st_move h rfl rfl ?_; clear h a; intro a h
 refine st_lenS h rfl Tryd.underlying48 rfl ?_; clear h a; intro a h
 refine st_lt h rfl rfl rfl ?_; clear h a; intro a h
 replace h : Ag a 97 [(1, _), (2, _), (3, _), (4, _), (22, _)] := h.sub (.cons rfl (.cons rfl (.cons rfl (.cons rfl (.cons rfl .nil)))))
 refine wnt ?_
 first | refine cond_dec h rfl (fun c0 => ?_) (fun c0 => ?_) | refine cond_ndec h rfl (fun c0 => ?_) (fun c0 => ?_) | refine cond_split h rfl (fun c0 => ?_) (fun c0 => ?_)
 ·obtain ⟨e1, e2, e3⟩ := livesT i (by omega)
  have hln := livesN i (by omega)
  refine wsn ?_
  refine wp_seq ?_
  refine wp_block ?_
  refine wp_seq ?_
  refine wR ?_
  refine st_move h rfl rfl ?_; clear h a; intro a h
  refine st_move h rfl rfl ?_; clear h a; intro a h
  refine st_idx (p := i) h rfl rfl ho16.sl el48 (by omega) rfl (getD_get (show i < textsL.length by rw [show textsL.length = 8 from rfl]; omega) []) rfl ?_; clear h a; intro ad cc a h
  refine st_loadC0 h rfl cc na9 rfl ?_; clear h a; intro a h
  refine st_call h (evs_cons rfl evs_nil) co10 (expand_ok _ _ hy (by omega)) rfl ?_; clear h a; rintro _ w5 ⟨x, c, rfl, hc, ho, hq⟩ a h
  replace hf := hf.next hq
  replace hy := hy.ext hq
  replace ho16 := ho16.ext hq
  replace ho17 := ho17.ext hq
  replace ho18 := ho18.ext hq
  clear hq
  obtain ⟨xs, hxs⟩ : ∃ xs, xs = (expandS (textsL.getD i [])).1 := ⟨_, rfl⟩
  have hxm := livesX i (by omega)
  rw [← hxs] at h ho e2 e3 hxm
  refine st_move h rfl rfl ?_; clear h a; intro a h
  refine st_extract h rfl rfl rfl ?_; clear h a; intro a h
  refine st_extract h rfl rfl rfl ?_; clear h a; intro a h
  refine st_assign h rfl rfl ?_; clear h a; intro a h
  refine st_assign h rfl rfl ?_; clear h a; intro a h
  replace h : Ag a 97 [(1, _), (2, _), (3, _), (4, _), (5, _), (6, _)] := h.sub (.cons rfl (.cons rfl (.cons rfl (.cons rfl (.cons rfl (.cons rfl .nil))))))
  refine wnt ?_
  refine wp_seq ?_
  refine wp_seq ?_
  refine wR ?_
  refine st_move h rfl rfl ?_; clear h a; intro a h
  refine st_move h rfl rfl ?_; clear h a; intro a h
  refine st_move h rfl rfl ?_; clear h a; intro a h
  refine st_idx (p := i) h rfl rfl ho18.sl el65 (by omega) rfl (getD_get (show i < errsL.length by rw [show errsL.length = 8 from rfl]; omega) 0) rfl ?_; clear h a; intro ad cc a h
  refine st_loadC0 h rfl cc na23 rfl ?_; clear h a; intro a h
  refine st_ne h rfl rfl rfl ?_; clear h a; intro a h
  replace h : Ag a 97 [(1, _), (2, _), (3, _), (4, _), (5, _), (38, _)] := h.sub (.cons rfl (.cons rfl (.cons rfl (.cons rfl (.cons rfl (.cons rfl .nil))))))
  refine wnt ?_
  first | refine cond_dec h rfl (fun c1 => ?_) (fun c1 => ?_) | refine cond_ndec h rfl (fun c1 => ?_) (fun c1 => ?_) | refine cond_split h rfl (fun c1 => ?_) (fun c1 => ?_)
  ·exact absurd e1 c1
  ·refine id ?_
   refine wsn ?_
   refine wp_seq ?_
   refine wR ?_
   refine st_assign h rfl rfl ?_; clear h a; intro a h
   replace h : Ag a 97 [(1, _), (2, _), (3, _), (4, _), (5, _), (7, _)] := h.sub (.cons rfl (.cons rfl (.cons rfl (.cons rfl (.cons rfl (.cons rfl .nil))))))
   refine wnt ?_
   refine wp_seq ?_
   refine wp_seq ?_
   refine wR ?_
   refine st_assign h rfl rfl ?_; clear h a; intro a h
   refine wnt ?_
   refine wp_block ?_
   refine loop (ι := Nat) (fun k => [(1, .slice (some ⟨g_16, 0, none⟩) 8 8), (2, .slice (some ⟨g_17, 0, none⟩) 8 8), (3, .slice (some ⟨g_18, 0, none⟩) 8 8), (4, .int .i64 (i : Int)), (5, .slice x xs.length c), (7, S (joinTo xs k)), (8, .int .i64 (k : Int))]) (fun k w' => k ≤ xs.length ∧ Lw.Own encSt 36 0 w' (.slice x xs.length c) xs ∧ Lw.Own Enc.str 9 g_16 w' (.slice (some ⟨g_16, 0, none⟩) 8 8) textsL ∧ Lw.Own Enc.str 9 g_17 w' (.slice (some ⟨g_17, 0, none⟩) 8 8) plainL ∧ Lw.Own Enc.i64 23 g_18 w' (.slice (some ⟨g_18, 0, none⟩) 8 8) errsL ∧ Sym w' ∧ Fr [] w0 w') (fun k => xs.length - k) 0 (h.sub (.cons rfl (.cons rfl (.cons rfl (.cons rfl (.cons rfl (.cons rfl (.cons rfl .nil)))))))) ⟨by omega, ho.low (Nat.zero_le _), ho16, ho17, ho18, hy, hf⟩ ?_
   clear h a ho ho16 ho17 ho18 hy hf
   rintro k w6 a h ⟨hk, ho, ho16, ho17, ho18, hy, hf⟩
   have hjl := join_len xs k
   refine wp_seq ?_
   refine wp_seq ?_
   refine wR ?_
   refine st_move h rfl rfl ?_; clear h a; intro a h
   refine st_move h rfl rfl ?_; clear h a; intro a h
   refine st_lenS h rfl Tryd.underlying22 rfl ?_; clear h a; intro a h
   refine st_lt h rfl rfl rfl ?_; clear h a; intro a h
   replace h : Ag a 97 [(1, _), (2, _), (3, _), (4, _), (5, _), (7, _), (8, _), (42, _)] := h.sub (.cons rfl (.cons rfl (.cons rfl (.cons rfl (.cons rfl (.cons rfl (.cons rfl (.cons rfl .nil))))))))
   refine wnt ?_
   first | refine cond_dec h rfl (fun c2 => ?_) (fun c2 => ?_) | refine cond_ndec h rfl (fun c2 => ?_) (fun c2 => ?_) | refine cond_split h rfl (fun c2 => ?_) (fun c2 => ?_)
   ·obtain ⟨x1, hxk⟩ : ∃ x1, xs[k]? = some x1 := ⟨_, List.getElem?_eq_getElem (by omega)⟩
    obtain ⟨p1, p2⟩ := okB_pos (List.all_eq_true.1 e3 x1 (List.mem_of_getElem? hxk))
    have htl := textS_len x1
    refine wsn ?_
    refine wp_seq ?_
    refine wp_block ?_
    refine wp_seq ?_
    refine wp_seq ?_
    refine wR ?_
    refine st_move h rfl rfl ?_; clear h a; intro a h
    refine st_gt h rfl rfl rfl ?_; clear h a; intro a h
    replace h : Ag a 97 [(1, _), (2, _), (3, _), (4, _), (5, _), (7, _), (8, _), (46, _)] := h.sub (.cons rfl (.cons rfl (.cons rfl (.cons rfl (.cons rfl (.cons rfl (.cons rfl (.cons rfl .nil))))))))
    refine wnt ?_
    first | refine cond_dec h rfl (fun c3 => ?_) (fun c3 => ?_) | refine cond_ndec h rfl (fun c3 => ?_) (fun c3 => ?_) | refine cond_split h rfl (fun c3 => ?_) (fun c3 => ?_)
    ·refine id ?_
     refine wR ?_
     refine st_move h rfl rfl ?_; clear h a; intro a h
     refine st_adds h rfl rfl (by first | (simp; done) | (simp; omega)) rfl ?_; clear h a; intro a h
     refine st_assign h rfl rfl ?_; clear h a; intro a h
     replace h : Ag a 97 [(1, _), (2, _), (3, _), (4, _), (5, _), (7, _), (8, _)] := h.sub (.cons rfl (.cons rfl (.cons rfl (.cons rfl (.cons rfl (.cons rfl (.cons rfl .nil)))))))
     refine wnt ?_
     refine wR ?_
     refine st_move h rfl rfl ?_; clear h a; intro a h
     refine st_move h rfl rfl ?_; clear h a; intro a h
     refine st_move h rfl rfl ?_; clear h a; intro a h
     refine st_idx (p := k) h rfl rfl ho.sl el22 (by omega) rfl hxk rfl ?_; clear h a; intro ad cc a h
     refine st_loadA h rfl cc ag36 rfl ?_; clear h a; intro a h
     refine st_call h (evs_cons rfl evs_nil) co29 (reftext_ok x1 _ p1 p2) rfl ?_; clear h a; rintro _ w7 ⟨rfl, hq⟩ a h
     replace hf := hf.next hq
     replace hy := hy.ext hq
     replace ho16 := ho16.ext hq
     replace ho17 := ho17.ext hq
     replace ho18 := ho18.ext hq
     replace ho := ho.ext hq
     clear hq
     refine st_adds h rfl rfl (by first | (simp; omega) | omega) rfl ?_; clear h a; intro a h
     refine st_assign h rfl rfl ?_; clear h a; intro a h
     replace h : Ag a 97 [(1, _), (2, _), (3, _), (4, _), (5, _), (7, _), (8, _)] := h.sub (.cons rfl (.cons rfl (.cons rfl (.cons rfl (.cons rfl (.cons rfl (.cons rfl .nil)))))))
     refine wpList_nil (norm_blk (norm_then ?_))
     refine wR ?_
     refine st_move h rfl rfl ?_; clear h a; intro a h
     refine st_add h rfl rfl (by first | exact IntWalk.i64_in _ (by omega) | rfl) rfl ?_; clear h a; intro a h
     refine st_assign h rfl rfl ?_; clear h a; intro a h
     replace h : Ag a 97 [(1, _), (2, _), (3, _), (4, _), (5, _), (7, _), (8, _)] := h.sub (.cons rfl (.cons rfl (.cons rfl (.cons rfl (.cons rfl (.cons rfl (.cons rfl .nil)))))))
     refine wnt ?_
     exact ⟨k + 1, h.sub (.cons rfl (.cons rfl (.cons rfl (.cons rfl (.cons rfl (.cons (by first | exact congrArg (fun l => some (S l)) (join_next hxk c3) | exact congrArg (fun l => some (S l)) (join_one hxk c3)) (.cons rfl .nil))))))), ⟨by omega, ho, ho16, ho17, ho18, hy, hf⟩, by omega⟩
    ·refine id ?_
     refine wsn ?_
     refine wR ?_
     refine st_move h rfl rfl ?_; clear h a; intro a h
     refine st_move h rfl rfl ?_; clear h a; intro a h
     refine st_move h rfl rfl ?_; clear h a; intro a h
     refine st_idx (p := k) h rfl rfl ho.sl el22 (by omega) rfl hxk rfl ?_; clear h a; intro ad cc a h
     refine st_loadA h rfl cc ag36 rfl ?_; clear h a; intro a h
     refine st_call h (evs_cons rfl evs_nil) co29 (reftext_ok x1 _ p1 p2) rfl ?_; clear h a; rintro _ w8 ⟨rfl, hq⟩ a h
     replace hf := hf.next hq
     replace hy := hy.ext hq
     replace ho16 := ho16.ext hq
     replace ho17 := ho17.ext hq
     replace ho18 := ho18.ext hq
     replace ho := ho.ext hq
     clear hq
     refine st_adds h rfl rfl (by first | (simp; omega) | omega) rfl ?_; clear h a; intro a h
     refine st_assign h rfl rfl ?_; clear h a; intro a h
     replace h : Ag a 97 [(1, _), (2, _), (3, _), (4, _), (5, _), (7, _), (8, _)] := h.sub (.cons rfl (.cons rfl (.cons rfl (.cons rfl (.cons rfl (.cons rfl (.cons rfl .nil)))))))
     refine wpList_nil (norm_blk (norm_then ?_))
     refine wR ?_
     refine st_move h rfl rfl ?_; clear h a; intro a h
     refine st_add h rfl rfl (by first | exact IntWalk.i64_in _ (by omega) | rfl) rfl ?_; clear h a; intro a h
     refine st_assign h rfl rfl ?_; clear h a; intro a h
     replace h : Ag a 97 [(1, _), (2, _), (3, _), (4, _), (5, _), (7, _), (8, _)] := h.sub (.cons rfl (.cons rfl (.cons rfl (.cons rfl (.cons rfl (.cons rfl (.cons rfl .nil)))))))
     refine wnt ?_
     exact ⟨k + 1, h.sub (.cons rfl (.cons rfl (.cons rfl (.cons rfl (.cons rfl (.cons (by first | exact congrArg (fun l => some (S l)) (join_next hxk c3) | exact congrArg (fun l => some (S l)) (join_one hxk c3)) (.cons rfl .nil))))))), ⟨by omega, ho, ho16, ho17, ho18, hy, hf⟩, by omega⟩
   ·obtain rfl : k = xs.length := by omega
    refine wp_exit (exit_then (exit_then (exit_here (norm_then ?_))))
    refine wp_seq ?_
    refine wR ?_
    refine st_move h rfl rfl ?_; clear h a; intro a h
    refine st_move h rfl rfl ?_; clear h a; intro a h
    refine st_move h rfl rfl ?_; clear h a; intro a h
    refine st_idx (p := i) h rfl rfl ho17.sl el48 (by omega) rfl (getD_get (show i < plainL.length by rw [show plainL.length = 8 from rfl]; omega) []) rfl ?_; clear h a; intro ad cc a h
    refine st_loadC0 h rfl cc na9 rfl ?_; clear h a; intro a h
    refine st_nes h rfl rfl rfl ?_; clear h a; intro a h
    replace h : Ag a 97 [(1, _), (2, _), (3, _), (4, _), (61, _)] := h.sub (.cons rfl (.cons rfl (.cons rfl (.cons rfl (.cons rfl .nil)))))
    refine wnt ?_
    first | refine cond_dec h rfl (fun c4 => ?_) (fun c4 => ?_) | refine cond_ndec h rfl (fun c4 => ?_) (fun c4 => ?_) | refine cond_split h rfl (fun c4 => ?_) (fun c4 => ?_)
    ·exact absurd e2 c4
    ·refine id ?_
     refine wp_skip (norm_blk (norm_then ?_))
     refine wR ?_
     refine st_move h rfl rfl ?_; clear h a; intro a h
     refine st_add h rfl rfl (by first | exact IntWalk.i64_in _ (by omega) | rfl) rfl ?_; clear h a; intro a h
     refine st_assign h rfl rfl ?_; clear h a; intro a h
     replace h : Ag a 97 [(1, _), (2, _), (3, _), (4, _)] := h.sub (.cons rfl (.cons rfl (.cons rfl (.cons rfl .nil))))
     refine wnt ?_
     exact ⟨i + 1, h.sub (.cons rfl (.cons rfl (.cons rfl (.cons rfl .nil)))), ⟨by omega, ho16, ho17, ho18, hy, hf⟩, by omega⟩
 ·refine id ?_
  refine wp_exit (exit_then (exit_then (exit_here (norm_then ?_))))
  refine wp_seq ?_
  refine wR ?_
  refine st_bslice (longL) h (evs_cons rfl (evs_cons rfl (evs_cons rfl (evs_cons rfl (evs_cons rfl evs_nil))))) rfl rfl rfl el48 (Nat.le_of_ble_eq_true rfl) rfl ?_; clear h a; intro g_62 w9 hg ho62 hq hz a h
  have hl62 : w0.heap.size ≤ g_62 := by have := hf.size; omega
  replace hf := hf.next hq
  replace hy := hy.ext hq
  replace ho16 := ho16.ext hq
  replace ho17 := ho17.ext hq
  replace ho18 := ho18.ext hq
  clear hq hz hg
  refine st_assign h rfl rfl ?_; clear h a; intro a h
  replace h : Ag a 97 [(9, _)] := h.sub (.cons rfl .nil)
  refine wnt ?_
  refine wp_seq ?_
  refine wR ?_
  refine st_bslice (shortL) h (evs_cons rfl (evs_cons rfl (evs_cons rfl (evs_cons rfl (evs_cons rfl evs_nil))))) rfl rfl rfl el48 (Nat.le_of_ble_eq_true rfl) rfl ?_; clear h a; intro g_63 w10 hg ho63 hq hz a h
  have hl63 : w0.heap.size ≤ g_63 := by have := hf.size; omega
  replace hf := hf.next hq
  replace hy := hy.ext hq
  replace ho16 := ho16.ext hq
  replace ho17 := ho17.ext hq
  replace ho18 := ho18.ext hq
  replace ho62 := ho62.ext hq
  clear hq hz hg
  refine st_assign h rfl rfl ?_; clear h a; intro a h
  replace h : Ag a 97 [(9, _), (10, _)] := h.sub (.cons rfl (.cons rfl .nil))
  refine wnt ?_
  refine wp_seq ?_
  refine wp_seq ?_
  refine wR ?_
  refine st_assign h rfl rfl ?_; clear h a; intro a h
  refine wnt ?_
  refine wp_block ?_
  refine loop (ι := Nat) (fun i => [(9, .slice (some ⟨g_62, 0, none⟩) 5 5), (10, .slice (some ⟨g_63, 0, none⟩) 5 5), (11, .int .i64 (i : Int))]) (fun i w' => i ≤ 5 ∧ Lw.Own Enc.str 9 g_62 w' (.slice (some ⟨g_62, 0, none⟩) 5 5) longL ∧ Lw.Own Enc.str 9 g_63 w' (.slice (some ⟨g_63, 0, none⟩) 5 5) shortL ∧ Sym w' ∧ Fr [] w0 w') (fun i => 5 - i) 0 (h.sub (.cons rfl (.cons rfl (.cons rfl .nil)))) ⟨by omega, ho62, ho63, hy, hf⟩ ?_
  clear h a ho62 ho63 hy hf
  rintro i w11 a h ⟨hi, ho62, ho63, hy, hf⟩
  refine wp_seq ?_
  refine wp_seq ?_
  refine wR ?_
  refine st_move h rfl rfl ?_; clear h a; intro a h
  refine st_move h rfl rfl ?_; clear h a; intro a h
  refine st_lenS h rfl Tryd.underlying48 rfl ?_; clear h a; intro a h
  refine st_lt h rfl rfl rfl ?_; clear h a; intro a h
  replace h : Ag a 97 [(9, _), (10, _), (11, _), (67, _)] := h.sub (.cons rfl (.cons rfl (.cons rfl (.cons rfl .nil))))
  refine wnt ?_
  first | refine cond_dec h rfl (fun c5 => ?_) (fun c5 => ?_) | refine cond_ndec h rfl (fun c5 => ?_) (fun c5 => ?_) | refine cond_split h rfl (fun c5 => ?_) (fun c5 => ?_)
  ·obtain ⟨e1, e2⟩ := livesU i (by omega)
   have hln := livesM i (by omega)
   refine wsn ?_
   refine wp_seq ?_
   refine wp_block ?_
   refine wp_seq ?_
   refine wR ?_
   refine st_move h rfl rfl ?_; clear h a; intro a h
   refine st_move h rfl rfl ?_; clear h a; intro a h
   refine st_idx (p := i) h rfl rfl ho62.sl el48 (by omega) rfl (getD_get (show i < longL.length by rw [show longL.length = 5 from rfl]; omega) []) rfl ?_; clear h a; intro ad cc a h
   refine st_loadC0 h rfl cc na9 rfl ?_; clear h a; intro a h
   refine st_call h (evs_cons rfl evs_nil) co10 (expand_ok _ _ hy (by omega)) rfl ?_; clear h a; rintro _ w12 ⟨x, c, rfl, hc, ho, hq⟩ a h
   replace hf := hf.next hq
   replace hy := hy.ext hq
   replace ho62 := ho62.ext hq
   replace ho63 := ho63.ext hq
   clear hq
   rw [e1] at h
   refine st_move h rfl rfl ?_; clear h a; intro a h
   refine st_extract h rfl rfl rfl ?_; clear h a; intro a h
   refine st_extract h rfl rfl rfl ?_; clear h a; intro a h
   refine st_assign h rfl rfl ?_; clear h a; intro a h
   refine st_assign h rfl rfl ?_; clear h a; intro a h
   replace h : Ag a 97 [(9, _), (10, _), (11, _), (12, _), (13, _)] := h.sub (.cons rfl (.cons rfl (.cons rfl (.cons rfl (.cons rfl .nil)))))
   refine wnt ?_
   refine wp_seq ?_
   refine wR ?_
   refine st_move h rfl rfl ?_; clear h a; intro a h
   refine st_call h (evs_cons rfl evs_nil) co14 (shorten_ok _ _ _ ho.sl hy) rfl ?_; clear h a; rintro _ w13 ⟨rfl, hq⟩ a h
   replace hf := hf.next hq
   replace hy := hy.ext hq
   replace ho62 := ho62.ext hq
   replace ho63 := ho63.ext hq
   replace ho := ho.ext hq
   clear hq
   rw [e2] at h
   refine st_move h rfl rfl ?_; clear h a; intro a h
   refine st_extract h rfl rfl rfl ?_; clear h a; intro a h
   refine st_extract h rfl rfl rfl ?_; clear h a; intro a h
   refine st_assign h rfl rfl ?_; clear h a; intro a h
   refine st_assign h rfl rfl ?_; clear h a; intro a h
   replace h : Ag a 97 [(9, _), (10, _), (11, _), (13, _), (14, _), (15, _)] := h.sub (.cons rfl (.cons rfl (.cons rfl (.cons rfl (.cons rfl (.cons rfl .nil))))))
   refine wnt ?_
   refine wp_seq ?_
   refine wR ?_
   refine st_move h rfl rfl ?_; clear h a; intro a h
   refine st_ne h rfl rfl rfl ?_; clear h a; intro a h
   refine st_move h rfl rfl ?_; clear h a; intro a h
   first | refine guard_dec (D := 85) h rfl ?_ ?_ | refine guard_ndec (D := 85) h rfl ?_ ?_ | refine guard_any (D := 85) h rfl ?_ ?_
   ·clear h; intro g0 h
    refine gd_no h rfl rfl rfl rfl rfl rfl rfl rfl ?_; clear h a; intro a h
    refine gd_no h rfl rfl rfl rfl rfl rfl rfl rfl ?_; clear h a; intro a h
    refine st_pick_t h rfl rfl rfl rfl ?_; clear h a; intro a h
    refine st_move h rfl rfl ?_; clear h a; intro a h
    refine gd_no h rfl rfl rfl rfl rfl rfl rfl rfl ?_; clear h a; intro a h
    refine gd_no h rfl rfl rfl rfl rfl rfl rfl rfl ?_; clear h a; intro a h
    refine gd_no h rfl rfl rfl rfl rfl rfl rfl rfl ?_; clear h a; intro a h
    refine gd_no h rfl rfl rfl rfl rfl rfl rfl rfl ?_; clear h a; intro a h
    refine gd_no h rfl rfl rfl rfl rfl rfl rfl rfl ?_; clear h a; intro a h
    refine gd_no h rfl rfl rfl rfl rfl rfl rfl rfl ?_; clear h a; intro a h
    refine st_pick_t h rfl rfl rfl rfl ?_; clear h a; intro a h
    replace h : Ag a 97 [(9, _), (10, _), (11, _), (96, _)] := h.sub (.cons rfl (.cons rfl (.cons rfl (.cons rfl .nil))))
    refine wnt ?_
    refine cond_true h rfl ?_
    refine wp_seq ?_
    refine wR ?_
    refine st_assign h rfl rfl ?_; clear h a; intro a h
    replace h : Ag a 97 [(0, _)] := h.sub (.cons rfl .nil)
    refine wnt ?_
    refine wp_ret (ret_blk (ret_then (ret_then (ret_blk (ret_then ?_)))))
    refine ret1 h Tryd.results12 rfl ?_
    first | exact ⟨_, rfl, rfl, hf⟩ | (exfalso; first | omega | simp_all)
   ·clear h; intro g0 h
    refine gd_yes h rfl rfl rfl rfl rfl rfl ?_
    refine st_move h rfl rfl ?_; clear h a; intro a h
    refine gd_yes h rfl rfl rfl rfl rfl rfl ?_
    refine st_ne h rfl rfl rfl ?_; clear h a; intro a h
    refine st_pick_f h rfl rfl rfl rfl ?_; clear h a; intro a h
    refine st_move h rfl rfl ?_; clear h a; intro a h
    first | refine guard_dec (D := 89) h rfl ?_ ?_ | refine guard_ndec (D := 89) h rfl ?_ ?_ | refine guard_any (D := 89) h rfl ?_ ?_
    ·clear h; intro g1 h
     refine gd_no h rfl rfl rfl rfl rfl rfl rfl rfl ?_; clear h a; intro a h
     refine gd_no h rfl rfl rfl rfl rfl rfl rfl rfl ?_; clear h a; intro a h
     refine gd_no h rfl rfl rfl rfl rfl rfl rfl rfl ?_; clear h a; intro a h
     refine gd_no h rfl rfl rfl rfl rfl rfl rfl rfl ?_; clear h a; intro a h
     refine gd_no h rfl rfl rfl rfl rfl rfl rfl rfl ?_; clear h a; intro a h
     refine gd_no h rfl rfl rfl rfl rfl rfl rfl rfl ?_; clear h a; intro a h
     refine st_pick_t h rfl rfl rfl rfl ?_; clear h a; intro a h
     replace h : Ag a 97 [(9, _), (10, _), (11, _), (96, _)] := h.sub (.cons rfl (.cons rfl (.cons rfl (.cons rfl .nil))))
     refine wnt ?_
     refine cond_true h rfl ?_
     refine wp_seq ?_
     refine wR ?_
     refine st_assign h rfl rfl ?_; clear h a; intro a h
     replace h : Ag a 97 [(0, _)] := h.sub (.cons rfl .nil)
     refine wnt ?_
     refine wp_ret (ret_blk (ret_then (ret_then (ret_blk (ret_then ?_)))))
     refine ret1 h Tryd.results12 rfl ?_
     first | exact ⟨_, rfl, rfl, hf⟩ | (exfalso; first | omega | simp_all)
    ·clear h; intro g1 h
     refine gd_yes h rfl rfl rfl rfl rfl rfl ?_
     refine st_move h rfl rfl ?_; clear h a; intro a h
     refine gd_yes h rfl rfl rfl rfl rfl rfl ?_
     refine st_move h rfl rfl ?_; clear h a; intro a h
     refine gd_yes h rfl rfl rfl rfl rfl rfl ?_
     refine st_move h rfl rfl ?_; clear h a; intro a h
     refine gd_yes h rfl rfl rfl rfl rfl rfl ?_
     refine st_idx (p := i) h rfl rfl ho63.sl el48 (by omega) rfl (getD_get (show i < shortL.length by rw [show shortL.length = 5 from rfl]; omega) []) rfl ?_; clear h a; intro ad cc a h
     refine gd_yes h rfl rfl rfl rfl rfl rfl ?_
     refine st_loadC0 h rfl cc na9 rfl ?_; clear h a; intro a h
     refine gd_yes h rfl rfl rfl rfl rfl rfl ?_
     refine st_nes h rfl rfl rfl ?_; clear h a; intro a h
     refine st_pick_f h rfl rfl rfl rfl ?_; clear h a; intro a h
     replace h : Ag a 97 [(9, _), (10, _), (11, _), (96, _)] := h.sub (.cons rfl (.cons rfl (.cons rfl (.cons rfl .nil))))
     refine wnt ?_
     first | refine cond_dec h rfl (fun c6 => ?_) (fun c6 => ?_) | refine cond_ndec h rfl (fun c6 => ?_) (fun c6 => ?_) | refine cond_split h rfl (fun c6 => ?_) (fun c6 => ?_)
     ·refine id ?_
      refine wp_seq ?_
      refine wR ?_
      refine st_assign h rfl rfl ?_; clear h a; intro a h
      replace h : Ag a 97 [(0, _)] := h.sub (.cons rfl .nil)
      refine wnt ?_
      refine wp_ret (ret_blk (ret_then (ret_then (ret_blk (ret_then ?_)))))
      refine ret1 h Tryd.results12 rfl ?_
      first | exact ⟨_, rfl, rfl, hf⟩ | (exfalso; first | omega | simp_all)
     ·refine id ?_
      refine wp_skip (norm_blk (norm_then ?_))
      refine wR ?_
      refine st_move h rfl rfl ?_; clear h a; intro a h
      refine st_add h rfl rfl (by first | exact IntWalk.i64_in _ (by omega) | rfl) rfl ?_; clear h a; intro a h
      refine st_assign h rfl rfl ?_; clear h a; intro a h
      replace h : Ag a 97 [(9, _), (10, _), (11, _)] := h.sub (.cons rfl (.cons rfl (.cons rfl .nil)))
      refine wnt ?_
      exact ⟨i + 1, h.sub (.cons rfl (.cons rfl (.cons rfl .nil))), ⟨by omega, ho62, ho63, hy, hf⟩, by omega⟩
  ·refine id ?_
   refine wp_exit (exit_then (exit_then (exit_here (norm_then ?_))))
   refine wp_seq ?_
   refine wR ?_
   refine st_assign h rfl rfl ?_; clear h a; intro a h
   replace h : Ag a 97 [(0, _)] := h.sub (.cons rfl .nil)
   refine wnt ?_
   refine wp_ret ?_
   refine ret1 h Tryd.results12 rfl ?_
   first | exact ⟨_, rfl, rfl, hf⟩ | (exfalso; first | omega | simp_all)
end Go.Proofs.YtbbnampdgefljaaDoor
namespace Go.Proofs.YtbbnampdgefljaaDoor
open Go.Lw Go.G14
set_option maxHeartbeats 4000000 in
theorem refexpand_ok (l : List UInt8) (w0 : World) (hy : Sym w0) : Rets Tryd.prog 11 #[S l] w0 fun v w' => ∃ x R, v = .tuple #[x, .int .i64 R.2] ∧ (l.length ≤ 1024 → Mach l [] [] 0 true R) ∧ (1024 < l.length → R = ([], 3)) ∧ Sl encSt w' x R.1 ∧ Fr [] w0 w' := by
 have h00 := hy.pos
 refine enter [(0, S l)] Tryd.func11 rfl Tryd.ntmps11 rfl (.cons rfl .nil) ?_
 have hf := Fr.refl [] w0
 intro a h
 refine wp_seq ?_
 refine wR ?_
 refine st_assign h rfl rfl ?_; clear h a; intro a h
 refine st_assign h rfl rfl ?_; clear h a; intro a h
 replace h : Ag a 199 [(0, _)] := h.sub (.cons rfl .nil)
 refine wnt ?_
 refine wp_seq ?_
 refine wp_seq ?_
 refine wR ?_
 refine st_move h rfl rfl ?_; clear h a; intro a h
 refine st_len h rfl Tryd.underlying9 rfl ?_; clear h a; intro a h
 refine st_gt h rfl rfl rfl ?_; clear h a; intro a h
 replace h : Ag a 199 [(0, _), (18, _)] := h.sub (.cons rfl (.cons rfl .nil))
 refine wnt ?_
 first | refine cond_dec h rfl (fun c0 => ?_) (fun c0 => ?_) | refine cond_ndec h rfl (fun c0 => ?_) (fun c0 => ?_) | refine cond_split h rfl (fun c0 => ?_) (fun c0 => ?_)
 ·refine id ?_
  refine wp_seq ?_
  refine wR ?_
  refine st_assign h rfl rfl ?_; clear h a; intro a h
  refine st_assign h rfl rfl ?_; clear h a; intro a h
  replace h : Ag a 199 [(2, _), (3, _)] := h.sub (.cons rfl (.cons rfl .nil))
  refine wnt ?_
  refine wp_ret (ret_then ?_)
  refine ret2 h Tryd.results11 rfl rfl ?_
  exact ⟨_, rfl, _, ([], 3), rfl, (fun e => by omega), fun _ => rfl, Sl.nil _, hf⟩
 ·have hl : l.length ≤ 1024 := by omega
  refine wsn ?_
  refine wp_seq ?_
  refine wR ?_
  refine st_bslice ([((none, 0, 0) : SV)]) h (evs_cons rfl evs_nil) rfl rfl rfl el43 (Nat.le_of_ble_eq_true rfl) rfl ?_; clear h a; intro g_19 w1 hg ho19 hq hz a h
  have hl19 : w0.heap.size ≤ g_19 := by have := hf.size; omega
  replace hf := hf.next hq
  replace hy := hy.ext hq
  clear hq hz hg
  refine st_assign h rfl rfl ?_; clear h a; intro a h
  replace h : Ag a 199 [(0, _), (4, _)] := h.sub (.cons rfl (.cons rfl .nil))
  refine wnt ?_
  refine wp_seq ?_
  refine wR ?_
  refine st_assign h rfl rfl ?_; clear h a; intro a h
  refine wnt ?_
  refine wp_seq ?_
  refine wR ?_
  refine st_assign h rfl rfl ?_; clear h a; intro a h
  refine wnt ?_
  refine wp_seq ?_
  refine wp_block ?_
  refine loop (ι := RSt) (fun z => [(0, S l), (4, .slice (some ⟨z.g, 0, none⟩) (z.ps.length + 1) z.c), (5, .int .i64 (z.p : Int)), (6, .bool z.it)]) (fun z w' => Lw.Own Enc.sl 22 w0.heap.size w' (.slice (some ⟨z.g, 0, none⟩) (z.ps.length + 1) z.c) ((z.ps ++ [(z.u, z.t)]).map Prod.fst) ∧ Ins encSt 36 w0.heap.size w' [z.g] (z.ps ++ [(z.u, z.t)]) ∧ z.p ≤ l.length ∧ z.ps.length ≤ z.p ∧ (∀ q ∈ z.ps, q.2.length ≤ 17) ∧ z.t.length ≤ 17 ∧ (∀ R, Mach l (z.ps.map Prod.snd) z.t z.p z.it R → Mach l [] [] 0 true R) ∧ Sym w' ∧ Fr [] w0 w') (fun z => l.length - z.p) ⟨[], (none, 0, 0), [], 0, true, g_19, 1⟩ (h.sub (.cons rfl (.cons rfl (.cons rfl (.cons rfl .nil))))) ⟨ho19.low hl19, Ins.nil.pushNil, Nat.zero_le _, Nat.le_refl _, by simp, by simp, fun R m => m, hy, hf⟩ ?_
  clear h a ho19 hy hf
  rintro ⟨ps, u, t, p, it, g, c⟩ w2 a h ⟨hO, hI, hpl, hdp, hb17, ht17, hM, hy, hf⟩
  simp only at hO hI hpl hdp hb17 ht17 hM h
  have hcO := (Own.capO hO).1
  have hgl := (hO.blk g (by simp [blks])).1
  refine wp_seq ?_
  refine wp_seq ?_
  refine region_bool (r := 26) (L' := [(0, _), (4, _), (5, _), (6, _)]) (it = true ∨ p < l.length) h (.cons rfl (.cons rfl (.cons rfl (.cons rfl .nil)))) ?_ ?_
  ·refine id ?_
   refine st_move h rfl rfl ?_; clear h a; intro a h
   refine st_move h rfl rfl ?_; clear h a; intro a h
   first | refine guard_dec (D := 21) h rfl ?_ ?_ | refine guard_ndec (D := 21) h rfl ?_ ?_ | refine guard_any (D := 21) h rfl ?_ ?_
   ·clear h; intro g0 h
    refine gd_no h rfl rfl rfl rfl rfl rfl rfl rfl ?_; clear h a; intro a h
    refine gd_no h rfl rfl rfl rfl rfl rfl rfl rfl ?_; clear h a; intro a h
    refine gd_no h rfl rfl rfl rfl rfl rfl rfl rfl ?_; clear h a; intro a h
    refine gd_no h rfl rfl rfl rfl rfl rfl rfl rfl ?_; clear h a; intro a h
    refine st_pick_t h rfl rfl rfl rfl ?_; clear h a; intro a h
    exact wpList_nil (bool_end h rfl (by first | exact bt (.inl ‹it = true›) | exact bi ⟨fun e => .inr (by omega), fun e => by rcases e with e | e; exact absurd e (by simp [‹it = false›]); omega⟩) (.cons rfl (.cons rfl (.cons rfl (.cons rfl .nil)))))
   ·clear h; intro g0 h
    refine gd_yes h rfl rfl rfl rfl rfl rfl ?_
    refine st_move h rfl rfl ?_; clear h a; intro a h
    refine gd_yes h rfl rfl rfl rfl rfl rfl ?_
    refine st_move h rfl rfl ?_; clear h a; intro a h
    refine gd_yes h rfl rfl rfl rfl rfl rfl ?_
    refine st_len h rfl Tryd.underlying9 rfl ?_; clear h a; intro a h
    refine gd_yes h rfl rfl rfl rfl rfl rfl ?_
    refine st_lt h rfl rfl rfl ?_; clear h a; intro a h
    refine st_pick_f h rfl rfl rfl rfl ?_; clear h a; intro a h
    exact wpList_nil (bool_end h rfl (by first | exact bt (.inl ‹it = true›) | exact bi ⟨fun e => .inr (by omega), fun e => by rcases e with e | e; exact absurd e (by simp [‹it = false›]); omega⟩) (.cons rfl (.cons rfl (.cons rfl (.cons rfl .nil)))))
  ·clear h a; intro a h
   refine (norm_then ?_)
   first | refine cond_dec h rfl (fun c1 => ?_) (fun c1 => ?_) | refine cond_ndec h rfl (fun c1 => ?_) (fun c1 => ?_) | refine cond_split h rfl (fun c1 => ?_) (fun c1 => ?_)
   ·refine id ?_
    refine wsn ?_
    refine wp_block ?_
    refine wp_seq ?_
    refine wp_seq ?_
    refine wR ?_
    refine st_move h rfl rfl ?_; clear h a; intro a h
    refine st_not h rfl rfl ?_; clear h a; intro a h
    replace h : Ag a 199 [(0, _), (4, _), (5, _), (6, _), (28, _)] := h.sub (.cons rfl (.cons rfl (.cons rfl (.cons rfl (.cons rfl .nil)))))
    refine wnt ?_
    first | refine cond_dec h rfl (fun c2 => ?_) (fun c2 => ?_) | refine cond_ndec h rfl (fun c2 => ?_) (fun c2 => ?_) | refine cond_split h rfl (fun c2 => ?_) (fun c2 => ?_)
    ·obtain rfl : it = false := by simpa using c2
     have c1q : p < l.length := c1.elim (fun e => by cases e) id
     refine wp_seq ?_
     refine wp_seq ?_
     refine wR ?_
     refine st_move h rfl rfl ?_; clear h a; intro a h
     refine st_move h rfl rfl ?_; clear h a; intro a h
     refine st_index (p := p) h rfl rfl Tryd.underlying9 (by omega) (by omega) (by omega) rfl ?_; clear h a; intro hy31 a h
     refine st_eq h rfl rfl rfl ?_; clear h a; intro a h
     replace h : Ag a 199 [(0, _), (4, _), (5, _), (6, _), (32, _)] := h.sub (.cons rfl (.cons rfl (.cons rfl (.cons rfl (.cons rfl .nil)))))
     refine wnt ?_
     first | refine cond_dec h rfl (fun c3 => ?_) (fun c3 => ?_) | refine cond_ndec h rfl (fun c3 => ?_) (fun c3 => ?_) | refine cond_split h rfl (fun c3 => ?_) (fun c3 => ?_)
     ·refine id ?_
      refine wp_seq ?_
      refine wR ?_
      refine st_move h rfl rfl ?_; clear h a; intro a h
      refine st_add h rfl rfl (by first | exact IntWalk.i64_in _ (by omega) | rfl) rfl ?_; clear h a; intro a h
      refine st_assign h rfl rfl ?_; clear h a; intro a h
      replace h : Ag a 199 [(0, _), (4, _), (5, _)] := h.sub (.cons rfl (.cons rfl (.cons rfl .nil)))
      refine wnt ?_
      refine wp_seq ?_
      refine wR ?_
      refine st_assign h rfl rfl ?_; clear h a; intro a h
      refine wnt ?_
      refine wp_exit (exit_then (exit_then (exit_here (norm_then ?_))))
      exact ⟨⟨ps, u, t, p + 1, true, g, c⟩, h.sub (.cons rfl (.cons rfl (.cons rfl (.cons rfl .nil)))), ⟨hO, hI, by simp only; omega, by simp only; omega, hb17, ht17, fun R m => hM R (m_space c1q (byte_eq.1 c3) m), hy, hf⟩, by simp only; omega⟩
     ·refine id ?_
      refine wsn ?_
      refine wp_seq ?_
      refine wp_seq ?_
      refine region_bool (r := 57) (L' := [(0, _), (4, _), (5, _), (6, _)]) (¬ (((l.getD p 0).toNat : Int) = 93 ∧ 1 ≤ ps.length ∧ p + 1 < l.length ∧ ((l.getD (p + 1) 0).toNat : Int) = 120)) h (.cons rfl (.cons rfl (.cons rfl (.cons rfl .nil)))) ?_ ?_
      ·refine id ?_
       refine st_move h rfl rfl ?_; clear h a; intro a h
       refine st_move h rfl rfl ?_; clear h a; intro a h
       refine st_index (p := p) h rfl rfl Tryd.underlying9 (by omega) (by omega) (by omega) rfl ?_; clear h a; intro hy37 a h
       refine st_ne h rfl rfl rfl ?_; clear h a; intro a h
       refine st_move h rfl rfl ?_; clear h a; intro a h
       first | refine guard_dec (D := 39) h rfl ?_ ?_ | refine guard_ndec (D := 39) h rfl ?_ ?_ | refine guard_any (D := 39) h rfl ?_ ?_
       ·clear h; intro g1 h
        refine gd_no h rfl rfl rfl rfl rfl rfl rfl rfl ?_; clear h a; intro a h
        refine gd_no h rfl rfl rfl rfl rfl rfl rfl rfl ?_; clear h a; intro a h
        refine gd_no h rfl rfl rfl rfl rfl rfl rfl rfl ?_; clear h a; intro a h
        refine st_pick_t h rfl rfl rfl rfl ?_; clear h a; intro a h
        refine st_move h rfl rfl ?_; clear h a; intro a h
        refine gd_no h rfl rfl rfl rfl rfl rfl rfl rfl ?_; clear h a; intro a h
        refine gd_no h rfl rfl rfl rfl rfl rfl rfl rfl ?_; clear h a; intro a h
        refine gd_no h rfl rfl rfl rfl rfl rfl rfl rfl ?_; clear h a; intro a h
        refine gd_no h rfl rfl rfl rfl rfl rfl rfl rfl ?_; clear h a; intro a h
        refine gd_no h rfl rfl rfl rfl rfl rfl rfl rfl ?_; clear h a; intro a h
        refine st_pick_t h rfl rfl rfl rfl ?_; clear h a; intro a h
        refine st_move h rfl rfl ?_; clear h a; intro a h
        refine gd_no h rfl rfl rfl rfl rfl rfl rfl rfl ?_; clear h a; intro a h
        refine gd_no h rfl rfl rfl rfl rfl rfl rfl rfl ?_; clear h a; intro a h
        refine gd_no h rfl rfl rfl rfl rfl rfl rfl rfl ?_; clear h a; intro a h
        refine gd_no h rfl rfl rfl rfl rfl rfl rfl rfl ?_; clear h a; intro a h
        refine gd_no h rfl rfl rfl rfl rfl rfl rfl rfl ?_; clear h a; intro a h
        refine st_pick_t h rfl rfl rfl rfl ?_; clear h a; intro a h
        exact wpList_nil (bool_end h rfl (by first | exact bt (by omega) | exact bf (by omega) | exact bi (by omega) | exact bn (by omega)) (.cons rfl (.cons rfl (.cons rfl (.cons rfl .nil)))))
       ·clear h; intro g1 h
        refine gd_yes h rfl rfl rfl rfl rfl rfl ?_
        refine st_move h rfl rfl ?_; clear h a; intro a h
        refine gd_yes h rfl rfl rfl rfl rfl rfl ?_
        refine st_lenS h rfl Tryd.underlying43 rfl ?_; clear h a; intro a h
        refine gd_yes h rfl rfl rfl rfl rfl rfl ?_
        refine st_lt h rfl rfl rfl ?_; clear h a; intro a h
        refine st_pick_f h rfl rfl rfl rfl ?_; clear h a; intro a h
        refine st_move h rfl rfl ?_; clear h a; intro a h
        first | refine guard_dec (D := 44) h rfl ?_ ?_ | refine guard_ndec (D := 44) h rfl ?_ ?_ | refine guard_any (D := 44) h rfl ?_ ?_
        ·clear h; intro g2 h
         refine gd_no h rfl rfl rfl rfl rfl rfl rfl rfl ?_; clear h a; intro a h
         refine gd_no h rfl rfl rfl rfl rfl rfl rfl rfl ?_; clear h a; intro a h
         refine gd_no h rfl rfl rfl rfl rfl rfl rfl rfl ?_; clear h a; intro a h
         refine gd_no h rfl rfl rfl rfl rfl rfl rfl rfl ?_; clear h a; intro a h
         refine gd_no h rfl rfl rfl rfl rfl rfl rfl rfl ?_; clear h a; intro a h
         refine st_pick_t h rfl rfl rfl rfl ?_; clear h a; intro a h
         refine st_move h rfl rfl ?_; clear h a; intro a h
         refine gd_no h rfl rfl rfl rfl rfl rfl rfl rfl ?_; clear h a; intro a h
         refine gd_no h rfl rfl rfl rfl rfl rfl rfl rfl ?_; clear h a; intro a h
         refine gd_no h rfl rfl rfl rfl rfl rfl rfl rfl ?_; clear h a; intro a h
         refine gd_no h rfl rfl rfl rfl rfl rfl rfl rfl ?_; clear h a; intro a h
         refine gd_no h rfl rfl rfl rfl rfl rfl rfl rfl ?_; clear h a; intro a h
         refine st_pick_t h rfl rfl rfl rfl ?_; clear h a; intro a h
         exact wpList_nil (bool_end h rfl (by first | exact bt (by omega) | exact bf (by omega) | exact bi (by omega) | exact bn (by omega)) (.cons rfl (.cons rfl (.cons rfl (.cons rfl .nil)))))
        ·clear h; intro g2 h
         refine gd_yes h rfl rfl rfl rfl rfl rfl ?_
         refine st_move h rfl rfl ?_; clear h a; intro a h
         refine gd_yes h rfl rfl rfl rfl rfl rfl ?_
         refine st_add h rfl rfl (by first | exact IntWalk.i64_in _ (by omega) | rfl) rfl ?_; clear h a; intro a h
         refine gd_yes h rfl rfl rfl rfl rfl rfl ?_
         refine st_move h rfl rfl ?_; clear h a; intro a h
         refine gd_yes h rfl rfl rfl rfl rfl rfl ?_
         refine st_len h rfl Tryd.underlying9 rfl ?_; clear h a; intro a h
         refine gd_yes h rfl rfl rfl rfl rfl rfl ?_
         refine st_ge h rfl rfl rfl ?_; clear h a; intro a h
         refine st_pick_f h rfl rfl rfl rfl ?_; clear h a; intro a h
         refine st_move h rfl rfl ?_; clear h a; intro a h
         first | refine guard_dec (D := 51) h rfl ?_ ?_ | refine guard_ndec (D := 51) h rfl ?_ ?_ | refine guard_any (D := 51) h rfl ?_ ?_
         ·clear h; intro g3 h
          refine gd_no h rfl rfl rfl rfl rfl rfl rfl rfl ?_; clear h a; intro a h
          refine gd_no h rfl rfl rfl rfl rfl rfl rfl rfl ?_; clear h a; intro a h
          refine gd_no h rfl rfl rfl rfl rfl rfl rfl rfl ?_; clear h a; intro a h
          refine gd_no h rfl rfl rfl rfl rfl rfl rfl rfl ?_; clear h a; intro a h
          refine gd_no h rfl rfl rfl rfl rfl rfl rfl rfl ?_; clear h a; intro a h
          refine st_pick_t h rfl rfl rfl rfl ?_; clear h a; intro a h
          exact wpList_nil (bool_end h rfl (by first | exact bt (by omega) | exact bf (by omega) | exact bi (by omega) | exact bn (by omega)) (.cons rfl (.cons rfl (.cons rfl (.cons rfl .nil)))))
         ·clear h; intro g3 h
          refine gd_yes h rfl rfl rfl rfl rfl rfl ?_
          refine st_move h rfl rfl ?_; clear h a; intro a h
          refine gd_yes h rfl rfl rfl rfl rfl rfl ?_
          refine st_move h rfl rfl ?_; clear h a; intro a h
          refine gd_yes h rfl rfl rfl rfl rfl rfl ?_
          refine st_add h rfl rfl (by first | exact IntWalk.i64_in _ (by omega) | rfl) rfl ?_; clear h a; intro a h
          refine gd_yes h rfl rfl rfl rfl rfl rfl ?_
          refine st_index (p := p + 1) h rfl rfl Tryd.underlying9 (by omega) (by omega) (by omega) rfl ?_; clear h a; intro hy55 a h
          refine gd_yes h rfl rfl rfl rfl rfl rfl ?_
          refine st_ne h rfl rfl rfl ?_; clear h a; intro a h
          refine st_pick_f h rfl rfl rfl rfl ?_; clear h a; intro a h
          exact wpList_nil (bool_end h rfl (by first | exact bt (by omega) | exact bf (by omega) | exact bi (by omega) | exact bn (by omega)) (.cons rfl (.cons rfl (.cons rfl (.cons rfl .nil)))))
      ·clear h a; intro a h
       refine (norm_then ?_)
       first | refine cond_dec h rfl (fun c4 => ?_) (fun c4 => ?_) | refine cond_ndec h rfl (fun c4 => ?_) (fun c4 => ?_) | refine cond_split h rfl (fun c4 => ?_) (fun c4 => ?_)
       ·refine id ?_
        refine wp_seq ?_
        refine wR ?_
        refine st_assign h rfl rfl ?_; clear h a; intro a h
        refine st_assign h rfl rfl ?_; clear h a; intro a h
        replace h : Ag a 199 [(2, _), (3, _)] := h.sub (.cons rfl (.cons rfl .nil))
        refine wnt ?_
        refine wp_ret (ret_then (ret_then (ret_blk (ret_then (ret_blk (ret_then ?_))))))
        refine ret2 h Tryd.results11 rfl rfl ?_
        exact ⟨_, rfl, _, ([], 4), rfl, fun _ => hM _ (m_bad c1q (fun e => c3 (by rw [e]; rfl)) (fun e => c4 ⟨by rw [e.1]; rfl, List.length_pos_iff.2 (fun e2 => e.2.1 (by rw [e2]; rfl)), e.2.2.1, by rw [e.2.2.2]; rfl⟩)), (fun e => by omega), Sl.nil _, hf⟩
       ·have c4q : ((l.getD p 0).toNat : Int) = 93 ∧ 1 ≤ ps.length ∧ p + 1 < l.length ∧ ((l.getD (p + 1) 0).toNat : Int) = 120 := Decidable.not_not.1 c4
        have hends : ends l (ps.map Prod.snd) p := ⟨byte_eq.1 c4q.1, (fun e => by have := congrArg List.length e; simp at this; rw [this] at c4q; simp at c4q), c4q.2.2.1, byte_eq.1 c4q.2.2.2⟩
        refine wsn ?_
        refine wp_seq ?_
        refine wR ?_
        refine st_move h rfl rfl ?_; clear h a; intro a h
        refine st_add h rfl rfl (by first | exact IntWalk.i64_in _ (by omega) | rfl) rfl ?_; clear h a; intro a h
        refine st_assign h rfl rfl ?_; clear h a; intro a h
        replace h : Ag a 199 [(0, _), (4, _), (5, _), (6, _)] := h.sub (.cons rfl (.cons rfl (.cons rfl (.cons rfl .nil))))
        refine wnt ?_
        refine wp_seq ?_
        refine wR ?_
        refine st_move h rfl rfl ?_; clear h a; intro a h
        refine st_assign h rfl rfl ?_; clear h a; intro a h
        replace h : Ag a 199 [(0, _), (4, _), (5, _), (6, _), (7, _)] := h.sub (.cons rfl (.cons rfl (.cons rfl (.cons rfl (.cons rfl .nil)))))
        refine wnt ?_
        refine wp_seq ?_
        refine wp_block ?_
        refine loop (ι := Nat) (fun k => [(0, S l), (4, .slice (some ⟨g, 0, none⟩) (ps.length + 1) c), (6, .bool false), (7, .int .i64 ((p : Int) + 2)), (5, .int .i64 (k : Int))]) (fun k w' => p + 2 ≤ k ∧ k ≤ l.length ∧ wordEnd l k = wordEnd l (p + 2) ∧ Lw.Own Enc.sl 22 w0.heap.size w' (.slice (some ⟨g, 0, none⟩) (ps.length + 1) c) ((ps ++ [(u, t)]).map Prod.fst) ∧ Ins encSt 36 w0.heap.size w' [g] (ps ++ [(u, t)]) ∧ Sym w' ∧ Fr [] w0 w') (fun k => l.length - k) (p + 2) (h.sub (.cons rfl (.cons rfl (.cons rfl (.cons rfl (.cons rfl .nil)))))) ⟨Nat.le_refl _, by omega, rfl, hO, hI, hy, hf⟩ ?_
        clear h a hO hI hy hf
        rintro k w3 a h ⟨hpk, hkl, hwe, hO, hI, hy, hf⟩
        refine wp_seq ?_
        refine wp_seq ?_
        refine region_bool (r := 76) (L' := [(0, _), (4, _), (5, _), (6, _), (7, _)]) (k < l.length ∧ ((l.getD k 0).toNat : Int) ≠ 32 ∧ ((l.getD k 0).toNat : Int) ≠ 93) h (.cons rfl (.cons rfl (.cons rfl (.cons rfl (.cons rfl .nil))))) ?_ ?_
        ·refine id ?_
         refine st_move h rfl rfl ?_; clear h a; intro a h
         refine st_move h rfl rfl ?_; clear h a; intro a h
         refine st_len h rfl Tryd.underlying9 rfl ?_; clear h a; intro a h
         refine st_lt h rfl rfl rfl ?_; clear h a; intro a h
         refine st_move h rfl rfl ?_; clear h a; intro a h
         first | refine guard_dec (D := 65) h rfl ?_ ?_ | refine guard_ndec (D := 65) h rfl ?_ ?_ | refine guard_any (D := 65) h rfl ?_ ?_
         ·clear h; intro g4 h
          refine gd_yes h rfl rfl rfl rfl rfl rfl ?_
          refine st_move h rfl rfl ?_; clear h a; intro a h
          refine gd_yes h rfl rfl rfl rfl rfl rfl ?_
          refine st_move h rfl rfl ?_; clear h a; intro a h
          refine gd_yes h rfl rfl rfl rfl rfl rfl ?_
          refine st_index (p := k) h rfl rfl Tryd.underlying9 (by omega) (by omega) (by omega) rfl ?_; clear h a; intro hy68 a h
          refine gd_yes h rfl rfl rfl rfl rfl rfl ?_
          refine st_ne h rfl rfl rfl ?_; clear h a; intro a h
          refine st_pick_t h rfl rfl rfl rfl ?_; clear h a; intro a h
          refine st_move h rfl rfl ?_; clear h a; intro a h
          first | refine guard_dec (D := 71) h rfl ?_ ?_ | refine guard_ndec (D := 71) h rfl ?_ ?_ | refine guard_any (D := 71) h rfl ?_ ?_
          ·clear h; intro g5 h
           refine gd_yes h rfl rfl rfl rfl rfl rfl ?_
           refine st_move h rfl rfl ?_; clear h a; intro a h
           refine gd_yes h rfl rfl rfl rfl rfl rfl ?_
           refine st_move h rfl rfl ?_; clear h a; intro a h
           refine gd_yes h rfl rfl rfl rfl rfl rfl ?_
           refine st_index (p := k) h rfl rfl Tryd.underlying9 (by omega) (by omega) (by omega) rfl ?_; clear h a; intro hy74 a h
           refine gd_yes h rfl rfl rfl rfl rfl rfl ?_
           refine st_ne h rfl rfl rfl ?_; clear h a; intro a h
           refine st_pick_t h rfl rfl rfl rfl ?_; clear h a; intro a h
           exact wpList_nil (bool_end h rfl (by first | exact bt (by omega) | exact bf (by omega) | exact bi (by omega) | exact bn (by omega)) (.cons rfl (.cons rfl (.cons rfl (.cons rfl (.cons rfl .nil))))))
          ·clear h; intro g5 h
           refine gd_no h rfl rfl rfl rfl rfl rfl rfl rfl ?_; clear h a; intro a h
           refine gd_no h rfl rfl rfl rfl rfl rfl rfl rfl ?_; clear h a; intro a h
           refine gd_no h rfl rfl rfl rfl rfl rfl rfl rfl ?_; clear h a; intro a h
           refine gd_no h rfl rfl rfl rfl rfl rfl rfl rfl ?_; clear h a; intro a h
           refine st_pick_f h rfl rfl rfl rfl ?_; clear h a; intro a h
           exact wpList_nil (bool_end h rfl (by first | exact bt (by omega) | exact bf (by omega) | exact bi (by omega) | exact bn (by omega)) (.cons rfl (.cons rfl (.cons rfl (.cons rfl (.cons rfl .nil))))))
         ·clear h; intro g4 h
          refine gd_no h rfl rfl rfl rfl rfl rfl rfl rfl ?_; clear h a; intro a h
          refine gd_no h rfl rfl rfl rfl rfl rfl rfl rfl ?_; clear h a; intro a h
          refine gd_no h rfl rfl rfl rfl rfl rfl rfl rfl ?_; clear h a; intro a h
          refine gd_no h rfl rfl rfl rfl rfl rfl rfl rfl ?_; clear h a; intro a h
          refine st_pick_f h rfl rfl rfl rfl ?_; clear h a; intro a h
          refine st_move h rfl rfl ?_; clear h a; intro a h
          refine gd_no h rfl rfl rfl rfl rfl rfl rfl rfl ?_; clear h a; intro a h
          refine gd_no h rfl rfl rfl rfl rfl rfl rfl rfl ?_; clear h a; intro a h
          refine gd_no h rfl rfl rfl rfl rfl rfl rfl rfl ?_; clear h a; intro a h
          refine gd_no h rfl rfl rfl rfl rfl rfl rfl rfl ?_; clear h a; intro a h
          refine st_pick_f h rfl rfl rfl rfl ?_; clear h a; intro a h
          exact wpList_nil (bool_end h rfl (by first | exact bt (by omega) | exact bf (by omega) | exact bi (by omega) | exact bn (by omega)) (.cons rfl (.cons rfl (.cons rfl (.cons rfl (.cons rfl .nil))))))
        ·clear h a; intro a h
         refine (norm_then ?_)
         first | refine cond_dec h rfl (fun c5 => ?_) (fun c5 => ?_) | refine cond_ndec h rfl (fun c5 => ?_) (fun c5 => ?_) | refine cond_split h rfl (fun c5 => ?_) (fun c5 => ?_)
         ·have c5' : k < l.length ∧ l.getD k 0 ≠ 32 ∧ l.getD k 0 ≠ 93 := ⟨c5.1, fun e => c5.2.1 (by rw [e]; rfl), fun e => c5.2.2 (by rw [e]; rfl)⟩
          refine wsn ?_
          refine wp_block ?_
          refine wR ?_
          refine st_move h rfl rfl ?_; clear h a; intro a h
          refine st_add h rfl rfl (by first | exact IntWalk.i64_in _ (by omega) | rfl) rfl ?_; clear h a; intro a h
          refine st_assign h rfl rfl ?_; clear h a; intro a h
          replace h : Ag a 199 [(0, _), (4, _), (5, _), (6, _), (7, _)] := h.sub (.cons rfl (.cons rfl (.cons rfl (.cons rfl (.cons rfl .nil)))))
          refine wpList_nil (norm_blk (norm_then ?_))
          exact ⟨k + 1, h.sub (.cons rfl (.cons rfl (.cons rfl (.cons rfl (.cons rfl .nil))))), ⟨by omega, by omega, by rw [← hwe, wordEnd_next c5'], hO, hI, hy, hf⟩, by omega⟩
         ·have hke : wordEnd l (p + 2) = k := by
           rw [← hwe]; exact wordEnd_here (fun e => c5 ⟨e.1, fun h => e.2.1 (byte_eq.1 h), fun h => e.2.2 (byte_eq.1 h)⟩)
          have hwd : (l.take k).drop (p + 2) = wordS l (p + 2) := by rw [wordS, hke]
          clear hwe
          refine wp_exit (exit_then (exit_then (exit_here (norm_then ?_))))
          refine wp_seq ?_
          refine wR ?_
          refine st_move h rfl rfl ?_; clear h a; intro a h
          refine st_move h rfl rfl ?_; clear h a; intro a h
          refine st_move h rfl rfl ?_; clear h a; intro a h
          refine st_ss_lh (p := p + 2) (p' := k) h rfl rfl rfl Tryd.underlying9 (by omega) (by omega) (by omega) (by omega) (by omega) rfl ?_; clear h a; intro a h
          refine st_call h (evs_cons rfl (evs_cons rfl evs_nil)) co27 (number_ok _ _ _) rfl ?_; clear h a; rintro _ _ ⟨rfl, rfl⟩ a h
          rw [hwd] at h
          refine st_assign h rfl rfl ?_; clear h a; intro a h
          replace h : Ag a 199 [(0, _), (4, _), (5, _), (6, _), (8, _)] := h.sub (.cons rfl (.cons rfl (.cons rfl (.cons rfl (.cons rfl .nil)))))
          refine wnt ?_
          refine wp_seq ?_
          refine wp_seq ?_
          refine wR ?_
          refine st_move h rfl rfl ?_; clear h a; intro a h
          refine st_eq h rfl rfl rfl ?_; clear h a; intro a h
          replace h : Ag a 199 [(0, _), (4, _), (5, _), (6, _), (8, _), (85, _)] := h.sub (.cons rfl (.cons rfl (.cons rfl (.cons rfl (.cons rfl (.cons rfl .nil))))))
          refine wnt ?_
          first | refine cond_dec h rfl (fun c6 => ?_) (fun c6 => ?_) | refine cond_ndec h rfl (fun c6 => ?_) (fun c6 => ?_) | refine cond_split h rfl (fun c6 => ?_) (fun c6 => ?_)
          ·refine id ?_
           refine wp_seq ?_
           refine wR ?_
           refine st_assign h rfl rfl ?_; clear h a; intro a h
           refine st_assign h rfl rfl ?_; clear h a; intro a h
           replace h : Ag a 199 [(2, _), (3, _)] := h.sub (.cons rfl (.cons rfl .nil))
           refine wnt ?_
           refine wp_ret (ret_then (ret_then (ret_blk (ret_then (ret_blk (ret_then ?_))))))
           refine ret2 h Tryd.results11 rfl rfl ?_
           exact ⟨_, rfl, _, ([], 4), rfl, fun _ => hM _ (m_num hends c6), (fun e => by omega), Sl.nil _, hf⟩
          ·have hnr := number_rng (wordS l (p + 2))
           obtain ⟨n, hn⟩ : ∃ n : Nat, numberS (wordS l (p + 2)) 16 = (n : Int) := ⟨(numberS (wordS l (p + 2)) 16).toNat, by omega⟩
           have hn0 := c6
           rw [hn] at h hnr
           obtain ⟨ps', v, s, rfl⟩ : ∃ ps' v s, ps = ps' ++ [(v, s)] := ⟨ps.dropLast, (ps.getLast (by intro e; subst e; simp at c4q)).1, (ps.getLast (by intro e; subst e; simp at c4q)).2, (List.dropLast_concat_getLast _).symm⟩
           rename List (SV × List Stitch) => ps
           have hs17 : s.length ≤ 17 := hb17 (v, s) (by simp)
           simp only [List.length_append, List.length_singleton] at h hdp hcO hO
           rw [List.map_append] at hends
           refine wsn ?_
           refine wp_seq ?_
           refine wR ?_
           refine st_move h rfl rfl ?_; clear h a; intro a h
           refine st_move h rfl rfl ?_; clear h a; intro a h
           refine st_lenS h rfl Tryd.underlying43 rfl ?_; clear h a; intro a h
           refine st_sub h rfl rfl (by first | exact IntWalk.i64_in _ (by omega) | rfl) rfl ?_; clear h a; intro a h
           refine st_idx (p := ps.length + 1) (e := u) h rfl rfl hO.sl el43 (by omega) (by omega) (top_get (by simp)) rfl ?_; clear h a; intro ad cc a h
           refine st_loadC0 (v := slv u) h rfl cc na22 rfl ?_; clear h a; intro a h
           refine st_assign h rfl rfl ?_; clear h a; intro a h
           replace h : Ag a 199 [(0, _), (4, _), (5, _), (6, _), (8, _), (9, _)] := h.sub (.cons rfl (.cons rfl (.cons rfl (.cons rfl (.cons rfl (.cons rfl .nil))))))
           refine wnt ?_
           refine wp_seq ?_
           refine wR ?_
           refine st_move h rfl rfl ?_; clear h a; intro a h
           refine st_move h rfl rfl ?_; clear h a; intro a h
           refine st_lenS h rfl Tryd.underlying43 rfl ?_; clear h a; intro a h
           refine st_sub h rfl rfl (by first | exact IntWalk.i64_in _ (by omega) | rfl) rfl ?_; clear h a; intro a h
           refine st_sl_h (p := ps.length + 1) h rfl rfl el43 (by omega) (by omega) (by omega) rfl ?_; clear h a; intro a h
           replace hO := Own.pop hO (m := ps.length + 1) (by simp)
           replace hI := hI.swap
           refine st_assign h rfl rfl ?_; clear h a; intro a h
           replace h : Ag a 199 [(0, _), (4, _), (5, _), (6, _), (8, _), (9, _)] := h.sub (.cons rfl (.cons rfl (.cons rfl (.cons rfl (.cons rfl (.cons rfl .nil))))))
           refine wnt ?_
           refine wp_seq ?_
           refine wR ?_
           refine st_move h rfl rfl ?_; clear h a; intro a h
           refine st_move h rfl rfl ?_; clear h a; intro a h
           refine st_lenS h rfl Tryd.underlying43 rfl ?_; clear h a; intro a h
           refine st_sub h rfl rfl (by first | exact IntWalk.i64_in _ (by omega) | rfl) rfl ?_; clear h a; intro a h
           refine st_idx (p := ps.length) (e := v) h rfl rfl hO.sl el43 (by omega) (by omega) (top_get (rfl)) rfl ?_; clear h a; intro ad cc a h
           refine st_loadC0 (v := slv v) h rfl cc na22 rfl ?_; clear h a; intro a h
           refine st_assign h rfl rfl ?_; clear h a; intro a h
           replace h : Ag a 199 [(0, _), (4, _), (5, _), (6, _), (8, _), (9, _), (10, _)] := h.sub (.cons rfl (.cons rfl (.cons rfl (.cons rfl (.cons rfl (.cons rfl (.cons rfl .nil)))))))
           refine wnt ?_
           refine wp_seq ?_
           refine wp_seq ?_
           refine wR ?_
           refine st_assign h rfl rfl ?_; clear h a; intro a h
           refine wnt ?_
           refine wp_block ?_
           refine loop (ι := Nat × SV) (fun z => [(0, S l), (4, .slice (some ⟨g, 0, none⟩) (ps.length + 1) c), (5, .int .i64 (k : Int)), (6, .bool false), (8, .int .i64 (n : Int)), (9, slv u), (10, slv z.2), (11, .int .i64 (z.1 : Int))]) (fun z w' => z.1 ≤ n ∧ (s ++ timesS t z.1).length ≤ 33 ∧ Lw.Own Enc.sl 22 w0.heap.size w' (.slice (some ⟨g, 0, none⟩) (ps.length + 1) c) ((ps ++ [(v, s)]).map Prod.fst) ∧ Ins encSt 36 w0.heap.size w' [g] (ps ++ [(u, t)] ++ [(z.2, s ++ timesS t z.1)]) ∧ Sym w' ∧ Fr [] w0 w') (fun z => n - z.1) (0, v) (h.sub (.cons rfl (.cons rfl (.cons rfl (.cons rfl (.cons rfl (.cons rfl (.cons rfl (.cons rfl .nil))))))))) ⟨Nat.zero_le _, by rw [show timesS t 0 = [] from rfl, List.append_nil]; omega, hO, by rw [show timesS t 0 = [] from rfl, List.append_nil]; exact hI, hy, hf⟩ ?_
           clear h a hO hI hy hf
           rintro ⟨j, v1⟩ w4 a h ⟨hjn, h33, hO, hI, hy, hf⟩
           simp only at hjn h33 hI h
           have hvl := Own.lens hI.last
           refine wp_seq ?_
           refine wp_seq ?_
           refine region_bool (r := 110) (L' := [(0, _), (4, _), (5, _), (6, _), (8, _), (9, _), (10, _), (11, _)]) (j < n ∧ (s ++ timesS t j).length < 17) h (.cons rfl (.cons rfl (.cons rfl (.cons rfl (.cons rfl (.cons rfl (.cons rfl (.cons rfl .nil)))))))) ?_ ?_
           ·refine id ?_
            refine st_move h rfl rfl ?_; clear h a; intro a h
            refine st_move h rfl rfl ?_; clear h a; intro a h
            refine st_lt h rfl rfl rfl ?_; clear h a; intro a h
            refine st_move h rfl rfl ?_; clear h a; intro a h
            first | refine guard_dec (D := 106) h rfl ?_ ?_ | refine guard_ndec (D := 106) h rfl ?_ ?_ | refine guard_any (D := 106) h rfl ?_ ?_
            ·clear h; intro g6 h
             refine gd_yes h rfl rfl rfl rfl rfl rfl ?_
             refine st_move h rfl rfl ?_; clear h a; intro a h
             refine gd_yes h rfl rfl rfl rfl rfl rfl ?_
             refine st_lenS h rfl Tryd.underlying22 rfl ?_; clear h a; intro a h
             refine gd_yes h rfl rfl rfl rfl rfl rfl ?_
             refine st_lt h rfl rfl rfl ?_; clear h a; intro a h
             refine st_pick_t h rfl rfl rfl rfl ?_; clear h a; intro a h
             exact wpList_nil (bool_end h rfl (by first | exact bt (by omega) | exact bf (by omega) | exact bi (by omega) | exact bn (by omega)) (.cons rfl (.cons rfl (.cons rfl (.cons rfl (.cons rfl (.cons rfl (.cons rfl (.cons rfl .nil)))))))))
            ·clear h; intro g6 h
             refine gd_no h rfl rfl rfl rfl rfl rfl rfl rfl ?_; clear h a; intro a h
             refine gd_no h rfl rfl rfl rfl rfl rfl rfl rfl ?_; clear h a; intro a h
             refine gd_no h rfl rfl rfl rfl rfl rfl rfl rfl ?_; clear h a; intro a h
             refine st_pick_f h rfl rfl rfl rfl ?_; clear h a; intro a h
             exact wpList_nil (bool_end h rfl (by first | exact bt (by omega) | exact bf (by omega) | exact bi (by omega) | exact bn (by omega)) (.cons rfl (.cons rfl (.cons rfl (.cons rfl (.cons rfl (.cons rfl (.cons rfl (.cons rfl .nil)))))))))
           ·clear h a; intro a h
            refine (norm_then ?_)
            first | refine cond_dec h rfl (fun c7 => ?_) (fun c7 => ?_) | refine cond_ndec h rfl (fun c7 => ?_) (fun c7 => ?_) | refine cond_split h rfl (fun c7 => ?_) (fun c7 => ?_)
            ·refine id ?_
             refine wsn ?_
             refine wp_seq ?_
             refine wp_block ?_
             refine wR ?_
             refine st_move h rfl rfl ?_; clear h a; intro a h
             refine st_move h rfl rfl ?_; clear h a; intro a h
             have htk : (timesS t j).length ≤ 16 * 17 := by rw [times_len]; exact Nat.mul_le_mul (by omega) ht17
             have hgw : ∀ k ∈ [g], k < w4.heap.size := fun k hk => by simp at hk; subst hk; exact (hO.blk _ (by simp [blks])).2
             refine st_append h rfl rfl hI.last hI.left.last.sl el22 (by unfold maxLen; omega) (by omega) (by have := hf.size; omega) rfl ?_; clear h a; intro v3 w5 ho3 hq hx3 a h
             have hbl := hI.last.blk
             replace hO := hO.fr hq (fun k hk hk2 => hI.lastOff k hk (by simpa [blks] using hk2))
             replace hy := hy.fr hq (fun hb => by have := (hbl _ hb).1; omega)
             replace hf := hf.step hq (fun k hk hlt => absurd (hbl k hk).1 (by omega))
             obtain ⟨u3, rfl, hI3⟩ := Ins.app hI ho3 hq hx3 hgw
             rw [show s ++ timesS t j ++ t = s ++ timesS t (j + 1) by rw [times_succ, List.append_assoc]] at hI3
             clear hI hq hx3 ho3 hbl hgw; have hI := hI3; clear hI3
             refine st_assign h rfl rfl ?_; clear h a; intro a h
             replace h : Ag a 199 [(0, _), (4, _), (5, _), (6, _), (8, _), (9, _), (10, _), (11, _)] := h.sub (.cons rfl (.cons rfl (.cons rfl (.cons rfl (.cons rfl (.cons rfl (.cons rfl (.cons rfl .nil))))))))
             refine wpList_nil (norm_blk (norm_then ?_))
             refine wR ?_
             refine st_move h rfl rfl ?_; clear h a; intro a h
             refine st_add h rfl rfl (by first | exact IntWalk.i64_in _ (by omega) | rfl) rfl ?_; clear h a; intro a h
             refine st_assign h rfl rfl ?_; clear h a; intro a h
             replace h : Ag a 199 [(0, _), (4, _), (5, _), (6, _), (8, _), (9, _), (10, _), (11, _)] := h.sub (.cons rfl (.cons rfl (.cons rfl (.cons rfl (.cons rfl (.cons rfl (.cons rfl (.cons rfl .nil))))))))
             refine wnt ?_
             exact ⟨(j + 1, u3), h.sub (.cons rfl (.cons rfl (.cons rfl (.cons rfl (.cons rfl (.cons rfl (.cons rfl (.cons rfl .nil)))))))), ⟨by simp only; omega, by simp only; rw [times_succ, ← List.append_assoc, List.length_append]; omega, hO, hI, hy, hf⟩, by simp only; omega⟩
            ·refine id ?_
             refine wp_exit (exit_then (exit_then (exit_here (norm_then ?_))))
             refine wp_seq ?_
             refine wR ?_
             refine st_move h rfl rfl ?_; clear h a; intro a h
             refine st_move h rfl rfl ?_; clear h a; intro a h
             refine st_lenS h rfl Tryd.underlying43 rfl ?_; clear h a; intro a h
             refine st_sub h rfl rfl (by first | exact IntWalk.i64_in _ (by omega) | rfl) rfl ?_; clear h a; intro a h
             refine st_move h rfl rfl ?_; clear h a; intro a h
             refine st_move h rfl rfl ?_; clear h a; intro a h
             refine st_lenS h rfl Tryd.underlying22 rfl ?_; clear h a; intro a h
             refine st_min h rfl rfl rfl ?_; clear h a; intro a h
             refine st_sl_h (p := min (s ++ timesS t j).length 17) h rfl rfl el22 (by omega) (by omega) (by omega) rfl ?_; clear h a; intro a h
             refine st_idxS (p := ps.length) h rfl rfl el43 (by omega) (by omega) (by omega) rfl ?_; clear h a; intro a h
             refine st_storeO (v1.1, min (s ++ timesS t j).length 17, v1.2.2) h rfl rfl hO (by simp) rfl sz22 ?_; clear h a; intro w6 hO2 hq hz a h
             replace hO := Own.reTop hO2 rfl ((s ++ timesS t j).take 17)
             replace hI := ((hI.cut (u := v1) (A := v1.1) (n := v1.2.1) (c := v1.2.2) (c' := v1.2.2) rfl (m := min (s ++ timesS t j).length 17) (by omega) (Nat.le_refl _) (by omega)).swap).left
             rw [take_min] at hI
             replace hI := hI.fr hq (fun k hk q hq2 hk2 => hI.off q hq2 k hk2 hk)
             replace hy := hy.fr hq (by simp; omega)
             replace hf := hf.step hq (by simp; omega)
             clear hq hz hO2
             replace h : Ag a 199 [(0, _), (4, _), (5, _), (6, _)] := h.sub (.cons rfl (.cons rfl (.cons rfl (.cons rfl .nil))))
             refine wnt ?_
             refine wp_exit (exit_then (exit_here (norm_then ?_)))
             exact ⟨⟨ps, _, (s ++ timesS t j).take 17, k, false, g, c⟩, h.sub (.cons rfl (.cons rfl (.cons rfl (.cons rfl .nil)))), ⟨hO, hI, by simp only; omega, by simp only; omega, fun q hq => hb17 q (by simp [hq]), by simp; omega, fun R m => hM R (by rw [List.map_append]; exact m_close hends hn0 (by rw [hke, hn, Int.toNat_natCast, rep_cut hjn c7]; exact m)), hy, hf⟩, by simp only; omega⟩
    ·obtain rfl : it = true := by simpa using c2
     refine wsn ?_
     refine wp_seq ?_
     refine wp_seq ?_
     refine wR ?_
     refine st_move h rfl rfl ?_; clear h a; intro a h
     refine st_move h rfl rfl ?_; clear h a; intro a h
     refine st_len h rfl Tryd.underlying9 rfl ?_; clear h a; intro a h
     refine st_ge h rfl rfl rfl ?_; clear h a; intro a h
     replace h : Ag a 199 [(0, _), (4, _), (5, _), (6, _), (129, _)] := h.sub (.cons rfl (.cons rfl (.cons rfl (.cons rfl (.cons rfl .nil)))))
     refine wnt ?_
     first | refine cond_dec h rfl (fun c8 => ?_) (fun c8 => ?_) | refine cond_ndec h rfl (fun c8 => ?_) (fun c8 => ?_) | refine cond_split h rfl (fun c8 => ?_) (fun c8 => ?_)
     ·refine id ?_
      refine wp_seq ?_
      refine wR ?_
      refine st_assign h rfl rfl ?_; clear h a; intro a h
      refine st_assign h rfl rfl ?_; clear h a; intro a h
      replace h : Ag a 199 [(2, _), (3, _)] := h.sub (.cons rfl (.cons rfl .nil))
      refine wnt ?_
      refine wp_ret (ret_then (ret_blk (ret_then (ret_blk (ret_then ?_)))))
      refine ret2 h Tryd.results11 rfl rfl ?_
      exact ⟨_, rfl, _, ([], 4), rfl, fun _ => hM _ (m_end (by omega)), (fun e => by omega), Sl.nil _, hf⟩
     ·refine id ?_
      refine wsn ?_
      refine wp_seq ?_
      refine wp_seq ?_
      refine wR ?_
      refine st_move h rfl rfl ?_; clear h a; intro a h
      refine st_move h rfl rfl ?_; clear h a; intro a h
      refine st_index (p := p) h rfl rfl Tryd.underlying9 (by omega) (by omega) (by omega) rfl ?_; clear h a; intro hy132 a h
      refine st_eq h rfl rfl rfl ?_; clear h a; intro a h
      replace h : Ag a 199 [(0, _), (4, _), (5, _), (6, _), (133, _)] := h.sub (.cons rfl (.cons rfl (.cons rfl (.cons rfl (.cons rfl .nil)))))
      refine wnt ?_
      first | refine cond_dec h rfl (fun c9 => ?_) (fun c9 => ?_) | refine cond_ndec h rfl (fun c9 => ?_) (fun c9 => ?_) | refine cond_split h rfl (fun c9 => ?_) (fun c9 => ?_)
      ·refine id ?_
       refine wp_seq ?_
       refine wR ?_
       refine st_move h rfl rfl ?_; clear h a; intro a h
       refine st_bslice [((none, 0, 0) : SV)] h (evs_cons rfl evs_nil) rfl rfl rfl el43 (by decide) rfl ?_; clear h a; intro gN w7 hg hoN hq hz a h
       replace hf := hf.next hq
       replace hy := hy.ext hq
       replace hO := hO.ext hq
       replace hI := hI.ext hq
       clear hq hz hg
       have hbO := hO.blk
       refine st_append h rfl rfl hO hoN.sl el43 (by unfold maxLen; simp; omega) (by simp; omega) (by have := hf.size; omega) rfl ?_; clear h a; intro v3 w9 ho3 hq hx3 a h
       obtain ⟨g3, cp3, rfl, hg3, hc3, hs3⟩ := Own.at_ ho3 (by simp)
       rw [show (((ps ++ [(u, t)]).map Prod.fst) ++ [((none, 0, 0) : SV)]).length = (ps ++ [(u, t)]).length + 1 by simp] at h ho3 hx3
       replace hI := (Ins.grow hI hq hx3).pushNil
       replace hy := hy.fr hq (fun hb => by have := (hbO _ hb).1; omega)
       replace hf := hf.step hq (fun k hk hlt => absurd (hbO k hk).1 (by omega))
       replace hO := ho3
       clear hq hx3 hoN ho3 hbO
       refine st_assign h rfl rfl ?_; clear h a; intro a h
       replace h : Ag a 199 [(0, _), (4, _), (5, _), (6, _)] := h.sub (.cons rfl (.cons rfl (.cons rfl (.cons rfl .nil))))
       refine wnt ?_
       refine wp_seq ?_
       refine wR ?_
       refine st_move h rfl rfl ?_; clear h a; intro a h
       refine st_add h rfl rfl (by first | exact IntWalk.i64_in _ (by omega) | rfl) rfl ?_; clear h a; intro a h
       refine st_assign h rfl rfl ?_; clear h a; intro a h
       replace h : Ag a 199 [(0, _), (4, _), (5, _), (6, _)] := h.sub (.cons rfl (.cons rfl (.cons rfl (.cons rfl .nil))))
       refine wnt ?_
       refine wp_exit (exit_then (exit_here (norm_then ?_)))
       exact ⟨⟨ps ++ [(u, t)], (none, 0, 0), [], p + 1, true, g3, cp3⟩, h.sub (.cons rfl (.cons rfl (.cons rfl (.cons rfl .nil)))), ⟨by simpa using hO, hI, by simp only; omega, by simp; omega, fun q hq => by simp at hq; rcases hq with hq | rfl; exact hb17 q hq; exact ht17, by simp, fun R m => hM R (m_open (by omega) (byte_eq.1 c9) (by simpa using m)), hy, hf⟩, by simp only; omega⟩
      ·refine id ?_
       refine wsn ?_
       refine wp_seq ?_
       refine wR ?_
       refine st_move h rfl rfl ?_; clear h a; intro a h
       refine st_assign h rfl rfl ?_; clear h a; intro a h
       replace h : Ag a 199 [(0, _), (4, _), (5, _), (12, _)] := h.sub (.cons rfl (.cons rfl (.cons rfl (.cons rfl .nil))))
       refine wnt ?_
       refine wp_seq ?_
       refine wp_block ?_
       refine loop (ι := Nat) (fun k => [(0, S l), (4, .slice (some ⟨g, 0, none⟩) (ps.length + 1) c), (12, .int .i64 (p : Int)), (5, .int .i64 (k : Int))]) (fun k w' => p ≤ k ∧ k ≤ l.length ∧ wordEnd l k = wordEnd l (p) ∧ Lw.Own Enc.sl 22 w0.heap.size w' (.slice (some ⟨g, 0, none⟩) (ps.length + 1) c) ((ps ++ [(u, t)]).map Prod.fst) ∧ Ins encSt 36 w0.heap.size w' [g] (ps ++ [(u, t)]) ∧ Sym w' ∧ Fr [] w0 w') (fun k => l.length - k) (p) (h.sub (.cons rfl (.cons rfl (.cons rfl (.cons rfl .nil))))) ⟨Nat.le_refl _, by omega, rfl, hO, hI, hy, hf⟩ ?_
       clear h a hO hI hy hf
       rintro k w10 a h ⟨hpk, hkl, hwe, hO, hI, hy, hf⟩
       refine wp_seq ?_
       refine wp_seq ?_
       refine region_bool (r := 155) (L' := [(0, _), (4, _), (5, _), (12, _)]) (k < l.length ∧ ((l.getD k 0).toNat : Int) ≠ 32 ∧ ((l.getD k 0).toNat : Int) ≠ 93) h (.cons rfl (.cons rfl (.cons rfl (.cons rfl .nil)))) ?_ ?_
       ·refine id ?_
        refine st_move h rfl rfl ?_; clear h a; intro a h
        refine st_move h rfl rfl ?_; clear h a; intro a h
        refine st_len h rfl Tryd.underlying9 rfl ?_; clear h a; intro a h
        refine st_lt h rfl rfl rfl ?_; clear h a; intro a h
        refine st_move h rfl rfl ?_; clear h a; intro a h
        first | refine guard_dec (D := 144) h rfl ?_ ?_ | refine guard_ndec (D := 144) h rfl ?_ ?_ | refine guard_any (D := 144) h rfl ?_ ?_
        ·clear h; intro g7 h
         refine gd_yes h rfl rfl rfl rfl rfl rfl ?_
         refine st_move h rfl rfl ?_; clear h a; intro a h
         refine gd_yes h rfl rfl rfl rfl rfl rfl ?_
         refine st_move h rfl rfl ?_; clear h a; intro a h
         refine gd_yes h rfl rfl rfl rfl rfl rfl ?_
         refine st_index (p := k) h rfl rfl Tryd.underlying9 (by omega) (by omega) (by omega) rfl ?_; clear h a; intro hy147 a h
         refine gd_yes h rfl rfl rfl rfl rfl rfl ?_
         refine st_ne h rfl rfl rfl ?_; clear h a; intro a h
         refine st_pick_t h rfl rfl rfl rfl ?_; clear h a; intro a h
         refine st_move h rfl rfl ?_; clear h a; intro a h
         first | refine guard_dec (D := 150) h rfl ?_ ?_ | refine guard_ndec (D := 150) h rfl ?_ ?_ | refine guard_any (D := 150) h rfl ?_ ?_
         ·clear h; intro g8 h
          refine gd_yes h rfl rfl rfl rfl rfl rfl ?_
          refine st_move h rfl rfl ?_; clear h a; intro a h
          refine gd_yes h rfl rfl rfl rfl rfl rfl ?_
          refine st_move h rfl rfl ?_; clear h a; intro a h
          refine gd_yes h rfl rfl rfl rfl rfl rfl ?_
          refine st_index (p := k) h rfl rfl Tryd.underlying9 (by omega) (by omega) (by omega) rfl ?_; clear h a; intro hy153 a h
          refine gd_yes h rfl rfl rfl rfl rfl rfl ?_
          refine st_ne h rfl rfl rfl ?_; clear h a; intro a h
          refine st_pick_t h rfl rfl rfl rfl ?_; clear h a; intro a h
          exact wpList_nil (bool_end h rfl (by first | exact bt (by omega) | exact bf (by omega) | exact bi (by omega) | exact bn (by omega)) (.cons rfl (.cons rfl (.cons rfl (.cons rfl .nil)))))
         ·clear h; intro g8 h
          refine gd_no h rfl rfl rfl rfl rfl rfl rfl rfl ?_; clear h a; intro a h
          refine gd_no h rfl rfl rfl rfl rfl rfl rfl rfl ?_; clear h a; intro a h
          refine gd_no h rfl rfl rfl rfl rfl rfl rfl rfl ?_; clear h a; intro a h
          refine gd_no h rfl rfl rfl rfl rfl rfl rfl rfl ?_; clear h a; intro a h
          refine st_pick_f h rfl rfl rfl rfl ?_; clear h a; intro a h
          exact wpList_nil (bool_end h rfl (by first | exact bt (by omega) | exact bf (by omega) | exact bi (by omega) | exact bn (by omega)) (.cons rfl (.cons rfl (.cons rfl (.cons rfl .nil)))))
        ·clear h; intro g7 h
         refine gd_no h rfl rfl rfl rfl rfl rfl rfl rfl ?_; clear h a; intro a h
         refine gd_no h rfl rfl rfl rfl rfl rfl rfl rfl ?_; clear h a; intro a h
         refine gd_no h rfl rfl rfl rfl rfl rfl rfl rfl ?_; clear h a; intro a h
         refine gd_no h rfl rfl rfl rfl rfl rfl rfl rfl ?_; clear h a; intro a h
         refine st_pick_f h rfl rfl rfl rfl ?_; clear h a; intro a h
         refine st_move h rfl rfl ?_; clear h a; intro a h
         refine gd_no h rfl rfl rfl rfl rfl rfl rfl rfl ?_; clear h a; intro a h
         refine gd_no h rfl rfl rfl rfl rfl rfl rfl rfl ?_; clear h a; intro a h
         refine gd_no h rfl rfl rfl rfl rfl rfl rfl rfl ?_; clear h a; intro a h
         refine gd_no h rfl rfl rfl rfl rfl rfl rfl rfl ?_; clear h a; intro a h
         refine st_pick_f h rfl rfl rfl rfl ?_; clear h a; intro a h
         exact wpList_nil (bool_end h rfl (by first | exact bt (by omega) | exact bf (by omega) | exact bi (by omega) | exact bn (by omega)) (.cons rfl (.cons rfl (.cons rfl (.cons rfl .nil)))))
       ·clear h a; intro a h
        refine (norm_then ?_)
        first | refine cond_dec h rfl (fun c10 => ?_) (fun c10 => ?_) | refine cond_ndec h rfl (fun c10 => ?_) (fun c10 => ?_) | refine cond_split h rfl (fun c10 => ?_) (fun c10 => ?_)
        ·have c10' : k < l.length ∧ l.getD k 0 ≠ 32 ∧ l.getD k 0 ≠ 93 := ⟨c10.1, fun e => c10.2.1 (by rw [e]; rfl), fun e => c10.2.2 (by rw [e]; rfl)⟩
         refine wsn ?_
         refine wp_block ?_
         refine wR ?_
         refine st_move h rfl rfl ?_; clear h a; intro a h
         refine st_add h rfl rfl (by first | exact IntWalk.i64_in _ (by omega) | rfl) rfl ?_; clear h a; intro a h
         refine st_assign h rfl rfl ?_; clear h a; intro a h
         replace h : Ag a 199 [(0, _), (4, _), (5, _), (12, _)] := h.sub (.cons rfl (.cons rfl (.cons rfl (.cons rfl .nil))))
         refine wpList_nil (norm_blk (norm_then ?_))
         exact ⟨k + 1, h.sub (.cons rfl (.cons rfl (.cons rfl (.cons rfl .nil)))), ⟨by omega, by omega, by rw [← hwe, wordEnd_next c10'], hO, hI, hy, hf⟩, by omega⟩
        ·have hke : wordEnd l (p) = k := by
          rw [← hwe]; exact wordEnd_here (fun e => c10 ⟨e.1, fun h => e.2.1 (byte_eq.1 h), fun h => e.2.2 (byte_eq.1 h)⟩)
         have hwd : (l.take k).drop (p) = wordS l (p) := by rw [wordS, hke]
         clear hwe
         refine wp_exit (exit_then (exit_then (exit_here (norm_then ?_))))
         refine wp_seq ?_
         refine wR ?_
         refine st_move h rfl rfl ?_; clear h a; intro a h
         refine st_move h rfl rfl ?_; clear h a; intro a h
         refine st_move h rfl rfl ?_; clear h a; intro a h
         refine st_ss_lh (p := p) (p' := k) h rfl rfl rfl Tryd.underlying9 (by omega) (by omega) (by omega) (by omega) (by omega) rfl ?_; clear h a; intro a h
         refine st_call h (evs_cons rfl evs_nil) co28 (parse_ok _ _ hy) rfl ?_; clear h a; rintro _ w11 ⟨rfl, hq⟩ a h
         replace hf := hf.next hq
         replace hy := hy.ext hq
         replace hO := hO.ext hq
         replace hI := hI.ext hq
         clear hq
         rw [hwd] at h
         refine st_move h rfl rfl ?_; clear h a; intro a h
         refine st_extract h rfl rfl rfl ?_; clear h a; intro a h
         refine st_extract h rfl rfl rfl ?_; clear h a; intro a h
         refine st_alloc h zv36 rfl rfl ?_; clear h a; intro w12 hb13 hq hz a h
         obtain ⟨g_13, hg⟩ : ∃ g, g = w11.heap.size := ⟨_, rfl⟩; rw [← hg] at hb13 h hz
         have hl13 : w0.heap.size ≤ g_13 := by have := hf.size; omega
         have hg13 : g < g_13 := by have := (hO.blk g (by simp [blks])).2; omega
         have hI13 : ∀ q ∈ ps ++ [(u, t)], g_13 ∉ blks (slv q.1) := fun q hq2 hk => by have := (hI.blk q hq2 _ hk).2; omega
         replace hf := hf.next hq
         replace hy := hy.ext hq
         replace hO := hO.ext hq
         replace hI := hI.ext hq
         clear hq hz hg
         refine st_storeBA h rfl rfl hb13 rfl (by first | (simp [Value.oneCell', S]; done) | exact Enc.one _ _) sz36 ?_; clear h a; intro w13 hbn hq hz a h
         replace hf := hf.step hq (by first | (simp; done) | (simp; omega))
         replace hy := hy.fr hq (by first | (simp; done) | (simp; omega) | (simp [blks]; done) | (simp [blks]; omega))
         replace hO := hO.fr hq (by simp [blks]; omega)
         replace hI := hI.fr hq (fun k hk q hq2 hk2 => by simp at hk; subst hk; exact hI13 q hq2 hk2)
         clear hb13 hq hz; have hb13 : Blk w13 g_13 _ [_, _, _, _, _] := hbn; clear hbn
         refine st_assign h rfl rfl ?_; clear h a; intro a h
         replace h : Ag a 199 [(0, _), (4, _), (5, _), (13, _), (14, _)] := h.sub (.cons rfl (.cons rfl (.cons rfl (.cons rfl (.cons rfl .nil)))))
         refine wnt ?_
         refine wp_seq ?_
         refine wp_seq ?_
         refine wR ?_
         refine st_move h rfl rfl ?_; clear h a; intro a h
         refine st_ne h rfl rfl rfl ?_; clear h a; intro a h
         replace h : Ag a 199 [(0, _), (4, _), (5, _), (13, _), (167, _)] := h.sub (.cons rfl (.cons rfl (.cons rfl (.cons rfl (.cons rfl .nil)))))
         refine wnt ?_
         first | refine cond_dec h rfl (fun c11 => ?_) (fun c11 => ?_) | refine cond_ndec h rfl (fun c11 => ?_) (fun c11 => ?_) | refine cond_split h rfl (fun c11 => ?_) (fun c11 => ?_)
         ·refine id ?_
          refine wp_seq ?_
          refine wR ?_
          refine st_assign h rfl rfl ?_; clear h a; intro a h
          refine st_assign h rfl rfl ?_; clear h a; intro a h
          replace h : Ag a 199 [(2, _), (3, _)] := h.sub (.cons rfl (.cons rfl .nil))
          refine wnt ?_
          refine wp_ret (ret_then (ret_blk (ret_then (ret_blk (ret_then ?_)))))
          refine ret2 h Tryd.results11 rfl rfl ?_
          exact ⟨_, rfl, _, ([], 4), rfl, fun _ => hM _ (m_leaf4 (by omega) (fun e => c9 (by rw [e]; rfl)) c11), (fun e => by omega), Sl.nil _, hf⟩
         ·have hx0 : (parseS (wordS l p)).2 = 0 := by omega
          have hpk' := word_pos hpl hx0
          rw [hke] at hpk'
          refine wsn ?_
          refine wp_seq ?_
          refine wp_seq ?_
          refine wR ?_
          refine st_move h rfl rfl ?_; clear h a; intro a h
          refine st_move h rfl rfl ?_; clear h a; intro a h
          refine st_lenS h rfl Tryd.underlying43 rfl ?_; clear h a; intro a h
          refine st_sub h rfl rfl (by first | exact IntWalk.i64_in _ (by omega) | rfl) rfl ?_; clear h a; intro a h
          refine st_idx (p := ps.length) (e := u) h rfl rfl hO.sl el43 (by omega) (by omega) (top_get (rfl)) rfl ?_; clear h a; intro ad cc a h
          refine st_loadC0 (v := slv u) h rfl cc na22 rfl ?_; clear h a; intro a h
          have hul := Own.lens hI.last
          refine st_assign h rfl rfl ?_; clear h a; intro a h
          replace h : Ag a 199 [(0, _), (4, _), (5, _), (13, _), (15, _)] := h.sub (.cons rfl (.cons rfl (.cons rfl (.cons rfl (.cons rfl .nil)))))
          refine wnt ?_
          refine wp_seq ?_
          refine wR ?_
          refine st_move h rfl rfl ?_; clear h a; intro a h
          refine st_lenS h rfl Tryd.underlying22 rfl ?_; clear h a; intro a h
          refine st_lt h rfl rfl rfl ?_; clear h a; intro a h
          replace h : Ag a 199 [(0, _), (4, _), (5, _), (13, _), (15, _), (176, _)] := h.sub (.cons rfl (.cons rfl (.cons rfl (.cons rfl (.cons rfl (.cons rfl .nil))))))
          refine wnt ?_
          first | refine cond_dec h rfl (fun c12 => ?_) (fun c12 => ?_) | refine cond_ndec h rfl (fun c12 => ?_) (fun c12 => ?_) | refine cond_split h rfl (fun c12 => ?_) (fun c12 => ?_)
          ·refine id ?_
           refine region_held (fun wb w' => Fr [g] wb w') hmix ?_; intro w14 hq
           replace hf := hf.next hq
           replace hy := hy.ext hq
           replace hO := hO.ext hq
           replace hI := hI.ext hq
           replace hb13 := hb13.ext hq
           clear hq; have hC : Fr [g] w14 w14 := Fr.refl _ _
           have hy_b := hy
           have hO_b := hO
           have hI_b := hI
           have hb13_b := hb13
           refine hd_move 0 (by kernel_rfl) (by kernel_rfl) (by kernel_rfl) hC h wn rfl rfl rfl ?_; clear h a; intro a h
           refine hd_move 1 (by kernel_rfl) (by kernel_rfl) (by kernel_rfl) hC h wn rfl rfl rfl ?_; clear h a; intro a h
           refine hd_lenS 2 (by kernel_rfl) (by kernel_rfl) (by kernel_rfl) hC h wn rfl Tryd.underlying43 rfl rfl ?_; clear h a; intro a h
           refine hd_sub 3 (by kernel_rfl) (by kernel_rfl) (by kernel_rfl) hC h wn rfl rfl (by first | exact IntWalk.i64_in _ (by omega) | rfl) rfl rfl ?_; clear h a; intro a h
           refine hd_move 5 (by kernel_rfl) (by kernel_rfl) (by kernel_rfl) hC h wn rfl rfl rfl ?_; clear h a; intro a h
           refine hd_loadBA 7 (by kernel_rfl) (by kernel_rfl) (by kernel_rfl) hC h wn rfl (fun _ hw => hb13_b.fr hw (by simp; omega)) ag36 rfl rfl ?_; clear h a; intro a h
           refine hd_two 4 8 (by kernel_rfl) rfl rfl ?_ ?_
           ·refine id ?_
            refine st_bslice ([] : List Stitch) h evs_nil rfl rfl rfl el22 (by decide) rfl ?_; clear h a; intro gE w15 hg hoE hq hz a h
            have hgE : g < gE := by have := (hO.blk g (by simp [blks])).2; omega
            have hE13 : g_13 < gE := by have := hb13.lt; omega
            have hwE : w0.heap.size ≤ gE := by have := hf.size; omega
            have hCE := Nat.le_trans hC.size (Nat.le_of_eq hg.symm)
            have hIE : ∀ q ∈ ps ++ [(u, t)], ∀ k ∈ blks (slv q.1), k < gE := fun q hq2 k hk => by have := (hI.blk q hq2 k hk).2; omega
            replace hf := hf.next hq
            replace hy := hy.ext hq
            replace hO := hO.ext hq
            replace hI := hI.ext hq
            replace hb13 := hb13.ext hq
            replace hC := hC.next hq
            clear hq hz hg
            refine hd_next hC ?_
            refine hd_two 6 8 (by kernel_rfl) rfl rfl ?_ ?_
            ·refine id ?_
             refine st_append h rfl rfl hoE hI.last.sl el22 (by unfold maxLen; simp; omega) (by simp; omega) (by have := (hoE.blk gE (by simp [blks])).2; omega) rfl ?_; clear h a; intro v6 w16 ho6 hq hx6 a h
             replace hf := hf.step hq (fun k hk hlt => by simp [blks] at hk; omega)
             replace hy := hy.fr hq (by simp [blks]; omega)
             replace hO := hO.fr hq (by simp [blks]; omega)
             replace hI := hI.fr hq (fun k hk q hq2 hk2 => by simp [blks] at hk; have := hIE q hq2 k hk2; omega)
             replace hb13 := hb13.fr hq (by simp [blks]; omega)
             replace hC := hC.step hq (fun k hk hlt => by simp [blks] at hk; omega)
             have hEs := Nat.le_trans (Nat.le_of_lt (hoE.blk gE (by simp [blks])).2) hq.size
             clear hq hx6 hoE
             refine hd_next hC ?_
             refine hd_one 8 (by kernel_rfl) rfl ?_
             refine st_bslice [(parseS (wordS l p)).1] h (evs_cons rfl evs_nil) rfl rfl rfl el22 (by decide) rfl ?_; clear h a; intro gX w17 hg hoX hq hz a h
             replace hEs := Nat.le_trans hEs hq.size
             have h6X : ∀ k ∈ blks v6, k ≠ gX := fun k hk => by have := (ho6.blk k hk).2; omega
             replace hf := hf.next hq
             replace hy := hy.ext hq
             replace hO := hO.ext hq
             replace hI := hI.ext hq
             replace hb13 := hb13.ext hq
             replace hC := hC.next hq
             replace ho6 := ho6.ext hq
             clear hq hz hg
             refine hd_next hC ?_
             refine hd_one 9 (by kernel_rfl) rfl ?_
             refine st_append h rfl rfl ho6 hoX.sl el22 (by unfold maxLen; simp; omega) (by simp; omega) hEs rfl ?_; clear h a; intro v9 w18 ho9 hq hx9 a h
             replace hf := hf.step hq (fun k hk hlt => by have := (ho6.blk k hk).1; omega)
             replace hy := hy.fr hq (fun hb => by have := (ho6.blk _ hb).1; omega)
             replace hO := hO.fr hq (fun k hk hk2 => by have := (ho6.blk k hk).1; simp [blks] at hk2; omega)
             replace hI := hI.fr hq (fun k hk q hq2 hk2 => by have := (ho6.blk k hk).1; have := hIE q hq2 k hk2; omega)
             replace hC := hC.step hq (fun k hk hlt => by have := (ho6.blk k hk).1; omega)
             obtain ⟨A9, cp9, rfl, hc9⟩ := ho9.sl.form
             clear hq hx9 hoX h6X hb13
             refine hd_next hC ?_
             refine hd_idxS 10 (by kernel_rfl) (by kernel_rfl) (by kernel_rfl) hC (p := ps.length) h wn rfl rfl el43 (by omega) (by omega) (by omega) rfl rfl ?_; clear h a; intro a h
             refine hd_one 11 (by kernel_rfl) rfl ?_
             refine st_storeO (A9, ([] ++ t ++ [(parseS (wordS l p)).1]).length, cp9) h rfl rfl hO (by simp) rfl sz22 ?_; clear h a; intro w19 hO2 hq hz a h
             replace hO := Own.reTop hO2 rfl (t ++ [(parseS (wordS l p)).1])
             have hb9 := ho9.blk
             replace ho9 := ho9.fr hq (fun k hk hk2 => by simp at hk; have := (hb9 k hk2).1; omega)
             have hoff := hI.off
             replace hI := (hI.fr hq (fun k hk q hq2 hk2 => hoff q hq2 k hk2 hk)).left
             replace hI := hI.push (u := (A9, ([] ++ t ++ [(parseS (wordS l p)).1]).length, cp9)) (r := t ++ [(parseS (wordS l p)).1]) (ho9.low (by omega)) (fun k hk hk2 => by have := (hb9 k hk).1; simp at hk2; omega) (fun k hk q hq2 hk2 => by have := (hb9 k hk).1; have := hIE q (by simp [hq2]) k hk2; omega)
             replace hy := hy.fr hq (by simp; omega)
             replace hf := hf.step hq (by simp; omega)
             replace hC := hC.step hq (by simp)
             clear hq hz hO2 hb9 ho9 hoff
             refine hd_next hC ?_
             refine hd_end (by kernel_rfl) ?_
             clear hC hy_b hO_b hI_b hb13_b
             replace h : Ag a 199 [(0, _), (4, _), (5, _)] := h.sub (.cons rfl (.cons rfl (.cons rfl .nil)))
             refine (norm_then ?_)
             refine wR ?_
             refine st_assign h rfl rfl ?_; clear h a; intro a h
             refine wpList_nil (norm_blk (norm_then ?_))
             exact ⟨⟨ps, _, t ++ [(parseS (wordS l p)).1], k, false, g, c⟩, h.sub (.cons rfl (.cons rfl (.cons rfl (.cons rfl .nil)))), ⟨hO, hI, by simp only; omega, by simp only; omega, hb17, by simp; omega, fun R m => hM R (m_leaf (by omega) (fun e => c9 (by rw [e]; rfl)) hx0 (by rw [hke, List.take_of_length_le (by simp; omega)]; exact m)), hy, hf⟩, by simp only; omega⟩
            ·refine id ?_
             refine st_bslice [(parseS (wordS l p)).1] h (evs_cons rfl evs_nil) rfl rfl rfl el22 (by decide) rfl ?_; clear h a; intro gX w20 hg hoX hq hz a h
             have hEX : gX ≠ gE := by have := (hoE.blk gE (by simp [blks])).2; omega
             replace hf := hf.next hq
             replace hy := hy.ext hq
             replace hO := hO.ext hq
             replace hI := hI.ext hq
             replace hb13 := hb13.ext hq
             replace hC := hC.next hq
             replace hoE := hoE.ext hq
             clear hq hz hg
             refine hd_next hC ?_
             refine hd_one 6 (by kernel_rfl) rfl ?_
             refine st_append h rfl rfl hoE hI.last.sl el22 (by unfold maxLen; simp; omega) (by simp; omega) (by have := (hoE.blk gE (by simp [blks])).2; omega) rfl ?_; clear h a; intro v6 w21 ho6 hq hx6 a h
             have h6X : ∀ k ∈ blks v6, k ≠ gX := by
              intro k hk
              have hXs := (hoX.blk gX (by simp [blks])).2
              rcases hx6 with e | e | e
              ·rw [e] at hk; simp [blks] at hk; omega
              ·rw [e] at hk; simp [blks] at hk; omega
              ·rw [e] at hk; simp at hk; omega
             replace hf := hf.step hq (fun k hk hlt => by simp [blks] at hk; omega)
             replace hy := hy.fr hq (by simp [blks]; omega)
             replace hO := hO.fr hq (by simp [blks]; omega)
             replace hI := hI.fr hq (fun k hk q hq2 hk2 => by simp [blks] at hk; have := hIE q hq2 k hk2; omega)
             replace hb13 := hb13.fr hq (by simp [blks]; omega)
             replace hC := hC.step hq (fun k hk hlt => by simp [blks] at hk; omega)
             replace hoX := hoX.fr hq (by simp [blks]; omega)
             have hEs := Nat.le_trans (Nat.le_of_lt (hoE.blk gE (by simp [blks])).2) hq.size
             clear hq hx6 hoE
             refine hd_next hC ?_
             refine hd_one 9 (by kernel_rfl) rfl ?_
             refine st_append h rfl rfl ho6 hoX.sl el22 (by unfold maxLen; simp; omega) (by simp; omega) hEs rfl ?_; clear h a; intro v9 w22 ho9 hq hx9 a h
             replace hf := hf.step hq (fun k hk hlt => by have := (ho6.blk k hk).1; omega)
             replace hy := hy.fr hq (fun hb => by have := (ho6.blk _ hb).1; omega)
             replace hO := hO.fr hq (fun k hk hk2 => by have := (ho6.blk k hk).1; simp [blks] at hk2; omega)
             replace hI := hI.fr hq (fun k hk q hq2 hk2 => by have := (ho6.blk k hk).1; have := hIE q hq2 k hk2; omega)
             replace hC := hC.step hq (fun k hk hlt => by have := (ho6.blk k hk).1; omega)
             obtain ⟨A9, cp9, rfl, hc9⟩ := ho9.sl.form
             clear hq hx9 hoX h6X hb13
             refine hd_next hC ?_
             refine hd_idxS 10 (by kernel_rfl) (by kernel_rfl) (by kernel_rfl) hC (p := ps.length) h wn rfl rfl el43 (by omega) (by omega) (by omega) rfl rfl ?_; clear h a; intro a h
             refine hd_one 11 (by kernel_rfl) rfl ?_
             refine st_storeO (A9, ([] ++ t ++ [(parseS (wordS l p)).1]).length, cp9) h rfl rfl hO (by simp) rfl sz22 ?_; clear h a; intro w23 hO2 hq hz a h
             replace hO := Own.reTop hO2 rfl (t ++ [(parseS (wordS l p)).1])
             have hb9 := ho9.blk
             replace ho9 := ho9.fr hq (fun k hk hk2 => by simp at hk; have := (hb9 k hk2).1; omega)
             have hoff := hI.off
             replace hI := (hI.fr hq (fun k hk q hq2 hk2 => hoff q hq2 k hk2 hk)).left
             replace hI := hI.push (u := (A9, ([] ++ t ++ [(parseS (wordS l p)).1]).length, cp9)) (r := t ++ [(parseS (wordS l p)).1]) (ho9.low (by omega)) (fun k hk hk2 => by have := (hb9 k hk).1; simp at hk2; omega) (fun k hk q hq2 hk2 => by have := (hb9 k hk).1; have := hIE q (by simp [hq2]) k hk2; omega)
             replace hy := hy.fr hq (by simp; omega)
             replace hf := hf.step hq (by simp; omega)
             replace hC := hC.step hq (by simp)
             clear hq hz hO2 hb9 ho9 hoff
             refine hd_next hC ?_
             refine hd_end (by kernel_rfl) ?_
             clear hC hy_b hO_b hI_b hb13_b
             replace h : Ag a 199 [(0, _), (4, _), (5, _)] := h.sub (.cons rfl (.cons rfl (.cons rfl .nil)))
             refine (norm_then ?_)
             refine wR ?_
             refine st_assign h rfl rfl ?_; clear h a; intro a h
             refine wpList_nil (norm_blk (norm_then ?_))
             exact ⟨⟨ps, _, t ++ [(parseS (wordS l p)).1], k, false, g, c⟩, h.sub (.cons rfl (.cons rfl (.cons rfl (.cons rfl .nil)))), ⟨hO, hI, by simp only; omega, by simp only; omega, hb17, by simp; omega, fun R m => hM R (m_leaf (by omega) (fun e => c9 (by rw [e]; rfl)) hx0 (by rw [hke, List.take_of_length_le (by simp; omega)]; exact m)), hy, hf⟩, by simp only; omega⟩
           ·refine id ?_
            refine st_bslice [(parseS (wordS l p)).1] h (evs_cons rfl evs_nil) rfl rfl rfl el22 (by decide) rfl ?_; clear h a; intro gX w24 hg hoX hq hz a h
            replace hf := hf.next hq
            replace hy := hy.ext hq
            replace hO := hO.ext hq
            replace hI := hI.ext hq
            replace hb13 := hb13.ext hq
            replace hC := hC.next hq
            clear hq hz hg
            refine hd_next hC ?_
            refine hd_one 4 (by kernel_rfl) rfl ?_
            refine st_bslice ([] : List Stitch) h evs_nil rfl rfl rfl el22 (by decide) rfl ?_; clear h a; intro gE w25 hg hoE hq hz a h
            have hgE : g < gE := by have := (hO.blk g (by simp [blks])).2; omega
            have hE13 : g_13 < gE := by have := hb13.lt; omega
            have hwE : w0.heap.size ≤ gE := by have := hf.size; omega
            have hCE := Nat.le_trans hC.size (Nat.le_of_eq hg.symm)
            have hIE : ∀ q ∈ ps ++ [(u, t)], ∀ k ∈ blks (slv q.1), k < gE := fun q hq2 k hk => by have := (hI.blk q hq2 k hk).2; omega
            have hEX : gX ≠ gE := by have := (hoX.blk gX (by simp [blks])).2; omega
            replace hf := hf.next hq
            replace hy := hy.ext hq
            replace hO := hO.ext hq
            replace hI := hI.ext hq
            replace hb13 := hb13.ext hq
            replace hC := hC.next hq
            replace hoX := hoX.ext hq
            clear hq hz hg
            refine hd_next hC ?_
            refine hd_one 6 (by kernel_rfl) rfl ?_
            refine st_append h rfl rfl hoE hI.last.sl el22 (by unfold maxLen; simp; omega) (by simp; omega) (by have := (hoE.blk gE (by simp [blks])).2; omega) rfl ?_; clear h a; intro v6 w26 ho6 hq hx6 a h
            have h6X : ∀ k ∈ blks v6, k ≠ gX := by
             intro k hk
             have hXs := (hoX.blk gX (by simp [blks])).2
             rcases hx6 with e | e | e
             ·rw [e] at hk; simp [blks] at hk; omega
             ·rw [e] at hk; simp [blks] at hk; omega
             ·rw [e] at hk; simp at hk; omega
            replace hf := hf.step hq (fun k hk hlt => by simp [blks] at hk; omega)
            replace hy := hy.fr hq (by simp [blks]; omega)
            replace hO := hO.fr hq (by simp [blks]; omega)
            replace hI := hI.fr hq (fun k hk q hq2 hk2 => by simp [blks] at hk; have := hIE q hq2 k hk2; omega)
            replace hb13 := hb13.fr hq (by simp [blks]; omega)
            replace hC := hC.step hq (fun k hk hlt => by simp [blks] at hk; omega)
            replace hoX := hoX.fr hq (by simp [blks]; omega)
            have hEs := Nat.le_trans (Nat.le_of_lt (hoE.blk gE (by simp [blks])).2) hq.size
            clear hq hx6 hoE
            refine hd_next hC ?_
            refine hd_one 9 (by kernel_rfl) rfl ?_
            refine st_append h rfl rfl ho6 hoX.sl el22 (by unfold maxLen; simp; omega) (by simp; omega) hEs rfl ?_; clear h a; intro v9 w27 ho9 hq hx9 a h
            replace hf := hf.step hq (fun k hk hlt => by have := (ho6.blk k hk).1; omega)
            replace hy := hy.fr hq (fun hb => by have := (ho6.blk _ hb).1; omega)
            replace hO := hO.fr hq (fun k hk hk2 => by have := (ho6.blk k hk).1; simp [blks] at hk2; omega)
            replace hI := hI.fr hq (fun k hk q hq2 hk2 => by have := (ho6.blk k hk).1; have := hIE q hq2 k hk2; omega)
            replace hC := hC.step hq (fun k hk hlt => by have := (ho6.blk k hk).1; omega)
            obtain ⟨A9, cp9, rfl, hc9⟩ := ho9.sl.form
            clear hq hx9 hoX h6X hb13
            refine hd_next hC ?_
            refine hd_idxS 10 (by kernel_rfl) (by kernel_rfl) (by kernel_rfl) hC (p := ps.length) h wn rfl rfl el43 (by omega) (by omega) (by omega) rfl rfl ?_; clear h a; intro a h
            refine hd_one 11 (by kernel_rfl) rfl ?_
            refine st_storeO (A9, ([] ++ t ++ [(parseS (wordS l p)).1]).length, cp9) h rfl rfl hO (by simp) rfl sz22 ?_; clear h a; intro w28 hO2 hq hz a h
            replace hO := Own.reTop hO2 rfl (t ++ [(parseS (wordS l p)).1])
            have hb9 := ho9.blk
            replace ho9 := ho9.fr hq (fun k hk hk2 => by simp at hk; have := (hb9 k hk2).1; omega)
            have hoff := hI.off
            replace hI := (hI.fr hq (fun k hk q hq2 hk2 => hoff q hq2 k hk2 hk)).left
            replace hI := hI.push (u := (A9, ([] ++ t ++ [(parseS (wordS l p)).1]).length, cp9)) (r := t ++ [(parseS (wordS l p)).1]) (ho9.low (by omega)) (fun k hk hk2 => by have := (hb9 k hk).1; simp at hk2; omega) (fun k hk q hq2 hk2 => by have := (hb9 k hk).1; have := hIE q (by simp [hq2]) k hk2; omega)
            replace hy := hy.fr hq (by simp; omega)
            replace hf := hf.step hq (by simp; omega)
            replace hC := hC.step hq (by simp)
            clear hq hz hO2 hb9 ho9 hoff
            refine hd_next hC ?_
            refine hd_end (by kernel_rfl) ?_
            clear hC hy_b hO_b hI_b hb13_b
            replace h : Ag a 199 [(0, _), (4, _), (5, _)] := h.sub (.cons rfl (.cons rfl (.cons rfl .nil)))
            refine (norm_then ?_)
            refine wR ?_
            refine st_assign h rfl rfl ?_; clear h a; intro a h
            refine wpList_nil (norm_blk (norm_then ?_))
            exact ⟨⟨ps, _, t ++ [(parseS (wordS l p)).1], k, false, g, c⟩, h.sub (.cons rfl (.cons rfl (.cons rfl (.cons rfl .nil)))), ⟨hO, hI, by simp only; omega, by simp only; omega, hb17, by simp; omega, fun R m => hM R (m_leaf (by omega) (fun e => c9 (by rw [e]; rfl)) hx0 (by rw [hke, List.take_of_length_le (by simp; omega)]; exact m)), hy, hf⟩, by simp only; omega⟩
          ·refine id ?_
           refine wsn ?_
           refine wR ?_
           refine st_assign h rfl rfl ?_; clear h a; intro a h
           replace h : Ag a 199 [(0, _), (4, _), (5, _), (6, _)] := h.sub (.cons rfl (.cons rfl (.cons rfl (.cons rfl .nil))))
           refine wpList_nil (norm_blk (norm_then ?_))
           exact ⟨⟨ps, u, t, k, false, g, c⟩, h.sub (.cons rfl (.cons rfl (.cons rfl (.cons rfl .nil)))), ⟨hO, hI, by simp only; omega, by simp only; omega, hb17, ht17, fun R m => hM R (m_leaf (by omega) (fun e => c9 (by rw [e]; rfl)) hx0 (by rw [hke, List.take_append_of_le_length (by omega), List.take_of_length_le (by omega)]; exact m)), hy, hf⟩, by simp only; omega⟩
   ·obtain rfl : it = false := by cases it with | false => rfl | true => exact absurd (.inl rfl) c1
    have c1q : ¬ p < l.length := fun e => c1 (.inr e)
    refine wp_exit (exit_then (exit_then (exit_here (norm_then ?_))))
    refine wp_seq ?_
    refine wp_seq ?_
    refine wR ?_
    refine st_move h rfl rfl ?_; clear h a; intro a h
    refine st_lenS h rfl Tryd.underlying43 rfl ?_; clear h a; intro a h
    refine st_ne h rfl rfl rfl ?_; clear h a; intro a h
    replace h : Ag a 199 [(4, _), (190, _)] := h.sub (.cons rfl (.cons rfl .nil))
    refine wnt ?_
    first | refine cond_dec h rfl (fun c13 => ?_) (fun c13 => ?_) | refine cond_ndec h rfl (fun c13 => ?_) (fun c13 => ?_) | refine cond_split h rfl (fun c13 => ?_) (fun c13 => ?_)
    ·refine id ?_
     refine wp_seq ?_
     refine wR ?_
     refine st_assign h rfl rfl ?_; clear h a; intro a h
     refine st_assign h rfl rfl ?_; clear h a; intro a h
     replace h : Ag a 199 [(2, _), (3, _)] := h.sub (.cons rfl (.cons rfl .nil))
     refine wnt ?_
     refine wp_ret (ret_then ?_)
     refine ret2 h Tryd.results11 rfl rfl ?_
     exact ⟨_, rfl, _, ([], 4), rfl, fun _ => hM _ (m_fin4 c1q (fun e => c13 (by have := congrArg List.length e; simp only [List.length_map, List.length_nil] at this; omega))), (fun e => by omega), Sl.nil _, hf⟩
    ·obtain rfl : ps = [] := List.length_eq_zero_iff.1 (by omega)
     refine wsn ?_
     refine wp_seq ?_
     refine wp_seq ?_
     refine wR ?_
     refine st_move h rfl rfl ?_; clear h a; intro a h
     refine st_idx (p := 0) (e := u) h rfl rfl hO.sl el43 (by omega) (by omega) (top_get (rfl)) rfl ?_; clear h a; intro ad cc a h
     refine st_loadC0 (v := slv u) h rfl cc na22 rfl ?_; clear h a; intro a h
     have hul := Own.lens hI.last
     refine st_lenS h rfl Tryd.underlying22 rfl ?_; clear h a; intro a h
     refine st_gt h rfl rfl rfl ?_; clear h a; intro a h
     replace h : Ag a 199 [(4, _), (195, _)] := h.sub (.cons rfl (.cons rfl .nil))
     refine wnt ?_
     first | refine cond_dec h rfl (fun c14 => ?_) (fun c14 => ?_) | refine cond_ndec h rfl (fun c14 => ?_) (fun c14 => ?_) | refine cond_split h rfl (fun c14 => ?_) (fun c14 => ?_)
     ·refine id ?_
      refine wp_seq ?_
      refine wR ?_
      refine st_assign h rfl rfl ?_; clear h a; intro a h
      refine st_assign h rfl rfl ?_; clear h a; intro a h
      replace h : Ag a 199 [(2, _), (3, _)] := h.sub (.cons rfl (.cons rfl .nil))
      refine wnt ?_
      refine wp_ret (ret_then ?_)
      refine ret2 h Tryd.results11 rfl rfl ?_
      exact ⟨_, rfl, _, ([], 3), rfl, fun _ => hM _ (m_fin3 c1q (by omega)), (fun e => by omega), Sl.nil _, hf⟩
     ·refine id ?_
      refine wsn ?_
      refine wp_seq ?_
      refine wR ?_
      refine st_move h rfl rfl ?_; clear h a; intro a h
      refine st_idx (p := 0) (e := u) h rfl rfl hO.sl el43 (by omega) (by omega) (top_get (rfl)) rfl ?_; clear h a; intro ad cc a h
      refine st_loadC0 (v := slv u) h rfl cc na22 rfl ?_; clear h a; intro a h
      refine st_assign h rfl rfl ?_; clear h a; intro a h
      refine st_assign h rfl rfl ?_; clear h a; intro a h
      replace h : Ag a 199 [(2, _), (3, _)] := h.sub (.cons rfl (.cons rfl .nil))
      refine wnt ?_
      refine wp_ret ?_
      refine ret2 h Tryd.results11 rfl rfl ?_
      exact ⟨_, rfl, _, (t, 0), rfl, fun _ => hM _ (m_fin0 c1q (by omega)), (fun e => by omega), hI.last.sl, hf⟩
end Go.Proofs.YtbbnampdgefljaaDoor
namespace Go.Proofs.YtbbnampdgefljaaDoor
open Go.Lw Go.G14
theorem law_expand (l : List UInt8) (w0 : World) (hy : Sym w0) (hlen : l.length ≤ 9223372036854775807) : Rets Tryd.prog 3 #[S l] w0 fun v w' => v = .bool true ∧ Fr [] w0 w' := by
 refine enter [(0, S l)] Tryd.func3 rfl Tryd.ntmps3 rfl (.cons rfl .nil) ?_
 have hf := Fr.refl [] w0
 intro a h
 refine wp_seq ?_
 refine wR ?_
 refine st_assign h rfl rfl ?_; clear h a; intro a h
 replace h : Ag a 45 [(0, _)] := h.sub (.cons rfl .nil)
 refine wnt ?_
 refine wp_seq ?_
 refine wp_seq ?_
 refine wR ?_
 refine st_move h rfl rfl ?_; clear h a; intro a h
 refine st_len h rfl Tryd.underlying9 rfl ?_; clear h a; intro a h
 refine st_gt h rfl rfl rfl ?_; clear h a; intro a h
 replace h : Ag a 45 [(0, _), (9, _)] := h.sub (.cons rfl (.cons rfl .nil))
 refine wnt ?_
 first | refine cond_dec h rfl (fun c0 => ?_) (fun c0 => ?_) | refine cond_ndec h rfl (fun c0 => ?_) (fun c0 => ?_) | refine cond_split h rfl (fun c0 => ?_) (fun c0 => ?_)
 ·refine id ?_
  refine wp_seq ?_
  refine wR ?_
  refine st_assign h rfl rfl ?_; clear h a; intro a h
  replace h : Ag a 45 [(2, _)] := h.sub (.cons rfl .nil)
  refine wnt ?_
  refine wp_ret (ret_then ?_)
  refine ret1 h Tryd.results3 rfl ?_
  first | exact ⟨_, rfl, rfl, hf⟩ | (exfalso; simp_all)
 ·refine id ?_
  refine wsn ?_
  refine wp_seq ?_
  refine wR ?_
  refine st_move h rfl rfl ?_; clear h a; intro a h
  refine st_call h (evs_cons rfl evs_nil) co10 (expand_ok _ _ hy hlen) rfl ?_; clear h a; rintro _ w1 ⟨x, c, rfl, rfl, ho, hq⟩ a h
  replace hf := hf.next hq
  replace hy := hy.ext hq
  clear hq
  refine st_move h rfl rfl ?_; clear h a; intro a h
  refine st_extract h rfl rfl rfl ?_; clear h a; intro a h
  refine st_extract h rfl rfl rfl ?_; clear h a; intro a h
  refine st_assign h rfl rfl ?_; clear h a; intro a h
  refine st_assign h rfl rfl ?_; clear h a; intro a h
  replace h : Ag a 45 [(0, _), (3, _), (4, _)] := h.sub (.cons rfl (.cons rfl (.cons rfl .nil)))
  refine wnt ?_
  refine wp_seq ?_
  refine wR ?_
  refine st_move h rfl rfl ?_; clear h a; intro a h
  refine st_call h (evs_cons rfl evs_nil) co11 (refexpand_ok _ _ hy) rfl ?_; clear h a; rintro _ w2 ⟨x2, R, rfl, hR1, hR2, hs2, hq⟩ a h
  replace hf := hf.next hq
  replace hy := hy.ext hq
  replace ho := ho.ext hq
  clear hq
  obtain rfl : R = expandS l := mach_all hR1 hR2
  clear hR1 hR2
  refine st_move h rfl rfl ?_; clear h a; intro a h
  refine st_extract h rfl rfl rfl ?_; clear h a; intro a h
  refine st_extract h rfl rfl rfl ?_; clear h a; intro a h
  refine st_assign h rfl rfl ?_; clear h a; intro a h
  refine st_assign h rfl rfl ?_; clear h a; intro a h
  replace h : Ag a 45 [(3, _), (4, _), (5, _), (6, _)] := h.sub (.cons rfl (.cons rfl (.cons rfl (.cons rfl .nil))))
  refine wnt ?_
  refine wp_seq ?_
  refine wp_seq ?_
  refine wR ?_
  refine st_move h rfl rfl ?_; clear h a; intro a h
  refine st_move h rfl rfl ?_; clear h a; intro a h
  refine st_ne h rfl rfl rfl ?_; clear h a; intro a h
  replace h : Ag a 45 [(3, _), (4, _), (5, _), (22, _)] := h.sub (.cons rfl (.cons rfl (.cons rfl (.cons rfl .nil))))
  refine wnt ?_
  first | refine cond_dec h rfl (fun c1 => ?_) (fun c1 => ?_) | refine cond_ndec h rfl (fun c1 => ?_) (fun c1 => ?_) | refine cond_split h rfl (fun c1 => ?_) (fun c1 => ?_)
  ·exact absurd rfl c1
  ·refine id ?_
   refine wsn ?_
   refine wp_seq ?_
   refine wp_seq ?_
   refine wR ?_
   refine st_move h rfl rfl ?_; clear h a; intro a h
   refine st_ne h rfl rfl rfl ?_; clear h a; intro a h
   replace h : Ag a 45 [(3, _), (5, _), (24, _)] := h.sub (.cons rfl (.cons rfl (.cons rfl .nil)))
   refine wnt ?_
   first | refine cond_dec h rfl (fun c2 => ?_) (fun c2 => ?_) | refine cond_ndec h rfl (fun c2 => ?_) (fun c2 => ?_) | refine cond_split h rfl (fun c2 => ?_) (fun c2 => ?_)
   ·have hnil := expand_err c2
    refine wp_seq ?_
    refine wR ?_
    refine st_move h rfl rfl ?_; clear h a; intro a h
    refine st_lenS h rfl Tryd.underlying22 rfl ?_; clear h a; intro a h
    refine st_eq h rfl rfl rfl ?_; clear h a; intro a h
    refine st_move h rfl rfl ?_; clear h a; intro a h
    first | refine guard_dec (D := 28) h rfl ?_ ?_ | refine guard_ndec (D := 28) h rfl ?_ ?_ | refine guard_any (D := 28) h rfl ?_ ?_
    ·clear h; intro g0 h
     refine gd_yes h rfl rfl rfl rfl rfl rfl ?_
     refine st_call h evs_nil co12 (lives_ok _ hy) rfl ?_; clear h a; rintro _ w3 ⟨rfl, hq⟩ a h
     replace hf := hf.next hq
     replace hy := hy.ext hq
     replace ho := ho.ext hq
     replace hs2 := hs2.ext hq
     clear hq
     refine st_pick_t h rfl rfl rfl rfl ?_; clear h a; intro a h
     refine st_assign h rfl rfl ?_; clear h a; intro a h
     replace h : Ag a 45 [(2, _)] := h.sub (.cons rfl .nil)
     refine wnt ?_
     refine wp_ret (ret_then ?_)
     refine ret1 h Tryd.results3 rfl ?_
     first | exact ⟨_, rfl, rfl, hf⟩ | (exfalso; simp_all)
    ·clear h; intro g0 h
     refine gd_no h rfl rfl rfl rfl rfl rfl rfl rfl ?_; clear h a; intro a h
     refine st_pick_f h rfl rfl rfl rfl ?_; clear h a; intro a h
     refine st_assign h rfl rfl ?_; clear h a; intro a h
     replace h : Ag a 45 [(2, _)] := h.sub (.cons rfl .nil)
     refine wnt ?_
     refine wp_ret (ret_then ?_)
     refine ret1 h Tryd.results3 rfl ?_
     first | exact ⟨_, rfl, rfl, hf⟩ | (exfalso; simp_all)
   ·refine id ?_
    refine wsn ?_
    refine wp_seq ?_
    refine wR ?_
    refine st_move h rfl rfl ?_; clear h a; intro a h
    refine st_move h rfl rfl ?_; clear h a; intro a h
    refine st_call h (evs_cons rfl (evs_cons rfl evs_nil)) co13 (differ_ok _ _ _ _ _ ho.sl hs2) rfl ?_; clear h a; rintro _ w4 ⟨rfl, hq⟩ a h
    replace hf := hf.next hq
    replace hy := hy.ext hq
    replace ho := ho.ext hq
    replace hs2 := hs2.ext hq
    clear hq
    refine st_eq h rfl rfl rfl ?_; clear h a; intro a h
    refine st_move h rfl rfl ?_; clear h a; intro a h
    first | refine guard_dec (D := 35) h rfl ?_ ?_ | refine guard_ndec (D := 35) h rfl ?_ ?_ | refine guard_any (D := 35) h rfl ?_ ?_
    ·clear h; intro g1 h
     refine gd_yes h rfl rfl rfl rfl rfl rfl ?_
     refine st_move h rfl rfl ?_; clear h a; intro a h
     refine gd_yes h rfl rfl rfl rfl rfl rfl ?_
     refine st_capS h rfl Tryd.underlying22 rfl ?_; clear h a; intro a h
     refine gd_yes h rfl rfl rfl rfl rfl rfl ?_
     refine st_move h rfl rfl ?_; clear h a; intro a h
     refine gd_yes h rfl rfl rfl rfl rfl rfl ?_
     refine st_lenS h rfl Tryd.underlying22 rfl ?_; clear h a; intro a h
     refine gd_yes h rfl rfl rfl rfl rfl rfl ?_
     refine st_eq h rfl rfl rfl ?_; clear h a; intro a h
     refine st_pick_t h rfl rfl rfl rfl ?_; clear h a; intro a h
     refine st_move h rfl rfl ?_; clear h a; intro a h
     first | refine guard_dec (D := 42) h rfl ?_ ?_ | refine guard_ndec (D := 42) h rfl ?_ ?_ | refine guard_any (D := 42) h rfl ?_ ?_
     ·clear h; intro g2 h
      refine gd_yes h rfl rfl rfl rfl rfl rfl ?_
      refine st_call h evs_nil co12 (lives_ok _ hy) rfl ?_; clear h a; rintro _ w5 ⟨rfl, hq⟩ a h
      replace hf := hf.next hq
      replace hy := hy.ext hq
      replace ho := ho.ext hq
      replace hs2 := hs2.ext hq
      clear hq
      refine st_pick_t h rfl rfl rfl rfl ?_; clear h a; intro a h
      refine st_assign h rfl rfl ?_; clear h a; intro a h
      replace h : Ag a 45 [(2, _)] := h.sub (.cons rfl .nil)
      refine wnt ?_
      refine wp_ret ?_
      refine ret1 h Tryd.results3 rfl ?_
      first | exact ⟨_, rfl, rfl, hf⟩ | (exfalso; simp_all)
     ·clear h; intro g2 h
      refine gd_no h rfl rfl rfl rfl rfl rfl rfl rfl ?_; clear h a; intro a h
      refine st_pick_f h rfl rfl rfl rfl ?_; clear h a; intro a h
      refine st_assign h rfl rfl ?_; clear h a; intro a h
      replace h : Ag a 45 [(2, _)] := h.sub (.cons rfl .nil)
      refine wnt ?_
      refine wp_ret ?_
      refine ret1 h Tryd.results3 rfl ?_
      first | exact ⟨_, rfl, rfl, hf⟩ | (exfalso; simp_all)
    ·clear h; intro g1 h
     refine gd_no h rfl rfl rfl rfl rfl rfl rfl rfl ?_; clear h a; intro a h
     refine gd_no h rfl rfl rfl rfl rfl rfl rfl rfl ?_; clear h a; intro a h
     refine gd_no h rfl rfl rfl rfl rfl rfl rfl rfl ?_; clear h a; intro a h
     refine gd_no h rfl rfl rfl rfl rfl rfl rfl rfl ?_; clear h a; intro a h
     refine gd_no h rfl rfl rfl rfl rfl rfl rfl rfl ?_; clear h a; intro a h
     refine st_pick_f h rfl rfl rfl rfl ?_; clear h a; intro a h
     refine st_move h rfl rfl ?_; clear h a; intro a h
     refine gd_no h rfl rfl rfl rfl rfl rfl rfl rfl ?_; clear h a; intro a h
     refine st_pick_f h rfl rfl rfl rfl ?_; clear h a; intro a h
     refine st_assign h rfl rfl ?_; clear h a; intro a h
     replace h : Ag a 45 [(2, _)] := h.sub (.cons rfl .nil)
     refine wnt ?_
     refine wp_ret ?_
     refine ret1 h Tryd.results3 rfl ?_
     first | exact ⟨_, rfl, rfl, hf⟩ | (exfalso; simp_all)
end Go.Proofs.YtbbnampdgefljaaDoor
namespace Go.Lw
open Go.ChangeShapes Go.WideShapes Go.ChangeAt Go.RowKit

section
variable {H : Type} {enc : TypeId × Value → H} {P : Program}
theorem trodAll_stays (hl : laidOutB P = true) {W W' : World} (hb : Below W.heap.size W W') {sp : Nat → Bool} : ∀ {ts : List TypeId} {vs : List Value} {ds : List (DataW H)} {ps : List MemPlace},
    (∀ t ∈ ts, P.readableRec t = true ∧ t < P.types.size) → (∀ p ∈ ps, sp p.block = true) → (∀ p ∈ ps, p.block < W.heap.size) → DataW.TrodAll enc P W 0 (fun _ => true) true ts vs ds ps → DataW.TrodAll enc P W' 0 sp true ts vs ds ps
  | [], vs, ds, ps, _, _, _, h => by
    obtain ⟨rfl, rfl, rfl⟩ := trodAll_nil h
    exact trodAll_mk0
  | t :: ts, vs, ds, ps, ht, hs, hlt, h => by
    obtain ⟨v, vs', d, ds', p, q, rfl, rfl, rfl, h1, h2⟩ := trodAll_cons h
    refine trodAll_cons_mk (WideElems.Trod_stays hl (ht t (by simp)).1 (ht t (by simp)).2 h1 (fun x hx => hb.same (hlt x (by simp [hx]))) (fun x hx => hs x (by simp [hx]))) ?_
    exact trodAll_stays hl hb (fun t' h' => ht t' (by simp [h'])) (fun x hx => hs x (by simp [hx])) (fun x hx => hlt x (by simp [hx])) h2

/-- A law that returned true and turned nothing old. -/
theorem post_true {f : Func} {s : ChangeSpec} {apart fresh handsOn again : Bool} {W W' : World} {args : Array Value} {ds : List (DataW H)} {before : List MemPlace} {tb : TypeId}
    (hW : DataW.Whole enc P f.params.toList s.vars apart W args.toList ds [] before) (hv : s.vars = []) (hfn : s.fn H ds = { results := [.lit (.bool true)], args := ds }) (hf : Fr [] W W')
    (hl : laidOutB P = true) (hr : ∀ t ∈ f.params.toList, P.readableRec t = true ∧ t < P.types.size) (hrt : f.resultTypes = #[tb]) (hbt : P.underlying tb = some .bool) : s.post enc P f apart fresh handsOn again W args (.bool true) W' := by
  have hb := hf.below
  have hlt := hW.lt
  have hW' := hW
  obtain ⟨pa, pv, hA, hV, rfl, hz, hn⟩ := hW
  rw [hv] at hV
  obtain ⟨-, rfl⟩ := trodVars_none hV
  rw [List.append_nil] at hW' hlt hz hn
  have hargs : ∀ sp : Nat → Bool, (∀ p ∈ pa, sp p.block = true) → DataW.TrodAll enc P W' 0 sp true f.params.toList args.toList (s.fn H (ds ++ [])).args pa := by
    intro sp hsp
    rw [List.append_nil, hfn]
    exact trodAll_stays hl hb hr hsp hlt hA
  have hres : ∀ (b : Nat) (sp : Nat → Bool) (hd : Bool), DataW.TrodAll enc P W' b sp hd f.resultTypes.toList ((Value.bool true).resultList f.resultTypes.size) (s.fn H (ds ++ [])).results [] := by
    intro b sp hd
    rw [List.append_nil, hfn, hrt]
    exact trodAll_cons_mk (shut_bool hbt true) trodAll_mk0
  have hvars : ∀ sp : Nat → Bool, DataW.TrodVars enc P W' sp s.vars (s.fn H (ds ++ [])).vars [] := by
    intro sp
    rw [hv, List.append_nil, hfn]
    rfl
  have hold : ∀ p ∈ pa, (fun b => decide (b < W.heap.size)) p.block = true := fun p hp => by simpa using hlt p hp
  refine ⟨ds, [], pa, [], pa, [], hW', hres _ _ _, hargs _ hold, hvars _, World.keptBut_mono (fun p hp => ⟨hp, by simp [hp]⟩) (hb.frame _), fun _ => ⟨ok_one hrt rfl (okWide_bool_mk hbt true), _, _, ([] ++ pa) ++ [], ⟨[] ++ pa, [], trodAll_append (hargs _ (fun _ _ => rfl)) (hres _ _ _), hvars _, rfl, ?_, ?_⟩, ?_⟩⟩
  · intro b off hp
    have hp' : MemPlace.cell b off ∈ pa := by simpa using hp
    rw [hb.frozen (hlt _ hp')]
    exact hz b off hp'
  · intro ha
    simpa using hn ha
  · intro p hp _
    simpa using hp
/-- The walk's contract, as the row asks it. -/
theorem calls_true {f : FuncId} {fn : Func} {s : ChangeSpec} {apart fresh handsOn again : Bool} {W : World} {args : Array Value} {ds : List (DataW H)} {before : List MemPlace} {tb : TypeId}
    (hw : Rets P f args W fun v w' => v = .bool true ∧ Fr [] W w')
    (hW : DataW.Whole enc P fn.params.toList s.vars apart W args.toList ds [] before) (hv : s.vars = []) (hfn : s.fn H ds = { results := [.lit (.bool true)], args := ds })
    (hl : laidOutB P = true) (hr : ∀ t ∈ fn.params.toList, P.readableRec t = true ∧ t < P.types.size) (hrt : fn.resultTypes = #[tb]) (hbt : P.underlying tb = some .bool) :
    Calls P f args W fun e W' => ∃ v, e = .returned v ∧ s.post enc P fn apart fresh handsOn again W args v W' :=
  Calls.mono hw fun e w' ⟨v, he, hv', hf⟩ => ⟨v, he, by subst hv'; exact post_true hW hv hfn hf hl hr hrt hbt⟩
end

def litV {H : Type} : DataW H → Value
  | .lit (.int k z) => .int k z
  | .lit (.string s) => .string ⟨s.toArray⟩
  | _ => .bool false
def itemV {H : Type} : DataW H → List Value
  | .agg es => es.map litV
  | d => [litV d]
def tabV {H : Type} : DataW H → Array Value
  | .agg ds => (ds.flatMap itemV).toArray
  | _ => #[]
def layW (w : World) (g : Nat) (cs : Array Value) : World :=
  { w with heap := w.heap.modify g fun
      | .cells _ t fr => .cells cs t fr
      | o => o }
noncomputable def laidW (P : Program) (os : Os) (laid : List (String × DataW Unit)) : World :=
  laid.foldl (fun w p => match P.globalNamed p.1 with
    | some g => layW w g (tabV p.2)
    | none => w) (World.holding P os ⟨#[], #[], []⟩)
end Go.Lw
namespace Go.Proofs.YtbbnampdgefljaaDoor
open Go.ChangeShapes Go.WideShapes Go.ChangeAt Go.RowKit Go.Lw Go.G14

theorem own : ownKnob Tryd.prog.godebug = none := by kernel_rfl
theorem laidOut : laidOutB Tryd.prog = true := by kernel_rfl
theorem gSym : Tryd.prog.globalNamed "gansey/stitches.symbols" = some 0 := by kernel_rfl
theorem gSymT : (Tryd.prog.globals[0]?).map (·.type) = some 94 := by kernel_rfl
theorem cells94 : Tryd.prog.cellsOf 94 = 8 := by kernel_rfl
theorem cells5 : Tryd.prog.cellsOf 5 = 1 := by kernel_rfl
/-- What the rows list. -/
def laidL : List (String × DataW Unit) := [("gansey/stitches.symbols", Rows.laid_gansey_stitches_symbols), ("math/bits.deBruijn32tab", Rows.laid_math_bits_deBruijn32tab), ("math/bits.deBruijn64tab", Rows.laid_math_bits_deBruijn64tab), ("internal/strconv.uint64pow10", Rows.laid_internal_strconv_uint64pow10)]
theorem sym_of {W : World} (h : laidMetH Tryd.prog laidL W) : Sym W := by
  have ht : Lib.TabIs Tryd.prog W "gansey/stitches.symbols" .u8 [107, 112, 111, 47, 118, 116, 115, 99] :=
    Lib.tabIs_of_head (rest := laidL.drop 1) gSym gSymT Tryd.underlying94 Tryd.underlying5 cells5 cells94 h
  intro j u hu
  have hj : j < 8 := by
    have := (List.getElem?_eq_some_iff.1 hu).1
    rwa [show (symbols.flatMap Enc.b.enc).length = 8 from rfl] at this
  have hc := ht.cell gSym j hj
  rw [lit_add, Nat.zero_add, hc]
  match j, hj, hu with
  | 0, _, hu => exact hu
  | 1, _, hu => exact hu
  | 2, _, hu => exact hu
  | 3, _, hu => exact hu
  | 4, _, hu => exact hu
  | 5, _, hu => exact hu
  | 6, _, hu => exact hu
  | 7, _, hu => exact hu
noncomputable def witW (os : Os) : World := laidW Tryd.prog os laidL
end Go.Proofs.YtbbnampdgefljaaDoor
namespace Go.G14
open Go.Lw

/-- The text of an item (tag false) or of a row (tag true), and what it stands for. -/
inductive Txt : Bool → List UInt8 → List Stitch → Prop
  | leaf {x : Stitch} (h : checkS x = 0) : Txt false (textS x) [x]
  | rep {t : List UInt8} {xs : List Stitch} {n : Nat} (h : Txt true t xs) (h2 : 2 ≤ n) (h16 : n ≤ 16) : Txt false (repT t n) (timesS xs n)
  | one {t : List UInt8} {xs : List Stitch} (h : Txt false t xs) : Txt true t xs
  | cons {t s : List UInt8} {xs ys : List Stitch} (h : Txt false t xs) (hr : Txt true s ys) : Txt true (t ++ [32] ++ s) (xs ++ ys)

theorem Txt.ok {tg : Bool} {t : List UInt8} {xs : List Stitch} (h : Txt tg t xs) : xs ≠ [] ∧ xs.all okB = true := by
  induction h with
  | leaf h => exact ⟨by simp, by simp [(okB_iff _).2 h]⟩
  | @rep t xs n _ h2 _ ih =>
    obtain ⟨m, rfl⟩ : ∃ m, n = m + 1 := ⟨n - 1, by omega⟩
    refine ⟨?_, ?_⟩
    · rw [times_succ]; intro e; exact ih.1 (List.append_eq_nil_iff.1 e).2
    · rw [List.all_eq_true] at ih ⊢
      intro x hx
      unfold timesS at hx
      obtain ⟨l, hl, hx⟩ := List.mem_flatten.1 hx
      rw [(List.mem_replicate.1 hl).2] at hx
      exact ih.2 x hx
  | one _ ih => exact ih
  | cons _ _ ih1 ih2 => exact ⟨by intro e; exact ih1.1 (List.append_eq_nil_iff.1 e).1, by rw [List.all_append, ih1.2, ih2.2]; rfl⟩
/-- Two rows, one after the other. -/
theorem Txt.app {t s : List UInt8} {xs ys : List Stitch} (h : Txt true t xs) (hr : Txt true s ys) : Txt true (t ++ [32] ++ s) (xs ++ ys) := by
  generalize hb : true = tg at h
  induction h with
  | leaf _ => cases hb
  | rep _ _ _ => cases hb
  | one h _ => exact .cons h hr
  | @cons t s' xs' ys' h1 _ _ ih2 =>
    have := Txt.cons h1 (ih2 rfl)
    simpa [List.append_assoc] using this

/-! What the reader reads is a text of the grammar. -/
theorem times_take (xs : List Stitch) (n : Nat) : (timesS (xs.take 17) n).take 17 = (timesS xs n).take 17 := by
  rcases Nat.lt_or_ge xs.length 18 with h | h
  · rw [List.take_of_length_le (show xs.length ≤ 17 by omega)]
  · cases n with
    | zero => rfl
    | succ n =>
      have e : ∀ ys : List Stitch, timesS ys (n + 1) = ys ++ timesS ys n := fun ys => by simp [timesS, List.replicate_succ]
      rw [e, e, List.take_append_of_le_length (by simp; omega), List.take_append_of_le_length (by omega), List.take_take, Nat.min_self]
theorem word_split {l : List UInt8} {p : Nat} (hp : p ≤ l.length) : l.drop p = wordS l p ++ l.drop (wordEnd l p) := by
  rw [word_tw hp, word_end _ p rfl hp, ← List.drop_drop, tw_drop, List.takeWhile_append_dropWhile]
theorem parse_text {l : List UInt8} (h : (parseS l).2 = 0) : textS (parseS l).1 = l ∧ checkS (parseS l).1 = 0 := by
  unfold parseS at h ⊢
  split at h
  · simp at h
  · rename_i c
    rw [if_neg c]
    simp only [not_or, Decidable.not_not] at c
    refine ⟨c.2, ?_⟩
    simp only
    refine Decidable.not_not.1 fun e => c.1 ?_
    rw [← c.2, textS, if_pos e]
theorem count_text {r : List UInt8} (h : 0 < (countS r 16).2) : ∃ n : Nat, 2 ≤ n ∧ n ≤ 16 ∧ (countS r 16).1 = n ∧ r = itoaS n ++ r.drop (countS r 16).2.toNat ∧ ((countS r 16).2.toNat = (itoaS n).length) := by
  obtain ⟨n1, n2, n3⟩ := num_count (r := r) rfl
  obtain ⟨e1, e2⟩ := n2 (by omega)
  have hall := all_tw r
  have hpre : r = r.takeWhile isDig ++ r.drop (r.takeWhile isDig).length := by rw [tw_drop, List.takeWhile_append_dropWhile]
  have key : r.takeWhile isDig = itoaS (countS r 16).1.toNat ∧ 2 ≤ (countS r 16).1 ∧ (countS r 16).1 ≤ 16 := by
    rw [← n1] at e2 ⊢
    generalize r.takeWhile isDig = W at hall e2 ⊢
    unfold numberS at e2 ⊢
    split at e2
    · exact absurd rfl e2
    · rename_i c1
      rw [if_neg c1]
      split at e2
      · exact absurd rfl e2
      · rename_i c2
        rw [if_neg c2]
        split at e2
        · exact absurd rfl e2
        · rename_i c3
          rw [if_neg c3]
          refine ⟨?_, by omega, by omega⟩
          match W, hall, c1, c3 with
          | [a], ha, c1, c3 =>
            simp only [List.all_cons, List.all_nil, Bool.and_true] at ha
            have h1 := (isDig_iff a).1 ha
            simp [valS, dstep] at c3 ⊢
            unfold itoaS
            rw [if_pos (by omega)]
            congr 1
            apply UInt8.toNat_inj.1
            have := dg_val (((a.toNat : Int) - 48).toNat : Int) (by omega) (by omega)
            omega
          | [a, b], ha, c1, c3 =>
            simp only [List.all_cons, List.all_nil, Bool.and_true, Bool.and_eq_true] at ha
            have h1 := (isDig_iff a).1 ha.1
            have h2 := (isDig_iff b).1 ha.2
            simp [valS, dstep] at c1 c3 ⊢
            unfold itoaS
            rw [if_neg (by omega)]
            have d1 := dg_val (((10 * ((a.toNat : Int) - 48) + ((b.toNat : Int) - 48)).toNat / 10 : Nat) : Int) (by omega) (by omega)
            have d2 := dg_val (((10 * ((a.toNat : Int) - 48) + ((b.toNat : Int) - 48)).toNat % 10 : Nat) : Int) (by omega) (by omega)
            congr 1
            · apply UInt8.toNat_inj.1; omega
            · congr 1
              apply UInt8.toNat_inj.1; omega
          | [], _, c1, _ => simp at c1
          | a :: b :: d :: s, _, c1, _ => simp at c1
  refine ⟨(countS r 16).1.toNat, by omega, by omega, by omega, ?_, ?_⟩
  · rw [e1, Int.toNat_natCast]; conv => lhs; rw [hpre, key.1]
    rw [key.1]
  · rw [e1, Int.toNat_natCast, key.1]
def cutS (l : List UInt8) (p q : Nat) : List UInt8 := (l.take q).drop p
theorem drop_cut {l : List UInt8} {p q : Nat} (h1 : p ≤ q) (h2 : q ≤ l.length) : l.drop p = cutS l p q ++ l.drop q := by
  unfold cutS
  conv => lhs; rw [← List.take_append_drop q l]
  rw [List.drop_append_of_le_length (by simp; omega)]
theorem cut_of {l a : List UInt8} {p q : Nat} (h : l.drop p = a ++ l.drop q) (h1 : p ≤ q) (h2 : q ≤ l.length) : cutS l p q = a := by
  rw [drop_cut h1 h2] at h
  exact List.append_cancel_right h
theorem read_sound {l : List UInt8} : ∀ (F : Nat) (tg : Bool) (p : Nat) (acc xs : List Stitch) (q : Nat), p ≤ l.length → readS l F tg p acc = some (xs, q) →
    ∃ ys, Txt tg (cutS l p q) ys ∧ xs = ((if tg then acc else []) ++ ys).take 17
  | F, false, p, acc, xs, q, hp, h => by
    by_cases c : p = l.length ∨ l.getD p 0 ≠ 91
    · rw [read_leaf c] at h
      by_cases h0 : (parseS (wordS l p)).2 = 0
      · rw [leaf_some rfl h0] at h
        cases h
        obtain ⟨e1, e2⟩ := parse_text h0
        have hw := wordEnd_rng hp
        refine ⟨[(parseS (wordS l p)).1], ?_, rfl⟩
        rw [cut_of (word_split hp) hw.1 hw.2]
        have := Txt.leaf e2
        rwa [e1] at this
      · rw [leaf_none rfl h0] at h; cases h
    · cases F with
      | zero => rw [readS, if_neg c] at h; cases h
      | succ F =>
        rw [read_rep c] at h
        have hlt : p < l.length := by omega
        have hc : l.getD p 0 = 91 := Decidable.not_not.1 fun e => c (.inr e)
        cases hr : readS l F true (p + 1) [] with
        | none => rw [hr] at h; cases h
        | some z =>
          obtain ⟨zs, r⟩ := z
          rw [hr] at h
          simp only at h
          obtain ⟨ys, hT, hz⟩ := read_sound F true (p + 1) [] zs r (by omega) hr
          have hpos := read_pos F true (p + 1) [] zs r (by omega) hr
          have hcl := close_pos h
          unfold closeS at h
          split at h
          · rename_i hpre
            simp only at h
            split at h
            · rename_i hcnt
              simp only [Option.some.injEq, Prod.mk.injEq] at h
              obtain ⟨hx, hq⟩ := h
              obtain ⟨n, n2, n16, en, er, el⟩ := count_text hcnt
              refine ⟨timesS ys n, ?_, ?_⟩
              · have h2 := pre_two.1 hpre
                have e1 : l.drop p = repT (cutS l (p + 1) r) n ++ l.drop q := by
                  rw [drop_get hlt, hc, drop_cut (p := p + 1) (q := r) (by omega) hpos.2.1, drop_get (show r < l.length by omega), h2.1, drop_get h2.2.1, h2.2.2]
                  rw [show r + 1 + 1 = r + 2 from rfl, er, List.drop_drop, hq]
                  simp [repT]
                rw [cut_of e1 (by omega) hcl.2.1]
                exact Txt.rep hT n2 n16
              · rw [← hx, en, Int.toNat_natCast, hz]
                simp only [Bool.false_eq_true, if_false, if_true, List.nil_append]
                exact times_take ys n
            · cases h
          · cases h
  | 0, true, p, acc, xs, q, hp, h => by rw [readS] at h; cases h
  | F + 1, true, p, acc, xs, q, hp, h => by
    cases hr : readS l F false p [] with
    | none => rw [read_row_none hr] at h; cases h
    | some z =>
      obtain ⟨zs, r⟩ := z
      obtain ⟨ys, hT, hz⟩ := read_sound F false p [] zs r hp hr
      have hpos := read_pos F false p [] zs r hp hr
      simp only [Bool.false_eq_true, if_false, List.nil_append] at hz
      by_cases c : r = l.length ∨ l.getD r 0 ≠ 32
      · rw [read_row_end hr c] at h
        cases h
        refine ⟨ys, .one hT, ?_⟩
        rw [if_pos rfl, hz, take_take_app]
      · rw [read_row_next hr c] at h
        have h32 : l.getD r 0 = 32 := Decidable.not_not.1 fun e => c (.inr e)
        have hlt : r < l.length := by omega
        obtain ⟨ys2, hT2, hz2⟩ := read_sound F true (r + 1) _ xs q (by omega) h
        have hpos2 := read_pos F true (r + 1) _ xs q (by omega) h
        refine ⟨ys ++ ys2, ?_, ?_⟩
        · have e1 : l.drop p = (cutS l p r ++ [32] ++ cutS l (r + 1) q) ++ l.drop q := by
            rw [drop_cut (Nat.le_of_lt hpos.1) hpos.2.1, drop_get hlt, h32, drop_cut (p := r + 1) (q := q) (by omega) hpos2.2.1]
            simp
          rw [cut_of e1 (by omega) hpos2.2.1]
          exact .cons hT hT2
        · rw [hz2, if_pos rfl, if_pos rfl, hz, take_take_app, ← List.append_assoc]
          rw [List.take_append, List.take_append (l₁ := acc ++ ys), List.take_take, Nat.min_self]
          rw [show 17 - (List.take 17 (acc ++ ys)).length = 17 - (acc ++ ys).length by simp; omega]
/-- A row that was read is a text of the grammar. -/
theorem expand_sound {l : List UInt8} {xs : List Stitch} (h : expandS l = (xs, 0)) : Txt true l xs ∧ xs.length ≤ 16 := by
  unfold expandS at h
  split at h
  · cases h
  · unfold rowS at h
    cases hr : readS l (2 * l.length + 1) true 0 [] with
    | none => rw [hr] at h; cases h
    | some z =>
      obtain ⟨zs, q⟩ := z
      rw [hr] at h
      simp only at h
      by_cases c : q = l.length
      · rw [if_pos c] at h
        simp only at h
        split at h
        · cases h
        · rename_i h16
          cases h
          obtain ⟨ys, hT, hz⟩ := read_sound _ true 0 [] xs q (by omega) hr
          simp only [if_true, List.nil_append] at hz
          have : ys = xs := by
            rw [hz] at h16 ⊢
            rw [List.length_take] at h16
            rw [List.take_of_length_le (by omega)]
          subst this
          rw [c, show cutS l 0 l.length = l by simp [cutS]] at hT
          exact ⟨hT, by omega⟩
      · rw [if_neg c] at h; cases h
end Go.G14
namespace Go.G14
open Go.Lw

def textB (x : Stitch) : Bool := decide (checkS x = 0 → parseS (textS x) = (x, 0) ∧ (textS x).all nb = true ∧ (textS x).getD 0 0 ≠ 91 ∧ textS x ≠ [])
theorem text_facts : ∀ k, k < 9 → ∀ y, y < 7 → ∀ a, a < 4 → ∀ b, b < 4 → textB ⟨((k : Nat) : Int), ((y : Nat) : Int), ((a : Nat) : Int), ((b : Nat) : Int), false⟩ = true ∧ textB ⟨((k : Nat) : Int), ((y : Nat) : Int), ((a : Nat) : Int), ((b : Nat) : Int), true⟩ = true := by
  decide +kernel
theorem text_ok_of {x : Stitch} (h : checkS x = 0) : parseS (textS x) = (x, 0) ∧ (textS x).all nb = true ∧ (textS x).getD 0 0 ≠ 91 ∧ textS x ≠ [] := by
  obtain ⟨k, y, a, b, f⟩ := x
  have hr := check_rng h
  simp only at hr
  have ha : 0 ≤ a ∧ a < 4 ∧ 0 ≤ b ∧ b < 4 := by
    by_cases c : k = 8
    · have := hr.2.2.2.2.2 c; omega
    · have := hr.2.2.2.2.1 c; omega
  obtain ⟨k', rfl⟩ : ∃ n : Nat, k = (n : Int) := ⟨k.toNat, by omega⟩
  obtain ⟨y', rfl⟩ : ∃ n : Nat, y = (n : Int) := ⟨y.toNat, by omega⟩
  obtain ⟨a', rfl⟩ : ∃ n : Nat, a = (n : Int) := ⟨a.toNat, by omega⟩
  obtain ⟨b', rfl⟩ : ∃ n : Nat, b = (n : Int) := ⟨b.toNat, by omega⟩
  have hb := text_facts k' (by omega) y' (by omega) a' (by omega) b' (by omega)
  cases f with
  | false => exact of_decide_eq_true hb.1 h
  | true => exact of_decide_eq_true hb.2 h
theorem itoa_facts : ∀ n, n < 17 → 2 ≤ n → (itoaS n).all isDig = true ∧ itoaS n ≠ [] ∧ (((itoaS n).getD 0 0).toNat : Int) ≠ 48 ∧ capS (itoaS n) = n := by decide +kernel
theorem tw_nil {f : UInt8 → Bool} {r : List UInt8} (h : r = [] ∨ f (r.getD 0 0) = false) : r.takeWhile f = [] := by
  cases r with
  | nil => rfl
  | cons c s => exact List.takeWhile_cons_of_neg (by rcases h with h | h; cases h; simpa using h)
theorem count_itoa {n : Nat} {r : List UInt8} (h2 : 2 ≤ n) (h16 : n ≤ 16) (h : r = [] ∨ isDig (r.getD 0 0) = false) : countS (itoaS n ++ r) 16 = ((n : Int), ((itoaS n).length : Int)) := by
  obtain ⟨f1, f2, f3, f4⟩ := itoa_facts n (by omega) h2
  have hw : (itoaS n ++ r).takeWhile isDig = itoaS n := by rw [tw_app _ _ f1, tw_nil h, List.append_nil]
  have hg : (itoaS n ++ r).getD 0 0 = (itoaS n).getD 0 0 := by
    cases he : itoaS n with
    | nil => exact absurd he f2
    | cons c s => rfl
  unfold countS
  simp only [hw, hg, f4]
  rw [if_neg]
  rintro (e | e | e | e)
  · exact f2 (List.length_eq_zero_iff.1 e)
  · exact f3 e
  · omega
  · omega
theorem get_at {l a r : List UInt8} {p : Nat} (h : l.drop p = a ++ r) : l.drop (p + a.length) = r := by
  rw [← List.drop_drop, h, List.drop_left]
theorem get_head {l r : List UInt8} {q : Nat} (h : l.drop q = r) : (r = [] ↔ l.length ≤ q) ∧ l.getD q 0 = r.getD 0 0 := by
  subst h
  refine ⟨List.drop_eq_nil_iff, ?_⟩
  simp [List.getD]
theorem read_complete {tg : Bool} {t : List UInt8} {xs : List Stitch} (hT : Txt tg t xs) : ∀ (l r : List UInt8) (p F : Nat) (acc : List Stitch), l.drop p = t ++ r → p ≤ l.length →
    (tg = false → 2 * (l.length - p) ≤ F ∧ (r = [] ∨ r.getD 0 0 = 32 ∨ r.getD 0 0 = 93)) → (tg = true → 2 * (l.length - p) + 1 ≤ F ∧ (r = [] ∨ r.getD 0 0 = 93)) →
    readS l F tg p acc = some (((if tg then acc else []) ++ xs).take 17, p + t.length) := by
  induction hT with
  | @leaf x h =>
    intro l r p F acc hl hp hi _
    obtain ⟨_, hr⟩ := hi rfl
    obtain ⟨f1, f2, f3, f4⟩ := text_ok_of h
    have hg := (get_head hl).2
    have hg' : l.getD p 0 ≠ 91 := by
      rw [hg]
      cases he : textS x with
      | nil => exact absurd he f4
      | cons c s => rw [he] at f3; exact f3
    have hrn : r = [] ∨ nb (r.getD 0 0) = false := hr.imp id fun e => by rcases e with e | e <;> rw [e] <;> rfl
    have hw : wordS l p = textS x := by rw [word_tw hp, hl, tw_app _ _ f2, tw_nil hrn, List.append_nil]
    have he : wordEnd l p = p + (textS x).length := by rw [word_end _ p rfl hp, ← word_tw hp, hw]
    rw [read_leaf (.inr hg'), leaf_some rfl (by show (parseS (wordS l p)).2 = 0; rw [hw, f1])]
    show some ([(parseS (wordS l p)).1], wordEnd l p) = _
    rw [hw, he, f1]; rfl
  | @rep t xs n hT h2 h16 ih =>
    intro l r p F acc hl hp hi _
    obtain ⟨hF, hr⟩ := hi rfl
    have hlen : 2 ≤ l.length - p := by
      have := congrArg List.length hl
      simp [repT] at this; omega
    obtain ⟨F', rfl⟩ : ∃ m, F = m + 1 := ⟨F - 1, by omega⟩
    have hl1 : l.drop p = 91 :: (t ++ ([93, 120] ++ itoaS n ++ r)) := by rw [hl]; simp [repT]
    have hc : l.getD p 0 = 91 := by rw [(get_head hl1).2]; rfl
    have hd1 : l.drop (p + 1) = t ++ ([93, 120] ++ itoaS n ++ r) := by
      rw [← List.drop_drop, hl1]; rfl
    have hrow := ih l ([93, 120] ++ itoaS n ++ r) (p + 1) F' [] hd1 (by omega) (fun e => by cases e) (fun _ => ⟨by omega, .inr rfl⟩)
    have hd2 := get_at hd1
    have hd3 : l.drop (p + 1 + t.length + 2) = itoaS n ++ r := by rw [← List.drop_drop, hd2]; rfl
    have hdr : r = [] ∨ isDig (r.getD 0 0) = false := hr.imp id fun e => by rcases e with e | e <;> rw [e] <;> rfl
    have hcnt := count_itoa h2 h16 hdr
    have hpos : 0 < (itoaS n).length := List.length_pos_iff.2 (itoa_facts n (by omega) h2).2.1
    rw [read_rep (by rintro (e | e); omega; exact e hc), hrow]
    simp only
    unfold closeS
    rw [if_pos (by rw [hd2]; exact ⟨itoaS n ++ r, by simp⟩), hd3, hcnt]
    simp only
    rw [if_pos (by omega), Int.toNat_natCast, Int.toNat_natCast]
    simp only [if_true, Bool.false_eq_true, if_false, List.nil_append]
    rw [times_take]
    congr 2
    simp [repT]; omega
  | @one t xs hT ih =>
    intro l r p F acc hl hp _ hi
    obtain ⟨hF, hr⟩ := hi rfl
    obtain ⟨F', rfl⟩ : ∃ m, F = m + 1 := ⟨F - 1, by omega⟩
    have h1 := ih l r p F' [] hl hp (fun _ => ⟨by omega, hr.imp id .inr⟩) (fun e => by cases e)
    have hq := get_head (get_at hl)
    have hle : p + t.length ≤ l.length := by have := congrArg List.length hl; simp at this; omega
    have hc : p + t.length = l.length ∨ l.getD (p + t.length) 0 ≠ 32 := by
      rcases hr with e | e
      · left; have := hq.1.1 e; omega
      · right; rw [hq.2, e]; decide
    rw [read_row_end h1 hc]
    simp only [Bool.false_eq_true, if_false, if_true, List.nil_append]
    rw [take_take_app]
  | @cons t s xs ys hT hR ih1 ih2 =>
    intro l r p F acc hl hp _ hi
    obtain ⟨hF, hr⟩ := hi rfl
    obtain ⟨F', rfl⟩ : ∃ m, F = m + 1 := ⟨F - 1, by omega⟩
    have hl1 : l.drop p = t ++ ([32] ++ s ++ r) := by rw [hl]; simp
    have h1 := ih1 l ([32] ++ s ++ r) p F' [] hl1 hp (fun _ => ⟨by omega, .inr (.inl rfl)⟩) (fun e => by cases e)
    have hd := get_at hl1
    have hq := get_head hd
    have hlt : p + t.length < l.length := by
      rcases Nat.lt_or_ge (p + t.length) l.length with h | h
      · exact h
      · have := hq.1.2 h; simp at this
    have hd2 : l.drop (p + t.length + 1) = s ++ r := by rw [← List.drop_drop, hd]; rfl
    have h2 := ih2 l r (p + t.length + 1) F' ((acc ++ (([] : List Stitch) ++ xs).take 17).take 17) hd2 (by omega) (fun e => by cases e) (fun _ => ⟨by omega, hr⟩)
    rw [read_row_next (acc := acc) h1 (by rintro (e | e); omega; exact e (by rw [hq.2]; rfl))]
    simp only [Bool.false_eq_true, if_false, if_true, List.nil_append] at h2 ⊢
    rw [h2, take_take_app]
    congr 2
    · rw [← List.append_assoc, List.take_append, List.take_append (l₁ := acc ++ xs), List.take_take, Nat.min_self]
      rw [show 17 - (List.take 17 (acc ++ xs)).length = 17 - (acc ++ xs).length by simp; omega]
    · simp; omega
/-- A text of the grammar is read as what it stands for. -/
theorem expand_complete {l : List UInt8} {xs : List Stitch} (h : Txt true l xs) (hl : l.length ≤ 1024) (h16 : xs.length ≤ 16) : expandS l = (xs, 0) := by
  have hr := read_complete h l [] 0 (2 * l.length + 1) [] (by simp) (by omega) (fun e => by cases e) (fun _ => ⟨by omega, .inl rfl⟩)
  simp only [if_true, List.nil_append, Nat.zero_add] at hr
  rw [List.take_of_length_le (by omega)] at hr
  unfold expandS rowS
  rw [if_neg (by omega), hr]
  simp only [if_true]
  rw [if_neg (by omega)]
end Go.G14
namespace Go.G14
open Go.Lw

theorem bl_nil (a : List UInt8) : Op.bytesLess a [] = false := by cases a <;> rfl
theorem bl_cons (a b : UInt8) (x y : List UInt8) : Op.bytesLess (a :: x) (b :: y) = (decide (a < b) || (a == b && Op.bytesLess x y)) := rfl
theorem bl_irrefl : ∀ a : List UInt8, Op.bytesLess a a = false
  | [] => rfl
  | a :: x => by rw [bl_cons, bl_irrefl x]; simp
theorem bl_antis : ∀ a b : List UInt8, a.length = b.length → Op.bytesLess a b = false → Op.bytesLess b a = false → a = b
  | [], [], _, _, _ => rfl
  | [], _ :: _, h, _, _ => by simp at h
  | _ :: _, [], h, _, _ => by simp at h
  | a :: x, b :: y, h, h1, h2 => by
    rw [bl_cons] at h1 h2
    simp only [Bool.or_eq_false_iff, Bool.and_eq_false_iff, decide_eq_false_iff_not] at h1 h2
    have e : a = b := by
      have h3 : ¬ a.toNat < b.toNat := h1.1
      have h4 : ¬ b.toNat < a.toNat := h2.1
      exact UInt8.toNat_inj.1 (by omega)
    subst e
    have h5 := h1.2.resolve_left (by simp)
    have h6 := h2.2.resolve_left (by simp)
    rw [bl_antis x y (by simpa using h) h5 h6]
theorem bl_trans : ∀ a b c : List UInt8, Op.bytesLess a b = true → Op.bytesLess b c = true → Op.bytesLess a c = true
  | _, _, [], _, h => by rw [bl_nil] at h; cases h
  | _, [], _ :: _, h, _ => by rw [bl_nil] at h; cases h
  | [], _ :: _, _ :: _, _, _ => rfl
  | a :: x, b :: y, c :: z, h1, h2 => by
    rw [bl_cons] at h1 h2 ⊢
    simp only [Bool.or_eq_true, Bool.and_eq_true, decide_eq_true_eq, beq_iff_eq] at h1 h2 ⊢
    rcases h1 with h1 | ⟨rfl, h1⟩
    · rcases h2 with h2 | ⟨rfl, h2⟩
      · left; exact UInt8.lt_trans h1 h2
      · exact .inl h1
    · rcases h2 with h2 | ⟨rfl, h2⟩
      · exact .inl h2
      · exact .inr ⟨rfl, bl_trans x y z h1 h2⟩
theorem bl_app : ∀ (a a' b b' : List UInt8), a.length = a'.length → Op.bytesLess (a ++ b) (a' ++ b') = (Op.bytesLess a a' || (a == a' && Op.bytesLess b b'))
  | [], [], b, b', _ => by simp [bl_nil]
  | [], _ :: _, _, _, h => by simp at h
  | _ :: _, [], _, _, h => by simp at h
  | x :: a, y :: a', b, b', h => by
    rw [List.cons_append, List.cons_append, bl_cons, bl_cons, bl_app a a' b b' (by simpa using h)]
    by_cases c : x = y
    · subst c
      by_cases d : a = a'
      · subst d; simp [bl_irrefl]
      · simp [d]
    · have e : (x == y) = false := by simpa using c
      have e2 : ((x :: a) == (y :: a')) = false := by simp [c]
      rw [e, e2]; simp
/-- No worse than. -/
def leP (a b : List UInt8) : Prop := ¬ lessP b a
theorem leP_iff {a b : List UInt8} : leP a b ↔ a.length < b.length ∨ (a.length = b.length ∧ Op.bytesLess b a = false) := by
  unfold leP lessP
  constructor
  · intro h
    rcases Nat.lt_trichotomy a.length b.length with c | c | c
    · exact .inl c
    · refine .inr ⟨c, ?_⟩
      cases e : Op.bytesLess b a with
      | false => rfl
      | true => exact absurd (.inr ⟨c.symm, e⟩) h
    · exact absurd (.inl c) h
  · rintro (h | ⟨h, e⟩) (h' | ⟨h', e'⟩)
    · omega
    · omega
    · omega
    · rw [e] at e'; cases e'
theorem leP_refl (a : List UInt8) : leP a a := leP_iff.2 (.inr ⟨rfl, bl_irrefl a⟩)
theorem leP_antis {a b : List UInt8} (h1 : leP a b) (h2 : leP b a) : a = b := by
  rw [leP_iff] at h1 h2
  rcases h1 with h1 | ⟨h1, e1⟩ <;> rcases h2 with h2 | ⟨h2, e2⟩
  · omega
  · omega
  · omega
  · exact bl_antis a b h1 e2 e1
theorem leP_of_less {a b : List UInt8} (h : lessP a b) : leP a b := by
  rw [leP_iff]
  rcases h with h | ⟨h, e⟩
  · exact .inl h
  · refine .inr ⟨h, ?_⟩
    cases e' : Op.bytesLess b a with
    | false => rfl
    | true => have := bl_trans _ _ _ e e'; rw [bl_irrefl] at this; cases this
theorem leP_trans {a b c : List UInt8} (h1 : leP a b) (h2 : leP b c) : leP a c := by
  rw [leP_iff] at h1 h2 ⊢
  rcases h1 with h1 | ⟨h1, e1⟩ <;> rcases h2 with h2 | ⟨h2, e2⟩
  · left; omega
  · left; omega
  · left; omega
  · right
    refine ⟨h1.trans h2, ?_⟩
    cases e : Op.bytesLess c a with
    | false => rfl
    | true =>
      by_cases d : b = a
      · subst d; rw [e2] at e; cases e
      · cases f : Op.bytesLess a b with
        | true => have := bl_trans _ _ _ e f; rw [e2] at this; cases this
        | false => exact absurd (bl_antis b a h1.symm e1 f) d
theorem leP_cons {a a' b b' : List UInt8} (h1 : leP a a') (h2 : leP b b') : leP (a ++ [32] ++ b) (a' ++ [32] ++ b') := by
  rw [leP_iff] at h1 h2 ⊢
  simp only [List.length_append, List.length_singleton]
  rcases h1 with h1 | ⟨h1, e1⟩
  · left; rcases h2 with h2 | ⟨h2, _⟩ <;> omega
  · rcases h2 with h2 | ⟨h2, e2⟩
    · left; omega
    · right
      refine ⟨by omega, ?_⟩
      rw [bl_app _ _ _ _ (by simp [h1]), bl_app _ _ _ _ h1.symm, e1]
      rw [show Op.bytesLess [32] [32] = false from rfl]
      simp [e2]
theorem leP_rep {t t' : List UInt8} (n : Nat) (h : leP t t') : leP (repT t n) (repT t' n) := by
  rw [leP_iff] at h ⊢
  unfold repT
  simp only [List.length_cons, List.length_append, List.length_nil]
  rcases h with h | ⟨h, e⟩
  · left; omega
  · right
    refine ⟨by omega, ?_⟩
    rw [bl_cons, List.append_assoc, List.append_assoc, bl_app _ _ _ _ h.symm, e, bl_irrefl]
    simp
theorem better_cases (a b : List UInt8) : betterS a b = a ∨ betterS a b = b := by
  unfold betterS; split
  · exact .inr rfl
  · exact .inl rfl
theorem better_le_left {a b : List UInt8} (ha : a ≠ []) (hb : b ≠ []) : leP (betterS a b) a := by
  unfold betterS
  split
  · rename_i h
    rcases h with h | h
    · exact absurd h ha
    · exact leP_of_less h.2
  · exact leP_refl a
theorem better_le_right {a b : List UInt8} (hb : b ≠ []) : leP (betterS a b) b := by
  unfold betterS
  split
  · exact leP_refl b
  · rename_i h
    simp only [not_or, not_and] at h
    exact h.2 hb
theorem better_ne {a b : List UInt8} (hb : b ≠ []) : betterS a b ≠ [] := by
  unfold betterS
  split
  · exact hb
  · rename_i h; simp only [not_or] at h; exact h.1
end Go.G14
namespace Go.G14
open Go.Lw

theorem times_front (ys : List Stitch) (k : Nat) : timesS ys (k + 1) = ys ++ timesS ys k := by simp [timesS, List.replicate_succ]
theorem period {m : Nat} : ∀ (k : Nat) (l : List Stitch), l.length = m * k → l.drop m = l.take (l.length - m) → l = timesS (l.take m) k
  | 0, l, hl, _ => by simp at hl; subst hl; simp [timesS]
  | 1, l, hl, _ => by rw [List.take_of_length_le (by omega)]; simp [timesS]
  | k + 2, l, hl, h => by
    have hlen : l.length = m + m * (k + 1) := by rw [hl, show k + 2 = (k + 1) + 1 from rfl, Nat.mul_succ]; omega
    have hk : m ≤ m * (k + 1) := Nat.le_mul_of_pos_right m (by omega)
    have h1 : (l.drop m).length = m * (k + 1) := by simp; omega
    have h2 : (l.drop m).drop m = (l.drop m).take ((l.drop m).length - m) := by
      conv => lhs; rw [h]
      rw [List.drop_take, h1, hlen]
      congr 1; omega
    have h3 : (l.drop m).take m = l.take m := by rw [h, List.take_take, Nat.min_eq_left (by omega)]
    have ih := period (k + 1) (l.drop m) h1 h2
    rw [h3] at ih
    rw [times_front, ← ih, List.take_append_drop]
theorem period_back {ys : List Stitch} {k : Nat} : (timesS ys (k + 1)).drop ys.length = (timesS ys (k + 1)).take ((timesS ys (k + 1)).length - ys.length) := by
  have e1 : (timesS ys (k + 1)).drop ys.length = timesS ys k := by rw [times_front, List.drop_left]
  have e2 : (timesS ys (k + 1)).take ((timesS ys (k + 1)).length - ys.length) = timesS ys k := by
    rw [times_succ, List.length_append, Nat.add_sub_cancel, List.take_left]
  rw [e1, e2]
theorem part_split {row : List Stitch} {i m n : Nat} (h : m ≤ n) : partS row i n = partS row i m ++ partS row (i + m) (n - m) := by
  unfold partS
  rw [← List.drop_drop]
  conv => lhs; rw [show n = m + (n - m) by omega]
  exact List.take_add
theorem part_take {row : List Stitch} {i m n : Nat} (h : m ≤ n) : (partS row i n).take m = partS row i m := by
  unfold partS; rw [List.take_take, Nat.min_eq_left h]
theorem part_times {row : List Stitch} {i n k : Nat} (hi : i + n ≤ row.length) (hk : n / k * k = n) (hr : repsB row i n (n / k) = true) : timesS (partS row i (n / k)) k = partS row i n := by
  have h := (repsB_iff hi).1 hr
  have hl := part_len hi
  have := period (m := n / k) k (partS row i n) (by rw [hl, hk]) h
  rw [part_take (Nat.div_le_self _ _)] at this
  exact this.symm
theorem part_of_times {row : List Stitch} {i n k : Nat} {ys : List Stitch} (hi : i + n ≤ row.length) (hk : 1 ≤ k) (h : timesS ys k = partS row i n) : n / k * k = n ∧ ys = partS row i (n / k) ∧ repsB row i n (n / k) = true ∧ ys.length = n / k := by
  have hl : k * ys.length = n := by rw [← times_len, h, part_len hi]
  have hd : n / k = ys.length := by rw [← hl]; exact Nat.mul_div_cancel_left _ (by omega)
  obtain ⟨j, rfl⟩ : ∃ j, k = j + 1 := ⟨k - 1, by omega⟩
  refine ⟨by rw [hd, Nat.mul_comm]; exact hl, ?_, ?_, hd.symm⟩
  · rw [hd, ← part_take (n := n) (by rw [← hl]; exact Nat.le_mul_of_pos_left _ (by omega)), ← h, times_front, List.take_left]
  · rw [repsB_iff hi, hd, ← h]; exact period_back
def ItemOk (t : List UInt8) (xs : List Stitch) : Prop := (t ≠ [] → Txt false t xs) ∧ ∀ s, Txt false s xs → t ≠ [] ∧ leP t s
def RowOk (t : List UInt8) (xs : List Stitch) : Prop := Txt true t xs ∧ ∀ s, Txt true s xs → leP t s
theorem rep_ne (t : List UInt8) (n : Nat) : repT t n ≠ [] := by simp [repT]
theorem item_inv {row : List Stitch} {i n : Nat} (hok : row.all okB = true) (hi : i + n ≤ row.length) (hn : 1 ≤ n) (h16 : n ≤ 16) (t : Nat → Nat → List UInt8 × List UInt8)
    (ih : ∀ m, 1 ≤ m → m < n → RowOk (t i m).2 (partS row i m)) : ∀ k, k < n →
    (itemTo t row i n k ≠ [] → Txt false (itemTo t row i n k) (partS row i n)) ∧
    (∀ x, partS row i n = [x] → itemTo t row i n k ≠ [] ∧ leP (itemTo t row i n k) (textS x)) ∧
    (∀ times, 2 ≤ times → times ≤ k + 1 → n / times * times = n → repsB row i n (n / times) = true → itemTo t row i n k ≠ [] ∧ leP (itemTo t row i n k) (repT (t i (n / times)).2 times))
  | 0, _ => by
    have hx : ∀ x, partS row i n = [x] → itemTo t row i n 0 = textS x ∧ checkS x = 0 := by
      intro x hx
      have hl := part_len hi
      rw [hx] at hl
      have h1 : n = 1 := hl.symm
      subst h1
      have hget : row[i]? = some x := by
        have := congrArg (·[0]?) hx
        simpa [partS] using this
      have hck := (okB_iff x).1 (List.all_eq_true.1 hok x (List.mem_of_getElem? hget))
      refine ⟨?_, hck⟩
      rw [itemTo, if_pos rfl, List.getD, hget]; rfl
    refine ⟨fun h => ?_, fun x e => ?_, fun times h1 h2 => by omega⟩
    · by_cases h1 : n = 1
      · subst h1
        obtain ⟨x, hx1⟩ : ∃ x, partS row i 1 = [x] := by
          have hl := part_len hi
          exact List.length_eq_one_iff.1 hl
        obtain ⟨e1, e2⟩ := hx x hx1
        rw [e1, hx1]; exact Txt.leaf e2
      · rw [itemTo, if_neg h1] at h; exact absurd rfl h
    · obtain ⟨e1, e2⟩ := hx x e
      rw [e1]; exact ⟨(text_ok_of e2).2.2.2, leP_refl _⟩
  | k + 1, hk => by
    obtain ⟨i1, i2, i3⟩ := item_inv hok hi hn h16 t ih k (by omega)
    by_cases c : n / (k + 2) * (k + 2) = n ∧ repsB row i n (n / (k + 2)) = true
    · have e : itemTo t row i n (k + 1) = betterS (itemTo t row i n k) (repT (t i (n / (k + 2))).2 (k + 2)) := (itemTo_yes c.1 c.2).symm
      have hne : betterS (itemTo t row i n k) (repT (t i (n / (k + 2))).2 (k + 2)) ≠ [] := better_ne (rep_ne _ _)
      have hm1 : 1 ≤ n / (k + 2) := by
        rcases Nat.eq_zero_or_pos (n / (k + 2)) with z | z
        · rw [z] at c; omega
        · exact z
      have hm2 : n / (k + 2) < n := Nat.div_lt_self (by omega) (by omega)
      have hT : Txt false (repT (t i (n / (k + 2))).2 (k + 2)) (partS row i n) := by
        have := Txt.rep (ih _ hm1 hm2).1 (show 2 ≤ k + 2 by omega) (by omega)
        rwa [part_times hi c.1 c.2] at this
      have hleft : itemTo t row i n k ≠ [] → leP (betterS (itemTo t row i n k) (repT (t i (n / (k + 2))).2 (k + 2))) (itemTo t row i n k) := fun h => better_le_left h (rep_ne _ _)
      rw [e]
      refine ⟨fun _ => ?_, fun x hx => ⟨hne, ?_⟩, fun times h1 h2 h3 h4 => ⟨hne, ?_⟩⟩
      · rcases better_cases (itemTo t row i n k) (repT (t i (n / (k + 2))).2 (k + 2)) with e2 | e2
        · rw [e2]; rw [e2] at hne; exact i1 hne
        · rw [e2]; exact hT
      · have := i2 x hx; exact leP_trans (hleft this.1) this.2
      · rcases Nat.lt_or_ge times (k + 2) with h | h
        · have := i3 times h1 (by omega) h3 h4; exact leP_trans (hleft this.1) this.2
        · obtain rfl : times = k + 2 := by omega
          exact better_le_right (rep_ne _ _)
    · rw [← itemTo_no c]
      refine ⟨i1, i2, fun times h1 h2 h3 h4 => ?_⟩
      rcases Nat.lt_or_ge times (k + 2) with h | h
      · exact i3 times h1 (by omega) h3 h4
      · obtain rfl : times = k + 2 := by omega
        exact absurd ⟨h3, h4⟩ c
theorem cons_ne (a b : List UInt8) : a ++ [32] ++ b ≠ [] := by simp
theorem text_inv {row : List Stitch} {i n : Nat} (t : Nat → Nat → List UInt8 × List UInt8) (item : List UInt8) (hit : item ≠ [] → Txt false item (partS row i n))
    (ih : ∀ m, 1 ≤ m → m < n → ItemOk (t i m).1 (partS row i m) ∧ RowOk (t (i + m) (n - m)).2 (partS row (i + m) (n - m))) : ∀ k, k < n →
    (textTo t i n item k ≠ [] → Txt true (textTo t i n item k) (partS row i n)) ∧ (item ≠ [] → textTo t i n item k ≠ [] ∧ leP (textTo t i n item k) item) ∧
    (∀ m, 1 ≤ m → m ≤ k → (t i m).1 ≠ [] → textTo t i n item k ≠ [] ∧ leP (textTo t i n item k) ((t i m).1 ++ [32] ++ (t (i + m) (n - m)).2))
  | 0, _ => ⟨fun h => .one (hit h), fun h => ⟨h, leP_refl _⟩, fun m h1 h2 => by omega⟩
  | k + 1, hk => by
    obtain ⟨i1, i2, i3⟩ := text_inv t item hit ih k (by omega)
    by_cases c : (t i (k + 1)).1 ≠ []
    · rw [← textTo_yes c]
      have hne : betterS (textTo t i n item k) ((t i (k + 1)).1 ++ [32] ++ (t (i + (k + 1)) (n - (k + 1))).2) ≠ [] := better_ne (cons_ne _ _)
      have hT : Txt true ((t i (k + 1)).1 ++ [32] ++ (t (i + (k + 1)) (n - (k + 1))).2) (partS row i n) := by
        obtain ⟨j1, j2⟩ := ih (k + 1) (by omega) hk
        rw [part_split (m := k + 1) (by omega)]
        exact .cons (j1.1 c) j2.1
      have hleft : textTo t i n item k ≠ [] → leP (betterS (textTo t i n item k) ((t i (k + 1)).1 ++ [32] ++ (t (i + (k + 1)) (n - (k + 1))).2)) (textTo t i n item k) := fun h => better_le_left h (cons_ne _ _)
      refine ⟨fun _ => ?_, fun h => ⟨hne, ?_⟩, fun m h1 h2 h3 => ⟨hne, ?_⟩⟩
      · rcases better_cases (textTo t i n item k) ((t i (k + 1)).1 ++ [32] ++ (t (i + (k + 1)) (n - (k + 1))).2) with e2 | e2
        · rw [e2]; rw [e2] at hne; exact i1 hne
        · rw [e2]; exact hT
      · have := i2 h; exact leP_trans (hleft this.1) this.2
      · rcases Nat.lt_or_ge m (k + 1) with h | h
        · have := i3 m h1 (by omega) h3; exact leP_trans (hleft this.1) this.2
        · obtain rfl : m = k + 1 := by omega
          exact better_le_right (cons_ne _ _)
    · rw [← textTo_no c]
      refine ⟨i1, i2, fun m h1 h2 h3 => ?_⟩
      rcases Nat.lt_or_ge m (k + 1) with h | h
      · exact i3 m h1 (by omega) h3
      · obtain rfl : m = k + 1 := by omega
        exact absurd h3 c
theorem T_ok {row : List Stitch} (hok : row.all okB = true) (h16 : row.length ≤ 16) (n : Nat) : 1 ≤ n → ∀ i, i + n ≤ row.length → ItemOk (T row i n).1 (partS row i n) ∧ RowOk (T row i n).2 (partS row i n) := by
  induction n using Nat.strongRecOn with
  | _ n ih =>
    intro hn i hi
    have hitem : ItemOk (T row i n).1 (partS row i n) := by
      obtain ⟨i1, i2, i3⟩ := item_inv hok hi hn (by omega) (T row) (fun m h1 h2 => (ih m h2 h1 i (by omega)).2) (n - 1) (by omega)
      rw [← T_item row i n hn (by omega)] at i1 i2 i3
      refine ⟨i1, fun s hs => ?_⟩
      generalize hp : partS row i n = xs at hs
      generalize hb : false = tg at hs
      cases hs with
      | leaf h => exact i2 _ hp
      | @rep t' ys k hT h2 hk16 =>
        obtain ⟨e1, e2, e3, e4⟩ := part_of_times hi (by omega) hp.symm
        have hy := hT.ok.1
        have hm1 : 1 ≤ n / k := by
          rw [← e4]; exact List.length_pos_iff.2 hy
        have hm2 : n / k < n := Nat.div_lt_self (by omega) (by omega)
        have hkn : k ≤ n := by
          have := Nat.mul_le_mul_right k hm1
          omega
        have h3 := i3 k h2 (by omega) e1 e3
        refine ⟨h3.1, leP_trans h3.2 (leP_rep k ((ih (n / k) hm2 hm1 i (by omega)).2.2 t' ?_))⟩
        rw [← e2]; exact hT
      | one => cases hb
      | cons => cases hb
    refine ⟨hitem, ?_⟩
    obtain ⟨r1, r2, r3⟩ := text_inv (row := row) (T row) (T row i n).1 hitem.1 (fun m h1 h2 => ⟨(ih m h2 h1 i (by omega)).1, (ih (n - m) (by omega) (by omega) (i + m) (by omega)).2⟩) (n - 1) (by omega)
    rw [← T_text row i n hn (by omega)] at r1 r2 r3
    have hleast : ∀ s, Txt true s (partS row i n) → (T row i n).2 ≠ [] ∧ leP (T row i n).2 s := by
      intro s hs
      generalize hp : partS row i n = xs at hs
      generalize hb : true = tg at hs
      cases hs with
      | leaf => cases hb
      | rep => cases hb
      | one h =>
        have h1 := hitem.2 s (by rw [hp]; exact h)
        have h2 := r2 h1.1
        exact ⟨h2.1, leP_trans h2.2 h1.2⟩
      | @cons a b ys zs ha hbT =>
        have hl := part_len hi
        rw [hp, List.length_append] at hl
        have hy : 1 ≤ ys.length := List.length_pos_iff.2 ha.ok.1
        have hz : 1 ≤ zs.length := List.length_pos_iff.2 hbT.ok.1
        have e1 : ys = partS row i ys.length := by rw [← part_take (n := n) (by omega), hp, List.take_left]
        have e2 : zs = partS row (i + ys.length) (n - ys.length) := by
          have := part_split (row := row) (i := i) (m := ys.length) (n := n) (by omega)
          rw [hp, ← e1] at this
          exact List.append_cancel_left this
        have h1 := (ih ys.length (by omega) hy i (by omega)).1.2 a (by rw [← e1]; exact ha)
        have h2 := (ih (n - ys.length) (by omega) (by omega) (i + ys.length) (by omega)).2.2 b (by rw [← e2]; exact hbT)
        have h3 := r3 ys.length hy (by omega) h1.1
        exact ⟨h3.1, leP_trans h3.2 (leP_cons h1.2 h2)⟩
    have hex : ∃ s, Txt true s (partS row i n) := by
      have all : ∀ l : List Stitch, l ≠ [] → l.all okB = true → ∃ s, Txt true s l := by
        intro l
        induction l with
        | nil => intro h; exact absurd rfl h
        | cons x l ihl =>
          intro _ h
          simp only [List.all_cons, Bool.and_eq_true] at h
          have hx := (okB_iff x).1 h.1
          cases l with
          | nil => exact ⟨_, .one (.leaf hx)⟩
          | cons y l =>
            obtain ⟨s, hs⟩ := ihl (by simp) h.2
            exact ⟨_, .cons (.leaf hx) hs⟩
      refine all _ (fun e => by have := part_len hi; rw [e] at this; simp at this; omega) ?_
      rw [List.all_eq_true] at hok ⊢
      exact fun x hx => hok x (List.mem_of_mem_drop (List.mem_of_mem_take hx))
    obtain ⟨s, hs⟩ := hex
    exact ⟨r1 (hleast s hs).1, fun s hs => (hleast s hs).2⟩
/-- The shortest text: it stands for the row, and no text of the row is better. -/
theorem short_ok {row : List Stitch} (hok : row.all okB = true) (h1 : 1 ≤ row.length) (h16 : row.length ≤ 16) : RowOk (shortS row) row := by
  have := (T_ok hok h16 row.length h1 0 (by omega)).2
  rwa [show partS row 0 row.length = row by simp [partS]] at this
theorem short_back {row : List Stitch} (hok : row.all okB = true) (h1 : 1 ≤ row.length) (h16 : row.length ≤ 16) : expandS (shortS row) = (row, 0) :=
  expand_complete (short_ok hok h1 h16).1 (by have := (T_len row 0 row.length h1).2; show (T row 0 row.length).2.length ≤ 1024; omega) h16
end Go.G14
namespace Go.G14
open Go.Lw

theorem shorten_good {xs : List Stitch} (hok : xs.all okB = true) (h1 : 1 ≤ xs.length) (h16 : xs.length ≤ 16) : shortenS xs = (shortS xs, 0) := by
  rw [shortenS, if_neg (by omega), if_neg (by omega), if_pos hok]
theorem least_facts {l : List UInt8} (h : (expandS l).2 = 0) : shortenS (expandS l).1 = (shortS (expandS l).1, 0) ∧ ¬ lessP l (shortS (expandS l).1) := by
  have e : expandS l = ((expandS l).1, 0) := by rw [← h]
  obtain ⟨hT, h16⟩ := expand_sound e
  have hk := hT.ok
  have h1 : 1 ≤ (expandS l).1.length := List.length_pos_iff.2 hk.1
  exact ⟨shorten_good hk.2 h1 h16, (short_ok hk.2 h1 h16).2 l hT⟩
end Go.G14
namespace Go.Proofs.YtbbnampdgefljaaDoor
open Go.Lw Go.G14
theorem co17 : CallOf Tryd.prog 17 := CallOf.mk' Tryd.func17 (by kernel_rfl) (by kernel_rfl)
end Go.Proofs.YtbbnampdgefljaaDoor
namespace Go.Proofs.YtbbnampdgefljaaDoor
open Go.Lw Go.G14
theorem law_least (l : List UInt8) (w0 : World) (hy : Sym w0) (hlen : l.length ≤ 9223372036854775807) : Rets Tryd.prog 5 #[S l] w0 fun v w' => v = .bool true ∧ Fr [] w0 w' := by
 refine enter [(0, S l)] Tryd.func5 rfl Tryd.ntmps5 rfl (.cons rfl .nil) ?_
 have hf := Fr.refl [] w0
 intro a h
 refine wp_seq ?_
 refine wR ?_
 refine st_assign h rfl rfl ?_; clear h a; intro a h
 replace h : Ag a 34 [(0, _)] := h.sub (.cons rfl .nil)
 refine wnt ?_
 refine wp_seq ?_
 refine wp_seq ?_
 refine wR ?_
 refine st_move h rfl rfl ?_; clear h a; intro a h
 refine st_len h rfl Tryd.underlying9 rfl ?_; clear h a; intro a h
 refine st_gt h rfl rfl rfl ?_; clear h a; intro a h
 replace h : Ag a 34 [(0, _), (9, _)] := h.sub (.cons rfl (.cons rfl .nil))
 refine wnt ?_
 first | refine cond_dec h rfl (fun c0 => ?_) (fun c0 => ?_) | refine cond_ndec h rfl (fun c0 => ?_) (fun c0 => ?_) | refine cond_split h rfl (fun c0 => ?_) (fun c0 => ?_)
 ·refine id ?_
  refine wp_seq ?_
  refine wR ?_
  refine st_assign h rfl rfl ?_; clear h a; intro a h
  replace h : Ag a 34 [(2, _)] := h.sub (.cons rfl .nil)
  refine wnt ?_
  refine wp_ret (ret_then ?_)
  refine ret1 h Tryd.results5 rfl ?_
  first | exact ⟨_, rfl, rfl, hf⟩ | (exfalso; simp_all)
 ·refine id ?_
  refine wsn ?_
  refine wp_seq ?_
  refine wR ?_
  refine st_move h rfl rfl ?_; clear h a; intro a h
  refine st_call h (evs_cons rfl evs_nil) co11 (refexpand_ok _ _ hy) rfl ?_; clear h a; rintro _ w1 ⟨x2, R, rfl, hR1, hR2, hs2, hq⟩ a h
  replace hf := hf.next hq
  replace hy := hy.ext hq
  clear hq
  obtain rfl : R = expandS l := mach_all hR1 hR2
  clear hR1 hR2
  refine st_move h rfl rfl ?_; clear h a; intro a h
  refine st_extract h rfl rfl rfl ?_; clear h a; intro a h
  refine st_extract h rfl rfl rfl ?_; clear h a; intro a h
  refine st_assign h rfl rfl ?_; clear h a; intro a h
  refine st_assign h rfl rfl ?_; clear h a; intro a h
  replace h : Ag a 34 [(0, _), (3, _), (4, _)] := h.sub (.cons rfl (.cons rfl (.cons rfl .nil)))
  refine wnt ?_
  refine wp_seq ?_
  refine wp_seq ?_
  refine wR ?_
  refine st_move h rfl rfl ?_; clear h a; intro a h
  refine st_ne h rfl rfl rfl ?_; clear h a; intro a h
  replace h : Ag a 34 [(0, _), (3, _), (16, _)] := h.sub (.cons rfl (.cons rfl (.cons rfl .nil)))
  refine wnt ?_
  first | refine cond_dec h rfl (fun c1 => ?_) (fun c1 => ?_) | refine cond_ndec h rfl (fun c1 => ?_) (fun c1 => ?_) | refine cond_split h rfl (fun c1 => ?_) (fun c1 => ?_)
  ·refine id ?_
   refine wp_seq ?_
   refine wR ?_
   refine st_call h evs_nil co12 (lives_ok _ hy) rfl ?_; clear h a; rintro _ w2 ⟨rfl, hq⟩ a h
   replace hf := hf.next hq
   replace hy := hy.ext hq
   replace hs2 := hs2.ext hq
   clear hq
   refine st_assign h rfl rfl ?_; clear h a; intro a h
   replace h : Ag a 34 [(2, _)] := h.sub (.cons rfl .nil)
   refine wnt ?_
   refine wp_ret (ret_then ?_)
   refine ret1 h Tryd.results5 rfl ?_
   first | exact ⟨_, rfl, rfl, hf⟩ | (exfalso; simp_all)
  ·obtain ⟨hsh, hnl⟩ := least_facts (by omega : (expandS l).2 = 0)
   refine wsn ?_
   refine wp_seq ?_
   refine wR ?_
   refine st_move h rfl rfl ?_; clear h a; intro a h
   refine st_call h (evs_cons rfl evs_nil) co14 (shorten_ok _ _ _ hs2 hy) rfl ?_; clear h a; rintro _ w3 ⟨rfl, hq⟩ a h
   replace hf := hf.next hq
   replace hy := hy.ext hq
   replace hs2 := hs2.ext hq
   clear hq
   rw [hsh] at h
   refine st_move h rfl rfl ?_; clear h a; intro a h
   refine st_extract h rfl rfl rfl ?_; clear h a; intro a h
   refine st_extract h rfl rfl rfl ?_; clear h a; intro a h
   refine st_assign h rfl rfl ?_; clear h a; intro a h
   refine st_assign h rfl rfl ?_; clear h a; intro a h
   replace h : Ag a 34 [(0, _), (5, _), (6, _)] := h.sub (.cons rfl (.cons rfl (.cons rfl .nil)))
   refine wnt ?_
   refine wp_seq ?_
   refine wR ?_
   refine st_move h rfl rfl ?_; clear h a; intro a h
   refine st_eq h rfl rfl rfl ?_; clear h a; intro a h
   refine st_move h rfl rfl ?_; clear h a; intro a h
   first | refine guard_dec (D := 25) h rfl ?_ ?_ | refine guard_ndec (D := 25) h rfl ?_ ?_ | refine guard_any (D := 25) h rfl ?_ ?_
   ·clear h; intro g0 h
    refine gd_yes h rfl rfl rfl rfl rfl rfl ?_
    refine st_move h rfl rfl ?_; clear h a; intro a h
    refine gd_yes h rfl rfl rfl rfl rfl rfl ?_
    refine st_move h rfl rfl ?_; clear h a; intro a h
    refine gd_yes h rfl rfl rfl rfl rfl rfl ?_
    refine st_call h (evs_cons rfl (evs_cons rfl evs_nil)) co17 (less_ok _ _ _) rfl ?_; clear h a; rintro _ _ ⟨rfl, rfl⟩ a h
    rw [if_neg hnl] at h
    refine gd_yes h rfl rfl rfl rfl rfl rfl ?_
    refine st_eq h rfl rfl rfl ?_; clear h a; intro a h
    refine st_pick_t h rfl rfl rfl rfl ?_; clear h a; intro a h
    refine st_move h rfl rfl ?_; clear h a; intro a h
    first | refine guard_dec (D := 31) h rfl ?_ ?_ | refine guard_ndec (D := 31) h rfl ?_ ?_ | refine guard_any (D := 31) h rfl ?_ ?_
    ·clear h; intro g1 h
     refine gd_yes h rfl rfl rfl rfl rfl rfl ?_
     refine st_call h evs_nil co12 (lives_ok _ hy) rfl ?_; clear h a; rintro _ w4 ⟨rfl, hq⟩ a h
     replace hf := hf.next hq
     replace hy := hy.ext hq
     replace hs2 := hs2.ext hq
     clear hq
     refine st_pick_t h rfl rfl rfl rfl ?_; clear h a; intro a h
     refine st_assign h rfl rfl ?_; clear h a; intro a h
     replace h : Ag a 34 [(2, _)] := h.sub (.cons rfl .nil)
     refine wnt ?_
     refine wp_ret ?_
     refine ret1 h Tryd.results5 rfl ?_
     first | exact ⟨_, rfl, rfl, hf⟩ | (exfalso; simp_all)
    ·clear h; intro g1 h
     refine gd_no h rfl rfl rfl rfl rfl rfl rfl rfl ?_; clear h a; intro a h
     refine st_pick_f h rfl rfl rfl rfl ?_; clear h a; intro a h
     refine st_assign h rfl rfl ?_; clear h a; intro a h
     replace h : Ag a 34 [(2, _)] := h.sub (.cons rfl .nil)
     refine wnt ?_
     refine wp_ret ?_
     refine ret1 h Tryd.results5 rfl ?_
     first | exact ⟨_, rfl, rfl, hf⟩ | (exfalso; simp_all)
   ·clear h; intro g0 h
    refine gd_no h rfl rfl rfl rfl rfl rfl rfl rfl ?_; clear h a; intro a h
    refine gd_no h rfl rfl rfl rfl rfl rfl rfl rfl ?_; clear h a; intro a h
    refine gd_no h rfl rfl rfl rfl rfl rfl rfl rfl ?_; clear h a; intro a h
    refine gd_no h rfl rfl rfl rfl rfl rfl rfl rfl ?_; clear h a; intro a h
    refine st_pick_f h rfl rfl rfl rfl ?_; clear h a; intro a h
    refine st_move h rfl rfl ?_; clear h a; intro a h
    refine gd_no h rfl rfl rfl rfl rfl rfl rfl rfl ?_; clear h a; intro a h
    refine st_pick_f h rfl rfl rfl rfl ?_; clear h a; intro a h
    refine st_assign h rfl rfl ?_; clear h a; intro a h
    replace h : Ag a 34 [(2, _)] := h.sub (.cons rfl .nil)
    refine wnt ?_
    refine wp_ret ?_
    refine ret1 h Tryd.results5 rfl ?_
    first | exact ⟨_, rfl, rfl, hf⟩ | (exfalso; simp_all)
end Go.Proofs.YtbbnampdgefljaaDoor
namespace Go.G14
open Go.Lw

abbrev bT (row : List Stitch) (i n : Nat) : List UInt8 := (T row i n).2
abbrev bothT (row : List Stitch) (i n k : Nat) : List UInt8 := bT row i k ++ [32] ++ bT row (i + k) (n - k)
def refStep (row : List Stitch) (i n k : Nat) (t : List UInt8) : List UInt8 :=
  if n % k = 0 ∧ repsB row i n k = true then betterS (betterS t (bothT row i n k)) (repT (bT row i k) (n / k)) else betterS t (bothT row i n k)
def refTo (row : List Stitch) (i n : Nat) : Nat → List UInt8
  | 0 => if n = 1 then textS (row.getD i zeroSt) else []
  | k + 1 => refStep row i n (k + 1) (refTo row i n k)
theorem better_inv {xs : List Stitch} {t c : List UInt8} {C : List UInt8 → Prop} (h : (t ≠ [] → Txt true t xs) ∧ ∀ s, C s → t ≠ [] ∧ leP t s) (hc : Txt true c xs) (hn : c ≠ []) :
    (betterS t c ≠ [] → Txt true (betterS t c) xs) ∧ (∀ s, C s ∨ s = c → betterS t c ≠ [] ∧ leP (betterS t c) s) := by
  have hne : betterS t c ≠ [] := better_ne hn
  refine ⟨fun _ => ?_, fun s hs => ⟨hne, ?_⟩⟩
  · rcases better_cases t c with e | e
    · rw [e] at hne ⊢; exact h.1 hne
    · rw [e]; exact hc
  · rcases hs with hs | rfl
    · obtain ⟨h1, h2⟩ := h.2 s hs
      exact leP_trans (better_le_left h1 hn) h2
    · exact better_le_right hn
/-- What has been tried with the first m stitches up to k. -/
def Tried (row : List Stitch) (i n k : Nat) (s : List UInt8) : Prop :=
  (n = 1 ∧ s = textS (row.getD i zeroSt)) ∨ ∃ m, 1 ≤ m ∧ m ≤ k ∧ (s = bothT row i n m ∨ (n % m = 0 ∧ repsB row i n m = true ∧ s = repT (bT row i m) (n / m)))
theorem mod_div {n k : Nat} (h : n % k = 0) : n / k * k = n := by
  have := Nat.div_add_mod n k
  rw [h, Nat.mul_comm] at this; omega
theorem div_div {n m : Nat} (h1 : 1 ≤ m) (hn : 1 ≤ n) (h : n % m = 0) : n / (n / m) = m := by
  have e := mod_div h
  have hq : 1 ≤ n / m := by
    rcases Nat.eq_zero_or_pos (n / m) with z | z
    · rw [z] at e; omega
    · exact z
  refine Nat.div_eq_of_lt_le ?_ ?_
  · rw [Nat.mul_comm]; omega
  · rw [Nat.mul_comm]
    have h2 : n / m * (m + 1) = n / m * m + n / m := by rw [Nat.mul_add, Nat.mul_one]
    omega
theorem ref_inv {row : List Stitch} {i n : Nat} (hok : row.all okB = true) (h16 : row.length ≤ 16) (hi : i + n ≤ row.length) (hn : 1 ≤ n) : ∀ k, k < n →
    (refTo row i n k ≠ [] → Txt true (refTo row i n k) (partS row i n)) ∧ (∀ s, Tried row i n k s → refTo row i n k ≠ [] ∧ leP (refTo row i n k) s)
  | 0, _ => by
    by_cases h1 : n = 1
    · subst h1
      obtain ⟨x, hx⟩ : ∃ x, row[i]? = some x := ⟨_, List.getElem?_eq_getElem (by omega)⟩
      have hck := (okB_iff x).1 (List.all_eq_true.1 hok x (List.mem_of_getElem? hx))
      have e : refTo row i 1 0 = textS x := by rw [refTo, if_pos rfl, List.getD, hx]; rfl
      have ep : partS row i 1 = [x] := by
        have hl := part_len hi
        obtain ⟨y, hy⟩ := List.length_eq_one_iff.1 hl
        have := congrArg (·[0]?) hy
        simp [partS, hx] at this
        rw [hy, this]
      refine ⟨fun _ => by rw [e, ep]; exact .one (.leaf hck), fun s hs => ?_⟩
      rcases hs with ⟨_, rfl⟩ | ⟨m, h1, h2, _⟩
      · rw [List.getD, hx, e]; exact ⟨(text_ok_of hck).2.2.2, leP_refl _⟩
      · omega
    · refine ⟨fun h => absurd (by rw [refTo, if_neg h1]) h, fun s hs => ?_⟩
      rcases hs with ⟨h, _⟩ | ⟨m, h1, h2, _⟩
      · exact absurd h h1
      · omega
  | k + 1, hk => by
    have ih := ref_inv hok h16 hi hn k (by omega)
    have ha := (T_ok hok h16 (k + 1) (by omega) i (by omega)).2
    have hb := (T_ok hok h16 (n - (k + 1)) (by omega) (i + (k + 1)) (by omega)).2
    have hT : Txt true (bothT row i n (k + 1)) (partS row i n) := by
      rw [part_split (m := k + 1) (by omega)]
      exact Txt.app ha.1 hb.1
    have h1 := better_inv ih hT (cons_ne _ _)
    have hs1 : ∀ s, Tried row i n (k + 1) s → Tried row i n k s ∨ s = bothT row i n (k + 1) ∨ (n % (k + 1) = 0 ∧ repsB row i n (k + 1) = true ∧ s = repT (bT row i (k + 1)) (n / (k + 1))) := by
      rintro s (h | ⟨m, m1, m2, m3⟩)
      · exact .inl (.inl h)
      · rcases Nat.lt_or_ge m (k + 1) with h | h
        · exact .inl (.inr ⟨m, m1, by omega, m3⟩)
        · obtain rfl : m = k + 1 := by omega
          exact .inr m3
    by_cases c : n % (k + 1) = 0 ∧ repsB row i n (k + 1) = true
    · have e : refTo row i n (k + 1) = betterS (betterS (refTo row i n k) (bothT row i n (k + 1))) (repT (bT row i (k + 1)) (n / (k + 1))) := by rw [refTo, refStep, if_pos c]
      have hd := mod_div c.1
      have hq : 2 ≤ n / (k + 1) := by
        rcases Nat.lt_or_ge (n / (k + 1)) 2 with z | z
        · have : n / (k + 1) * (k + 1) ≤ 1 * (k + 1) := Nat.mul_le_mul_right _ (by omega)
          omega
        · exact z
      have hR : Txt true (repT (bT row i (k + 1)) (n / (k + 1))) (partS row i n) := by
        have h3 := Txt.rep ha.1 hq (by have := Nat.div_le_self n (k + 1); omega)
        have e2 := div_div (show 1 ≤ k + 1 by omega) hn c.1
        have e3 : timesS (partS row i (k + 1)) (n / (k + 1)) = partS row i n := by
          have := part_times (k := n / (k + 1)) hi (by rw [e2, Nat.mul_comm]; exact hd) (by rw [e2]; exact c.2)
          rwa [e2] at this
        rw [e3] at h3
        exact .one h3
      have h2 := better_inv h1 hR (rep_ne _ _)
      rw [e]
      refine ⟨h2.1, fun s hs => h2.2 s ?_⟩
      rcases hs1 s hs with h | h | h
      · exact .inl (.inl h)
      · exact .inl (.inr h)
      · exact .inr h.2.2
    · have e : refTo row i n (k + 1) = betterS (refTo row i n k) (bothT row i n (k + 1)) := by rw [refTo, refStep, if_neg c]
      rw [e]
      refine ⟨h1.1, fun s hs => h1.2 s ?_⟩
      rcases hs1 s hs with h | h | h
      · exact .inl h
      · exact .inr h
      · exact absurd ⟨h.1, h.2.1⟩ c
theorem ref_done {row : List Stitch} {i n : Nat} (hok : row.all okB = true) (h16 : row.length ≤ 16) (hi : i + n ≤ row.length) (hn : 1 ≤ n) : refTo row i n (n - 1) = bT row i n := by
  obtain ⟨r1, r2⟩ := ref_inv hok h16 hi hn (n - 1) (by omega)
  have hB := (T_ok hok h16 n hn i hi).2
  have hleast : refTo row i n (n - 1) ≠ [] ∧ ∀ s, Txt true s (partS row i n) → leP (refTo row i n (n - 1)) s := by
    have key : ∀ s, Txt true s (partS row i n) → refTo row i n (n - 1) ≠ [] ∧ leP (refTo row i n (n - 1)) s := by
      intro s hs
      generalize hp : partS row i n = xs at hs
      generalize hb : true = tg at hs
      cases hs with
      | leaf => cases hb
      | rep => cases hb
      | one h =>
        generalize hb2 : false = tg2 at h
        cases h with
        | one => cases hb2
        | cons => cases hb2
        | @leaf x hx =>
          have hl := part_len hi
          rw [hp] at hl
          have h1 : n = 1 := hl.symm
          subst h1
          have hget : row[i]? = some x := by
            have := congrArg (·[0]?) hp
            simpa [partS] using this
          exact r2 _ (.inl ⟨rfl, by rw [List.getD, hget]; rfl⟩)
        | @rep t' ys k hT h2 hk16 =>
          obtain ⟨e1, e2, e3, e4⟩ := part_of_times hi (by omega) hp.symm
          have hm1 : 1 ≤ n / k := by
            rw [← e4]; exact List.length_pos_iff.2 hT.ok.1
          have hm2 : n / k < n := Nat.div_lt_self (by omega) (by omega)
          have hmod : n % (n / k) = 0 := by
            have : n = n / k * k := e1.symm
            rw [this, Nat.mul_div_cancel _ (by omega)]
            exact Nat.mul_mod_right _ _
          have hdd : n / (n / k) = k := by
            refine Nat.div_eq_of_eq_mul_left (by omega) ?_
            rw [Nat.mul_comm]; exact e1.symm
          have h3 := r2 _ (.inr ⟨n / k, hm1, by omega, .inr ⟨hmod, e3, rfl⟩⟩)
          rw [hdd] at h3
          refine ⟨h3.1, leP_trans h3.2 (leP_rep k ((T_ok hok h16 (n / k) hm1 i (by omega)).2.2 t' ?_))⟩
          rw [← e2]; exact hT
      | @cons a b ys zs ha hbT =>
        have hl := part_len hi
        rw [hp, List.length_append] at hl
        have hy : 1 ≤ ys.length := List.length_pos_iff.2 ha.ok.1
        have hz : 1 ≤ zs.length := List.length_pos_iff.2 hbT.ok.1
        have e1 : ys = partS row i ys.length := by rw [← part_take (n := n) (by omega), hp, List.take_left]
        have e2 : zs = partS row (i + ys.length) (n - ys.length) := by
          have := part_split (row := row) (i := i) (m := ys.length) (n := n) (by omega)
          rw [hp, ← e1] at this
          exact List.append_cancel_left this
        have h1 := (T_ok hok h16 ys.length hy i (by omega)).2.2 a (by rw [← e1]; exact .one ha)
        have h2 := (T_ok hok h16 (n - ys.length) (by omega) (i + ys.length) (by omega)).2.2 b (by rw [← e2]; exact hbT)
        have h3 := r2 _ (.inr ⟨ys.length, hy, by omega, .inl rfl⟩)
        exact ⟨h3.1, leP_trans h3.2 (leP_cons h1 h2)⟩
    exact ⟨(key _ hB.1).1, fun s hs => (key s hs).2⟩
  exact leP_antis (hleast.2 _ hB.1) (hB.2 _ (r1 hleast.1))
end Go.G14
namespace Go.G14
open Go.Lw

theorem idx_lt {n a m : Nat} (h : a + m ≤ n) : a * (n + 1) + a + m < (n + 1) * (n + 1) := by
  have : a * (n + 1) ≤ n * (n + 1) := Nat.mul_le_mul_right _ (by omega)
  rw [Nat.add_mul n 1 (n + 1)]; omega
theorem idx_inj {n a m i L : Nat} (h1 : a + m ≤ n) (h2 : i + L ≤ n) (h : a * (n + 1) + a + m = i * (n + 1) + i + L) : a = i ∧ m = L := by
  have key : ∀ {a m i L : Nat}, a + m ≤ n → i + L ≤ n → a * (n + 1) + a + m = i * (n + 1) + i + L → ¬ a < i := by
    intro a m i L h1 h2 h hlt
    have : (a + 1) * (n + 1) ≤ i * (n + 1) := Nat.mul_le_mul_right _ hlt
    rw [Nat.add_mul] at this; omega
  have e : a = i := by have := key h1 h2 h; have := key h2 h1 h.symm; omega
  subst e; omega
def Filled (xs : List Stitch) (L i : Nat) (tab : List (List UInt8)) : Prop :=
  tab.length = (xs.length + 1) * (xs.length + 1) ∧ ∀ a m, 1 ≤ m → a + m ≤ xs.length → (m < L ∨ (m = L ∧ a < i)) → tab[a * (xs.length + 1) + a + m]? = some (bT xs a m)
theorem fill_start (xs : List Stitch) : Filled xs 1 0 (List.replicate ((xs.length + 1) * (xs.length + 1)) []) :=
  ⟨by simp, fun a m h1 _ h => by omega⟩
theorem fill_next {xs : List Stitch} {L i : Nat} {tab : List (List UInt8)} (hi : xs.length < i + L) (h : Filled xs L i tab) : Filled xs (L + 1) 0 tab :=
  ⟨h.1, fun a m h1 h2 h3 => h.2 a m h1 h2 (by omega)⟩
theorem fill_set {xs : List Stitch} {L i : Nat} {tab : List (List UInt8)} (hi : i + L ≤ xs.length) (h : Filled xs L i tab) : Filled xs L (i + 1) (tab.set (i * (xs.length + 1) + i + L) (bT xs i L)) := by
  refine ⟨by rw [List.length_set]; exact h.1, fun a m h1 h2 h3 => ?_⟩
  rw [List.getElem?_set]
  by_cases e : i * (xs.length + 1) + i + L = a * (xs.length + 1) + a + m
  · obtain ⟨rfl, rfl⟩ := idx_inj hi h2 e
    rw [if_pos rfl, if_pos (by rw [h.1]; exact idx_lt hi)]
  · rw [if_neg e]
    refine h.2 a m h1 h2 ?_
    rcases h3 with h3 | ⟨h3, h4⟩
    · exact .inl h3
    · rcases Nat.lt_or_ge a i with h5 | h5
      · exact .inr ⟨h3, h5⟩
      · exfalso; apply e; rw [show a = i by omega, h3]
def sameB (xs : List Stitch) (i k d : Nat) : Bool := (List.range d).all fun t => decide (xs[i + k + t]? = xs[i + t]?)
theorem same_next (xs : List Stitch) (i k d : Nat) : sameB xs i k (d + 1) = (sameB xs i k d && decide (xs[i + k + d]? = xs[i + d]?)) := by
  simp [sameB, List.range_succ, List.all_append]
theorem same_yes {xs : List Stitch} {i k d : Nat} {x y : Stitch} (hx : xs[i + k + d]? = some x) (hy : xs[i + d]? = some y) (h : x = y) : sameB xs i k (d + 1) = sameB xs i k d := by
  rw [same_next, hx, hy, h]; simp
theorem same_no {xs : List Stitch} {i k d : Nat} {x y : Stitch} (hx : xs[i + k + d]? = some x) (hy : xs[i + d]? = some y) (h : x ≠ y) : sameB xs i k (d + 1) = false := by
  rw [same_next, hx, hy]; simp [h]
theorem same_reps {xs : List Stitch} {i n k : Nat} (hi : i + n ≤ xs.length) (hk : k ≤ n) : sameB xs i k (n - k) = repsB xs i n k := by
  have e : (sameB xs i k (n - k) = true) ↔ (repsB xs i n k = true) := by
    unfold sameB repsB partS
    rw [List.all_eq_true, decide_eq_true_iff]
    constructor
    · intro h
      apply List.ext_getElem?
      intro t
      rw [List.getElem?_drop, List.getElem?_take, List.getElem?_take, List.getElem?_take, List.getElem?_drop, List.getElem?_drop]
      rcases Nat.lt_or_ge t (n - k) with ht | ht
      · rw [if_pos (by omega), if_pos ht, if_pos (by omega)]
        have := h t (List.mem_range.2 ht)
        rw [decide_eq_true_iff, Nat.add_assoc] at this
        exact this
      · rw [if_neg (by omega), if_neg (by omega)]
    · intro h t ht
      have ht := List.mem_range.1 ht
      have := congrArg (·[t]?) h
      simp only [List.getElem?_drop, List.getElem?_take] at this
      rw [if_pos (by omega), if_pos ht, if_pos (by omega)] at this
      rw [decide_eq_true_iff, Nat.add_assoc]; exact this
  cases h1 : sameB xs i k (n - k) <;> cases h2 : repsB xs i n k <;> simp_all
theorem itoa_lo : ∀ t, t < 17 → ¬ 9 < t → [dg ((t % 10 : Nat) : Int)] = itoaS t := by decide +kernel
theorem itoa_hi : ∀ t, t < 17 → 9 < t → [49] ++ [dg ((t % 10 : Nat) : Int)] = itoaS t := by decide +kernel
theorem better_pos {t c : List UInt8} (hc : c ≠ []) (h : t = [] ∨ lessP c t) : betterS t c = c := by
  rw [betterS, if_pos (h.imp id fun e => ⟨hc, e⟩)]
theorem better_neg {t c : List UInt8} (h : ¬ (t = [] ∨ lessP c t)) : betterS t c = t := by
  rw [betterS, if_neg (fun e => h (e.imp id fun e => e.2))]
theorem ref_no {row : List Stitch} {i n k : Nat} (h : ¬ (n % (k + 1) = 0 ∧ repsB row i n (k + 1) = true)) : betterS (refTo row i n k) (bothT row i n (k + 1)) = refTo row i n (k + 1) := by
  rw [refTo, refStep, if_neg h]
theorem ref_yes {row : List Stitch} {i n k : Nat} (h1 : n % (k + 1) = 0) (h2 : repsB row i n (k + 1) = true) : betterS (betterS (refTo row i n k) (bothT row i n (k + 1))) (repT (bT row i (k + 1)) (n / (k + 1))) = refTo row i n (k + 1) := by
  rw [refTo, refStep, if_pos ⟨h1, h2⟩]
theorem both_ne (row : List Stitch) (i n k : Nat) (t : List UInt8) : betterS t (bothT row i n k) ≠ [] := better_ne (cons_ne _ _)
theorem rep_eq (t : List UInt8) (times : Nat) : [91] ++ t ++ [93, 120] ++ itoaS times = repT t times := by simp [repT]
theorem sh_big {xs : List Stitch} (h : 16 < xs.length) : shortenS xs = ([], 3) := by rw [shortenS, if_pos h]
theorem sh_err {xs : List Stitch} (h : ¬ 16 < xs.length) : (shortenS xs).2 = if xs.length = 0 then 1 else if xs.all okB = true then 0 else 1 := by
  unfold shortenS; rw [if_neg h]; (repeat' split) <;> rfl
theorem sh_bad {xs : List Stitch} (h : (shortenS xs).2 ≠ 0) : (shortenS xs).1 = [] := by
  unfold shortenS at h ⊢; (repeat' split) <;> first | rfl | (exfalso; simp_all)
theorem sh_good {xs : List Stitch} (h : (shortenS xs).2 = 0) : xs.all okB = true ∧ 1 ≤ xs.length ∧ xs.length ≤ 16 ∧ (shortenS xs).1 = shortS xs := by
  unfold shortenS at h ⊢
  split at h
  · simp at h
  · rename_i h1
    split at h
    · simp at h
    · rename_i h2
      split at h
      · rename_i h3
        rw [if_neg h1, if_neg h2, if_pos h3]
        exact ⟨h3, by omega, by omega, rfl⟩
      · simp at h
theorem all_bad {l : List Stitch} {x : Stitch} (h : okB x = false) : (l ++ (some x).toList).all okB = false := by simp [h]
theorem all_good {l : List Stitch} {x : Stitch} (h : okB x = true) : (l ++ (some x).toList).all okB = l.all okB := by simp [h]
theorem short_len {xs : List Stitch} (h1 : 1 ≤ xs.length) (h16 : xs.length ≤ 16) : (shortS xs).length ≤ 12 * xs.length - 1 := (T_len xs 0 xs.length h1).2
end Go.G14
namespace Go.G14
open Go.Lw

def needsS (s : Stitch) : Int := if checkS s ≠ 0 ∨ s.k = 3 then 0 else if s.k = 8 then s.a + s.b else if s.k = 4 ∨ s.k = 5 then 2 else 1
def makesS (s : Stitch) : Int := if checkS s ≠ 0 then 0 else if s.k = 8 then s.a + s.b else 1
def few (n : Int) : Bool := decide (1 ≤ n ∧ n ≤ 3)
def loadsS (s : Stitch) (l : List Int) : List Int × Int :=
  if checkS s ≠ 0 then ([], 1) else if (l.length : Int) ≠ needsS s then ([], 5) else if l.all few = false then ([], 1)
  else if s.k = 4 ∨ s.k = 5 then (if 4 < l.getD 0 0 + l.getD 1 0 then ([], 9) else ([1], 0))
  else if s.k = 6 then (if l.getD 0 0 = 3 then ([], 9) else ([l.getD 0 0 + 1], 0))
  else if s.k = 7 then ([l.getD 0 0], 0) else (List.replicate (makesS s).toNat 1, 0)
theorem few_iff (n : Int) : few n = true ↔ 1 ≤ n ∧ n ≤ 3 := by simp [few]
theorem needs_rng (s : Stitch) : 0 ≤ needsS s ∧ needsS s ≤ 4 := by
  unfold needsS
  split
  · omega
  · rename_i h
    have hc : checkS s = 0 := Decidable.not_not.1 fun e => h (.inl e)
    have hr := check_rng hc
    (repeat' split) <;> first | omega | (rename_i h8; have := hr.2.2.2.2.2 h8; omega)
theorem makes_rng (s : Stitch) : 0 ≤ makesS s ∧ makesS s ≤ 4 := by
  unfold makesS
  split
  · omega
  · rename_i h
    have hr := check_rng (Decidable.not_not.1 h)
    split
    · rename_i h8; have := hr.2.2.2.2.2 h8; omega
    · omega
variable {s : Stitch} {l : List Int}
theorem needs_0 (h : checkS s ≠ 0 ∨ s.k = 3) : needsS s = 0 := if_pos h
theorem needs_8 (h : checkS s = 0) (h8 : s.k = 8) : needsS s = s.a + s.b := by rw [needsS, if_neg (by omega), if_pos h8]
theorem needs_2 (h : checkS s = 0) (h4 : s.k = 4 ∨ s.k = 5) : needsS s = 2 := by rw [needsS, if_neg (by omega), if_neg (by omega), if_pos h4]
theorem needs_1 (h : checkS s = 0) (h3 : s.k ≠ 3) (h8 : s.k ≠ 8) (h4 : ¬ (s.k = 4 ∨ s.k = 5)) : needsS s = 1 := by rw [needsS, if_neg (by omega), if_neg h8, if_neg h4]
theorem makes_0 (h : checkS s ≠ 0) : makesS s = 0 := if_pos h
theorem makes_8 (h : checkS s = 0) (h8 : s.k = 8) : makesS s = s.a + s.b := by rw [makesS, if_neg (by omega), if_pos h8]
theorem makes_1 (h : checkS s = 0) (h8 : s.k ≠ 8) : makesS s = 1 := by rw [makesS, if_neg (by omega), if_neg h8]
theorem loads_1 (h : checkS s ≠ 0) : loadsS s l = ([], 1) := if_pos h
theorem loads_5 (h : checkS s = 0) (hn : (l.length : Int) ≠ needsS s) : loadsS s l = ([], 5) := by rw [loadsS, if_neg (by omega), if_pos hn]
theorem loads_b (h : checkS s = 0) (hn : (l.length : Int) = needsS s) {k : Nat} {x : Int} (hx : l[k]? = some x) (hb : ¬ (1 ≤ x ∧ x ≤ 3)) : loadsS s l = ([], 1) := by
  have hf : l.all few = false := by
    rw [Bool.eq_false_iff]
    intro e
    exact hb ((few_iff x).1 (List.all_eq_true.1 e x (List.mem_of_getElem? hx)))
  rw [loadsS, if_neg (by omega), if_neg (by omega), if_pos hf]
variable (h : checkS s = 0) (hn : (l.length : Int) = needsS s) (hf : l.all few = true)
include h hn hf
theorem loads_g : loadsS s l = if s.k = 4 ∨ s.k = 5 then (if 4 < l.getD 0 0 + l.getD 1 0 then ([], 9) else ([1], 0))
  else if s.k = 6 then (if l.getD 0 0 = 3 then ([], 9) else ([l.getD 0 0 + 1], 0))
  else if s.k = 7 then ([l.getD 0 0], 0) else (List.replicate (makesS s).toNat 1, 0) := by
  rw [loadsS, if_neg (by omega), if_neg (by omega), if_neg (by rw [hf]; simp)]
theorem loads_2f (h4 : s.k = 4 ∨ s.k = 5) {x y : Int} (hx : l[0]? = some x) (hy : l[1]? = some y) (hc : 4 < x + y) : loadsS s l = ([], 9) := by
  rw [loads_g h hn hf, if_pos h4, if_pos (by rw [List.getD, List.getD, hx, hy]; exact hc)]
theorem loads_2 (h4 : s.k = 4 ∨ s.k = 5) {x y : Int} (hx : l[0]? = some x) (hy : l[1]? = some y) (hc : ¬ 4 < x + y) : loadsS s l = ([1], 0) := by
  rw [loads_g h hn hf, if_pos h4, if_neg (by rw [List.getD, List.getD, hx, hy]; exact hc)]
theorem loads_6f (h6 : s.k = 6) {x : Int} (hx : l[0]? = some x) (hc : x = 3) : loadsS s l = ([], 9) := by
  rw [loads_g h hn hf, if_neg (by omega), if_pos h6, if_pos (by rw [List.getD, hx]; exact hc)]
theorem loads_6 (h6 : s.k = 6) {x : Int} (hx : l[0]? = some x) (hc : ¬ x = 3) : loadsS s l = ([x + 1], 0) := by
  rw [loads_g h hn hf, if_neg (by omega), if_pos h6, if_neg (by rw [List.getD, hx]; exact hc), List.getD, hx]; rfl
theorem loads_7 (h7 : s.k = 7) {x : Int} (hx : l[0]? = some x) : loadsS s l = ([x], 0) := by
  rw [loads_g h hn hf, if_neg (by omega), if_neg (by omega), if_pos h7, List.getD, hx]; rfl
theorem loads_o (h4 : ¬ (s.k = 4 ∨ s.k = 5)) (h6 : s.k ≠ 6) (h7 : s.k ≠ 7) : loadsS s l = (List.replicate (makesS s).toNat 1, 0) := by
  rw [loads_g h hn hf, if_neg h4, if_neg h6, if_neg h7]
omit h hn hf
theorem all_few_next {l : List Int} {k : Nat} {x : Int} (ha : (l.take k).all few = true) (hx : l[k]? = some x) (h : 1 ≤ x ∧ x ≤ 3) : (l.take (k + 1)).all few = true := by
  rw [List.take_add_one, hx]; simp [ha, (few_iff x).2 h]
theorem rep_succ (n : Nat) : List.replicate (n + 1) (1 : Int) = List.replicate n 1 ++ [1] := List.replicate_succ'
/-- What Loads makes of few loops is few again. -/
theorem loads_few (h0 : (loadsS s l).2 = 0) : (loadsS s l).1.all few = true ∧ ((loadsS s l).1.length : Int) = makesS s ∧ checkS s = 0 := by
  unfold loadsS at h0 ⊢
  by_cases h : checkS s ≠ 0
  · rw [if_pos h] at h0; simp at h0
  by_cases hn : (l.length : Int) ≠ needsS s
  · rw [if_neg h, if_pos hn] at h0; simp at h0
  by_cases hf : l.all few = false
  · rw [if_neg h, if_neg hn, if_pos hf] at h0; simp at h0
  rw [if_neg h, if_neg hn, if_neg hf] at h0 ⊢
  have hf' : l.all few = true := by simpa using hf
  have hc : checkS s = 0 := Decidable.not_not.1 h
  have hnn : (l.length : Int) = needsS s := Decidable.not_not.1 hn
  have get0 : s.k = 6 ∨ s.k = 7 → 1 ≤ l.getD 0 0 ∧ l.getD 0 0 ≤ 3 := by
    intro hk
    have hl : l.length = 1 := by have := needs_1 hc (by omega) (by omega) (by omega); omega
    obtain ⟨x, rfl⟩ := List.length_eq_one_iff.1 hl
    simpa [few] using hf'
  by_cases h4 : s.k = 4 ∨ s.k = 5
  · rw [if_pos h4] at h0 ⊢
    split at h0
    · simp at h0
    · rename_i c; rw [if_neg c]; exact ⟨rfl, by rw [makes_1 hc (by omega)]; rfl, hc⟩
  rw [if_neg h4] at h0 ⊢
  by_cases h6 : s.k = 6
  · rw [if_pos h6] at h0 ⊢
    have := get0 (.inl h6)
    split at h0
    · simp at h0
    · rename_i c; rw [if_neg c]; exact ⟨by simp only [List.all_cons, List.all_nil, Bool.and_true]; exact (few_iff _).2 (by omega), by rw [makes_1 hc (by omega)]; rfl, hc⟩
  rw [if_neg h6]
  by_cases h7 : s.k = 7
  · rw [if_pos h7]
    have := get0 (.inr h7)
    exact ⟨by simp only [List.all_cons, List.all_nil, Bool.and_true]; exact (few_iff _).2 (by omega), by rw [makes_1 hc (by omega)]; rfl, hc⟩
  rw [if_neg h7]
  have := makes_rng s
  exact ⟨by simp [few], by simp; omega, hc⟩
end Go.G14
namespace Go.G14
open Go.Lw

theorem Sl.part {α : Type} {E : Enc α} {w : World} {A : Option Addr} {n c : Nat} {l : List α} {i m : Nat} (h : Sl E w (.slice A n c) l) (hm : i + m ≤ l.length) : Sl E w (.slice (if c = i then A else A.map (·.add (i * E.sz))) (i + m - i) (c - i)) ((l.drop i).take m) := by
  obtain ⟨hn, hc, hM, _⟩ := Sl.open_ h
  have h1 := h.drop rfl (m := i) (by omega) (B := if c = i then A else A.map (·.add (i * E.sz))) (c' := c - i) (by omega) (by omega) (fun hlt => by rw [if_neg (by omega)])
  have h2 := h1.take rfl (m := m) (by simp; omega) (B := if c = i then A else A.map (·.add (i * E.sz))) (c' := c - i) (by omega) (by omega) (fun _ => rfl)
  rw [show i + m - i = m by omega]
  exact h2
def pairsL : List (Int × Int) := [(1, 1), (1, 2), (2, 1), (2, 2), (1, 3), (3, 1)]
def encPr : Enc (Int × Int) := ⟨fun p => [.int .i64 p.1, .int .i64 p.2], 2, fun _ => rfl, fun _ u h => by simp at h; rcases h with rfl | rfl <;> rfl, by decide⟩
def kOfS (kd y a : Int) (f : Bool) : Stitch :=
  if 1 + kd % 8 = 8 then ⟨1 + kd % 8, 1 + y % 6, (pairsL.getD (a % 6).toNat (0, 0)).1, (pairsL.getD (a % 6).toNat (0, 0)).2, f⟩ else ⟨1 + kd % 8, 1 + y % 6, 0, 0, false⟩
theorem kOf7 (a : Int) (f : Bool) (h : 0 ≤ a) : (kOfS 7 0 a f).k = 8 ∧ (kOfS 7 0 a f).y = 1 ∧ 1 ≤ (kOfS 7 0 a f).a ∧ 1 ≤ (kOfS 7 0 a f).b ∧ (kOfS 7 0 a f).a + (kOfS 7 0 a f).b ≤ 4 := by
  have h6 : (a % 6).toNat < 6 := by omega
  have key : ∀ n, n < 6 → 1 ≤ (pairsL.getD n (0, 0)).1 ∧ 1 ≤ (pairsL.getD n (0, 0)).2 ∧ (pairsL.getD n (0, 0)).1 + (pairsL.getD n (0, 0)).2 ≤ 4 := by decide
  have := key _ h6
  rw [kOfS, if_pos (by decide)]
  exact ⟨by simp, by simp, this.1, this.2.1, this.2.2⟩
/-- A stitch that fits behind i slots, where ny slots have been made. -/
def Fit (ls : List Int) (i ny : Nat) (s : Stitch) : Prop :=
  checkS s = 0 ∧ i + (needsS s).toNat ≤ ls.length ∧ (needsS s = 0 → ny + (ls.length - i) < 8) ∧ (loadsS s ((ls.drop i).take (needsS s).toNat)).2 = 0
theorem part_few {ls : List Int} {i m : Nat} (h : ls.all few = true) : ((ls.drop i).take m).all few = true := by
  rw [List.all_eq_true] at h ⊢
  exact fun x hx => h x (List.mem_of_mem_drop (List.mem_of_mem_take hx))
theorem part_length {ls : List Int} {i : Nat} {s : Stitch} (h : i + (needsS s).toNat ≤ ls.length) : (((ls.drop i).take (needsS s).toNat).length : Int) = needsS s := by
  have := needs_rng s
  simp; omega
theorem part_get {ls : List Int} {i m j : Nat} (h : j < m) : ((ls.drop i).take m)[j]? = ls[i + j]? := by
  rw [List.getElem?_take, if_pos h, List.getElem?_drop]
variable {ls : List Int} {i ny : Nat} {s : Stitch}
theorem fit_over (hc : checkS s = 0) (hk : s.k = 3) (hi : i ≤ ls.length) (hf : ls.all few = true) (h8 : ny + (ls.length - i) < 8) : Fit ls i ny s := by
  have hn := needs_0 (s := s) (.inr hk)
  have hle : i + (needsS s).toNat ≤ ls.length := by omega
  exact ⟨hc, hle, fun _ => h8, by rw [loads_o hc (part_length hle) (part_few hf) (by omega) (by omega) (by omega)]⟩
theorem fit_plain (hc : checkS s = 0) (hk : s.k = 1 ∨ s.k = 2) (hi : i < ls.length) (hf : ls.all few = true) : Fit ls i ny s := by
  have hn := needs_1 hc (by omega) (by omega) (by omega)
  have hle : i + (needsS s).toNat ≤ ls.length := by omega
  exact ⟨hc, hle, fun e => by omega, by rw [loads_o hc (part_length hle) (part_few hf) (by omega) (by omega) (by omega)]⟩
theorem fit_two (hc : checkS s = 0) (hk : s.k = 4 ∨ s.k = 5) (hi : i + 1 < ls.length) (hf : ls.all few = true) {x y : Int} (hx : ls[i]? = some x) (hy : ls[i + 1]? = some y) (h4 : x + y ≤ 4) : Fit ls i ny s := by
  have hn := needs_2 hc hk
  have hle : i + (needsS s).toNat ≤ ls.length := by omega
  exact ⟨hc, hle, fun e => by omega, by rw [loads_2 hc (part_length hle) (part_few hf) hk (by rw [part_get (by omega)]; exact hx) (by rw [part_get (by omega)]; exact hy) (by omega)]⟩
theorem fit_tuck (hc : checkS s = 0) (hk : s.k = 6) (hi : i < ls.length) (hf : ls.all few = true) {x : Int} (hx : ls[i]? = some x) (h3 : x < 3) : Fit ls i ny s := by
  have hn := needs_1 hc (by omega) (by omega) (by omega)
  have hle : i + (needsS s).toNat ≤ ls.length := by omega
  exact ⟨hc, hle, fun e => by omega, by rw [loads_6 hc (part_length hle) (part_few hf) hk (by rw [part_get (by omega)]; exact hx) (by omega)]⟩
theorem fit_slip (hc : checkS s = 0) (hk : s.k = 7) (hi : i < ls.length) (hf : ls.all few = true) : Fit ls i ny s := by
  have hn := needs_1 hc (by omega) (by omega) (by omega)
  have hle : i + (needsS s).toNat ≤ ls.length := by omega
  obtain ⟨x, hx⟩ : ∃ x, ls[i]? = some x := ⟨_, List.getElem?_eq_getElem hi⟩
  exact ⟨hc, hle, fun e => by omega, by rw [loads_7 hc (part_length hle) (part_few hf) hk (by rw [part_get (by omega)]; exact hx)]⟩
theorem fit_cable (hc : checkS s = 0) (hk : s.k = 8) (hf : ls.all few = true) (hle : (i : Int) + (s.a + s.b) ≤ ls.length) : Fit ls i ny s := by
  have hn := needs_8 hc hk
  have hr := (check_rng hc).2.2.2.2.2 hk
  have hle : i + (needsS s).toNat ≤ ls.length := by omega
  exact ⟨hc, hle, fun e => by omega, by rw [loads_o hc (part_length hle) (part_few hf) (by omega) (by omega) (by omega)]⟩
theorem fit_step (h : Fit ls i ny s) (hi : i ≤ ls.length) (h8 : ny + (ls.length - i) ≤ 8) : 1 ≤ makesS s ∧ ny + (makesS s).toNat + (ls.length - (i + (needsS s).toNat)) ≤ 8 ∧ (needsS s = 0 → makesS s = 1) := by
  obtain ⟨hc, h1, h2, h3⟩ := h
  have hr := check_rng hc
  by_cases h8k : s.k = 8
  · have := hr.2.2.2.2.2 h8k
    rw [makes_8 hc h8k, needs_8 hc h8k] at *
    omega
  · rw [makes_1 hc h8k]
    by_cases h3k : s.k = 3
    · rw [needs_0 (.inr h3k)] at *
      have := h2 rfl
      simp; omega
    · have : 1 ≤ needsS s := by
        by_cases h4 : s.k = 4 ∨ s.k = 5
        · rw [needs_2 hc h4]; omega
        · rw [needs_1 hc h3k h8k h4]; omega
      omega
theorem check_plain {k y : Int} (hk : 1 ≤ k ∧ k ≤ 7) (hy : 1 ≤ y ∧ y ≤ 6) : checkS ⟨k, y, 0, 0, false⟩ = 0 :=
  check_zero (by show 0 ≤ k; omega) (by show 0 ≤ y; omega) (by show ¬ (y = 0 ∨ 6 < y ∨ k = 0 ∨ 8 < k); omega) (.inr ⟨by show k ≠ 8; omega, rfl, rfl, rfl⟩)
theorem check_cable {y a b : Int} {f : Bool} (hy : 1 ≤ y ∧ y ≤ 6) (ha : 1 ≤ a) (hb : 1 ≤ b) (hab : a + b ≤ 4) : checkS ⟨8, y, a, b, f⟩ = 0 :=
  check_zero (by show (0 : Int) ≤ 8; omega) (by show 0 ≤ y; omega) (by show ¬ (y = 0 ∨ 6 < y ∨ (8 : Int) = 0 ∨ (8 : Int) < 8); omega) (.inl ⟨rfl, ha, hb, hab⟩)
theorem fitP {k y : Int} (hk : k = 1 ∨ k = 2) (hy : 1 ≤ y ∧ y ≤ 6) (hi : i < ls.length) (hf : ls.all few = true) : Fit ls i ny ⟨k, y, 0, 0, false⟩ := fit_plain (check_plain (by omega) hy) hk hi hf
theorem fitO {k y : Int} (hk : k = 3) (hy : 1 ≤ y ∧ y ≤ 6) (hi : i ≤ ls.length) (hf : ls.all few = true) (h8 : ny + (ls.length - i) < 8) : Fit ls i ny ⟨k, y, 0, 0, false⟩ := fit_over (check_plain (by omega) hy) hk hi hf h8
theorem fitT {k y : Int} (hk : k = 4 ∨ k = 5) (hy : 1 ≤ y ∧ y ≤ 6) (hi : i + 1 < ls.length) (hf : ls.all few = true) {p q : Int} (hx : ls[i]? = some p) (hy' : ls[i + 1]? = some q) (h4 : p + q ≤ 4) : Fit ls i ny ⟨k, y, 0, 0, false⟩ := fit_two (check_plain (by omega) hy) hk hi hf hx hy' h4
theorem fitU {k y : Int} (hk : k = 6) (hy : 1 ≤ y ∧ y ≤ 6) (hi : i < ls.length) (hf : ls.all few = true) {p : Int} (hx : ls[i]? = some p) (h3 : p < 3) : Fit ls i ny ⟨k, y, 0, 0, false⟩ := fit_tuck (check_plain (by omega) hy) hk hi hf hx h3
theorem fitS {k y : Int} (hk : k = 7) (hy : 1 ≤ y ∧ y ≤ 6) (hi : i < ls.length) (hf : ls.all few = true) : Fit ls i ny ⟨k, y, 0, 0, false⟩ := fit_slip (check_plain (by omega) hy) hk hi hf
theorem fitC {k y a b : Int} {f : Bool} (hk : k = 8) (hy : 1 ≤ y ∧ y ≤ 6) (ha : 1 ≤ a) (hb : 1 ≤ b) (hab : a + b ≤ 4) (hf : ls.all few = true) (hle : (i : Int) + (a + b) ≤ ls.length) : Fit ls i ny ⟨k, y, a, b, f⟩ := by
  subst hk; exact fit_cable (check_cable hy ha hb hab) rfl hf hle
theorem all_app {l m : List Int} (h1 : l.all few = true) (h2 : m.all few = true) : (l ++ m).all few = true := by simp [h1, h2]
structure RowSt where
  i : Nat
  xs : List Stitch
  ys : List Int
  X : Value
  Y : Value
/-- Rows in memory: the outer slice is the call's own, and so are the rows, apart from it. -/
structure RowsO (R T : TypeId) (base : Nat) (w : World) (OV : Value) (ps : List (SV × List Stitch)) : Prop where
  out : Own Enc.sl R base w OV (ps.map Prod.fst)
  ins : ∀ p ∈ ps, Own encSt T base w (slv p.1) p.2
  off : ∀ p ∈ ps, ∀ k ∈ blks (slv p.1), k ∉ blks OV
section
variable {R T : TypeId} {base : Nat} {w w' : World} {OV OV' : Value} {ps : List (SV × List Stitch)}
theorem RowsO.fr {S : List Nat} (h : RowsO R T base w OV ps) (hq : Fr S w w') (hS : ∀ k ∈ S, k < base) : RowsO R T base w' OV ps :=
  ⟨h.out.fr hq (fun k hk hb => by have := (h.out.blk k hb).1; have := hS k hk; omega), fun p hp => (h.ins p hp).fr hq (fun k hk hb => by have := ((h.ins p hp).blk k hb).1; have := hS k hk; omega), h.off⟩
theorem RowsO.ext (h : RowsO R T base w OV ps) (hq : Fr [] w w') : RowsO R T base w' OV ps := h.fr hq (by simp)
theorem RowsO.nil (w : World) : RowsO R T base w (.slice none 0 0) [] := ⟨Own.nil w, by simp, by simp⟩
theorem RowsO.push {u : SV} {r : List Stitch} (h : RowsO R T base w OV ps) (hu : Own encSt T base w (slv u) r) (hd : ∀ k ∈ blks (slv u), k ∉ blks OV) (ho : Own Enc.sl R base w' OV' (ps.map Prod.fst ++ [u])) (hq : Fr (blks OV) w w')
    (hx : OV' = OV ∨ blks OV' = blks OV ∨ blks OV' = [w.heap.size]) : RowsO R T base w' OV' (ps ++ [(u, r)]) := by
  have hall : ∀ p ∈ ps ++ [(u, r)], Own encSt T base w (slv p.1) p.2 ∧ ∀ k ∈ blks (slv p.1), k ∉ blks OV := by
    intro p hp
    rcases List.mem_append.1 hp with hp | hp
    · exact ⟨h.ins p hp, h.off p hp⟩
    · simp at hp; subst hp; exact ⟨hu, hd⟩
  refine ⟨by simpa using ho, fun p hp => (hall p hp).1.fr hq (fun k hk hb => (hall p hp).2 k hb hk), fun p hp k hk => ?_⟩
  rcases hx with e | e | e
  · rw [e]; exact (hall p hp).2 k hk
  · rw [e]; exact (hall p hp).2 k hk
  · rw [e]; have := ((hall p hp).1.blk k hk).2; simp; omega
theorem RowsO.sl2 (h : RowsO R T base w OV ps) : Sl2 w OV (ps.map Prod.snd) := by
  refine ⟨ps.map Prod.fst, h.out.sl, by simp, fun i p x hp hx => ?_⟩
  rw [List.getElem?_map] at hp hx
  obtain ⟨q, hq, rfl⟩ := Option.map_eq_some_iff.1 hp
  rw [hq] at hx
  simp at hx; subst hx
  exact (h.ins q (List.mem_of_getElem? hq)).sl
end
structure OfSt where
  i : Nat
  L : Value
  ls : List Int
  OV : Value
  ps : List (SV × List Stitch)
def goodRow (r : List Stitch) : Prop := r ≠ [] ∧ r.all okB = true ∧ r.length ≤ 8
theorem rep_few (n : Nat) : (List.replicate n (1 : Int)).all few = true := by simp [few]
end Go.G14
namespace Go.Lw
open Go.RowKit

theorem zero_rows {α : Type} (E : Enc α) (z : α) : ∀ (c : Nat), ((Array.range (c * E.sz)).map ((E.enc z).toArray[· % E.sz]!)).toList = (List.replicate c z).flatMap E.enc := by
  intro c
  apply List.ext_getElem?
  intro m
  have hl : ((List.replicate c z).flatMap E.enc).length = c * E.sz := by rw [E.flat_len, List.length_replicate]
  rcases Nat.lt_or_ge m (c * E.sz) with h | h
  · have hi : m / E.sz < c := Nat.div_lt_of_lt_mul (by rw [Nat.mul_comm]; exact h)
    have hj : m % E.sz < E.sz := Nat.mod_lt _ E.pos
    have e : m / E.sz * E.sz + m % E.sz = m := by rw [Nat.mul_comm]; exact Nat.div_add_mod m E.sz
    have hg := E.flat_get (List.replicate c z) (m / E.sz) z (by rw [List.getElem?_replicate, if_pos hi]) (m % E.sz) hj
    rw [e] at hg
    rw [hg]
    have hj' : m % E.sz < (E.enc z).length := by rw [E.len]; exact hj
    simp [h]
    rw [List.getElem?_eq_getElem hj']
    rfl
  · rw [List.getElem?_eq_none (by simp; exact h), List.getElem?_eq_none (by rw [hl]; exact h)]

section
variable {P : Program} {a : Act} {n : Nat} {L : List (Nat × Value)} {ds : List Nat} {w w' : World} {Q : Exit → Act → World → Prop} {ops : Array Oper} {rest : List Oper}
variable {d : Nat} {ty : TypeId} {pos : String} {after : Array Edge} {v u : Value} {x y z : Operand} {t t' T : TypeId} {k k' : IntKind} {i j : Int}

theorem ex_makeSlice {G : Option (Nat × Bool)} {α : Type} {E : Enc α} {bytes m c : Nat} (e0 : α) (h : AgM ds a n L) (hx : ev L x = some (.int k (m : Int))) (hy : ev L y = some (.int k' (c : Int))) (he : ElemOf P t T E bytes)
    (hz : ∀ w : World, (zeroValue T).run P w = .ok v w) (hv : v.cells = (E.enc e0).toArray) (hmc : m ≤ c) (hb : c * bytes ≤ 140737488355328) (hM : c ≤ maxLen) :
    (execOp a.eval ⟨some d, .makeSlice t x y, ty, pos, after, G⟩).run P w = .ok (.value (.slice (some ⟨w.heap.size, 0, none⟩) m c)) (w.alloc (.cells ((List.replicate c e0).flatMap E.enc).toArray T)) := by
  obtain ⟨inf, zv, hin, hzz, hsz, hby, hzs⟩ := he.info
  have hzv : zv = v := by
    have := hz w
    simpa [zeroValue, typeInfo, hin, hzz] using this
  subst hzv
  have hM' : c ≤ 9223372036854775807 := by simp only [maxLen] at hM; omega
  have w1 : IntKind.i64.wrap (m : Int) = m := IntWalk.i64_in _ (by omega)
  have w2 : IntKind.i64.wrap (c : Int) = c := IntWalk.i64_in _ (by omega)
  have hbi : ((inf.bytes : Nat) : Int) * (c : Int) ≤ 140737488355328 := by
    have : ((inf.bytes * c : Nat) : Int) ≤ 140737488355328 := by rw [hby, Nat.mul_comm]; omega
    simpa using this
  have ht : (decide ((c : Int) < 0) || decide ((inf.bytes : Int) * (c : Int) > 2 ^ 48)) = false := by
    simp only [Bool.or_eq_false_iff, decide_eq_false_iff_not]
    constructor <;> omega
  have hlt : ¬ ((m : Int) < 0) := by omega
  have hgt : ¬ ((m : Int) > (c : Int)) := by omega
  have hroom : ¬ (c * inf.bytes > roomBytes) := by
    rw [hby]; unfold roomBytes; omega
  have hrows := zero_rows E e0 c
  simp only [execOp, h.eval hx, h.eval hy, Instr.makeSlice, Sem.run_bind, run_underlying he.und, Result.andThen_ok, asInt, asIntOf, Sem.run_pure, typeInfo, sizeOf, w1, w2]
  simp [hin, hsz, ht, hlt, hgt, askRoom, hroom, w1, w2]
  by_cases h0 : c = 0
  · subst h0
    simp [newRow]
    rw [show Array.range 0 = #[] from rfl]; simp
  · have hcz : ¬ (c * E.sz = 0) := by
      have := E.pos
      intro e
      rcases Nat.mul_eq_zero.1 e with e | e <;> omega
    have h00 : ¬ ((c : Int) < 0) := by omega
    have hbb : ¬ ((281474976710656 : Int) < (inf.bytes : Int) * (c : Int)) := by omega
    simp [hcz, zeroValue, typeInfo, hin, hzz, newRow, hv, E.len, h00, hbb]
    congr 2
    apply Array.toList_inj.1
    simpa using hrows
theorem st_makeSlice {α : Type} {E : Enc α} {bytes m c : Nat} (e0 : α) (h : AgM ds a n L) (hx : ev L x = some (.int k (m : Int))) (hy : ev L y = some (.int k' (c : Int))) (he : ElemOf P t T E bytes)
    (hz : ∀ w : World, (zeroValue T).run P w = .ok v w) (hv : v.cells = (E.enc e0).toArray) (hmc : m ≤ c) (hb : c * bytes ≤ 140737488355328) (hM : c ≤ maxLen) (hn : Nat.blt d n = true)
    (q : ∀ g w', g = w.heap.size → Own E T g w' (.slice (some ⟨g, 0, none⟩) m c) (List.replicate m e0) → Fr [] w w' → w'.heap.size = g + 1 → ∀ a, AgM ds a n ((d, .slice (some ⟨g, 0, none⟩) m c) :: L) → wpList P ops Q rest a w') :
    wpList P ops Q (⟨some d, .makeSlice t x y, ty, pos, after, none⟩ :: rest) a w := by
  refine st_ok h rfl rfl hn (ex_makeSlice e0 h hx hy he hz hv hmc hb hM) (q _ _ rfl ?_ (Fr.alloc [] w _) (by simp))
  refine .inr ⟨_, c, _, by simp, Nat.le_refl _, heap_alloc_new w _, by simpa using hmc, hM, by simp [E.flat_len], ?_⟩
  simp only [List.length_replicate]
  obtain ⟨r, rfl⟩ : ∃ r, c = m + r := ⟨c - m, by omega⟩
  rw [← List.replicate_append_replicate, List.flatMap_append]
  rw [show m * E.sz = ((List.replicate m e0).flatMap E.enc).length by rw [E.flat_len, List.length_replicate]]
  exact List.take_left
end
end Go.Lw
namespace Go.Lw
section
variable {P : Program} {a : Act} {n : Nat} {L : List (Nat × Value)} {ds : List Nat} {w w' : World} {ops : Array Oper} {C : World → Prop}
variable {d : Nat} {ty : TypeId} {pos : String} {after : Array Edge} {x y : Operand} {t T : TypeId} {k : IntKind} {i : Int}
theorem hd_idxA {G : Option (Nat × Bool)} {K : Act → World → Prop} {fu : Nat} {listed : Array Bool} {pq : Option Nat} {ad : Addr} {N sz : Nat} (ix : Nat) (hsel : Region.noSelect ops = true) (hfr : Fre pq ops listed ix = true) (hre : (Region.ready .any ops listed).contains ix = true) (hC : C w) (h : AgM ds a n L) (hG : Wd ops n L G)
    (hx : ev L x = some (.pointer (some ad))) (hy : ev L y = some (.int k i)) (hu : P.underlying t = some (.array N T)) (hs : SizeOf P T sz) (h0 : 0 ≤ i) (h1 : i < N) (hix : ops[ix]? = some ⟨some d, .indexAddr t x y, ty, pos, after, G⟩) (hn : Nat.blt d n = true)
    (q : ∀ a, AgM ds a n ((d, .pointer (some (ad.add (i.toNat * sz)))) :: L) → wpAnyP pq P ops (NormEnd K) C fu (listed.setIfInBounds ix true) a w) : wpAnyP pq P ops (NormEnd K) C (fu + 1) listed a w :=
  hd_ok ix hsel hfr hre hC h hG hix rfl hn (fun _ _ => ex_idxA h hx hy hu hs h0 h1) q
end
end Go.Lw
