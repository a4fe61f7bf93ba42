/- Texts of the proof, joined: W2 W3 W4 W5 W6 W7 W8 XMore XNest XRef XMach FactsB -/
import Derived.Test.YtbbnampdgefljaaDoorRows
import Derived.Test.YtbbnampdgefljaaDoorK1
set_option linter.unusedVariables false
set_option linter.unusedSimpArgs false
namespace Go.Proofs.YtbbnampdgefljaaDoor
open Go.Lw Go.G14
set_option maxHeartbeats 1000000 in
theorem parse_ok (l : List UInt8) (w0 : World) (hy : Sym w0) : Rets Tryd.prog 28 #[S l] w0 fun v w' => v = .tuple #[stV (parseS l).1, .int .i64 (parseS l).2] ∧ Fr [] w0 w' := by
 have h00 := hy.pos
 refine enter [(0, S l)] Tryd.func28 rfl Tryd.ntmps28 rfl (.cons rfl .nil) ?_
 have hf := Fr.refl [] w0
 intro a h
 refine wp_seq ?_
 refine wR ?_
 refine st_alloc h zv36 rfl rfl ?_; clear h a; intro w1 hb2 hq hz a h
 obtain ⟨g_2, hg⟩ : ∃ g, g = w0.heap.size := ⟨_, rfl⟩; rw [← hg] at hb2 h hz
 have hl2 : w0.heap.size ≤ g_2 := by have := hf.size; omega
 replace hf := hf.next hq
 replace hy := hy.ext hq
 clear hq hz hg
 refine st_assign h rfl rfl ?_; clear h a; intro a h
 replace h : Ag a 65 [(0, _), (2, _)] := h.sub (.cons rfl (.cons rfl .nil))
 refine wnt ?_
 refine wp_seq ?_
 refine wp_seq ?_
 refine wR ?_
 refine st_move h rfl rfl ?_; clear h a; intro a h
 refine st_eqs h rfl rfl rfl ?_; clear h a; intro a h
 replace h : Ag a 65 [(0, _), (2, _), (9, _)] := h.sub (.cons rfl (.cons rfl (.cons rfl .nil)))
 refine wnt ?_
 first | refine cond_dec h rfl (fun c0 => ?_) (fun c0 => ?_) | refine cond_ndec h rfl (fun c0 => ?_) (fun c0 => ?_) | refine cond_split h rfl (fun c0 => ?_) (fun c0 => ?_)
 ·refine id ?_
  refine wp_seq ?_
  refine wR ?_
  refine st_lit (cs := [_, _, _, _, _]) h evs_nil bo36 pok_nil rfl rfl ?_; clear h a; intro a h
  refine st_storeBA h rfl rfl hb2 rfl (by first | (simp [Value.oneCell', S]; done) | exact Enc.one _ _) sz36 ?_; clear h a; intro w2 hbn hq hz a h
  replace hf := hf.step hq (by first | (simp; done) | (simp; omega))
  replace hy := hy.fr hq (by first | (simp; done) | (simp; omega) | (simp [blks]; done) | (simp [blks]; omega))
  clear hb2 hq hz; have hb2 : Blk w2 g_2 _ [_, _, _, _, _] := hbn; clear hbn
  refine st_assign h rfl rfl ?_; clear h a; intro a h
  replace h : Ag a 65 [(2, _), (3, _)] := h.sub (.cons rfl (.cons rfl .nil))
  refine wnt ?_
  refine wp_ret (ret_then ?_)
  refine retCT h Tryd.results28 rfl hb2 ag36 rfl ?_
  exact ⟨_, rfl, by rw [parse_none c0]; rfl, hf⟩
 ·have hlen : 0 < l.length := List.length_pos_iff.2 c0
  refine wsn ?_
  refine wp_seq ?_
  refine wR ?_
  refine st_lit (cs := [_, _, _, _, _]) h (evs_cons rfl evs_nil) bo36 (pok_cons rfl rfl rfl pok_nil) rfl rfl ?_; clear h a; intro a h
  refine st_alloc h zv36 rfl rfl ?_; clear h a; intro w3 hb4 hq hz a h
  obtain ⟨g_4, hg⟩ : ∃ g, g = w1.heap.size := ⟨_, rfl⟩; rw [← hg] at hb4 h hz
  have hl4 : w0.heap.size ≤ g_4 := by have := hf.size; omega
  have hn_2_4 : g_2 < g_4 := by have := hb2.lt; omega
  replace hf := hf.next hq
  replace hy := hy.ext hq
  replace hb2 := hb2.ext hq
  clear hq hz hg
  refine st_storeBA h rfl rfl hb4 rfl (by first | (simp [Value.oneCell', S]; done) | exact Enc.one _ _) sz36 ?_; clear h a; intro w4 hbn hq hz a h
  replace hf := hf.step hq (by first | (simp; done) | (simp; omega))
  replace hy := hy.fr hq (by first | (simp; done) | (simp; omega) | (simp [blks]; done) | (simp [blks]; omega))
  replace hb2 := hb2.fr hq (by first | (simp; done) | (simp; omega) | (simp [blks]; done) | (simp [blks]; omega))
  clear hb4 hq hz; have hb4 : Blk w4 g_4 _ [_, _, _, _, _] := hbn; clear hbn
  replace h : Ag a 65 [(0, _), (2, _), (4, _)] := h.sub (.cons rfl (.cons rfl (.cons rfl .nil)))
  refine wnt ?_
  refine wp_seq ?_
  refine wp_seq ?_
  refine wR ?_
  refine st_loadA h rfl hy ag94 rfl ?_; clear h a; intro a h
  refine st_move h rfl rfl ?_; clear h a; intro a h
  refine wnt ?_
  refine wp_block ?_
  refine loop (ι := Nat) (fun i => [(0, S l), (2, .pointer (some ⟨g_2, 0, none⟩)), (4, .pointer (some ⟨g_4, 0, none⟩)), (12, .agg (symbols.flatMap Enc.b.enc).toArray), (13, .int .i64 (i : Int))]) (fun i w' => i ≤ 8 ∧ Blk w' g_4 36 [.int .u8 (kindTo i (l.getD 0 0)), .int .u8 1, .int .i64 0, .int .i64 0, .bool false] ∧ Blk w' g_2 36 [.int .u8 0, .int .u8 0, .int .i64 0, .int .i64 0, .bool false] ∧ Sym w' ∧ Fr [] w0 w') (fun i => 8 - i) 0 (h.sub (.cons rfl (.cons rfl (.cons rfl (.cons rfl (.cons rfl .nil)))))) ⟨by omega, hb4, hb2, hy, hf⟩ ?_
  clear h a hb2 hb4 hf hy
  rintro i w5 a h ⟨hi, hb4, hb2, hy, hf⟩
  refine wp_seq ?_
  refine wR ?_
  refine st_lt h rfl rfl rfl ?_; clear h a; intro a h
  refine wnt ?_
  refine wp_seq ?_
  first | refine cond_dec h rfl (fun c1 => ?_) (fun c1 => ?_) | refine cond_ndec h rfl (fun c1 => ?_) (fun c1 => ?_) | refine cond_split h rfl (fun c1 => ?_) (fun c1 => ?_)
  ·refine id ?_
   refine wsn ?_
   refine wp_seq ?_
   refine wp_block ?_
   refine wp_seq ?_
   refine wR ?_
   refine st_move h rfl rfl ?_; clear h a; intro a h
   refine st_idxV (v := .int .u8 ((symbols.getD i 0).toNat : Int)) h rfl rfl Tryd.underlying94 sz5 na5 (by omega) (by omega) (by exact sym_get i (by omega)) rfl ?_; clear h a; intro a h
   refine st_assign h rfl rfl ?_; clear h a; intro a h
   refine st_assign h rfl rfl ?_; clear h a; intro a h
   replace h : Ag a 65 [(0, _), (2, _), (4, _), (5, _), (6, _), (12, _), (13, _)] := h.sub (.cons rfl (.cons rfl (.cons rfl (.cons rfl (.cons rfl (.cons rfl (.cons rfl .nil)))))))
   refine wnt ?_
   refine wp_seq ?_
   refine wR ?_
   refine st_move h rfl rfl ?_; clear h a; intro a h
   refine st_move h rfl rfl ?_; clear h a; intro a h
   refine st_index (p := 0) h rfl rfl Tryd.underlying9 (by omega) (by omega) rfl rfl ?_; clear h a; intro hy19 a h
   refine st_eq h rfl rfl rfl ?_; clear h a; intro a h
   replace h : Ag a 65 [(0, _), (2, _), (4, _), (5, _), (12, _), (13, _), (20, _)] := h.sub (.cons rfl (.cons rfl (.cons rfl (.cons rfl (.cons rfl (.cons rfl (.cons rfl .nil)))))))
   refine wnt ?_
   first | refine cond_dec h rfl (fun c2 => ?_) (fun c2 => ?_) | refine cond_ndec h rfl (fun c2 => ?_) (fun c2 => ?_) | refine cond_split h rfl (fun c2 => ?_) (fun c2 => ?_)
   ·refine id ?_
    refine wR ?_
    refine st_move h rfl rfl ?_; clear h a; intro a h
    refine st_add h rfl rfl (by first | exact IntWalk.i64_in _ (by omega) | rfl) rfl ?_; clear h a; intro a h
    refine st_conv h rfl (by rw [Tryd.underlying3]; rfl) Tryd.underlying34 (by first | exact IntWalk.u8_in _ (by omega) | rfl) rfl ?_; clear h a; intro a h
    refine st_fieldAddr h rfl fa36_0 rfl ?_; clear h a; intro a h
    refine st_storeB h rfl rfl hb4 rfl rfl rfl sz34 ?_; clear h a; intro w6 hbn hq hz a h
    replace hf := hf.step hq (by first | (simp; done) | (simp; omega))
    replace hy := hy.fr hq (by first | (simp; done) | (simp; omega) | (simp [blks]; done) | (simp [blks]; omega))
    replace hb2 := hb2.fr hq (by first | (simp; done) | (simp; omega) | (simp [blks]; done) | (simp [blks]; omega))
    clear hb4 hq hz; have hb4 := hbn; clear hbn
    replace h : Ag a 65 [(0, _), (2, _), (4, _), (12, _), (13, _)] := h.sub (.cons rfl (.cons rfl (.cons rfl (.cons rfl (.cons rfl .nil)))))
    refine wpList_nil (norm_blk (norm_then ?_))
    refine wR ?_
    refine st_add h rfl rfl (by first | exact IntWalk.i64_in _ (by omega) | rfl) rfl ?_; clear h a; intro a h
    refine st_move h rfl rfl ?_; clear h a; intro a h
    replace h : Ag a 65 [(0, _), (2, _), (4, _), (12, _), (13, _)] := h.sub (.cons rfl (.cons rfl (.cons rfl (.cons rfl (.cons rfl .nil)))))
    refine wnt ?_
    exact ⟨i + 1, h.sub (.cons rfl (.cons rfl (.cons rfl (.cons rfl (.cons rfl .nil))))), ⟨by omega, by first | (rw [kindTo, if_pos (byte_eq.1 (by assumption))]; exact hb4) | (rw [kindTo, if_neg (fun e => absurd (byte_eq.2 e) (by assumption))]; exact hb4), hb2, hy, hf⟩, by omega⟩
   ·refine id ?_
    refine wp_skip (norm_blk (norm_then ?_))
    refine wR ?_
    refine st_add h rfl rfl (by first | exact IntWalk.i64_in _ (by omega) | rfl) rfl ?_; clear h a; intro a h
    refine st_move h rfl rfl ?_; clear h a; intro a h
    replace h : Ag a 65 [(0, _), (2, _), (4, _), (12, _), (13, _)] := h.sub (.cons rfl (.cons rfl (.cons rfl (.cons rfl (.cons rfl .nil)))))
    refine wnt ?_
    exact ⟨i + 1, h.sub (.cons rfl (.cons rfl (.cons rfl (.cons rfl (.cons rfl .nil))))), ⟨by omega, by first | (rw [kindTo, if_pos (byte_eq.1 (by assumption))]; exact hb4) | (rw [kindTo, if_neg (fun e => absurd (byte_eq.2 e) (by assumption))]; exact hb4), hb2, hy, hf⟩, by omega⟩
  ·obtain rfl : i = 8 := by omega
   refine wp_exit (exit_then (exit_then (exit_here (norm_then ?_))))
   refine wp_seq ?_
   refine wR ?_
   refine st_move h rfl rfl ?_; clear h a; intro a h
   refine st_ss_l (p := 1) h rfl rfl Tryd.underlying9 (by omega) (by omega) rfl rfl ?_; clear h a; intro a h
   refine st_assign h rfl rfl ?_; clear h a; intro a h
   replace h : Ag a 65 [(0, _), (2, _), (4, _), (7, _)] := h.sub (.cons rfl (.cons rfl (.cons rfl (.cons rfl .nil))))
   refine wnt ?_
   refine wp_seq ?_
   refine wp_seq ?_
   refine region_bool (r := 35) (L' := [(0, _), (2, _), (4, _), (7, _)]) (kindTo 8 (l.getD 0 0) = 8 ∧ 3 ≤ (l.drop 1).length) h (.cons rfl (.cons rfl (.cons rfl (.cons rfl .nil)))) ?_ ?_
   ·refine id ?_
    refine st_fieldAddr h rfl fa36_0 rfl ?_; clear h a; intro a h
    refine st_loadB h rfl hb4 rfl na34 rfl ?_; clear h a; intro a h
    refine st_eq h rfl rfl rfl ?_; clear h a; intro a h
    refine st_move h rfl rfl ?_; clear h a; intro a h
    first | refine guard_dec (D := 31) h rfl ?_ ?_ | refine guard_ndec (D := 31) h rfl ?_ ?_ | refine guard_any (D := 31) h rfl ?_ ?_
    ·clear h; intro g0 h
     refine gd_yes h rfl rfl rfl rfl rfl rfl ?_
     refine st_move h rfl rfl ?_; clear h a; intro a h
     refine gd_yes h rfl rfl rfl rfl rfl rfl ?_
     refine st_len h rfl Tryd.underlying9 rfl ?_; clear h a; intro a h
     refine gd_yes h rfl rfl rfl rfl rfl rfl ?_
     refine st_ge h rfl rfl rfl ?_; clear h a; intro a h
     refine st_pick_t h rfl rfl rfl rfl ?_; clear h a; intro a h
     exact wpList_nil (bool_end h rfl (by first | exact bt (by omega) | exact bf (by omega) | exact bi (by omega)) (.cons rfl (.cons rfl (.cons rfl (.cons rfl .nil)))))
    ·clear h; intro g0 h
     refine gd_no h rfl rfl rfl rfl rfl rfl rfl rfl ?_; clear h a; intro a h
     refine gd_no h rfl rfl rfl rfl rfl rfl rfl rfl ?_; clear h a; intro a h
     refine gd_no h rfl rfl rfl rfl rfl rfl rfl rfl ?_; clear h a; intro a h
     refine st_pick_f h rfl rfl rfl rfl ?_; clear h a; intro a h
     exact wpList_nil (bool_end h rfl (by first | exact bt (by omega) | exact bf (by omega) | exact bi (by omega)) (.cons rfl (.cons rfl (.cons rfl (.cons rfl .nil)))))
   ·clear h a; intro a h
    refine (norm_then ?_)
    first | refine cond_dec h rfl (fun c3 => ?_) (fun c3 => ?_) | refine cond_ndec h rfl (fun c3 => ?_) (fun c3 => ?_) | refine cond_split h rfl (fun c3 => ?_) (fun c3 => ?_)
    ·refine id ?_
     refine wp_seq ?_
     refine region_held (fun wb w' => Fr [g_4] wb w') hmix ?_; intro w7 hq
     replace hf := hf.next hq
     replace hy := hy.ext hq
     replace hb2 := hb2.ext hq
     replace hb4 := hb4.ext hq
     clear hq; have hC : Fr [g_4] w7 w7 := Fr.refl _ _
     have hy_b := hy
     have hb2_b := hb2
     have hb4_b := hb4
     refine hd_move 0 (by kernel_rfl) (by kernel_rfl) (by kernel_rfl) hC h wn rfl rfl rfl ?_; clear h a; intro a h
     refine hd_index (p := 0) 1 (by kernel_rfl) (by kernel_rfl) (by kernel_rfl) hC h wn rfl rfl Tryd.underlying9 (by omega) (by omega) rfl rfl rfl ?_; clear h a; intro hy37 a h
     refine hd_conv 2 (by kernel_rfl) (by kernel_rfl) (by kernel_rfl) hC h wn rfl (by rw [Tryd.underlying5]; rfl) Tryd.underlying3 (by first | exact IntWalk.i64_in _ (by omega) | rfl) rfl rfl ?_; clear h a; intro a h
     refine hd_sub 3 (by kernel_rfl) (by kernel_rfl) (by kernel_rfl) hC h wn rfl rfl (by first | exact IntWalk.i64_in _ (by omega) | rfl) rfl rfl ?_; clear h a; intro a h
     refine hd_move 4 (by kernel_rfl) (by kernel_rfl) (by kernel_rfl) hC h wn rfl rfl rfl ?_; clear h a; intro a h
     refine hd_index (p := 1) 5 (by kernel_rfl) (by kernel_rfl) (by kernel_rfl) hC h wn rfl rfl Tryd.underlying9 (by omega) (by omega) rfl rfl rfl ?_; clear h a; intro hy41 a h
     refine hd_conv 6 (by kernel_rfl) (by kernel_rfl) (by kernel_rfl) hC h wn rfl (by rw [Tryd.underlying5]; rfl) Tryd.underlying3 (by first | exact IntWalk.i64_in _ (by omega) | rfl) rfl rfl ?_; clear h a; intro a h
     refine hd_sub 7 (by kernel_rfl) (by kernel_rfl) (by kernel_rfl) hC h wn rfl rfl (by first | exact IntWalk.i64_in _ (by omega) | rfl) rfl rfl ?_; clear h a; intro a h
     refine hd_move 8 (by kernel_rfl) (by kernel_rfl) (by kernel_rfl) hC h wn rfl rfl rfl ?_; clear h a; intro a h
     refine hd_index (p := 2) 9 (by kernel_rfl) (by kernel_rfl) (by kernel_rfl) hC h wn rfl rfl Tryd.underlying9 (by omega) (by omega) rfl rfl rfl ?_; clear h a; intro hy45 a h
     refine hd_eq 10 (by kernel_rfl) (by kernel_rfl) (by kernel_rfl) hC h wn rfl rfl rfl rfl ?_; clear h a; intro a h
     refine hd_fieldAddr 11 (by kernel_rfl) (by kernel_rfl) (by kernel_rfl) hC h wn rfl fa36_2 rfl rfl ?_; clear h a; intro a h
     refine hd_one 12 (by kernel_rfl) rfl ?_
     refine st_storeB h rfl rfl hb4 rfl rfl rfl sz3 ?_; clear h a; intro w8 hbn hq hz a h
     replace hf := hf.step hq (by first | (simp; done) | (simp; omega))
     replace hy := hy.fr hq (by first | (simp; done) | (simp; omega) | (simp [blks]; done) | (simp [blks]; omega))
     replace hb2 := hb2.fr hq (by first | (simp; done) | (simp; omega) | (simp [blks]; done) | (simp [blks]; omega))
     replace hC := hC.step hq (by first | (simp; done) | (simp; omega))
     clear hb4 hq hz; have hb4 := hbn; clear hbn
     refine hd_next hC ?_
     refine hd_fieldAddr 13 (by kernel_rfl) (by kernel_rfl) (by kernel_rfl) hC h wn rfl fa36_3 rfl rfl ?_; clear h a; intro a h
     refine hd_one 14 (by kernel_rfl) rfl ?_
     refine st_storeB h rfl rfl hb4 rfl rfl rfl sz3 ?_; clear h a; intro w9 hbn hq hz a h
     replace hf := hf.step hq (by first | (simp; done) | (simp; omega))
     replace hy := hy.fr hq (by first | (simp; done) | (simp; omega) | (simp [blks]; done) | (simp [blks]; omega))
     replace hb2 := hb2.fr hq (by first | (simp; done) | (simp; omega) | (simp [blks]; done) | (simp [blks]; omega))
     replace hC := hC.step hq (by first | (simp; done) | (simp; omega))
     clear hb4 hq hz; have hb4 := hbn; clear hbn
     refine hd_next hC ?_
     refine hd_fieldAddr 15 (by kernel_rfl) (by kernel_rfl) (by kernel_rfl) hC h wn rfl fa36_4 rfl rfl ?_; clear h a; intro a h
     refine hd_one 16 (by kernel_rfl) rfl ?_
     refine st_storeB h rfl rfl hb4 rfl rfl rfl sz4 ?_; clear h a; intro w10 hbn hq hz a h
     replace hf := hf.step hq (by first | (simp; done) | (simp; omega))
     replace hy := hy.fr hq (by first | (simp; done) | (simp; omega) | (simp [blks]; done) | (simp [blks]; omega))
     replace hb2 := hb2.fr hq (by first | (simp; done) | (simp; omega) | (simp [blks]; done) | (simp [blks]; omega))
     replace hC := hC.step hq (by first | (simp; done) | (simp; omega))
     clear hb4 hq hz; have hb4 := hbn; clear hbn
     refine hd_next hC ?_
     refine hd_end (by kernel_rfl) ?_
     clear hC hy_b hb2_b hb4_b
     replace h : Ag a 65 [(0, _), (2, _), (4, _), (7, _)] := h.sub (.cons rfl (.cons rfl (.cons rfl (.cons rfl .nil))))
     refine (norm_then ?_)
     refine wR ?_
     refine st_move h rfl rfl ?_; clear h a; intro a h
     refine st_ss_l (p := 3) h rfl rfl Tryd.underlying9 (by omega) (by omega) rfl rfl ?_; clear h a; intro a h
     refine st_assign h rfl rfl ?_; clear h a; intro a h
     replace h : Ag a 65 [(0, _), (2, _), (4, _), (7, _)] := h.sub (.cons rfl (.cons rfl (.cons rfl (.cons rfl .nil))))
     refine wnt ?_
     refine wp_seq ?_
     refine wp_seq ?_
     refine wR ?_
     refine st_move h rfl rfl ?_; clear h a; intro a h
     refine st_len h rfl Tryd.underlying9 rfl ?_; clear h a; intro a h
     refine st_eq h rfl rfl rfl ?_; clear h a; intro a h
     replace h : Ag a 65 [(0, _), (2, _), (4, _), (7, _), (54, _)] := h.sub (.cons rfl (.cons rfl (.cons rfl (.cons rfl (.cons rfl .nil)))))
     refine wnt ?_
     first | refine cond_dec h rfl (fun c4 => ?_) (fun c4 => ?_) | refine cond_ndec h rfl (fun c4 => ?_) (fun c4 => ?_) | refine cond_split h rfl (fun c4 => ?_) (fun c4 => ?_)
     ·refine id ?_
      refine wR ?_
      refine st_move h rfl rfl ?_; clear h a; intro a h
      refine st_index (p := 0) h rfl rfl Tryd.underlying9 (by omega) (by omega) rfl rfl ?_; clear h a; intro hy56 a h
      refine st_sub h rfl rfl (by first | exact IntWalk.u8_in _ (by omega) | rfl) rfl ?_; clear h a; intro a h
      refine st_fieldAddr h rfl fa36_1 rfl ?_; clear h a; intro a h
      refine st_storeB h rfl rfl hb4 rfl rfl rfl sz5 ?_; clear h a; intro w11 hbn hq hz a h
      replace hf := hf.step hq (by first | (simp; done) | (simp; omega))
      replace hy := hy.fr hq (by first | (simp; done) | (simp; omega) | (simp [blks]; done) | (simp [blks]; omega))
      replace hb2 := hb2.fr hq (by first | (simp; done) | (simp; omega) | (simp [blks]; done) | (simp [blks]; omega))
      clear hb4 hq hz; have hb4 := hbn; clear hbn
      replace h : Ag a 65 [(0, _), (2, _), (4, _)] := h.sub (.cons rfl (.cons rfl (.cons rfl .nil)))
      refine wnt ?_
      refine wp_seq ?_
      refine wp_seq ?_
      refine wR ?_
      refine st_loadBA h rfl hb4 ag36 rfl ?_; clear h a; intro a h
      refine st_call h (evs_cons rfl evs_nil) co54 (text_ok ⟨_, _, _, _, _⟩ _ hy) rfl ?_; clear h a; rintro _ w12 ⟨rfl, hq⟩ a h
      replace hf := hf.next hq
      replace hy := hy.ext hq
      replace hb2 := hb2.ext hq
      replace hb4 := hb4.ext hq
      clear hq
      refine st_move h rfl rfl ?_; clear h a; intro a h
      refine st_nes h rfl rfl rfl ?_; clear h a; intro a h
      replace h : Ag a 65 [(2, _), (4, _), (62, _)] := h.sub (.cons rfl (.cons rfl (.cons rfl .nil)))
      refine wnt ?_
      first | refine cond_dec h rfl (fun c5 => ?_) (fun c5 => ?_) | refine cond_ndec h rfl (fun c5 => ?_) (fun c5 => ?_) | refine cond_split h rfl (fun c5 => ?_) (fun c5 => ?_)
      ·refine id ?_
       refine wp_seq ?_
       refine wR ?_
       refine st_lit (cs := [_, _, _, _, _]) h evs_nil bo36 pok_nil rfl rfl ?_; clear h a; intro a h
       refine st_storeBA h rfl rfl hb2 rfl (by first | (simp [Value.oneCell', S]; done) | exact Enc.one _ _) sz36 ?_; clear h a; intro w13 hbn hq hz a h
       replace hf := hf.step hq (by first | (simp; done) | (simp; omega))
       replace hy := hy.fr hq (by first | (simp; done) | (simp; omega) | (simp [blks]; done) | (simp [blks]; omega))
       replace hb4 := hb4.fr hq (by first | (simp; done) | (simp; omega) | (simp [blks]; done) | (simp [blks]; omega))
       clear hb2 hq hz; have hb2 := hbn; clear hbn
       refine st_assign h rfl rfl ?_; clear h a; intro a h
       replace h : Ag a 65 [(2, _), (3, _)] := h.sub (.cons rfl (.cons rfl .nil))
       refine wnt ?_
       refine wp_ret (ret_then ?_)
       refine retCT h Tryd.results28 rfl hb2 ag36 rfl ?_
       exact ⟨_, rfl, by first | (rw [parse_bad (guess_ca c3.1 c3.2 (by omega)) c5]; rfl) | (rw [parse_bad (guess_cb c3.1 c3.2 (by omega)) c5]; rfl) | (rw [parse_bad (guess_na c3 (by omega)) c5]; rfl) | (rw [parse_bad (guess_nb c3 (by omega)) c5]; rfl) | (rw [parse_good c0 (guess_ca c3.1 c3.2 (by omega)) c5]; rfl) | (rw [parse_good c0 (guess_cb c3.1 c3.2 (by omega)) c5]; rfl) | (rw [parse_good c0 (guess_na c3 (by omega)) c5]; rfl) | (rw [parse_good c0 (guess_nb c3 (by omega)) c5]; rfl), hf⟩
      ·refine id ?_
       refine wsn ?_
       refine wp_seq ?_
       refine wR ?_
       refine st_loadBA h rfl hb4 ag36 rfl ?_; clear h a; intro a h
       refine st_storeBA h rfl rfl hb2 rfl (by first | (simp [Value.oneCell', S]; done) | exact Enc.one _ _) sz36 ?_; clear h a; intro w14 hbn hq hz a h
       replace hf := hf.step hq (by first | (simp; done) | (simp; omega))
       replace hy := hy.fr hq (by first | (simp; done) | (simp; omega) | (simp [blks]; done) | (simp [blks]; omega))
       replace hb4 := hb4.fr hq (by first | (simp; done) | (simp; omega) | (simp [blks]; done) | (simp [blks]; omega))
       clear hb2 hq hz; have hb2 := hbn; clear hbn
       refine st_assign h rfl rfl ?_; clear h a; intro a h
       replace h : Ag a 65 [(2, _), (3, _)] := h.sub (.cons rfl (.cons rfl .nil))
       refine wnt ?_
       refine wp_ret ?_
       refine retCT h Tryd.results28 rfl hb2 ag36 rfl ?_
       exact ⟨_, rfl, by first | (rw [parse_bad (guess_ca c3.1 c3.2 (by omega)) c5]; rfl) | (rw [parse_bad (guess_cb c3.1 c3.2 (by omega)) c5]; rfl) | (rw [parse_bad (guess_na c3 (by omega)) c5]; rfl) | (rw [parse_bad (guess_nb c3 (by omega)) c5]; rfl) | (rw [parse_good c0 (guess_ca c3.1 c3.2 (by omega)) c5]; rfl) | (rw [parse_good c0 (guess_cb c3.1 c3.2 (by omega)) c5]; rfl) | (rw [parse_good c0 (guess_na c3 (by omega)) c5]; rfl) | (rw [parse_good c0 (guess_nb c3 (by omega)) c5]; rfl), hf⟩
     ·refine id ?_
      refine wsn ?_
      refine wp_seq ?_
      refine wp_seq ?_
      refine wR ?_
      refine st_loadBA h rfl hb4 ag36 rfl ?_; clear h a; intro a h
      refine st_call h (evs_cons rfl evs_nil) co54 (text_ok ⟨_, _, _, _, _⟩ _ hy) rfl ?_; clear h a; rintro _ w15 ⟨rfl, hq⟩ a h
      replace hf := hf.next hq
      replace hy := hy.ext hq
      replace hb2 := hb2.ext hq
      replace hb4 := hb4.ext hq
      clear hq
      refine st_move h rfl rfl ?_; clear h a; intro a h
      refine st_nes h rfl rfl rfl ?_; clear h a; intro a h
      replace h : Ag a 65 [(2, _), (4, _), (62, _)] := h.sub (.cons rfl (.cons rfl (.cons rfl .nil)))
      refine wnt ?_
      first | refine cond_dec h rfl (fun c5 => ?_) (fun c5 => ?_) | refine cond_ndec h rfl (fun c5 => ?_) (fun c5 => ?_) | refine cond_split h rfl (fun c5 => ?_) (fun c5 => ?_)
      ·refine id ?_
       refine wp_seq ?_
       refine wR ?_
       refine st_lit (cs := [_, _, _, _, _]) h evs_nil bo36 pok_nil rfl rfl ?_; clear h a; intro a h
       refine st_storeBA h rfl rfl hb2 rfl (by first | (simp [Value.oneCell', S]; done) | exact Enc.one _ _) sz36 ?_; clear h a; intro w16 hbn hq hz a h
       replace hf := hf.step hq (by first | (simp; done) | (simp; omega))
       replace hy := hy.fr hq (by first | (simp; done) | (simp; omega) | (simp [blks]; done) | (simp [blks]; omega))
       replace hb4 := hb4.fr hq (by first | (simp; done) | (simp; omega) | (simp [blks]; done) | (simp [blks]; omega))
       clear hb2 hq hz; have hb2 := hbn; clear hbn
       refine st_assign h rfl rfl ?_; clear h a; intro a h
       replace h : Ag a 65 [(2, _), (3, _)] := h.sub (.cons rfl (.cons rfl .nil))
       refine wnt ?_
       refine wp_ret (ret_then ?_)
       refine retCT h Tryd.results28 rfl hb2 ag36 rfl ?_
       exact ⟨_, rfl, by first | (rw [parse_bad (guess_ca c3.1 c3.2 (by omega)) c5]; rfl) | (rw [parse_bad (guess_cb c3.1 c3.2 (by omega)) c5]; rfl) | (rw [parse_bad (guess_na c3 (by omega)) c5]; rfl) | (rw [parse_bad (guess_nb c3 (by omega)) c5]; rfl) | (rw [parse_good c0 (guess_ca c3.1 c3.2 (by omega)) c5]; rfl) | (rw [parse_good c0 (guess_cb c3.1 c3.2 (by omega)) c5]; rfl) | (rw [parse_good c0 (guess_na c3 (by omega)) c5]; rfl) | (rw [parse_good c0 (guess_nb c3 (by omega)) c5]; rfl), hf⟩
      ·refine id ?_
       refine wsn ?_
       refine wp_seq ?_
       refine wR ?_
       refine st_loadBA h rfl hb4 ag36 rfl ?_; clear h a; intro a h
       refine st_storeBA h rfl rfl hb2 rfl (by first | (simp [Value.oneCell', S]; done) | exact Enc.one _ _) sz36 ?_; clear h a; intro w17 hbn hq hz a h
       replace hf := hf.step hq (by first | (simp; done) | (simp; omega))
       replace hy := hy.fr hq (by first | (simp; done) | (simp; omega) | (simp [blks]; done) | (simp [blks]; omega))
       replace hb4 := hb4.fr hq (by first | (simp; done) | (simp; omega) | (simp [blks]; done) | (simp [blks]; omega))
       clear hb2 hq hz; have hb2 := hbn; clear hbn
       refine st_assign h rfl rfl ?_; clear h a; intro a h
       replace h : Ag a 65 [(2, _), (3, _)] := h.sub (.cons rfl (.cons rfl .nil))
       refine wnt ?_
       refine wp_ret ?_
       refine retCT h Tryd.results28 rfl hb2 ag36 rfl ?_
       exact ⟨_, rfl, by first | (rw [parse_bad (guess_ca c3.1 c3.2 (by omega)) c5]; rfl) | (rw [parse_bad (guess_cb c3.1 c3.2 (by omega)) c5]; rfl) | (rw [parse_bad (guess_na c3 (by omega)) c5]; rfl) | (rw [parse_bad (guess_nb c3 (by omega)) c5]; rfl) | (rw [parse_good c0 (guess_ca c3.1 c3.2 (by omega)) c5]; rfl) | (rw [parse_good c0 (guess_cb c3.1 c3.2 (by omega)) c5]; rfl) | (rw [parse_good c0 (guess_na c3 (by omega)) c5]; rfl) | (rw [parse_good c0 (guess_nb c3 (by omega)) c5]; rfl), hf⟩
    ·refine id ?_
     refine wsn ?_
     refine wp_seq ?_
     refine wp_seq ?_
     refine wR ?_
     refine st_move h rfl rfl ?_; clear h a; intro a h
     refine st_len h rfl Tryd.underlying9 rfl ?_; clear h a; intro a h
     refine st_eq h rfl rfl rfl ?_; clear h a; intro a h
     replace h : Ag a 65 [(0, _), (2, _), (4, _), (7, _), (54, _)] := h.sub (.cons rfl (.cons rfl (.cons rfl (.cons rfl (.cons rfl .nil)))))
     refine wnt ?_
     first | refine cond_dec h rfl (fun c4 => ?_) (fun c4 => ?_) | refine cond_ndec h rfl (fun c4 => ?_) (fun c4 => ?_) | refine cond_split h rfl (fun c4 => ?_) (fun c4 => ?_)
     ·refine id ?_
      refine wR ?_
      refine st_move h rfl rfl ?_; clear h a; intro a h
      refine st_index (p := 0) h rfl rfl Tryd.underlying9 (by omega) (by omega) rfl rfl ?_; clear h a; intro hy56 a h
      refine st_sub h rfl rfl (by first | exact IntWalk.u8_in _ (by omega) | rfl) rfl ?_; clear h a; intro a h
      refine st_fieldAddr h rfl fa36_1 rfl ?_; clear h a; intro a h
      refine st_storeB h rfl rfl hb4 rfl rfl rfl sz5 ?_; clear h a; intro w18 hbn hq hz a h
      replace hf := hf.step hq (by first | (simp; done) | (simp; omega))
      replace hy := hy.fr hq (by first | (simp; done) | (simp; omega) | (simp [blks]; done) | (simp [blks]; omega))
      replace hb2 := hb2.fr hq (by first | (simp; done) | (simp; omega) | (simp [blks]; done) | (simp [blks]; omega))
      clear hb4 hq hz; have hb4 := hbn; clear hbn
      replace h : Ag a 65 [(0, _), (2, _), (4, _)] := h.sub (.cons rfl (.cons rfl (.cons rfl .nil)))
      refine wnt ?_
      refine wp_seq ?_
      refine wp_seq ?_
      refine wR ?_
      refine st_loadBA h rfl hb4 ag36 rfl ?_; clear h a; intro a h
      refine st_call h (evs_cons rfl evs_nil) co54 (text_ok ⟨_, _, _, _, _⟩ _ hy) rfl ?_; clear h a; rintro _ w19 ⟨rfl, hq⟩ a h
      replace hf := hf.next hq
      replace hy := hy.ext hq
      replace hb2 := hb2.ext hq
      replace hb4 := hb4.ext hq
      clear hq
      refine st_move h rfl rfl ?_; clear h a; intro a h
      refine st_nes h rfl rfl rfl ?_; clear h a; intro a h
      replace h : Ag a 65 [(2, _), (4, _), (62, _)] := h.sub (.cons rfl (.cons rfl (.cons rfl .nil)))
      refine wnt ?_
      first | refine cond_dec h rfl (fun c5 => ?_) (fun c5 => ?_) | refine cond_ndec h rfl (fun c5 => ?_) (fun c5 => ?_) | refine cond_split h rfl (fun c5 => ?_) (fun c5 => ?_)
      ·refine id ?_
       refine wp_seq ?_
       refine wR ?_
       refine st_lit (cs := [_, _, _, _, _]) h evs_nil bo36 pok_nil rfl rfl ?_; clear h a; intro a h
       refine st_storeBA h rfl rfl hb2 rfl (by first | (simp [Value.oneCell', S]; done) | exact Enc.one _ _) sz36 ?_; clear h a; intro w20 hbn hq hz a h
       replace hf := hf.step hq (by first | (simp; done) | (simp; omega))
       replace hy := hy.fr hq (by first | (simp; done) | (simp; omega) | (simp [blks]; done) | (simp [blks]; omega))
       replace hb4 := hb4.fr hq (by first | (simp; done) | (simp; omega) | (simp [blks]; done) | (simp [blks]; omega))
       clear hb2 hq hz; have hb2 := hbn; clear hbn
       refine st_assign h rfl rfl ?_; clear h a; intro a h
       replace h : Ag a 65 [(2, _), (3, _)] := h.sub (.cons rfl (.cons rfl .nil))
       refine wnt ?_
       refine wp_ret (ret_then ?_)
       refine retCT h Tryd.results28 rfl hb2 ag36 rfl ?_
       exact ⟨_, rfl, by first | (rw [parse_bad (guess_ca c3.1 c3.2 (by omega)) c5]; rfl) | (rw [parse_bad (guess_cb c3.1 c3.2 (by omega)) c5]; rfl) | (rw [parse_bad (guess_na c3 (by omega)) c5]; rfl) | (rw [parse_bad (guess_nb c3 (by omega)) c5]; rfl) | (rw [parse_good c0 (guess_ca c3.1 c3.2 (by omega)) c5]; rfl) | (rw [parse_good c0 (guess_cb c3.1 c3.2 (by omega)) c5]; rfl) | (rw [parse_good c0 (guess_na c3 (by omega)) c5]; rfl) | (rw [parse_good c0 (guess_nb c3 (by omega)) c5]; rfl), hf⟩
      ·refine id ?_
       refine wsn ?_
       refine wp_seq ?_
       refine wR ?_
       refine st_loadBA h rfl hb4 ag36 rfl ?_; clear h a; intro a h
       refine st_storeBA h rfl rfl hb2 rfl (by first | (simp [Value.oneCell', S]; done) | exact Enc.one _ _) sz36 ?_; clear h a; intro w21 hbn hq hz a h
       replace hf := hf.step hq (by first | (simp; done) | (simp; omega))
       replace hy := hy.fr hq (by first | (simp; done) | (simp; omega) | (simp [blks]; done) | (simp [blks]; omega))
       replace hb4 := hb4.fr hq (by first | (simp; done) | (simp; omega) | (simp [blks]; done) | (simp [blks]; omega))
       clear hb2 hq hz; have hb2 := hbn; clear hbn
       refine st_assign h rfl rfl ?_; clear h a; intro a h
       replace h : Ag a 65 [(2, _), (3, _)] := h.sub (.cons rfl (.cons rfl .nil))
       refine wnt ?_
       refine wp_ret ?_
       refine retCT h Tryd.results28 rfl hb2 ag36 rfl ?_
       exact ⟨_, rfl, by first | (rw [parse_bad (guess_ca c3.1 c3.2 (by omega)) c5]; rfl) | (rw [parse_bad (guess_cb c3.1 c3.2 (by omega)) c5]; rfl) | (rw [parse_bad (guess_na c3 (by omega)) c5]; rfl) | (rw [parse_bad (guess_nb c3 (by omega)) c5]; rfl) | (rw [parse_good c0 (guess_ca c3.1 c3.2 (by omega)) c5]; rfl) | (rw [parse_good c0 (guess_cb c3.1 c3.2 (by omega)) c5]; rfl) | (rw [parse_good c0 (guess_na c3 (by omega)) c5]; rfl) | (rw [parse_good c0 (guess_nb c3 (by omega)) c5]; rfl), hf⟩
     ·refine id ?_
      refine wsn ?_
      refine wp_seq ?_
      refine wp_seq ?_
      refine wR ?_
      refine st_loadBA h rfl hb4 ag36 rfl ?_; clear h a; intro a h
      refine st_call h (evs_cons rfl evs_nil) co54 (text_ok ⟨_, _, _, _, _⟩ _ hy) rfl ?_; clear h a; rintro _ w22 ⟨rfl, hq⟩ a h
      replace hf := hf.next hq
      replace hy := hy.ext hq
      replace hb2 := hb2.ext hq
      replace hb4 := hb4.ext hq
      clear hq
      refine st_move h rfl rfl ?_; clear h a; intro a h
      refine st_nes h rfl rfl rfl ?_; clear h a; intro a h
      replace h : Ag a 65 [(2, _), (4, _), (62, _)] := h.sub (.cons rfl (.cons rfl (.cons rfl .nil)))
      refine wnt ?_
      first | refine cond_dec h rfl (fun c5 => ?_) (fun c5 => ?_) | refine cond_ndec h rfl (fun c5 => ?_) (fun c5 => ?_) | refine cond_split h rfl (fun c5 => ?_) (fun c5 => ?_)
      ·refine id ?_
       refine wp_seq ?_
       refine wR ?_
       refine st_lit (cs := [_, _, _, _, _]) h evs_nil bo36 pok_nil rfl rfl ?_; clear h a; intro a h
       refine st_storeBA h rfl rfl hb2 rfl (by first | (simp [Value.oneCell', S]; done) | exact Enc.one _ _) sz36 ?_; clear h a; intro w23 hbn hq hz a h
       replace hf := hf.step hq (by first | (simp; done) | (simp; omega))
       replace hy := hy.fr hq (by first | (simp; done) | (simp; omega) | (simp [blks]; done) | (simp [blks]; omega))
       replace hb4 := hb4.fr hq (by first | (simp; done) | (simp; omega) | (simp [blks]; done) | (simp [blks]; omega))
       clear hb2 hq hz; have hb2 := hbn; clear hbn
       refine st_assign h rfl rfl ?_; clear h a; intro a h
       replace h : Ag a 65 [(2, _), (3, _)] := h.sub (.cons rfl (.cons rfl .nil))
       refine wnt ?_
       refine wp_ret (ret_then ?_)
       refine retCT h Tryd.results28 rfl hb2 ag36 rfl ?_
       exact ⟨_, rfl, by first | (rw [parse_bad (guess_ca c3.1 c3.2 (by omega)) c5]; rfl) | (rw [parse_bad (guess_cb c3.1 c3.2 (by omega)) c5]; rfl) | (rw [parse_bad (guess_na c3 (by omega)) c5]; rfl) | (rw [parse_bad (guess_nb c3 (by omega)) c5]; rfl) | (rw [parse_good c0 (guess_ca c3.1 c3.2 (by omega)) c5]; rfl) | (rw [parse_good c0 (guess_cb c3.1 c3.2 (by omega)) c5]; rfl) | (rw [parse_good c0 (guess_na c3 (by omega)) c5]; rfl) | (rw [parse_good c0 (guess_nb c3 (by omega)) c5]; rfl), hf⟩
      ·refine id ?_
       refine wsn ?_
       refine wp_seq ?_
       refine wR ?_
       refine st_loadBA h rfl hb4 ag36 rfl ?_; clear h a; intro a h
       refine st_storeBA h rfl rfl hb2 rfl (by first | (simp [Value.oneCell', S]; done) | exact Enc.one _ _) sz36 ?_; clear h a; intro w24 hbn hq hz a h
       replace hf := hf.step hq (by first | (simp; done) | (simp; omega))
       replace hy := hy.fr hq (by first | (simp; done) | (simp; omega) | (simp [blks]; done) | (simp [blks]; omega))
       replace hb4 := hb4.fr hq (by first | (simp; done) | (simp; omega) | (simp [blks]; done) | (simp [blks]; omega))
       clear hb2 hq hz; have hb2 := hbn; clear hbn
       refine st_assign h rfl rfl ?_; clear h a; intro a h
       replace h : Ag a 65 [(2, _), (3, _)] := h.sub (.cons rfl (.cons rfl .nil))
       refine wnt ?_
       refine wp_ret ?_
       refine retCT h Tryd.results28 rfl hb2 ag36 rfl ?_
       exact ⟨_, rfl, by first | (rw [parse_bad (guess_ca c3.1 c3.2 (by omega)) c5]; rfl) | (rw [parse_bad (guess_cb c3.1 c3.2 (by omega)) c5]; rfl) | (rw [parse_bad (guess_na c3 (by omega)) c5]; rfl) | (rw [parse_bad (guess_nb c3 (by omega)) c5]; rfl) | (rw [parse_good c0 (guess_ca c3.1 c3.2 (by omega)) c5]; rfl) | (rw [parse_good c0 (guess_cb c3.1 c3.2 (by omega)) c5]; rfl) | (rw [parse_good c0 (guess_na c3 (by omega)) c5]; rfl) | (rw [parse_good c0 (guess_nb c3 (by omega)) c5]; rfl), hf⟩
end Go.Proofs.YtbbnampdgefljaaDoor
namespace Go.Proofs.YtbbnampdgefljaaDoor
open Go.Lw Go.G14
theorem less_ok (l m : List UInt8) (w0 : World) : Rets Tryd.prog 17 #[S l, S m] w0 fun v w' => v = .int .i64 (if lessP l m then 1 else 0) ∧ w0 = w' := by
 refine enter [(0, S l), (1, S m)] Tryd.func17 rfl Tryd.ntmps17 rfl (.cons rfl (.cons rfl .nil)) ?_
 intro a h
 refine wp_seq ?_
 refine wR ?_
 refine st_assign h rfl rfl ?_; clear h a; intro a h
 replace h : Ag a 22 [(0, _), (1, _)] := h.sub (.cons rfl (.cons rfl .nil))
 refine wnt ?_
 refine wp_seq ?_
 refine wp_seq ?_
 refine region_bool (r := 21) (L' := []) (lessP l m) h .nil ?_ ?_
 ·refine id ?_
  refine st_move h rfl rfl ?_; clear h a; intro a h
  refine st_len h rfl Tryd.underlying9 rfl ?_; clear h a; intro a h
  refine st_move h rfl rfl ?_; clear h a; intro a h
  refine st_len h rfl Tryd.underlying9 rfl ?_; clear h a; intro a h
  refine st_lt h rfl rfl rfl ?_; clear h a; intro a h
  refine st_move h rfl rfl ?_; clear h a; intro a h
  first | refine guard_dec (D := 10) h rfl ?_ ?_ | refine guard_ndec (D := 10) h rfl ?_ ?_ | refine guard_any (D := 10) h rfl ?_ ?_
  ·clear h; intro g0 h
   refine gd_no h rfl rfl rfl rfl rfl rfl rfl rfl ?_; clear h a; intro a h
   refine gd_no h rfl rfl rfl rfl rfl rfl rfl rfl ?_; clear h a; intro a h
   refine gd_no h rfl rfl rfl rfl rfl rfl rfl rfl ?_; clear h a; intro a h
   refine gd_no h rfl rfl rfl rfl rfl rfl rfl rfl ?_; clear h a; intro a h
   refine gd_no h rfl rfl rfl rfl rfl rfl rfl rfl ?_; clear h a; intro a h
   refine gd_no h rfl rfl rfl rfl rfl rfl rfl rfl ?_; clear h a; intro a h
   refine gd_skip h rfl rfl rfl rfl rfl rfl rfl ?_; clear h a; intro a h
   refine gd_skip h rfl rfl rfl rfl rfl rfl rfl ?_; clear h a; intro a h
   refine gd_skip h rfl rfl rfl rfl rfl rfl rfl ?_; clear h a; intro a h
   refine gd_no h rfl rfl rfl rfl rfl rfl rfl rfl ?_; clear h a; intro a h
   refine st_pick_t h rfl rfl rfl rfl ?_; clear h a; intro a h
   exact wpList_nil (bool_end h rfl (by first | exact bt (.inl (by omega)) | exact bf (by rintro (h | h) <;> omega) | exact bb ⟨fun e => .inr ⟨by omega, e⟩, by rintro (h | h); omega; exact h.2⟩) .nil)
  ·clear h; intro g0 h
   refine gd_yes h rfl rfl rfl rfl rfl rfl ?_
   refine st_move h rfl rfl ?_; clear h a; intro a h
   refine gd_yes h rfl rfl rfl rfl rfl rfl ?_
   refine st_len h rfl Tryd.underlying9 rfl ?_; clear h a; intro a h
   refine gd_yes h rfl rfl rfl rfl rfl rfl ?_
   refine st_move h rfl rfl ?_; clear h a; intro a h
   refine gd_yes h rfl rfl rfl rfl rfl rfl ?_
   refine st_len h rfl Tryd.underlying9 rfl ?_; clear h a; intro a h
   refine gd_yes h rfl rfl rfl rfl rfl rfl ?_
   refine st_eq h rfl rfl rfl ?_; clear h a; intro a h
   refine gd_yes h rfl rfl rfl rfl rfl rfl ?_
   refine st_move h rfl rfl ?_; clear h a; intro a h
   first | refine guard_dec (D := 16) h rfl ?_ ?_ | refine guard_ndec (D := 16) h rfl ?_ ?_ | refine guard_any (D := 16) h rfl ?_ ?_
   ·clear h; intro g1 h
    refine gd_yes h rfl rfl rfl rfl rfl rfl ?_
    refine st_move h rfl rfl ?_; clear h a; intro a h
    refine gd_yes h rfl rfl rfl rfl rfl rfl ?_
    refine st_move h rfl rfl ?_; clear h a; intro a h
    refine gd_yes h rfl rfl rfl rfl rfl rfl ?_
    refine st_lts h rfl rfl rfl ?_; clear h a; intro a h
    refine gd_yes h rfl rfl rfl rfl rfl rfl ?_
    refine st_pick_t h rfl rfl rfl rfl ?_; clear h a; intro a h
    refine st_pick_f h rfl rfl rfl rfl ?_; clear h a; intro a h
    exact wpList_nil (bool_end h rfl (by first | exact bt (.inl (by omega)) | exact bf (by rintro (h | h) <;> omega) | exact bb ⟨fun e => .inr ⟨by omega, e⟩, by rintro (h | h); omega; exact h.2⟩) .nil)
   ·clear h; intro g1 h
    refine gd_no h rfl rfl rfl rfl rfl rfl rfl rfl ?_; clear h a; intro a h
    refine gd_no h rfl rfl rfl rfl rfl rfl rfl rfl ?_; clear h a; intro a h
    refine gd_no h rfl rfl rfl rfl rfl rfl rfl rfl ?_; clear h a; intro a h
    refine gd_yes h rfl rfl rfl rfl rfl rfl ?_
    refine st_pick_f h rfl rfl rfl rfl ?_; clear h a; intro a h
    refine st_pick_f h rfl rfl rfl rfl ?_; clear h a; intro a h
    exact wpList_nil (bool_end h rfl (by first | exact bt (.inl (by omega)) | exact bf (by rintro (h | h) <;> omega) | exact bb ⟨fun e => .inr ⟨by omega, e⟩, by rintro (h | h); omega; exact h.2⟩) .nil)
 ·clear h a; intro a h
  refine (norm_then ?_)
  first | refine cond_dec h rfl (fun c0 => ?_) (fun c0 => ?_) | refine cond_ndec h rfl (fun c0 => ?_) (fun c0 => ?_) | refine cond_split h rfl (fun c0 => ?_) (fun c0 => ?_)
  ·refine id ?_
   refine wp_seq ?_
   refine wR ?_
   refine st_assign h rfl rfl ?_; clear h a; intro a h
   replace h : Ag a 22 [(4, _)] := h.sub (.cons rfl .nil)
   refine wnt ?_
   refine wp_ret (ret_then ?_)
   refine ret1 h Tryd.results17 rfl ?_
   exact ⟨_, rfl, by first | rw [if_pos c0] | rw [if_neg c0], rfl⟩
  ·refine id ?_
   refine wsn ?_
   refine wp_seq ?_
   refine wR ?_
   refine st_assign h rfl rfl ?_; clear h a; intro a h
   replace h : Ag a 22 [(4, _)] := h.sub (.cons rfl .nil)
   refine wnt ?_
   refine wp_ret ?_
   refine ret1 h Tryd.results17 rfl ?_
   exact ⟨_, rfl, by first | rw [if_pos c0] | rw [if_neg c0], rfl⟩
theorem number_ok (l : List UInt8) (most : Int) (w0 : World) : Rets Tryd.prog 27 #[S l, .int .i64 most] w0 fun v w' => v = .int .i64 (numberS l most) ∧ w0 = w' := by
 refine enter [(0, S l), (1, .int .i64 most)] Tryd.func27 rfl Tryd.ntmps27 rfl (.cons rfl (.cons rfl .nil)) ?_
 intro a h
 refine wp_seq ?_
 refine wR ?_
 refine st_assign h rfl rfl ?_; clear h a; intro a h
 replace h : Ag a 52 [(0, _), (1, _)] := h.sub (.cons rfl (.cons rfl .nil))
 refine wnt ?_
 refine wp_seq ?_
 refine wp_seq ?_
 refine region_bool (r := 19) (L' := [(0, _), (1, _)]) (l.length = 0 ∨ 2 < l.length ∨ ((l.getD 0 0).toNat : Int) = 48) h (.cons rfl (.cons rfl .nil)) ?_ ?_
 ·refine id ?_
  refine st_move h rfl rfl ?_; clear h a; intro a h
  refine st_len h rfl Tryd.underlying9 rfl ?_; clear h a; intro a h
  refine st_eq h rfl rfl rfl ?_; clear h a; intro a h
  refine st_move h rfl rfl ?_; clear h a; intro a h
  first | refine guard_dec (D := 10) h rfl ?_ ?_ | refine guard_ndec (D := 10) h rfl ?_ ?_ | refine guard_any (D := 10) h rfl ?_ ?_
  ·clear h; intro g0 h
   refine gd_no h rfl rfl rfl rfl rfl rfl rfl rfl ?_; clear h a; intro a h
   refine gd_no h rfl rfl rfl rfl rfl rfl rfl rfl ?_; clear h a; intro a h
   refine gd_no h rfl rfl rfl rfl rfl rfl rfl rfl ?_; clear h a; intro a h
   refine st_pick_t h rfl rfl rfl rfl ?_; clear h a; intro a h
   refine st_move h rfl rfl ?_; clear h a; intro a h
   refine gd_no h rfl rfl rfl rfl rfl rfl rfl rfl ?_; clear h a; intro a h
   refine gd_no h rfl rfl rfl rfl rfl rfl rfl rfl ?_; clear h a; intro a h
   refine gd_no h rfl rfl rfl rfl rfl rfl rfl rfl ?_; clear h a; intro a h
   refine st_pick_t h rfl rfl rfl rfl ?_; clear h a; intro a h
   exact wpList_nil (bool_end h rfl (by first | exact bt (by omega) | exact bf (by omega) | exact bi (by omega) | exact bn (by omega)) (.cons rfl (.cons rfl .nil)))
  ·clear h; intro g0 h
   refine gd_yes h rfl rfl rfl rfl rfl rfl ?_
   refine st_move h rfl rfl ?_; clear h a; intro a h
   refine gd_yes h rfl rfl rfl rfl rfl rfl ?_
   refine st_len h rfl Tryd.underlying9 rfl ?_; clear h a; intro a h
   refine gd_yes h rfl rfl rfl rfl rfl rfl ?_
   refine st_gt h rfl rfl rfl ?_; clear h a; intro a h
   refine st_pick_f h rfl rfl rfl rfl ?_; clear h a; intro a h
   refine st_move h rfl rfl ?_; clear h a; intro a h
   first | refine guard_dec (D := 15) h rfl ?_ ?_ | refine guard_ndec (D := 15) h rfl ?_ ?_ | refine guard_any (D := 15) h rfl ?_ ?_
   ·clear h; intro g1 h
    refine gd_no h rfl rfl rfl rfl rfl rfl rfl rfl ?_; clear h a; intro a h
    refine gd_no h rfl rfl rfl rfl rfl rfl rfl rfl ?_; clear h a; intro a h
    refine gd_no h rfl rfl rfl rfl rfl rfl rfl rfl ?_; clear h a; intro a h
    refine st_pick_t h rfl rfl rfl rfl ?_; clear h a; intro a h
    exact wpList_nil (bool_end h rfl (by first | exact bt (by omega) | exact bf (by omega) | exact bi (by omega) | exact bn (by omega)) (.cons rfl (.cons rfl .nil)))
   ·clear h; intro g1 h
    refine gd_yes h rfl rfl rfl rfl rfl rfl ?_
    refine st_move h rfl rfl ?_; clear h a; intro a h
    refine gd_yes h rfl rfl rfl rfl rfl rfl ?_
    refine st_index (p := 0) h rfl rfl Tryd.underlying9 (by omega) (by omega) rfl rfl ?_; clear h a; intro hy17 a h
    refine gd_yes h rfl rfl rfl rfl rfl rfl ?_
    refine st_eq h rfl rfl rfl ?_; clear h a; intro a h
    refine st_pick_f h rfl rfl rfl rfl ?_; clear h a; intro a h
    exact wpList_nil (bool_end h rfl (by first | exact bt (by omega) | exact bf (by omega) | exact bi (by omega) | exact bn (by omega)) (.cons rfl (.cons rfl .nil)))
 ·clear h a; intro a h
  refine (norm_then ?_)
  first | refine cond_dec h rfl (fun c0 => ?_) (fun c0 => ?_) | refine cond_ndec h rfl (fun c0 => ?_) (fun c0 => ?_) | refine cond_split h rfl (fun c0 => ?_) (fun c0 => ?_)
  ·refine id ?_
   refine wp_seq ?_
   refine wR ?_
   refine st_assign h rfl rfl ?_; clear h a; intro a h
   replace h : Ag a 52 [(4, _)] := h.sub (.cons rfl .nil)
   refine wnt ?_
   refine wp_ret (ret_then ?_)
   refine ret1 h Tryd.results27 rfl ?_
   exact ⟨_, rfl, by first | rw [numberS, if_pos c0] | rw [numberS, if_neg c0, if_pos (not_all_of l k (by omega) c2)] | rw [numberS, if_neg c0, if_neg (by rw [ha]; simp), if_pos c3] | rw [numberS, if_neg c0, if_neg (by rw [ha]; simp), if_neg c3], rfl⟩
  ·refine id ?_
   refine wsn ?_
   refine wp_seq ?_
   refine wR ?_
   refine st_assign h rfl rfl ?_; clear h a; intro a h
   replace h : Ag a 52 [(0, _), (1, _), (5, _)] := h.sub (.cons rfl (.cons rfl (.cons rfl .nil)))
   refine wnt ?_
   refine wp_seq ?_
   refine wp_seq ?_
   refine wR ?_
   refine st_assign h rfl rfl ?_; clear h a; intro a h
   refine wnt ?_
   refine wp_block ?_
   refine loop (ι := Nat) (fun k => [(0, S l), (1, .int .i64 most), (5, .int .i64 (valS (l.take k))), (6, .int .i64 (k : Int))]) (fun k w' => k ≤ l.length ∧ (l.take k).all isDig = true ∧ w' = w0) (fun k => l.length - k) 0 (h.sub (.cons rfl (.cons rfl (.cons rfl (.cons rfl .nil))))) ⟨by omega, rfl, rfl⟩ ?_
   clear h a
   rintro k w1 a h ⟨hk, ha, rfl⟩
   refine wp_seq ?_
   refine wp_seq ?_
   refine wR ?_
   refine st_move h rfl rfl ?_; clear h a; intro a h
   refine st_move h rfl rfl ?_; clear h a; intro a h
   refine st_len h rfl Tryd.underlying9 rfl ?_; clear h a; intro a h
   refine st_lt h rfl rfl rfl ?_; clear h a; intro a h
   replace h : Ag a 52 [(0, _), (1, _), (5, _), (6, _), (23, _)] := h.sub (.cons rfl (.cons rfl (.cons rfl (.cons rfl (.cons rfl .nil)))))
   refine wnt ?_
   first | refine cond_dec h rfl (fun c1 => ?_) (fun c1 => ?_) | refine cond_ndec h rfl (fun c1 => ?_) (fun c1 => ?_) | refine cond_split h rfl (fun c1 => ?_) (fun c1 => ?_)
   ·have hv := valS_two l k (by omega) ha
    refine wsn ?_
    refine wp_seq ?_
    refine wp_block ?_
    refine wp_seq ?_
    refine wp_seq ?_
    refine region_bool (r := 35) (L' := [(0, _), (1, _), (5, _), (6, _)]) (¬ (48 ≤ ((l.getD k 0).toNat : Int) ∧ ((l.getD k 0).toNat : Int) ≤ 57)) h (.cons rfl (.cons rfl (.cons rfl (.cons rfl .nil)))) ?_ ?_
    ·refine id ?_
     refine st_move h rfl rfl ?_; clear h a; intro a h
     refine st_move h rfl rfl ?_; clear h a; intro a h
     refine st_index (p := k) h rfl rfl Tryd.underlying9 (by omega) (by omega) (by omega) rfl ?_; clear h a; intro hy28 a h
     refine st_lt h rfl rfl rfl ?_; clear h a; intro a h
     refine st_move h rfl rfl ?_; clear h a; intro a h
     first | refine guard_dec (D := 30) h rfl ?_ ?_ | refine guard_ndec (D := 30) h rfl ?_ ?_ | refine guard_any (D := 30) h rfl ?_ ?_
     ·clear h; intro g2 h
      refine gd_no h rfl rfl rfl rfl rfl rfl rfl rfl ?_; clear h a; intro a h
      refine gd_no h rfl rfl rfl rfl rfl rfl rfl rfl ?_; clear h a; intro a h
      refine gd_no h rfl rfl rfl rfl rfl rfl rfl rfl ?_; clear h a; intro a h
      refine gd_no h rfl rfl rfl rfl rfl rfl rfl rfl ?_; clear h a; intro a h
      refine st_pick_t h rfl rfl rfl rfl ?_; clear h a; intro a h
      exact wpList_nil (bool_end h rfl (by first | exact bt (by omega) | exact bf (by omega) | exact bi (by omega) | exact bn (by omega)) (.cons rfl (.cons rfl (.cons rfl (.cons rfl .nil)))))
     ·clear h; intro g2 h
      refine gd_yes h rfl rfl rfl rfl rfl rfl ?_
      refine st_move h rfl rfl ?_; clear h a; intro a h
      refine gd_yes h rfl rfl rfl rfl rfl rfl ?_
      refine st_move h rfl rfl ?_; clear h a; intro a h
      refine gd_yes h rfl rfl rfl rfl rfl rfl ?_
      refine st_index (p := k) h rfl rfl Tryd.underlying9 (by omega) (by omega) (by omega) rfl ?_; clear h a; intro hy33 a h
      refine gd_yes h rfl rfl rfl rfl rfl rfl ?_
      refine st_gt h rfl rfl rfl ?_; clear h a; intro a h
      refine st_pick_f h rfl rfl rfl rfl ?_; clear h a; intro a h
      exact wpList_nil (bool_end h rfl (by first | exact bt (by omega) | exact bf (by omega) | exact bi (by omega) | exact bn (by omega)) (.cons rfl (.cons rfl (.cons rfl (.cons rfl .nil)))))
    ·clear h a; intro a h
     refine (norm_then ?_)
     first | refine cond_dec h rfl (fun c2 => ?_) (fun c2 => ?_) | refine cond_ndec h rfl (fun c2 => ?_) (fun c2 => ?_) | refine cond_split h rfl (fun c2 => ?_) (fun c2 => ?_)
     ·refine id ?_
      refine wp_seq ?_
      refine wR ?_
      refine st_assign h rfl rfl ?_; clear h a; intro a h
      replace h : Ag a 52 [(4, _)] := h.sub (.cons rfl .nil)
      refine wnt ?_
      refine wp_ret (ret_then (ret_blk (ret_then (ret_then (ret_blk (ret_then ?_))))))
      refine ret1 h Tryd.results27 rfl ?_
      exact ⟨_, rfl, by first | rw [numberS, if_pos c0] | rw [numberS, if_neg c0, if_pos (not_all_of l k (by omega) c2)] | rw [numberS, if_neg c0, if_neg (by rw [ha]; simp), if_pos c3] | rw [numberS, if_neg c0, if_neg (by rw [ha]; simp), if_neg c3], rfl⟩
     ·refine id ?_
      refine wsn ?_
      refine wR ?_
      refine st_move h rfl rfl ?_; clear h a; intro a h
      refine st_mul h rfl rfl (by first | exact IntWalk.i64_in _ (by omega) | rfl) rfl ?_; clear h a; intro a h
      refine st_move h rfl rfl ?_; clear h a; intro a h
      refine st_move h rfl rfl ?_; clear h a; intro a h
      refine st_index (p := k) h rfl rfl Tryd.underlying9 (by omega) (by omega) (by omega) rfl ?_; clear h a; intro hy40 a h
      refine st_sub h rfl rfl (by first | exact IntWalk.u8_in _ (by omega) | rfl) rfl ?_; clear h a; intro a h
      refine st_conv h rfl (by rw [Tryd.underlying5]; rfl) Tryd.underlying3 (by first | exact IntWalk.i64_in _ (by omega) | rfl) rfl ?_; clear h a; intro a h
      refine st_add h rfl rfl (by first | exact IntWalk.i64_in _ (by omega) | rfl) rfl ?_; clear h a; intro a h
      refine st_assign h rfl rfl ?_; clear h a; intro a h
      replace h : Ag a 52 [(0, _), (1, _), (5, _), (6, _)] := h.sub (.cons rfl (.cons rfl (.cons rfl (.cons rfl .nil))))
      refine wpList_nil (norm_blk (norm_then ?_))
      refine wR ?_
      refine st_move h rfl rfl ?_; clear h a; intro a h
      refine st_add h rfl rfl (by first | exact IntWalk.i64_in _ (by omega) | rfl) rfl ?_; clear h a; intro a h
      refine st_assign h rfl rfl ?_; clear h a; intro a h
      replace h : Ag a 52 [(0, _), (1, _), (5, _), (6, _)] := h.sub (.cons rfl (.cons rfl (.cons rfl (.cons rfl .nil))))
      refine wnt ?_
      exact ⟨k + 1, h.sub (.cons rfl (.cons rfl (.cons (by rw [take_snoc l k (by omega), valS_snoc, dstep]; rfl) (.cons rfl .nil)))), ⟨by omega, by rw [take_snoc l k (by omega)]; exact all_snoc _ _ ha ((isDig_iff _).2 (by omega)), rfl⟩, by omega⟩
   ·obtain rfl : k = l.length := by omega
    rw [List.take_length] at h ha
    have hv := valS_rng l ha
    refine wp_exit (exit_then (exit_then (exit_here (norm_then ?_))))
    refine wp_seq ?_
    refine wp_seq ?_
    refine region_bool (r := 50) (L' := [(5, _)]) (valS l < 2 ∨ most < valS l) h (.cons rfl .nil) ?_ ?_
    ·refine id ?_
     refine st_move h rfl rfl ?_; clear h a; intro a h
     refine st_lt h rfl rfl rfl ?_; clear h a; intro a h
     refine st_move h rfl rfl ?_; clear h a; intro a h
     first | refine guard_dec (D := 46) h rfl ?_ ?_ | refine guard_ndec (D := 46) h rfl ?_ ?_ | refine guard_any (D := 46) h rfl ?_ ?_
     ·clear h; intro g3 h
      refine gd_no h rfl rfl rfl rfl rfl rfl rfl rfl ?_; clear h a; intro a h
      refine gd_no h rfl rfl rfl rfl rfl rfl rfl rfl ?_; clear h a; intro a h
      refine gd_no h rfl rfl rfl rfl rfl rfl rfl rfl ?_; clear h a; intro a h
      refine st_pick_t h rfl rfl rfl rfl ?_; clear h a; intro a h
      exact wpList_nil (bool_end h rfl (by first | exact bt (by omega) | exact bf (by omega) | exact bi (by omega) | exact bn (by omega)) (.cons rfl .nil))
     ·clear h; intro g3 h
      refine gd_yes h rfl rfl rfl rfl rfl rfl ?_
      refine st_move h rfl rfl ?_; clear h a; intro a h
      refine gd_yes h rfl rfl rfl rfl rfl rfl ?_
      refine st_move h rfl rfl ?_; clear h a; intro a h
      refine gd_yes h rfl rfl rfl rfl rfl rfl ?_
      refine st_gt h rfl rfl rfl ?_; clear h a; intro a h
      refine st_pick_f h rfl rfl rfl rfl ?_; clear h a; intro a h
      exact wpList_nil (bool_end h rfl (by first | exact bt (by omega) | exact bf (by omega) | exact bi (by omega) | exact bn (by omega)) (.cons rfl .nil))
    ·clear h a; intro a h
     refine (norm_then ?_)
     first | refine cond_dec h rfl (fun c3 => ?_) (fun c3 => ?_) | refine cond_ndec h rfl (fun c3 => ?_) (fun c3 => ?_) | refine cond_split h rfl (fun c3 => ?_) (fun c3 => ?_)
     ·refine id ?_
      refine wp_seq ?_
      refine wR ?_
      refine st_assign h rfl rfl ?_; clear h a; intro a h
      replace h : Ag a 52 [(4, _)] := h.sub (.cons rfl .nil)
      refine wnt ?_
      refine wp_ret (ret_then ?_)
      refine ret1 h Tryd.results27 rfl ?_
      exact ⟨_, rfl, by first | rw [numberS, if_pos c0] | rw [numberS, if_neg c0, if_pos (not_all_of l k (by omega) c2)] | rw [numberS, if_neg c0, if_neg (by rw [ha]; simp), if_pos c3] | rw [numberS, if_neg c0, if_neg (by rw [ha]; simp), if_neg c3], rfl⟩
     ·refine id ?_
      refine wsn ?_
      refine wp_seq ?_
      refine wR ?_
      refine st_move h rfl rfl ?_; clear h a; intro a h
      refine st_assign h rfl rfl ?_; clear h a; intro a h
      replace h : Ag a 52 [(4, _)] := h.sub (.cons rfl .nil)
      refine wnt ?_
      refine wp_ret ?_
      refine ret1 h Tryd.results27 rfl ?_
      exact ⟨_, rfl, by first | rw [numberS, if_pos c0] | rw [numberS, if_neg c0, if_pos (not_all_of l k (by omega) c2)] | rw [numberS, if_neg c0, if_neg (by rw [ha]; simp), if_pos c3] | rw [numberS, if_neg c0, if_neg (by rw [ha]; simp), if_neg c3], rfl⟩
theorem count_ok (l : List UInt8) (most : Int) (w0 : World) (hl : l.length ≤ 9223372036854775807) : Rets Tryd.prog 53 #[S l, .int .i64 most] w0 fun v w' => v = .tuple #[.int .i64 (countS l most).1, .int .i64 (countS l most).2] ∧ w0 = w' := by
 refine enter [(0, S l), (1, .int .i64 most)] Tryd.func53 rfl Tryd.ntmps53 rfl (.cons rfl (.cons rfl .nil)) ?_
 intro a h
 refine wp_seq ?_
 refine wR ?_
 refine st_assign h rfl rfl ?_; clear h a; intro a h
 refine st_assign h rfl rfl ?_; clear h a; intro a h
 replace h : Ag a 53 [(0, _), (1, _)] := h.sub (.cons rfl (.cons rfl .nil))
 refine wnt ?_
 refine wp_seq ?_
 refine wR ?_
 refine st_assign h rfl rfl ?_; clear h a; intro a h
 refine st_assign h rfl rfl ?_; clear h a; intro a h
 refine wnt ?_
 refine wp_seq ?_
 refine wp_block ?_
 refine loop (ι := Nat) (fun k => [(0, S l), (1, .int .i64 most), (6, .int .i64 (capS (l.take k))), (7, .int .i64 (k : Int))]) (fun k w' => k ≤ l.length ∧ (l.take k).all isDig = true ∧ w' = w0) (fun k => l.length - k) 0 (h.sub (.cons rfl (.cons rfl (.cons rfl (.cons rfl .nil))))) ⟨by omega, rfl, rfl⟩ ?_
 clear h a
 rintro k w1 a h ⟨hk, ha, rfl⟩
 have hv := capS_rng _ ha
 refine wp_seq ?_
 refine wp_seq ?_
 refine region_bool (r := 23) (L' := [(0, _), (1, _), (6, _), (7, _)]) (k < l.length ∧ 48 ≤ ((l.getD k 0).toNat : Int) ∧ ((l.getD k 0).toNat : Int) ≤ 57) h (.cons rfl (.cons rfl (.cons rfl (.cons rfl .nil)))) ?_ ?_
 ·refine id ?_
  refine st_move h rfl rfl ?_; clear h a; intro a h
  refine st_move h rfl rfl ?_; clear h a; intro a h
  refine st_len h rfl Tryd.underlying9 rfl ?_; clear h a; intro a h
  refine st_lt h rfl rfl rfl ?_; clear h a; intro a h
  refine st_move h rfl rfl ?_; clear h a; intro a h
  first | refine guard_dec (D := 12) h rfl ?_ ?_ | refine guard_ndec (D := 12) h rfl ?_ ?_ | refine guard_any (D := 12) h rfl ?_ ?_
  ·clear h; intro g0 h
   refine gd_yes h rfl rfl rfl rfl rfl rfl ?_
   refine st_move h rfl rfl ?_; clear h a; intro a h
   refine gd_yes h rfl rfl rfl rfl rfl rfl ?_
   refine st_move h rfl rfl ?_; clear h a; intro a h
   refine gd_yes h rfl rfl rfl rfl rfl rfl ?_
   refine st_index (p := k) h rfl rfl Tryd.underlying9 (by omega) (by omega) (by omega) rfl ?_; clear h a; intro hy15 a h
   refine gd_yes h rfl rfl rfl rfl rfl rfl ?_
   refine st_le h rfl rfl rfl ?_; clear h a; intro a h
   refine st_pick_t h rfl rfl rfl rfl ?_; clear h a; intro a h
   refine st_move h rfl rfl ?_; clear h a; intro a h
   first | refine guard_dec (D := 18) h rfl ?_ ?_ | refine guard_ndec (D := 18) h rfl ?_ ?_ | refine guard_any (D := 18) h rfl ?_ ?_
   ·clear h; intro g1 h
    refine gd_yes h rfl rfl rfl rfl rfl rfl ?_
    refine st_move h rfl rfl ?_; clear h a; intro a h
    refine gd_yes h rfl rfl rfl rfl rfl rfl ?_
    refine st_move h rfl rfl ?_; clear h a; intro a h
    refine gd_yes h rfl rfl rfl rfl rfl rfl ?_
    refine st_index (p := k) h rfl rfl Tryd.underlying9 (by omega) (by omega) (by omega) rfl ?_; clear h a; intro hy21 a h
    refine gd_yes h rfl rfl rfl rfl rfl rfl ?_
    refine st_le h rfl rfl rfl ?_; clear h a; intro a h
    refine st_pick_t h rfl rfl rfl rfl ?_; clear h a; intro a h
    exact wpList_nil (bool_end h rfl (by first | exact bt (by omega) | exact bf (by omega) | exact bi (by omega) | exact bn (by omega)) (.cons rfl (.cons rfl (.cons rfl (.cons rfl .nil)))))
   ·clear h; intro g1 h
    refine gd_no h rfl rfl rfl rfl rfl rfl rfl rfl ?_; clear h a; intro a h
    refine gd_no h rfl rfl rfl rfl rfl rfl rfl rfl ?_; clear h a; intro a h
    refine gd_no h rfl rfl rfl rfl rfl rfl rfl rfl ?_; clear h a; intro a h
    refine gd_no h rfl rfl rfl rfl rfl rfl rfl rfl ?_; clear h a; intro a h
    refine st_pick_f h rfl rfl rfl rfl ?_; clear h a; intro a h
    exact wpList_nil (bool_end h rfl (by first | exact bt (by omega) | exact bf (by omega) | exact bi (by omega) | exact bn (by omega)) (.cons rfl (.cons rfl (.cons rfl (.cons rfl .nil)))))
  ·clear h; intro g0 h
   refine gd_no h rfl rfl rfl rfl rfl rfl rfl rfl ?_; clear h a; intro a h
   refine gd_no h rfl rfl rfl rfl rfl rfl rfl rfl ?_; clear h a; intro a h
   refine gd_no h rfl rfl rfl rfl rfl rfl rfl rfl ?_; clear h a; intro a h
   refine gd_no h rfl rfl rfl rfl rfl rfl rfl rfl ?_; clear h a; intro a h
   refine st_pick_f h rfl rfl rfl rfl ?_; clear h a; intro a h
   refine st_move h rfl rfl ?_; clear h a; intro a h
   refine gd_no h rfl rfl rfl rfl rfl rfl rfl rfl ?_; clear h a; intro a h
   refine gd_no h rfl rfl rfl rfl rfl rfl rfl rfl ?_; clear h a; intro a h
   refine gd_no h rfl rfl rfl rfl rfl rfl rfl rfl ?_; clear h a; intro a h
   refine gd_no h rfl rfl rfl rfl rfl rfl rfl rfl ?_; clear h a; intro a h
   refine st_pick_f h rfl rfl rfl rfl ?_; clear h a; intro a h
   exact wpList_nil (bool_end h rfl (by first | exact bt (by omega) | exact bf (by omega) | exact bi (by omega) | exact bn (by omega)) (.cons rfl (.cons rfl (.cons rfl (.cons rfl .nil)))))
 ·clear h a; intro a h
  refine (norm_then ?_)
  first | refine cond_dec h rfl (fun c0 => ?_) (fun c0 => ?_) | refine cond_ndec h rfl (fun c0 => ?_) (fun c0 => ?_) | refine cond_split h rfl (fun c0 => ?_) (fun c0 => ?_)
  ·refine id ?_
   refine wsn ?_
   refine wp_block ?_
   refine wp_seq ?_
   refine wR ?_
   refine st_move h rfl rfl ?_; clear h a; intro a h
   refine st_mul h rfl rfl (by first | exact IntWalk.i64_in _ (by omega) | rfl) rfl ?_; clear h a; intro a h
   refine st_move h rfl rfl ?_; clear h a; intro a h
   refine st_move h rfl rfl ?_; clear h a; intro a h
   refine st_index (p := k) h rfl rfl Tryd.underlying9 (by omega) (by omega) (by omega) rfl ?_; clear h a; intro hy28 a h
   refine st_sub h rfl rfl (by first | exact IntWalk.u8_in _ (by omega) | rfl) rfl ?_; clear h a; intro a h
   refine st_conv h rfl (by rw [Tryd.underlying5]; rfl) Tryd.underlying3 (by first | exact IntWalk.i64_in _ (by omega) | rfl) rfl ?_; clear h a; intro a h
   refine st_add h rfl rfl (by first | exact IntWalk.i64_in _ (by omega) | rfl) rfl ?_; clear h a; intro a h
   refine st_min h rfl rfl rfl ?_; clear h a; intro a h
   refine st_assign h rfl rfl ?_; clear h a; intro a h
   replace h : Ag a 53 [(0, _), (1, _), (6, _), (7, _)] := h.sub (.cons rfl (.cons rfl (.cons rfl (.cons rfl .nil))))
   refine wnt ?_
   refine wR ?_
   refine st_move h rfl rfl ?_; clear h a; intro a h
   refine st_add h rfl rfl (by first | exact IntWalk.i64_in _ (by omega) | rfl) rfl ?_; clear h a; intro a h
   refine st_assign h rfl rfl ?_; clear h a; intro a h
   replace h : Ag a 53 [(0, _), (1, _), (6, _), (7, _)] := h.sub (.cons rfl (.cons rfl (.cons rfl (.cons rfl .nil))))
   refine wpList_nil (norm_blk (norm_then ?_))
   exact ⟨k + 1, h.sub (.cons rfl (.cons rfl (.cons (by rw [take_snoc l k (by omega), capS_snoc, cstep]; rfl) (.cons rfl .nil)))), ⟨by omega, by rw [take_snoc l k (by omega)]; exact all_snoc _ _ ha ((isDig_iff _).2 (by omega)), rfl⟩, by omega⟩
  ·have hw := takeWhile_eq l k hk ha c0
   refine wp_exit (exit_then (exit_then (exit_here (norm_then ?_))))
   refine wp_seq ?_
   refine wp_seq ?_
   refine region_bool (r := 50) (L' := [(6, _), (7, _)]) (k = 0 ∨ ((l.getD 0 0).toNat : Int) = 48 ∨ capS (l.take k) < 2 ∨ most < capS (l.take k)) h (.cons rfl (.cons rfl .nil)) ?_ ?_
   ·refine id ?_
    refine st_move h rfl rfl ?_; clear h a; intro a h
    refine st_eq h rfl rfl rfl ?_; clear h a; intro a h
    refine st_move h rfl rfl ?_; clear h a; intro a h
    first | refine guard_dec (D := 37) h rfl ?_ ?_ | refine guard_ndec (D := 37) h rfl ?_ ?_ | refine guard_any (D := 37) h rfl ?_ ?_
    ·clear h; intro g2 h
     refine gd_no h rfl rfl rfl rfl rfl rfl rfl rfl ?_; clear h a; intro a h
     refine gd_no h rfl rfl rfl rfl rfl rfl rfl rfl ?_; clear h a; intro a h
     refine gd_no h rfl rfl rfl rfl rfl rfl rfl rfl ?_; clear h a; intro a h
     refine st_pick_t h rfl rfl rfl rfl ?_; clear h a; intro a h
     refine st_move h rfl rfl ?_; clear h a; intro a h
     refine gd_no h rfl rfl rfl rfl rfl rfl rfl rfl ?_; clear h a; intro a h
     refine gd_no h rfl rfl rfl rfl rfl rfl rfl rfl ?_; clear h a; intro a h
     refine st_pick_t h rfl rfl rfl rfl ?_; clear h a; intro a h
     refine st_move h rfl rfl ?_; clear h a; intro a h
     refine gd_no h rfl rfl rfl rfl rfl rfl rfl rfl ?_; clear h a; intro a h
     refine gd_no h rfl rfl rfl rfl rfl rfl rfl rfl ?_; clear h a; intro a h
     refine gd_no h rfl rfl rfl rfl rfl rfl rfl rfl ?_; clear h a; intro a h
     refine st_pick_t h rfl rfl rfl rfl ?_; clear h a; intro a h
     exact wpList_nil (bool_end h rfl (by first | exact bt (by omega) | exact bf (by omega) | exact bi (by omega) | exact bn (by omega)) (.cons rfl (.cons rfl .nil)))
    ·clear h; intro g2 h
     refine gd_yes h rfl rfl rfl rfl rfl rfl ?_
     refine st_move h rfl rfl ?_; clear h a; intro a h
     refine gd_yes h rfl rfl rfl rfl rfl rfl ?_
     refine st_index (p := 0) h rfl rfl Tryd.underlying9 (by omega) (by omega) rfl rfl ?_; clear h a; intro hy39 a h
     refine gd_yes h rfl rfl rfl rfl rfl rfl ?_
     refine st_eq h rfl rfl rfl ?_; clear h a; intro a h
     refine st_pick_f h rfl rfl rfl rfl ?_; clear h a; intro a h
     refine st_move h rfl rfl ?_; clear h a; intro a h
     first | refine guard_dec (D := 42) h rfl ?_ ?_ | refine guard_ndec (D := 42) h rfl ?_ ?_ | refine guard_any (D := 42) h rfl ?_ ?_
     ·clear h; intro g3 h
      refine gd_no h rfl rfl rfl rfl rfl rfl rfl rfl ?_; clear h a; intro a h
      refine gd_no h rfl rfl rfl rfl rfl rfl rfl rfl ?_; clear h a; intro a h
      refine st_pick_t h rfl rfl rfl rfl ?_; clear h a; intro a h
      refine st_move h rfl rfl ?_; clear h a; intro a h
      refine gd_no h rfl rfl rfl rfl rfl rfl rfl rfl ?_; clear h a; intro a h
      refine gd_no h rfl rfl rfl rfl rfl rfl rfl rfl ?_; clear h a; intro a h
      refine gd_no h rfl rfl rfl rfl rfl rfl rfl rfl ?_; clear h a; intro a h
      refine st_pick_t h rfl rfl rfl rfl ?_; clear h a; intro a h
      exact wpList_nil (bool_end h rfl (by first | exact bt (by omega) | exact bf (by omega) | exact bi (by omega) | exact bn (by omega)) (.cons rfl (.cons rfl .nil)))
     ·clear h; intro g3 h
      refine gd_yes h rfl rfl rfl rfl rfl rfl ?_
      refine st_move h rfl rfl ?_; clear h a; intro a h
      refine gd_yes h rfl rfl rfl rfl rfl rfl ?_
      refine st_lt h rfl rfl rfl ?_; clear h a; intro a h
      refine st_pick_f h rfl rfl rfl rfl ?_; clear h a; intro a h
      refine st_move h rfl rfl ?_; clear h a; intro a h
      first | refine guard_dec (D := 46) h rfl ?_ ?_ | refine guard_ndec (D := 46) h rfl ?_ ?_ | refine guard_any (D := 46) h rfl ?_ ?_
      ·clear h; intro g4 h
       refine gd_no h rfl rfl rfl rfl rfl rfl rfl rfl ?_; clear h a; intro a h
       refine gd_no h rfl rfl rfl rfl rfl rfl rfl rfl ?_; clear h a; intro a h
       refine gd_no h rfl rfl rfl rfl rfl rfl rfl rfl ?_; clear h a; intro a h
       refine st_pick_t h rfl rfl rfl rfl ?_; clear h a; intro a h
       exact wpList_nil (bool_end h rfl (by first | exact bt (by omega) | exact bf (by omega) | exact bi (by omega) | exact bn (by omega)) (.cons rfl (.cons rfl .nil)))
      ·clear h; intro g4 h
       refine gd_yes h rfl rfl rfl rfl rfl rfl ?_
       refine st_move h rfl rfl ?_; clear h a; intro a h
       refine gd_yes h rfl rfl rfl rfl rfl rfl ?_
       refine st_move h rfl rfl ?_; clear h a; intro a h
       refine gd_yes h rfl rfl rfl rfl rfl rfl ?_
       refine st_gt h rfl rfl rfl ?_; clear h a; intro a h
       refine st_pick_f h rfl rfl rfl rfl ?_; clear h a; intro a h
       exact wpList_nil (bool_end h rfl (by first | exact bt (by omega) | exact bf (by omega) | exact bi (by omega) | exact bn (by omega)) (.cons rfl (.cons rfl .nil)))
   ·clear h a; intro a h
    refine (norm_then ?_)
    first | refine cond_dec h rfl (fun c1 => ?_) (fun c1 => ?_) | refine cond_ndec h rfl (fun c1 => ?_) (fun c1 => ?_) | refine cond_split h rfl (fun c1 => ?_) (fun c1 => ?_)
    ·refine id ?_
     refine wp_seq ?_
     refine wR ?_
     refine st_assign h rfl rfl ?_; clear h a; intro a h
     refine st_assign h rfl rfl ?_; clear h a; intro a h
     replace h : Ag a 53 [(4, _), (5, _)] := h.sub (.cons rfl (.cons rfl .nil))
     refine wnt ?_
     refine wp_ret (ret_then ?_)
     refine ret2 h Tryd.results53 rfl rfl ?_
     exact ⟨_, rfl, by first | rw [count_bad hw hk c1] | rw [count_good hw hk c1], rfl⟩
    ·refine id ?_
     refine wsn ?_
     refine wp_seq ?_
     refine wR ?_
     refine st_move h rfl rfl ?_; clear h a; intro a h
     refine st_move h rfl rfl ?_; clear h a; intro a h
     refine st_assign h rfl rfl ?_; clear h a; intro a h
     refine st_assign h rfl rfl ?_; clear h a; intro a h
     replace h : Ag a 53 [(4, _), (5, _)] := h.sub (.cons rfl (.cons rfl .nil))
     refine wnt ?_
     refine wp_ret ?_
     refine ret2 h Tryd.results53 rfl rfl ?_
     exact ⟨_, rfl, by first | rw [count_bad hw hk c1] | rw [count_good hw hk c1], rfl⟩
theorem better_ok (l m : List UInt8) (w0 : World) : Rets Tryd.prog 56 #[S l, S m] w0 fun v w' => v = S (betterS l m) ∧ w0 = w' := by
 refine enter [(0, S l), (1, S m)] Tryd.func56 rfl Tryd.ntmps56 rfl (.cons rfl (.cons rfl .nil)) ?_
 intro a h
 refine wp_seq ?_
 refine wR ?_
 refine st_assign h rfl rfl ?_; clear h a; intro a h
 replace h : Ag a 32 [(0, _), (1, _)] := h.sub (.cons rfl (.cons rfl .nil))
 refine wnt ?_
 refine wp_seq ?_
 refine wp_seq ?_
 refine region_bool (r := 29) (L' := [(0, _), (1, _)]) (l = [] ∨ (m ≠ [] ∧ lessP m l)) h (.cons rfl (.cons rfl .nil)) ?_ ?_
 ·refine id ?_
  refine st_move h rfl rfl ?_; clear h a; intro a h
  refine st_eqs h rfl rfl rfl ?_; clear h a; intro a h
  refine st_move h rfl rfl ?_; clear h a; intro a h
  first | refine guard_dec (D := 7) h rfl ?_ ?_ | refine guard_ndec (D := 7) h rfl ?_ ?_ | refine guard_any (D := 7) h rfl ?_ ?_
  ·clear h; intro g0 h
   refine gd_no h rfl rfl rfl rfl rfl rfl rfl rfl ?_; clear h a; intro a h
   refine gd_no h rfl rfl rfl rfl rfl rfl rfl rfl ?_; clear h a; intro a h
   refine gd_no h rfl rfl rfl rfl rfl rfl rfl rfl ?_; clear h a; intro a h
   refine gd_skip h rfl rfl rfl rfl rfl rfl rfl ?_; clear h a; intro a h
   refine gd_skip h rfl rfl rfl rfl rfl rfl rfl ?_; clear h a; intro a h
   refine gd_skip h rfl rfl rfl rfl rfl rfl rfl ?_; clear h a; intro a h
   refine gd_skip h rfl rfl rfl rfl rfl rfl rfl ?_; clear h a; intro a h
   refine gd_skip h rfl rfl rfl rfl rfl rfl rfl ?_; clear h a; intro a h
   refine gd_skip h rfl rfl rfl rfl rfl rfl rfl ?_; clear h a; intro a h
   refine gd_skip h rfl rfl rfl rfl rfl rfl rfl ?_; clear h a; intro a h
   refine gd_skip h rfl rfl rfl rfl rfl rfl rfl ?_; clear h a; intro a h
   refine gd_skip h rfl rfl rfl rfl rfl rfl rfl ?_; clear h a; intro a h
   refine gd_skip h rfl rfl rfl rfl rfl rfl rfl ?_; clear h a; intro a h
   refine gd_skip h rfl rfl rfl rfl rfl rfl rfl ?_; clear h a; intro a h
   refine gd_skip h rfl rfl rfl rfl rfl rfl rfl ?_; clear h a; intro a h
   refine gd_skip h rfl rfl rfl rfl rfl rfl rfl ?_; clear h a; intro a h
   refine gd_skip h rfl rfl rfl rfl rfl rfl rfl ?_; clear h a; intro a h
   refine gd_skip h rfl rfl rfl rfl rfl rfl rfl ?_; clear h a; intro a h
   refine gd_skip h rfl rfl rfl rfl rfl rfl rfl ?_; clear h a; intro a h
   refine gd_skip h rfl rfl rfl rfl rfl rfl rfl ?_; clear h a; intro a h
   refine gd_no h rfl rfl rfl rfl rfl rfl rfl rfl ?_; clear h a; intro a h
   refine st_pick_t h rfl rfl rfl rfl ?_; clear h a; intro a h
   exact wpList_nil (bool_end h rfl (by first | exact bt (Or.inl ‹l = []›) | exact bf (by rintro (h | ⟨h, _⟩); exact absurd h ‹¬ l = []›; exact absurd h ‹¬ m ≠ []›) | exact bt (.inr ⟨‹m ≠ []›, .inl (by omega)⟩) | exact bf (by rintro (h | ⟨_, h | h⟩); exact absurd h ‹¬ l = []›; omega; omega) | exact bb ⟨fun e => .inr ⟨‹m ≠ []›, .inr ⟨by omega, e⟩⟩, by rintro (h | ⟨_, h | h⟩); exact absurd h ‹¬ l = []›; omega; exact h.2⟩) (.cons rfl (.cons rfl .nil)))
  ·clear h; intro g0 h
   refine gd_yes h rfl rfl rfl rfl rfl rfl ?_
   refine st_move h rfl rfl ?_; clear h a; intro a h
   refine gd_yes h rfl rfl rfl rfl rfl rfl ?_
   refine st_nes h rfl rfl rfl ?_; clear h a; intro a h
   refine gd_yes h rfl rfl rfl rfl rfl rfl ?_
   refine st_move h rfl rfl ?_; clear h a; intro a h
   first | refine guard_dec (D := 10) h rfl ?_ ?_ | refine guard_ndec (D := 10) h rfl ?_ ?_ | refine guard_any (D := 10) h rfl ?_ ?_
   ·clear h; intro g1 h
    refine gd_yes h rfl rfl rfl rfl rfl rfl ?_
    refine st_move h rfl rfl ?_; clear h a; intro a h
    refine gd_yes h rfl rfl rfl rfl rfl rfl ?_
    refine st_len h rfl Tryd.underlying9 rfl ?_; clear h a; intro a h
    refine gd_yes h rfl rfl rfl rfl rfl rfl ?_
    refine st_move h rfl rfl ?_; clear h a; intro a h
    refine gd_yes h rfl rfl rfl rfl rfl rfl ?_
    refine st_len h rfl Tryd.underlying9 rfl ?_; clear h a; intro a h
    refine gd_yes h rfl rfl rfl rfl rfl rfl ?_
    refine st_lt h rfl rfl rfl ?_; clear h a; intro a h
    refine gd_yes h rfl rfl rfl rfl rfl rfl ?_
    refine st_move h rfl rfl ?_; clear h a; intro a h
    first | refine guard_dec (D := 16) h rfl ?_ ?_ | refine guard_ndec (D := 16) h rfl ?_ ?_ | refine guard_any (D := 16) h rfl ?_ ?_
    ·clear h; intro g2 h
     refine gd_no h rfl rfl rfl rfl rfl rfl rfl rfl ?_; clear h a; intro a h
     refine gd_no h rfl rfl rfl rfl rfl rfl rfl rfl ?_; clear h a; intro a h
     refine gd_no h rfl rfl rfl rfl rfl rfl rfl rfl ?_; clear h a; intro a h
     refine gd_no h rfl rfl rfl rfl rfl rfl rfl rfl ?_; clear h a; intro a h
     refine gd_no h rfl rfl rfl rfl rfl rfl rfl rfl ?_; clear h a; intro a h
     refine gd_no h rfl rfl rfl rfl rfl rfl rfl rfl ?_; clear h a; intro a h
     refine gd_skip h rfl rfl rfl rfl rfl rfl rfl ?_; clear h a; intro a h
     refine gd_skip h rfl rfl rfl rfl rfl rfl rfl ?_; clear h a; intro a h
     refine gd_skip h rfl rfl rfl rfl rfl rfl rfl ?_; clear h a; intro a h
     refine gd_no h rfl rfl rfl rfl rfl rfl rfl rfl ?_; clear h a; intro a h
     refine gd_yes h rfl rfl rfl rfl rfl rfl ?_
     refine st_pick_t h rfl rfl rfl rfl ?_; clear h a; intro a h
     refine gd_yes h rfl rfl rfl rfl rfl rfl ?_
     refine st_pick_t h rfl rfl rfl rfl ?_; clear h a; intro a h
     refine st_pick_f h rfl rfl rfl rfl ?_; clear h a; intro a h
     exact wpList_nil (bool_end h rfl (by first | exact bt (Or.inl ‹l = []›) | exact bf (by rintro (h | ⟨h, _⟩); exact absurd h ‹¬ l = []›; exact absurd h ‹¬ m ≠ []›) | exact bt (.inr ⟨‹m ≠ []›, .inl (by omega)⟩) | exact bf (by rintro (h | ⟨_, h | h⟩); exact absurd h ‹¬ l = []›; omega; omega) | exact bb ⟨fun e => .inr ⟨‹m ≠ []›, .inr ⟨by omega, e⟩⟩, by rintro (h | ⟨_, h | h⟩); exact absurd h ‹¬ l = []›; omega; exact h.2⟩) (.cons rfl (.cons rfl .nil)))
    ·clear h; intro g2 h
     refine gd_yes h rfl rfl rfl rfl rfl rfl ?_
     refine st_move h rfl rfl ?_; clear h a; intro a h
     refine gd_yes h rfl rfl rfl rfl rfl rfl ?_
     refine st_len h rfl Tryd.underlying9 rfl ?_; clear h a; intro a h
     refine gd_yes h rfl rfl rfl rfl rfl rfl ?_
     refine st_move h rfl rfl ?_; clear h a; intro a h
     refine gd_yes h rfl rfl rfl rfl rfl rfl ?_
     refine st_len h rfl Tryd.underlying9 rfl ?_; clear h a; intro a h
     refine gd_yes h rfl rfl rfl rfl rfl rfl ?_
     refine st_eq h rfl rfl rfl ?_; clear h a; intro a h
     refine gd_yes h rfl rfl rfl rfl rfl rfl ?_
     refine st_move h rfl rfl ?_; clear h a; intro a h
     first | refine guard_dec (D := 22) h rfl ?_ ?_ | refine guard_ndec (D := 22) h rfl ?_ ?_ | refine guard_any (D := 22) h rfl ?_ ?_
     ·clear h; intro g3 h
      refine gd_yes h rfl rfl rfl rfl rfl rfl ?_
      refine st_move h rfl rfl ?_; clear h a; intro a h
      refine gd_yes h rfl rfl rfl rfl rfl rfl ?_
      refine st_move h rfl rfl ?_; clear h a; intro a h
      refine gd_yes h rfl rfl rfl rfl rfl rfl ?_
      refine st_lts h rfl rfl rfl ?_; clear h a; intro a h
      refine gd_yes h rfl rfl rfl rfl rfl rfl ?_
      refine st_pick_t h rfl rfl rfl rfl ?_; clear h a; intro a h
      refine gd_yes h rfl rfl rfl rfl rfl rfl ?_
      refine st_pick_f h rfl rfl rfl rfl ?_; clear h a; intro a h
      refine gd_yes h rfl rfl rfl rfl rfl rfl ?_
      refine st_pick_t h rfl rfl rfl rfl ?_; clear h a; intro a h
      refine st_pick_f h rfl rfl rfl rfl ?_; clear h a; intro a h
      exact wpList_nil (bool_end h rfl (by first | exact bt (Or.inl ‹l = []›) | exact bf (by rintro (h | ⟨h, _⟩); exact absurd h ‹¬ l = []›; exact absurd h ‹¬ m ≠ []›) | exact bt (.inr ⟨‹m ≠ []›, .inl (by omega)⟩) | exact bf (by rintro (h | ⟨_, h | h⟩); exact absurd h ‹¬ l = []›; omega; omega) | exact bb ⟨fun e => .inr ⟨‹m ≠ []›, .inr ⟨by omega, e⟩⟩, by rintro (h | ⟨_, h | h⟩); exact absurd h ‹¬ l = []›; omega; exact h.2⟩) (.cons rfl (.cons rfl .nil)))
     ·clear h; intro g3 h
      refine gd_no h rfl rfl rfl rfl rfl rfl rfl rfl ?_; clear h a; intro a h
      refine gd_no h rfl rfl rfl rfl rfl rfl rfl rfl ?_; clear h a; intro a h
      refine gd_no h rfl rfl rfl rfl rfl rfl rfl rfl ?_; clear h a; intro a h
      refine gd_yes h rfl rfl rfl rfl rfl rfl ?_
      refine st_pick_f h rfl rfl rfl rfl ?_; clear h a; intro a h
      refine gd_yes h rfl rfl rfl rfl rfl rfl ?_
      refine st_pick_f h rfl rfl rfl rfl ?_; clear h a; intro a h
      refine gd_yes h rfl rfl rfl rfl rfl rfl ?_
      refine st_pick_t h rfl rfl rfl rfl ?_; clear h a; intro a h
      refine st_pick_f h rfl rfl rfl rfl ?_; clear h a; intro a h
      exact wpList_nil (bool_end h rfl (by first | exact bt (Or.inl ‹l = []›) | exact bf (by rintro (h | ⟨h, _⟩); exact absurd h ‹¬ l = []›; exact absurd h ‹¬ m ≠ []›) | exact bt (.inr ⟨‹m ≠ []›, .inl (by omega)⟩) | exact bf (by rintro (h | ⟨_, h | h⟩); exact absurd h ‹¬ l = []›; omega; omega) | exact bb ⟨fun e => .inr ⟨‹m ≠ []›, .inr ⟨by omega, e⟩⟩, by rintro (h | ⟨_, h | h⟩); exact absurd h ‹¬ l = []›; omega; exact h.2⟩) (.cons rfl (.cons rfl .nil)))
   ·clear h; intro g1 h
    refine gd_no h rfl rfl rfl rfl rfl rfl rfl rfl ?_; clear h a; intro a h
    refine gd_no h rfl rfl rfl rfl rfl rfl rfl rfl ?_; clear h a; intro a h
    refine gd_no h rfl rfl rfl rfl rfl rfl rfl rfl ?_; clear h a; intro a h
    refine gd_no h rfl rfl rfl rfl rfl rfl rfl rfl ?_; clear h a; intro a h
    refine gd_no h rfl rfl rfl rfl rfl rfl rfl rfl ?_; clear h a; intro a h
    refine gd_no h rfl rfl rfl rfl rfl rfl rfl rfl ?_; clear h a; intro a h
    refine gd_skip h rfl rfl rfl rfl rfl rfl rfl ?_; clear h a; intro a h
    refine gd_skip h rfl rfl rfl rfl rfl rfl rfl ?_; clear h a; intro a h
    refine gd_skip h rfl rfl rfl rfl rfl rfl rfl ?_; clear h a; intro a h
    refine gd_skip h rfl rfl rfl rfl rfl rfl rfl ?_; clear h a; intro a h
    refine gd_skip h rfl rfl rfl rfl rfl rfl rfl ?_; clear h a; intro a h
    refine gd_skip h rfl rfl rfl rfl rfl rfl rfl ?_; clear h a; intro a h
    refine gd_skip h rfl rfl rfl rfl rfl rfl rfl ?_; clear h a; intro a h
    refine gd_skip h rfl rfl rfl rfl rfl rfl rfl ?_; clear h a; intro a h
    refine gd_skip h rfl rfl rfl rfl rfl rfl rfl ?_; clear h a; intro a h
    refine gd_skip h rfl rfl rfl rfl rfl rfl rfl ?_; clear h a; intro a h
    refine gd_no h rfl rfl rfl rfl rfl rfl rfl rfl ?_; clear h a; intro a h
    refine gd_yes h rfl rfl rfl rfl rfl rfl ?_
    refine st_pick_f h rfl rfl rfl rfl ?_; clear h a; intro a h
    refine st_pick_f h rfl rfl rfl rfl ?_; clear h a; intro a h
    exact wpList_nil (bool_end h rfl (by first | exact bt (Or.inl ‹l = []›) | exact bf (by rintro (h | ⟨h, _⟩); exact absurd h ‹¬ l = []›; exact absurd h ‹¬ m ≠ []›) | exact bt (.inr ⟨‹m ≠ []›, .inl (by omega)⟩) | exact bf (by rintro (h | ⟨_, h | h⟩); exact absurd h ‹¬ l = []›; omega; omega) | exact bb ⟨fun e => .inr ⟨‹m ≠ []›, .inr ⟨by omega, e⟩⟩, by rintro (h | ⟨_, h | h⟩); exact absurd h ‹¬ l = []›; omega; exact h.2⟩) (.cons rfl (.cons rfl .nil)))
 ·clear h a; intro a h
  refine (norm_then ?_)
  first | refine cond_dec h rfl (fun c0 => ?_) (fun c0 => ?_) | refine cond_ndec h rfl (fun c0 => ?_) (fun c0 => ?_) | refine cond_split h rfl (fun c0 => ?_) (fun c0 => ?_)
  ·refine id ?_
   refine wp_seq ?_
   refine wR ?_
   refine st_move h rfl rfl ?_; clear h a; intro a h
   refine st_assign h rfl rfl ?_; clear h a; intro a h
   replace h : Ag a 32 [(4, _)] := h.sub (.cons rfl .nil)
   refine wnt ?_
   refine wp_ret (ret_then ?_)
   refine ret1 h Tryd.results56 rfl ?_
   exact ⟨_, rfl, by first | rw [betterS, if_pos c0] | rw [betterS, if_neg c0], rfl⟩
  ·refine id ?_
   refine wsn ?_
   refine wp_seq ?_
   refine wR ?_
   refine st_move h rfl rfl ?_; clear h a; intro a h
   refine st_assign h rfl rfl ?_; clear h a; intro a h
   replace h : Ag a 32 [(4, _)] := h.sub (.cons rfl .nil)
   refine wnt ?_
   refine wp_ret ?_
   refine ret1 h Tryd.results56 rfl ?_
   exact ⟨_, rfl, by first | rw [betterS, if_pos c0] | rw [betterS, if_neg c0], rfl⟩
theorem cut_ok (A : Option Addr) (m c : Nat) (w0 : World) (hc : m ≤ c) : Rets Tryd.prog 50 #[.slice A m c] w0 fun v w' => v = .slice A (min m 17) c ∧ w0 = w' := by
 refine enter [(0, .slice A m c)] Tryd.func50 rfl Tryd.ntmps50 rfl (.cons rfl .nil) ?_
 intro a h
 refine wp_seq ?_
 refine wR ?_
 refine st_assign h rfl rfl ?_; clear h a; intro a h
 replace h : Ag a 8 [(0, _)] := h.sub (.cons rfl .nil)
 refine wnt ?_
 refine wp_seq ?_
 refine wR ?_
 refine st_move h rfl rfl ?_; clear h a; intro a h
 refine st_move h rfl rfl ?_; clear h a; intro a h
 refine st_lenS h rfl Tryd.underlying22 rfl ?_; clear h a; intro a h
 refine st_min h rfl rfl rfl ?_; clear h a; intro a h
 refine st_sl_h (p := min m 17) h rfl rfl el22 (by omega) (by omega) (by omega) rfl ?_; clear h a; intro a h
 refine st_assign h rfl rfl ?_; clear h a; intro a h
 replace h : Ag a 8 [(2, _)] := h.sub (.cons rfl .nil)
 refine wnt ?_
 refine wp_ret ?_
 refine ret1 h Tryd.results50 rfl ?_
 exact ⟨_, rfl, rfl, rfl⟩
theorem clip_ok (A : Option Addr) (m c : Nat) (w0 : World) (hc : m ≤ c) : Rets Tryd.prog 26 #[.slice A m c] w0 fun v w' => v = .slice A m m ∧ w0 = w' := by
 refine enter [(0, .slice A m c)] Tryd.func26 rfl Tryd.ntmps26 rfl (.cons rfl .nil) ?_
 intro a h
 refine wp_seq ?_
 refine wR ?_
 refine st_assign h rfl rfl ?_; clear h a; intro a h
 replace h : Ag a 9 [(0, _)] := h.sub (.cons rfl .nil)
 refine wnt ?_
 refine wp_seq ?_
 refine wR ?_
 refine st_move h rfl rfl ?_; clear h a; intro a h
 refine st_move h rfl rfl ?_; clear h a; intro a h
 refine st_lenS h rfl Tryd.underlying22 rfl ?_; clear h a; intro a h
 refine st_move h rfl rfl ?_; clear h a; intro a h
 refine st_lenS h rfl Tryd.underlying22 rfl ?_; clear h a; intro a h
 refine st_sl_hm h rfl rfl rfl el22 (by omega) (by omega) (by omega) rfl rfl rfl ?_; clear h a; intro a h
 refine st_assign h rfl rfl ?_; clear h a; intro a h
 replace h : Ag a 9 [(2, _)] := h.sub (.cons rfl .nil)
 refine wnt ?_
 refine wp_ret ?_
 refine ret1 h Tryd.results26 rfl ?_
 exact ⟨_, rfl, rfl, rfl⟩
end Go.Proofs.YtbbnampdgefljaaDoor
namespace Go.Proofs.YtbbnampdgefljaaDoor
open Go.Lw Go.G14
theorem eqv36 : EqOf Tryd.prog 36 stV := by
 intro e f ox oy w
 have hg : ∀ op, (eqGuard op 36 ox oy (stV e) (stV f)).run Tryd.prog w = .ok () w := fun op => run_eqGuard_agg w op 36 ox oy _ _ (by kernel_rfl)
 have h1 : Tryd.prog.stoodInHeld 36 = false := by kernel_rfl
 obtain ⟨k, y, a, b, c⟩ := e
 obtain ⟨k', y', a', b', c'⟩ := f
 refine ⟨hg _, hg _, ?_, ?_⟩
 ·unfold stV
  simp [go_sem, h1, Tryd.underlying36]
  (repeat' split) <;> simp_all
 ·unfold stV
  simp [go_sem, h1, Tryd.underlying36]
  (repeat' split) <;> simp_all
theorem equal_ok (u v : Value) (xs ys : List Stitch) (w0 : World) (hu : Sl encSt w0 u xs) (hv : Sl encSt w0 v ys) : Rets Tryd.prog 44 #[u, v] w0 fun r w' => r = .bool (decide (xs = ys)) ∧ Fr [] w0 w' := by
 obtain ⟨A, c, rfl, hc, hM, hA⟩ := hu
 obtain ⟨B, d, rfl, hd, hN, hB⟩ := hv
 unfold maxLen at hM hN
 refine enter [(0, .slice A xs.length c), (1, .slice B ys.length d)] Tryd.func44 rfl Tryd.ntmps44 rfl (.cons rfl (.cons rfl .nil)) ?_
 have hf := Fr.refl [] w0
 intro a h
 refine wp_seq ?_
 refine wR ?_
 refine st_assign h rfl rfl ?_; clear h a; intro a h
 replace h : Ag a 26 [(0, _), (1, _)] := h.sub (.cons rfl (.cons rfl .nil))
 refine wnt ?_
 refine wp_seq ?_
 refine wp_seq ?_
 refine wR ?_
 refine st_move h rfl rfl ?_; clear h a; intro a h
 refine st_lenS h rfl Tryd.underlying22 rfl ?_; clear h a; intro a h
 refine st_move h rfl rfl ?_; clear h a; intro a h
 refine st_lenS h rfl Tryd.underlying22 rfl ?_; clear h a; intro a h
 refine st_ne h rfl rfl rfl ?_; clear h a; intro a h
 replace h : Ag a 26 [(0, _), (1, _), (10, _)] := h.sub (.cons rfl (.cons rfl (.cons rfl .nil)))
 refine wnt ?_
 first | refine cond_dec h rfl (fun c0 => ?_) (fun c0 => ?_) | refine cond_ndec h rfl (fun c0 => ?_) (fun c0 => ?_) | refine cond_split h rfl (fun c0 => ?_) (fun c0 => ?_)
 ·refine id ?_
  refine wp_seq ?_
  refine wR ?_
  refine st_assign h rfl rfl ?_; clear h a; intro a h
  replace h : Ag a 26 [(4, _)] := h.sub (.cons rfl .nil)
  refine wnt ?_
  refine wp_ret (ret_then ?_)
  refine ret1 h Tryd.results44 rfl ?_
  exact ⟨_, rfl, by first | (rw [decide_eq_false]; intro e; subst e; omega) | (rw [decide_eq_false]; intro e; subst e; rw [hxk] at hyk; cases hyk; exact c2 rfl) | rw [decide_eq_true ht], hf⟩
 ·refine id ?_
  refine wsn ?_
  refine wp_seq ?_
  refine wp_seq ?_
  refine wR ?_
  refine st_move h rfl rfl ?_; clear h a; intro a h
  refine st_lenS h rfl Tryd.underlying22 rfl ?_; clear h a; intro a h
  refine st_move h rfl rfl ?_; clear h a; intro a h
  replace h : Ag a 26 [(0, _), (1, _), (12, _), (13, _)] := h.sub (.cons rfl (.cons rfl (.cons rfl (.cons rfl .nil))))
  refine wnt ?_
  refine wp_block ?_
  refine loop (ι := Nat) (fun k => [(0, .slice A xs.length c), (1, .slice B ys.length d), (12, .int .i64 (xs.length : Int)), (13, .int .i64 (k : Int))]) (fun k w' => k ≤ xs.length ∧ xs.take k = ys.take k ∧ Fr [] w0 w') (fun k => xs.length - k) 0 (h.sub (.cons rfl (.cons rfl (.cons rfl (.cons rfl .nil))))) ⟨by omega, by simp, hf⟩ ?_
  clear h a hf
  rintro k w1 a h ⟨hk, ht, hf⟩
  refine wp_seq ?_
  refine wR ?_
  refine st_lt h rfl rfl rfl ?_; clear h a; intro a h
  refine wnt ?_
  refine wp_seq ?_
  first | refine cond_dec h rfl (fun c1 => ?_) (fun c1 => ?_) | refine cond_ndec h rfl (fun c1 => ?_) (fun c1 => ?_) | refine cond_split h rfl (fun c1 => ?_) (fun c1 => ?_)
  ·obtain ⟨x, hxk⟩ : ∃ x, xs[k]? = some x := ⟨_, List.getElem?_eq_getElem (by omega)⟩
   obtain ⟨y, hyk⟩ : ∃ y, ys[k]? = some y := ⟨_, List.getElem?_eq_getElem (by omega)⟩
   obtain ⟨ad, rfl, ca⟩ := hA k x hxk
   obtain ⟨bd, rfl, cb⟩ := hB k y hyk
   refine wsn ?_
   refine wp_seq ?_
   refine wp_block ?_
   refine wp_seq ?_
   refine wR ?_
   refine st_move h rfl rfl ?_; clear h a; intro a h
   refine st_assign h rfl rfl ?_; clear h a; intro a h
   replace h : Ag a 26 [(0, _), (1, _), (5, _), (12, _), (13, _)] := h.sub (.cons rfl (.cons rfl (.cons rfl (.cons rfl (.cons rfl .nil)))))
   refine wnt ?_
   refine wp_seq ?_
   refine region_quiet hmix (by kernel_rfl) ?_
   refine qt_move h rfl rfl ?_; clear h a; intro a h
   refine qt_move h rfl rfl ?_; clear h a; intro a h
   refine qt_idx h rfl rfl rfl el22 (by omega) (by omega) rfl ?_; clear h a; intro a h
   refine qt_loadA h rfl (fun _ hw => (ca.fr hf (by simp)).fr hw (by simp)) ag36 rfl ?_; clear h a; intro a h
   refine qt_move h rfl rfl ?_; clear h a; intro a h
   refine qt_move h rfl rfl ?_; clear h a; intro a h
   refine qt_idx h rfl rfl rfl el22 (by omega) (by omega) rfl ?_; clear h a; intro a h
   refine qt_loadA h rfl (fun _ hw => (cb.fr hf (by simp)).fr hw (by simp)) ag36 rfl ?_; clear h a; intro a h
   refine qt_neV (e := x) (f := y) h rfl rfl eqv36 rfl ?_; clear h a; intro a h
   refine wpQuiet_nil ?_
   intro w2 hq
   replace hf := hf.next hq
   clear hq
   replace h : Ag a 26 [(0, _), (1, _), (12, _), (13, _), (24, _)] := h.sub (.cons rfl (.cons rfl (.cons rfl (.cons rfl (.cons rfl .nil)))))
   refine (norm_then ?_)
   first | refine cond_dec h rfl (fun c2 => ?_) (fun c2 => ?_) | refine cond_ndec h rfl (fun c2 => ?_) (fun c2 => ?_) | refine cond_split h rfl (fun c2 => ?_) (fun c2 => ?_)
   ·refine id ?_
    refine wp_seq ?_
    refine wR ?_
    refine st_assign h rfl rfl ?_; clear h a; intro a h
    replace h : Ag a 26 [(4, _)] := h.sub (.cons rfl .nil)
    refine wnt ?_
    refine wp_ret (ret_blk (ret_then (ret_then (ret_blk (ret_then ?_)))))
    refine ret1 h Tryd.results44 rfl ?_
    exact ⟨_, rfl, by first | (rw [decide_eq_false]; intro e; subst e; omega) | (rw [decide_eq_false]; intro e; subst e; rw [hxk] at hyk; cases hyk; exact c2 rfl) | rw [decide_eq_true ht], hf⟩
   ·refine id ?_
    refine wp_skip (norm_blk (norm_then ?_))
    refine wR ?_
    refine st_add h rfl rfl (by first | exact IntWalk.i64_in _ (by omega) | rfl) rfl ?_; clear h a; intro a h
    refine st_move h rfl rfl ?_; clear h a; intro a h
    replace h : Ag a 26 [(0, _), (1, _), (12, _), (13, _)] := h.sub (.cons rfl (.cons rfl (.cons rfl (.cons rfl .nil))))
    refine wnt ?_
    exact ⟨k + 1, h.sub (.cons rfl (.cons rfl (.cons rfl (.cons rfl .nil)))), ⟨by omega, by rw [List.take_add_one, List.take_add_one, ht, hxk, hyk, Decidable.not_not.1 c2], hf⟩, by omega⟩
  ·obtain rfl : k = xs.length := by omega
   rw [List.take_length, show xs.length = ys.length by omega, List.take_length] at ht
   refine wp_exit (exit_then (exit_then (exit_here (norm_then ?_))))
   refine wp_seq ?_
   refine wR ?_
   refine st_assign h rfl rfl ?_; clear h a; intro a h
   replace h : Ag a 26 [(4, _)] := h.sub (.cons rfl .nil)
   refine wnt ?_
   refine wp_ret ?_
   refine ret1 h Tryd.results44 rfl ?_
   exact ⟨_, rfl, by first | (rw [decide_eq_false]; intro e; subst e; omega) | (rw [decide_eq_false]; intro e; subst e; rw [hxk] at hyk; cases hyk; exact c2 rfl) | rw [decide_eq_true ht], hf⟩
theorem pref0_ok (l m : List UInt8) (w0 : World) : Rets Tryd.prog 63 #[S l, S m] w0 fun v w' => v = .bool (decide (m <+: l)) ∧ w0 = w' := by
 refine enter [(0, S l), (1, S m)] Tryd.func63 rfl Tryd.ntmps63 rfl (.cons rfl (.cons rfl .nil)) ?_
 intro a h
 refine wp_seq ?_
 refine wR ?_
 refine st_assign h rfl rfl ?_; clear h a; intro a h
 replace h : Ag a 18 [(0, _), (1, _)] := h.sub (.cons rfl (.cons rfl .nil))
 refine wnt ?_
 refine wp_seq ?_
 refine wR ?_
 refine st_move h rfl rfl ?_; clear h a; intro a h
 refine st_len h rfl Tryd.underlying9 rfl ?_; clear h a; intro a h
 refine st_move h rfl rfl ?_; clear h a; intro a h
 refine st_len h rfl Tryd.underlying9 rfl ?_; clear h a; intro a h
 refine st_ge h rfl rfl rfl ?_; clear h a; intro a h
 refine st_move h rfl rfl ?_; clear h a; intro a h
 first | refine guard_dec (D := 10) h rfl ?_ ?_ | refine guard_ndec (D := 10) h rfl ?_ ?_ | refine guard_any (D := 10) h rfl ?_ ?_
 ·clear h; intro g0 h
  refine gd_yes h rfl rfl rfl rfl rfl rfl ?_
  refine st_move h rfl rfl ?_; clear h a; intro a h
  refine gd_yes h rfl rfl rfl rfl rfl rfl ?_
  refine st_move h rfl rfl ?_; clear h a; intro a h
  refine gd_yes h rfl rfl rfl rfl rfl rfl ?_
  refine st_len h rfl Tryd.underlying9 rfl ?_; clear h a; intro a h
  refine gd_yes h rfl rfl rfl rfl rfl rfl ?_
  refine st_ss_h (p := m.length) h rfl rfl Tryd.underlying9 (by omega) (by omega) (by omega) rfl ?_; clear h a; intro a h
  refine gd_yes h rfl rfl rfl rfl rfl rfl ?_
  refine st_move h rfl rfl ?_; clear h a; intro a h
  refine gd_yes h rfl rfl rfl rfl rfl rfl ?_
  refine st_eqs h rfl rfl rfl ?_; clear h a; intro a h
  refine st_pick_t h rfl rfl rfl rfl ?_; clear h a; intro a h
  refine st_assign h rfl rfl ?_; clear h a; intro a h
  replace h : Ag a 18 [(4, _)] := h.sub (.cons rfl .nil)
  refine wnt ?_
  refine wp_ret ?_
  refine ret1 h Tryd.results63 rfl ?_
  exact ⟨_, rfl, by first | (congr 1; exact bi (by rw [List.prefix_iff_eq_take]; exact eq_comm)) | (congr 1; exact bf (fun e => by have := e.length_le; omega)), rfl⟩
 ·clear h; intro g0 h
  refine gd_no h rfl rfl rfl rfl rfl rfl rfl rfl ?_; clear h a; intro a h
  refine gd_no h rfl rfl rfl rfl rfl rfl rfl rfl ?_; clear h a; intro a h
  refine gd_no h rfl rfl rfl rfl rfl rfl rfl rfl ?_; clear h a; intro a h
  refine gd_no h rfl rfl rfl rfl rfl rfl rfl rfl ?_; clear h a; intro a h
  refine gd_no h rfl rfl rfl rfl rfl rfl rfl rfl ?_; clear h a; intro a h
  refine gd_no h rfl rfl rfl rfl rfl rfl rfl rfl ?_; clear h a; intro a h
  refine st_pick_f h rfl rfl rfl rfl ?_; clear h a; intro a h
  refine st_assign h rfl rfl ?_; clear h a; intro a h
  replace h : Ag a 18 [(4, _)] := h.sub (.cons rfl .nil)
  refine wnt ?_
  refine wp_ret ?_
  refine ret1 h Tryd.results63 rfl ?_
  exact ⟨_, rfl, by first | (congr 1; exact bi (by rw [List.prefix_iff_eq_take]; exact eq_comm)) | (congr 1; exact bf (fun e => by have := e.length_le; omega)), rfl⟩
theorem pref_ok (l m : List UInt8) (w0 : World) : Rets Tryd.prog 52 #[S l, S m] w0 fun v w' => v = .bool (decide (m <+: l)) ∧ w0 = w' := by
 refine enter [(0, S l), (1, S m)] Tryd.func52 rfl Tryd.ntmps52 rfl (.cons rfl (.cons rfl .nil)) ?_
 intro a h
 refine wp_seq ?_
 refine wR ?_
 refine st_assign h rfl rfl ?_; clear h a; intro a h
 replace h : Ag a 8 [(0, _), (1, _)] := h.sub (.cons rfl (.cons rfl .nil))
 refine wnt ?_
 refine wp_seq ?_
 refine wR ?_
 refine st_move h rfl rfl ?_; clear h a; intro a h
 refine st_move h rfl rfl ?_; clear h a; intro a h
 refine st_call h (evs_cons rfl (evs_cons rfl evs_nil)) co63 (pref0_ok _ _ _) rfl ?_; clear h a; rintro _ _ ⟨rfl, rfl⟩ a h
 refine st_assign h rfl rfl ?_; clear h a; intro a h
 replace h : Ag a 8 [(4, _)] := h.sub (.cons rfl .nil)
 refine wnt ?_
 refine wp_ret ?_
 refine ret1 h Tryd.results52 rfl ?_
 exact ⟨_, rfl, rfl, rfl⟩
theorem small_ok (n : Nat) (w0 : World) (hn : n < 100) : Rets Tryd.prog 81 #[.int .i64 (n : Int)] w0 fun v w' => v = S (itoaS n) ∧ w0 = w' := by
 refine enter [(0, .int .i64 (n : Int))] Tryd.func81 rfl Tryd.ntmps81 rfl (.cons rfl .nil) ?_
 intro a h
 refine wp_seq ?_
 refine wR ?_
 refine st_assign h rfl rfl ?_; clear h a; intro a h
 replace h : Ag a 15 [(0, _)] := h.sub (.cons rfl .nil)
 refine wnt ?_
 refine wp_seq ?_
 refine wp_seq ?_
 refine wR ?_
 refine st_move h rfl rfl ?_; clear h a; intro a h
 refine st_lt h rfl rfl rfl ?_; clear h a; intro a h
 replace h : Ag a 15 [(0, _), (4, _)] := h.sub (.cons rfl (.cons rfl .nil))
 refine wnt ?_
 first | refine cond_dec h rfl (fun c0 => ?_) (fun c0 => ?_) | refine cond_ndec h rfl (fun c0 => ?_) (fun c0 => ?_) | refine cond_split h rfl (fun c0 => ?_) (fun c0 => ?_)
 ·refine id ?_
  refine wp_seq ?_
  refine wR ?_
  refine st_move h rfl rfl ?_; clear h a; intro a h
  refine st_move h rfl rfl ?_; clear h a; intro a h
  refine st_add h rfl rfl (by first | exact IntWalk.i64_in _ (by omega) | rfl) rfl ?_; clear h a; intro a h
  refine st_ss_lh (p := n) (p' := n + 1) h rfl rfl rfl Tryd.underlying9 (by omega) (by omega) (by simp; omega) (by omega) (by omega) rfl ?_; clear h a; intro a h
  refine st_assign h rfl rfl ?_; clear h a; intro a h
  replace h : Ag a 15 [(2, _)] := h.sub (.cons rfl .nil)
  refine wnt ?_
  refine wp_ret (ret_then ?_)
  refine ret1 h Tryd.results81 rfl ?_
  refine ⟨_, rfl, ?_, rfl⟩
  clear h
  have e : n < 10 := by omega
  clear c0 hn; refine congrArg S ?_; revert n; decide +kernel
 ·refine id ?_
  refine wsn ?_
  refine wp_seq ?_
  refine wR ?_
  refine st_move h rfl rfl ?_; clear h a; intro a h
  refine st_mul h rfl rfl (by first | exact IntWalk.i64_in _ (by omega) | rfl) rfl ?_; clear h a; intro a h
  refine st_move h rfl rfl ?_; clear h a; intro a h
  refine st_mul h rfl rfl (by first | exact IntWalk.i64_in _ (by omega) | rfl) rfl ?_; clear h a; intro a h
  refine st_add h rfl rfl (by first | exact IntWalk.i64_in _ (by omega) | rfl) rfl ?_; clear h a; intro a h
  refine st_ss_lh (p := 2 * n) (p' := 2 * n + 2) h rfl rfl rfl Tryd.underlying9 (by omega) (by omega) (Int.le_trans (b := 200) (by omega) (by decide +kernel)) (by omega) (by omega) rfl ?_; clear h a; intro a h
  refine st_assign h rfl rfl ?_; clear h a; intro a h
  replace h : Ag a 15 [(2, _)] := h.sub (.cons rfl .nil)
  refine wnt ?_
  refine wp_ret ?_
  refine ret1 h Tryd.results81 rfl ?_
  refine ⟨_, rfl, ?_, rfl⟩
  clear h
  have e : 10 ≤ n := by omega
  clear c0; refine congrArg S ?_; revert n; decide +kernel
theorem formatInt_ok (n : Nat) (w0 : World) (hn : n < 100) : Rets Tryd.prog 73 #[.int .i64 (n : Int), .int .i64 10] w0 fun v w' => v = S (itoaS n) ∧ w0 = w' := by
 refine enter [(0, .int .i64 (n : Int)), (1, .int .i64 10)] Tryd.func73 rfl Tryd.ntmps73 rfl (.cons rfl (.cons rfl .nil)) ?_
 intro a h
 refine wp_seq ?_
 refine wR ?_
 refine st_assign h rfl rfl ?_; clear h a; intro a h
 replace h : Ag a 54 [(0, _), (1, _)] := h.sub (.cons rfl (.cons rfl .nil))
 refine wnt ?_
 refine wp_seq ?_
 refine wp_seq ?_
 refine wR ?_
 refine st_move h rfl rfl ?_; clear h a; intro a h
 refine st_eq h rfl rfl rfl ?_; clear h a; intro a h
 replace h : Ag a 54 [(0, _), (1, _), (11, _)] := h.sub (.cons rfl (.cons rfl (.cons rfl .nil)))
 refine wnt ?_
 first | refine cond_dec h rfl (fun c0 => ?_) (fun c0 => ?_) | refine cond_ndec h rfl (fun c0 => ?_) (fun c0 => ?_) | refine cond_split h rfl (fun c0 => ?_) (fun c0 => ?_)
 ·refine id ?_
  refine wp_seq ?_
  refine wp_seq ?_
  refine region_bool (r := 17) (L' := [(0, _)]) (True) h (.cons rfl .nil) ?_ ?_
  ·refine id ?_
   refine st_move h rfl rfl ?_; clear h a; intro a h
   refine st_le h rfl rfl rfl ?_; clear h a; intro a h
   refine st_move h rfl rfl ?_; clear h a; intro a h
   first | refine guard_dec (D := 14) h rfl ?_ ?_ | refine guard_ndec (D := 14) h rfl ?_ ?_ | refine guard_any (D := 14) h rfl ?_ ?_
   ·clear h; intro g0 h
    refine gd_yes h rfl rfl rfl rfl rfl rfl ?_
    refine st_move h rfl rfl ?_; clear h a; intro a h
    refine gd_yes h rfl rfl rfl rfl rfl rfl ?_
    refine st_lt h rfl rfl rfl ?_; clear h a; intro a h
    refine st_pick_t h rfl rfl rfl rfl ?_; clear h a; intro a h
    exact wpList_nil (bool_end h rfl (by first | exact bi (iff_true_intro (by omega)) | (exfalso; omega)) (.cons rfl .nil))
   ·clear h; intro g0 h
    refine gd_no h rfl rfl rfl rfl rfl rfl rfl rfl ?_; clear h a; intro a h
    refine gd_no h rfl rfl rfl rfl rfl rfl rfl rfl ?_; clear h a; intro a h
    refine st_pick_f h rfl rfl rfl rfl ?_; clear h a; intro a h
    exact wpList_nil (bool_end h rfl (by first | exact bi (iff_true_intro (by omega)) | (exfalso; omega)) (.cons rfl .nil))
  ·clear h a; intro a h
   refine (norm_then ?_)
   first | refine cond_dec h rfl (fun c1 => ?_) (fun c1 => ?_) | refine cond_ndec h rfl (fun c1 => ?_) (fun c1 => ?_) | refine cond_split h rfl (fun c1 => ?_) (fun c1 => ?_)
   ·refine id ?_
    refine wp_seq ?_
    refine wR ?_
    refine st_move h rfl rfl ?_; clear h a; intro a h
    refine st_call h (evs_cons rfl evs_nil) co81 (small_ok _ _ (by omega)) rfl ?_; clear h a; rintro _ _ ⟨rfl, rfl⟩ a h
    refine st_assign h rfl rfl ?_; clear h a; intro a h
    replace h : Ag a 54 [(4, _)] := h.sub (.cons rfl .nil)
    refine wnt ?_
    refine wp_ret (ret_then (ret_then ?_))
    refine ret1 h Tryd.results73 rfl ?_
    exact ⟨_, rfl, rfl, rfl⟩
   ·exact absurd trivial c1
 ·exact absurd rfl c0
theorem itoa0_ok (n : Nat) (w0 : World) (hn : n < 100) : Rets Tryd.prog 62 #[.int .i64 (n : Int)] w0 fun v w' => v = S (itoaS n) ∧ w0 = w' := by
 refine enter [(0, .int .i64 (n : Int))] Tryd.func62 rfl Tryd.ntmps62 rfl (.cons rfl .nil) ?_
 intro a h
 refine wp_seq ?_
 refine wR ?_
 refine st_assign h rfl rfl ?_; clear h a; intro a h
 replace h : Ag a 5 [(0, _)] := h.sub (.cons rfl .nil)
 refine wnt ?_
 refine wp_seq ?_
 refine wR ?_
 refine st_move h rfl rfl ?_; clear h a; intro a h
 refine st_call h (evs_cons rfl (evs_cons rfl evs_nil)) co73 (formatInt_ok _ _ (by omega)) rfl ?_; clear h a; rintro _ _ ⟨rfl, rfl⟩ a h
 refine st_assign h rfl rfl ?_; clear h a; intro a h
 replace h : Ag a 5 [(2, _)] := h.sub (.cons rfl .nil)
 refine wnt ?_
 refine wp_ret ?_
 refine ret1 h Tryd.results62 rfl ?_
 exact ⟨_, rfl, rfl, rfl⟩
theorem itoa_ok (n : Nat) (w0 : World) (hn : n < 100) : Rets Tryd.prog 46 #[.int .i64 (n : Int)] w0 fun v w' => v = S (itoaS n) ∧ w0 = w' := by
 refine enter [(0, .int .i64 (n : Int))] Tryd.func46 rfl Tryd.ntmps46 rfl (.cons rfl .nil) ?_
 intro a h
 refine wp_seq ?_
 refine wR ?_
 refine st_assign h rfl rfl ?_; clear h a; intro a h
 replace h : Ag a 5 [(0, _)] := h.sub (.cons rfl .nil)
 refine wnt ?_
 refine wp_seq ?_
 refine wR ?_
 refine st_move h rfl rfl ?_; clear h a; intro a h
 refine st_call h (evs_cons rfl evs_nil) co62 (itoa0_ok _ _ (by omega)) rfl ?_; clear h a; rintro _ _ ⟨rfl, rfl⟩ a h
 refine st_assign h rfl rfl ?_; clear h a; intro a h
 replace h : Ag a 5 [(2, _)] := h.sub (.cons rfl .nil)
 refine wnt ?_
 refine wp_ret ?_
 refine ret1 h Tryd.results46 rfl ?_
 exact ⟨_, rfl, rfl, rfl⟩
end Go.Proofs.YtbbnampdgefljaaDoor
namespace Go.Proofs.YtbbnampdgefljaaDoor
open Go.Lw Go.G14
theorem ne_rows {xs ys : List (List Stitch)} {i k : Nat} {x y : List Stitch} {s t : Stitch} (hx : xs[i]? = some x) (hy : ys[i]? = some y) (hs : x[k]? = some s) (ht : y[k]? = some t) (h : s ≠ t) : xs ≠ ys := take_ne hx hy (take_ne hs ht h)
set_option maxHeartbeats 1000000 in
theorem differ2_ok (u v : Value) (xs ys : List (List Stitch)) (w0 : World) (hu : Sl2 w0 u xs) (hv : Sl2 w0 v ys) : Rets Tryd.prog 22 #[.agg #[u], .agg #[v]] w0 fun r w' => r = .int .i64 (if xs = ys then 0 else 1) ∧ Fr [] w0 w' := by
 obtain ⟨hs, hsl, hl, hr⟩ := hu
 obtain ⟨gs, gsl, gl, gr⟩ := hv
 obtain ⟨A, c, rfl, hc, hM, hA⟩ := hsl
 obtain ⟨B, d, rfl, hd, hN, hB⟩ := gsl
 unfold maxLen at hM hN
 refine enter [(0, .agg #[.slice A hs.length c]), (1, .agg #[.slice B gs.length d])] Tryd.func22 rfl Tryd.ntmps22 rfl (.cons rfl (.cons rfl .nil)) ?_
 have hf := Fr.refl [] w0
 intro a h
 refine wp_seq ?_
 refine wR ?_
 refine st_box h rfl rfl rfl ?_; clear h a; intro w1 hb2 hq hz a h
 obtain ⟨g_2, hg⟩ : ∃ g, g = w0.heap.size := ⟨_, rfl⟩; rw [← hg] at hb2 h hz
 have hl2 : w0.heap.size ≤ g_2 := by have := hf.size; omega
 replace hf := hf.next hq
 clear hq hz hg
 refine st_box h rfl rfl rfl ?_; clear h a; intro w2 hb3 hq hz a h
 obtain ⟨g_3, hg⟩ : ∃ g, g = w1.heap.size := ⟨_, rfl⟩; rw [← hg] at hb3 h hz
 have hl3 : w0.heap.size ≤ g_3 := by have := hf.size; omega
 have hn_2_3 : g_2 < g_3 := by have := hb2.lt; omega
 replace hf := hf.next hq
 replace hb2 := hb2.ext hq
 clear hq hz hg
 refine st_assign h rfl rfl ?_; clear h a; intro a h
 replace h : Ag a 61 [(2, _), (3, _)] := h.sub (.cons rfl (.cons rfl .nil))
 refine wnt ?_
 refine wp_seq ?_
 refine wp_seq ?_
 refine wR ?_
 refine st_fieldAddr h rfl fa45_0 rfl ?_; clear h a; intro a h
 refine st_loadB h rfl hb2 rfl na43 rfl ?_; clear h a; intro a h
 refine st_lenS h rfl Tryd.underlying43 rfl ?_; clear h a; intro a h
 refine st_fieldAddr h rfl fa45_0 rfl ?_; clear h a; intro a h
 refine st_loadB h rfl hb3 rfl na43 rfl ?_; clear h a; intro a h
 refine st_lenS h rfl Tryd.underlying43 rfl ?_; clear h a; intro a h
 refine st_ne h rfl rfl rfl ?_; clear h a; intro a h
 replace h : Ag a 61 [(2, _), (3, _), (13, _)] := h.sub (.cons rfl (.cons rfl (.cons rfl .nil)))
 refine wnt ?_
 first | refine cond_dec h rfl (fun c0 => ?_) (fun c0 => ?_) | refine cond_ndec h rfl (fun c0 => ?_) (fun c0 => ?_) | refine cond_split h rfl (fun c0 => ?_) (fun c0 => ?_)
 ·refine id ?_
  refine wp_seq ?_
  refine wR ?_
  refine st_assign h rfl rfl ?_; clear h a; intro a h
  replace h : Ag a 61 [(4, _)] := h.sub (.cons rfl .nil)
  refine wnt ?_
  refine wp_ret (ret_then ?_)
  refine ret1 h Tryd.results22 rfl ?_
  exact ⟨_, rfl, by rw [if_neg (by rintro rfl; omega)], hf⟩
 ·refine id ?_
  refine wsn ?_
  refine wp_seq ?_
  refine wp_seq ?_
  refine wR ?_
  refine st_assign h rfl rfl ?_; clear h a; intro a h
  replace h : Ag a 61 [(2, _), (3, _), (5, _)] := h.sub (.cons rfl (.cons rfl (.cons rfl .nil)))
  refine wnt ?_
  refine wp_block ?_
  refine loop (ι := Nat) (fun i => [(2, .pointer (some ⟨g_2, 0, none⟩)), (3, .pointer (some ⟨g_3, 0, none⟩)), (5, .int .i64 (i : Int))]) (fun i w' => i ≤ hs.length ∧ xs.take i = ys.take i ∧ Blk w' g_2 45 [.slice A hs.length c] ∧ Blk w' g_3 45 [.slice B gs.length d] ∧ Fr [] w0 w') (fun i => hs.length - i) 0 (h.sub (.cons rfl (.cons rfl (.cons rfl .nil)))) ⟨by omega, by simp, hb2, hb3, hf⟩ ?_
  clear h a hf hb2 hb3
  rintro i w3 a h ⟨hi, ht, hb2, hb3, hf⟩
  refine wp_seq ?_
  refine wp_seq ?_
  refine wR ?_
  refine st_move h rfl rfl ?_; clear h a; intro a h
  refine st_fieldAddr h rfl fa45_0 rfl ?_; clear h a; intro a h
  refine st_loadB h rfl hb2 rfl na43 rfl ?_; clear h a; intro a h
  refine st_lenS h rfl Tryd.underlying43 rfl ?_; clear h a; intro a h
  refine st_lt h rfl rfl rfl ?_; clear h a; intro a h
  replace h : Ag a 61 [(2, _), (3, _), (5, _), (18, _)] := h.sub (.cons rfl (.cons rfl (.cons rfl (.cons rfl .nil))))
  refine wnt ?_
  first | refine cond_dec h rfl (fun c1 => ?_) (fun c1 => ?_) | refine cond_ndec h rfl (fun c1 => ?_) (fun c1 => ?_) | refine cond_split h rfl (fun c1 => ?_) (fun c1 => ?_)
  ·obtain ⟨p, hp⟩ : ∃ p, hs[i]? = some p := ⟨_, List.getElem?_eq_getElem (by omega)⟩
   obtain ⟨q, hq'⟩ : ∃ p, gs[i]? = some p := ⟨_, List.getElem?_eq_getElem (by omega)⟩
   obtain ⟨x, hx⟩ : ∃ x, xs[i]? = some x := ⟨_, List.getElem?_eq_getElem (by omega)⟩
   obtain ⟨y, hy⟩ : ∃ y, ys[i]? = some y := ⟨_, List.getElem?_eq_getElem (by omega)⟩
   obtain ⟨ad, rfl, ca⟩ := hA i p hp
   obtain ⟨bd, rfl, cb⟩ := hB i q hq'
   obtain ⟨pl, pc, pM, pA⟩ := Sl.open_ (hr i p x hp hx)
   obtain ⟨ql, qc, qM, qB⟩ := Sl.open_ (gr i q y hq' hy)
   unfold maxLen at pM qM
   refine wsn ?_
   refine wp_seq ?_
   refine wp_block ?_
   refine wp_seq ?_
   refine wp_seq ?_
   refine region_quiet hmix (by kernel_rfl) ?_
   refine qt_fieldAddr h rfl fa45_0 rfl ?_; clear h a; intro a h
   refine qt_loadB h rfl (fun _ hw => hb2.ext hw) rfl na43 rfl ?_; clear h a; intro a h
   refine qt_move h rfl rfl ?_; clear h a; intro a h
   refine qt_idxS h rfl rfl el43 (by omega) (by omega) rfl rfl ?_; clear h a; intro a h
   refine qt_loadC0 h rfl (fun _ hw => (ca.fr hf (by simp)).fr hw (by simp)) na22 rfl ?_; clear h a; intro a h
   refine qt_lenS h rfl Tryd.underlying22 rfl ?_; clear h a; intro a h
   refine qt_fieldAddr h rfl fa45_0 rfl ?_; clear h a; intro a h
   refine qt_loadB h rfl (fun _ hw => hb3.ext hw) rfl na43 rfl ?_; clear h a; intro a h
   refine qt_move h rfl rfl ?_; clear h a; intro a h
   refine qt_idxS h rfl rfl el43 (by omega) (by omega) rfl rfl ?_; clear h a; intro a h
   refine qt_loadC0 h rfl (fun _ hw => (cb.fr hf (by simp)).fr hw (by simp)) na22 rfl ?_; clear h a; intro a h
   refine qt_lenS h rfl Tryd.underlying22 rfl ?_; clear h a; intro a h
   refine qt_ne h rfl rfl rfl ?_; clear h a; intro a h
   refine wpQuiet_nil ?_
   intro w4 hq
   replace hf := hf.next hq
   replace hb2 := hb2.ext hq
   replace hb3 := hb3.ext hq
   clear hq
   replace h : Ag a 61 [(2, _), (3, _), (5, _), (33, _)] := h.sub (.cons rfl (.cons rfl (.cons rfl (.cons rfl .nil))))
   refine (norm_then ?_)
   first | refine cond_dec h rfl (fun c2 => ?_) (fun c2 => ?_) | refine cond_ndec h rfl (fun c2 => ?_) (fun c2 => ?_) | refine cond_split h rfl (fun c2 => ?_) (fun c2 => ?_)
   ·refine id ?_
    refine wp_seq ?_
    refine wR ?_
    refine st_assign h rfl rfl ?_; clear h a; intro a h
    replace h : Ag a 61 [(4, _)] := h.sub (.cons rfl .nil)
    refine wnt ?_
    refine wp_ret (ret_then (ret_blk (ret_then (ret_then (ret_blk (ret_then ?_))))))
    refine ret1 h Tryd.results22 rfl ?_
    exact ⟨_, rfl, by rw [if_neg (take_ne hx hy (by rintro rfl; omega))], hf⟩
   ·refine id ?_
    refine wsn ?_
    refine wp_seq ?_
    refine wR ?_
    refine st_assign h rfl rfl ?_; clear h a; intro a h
    replace h : Ag a 61 [(2, _), (3, _), (5, _), (6, _)] := h.sub (.cons rfl (.cons rfl (.cons rfl (.cons rfl .nil))))
    refine wnt ?_
    refine wp_block ?_
    refine loop (ι := Nat) (fun k => [(2, .pointer (some ⟨g_2, 0, none⟩)), (3, .pointer (some ⟨g_3, 0, none⟩)), (5, .int .i64 (i : Int)), (6, .int .i64 (k : Int))]) (fun k w' => k ≤ p.2.1 ∧ x.take k = y.take k ∧ Blk w' g_2 45 [.slice (some ad) hs.length c] ∧ Blk w' g_3 45 [.slice (some bd) gs.length d] ∧ Fr [] w0 w') (fun k => p.2.1 - k) 0 (h.sub (.cons rfl (.cons rfl (.cons rfl (.cons rfl .nil))))) ⟨by omega, by simp, hb2, hb3, hf⟩ ?_
    clear h a hf hb2 hb3
    rintro k w5 a h ⟨hk, hkt, hb2, hb3, hf⟩
    refine wp_seq ?_
    refine wp_seq ?_
    refine wR ?_
    refine st_move h rfl rfl ?_; clear h a; intro a h
    refine st_fieldAddr h rfl fa45_0 rfl ?_; clear h a; intro a h
    refine st_loadB h rfl hb2 rfl na43 rfl ?_; clear h a; intro a h
    refine st_move h rfl rfl ?_; clear h a; intro a h
    refine st_idxS h rfl rfl el43 (by omega) (by omega) rfl rfl ?_; clear h a; intro a h
    refine st_loadC0 h rfl (ca.fr hf (by simp)) na22 rfl ?_; clear h a; intro a h
    refine st_lenS h rfl Tryd.underlying22 rfl ?_; clear h a; intro a h
    refine st_lt h rfl rfl rfl ?_; clear h a; intro a h
    replace h : Ag a 61 [(2, _), (3, _), (5, _), (6, _), (41, _)] := h.sub (.cons rfl (.cons rfl (.cons rfl (.cons rfl (.cons rfl .nil)))))
    refine wnt ?_
    first | refine cond_dec h rfl (fun c3 => ?_) (fun c3 => ?_) | refine cond_ndec h rfl (fun c3 => ?_) (fun c3 => ?_) | refine cond_split h rfl (fun c3 => ?_) (fun c3 => ?_)
    ·obtain ⟨s, hs'⟩ : ∃ s, x[k]? = some s := ⟨_, List.getElem?_eq_getElem (by omega)⟩
     obtain ⟨t, ht'⟩ : ∃ t, y[k]? = some t := ⟨_, List.getElem?_eq_getElem (by omega)⟩
     obtain ⟨pa, hpa, cs⟩ := pA k s hs'
     obtain ⟨qa, hqa, ct⟩ := qB k t ht'
     refine wsn ?_
     refine wp_seq ?_
     refine wp_block ?_
     refine wp_seq ?_
     refine region_quiet hmix (by kernel_rfl) ?_
     refine qt_fieldAddr h rfl fa45_0 rfl ?_; clear h a; intro a h
     refine qt_loadB h rfl (fun _ hw => hb2.ext hw) rfl na43 rfl ?_; clear h a; intro a h
     refine qt_move h rfl rfl ?_; clear h a; intro a h
     refine qt_idxS h rfl rfl el43 (by omega) (by omega) rfl rfl ?_; clear h a; intro a h
     refine qt_loadC0 h rfl (fun _ hw => (ca.fr hf (by simp)).fr hw (by simp)) na22 rfl ?_; clear h a; intro a h
     refine qt_move h rfl rfl ?_; clear h a; intro a h
     refine qt_idx h rfl rfl hpa el22 (by omega) (by omega) rfl ?_; clear h a; intro a h
     refine qt_loadA h rfl (fun _ hw => (cs.fr hf (by simp)).fr hw (by simp)) ag36 rfl ?_; clear h a; intro a h
     refine qt_fieldAddr h rfl fa45_0 rfl ?_; clear h a; intro a h
     refine qt_loadB h rfl (fun _ hw => hb3.ext hw) rfl na43 rfl ?_; clear h a; intro a h
     refine qt_move h rfl rfl ?_; clear h a; intro a h
     refine qt_idxS h rfl rfl el43 (by omega) (by omega) rfl rfl ?_; clear h a; intro a h
     refine qt_loadC0 h rfl (fun _ hw => (cb.fr hf (by simp)).fr hw (by simp)) na22 rfl ?_; clear h a; intro a h
     refine qt_move h rfl rfl ?_; clear h a; intro a h
     refine qt_idx h rfl rfl hqa el22 (by omega) (by omega) rfl ?_; clear h a; intro a h
     refine qt_loadA h rfl (fun _ hw => (ct.fr hf (by simp)).fr hw (by simp)) ag36 rfl ?_; clear h a; intro a h
     refine qt_neV (e := s) (f := t) h rfl rfl eqv36 rfl ?_; clear h a; intro a h
     refine wpQuiet_nil ?_
     intro w6 hq
     replace hf := hf.next hq
     replace hb2 := hb2.ext hq
     replace hb3 := hb3.ext hq
     clear hq
     replace h : Ag a 61 [(2, _), (3, _), (5, _), (6, _), (60, _)] := h.sub (.cons rfl (.cons rfl (.cons rfl (.cons rfl (.cons rfl .nil)))))
     refine (norm_then ?_)
     first | refine cond_dec h rfl (fun c4 => ?_) (fun c4 => ?_) | refine cond_ndec h rfl (fun c4 => ?_) (fun c4 => ?_) | refine cond_split h rfl (fun c4 => ?_) (fun c4 => ?_)
     ·refine id ?_
      refine wp_seq ?_
      refine wR ?_
      refine st_assign h rfl rfl ?_; clear h a; intro a h
      replace h : Ag a 61 [(4, _)] := h.sub (.cons rfl .nil)
      refine wnt ?_
      refine wp_ret (ret_blk (ret_then (ret_then (ret_blk (ret_blk (ret_then (ret_then (ret_blk (ret_then ?_)))))))))
      refine ret1 h Tryd.results22 rfl ?_
      exact ⟨_, rfl, by rw [if_neg (ne_rows hx hy hs' ht' c4)], hf⟩
     ·refine id ?_
      refine wp_skip (norm_blk (norm_then ?_))
      refine wR ?_
      refine st_move h rfl rfl ?_; clear h a; intro a h
      refine st_add h rfl rfl (by first | exact IntWalk.i64_in _ (by omega) | rfl) rfl ?_; clear h a; intro a h
      refine st_assign h rfl rfl ?_; clear h a; intro a h
      replace h : Ag a 61 [(2, _), (3, _), (5, _), (6, _)] := h.sub (.cons rfl (.cons rfl (.cons rfl (.cons rfl .nil))))
      refine wnt ?_
      exact ⟨k + 1, h.sub (.cons rfl (.cons rfl (.cons rfl (.cons rfl .nil)))), ⟨by omega, by rw [List.take_add_one, List.take_add_one, hkt, hs', ht', Decidable.not_not.1 c4], hb2, hb3, hf⟩, by omega⟩
    ·have hxy : x = y := by
      have e : k = x.length := by omega
      rwa [e, List.take_length, show x.length = y.length by omega, List.take_length] at hkt
     refine wp_exit (exit_then (exit_then (exit_here (norm_blk (norm_then ?_)))))
     refine wR ?_
     refine st_move h rfl rfl ?_; clear h a; intro a h
     refine st_add h rfl rfl (by first | exact IntWalk.i64_in _ (by omega) | rfl) rfl ?_; clear h a; intro a h
     refine st_assign h rfl rfl ?_; clear h a; intro a h
     replace h : Ag a 61 [(2, _), (3, _), (5, _)] := h.sub (.cons rfl (.cons rfl (.cons rfl .nil)))
     refine wnt ?_
     exact ⟨i + 1, h.sub (.cons rfl (.cons rfl (.cons rfl .nil))), ⟨by omega, by rw [List.take_add_one, List.take_add_one, ht, hx, hy, hxy], hb2, hb3, hf⟩, by omega⟩
  ·obtain rfl : i = hs.length := by omega
   have hxy : xs = ys := by
    rwa [hl, List.take_length, show xs.length = ys.length by omega, List.take_length] at ht
   refine wp_exit (exit_then (exit_then (exit_here (norm_then ?_))))
   refine wp_seq ?_
   refine wR ?_
   refine st_assign h rfl rfl ?_; clear h a; intro a h
   replace h : Ag a 61 [(4, _)] := h.sub (.cons rfl .nil)
   refine wnt ?_
   refine wp_ret ?_
   refine ret1 h Tryd.results22 rfl ?_
   exact ⟨_, rfl, by rw [if_pos hxy], hf⟩
theorem repeats_ok (u : Value) (xs : List Stitch) (m : Nat) (w0 : World) (hu : Sl encSt w0 u xs) (hm : m ≤ xs.length) : Rets Tryd.prog 55 #[u, .int .i64 (m : Int)] w0 fun r w' => r = .bool (decide (xs.drop m = xs.take (xs.length - m))) ∧ Fr [] w0 w' := by
 have hu' := hu
 obtain ⟨A, c, rfl, hc, hM, hA⟩ := hu
 unfold maxLen at hM
 have ha := hu'.drop rfl hm (B := if c = m then A else A.map (·.add (m * encSt.sz))) (c' := c - m) (by omega) (by unfold maxLen; omega) (fun hlt => by rw [if_neg (by omega)])
 have hb := hu'.take rfl (m := xs.length - m) (by omega) (B := A) (c' := c) (by omega) (by unfold maxLen; omega) (fun _ => rfl)
 refine enter [(0, .slice A xs.length c), (1, .int .i64 (m : Int))] Tryd.func55 rfl Tryd.ntmps55 rfl (.cons rfl (.cons rfl .nil)) ?_
 have hf := Fr.refl [] w0
 intro a h
 refine wp_seq ?_
 refine wR ?_
 refine st_assign h rfl rfl ?_; clear h a; intro a h
 replace h : Ag a 15 [(0, _), (1, _)] := h.sub (.cons rfl (.cons rfl .nil))
 refine wnt ?_
 refine wp_seq ?_
 refine region_quiet hmix (by kernel_rfl) ?_
 refine qt_move h rfl rfl ?_; clear h a; intro a h
 refine qt_move h rfl rfl ?_; clear h a; intro a h
 refine qt_sl_l (p := m) h rfl rfl el22 (by omega) (by omega) (by omega) rfl ?_; clear h a; intro a h
 refine qt_move h rfl rfl ?_; clear h a; intro a h
 refine qt_move h rfl rfl ?_; clear h a; intro a h
 refine qt_lenS h rfl Tryd.underlying22 rfl ?_; clear h a; intro a h
 refine qt_move h rfl rfl ?_; clear h a; intro a h
 refine qt_sub h rfl rfl (by first | exact IntWalk.i64_in _ (by omega) | rfl) rfl ?_; clear h a; intro a h
 refine qt_sl_h (p := xs.length - m) h rfl rfl el22 (by omega) (by omega) (by omega) rfl ?_; clear h a; intro a h
 refine qt_call h (evs_cons rfl (evs_cons rfl evs_nil)) co44 (fun w hw => (equal_ok _ _ _ _ w (ha.ext hw) (hb.ext hw)).mono fun u w' ⟨e, f⟩ => ⟨e, hw.next f⟩) rfl ?_; clear h a; intro a h
 refine qt_assign h rfl rfl ?_; clear h a; intro a h
 refine wpQuiet_nil ?_
 intro w1 hq
 replace hf := hf.next hq
 clear hq
 replace h : Ag a 15 [(4, _)] := h.sub (.cons rfl .nil)
 refine (norm_then ?_)
 refine wp_ret ?_
 refine ret1 h Tryd.results55 rfl ?_
 exact ⟨_, rfl, rfl, hf⟩
theorem differ_ok (u v : Value) (xs ys : List Stitch) (w0 : World) (hu : Sl encSt w0 u xs) (hv : Sl encSt w0 v ys) : Rets Tryd.prog 13 #[u, v] w0 fun r w' => r = .int .i64 (if xs = ys then 0 else 1) ∧ Fr [] w0 w' := by
 obtain ⟨A, c, rfl, hc⟩ := hu.form
 obtain ⟨B, d, rfl, hd⟩ := hv.form
 refine enter [(0, .slice A xs.length c), (1, .slice B ys.length d)] Tryd.func13 rfl Tryd.ntmps13 rfl (.cons rfl (.cons rfl .nil)) ?_
 have hf := Fr.refl [] w0
 intro a h
 refine wp_seq ?_
 refine wR ?_
 refine st_assign h rfl rfl ?_; clear h a; intro a h
 replace h : Ag a 12 [(0, _), (1, _)] := h.sub (.cons rfl (.cons rfl .nil))
 refine wnt ?_
 refine wp_seq ?_
 refine wR ?_
 refine st_move h rfl rfl ?_; clear h a; intro a h
 refine st_bslice ([(A, xs.length, c)]) h (evs_cons rfl evs_nil) rfl rfl rfl el43 (Nat.le_of_ble_eq_true rfl) rfl ?_; clear h a; intro g_6 w1 hg ho6 hq hz a h
 have hl6 : w0.heap.size ≤ g_6 := by have := hf.size; omega
 replace hf := hf.next hq
 replace hu := hu.ext hq
 replace hv := hv.ext hq
 clear hq hz hg
 refine st_lit (cs := [_]) h (evs_cons rfl evs_nil) bo45 (pok_cons rfl rfl rfl pok_nil) rfl rfl ?_; clear h a; intro a h
 refine st_move h rfl rfl ?_; clear h a; intro a h
 refine st_bslice ([(B, ys.length, d)]) h (evs_cons rfl evs_nil) rfl rfl rfl el43 (Nat.le_of_ble_eq_true rfl) rfl ?_; clear h a; intro g_9 w2 hg ho9 hq hz a h
 have hl9 : w0.heap.size ≤ g_9 := by have := hf.size; omega
 replace hf := hf.next hq
 replace hu := hu.ext hq
 replace hv := hv.ext hq
 replace ho6 := ho6.ext hq
 clear hq hz hg
 refine st_lit (cs := [_]) h (evs_cons rfl evs_nil) bo45 (pok_cons rfl rfl rfl pok_nil) rfl rfl ?_; clear h a; intro a h
 refine st_call h (evs_cons rfl (evs_cons rfl evs_nil)) co22 (differ2_ok _ _ [xs] [ys] _ (sl2_one ho6.sl hu) (sl2_one ho9.sl hv)) rfl ?_; clear h a; rintro _ w3 ⟨rfl, hq⟩ a h
 replace hf := hf.next hq
 replace hu := hu.ext hq
 replace hv := hv.ext hq
 replace ho6 := ho6.ext hq
 replace ho9 := ho9.ext hq
 clear hq
 refine st_assign h rfl rfl ?_; clear h a; intro a h
 replace h : Ag a 12 [(4, _)] := h.sub (.cons rfl .nil)
 refine wnt ?_
 refine wp_ret ?_
 refine ret1 h Tryd.results13 rfl ?_
 exact ⟨_, rfl, by simp, hf⟩
end Go.Proofs.YtbbnampdgefljaaDoor
namespace Go.Proofs.YtbbnampdgefljaaDoor
open Go.Lw Go.G14
def P3 (g : Nat) : Value := .pointer (some ⟨g, 0, none⟩)
/-- What the two functions that read a row know of memory. -/
def EnvOk (l : List UInt8) (gs ga gr gi p : Nat) (w : World) : Prop :=
 Blk w gs 9 [S l] ∧ Blk w ga 3 [.int .i64 (p : Int)] ∧ Blk w gr 90 [.func (.func 49) #[] #[P3 gi, P3 ga, P3 gs]] ∧ Blk w gi 90 [.func (.func 51) #[] #[P3 ga, P3 gs, P3 gr]] ∧ Sym w
/-- What they return. -/
def RetOk (ga : Nat) (w0 : World) (r : Option (List Stitch × Nat)) (v : Value) (w' : World) : Prop :=
 ∃ (x : Value) (b : Bool), v = .tuple #[x, .bool b] ∧ Fr [ga] w0 w' ∧ (b = true → ∃ xs q, r = some (xs, q) ∧ Lw.Own encSt 36 w0.heap.size w' x xs ∧ Blk w' ga 3 [.int .i64 ((q : Nat) : Int)]) ∧ (b = false → r = none)
def ItemC (l : List UInt8) (gs ga gr gi F : Nat) : Prop := ∀ (p : Nat) (w0 : World), p ≤ l.length → 2 * (l.length - p) ≤ F → EnvOk l gs ga gr gi p w0 → Rets Tryd.prog 51 #[P3 ga, P3 gs, P3 gr] w0 (RetOk ga w0 (readS l F false p []))
def RowC (l : List UInt8) (gs ga gr gi F : Nat) : Prop := ∀ (p : Nat) (w0 : World), p ≤ l.length → 2 * (l.length - p) + 1 ≤ F → EnvOk l gs ga gr gi p w0 → Rets Tryd.prog 49 #[P3 gi, P3 ga, P3 gs] w0 (RetOk ga w0 (readS l F true p []))
set_option maxHeartbeats 1000000 in
theorem row_step (l : List UInt8) (gs ga gr gi F : Nat) (hl : l.length ≤ 1024) (o0 : 0 < gs) (o1 : gs < ga) (o2 : ga < gr) (o3 : gr < gi) (hi : ∀ m, m < F → ItemC l gs ga gr gi m) : RowC l gs ga gr gi F := by
 intro p w0 hp hF he
 obtain ⟨hbs, hba, hbr, hbi, hy⟩ := he
 have hgi := hbi.lt
 unfold P3 at *
 refine enter [(0, .pointer (some ⟨gi, 0, none⟩)), (1, .pointer (some ⟨ga, 0, none⟩)), (2, .pointer (some ⟨gs, 0, none⟩))] Tryd.func49 rfl Tryd.ntmps49 rfl (.cons rfl (.cons rfl (.cons rfl .nil))) ?_
 have hf := Fr.refl [ga] w0
 intro a h
 refine wp_seq ?_
 refine wR ?_
 refine st_assign h rfl rfl ?_; clear h a; intro a h
 refine st_assign h rfl rfl ?_; clear h a; intro a h
 replace h : Ag a 32 [(0, _), (1, _), (2, _)] := h.sub (.cons rfl (.cons rfl (.cons rfl .nil)))
 refine wnt ?_
 refine wp_seq ?_
 refine wR ?_
 refine st_assign h rfl rfl ?_; clear h a; intro a h
 refine wnt ?_
 refine wp_block ?_
 refine loop (ι := Nat × Nat × List Stitch × Value) (fun z => [(0, .pointer (some ⟨gi, 0, none⟩)), (1, .pointer (some ⟨ga, 0, none⟩)), (2, .pointer (some ⟨gs, 0, none⟩)), (5, z.2.2.2)]) (fun z w' => readS l F true p [] = readS l z.1 true z.2.1 z.2.2.1 ∧ z.2.1 ≤ l.length ∧ 2 * (l.length - z.2.1) + 1 ≤ z.1 ∧ z.1 ≤ F ∧ z.2.2.1.length ≤ 17 ∧ Lw.Own encSt 36 w0.heap.size w' z.2.2.2 z.2.2.1 ∧ EnvOk l gs ga gr gi z.2.1 w' ∧ Fr [ga] w0 w') (fun z => z.1) (F, p, [], .slice none 0 0) (h.sub (.cons rfl (.cons rfl (.cons rfl (.cons rfl .nil))))) ⟨rfl, hp, hF, Nat.le_refl _, by simp, Own.nil _, ⟨hbs, hba, hbr, hbi, hy⟩, hf⟩ ?_
 clear h a hf hbs hba hbr hbi hy
 rintro ⟨m', q, acc, x⟩ w1 a h ⟨hFe, hql, hm, hmF, hac, ho, ⟨hbs, hba, hbr, hbi, hy⟩, hf⟩
 simp only at hFe hql hm hmF hac ho hbs hba hbr hbi h
 obtain ⟨m, rfl⟩ : ∃ m, m' = m + 1 := ⟨m' - 1, by omega⟩
 unfold P3 at *
 refine wp_block ?_
 refine wp_seq ?_
 refine wR ?_
 refine st_loadB0 h rfl hbi na90 rfl ?_; clear h a; intro a h
 refine st_callv (us := []) (ws := [_, _, _]) h rfl evs_nil co51 (hi m (by omega) q w1 hql (by omega) ⟨hbs, hba, hbr, hbi, hy⟩) rfl (by intro g; simp) ?_; clear h a hba; rintro _ w2x ⟨x2, ok, rfl, hq, hyes, hno⟩ a h
 replace hf := hf.step hq (by simp)
 replace hbs := hbs.fr hq (by simp; omega)
 replace hbr := hbr.fr hq (by simp; omega)
 replace hbi := hbi.fr hq (by simp; omega)
 replace hy := hy.fr hq (by simp; omega)
 replace ho := ho.fr hq (by intro k hk hb; have := ho.blk k hb; simp at hk; omega)
 have hsz := hq.size
 clear hq
 refine st_move h rfl rfl ?_; clear h a; intro a h
 refine st_extract h rfl rfl rfl ?_; clear h a; intro a h
 refine st_extract h rfl rfl rfl ?_; clear h a; intro a h
 refine st_assign h rfl rfl ?_; clear h a; intro a h
 refine st_assign h rfl rfl ?_; clear h a; intro a h
 replace h : Ag a 32 [(0, _), (1, _), (2, _), (5, _), (6, _), (7, _)] := h.sub (.cons rfl (.cons rfl (.cons rfl (.cons rfl (.cons rfl (.cons rfl .nil))))))
 refine wnt ?_
 refine wp_seq ?_
 refine wp_seq ?_
 refine wR ?_
 refine st_move h rfl rfl ?_; clear h a; intro a h
 refine st_not h rfl rfl ?_; clear h a; intro a h
 replace h : Ag a 32 [(0, _), (1, _), (2, _), (5, _), (6, _), (14, _)] := h.sub (.cons rfl (.cons rfl (.cons rfl (.cons rfl (.cons rfl (.cons rfl .nil))))))
 refine wnt ?_
 first | refine cond_dec h rfl (fun c0 => ?_) (fun c0 => ?_) | refine cond_ndec h rfl (fun c0 => ?_) (fun c0 => ?_) | refine cond_split h rfl (fun c0 => ?_) (fun c0 => ?_)
 ·have hok : ok = false := by simpa using c0
  subst hok
  refine wp_seq ?_
  refine wR ?_
  refine st_assign h rfl rfl ?_; clear h a; intro a h
  refine st_assign h rfl rfl ?_; clear h a; intro a h
  replace h : Ag a 32 [(3, _), (4, _)] := h.sub (.cons rfl (.cons rfl .nil))
  refine wnt ?_
  refine wp_ret (ret_then (ret_blk (ret_then (ret_blk ?_))))
  refine ret2 h Tryd.results49 rfl rfl ?_
  exact ⟨_, rfl, _, false, rfl, hf, (fun e => by cases e), fun _ => by rw [hFe]; exact read_row_none (hno rfl)⟩
 ·have hok : ok = true := by simpa using c0
  subst hok
  obtain ⟨xs, q', hr, ho2, hba⟩ := hyes rfl
  obtain ⟨hq1, hq2, hxl⟩ := read_pos m false q [] xs q' hql hr
  clear hyes hno c0
  refine wsn ?_
  refine wp_seq ?_
  refine wR ?_
  refine st_move h rfl rfl ?_; clear h a; intro a h
  refine st_move h rfl rfl ?_; clear h a; intro a h
  refine st_append h rfl rfl ho ho2.sl el22 (by unfold maxLen; omega) (by omega) (by have := hf.size; omega) rfl ?_; clear h a; intro x3 w3x ho3 hq _ a h
  replace hbs := hbs.fr hq (fun hb => by have := ho.blk _ hb; omega)
  replace hba := hba.fr hq (fun hb => by have := ho.blk _ hb; omega)
  replace hbr := hbr.fr hq (fun hb => by have := ho.blk _ hb; omega)
  replace hbi := hbi.fr hq (fun hb => by have := ho.blk _ hb; omega)
  replace hy := hy.fr hq (fun hb => by have := ho.blk _ hb; omega)
  replace hf := hf.step hq (fun k hk hlt => by have := ho.blk k hk; omega)
  clear hq
  clear ho ho2
  obtain ⟨A3, cp3, rfl, hc3⟩ := ho3.sl.form
  refine st_call h (evs_cons rfl evs_nil) co50 (cut_ok _ _ _ _ hc3) rfl ?_; clear h a; rintro _ _ ⟨rfl, rfl⟩ a h
  replace ho3 := ho3.take rfl (m := min (acc ++ xs).length 17) (by omega) (Nat.le_refl _) (by omega)
  rw [take_min] at ho3
  refine st_assign h rfl rfl ?_; clear h a; intro a h
  replace h : Ag a 32 [(0, _), (1, _), (2, _), (5, _)] := h.sub (.cons rfl (.cons rfl (.cons rfl (.cons rfl .nil))))
  refine wnt ?_
  refine wp_seq ?_
  refine wp_seq ?_
  refine region_bool (r := 28) (L' := [(0, _), (1, _), (2, _), (5, _)]) (q' = l.length ∨ ((l.getD q' 0).toNat : Int) ≠ 32) h (.cons rfl (.cons rfl (.cons rfl (.cons rfl .nil)))) ?_ ?_
  ·refine id ?_
   refine st_loadB0 h rfl hba na3 rfl ?_; clear h a; intro a h
   refine st_loadB0 h rfl hbs na9 rfl ?_; clear h a; intro a h
   refine st_len h rfl Tryd.underlying9 rfl ?_; clear h a; intro a h
   refine st_eq h rfl rfl rfl ?_; clear h a; intro a h
   refine st_move h rfl rfl ?_; clear h a; intro a h
   first | refine guard_dec (D := 23) h rfl ?_ ?_ | refine guard_ndec (D := 23) h rfl ?_ ?_ | refine guard_any (D := 23) h rfl ?_ ?_
   ·clear h; intro g0 h
    refine gd_no h rfl rfl rfl rfl rfl rfl rfl rfl ?_; clear h a; intro a h
    refine gd_no h rfl rfl rfl rfl rfl rfl rfl rfl ?_; clear h a; intro a h
    refine gd_no h rfl rfl rfl rfl rfl rfl rfl rfl ?_; clear h a; intro a h
    refine gd_no h rfl rfl rfl rfl rfl rfl rfl rfl ?_; clear h a; intro a h
    refine st_pick_t h rfl rfl rfl rfl ?_; clear h a; intro a h
    exact wpList_nil (bool_end h rfl (by first | exact bt (by omega) | exact bf (by omega) | exact bi (by omega) | exact bn (by omega)) (.cons rfl (.cons rfl (.cons rfl (.cons rfl .nil)))))
   ·clear h; intro g0 h
    refine gd_yes h rfl rfl rfl rfl rfl rfl ?_
    refine st_loadB0 h rfl hbs na9 rfl ?_; clear h a; intro a h
    refine gd_yes h rfl rfl rfl rfl rfl rfl ?_
    refine st_loadB0 h rfl hba na3 rfl ?_; clear h a; intro a h
    refine gd_yes h rfl rfl rfl rfl rfl rfl ?_
    refine st_index (p := q') h rfl rfl Tryd.underlying9 (by omega) (by omega) (by omega) rfl ?_; clear h a; intro hy26 a h
    refine gd_yes h rfl rfl rfl rfl rfl rfl ?_
    refine st_ne h rfl rfl rfl ?_; clear h a; intro a h
    refine st_pick_f h rfl rfl rfl rfl ?_; clear h a; intro a h
    exact wpList_nil (bool_end h rfl (by first | exact bt (by omega) | exact bf (by omega) | exact bi (by omega) | exact bn (by omega)) (.cons rfl (.cons rfl (.cons rfl (.cons rfl .nil)))))
  ·clear h a; intro a h
   refine (norm_then ?_)
   first | refine cond_dec h rfl (fun c1 => ?_) (fun c1 => ?_) | refine cond_ndec h rfl (fun c1 => ?_) (fun c1 => ?_) | refine cond_split h rfl (fun c1 => ?_) (fun c1 => ?_)
   ·refine id ?_
    refine wp_seq ?_
    refine wR ?_
    refine st_move h rfl rfl ?_; clear h a; intro a h
    refine st_assign h rfl rfl ?_; clear h a; intro a h
    refine st_assign h rfl rfl ?_; clear h a; intro a h
    replace h : Ag a 32 [(3, _), (4, _)] := h.sub (.cons rfl (.cons rfl .nil))
    refine wnt ?_
    refine wp_ret (ret_then (ret_blk (ret_then (ret_blk ?_))))
    refine ret2 h Tryd.results49 rfl rfl ?_
    exact ⟨_, rfl, _, true, rfl, hf, fun _ => ⟨_, _, by rw [hFe]; exact read_row_end hr (or_byte (c := 32) c1), ho3, hba⟩, (fun e => by cases e)⟩
   ·refine id ?_
    refine wsn ?_
    refine wR ?_
    refine st_loadB0 h rfl hba na3 rfl ?_; clear h a; intro a h
    refine st_add h rfl rfl (by first | exact IntWalk.i64_in _ (by omega) | rfl) rfl ?_; clear h a; intro a h
    refine st_storeB0 h rfl rfl hba rfl rfl sz3 ?_; clear h a; intro w2 hbn hq hz a h
    replace hf := hf.step hq (by first | (simp; done) | (simp; omega))
    replace hbs := hbs.fr hq (by first | (simp; done) | (simp; omega) | (simp [blks]; done) | (simp [blks]; omega))
    replace hbr := hbr.fr hq (by first | (simp; done) | (simp; omega) | (simp [blks]; done) | (simp [blks]; omega))
    replace hbi := hbi.fr hq (by first | (simp; done) | (simp; omega) | (simp [blks]; done) | (simp [blks]; omega))
    replace hy := hy.fr hq (by first | (simp; done) | (simp; omega) | (simp [blks]; done) | (simp [blks]; omega))
    replace ho3 := ho3.fr hq (by intro k hk hb; have := ho3.blk k hb; simp at hk; omega)
    clear hba hq hz; have hba : Blk w2 ga _ [_] := hbn; clear hbn
    replace h : Ag a 32 [(0, _), (1, _), (2, _), (5, _)] := h.sub (.cons rfl (.cons rfl (.cons rfl (.cons rfl .nil))))
    refine wpList_nil (norm_blk (norm_then ?_))
    exact ⟨(m, q' + 1, (acc ++ xs).take 17, _), h.sub (.cons rfl (.cons rfl (.cons rfl (.cons rfl .nil)))), ⟨by rw [hFe]; exact read_row_next hr (nor_byte (c := 32) c1), by simp only; omega, by simp only; omega, by simp only; omega, by simp; omega, ho3, ⟨hbs, hba, hbr, hbi, hy⟩, hf⟩, by simp only; omega⟩
set_option maxHeartbeats 2000000 in
theorem item_step (l : List UInt8) (gs ga gr gi F : Nat) (hl : l.length ≤ 1024) (o0 : 0 < gs) (o1 : gs < ga) (o2 : ga < gr) (o3 : gr < gi) (hi : ∀ m, m < F → RowC l gs ga gr gi m) : ItemC l gs ga gr gi F := by
 intro p w0 hp hF he
 obtain ⟨hbs, hba, hbr, hbi, hy⟩ := he
 have hgi := hbi.lt
 unfold P3 at *
 refine enter [(0, .pointer (some ⟨ga, 0, none⟩)), (1, .pointer (some ⟨gs, 0, none⟩)), (2, .pointer (some ⟨gr, 0, none⟩))] Tryd.func51 rfl Tryd.ntmps51 rfl (.cons rfl (.cons rfl (.cons rfl .nil))) ?_
 have hf := Fr.refl [ga] w0
 intro a h
 refine wp_seq ?_
 refine wR ?_
 refine st_assign h rfl rfl ?_; clear h a; intro a h
 refine st_assign h rfl rfl ?_; clear h a; intro a h
 replace h : Ag a 94 [(0, _), (1, _), (2, _)] := h.sub (.cons rfl (.cons rfl (.cons rfl .nil)))
 refine wnt ?_
 refine wp_seq ?_
 refine wp_seq ?_
 refine region_bool (r := 22) (L' := [(0, _), (1, _), (2, _)]) (p = l.length ∨ ((l.getD p 0).toNat : Int) ≠ 91) h (.cons rfl (.cons rfl (.cons rfl .nil))) ?_ ?_
 ·refine id ?_
  refine st_loadB0 h rfl hba na3 rfl ?_; clear h a; intro a h
  refine st_loadB0 h rfl hbs na9 rfl ?_; clear h a; intro a h
  refine st_len h rfl Tryd.underlying9 rfl ?_; clear h a; intro a h
  refine st_eq h rfl rfl rfl ?_; clear h a; intro a h
  refine st_move h rfl rfl ?_; clear h a; intro a h
  first | refine guard_dec (D := 17) h rfl ?_ ?_ | refine guard_ndec (D := 17) h rfl ?_ ?_ | refine guard_any (D := 17) h rfl ?_ ?_
  ·clear h; intro g0 h
   refine gd_no h rfl rfl rfl rfl rfl rfl rfl rfl ?_; clear h a; intro a h
   refine gd_no h rfl rfl rfl rfl rfl rfl rfl rfl ?_; clear h a; intro a h
   refine gd_no h rfl rfl rfl rfl rfl rfl rfl rfl ?_; clear h a; intro a h
   refine gd_no h rfl rfl rfl rfl rfl rfl rfl rfl ?_; clear h a; intro a h
   refine st_pick_t h rfl rfl rfl rfl ?_; clear h a; intro a h
   exact wpList_nil (bool_end h rfl (by first | exact bt (by omega) | exact bf (by omega) | exact bi (by omega) | exact bn (by omega)) (.cons rfl (.cons rfl (.cons rfl .nil))))
  ·clear h; intro g0 h
   refine gd_yes h rfl rfl rfl rfl rfl rfl ?_
   refine st_loadB0 h rfl hbs na9 rfl ?_; clear h a; intro a h
   refine gd_yes h rfl rfl rfl rfl rfl rfl ?_
   refine st_loadB0 h rfl hba na3 rfl ?_; clear h a; intro a h
   refine gd_yes h rfl rfl rfl rfl rfl rfl ?_
   refine st_index (p := p) h rfl rfl Tryd.underlying9 (by omega) (by omega) (by omega) rfl ?_; clear h a; intro hy20 a h
   refine gd_yes h rfl rfl rfl rfl rfl rfl ?_
   refine st_ne h rfl rfl rfl ?_; clear h a; intro a h
   refine st_pick_f h rfl rfl rfl rfl ?_; clear h a; intro a h
   exact wpList_nil (bool_end h rfl (by first | exact bt (by omega) | exact bf (by omega) | exact bi (by omega) | exact bn (by omega)) (.cons rfl (.cons rfl (.cons rfl .nil))))
 ·clear h a; intro a h
  refine (norm_then ?_)
  first | refine cond_dec h rfl (fun c0 => ?_) (fun c0 => ?_) | refine cond_ndec h rfl (fun c0 => ?_) (fun c0 => ?_) | refine cond_split h rfl (fun c0 => ?_) (fun c0 => ?_)
  ·have c0' := or_byte (c := 91) c0
   refine wp_seq ?_
   refine wR ?_
   refine st_loadB0 h rfl hba na3 rfl ?_; clear h a; intro a h
   refine st_assign h rfl rfl ?_; clear h a; intro a h
   replace h : Ag a 94 [(0, _), (1, _), (5, _)] := h.sub (.cons rfl (.cons rfl (.cons rfl .nil)))
   refine wnt ?_
   refine wp_seq ?_
   refine wp_block ?_
   refine loop (ι := Nat) (fun k => [(0, .pointer (some ⟨ga, 0, none⟩)), (1, .pointer (some ⟨gs, 0, none⟩)), (5, .int .i64 (k : Int))]) (fun k w' => p ≤ k ∧ k ≤ l.length ∧ wordEnd l k = wordEnd l p ∧ EnvOk l gs ga gr gi p w' ∧ Fr [ga] w0 w') (fun k => l.length - k) p (h.sub (.cons rfl (.cons rfl (.cons rfl .nil)))) ⟨Nat.le_refl _, hp, rfl, ⟨hbs, hba, hbr, hbi, hy⟩, hf⟩ ?_
   clear h a hf hbs hba hbr hbi hy
   rintro k w1 a h ⟨hpk, hkl, hwe, ⟨hbs, hba, hbr, hbi, hy⟩, hf⟩
   unfold P3 at *
   refine wp_seq ?_
   refine wp_seq ?_
   refine region_bool (r := 39) (L' := [(0, _), (1, _), (5, _)]) (k < l.length ∧ ((l.getD k 0).toNat : Int) ≠ 32 ∧ ((l.getD k 0).toNat : Int) ≠ 93) h (.cons rfl (.cons rfl (.cons rfl .nil))) ?_ ?_
   ·refine id ?_
    refine st_move h rfl rfl ?_; clear h a; intro a h
    refine st_loadB0 h rfl hbs na9 rfl ?_; clear h a; intro a h
    refine st_len h rfl Tryd.underlying9 rfl ?_; clear h a; intro a h
    refine st_lt h rfl rfl rfl ?_; clear h a; intro a h
    refine st_move h rfl rfl ?_; clear h a; intro a h
    first | refine guard_dec (D := 28) h rfl ?_ ?_ | refine guard_ndec (D := 28) h rfl ?_ ?_ | refine guard_any (D := 28) h rfl ?_ ?_
    ·clear h; intro g1 h
     refine gd_yes h rfl rfl rfl rfl rfl rfl ?_
     refine st_loadB0 h rfl hbs na9 rfl ?_; clear h a; intro a h
     refine gd_yes h rfl rfl rfl rfl rfl rfl ?_
     refine st_move h rfl rfl ?_; clear h a; intro a h
     refine gd_yes h rfl rfl rfl rfl rfl rfl ?_
     refine st_index (p := k) h rfl rfl Tryd.underlying9 (by omega) (by omega) (by omega) rfl ?_; clear h a; intro hy31 a h
     refine gd_yes h rfl rfl rfl rfl rfl rfl ?_
     refine st_ne h rfl rfl rfl ?_; clear h a; intro a h
     refine st_pick_t h rfl rfl rfl rfl ?_; clear h a; intro a h
     refine st_move h rfl rfl ?_; clear h a; intro a h
     first | refine guard_dec (D := 34) h rfl ?_ ?_ | refine guard_ndec (D := 34) h rfl ?_ ?_ | refine guard_any (D := 34) h rfl ?_ ?_
     ·clear h; intro g2 h
      refine gd_yes h rfl rfl rfl rfl rfl rfl ?_
      refine st_loadB0 h rfl hbs na9 rfl ?_; clear h a; intro a h
      refine gd_yes h rfl rfl rfl rfl rfl rfl ?_
      refine st_move h rfl rfl ?_; clear h a; intro a h
      refine gd_yes h rfl rfl rfl rfl rfl rfl ?_
      refine st_index (p := k) h rfl rfl Tryd.underlying9 (by omega) (by omega) (by omega) rfl ?_; clear h a; intro hy37 a h
      refine gd_yes h rfl rfl rfl rfl rfl rfl ?_
      refine st_ne h rfl rfl rfl ?_; clear h a; intro a h
      refine st_pick_t h rfl rfl rfl rfl ?_; clear h a; intro a h
      exact wpList_nil (bool_end h rfl (by first | exact bt (by omega) | exact bf (by omega) | exact bi (by omega) | exact bn (by omega)) (.cons rfl (.cons rfl (.cons rfl .nil))))
     ·clear h; intro g2 h
      refine gd_no h rfl rfl rfl rfl rfl rfl rfl rfl ?_; clear h a; intro a h
      refine gd_no h rfl rfl rfl rfl rfl rfl rfl rfl ?_; clear h a; intro a h
      refine gd_no h rfl rfl rfl rfl rfl rfl rfl rfl ?_; clear h a; intro a h
      refine gd_no h rfl rfl rfl rfl rfl rfl rfl rfl ?_; clear h a; intro a h
      refine st_pick_f h rfl rfl rfl rfl ?_; clear h a; intro a h
      exact wpList_nil (bool_end h rfl (by first | exact bt (by omega) | exact bf (by omega) | exact bi (by omega) | exact bn (by omega)) (.cons rfl (.cons rfl (.cons rfl .nil))))
    ·clear h; intro g1 h
     refine gd_no h rfl rfl rfl rfl rfl rfl rfl rfl ?_; clear h a; intro a h
     refine gd_no h rfl rfl rfl rfl rfl rfl rfl rfl ?_; clear h a; intro a h
     refine gd_no h rfl rfl rfl rfl rfl rfl rfl rfl ?_; clear h a; intro a h
     refine gd_no h rfl rfl rfl rfl rfl rfl rfl rfl ?_; clear h a; intro a h
     refine st_pick_f h rfl rfl rfl rfl ?_; clear h a; intro a h
     refine st_move h rfl rfl ?_; clear h a; intro a h
     refine gd_no h rfl rfl rfl rfl rfl rfl rfl rfl ?_; clear h a; intro a h
     refine gd_no h rfl rfl rfl rfl rfl rfl rfl rfl ?_; clear h a; intro a h
     refine gd_no h rfl rfl rfl rfl rfl rfl rfl rfl ?_; clear h a; intro a h
     refine gd_no h rfl rfl rfl rfl rfl rfl rfl rfl ?_; clear h a; intro a h
     refine st_pick_f h rfl rfl rfl rfl ?_; clear h a; intro a h
     exact wpList_nil (bool_end h rfl (by first | exact bt (by omega) | exact bf (by omega) | exact bi (by omega) | exact bn (by omega)) (.cons rfl (.cons rfl (.cons rfl .nil))))
   ·clear h a; intro a h
    refine (norm_then ?_)
    first | refine cond_dec h rfl (fun c1 => ?_) (fun c1 => ?_) | refine cond_ndec h rfl (fun c1 => ?_) (fun c1 => ?_) | refine cond_split h rfl (fun c1 => ?_) (fun c1 => ?_)
    ·have c1' : k < l.length ∧ l.getD k 0 ≠ 32 ∧ l.getD k 0 ≠ 93 := ⟨c1.1, fun e => c1.2.1 (by rw [e]; rfl), fun e => c1.2.2 (by rw [e]; rfl)⟩
     refine wsn ?_
     refine wp_block ?_
     refine wR ?_
     refine st_move h rfl rfl ?_; clear h a; intro a h
     refine st_add h rfl rfl (by first | exact IntWalk.i64_in _ (by omega) | rfl) rfl ?_; clear h a; intro a h
     refine st_assign h rfl rfl ?_; clear h a; intro a h
     replace h : Ag a 94 [(0, _), (1, _), (5, _)] := h.sub (.cons rfl (.cons rfl (.cons rfl .nil)))
     refine wpList_nil (norm_blk (norm_then ?_))
     exact ⟨k + 1, h.sub (.cons rfl (.cons rfl (.cons rfl .nil))), ⟨by omega, by omega, by rw [← hwe, wordEnd_next c1'], ⟨hbs, hba, hbr, hbi, hy⟩, hf⟩, by omega⟩
    ·have hke : k = wordEnd l p := by
      rw [← hwe]; exact (wordEnd_here (fun e => c1 ⟨e.1, fun h => e.2.1 (byte_eq.1 h), fun h => e.2.2 (byte_eq.1 h)⟩)).symm
     refine wp_exit (exit_then (exit_then (exit_here (norm_then ?_))))
     refine wp_seq ?_
     refine wR ?_
     refine st_loadB0 h rfl hbs na9 rfl ?_; clear h a; intro a h
     refine st_loadB0 h rfl hba na3 rfl ?_; clear h a; intro a h
     refine st_move h rfl rfl ?_; clear h a; intro a h
     refine st_ss_lh (p := p) (p' := k) h rfl rfl rfl Tryd.underlying9 (by omega) (by omega) (by omega) (by omega) (by omega) rfl ?_; clear h a; intro a h
     refine st_call h (evs_cons rfl evs_nil) co28 (parse_ok _ _ hy) rfl ?_; clear h a; rintro _ w2 ⟨rfl, hq⟩ a h
     replace hf := hf.next hq
     replace hbs := hbs.ext hq
     replace hba := hba.ext hq
     replace hbr := hbr.ext hq
     replace hbi := hbi.ext hq
     replace hy := hy.ext hq
     clear hq
     refine st_move h rfl rfl ?_; clear h a; intro a h
     refine st_extract h rfl rfl rfl ?_; clear h a; intro a h
     refine st_extract h rfl rfl rfl ?_; clear h a; intro a h
     refine st_alloc h zv36 rfl rfl ?_; clear h a; intro w3 hb6 hq hz a h
     obtain ⟨g_6, hg⟩ : ∃ g, g = w2.heap.size := ⟨_, rfl⟩; rw [← hg] at hb6 h hz
     have hl6 : w0.heap.size ≤ g_6 := by have := hf.size; omega
     have hn__6 : gs < g_6 := by have := hbs.lt; omega
     have hn__6 : ga < g_6 := by have := hba.lt; omega
     have hn__6 : gr < g_6 := by have := hbr.lt; omega
     have hn__6 : gi < g_6 := by have := hbi.lt; omega
     replace hf := hf.next hq
     replace hbs := hbs.ext hq
     replace hba := hba.ext hq
     replace hbr := hbr.ext hq
     replace hbi := hbi.ext hq
     replace hy := hy.ext hq
     clear hq hz hg
     refine st_storeBA h rfl rfl hb6 rfl (by first | (simp [Value.oneCell', S]; done) | exact Enc.one _ _) sz36 ?_; clear h a; intro w4 hbn hq hz a h
     replace hf := hf.step hq (by first | (simp; done) | (simp; omega))
     replace hbs := hbs.fr hq (by first | (simp; done) | (simp; omega) | (simp [blks]; done) | (simp [blks]; omega))
     replace hba := hba.fr hq (by first | (simp; done) | (simp; omega) | (simp [blks]; done) | (simp [blks]; omega))
     replace hbr := hbr.fr hq (by first | (simp; done) | (simp; omega) | (simp [blks]; done) | (simp [blks]; omega))
     replace hbi := hbi.fr hq (by first | (simp; done) | (simp; omega) | (simp [blks]; done) | (simp [blks]; omega))
     replace hy := hy.fr hq (by first | (simp; done) | (simp; omega) | (simp [blks]; done) | (simp [blks]; omega))
     clear hb6 hq hz; have hb6 : Blk w4 g_6 _ [_, _, _, _, _] := hbn; clear hbn
     refine st_assign h rfl rfl ?_; clear h a; intro a h
     replace h : Ag a 94 [(0, _), (5, _), (6, _), (7, _)] := h.sub (.cons rfl (.cons rfl (.cons rfl (.cons rfl .nil))))
     refine wnt ?_
     refine wp_seq ?_
     refine wR ?_
     refine st_move h rfl rfl ?_; clear h a; intro a h
     refine st_storeB0 h rfl rfl hba rfl rfl sz3 ?_; clear h a; intro w5 hbn hq hz a h
     replace hf := hf.step hq (by first | (simp; done) | (simp; omega))
     replace hbs := hbs.fr hq (by first | (simp; done) | (simp; omega) | (simp [blks]; done) | (simp [blks]; omega))
     replace hbr := hbr.fr hq (by first | (simp; done) | (simp; omega) | (simp [blks]; done) | (simp [blks]; omega))
     replace hbi := hbi.fr hq (by first | (simp; done) | (simp; omega) | (simp [blks]; done) | (simp [blks]; omega))
     replace hy := hy.fr hq (by first | (simp; done) | (simp; omega) | (simp [blks]; done) | (simp [blks]; omega))
     replace hb6 := hb6.fr hq (by first | (simp; done) | (simp; omega) | (simp [blks]; done) | (simp [blks]; omega))
     clear hba hq hz; have hba : Blk w5 ga _ [_] := hbn; clear hbn
     replace h : Ag a 94 [(6, _), (7, _)] := h.sub (.cons rfl (.cons rfl .nil))
     refine wnt ?_
     refine wp_seq ?_
     refine wR ?_
     refine st_loadBA h rfl hb6 ag36 rfl ?_; clear h a; intro a h
     refine st_bslice ([(parseS ((l.take k).drop p)).1]) h (evs_cons rfl evs_nil) rfl rfl rfl el22 (Nat.le_of_ble_eq_true rfl) rfl ?_; clear h a; intro g_52 w6 hg ho52 hq hz a h
     have hn__52 : gs < g_52 := by have := hbs.lt; omega
     have hn__52 : ga < g_52 := by have := hba.lt; omega
     have hn__52 : gr < g_52 := by have := hbr.lt; omega
     have hn__52 : gi < g_52 := by have := hbi.lt; omega
     have hn_6_52 : g_6 < g_52 := by have := hb6.lt; omega
     have hl52 : w0.heap.size ≤ g_52 := by have := hf.size; omega
     replace hf := hf.next hq
     replace hbs := hbs.ext hq
     replace hba := hba.ext hq
     replace hbr := hbr.ext hq
     replace hbi := hbi.ext hq
     replace hy := hy.ext hq
     replace hb6 := hb6.ext hq
     clear hq hz hg
     refine st_move h rfl rfl ?_; clear h a; intro a h
     refine st_eq h rfl rfl rfl ?_; clear h a; intro a h
     refine st_assign h rfl rfl ?_; clear h a; intro a h
     refine st_assign h rfl rfl ?_; clear h a; intro a h
     replace h : Ag a 94 [(3, _), (4, _)] := h.sub (.cons rfl (.cons rfl .nil))
     refine wnt ?_
     refine wp_ret (ret_then ?_)
     refine ret2 h Tryd.results51 rfl rfl ?_
     refine ⟨_, rfl, _, _, rfl, hf, fun e => ⟨_, _, ?_, ho52.low (by omega), hba⟩, fun e => ?_⟩
     ·rw [read_leaf c0']; exact leaf_some hke (of_decide_eq_true e)
     ·rw [read_leaf c0']; exact leaf_none hke (of_decide_eq_false e)
  ·have c0' := nor_byte (c := 91) c0
   have hpl : p < l.length := by omega
   obtain ⟨m, rfl⟩ : ∃ m, F = m + 1 := ⟨F - 1, by omega⟩
   refine wsn ?_
   refine wp_seq ?_
   refine wR ?_
   refine st_loadB0 h rfl hba na3 rfl ?_; clear h a; intro a h
   refine st_add h rfl rfl (by first | exact IntWalk.i64_in _ (by omega) | rfl) rfl ?_; clear h a; intro a h
   refine st_storeB0 h rfl rfl hba rfl rfl sz3 ?_; clear h a; intro w7 hbn hq hz a h
   replace hf := hf.step hq (by first | (simp; done) | (simp; omega))
   replace hbs := hbs.fr hq (by first | (simp; done) | (simp; omega) | (simp [blks]; done) | (simp [blks]; omega))
   replace hbr := hbr.fr hq (by first | (simp; done) | (simp; omega) | (simp [blks]; done) | (simp [blks]; omega))
   replace hbi := hbi.fr hq (by first | (simp; done) | (simp; omega) | (simp [blks]; done) | (simp [blks]; omega))
   replace hy := hy.fr hq (by first | (simp; done) | (simp; omega) | (simp [blks]; done) | (simp [blks]; omega))
   clear hba hq hz; have hba : Blk w7 ga _ [_] := hbn; clear hbn
   replace h : Ag a 94 [(0, _), (1, _), (2, _)] := h.sub (.cons rfl (.cons rfl (.cons rfl .nil)))
   refine wnt ?_
   refine wp_seq ?_
   refine wR ?_
   refine st_loadB0 h rfl hbr na90 rfl ?_; clear h a; intro a h
   refine st_callv (us := []) (ws := [_, _, _]) h rfl evs_nil co49 (hi m (by omega) (p + 1) w7 (by omega) (by omega) ⟨hbs, hba, hbr, hbi, hy⟩) rfl (by intro g; simp) ?_; clear h a hba; rintro _ w2x ⟨x2, ok, rfl, hq, hyes, hno⟩ a h
   have hfs := hf.size
   replace hf := hf.step hq (by simp)
   replace hbs := hbs.fr hq (by simp; omega)
   replace hbr := hbr.fr hq (by simp; omega)
   replace hbi := hbi.fr hq (by simp; omega)
   replace hy := hy.fr hq (by simp; omega)
   clear hq
   refine st_move h rfl rfl ?_; clear h a; intro a h
   refine st_extract h rfl rfl rfl ?_; clear h a; intro a h
   refine st_extract h rfl rfl rfl ?_; clear h a; intro a h
   refine st_assign h rfl rfl ?_; clear h a; intro a h
   refine st_assign h rfl rfl ?_; clear h a; intro a h
   replace h : Ag a 94 [(0, _), (1, _), (8, _), (9, _)] := h.sub (.cons rfl (.cons rfl (.cons rfl (.cons rfl .nil))))
   refine wnt ?_
   refine wp_seq ?_
   refine wp_seq ?_
   refine wR ?_
   refine st_move h rfl rfl ?_; clear h a; intro a h
   refine st_not h rfl rfl ?_; clear h a; intro a h
   refine st_move h rfl rfl ?_; clear h a; intro a h
   first | refine guard_dec (D := 64) h rfl ?_ ?_ | refine guard_ndec (D := 64) h rfl ?_ ?_ | refine guard_any (D := 64) h rfl ?_ ?_
   ·clear h; intro g3 h
    refine gd_no h rfl rfl rfl rfl rfl rfl rfl rfl ?_; clear h a; intro a h
    refine gd_no h rfl rfl rfl rfl rfl rfl rfl rfl ?_; clear h a; intro a h
    refine gd_no h rfl rfl rfl rfl rfl rfl rfl rfl ?_; clear h a; intro a h
    refine gd_no h rfl rfl rfl rfl rfl rfl rfl rfl ?_; clear h a; intro a h
    refine gd_no h rfl rfl rfl rfl rfl rfl rfl rfl ?_; clear h a; intro a h
    refine st_pick_t h rfl rfl rfl rfl ?_; clear h a; intro a h
    replace h : Ag a 94 [(0, _), (1, _), (8, _), (70, _)] := h.sub (.cons rfl (.cons rfl (.cons rfl (.cons rfl .nil))))
    refine wnt ?_
    refine cond_true h rfl ?_
    refine wp_seq ?_
    refine wR ?_
    refine st_assign h rfl rfl ?_; clear h a; intro a h
    refine st_assign h rfl rfl ?_; clear h a; intro a h
    replace h : Ag a 94 [(3, _), (4, _)] := h.sub (.cons rfl (.cons rfl .nil))
    refine wnt ?_
    refine wp_ret (ret_then ?_)
    refine ret2 h Tryd.results51 rfl rfl ?_
    exact ⟨_, rfl, _, false, rfl, hf, (fun e => by cases e), fun _ => by rw [read_rep c0', hno (by simpa using ‹(!ok) = true›)]⟩
   ·clear h; intro g3 h
    refine gd_yes h rfl rfl rfl rfl rfl rfl ?_
    have hok : ok = true := by simpa using g3
    subst hok
    obtain ⟨xs, q, hr, ho2, hba⟩ := hyes rfl
    obtain ⟨hq1, hq2, hxl⟩ := read_pos m true (p + 1) [] xs q (by omega) hr
    replace ho2 := ho2.low hfs
    clear hyes hno
    refine st_loadB0 h rfl hbs na9 rfl ?_; clear h a; intro a h
    refine gd_yes h rfl rfl rfl rfl rfl rfl ?_
    refine st_loadB0 h rfl hba na3 rfl ?_; clear h a; intro a h
    refine gd_yes h rfl rfl rfl rfl rfl rfl ?_
    refine st_ss_l (p := q) h rfl rfl Tryd.underlying9 (by omega) (by omega) (by omega) rfl ?_; clear h a; intro a h
    refine gd_yes h rfl rfl rfl rfl rfl rfl ?_
    refine st_call h (evs_cons rfl (evs_cons rfl evs_nil)) co52 (pref_ok _ _ _) rfl ?_; clear h a; rintro _ _ ⟨rfl, rfl⟩ a h
    refine gd_yes h rfl rfl rfl rfl rfl rfl ?_
    refine st_not h rfl rfl ?_; clear h a; intro a h
    refine st_pick_f h rfl rfl rfl rfl ?_; clear h a; intro a h
    replace h : Ag a 94 [(0, _), (1, _), (8, _), (70, _)] := h.sub (.cons rfl (.cons rfl (.cons rfl (.cons rfl .nil))))
    refine wnt ?_
    first | refine cond_dec h rfl (fun c2 => ?_) (fun c2 => ?_) | refine cond_ndec h rfl (fun c2 => ?_) (fun c2 => ?_) | refine cond_split h rfl (fun c2 => ?_) (fun c2 => ?_)
    ·refine id ?_
     refine wp_seq ?_
     refine wR ?_
     refine st_assign h rfl rfl ?_; clear h a; intro a h
     refine st_assign h rfl rfl ?_; clear h a; intro a h
     replace h : Ag a 94 [(3, _), (4, _)] := h.sub (.cons rfl (.cons rfl .nil))
     refine wnt ?_
     refine wp_ret (ret_then ?_)
     refine ret2 h Tryd.results51 rfl rfl ?_
     exact ⟨_, rfl, _, false, rfl, hf, (fun e => by cases e), fun _ => by rw [read_rep c0', hr]; show closeS l xs q = none; rw [closeS, if_neg c2]⟩
    ·have hpre := c2.length_le
     simp at hpre
     refine wsn ?_
     refine wp_seq ?_
     refine wR ?_
     refine st_loadB0 h rfl hba na3 rfl ?_; clear h a; intro a h
     refine st_add h rfl rfl (by first | exact IntWalk.i64_in _ (by omega) | rfl) rfl ?_; clear h a; intro a h
     refine st_storeB0 h rfl rfl hba rfl rfl sz3 ?_; clear h a; intro w8 hbn hq hz a h
     replace hf := hf.step hq (by first | (simp; done) | (simp; omega))
     replace hbs := hbs.fr hq (by first | (simp; done) | (simp; omega) | (simp [blks]; done) | (simp [blks]; omega))
     replace hbr := hbr.fr hq (by first | (simp; done) | (simp; omega) | (simp [blks]; done) | (simp [blks]; omega))
     replace hbi := hbi.fr hq (by first | (simp; done) | (simp; omega) | (simp [blks]; done) | (simp [blks]; omega))
     replace hy := hy.fr hq (by first | (simp; done) | (simp; omega) | (simp [blks]; done) | (simp [blks]; omega))
     replace ho2 := ho2.fr hq (by intro k hk hb; have := ho2.blk k hb; simp at hk; omega)
     clear hba hq hz; have hba : Blk w8 ga _ [_] := hbn; clear hbn
     replace h : Ag a 94 [(0, _), (1, _), (8, _)] := h.sub (.cons rfl (.cons rfl (.cons rfl .nil)))
     refine wnt ?_
     refine wp_seq ?_
     refine wR ?_
     refine st_loadB0 h rfl hbs na9 rfl ?_; clear h a; intro a h
     refine st_loadB0 h rfl hba na3 rfl ?_; clear h a; intro a h
     refine st_ss_l (p := q + 2) h rfl rfl Tryd.underlying9 (by omega) (by omega) (by omega) rfl ?_; clear h a; intro a h
     have hcr := @count_rng (l.drop (q + 2)) 16
     simp only [List.length_drop] at hcr
     refine st_call h (evs_cons rfl (evs_cons rfl evs_nil)) co53 (count_ok _ _ _ (by simp; omega)) rfl ?_; clear h a; rintro _ _ ⟨rfl, rfl⟩ a h
     refine st_move h rfl rfl ?_; clear h a; intro a h
     refine st_extract h rfl rfl rfl ?_; clear h a; intro a h
     refine st_extract h rfl rfl rfl ?_; clear h a; intro a h
     refine st_assign h rfl rfl ?_; clear h a; intro a h
     refine st_assign h rfl rfl ?_; clear h a; intro a h
     replace h : Ag a 94 [(0, _), (8, _), (10, _), (11, _)] := h.sub (.cons rfl (.cons rfl (.cons rfl (.cons rfl .nil))))
     refine wnt ?_
     refine wp_seq ?_
     refine wR ?_
     refine st_loadB0 h rfl hba na3 rfl ?_; clear h a; intro a h
     refine st_move h rfl rfl ?_; clear h a; intro a h
     refine st_add h rfl rfl (by first | exact IntWalk.i64_in _ (by omega) | rfl) rfl ?_; clear h a; intro a h
     refine st_storeB0 h rfl rfl hba rfl rfl sz3 ?_; clear h a; intro w9 hbn hq hz a h
     replace hf := hf.step hq (by first | (simp; done) | (simp; omega))
     replace hbs := hbs.fr hq (by first | (simp; done) | (simp; omega) | (simp [blks]; done) | (simp [blks]; omega))
     replace hbr := hbr.fr hq (by first | (simp; done) | (simp; omega) | (simp [blks]; done) | (simp [blks]; omega))
     replace hbi := hbi.fr hq (by first | (simp; done) | (simp; omega) | (simp [blks]; done) | (simp [blks]; omega))
     replace hy := hy.fr hq (by first | (simp; done) | (simp; omega) | (simp [blks]; done) | (simp [blks]; omega))
     replace ho2 := ho2.fr hq (by intro k hk hb; have := ho2.blk k hb; simp at hk; omega)
     clear hba hq hz; have hba : Blk w9 ga _ [_] := hbn; clear hbn
     replace h : Ag a 94 [(8, _), (10, _), (11, _)] := h.sub (.cons rfl (.cons rfl (.cons rfl .nil)))
     refine wnt ?_
     refine wp_seq ?_
     refine wR ?_
     refine st_assign h rfl rfl ?_; clear h a; intro a h
     refine wnt ?_
     refine wp_seq ?_
     refine wp_seq ?_
     refine wR ?_
     refine st_move h rfl rfl ?_; clear h a; intro a h
     refine st_move h rfl rfl ?_; clear h a; intro a h
     replace h : Ag a 94 [(8, _), (11, _), (12, _), (83, _), (84, _)] := h.sub (.cons rfl (.cons rfl (.cons rfl (.cons rfl (.cons rfl .nil)))))
     refine wnt ?_
     refine wp_block ?_
     refine loop (ι := Nat × Value) (fun z => [(8, x2), (11, .int .i64 (countS (l.drop (q + 2)) 16).2), (12, z.2), (83, .int .i64 (countS (l.drop (q + 2)) 16).1), (84, .int .i64 (z.1 : Int))]) (fun z w' => z.1 ≤ (countS (l.drop (q + 2)) 16).1.toNat ∧ Lw.Own encSt 36 w0.heap.size w' z.2 (timesS xs z.1) ∧ Lw.Own encSt 36 w0.heap.size w' x2 xs ∧ (∀ k ∈ blks z.2, k ∉ blks x2) ∧ Blk w' ga 3 [.int .i64 ((q + 2 + (countS (l.drop (q + 2)) 16).2.toNat : Nat) : Int)] ∧ Fr [ga] w0 w') (fun z => (countS (l.drop (q + 2)) 16).1.toNat - z.1) (0, .slice none 0 0) (h.sub (.cons rfl (.cons rfl (.cons rfl (.cons rfl (.cons rfl .nil)))))) ⟨Nat.zero_le _, Own.nil _, ho2, (by intro k hk; cases hk), by rw [show ((q + 2 + (countS (l.drop (q + 2)) 16).2.toNat : Nat) : Int) = (q : Int) + 2 + (countS (l.drop (q + 2)) 16).2 by omega]; exact hba, hf⟩ ?_
     clear h a hf hba ho2 hbs hbr hbi hy
     rintro ⟨j, x⟩ w10 a h ⟨hj, ho, ho2, hdis, hba, hf⟩
     simp only at hj ho hdis h
     refine wp_seq ?_
     refine wR ?_
     refine st_lt h rfl rfl rfl ?_; clear h a; intro a h
     refine wnt ?_
     refine wp_seq ?_
     first | refine cond_dec h rfl (fun c3 => ?_) (fun c3 => ?_) | refine cond_ndec h rfl (fun c3 => ?_) (fun c3 => ?_) | refine cond_split h rfl (fun c3 => ?_) (fun c3 => ?_)
     ·refine id ?_
      refine wsn ?_
      refine wp_seq ?_
      refine wp_block ?_
      refine wR ?_
      refine st_move h rfl rfl ?_; clear h a; intro a h
      refine st_move h rfl rfl ?_; clear h a; intro a h
      refine st_append h rfl rfl ho ho2.sl el22 (by unfold maxLen; rw [times_len]; have := Nat.mul_le_mul (show j ≤ 16 by omega) hxl; omega) (by rw [times_len]; have := Nat.mul_le_mul (show j ≤ 16 by omega) hxl; omega) (by have := hf.size; omega) rfl ?_; clear h a; intro x5 w5x ho5 hq hx5 a h
      have hd5 : ∀ k ∈ blks x5, k ∉ blks x2 := by
       intro k hk
       rcases hx5 with e | e | e
       ·rw [e] at hk; exact hdis k hk
       ·rw [e] at hk; exact hdis k hk
       ·rw [e] at hk; simp at hk; intro hb; have := (ho2.blk k hb).2; omega
      replace ho2 := ho2.fr hq (fun k hk hb => hdis k hk hb)
      replace hba := hba.fr hq (fun hb => by have := ho.blk _ hb; omega)
      replace hf := hf.step hq (fun k hk hlt => by have := ho.blk k hk; omega)
      clear hq
      clear ho hdis hx5
      rw [← times_succ] at ho5
      refine st_assign h rfl rfl ?_; clear h a; intro a h
      replace h : Ag a 94 [(8, _), (11, _), (12, _), (83, _), (84, _)] := h.sub (.cons rfl (.cons rfl (.cons rfl (.cons rfl (.cons rfl .nil)))))
      refine wpList_nil (norm_blk (norm_then ?_))
      refine wR ?_
      refine st_add h rfl rfl (by first | exact IntWalk.i64_in _ (by omega) | rfl) rfl ?_; clear h a; intro a h
      refine st_move h rfl rfl ?_; clear h a; intro a h
      replace h : Ag a 94 [(8, _), (11, _), (12, _), (83, _), (84, _)] := h.sub (.cons rfl (.cons rfl (.cons rfl (.cons rfl (.cons rfl .nil)))))
      refine wnt ?_
      exact ⟨(j + 1, x5), h.sub (.cons rfl (.cons rfl (.cons rfl (.cons rfl (.cons rfl .nil))))), ⟨by simp only; omega, ho5, ho2, hd5, hba, hf⟩, by simp only; omega⟩
     ·obtain rfl : j = (countS (l.drop (q + 2)) 16).1.toNat := by omega
      refine wp_exit (exit_then (exit_then (exit_here (norm_then ?_))))
      refine wp_seq ?_
      refine wR ?_
      refine st_move h rfl rfl ?_; clear h a; intro a h
      obtain ⟨A3, cp3, rfl, hc3⟩ := ho.sl.form
      refine st_call h (evs_cons rfl evs_nil) co50 (cut_ok _ _ _ _ hc3) rfl ?_; clear h a; rintro _ _ ⟨rfl, rfl⟩ a h
      replace ho := ho.take rfl (m := min (timesS xs (countS (l.drop (q + 2)) 16).1.toNat).length 17) (by omega) (Nat.le_refl _) (by omega)
      rw [take_min] at ho
      refine st_move h rfl rfl ?_; clear h a; intro a h
      refine st_gt h rfl rfl rfl ?_; clear h a; intro a h
      refine st_assign h rfl rfl ?_; clear h a; intro a h
      refine st_assign h rfl rfl ?_; clear h a; intro a h
      replace h : Ag a 94 [(3, _), (4, _)] := h.sub (.cons rfl (.cons rfl .nil))
      refine wnt ?_
      refine wp_ret ?_
      refine ret2 h Tryd.results51 rfl rfl ?_
      refine ⟨_, rfl, _, _, rfl, hf, fun e => ⟨_, _, ?_, ho, hba⟩, fun e => ?_⟩
      ·rw [read_rep c0', hr]; show closeS l xs q = _; rw [closeS, if_pos c2]; exact if_pos (of_decide_eq_true e)
      ·rw [read_rep c0', hr]; show closeS l xs q = _; rw [closeS, if_pos c2]; exact if_neg (of_decide_eq_false e)
end Go.Proofs.YtbbnampdgefljaaDoor
namespace Go.Proofs.YtbbnampdgefljaaDoor
open Go.Lw Go.G14
theorem readC (l : List UInt8) (gs ga gr gi : Nat) (hl : l.length ≤ 1024) (o0 : 0 < gs) (o1 : gs < ga) (o2 : ga < gr) (o3 : gr < gi) : ∀ F, RowC l gs ga gr gi F ∧ ItemC l gs ga gr gi F := by
 intro F
 induction F using Nat.strongRecOn with
 | _ F ih => exact ⟨row_step l gs ga gr gi F hl o0 o1 o2 o3 fun m hm => (ih m hm).2, item_step l gs ga gr gi F hl o0 o1 o2 o3 fun m hm => (ih m hm).1⟩
set_option maxHeartbeats 1000000 in
theorem read_ok (l : List UInt8) (w0 : World) (hl : l.length ≤ 1024) (hy : Sym w0) : Rets Tryd.prog 25 #[S l] w0 fun v w' => ∃ (x : Value) (b : Bool), v = .tuple #[x, .bool b] ∧ Fr [] w0 w' ∧ (b = true → ∃ xs, rowS l = some xs ∧ xs.length ≤ 17 ∧ Lw.Own encSt 36 w0.heap.size w' x xs) ∧ (b = false → rowS l = none) := by
 have h00 := hy.pos
 refine enter [(0, S l)] Tryd.func25 rfl Tryd.ntmps25 rfl (.cons rfl .nil) ?_
 have hf := Fr.refl [] w0
 intro a h
 refine wp_seq ?_
 refine wR ?_
 refine st_box h rfl rfl rfl ?_; clear h a; intro w1 hb1 hq hz a h
 obtain ⟨g_1, hg⟩ : ∃ g, g = w0.heap.size := ⟨_, rfl⟩; rw [← hg] at hb1 h hz
 have hl1 : w0.heap.size ≤ g_1 := by have := hf.size; omega
 replace hf := hf.next hq
 replace hy := hy.ext hq
 clear hq hz hg
 refine st_assign h rfl rfl ?_; clear h a; intro a h
 refine st_assign h rfl rfl ?_; clear h a; intro a h
 replace h : Ag a 24 [(1, _)] := h.sub (.cons rfl .nil)
 refine wnt ?_
 refine wp_seq ?_
 refine wR ?_
 refine st_alloc h zv3 rfl rfl ?_; clear h a; intro w2 hb4 hq hz a h
 obtain ⟨g_4, hg⟩ : ∃ g, g = w1.heap.size := ⟨_, rfl⟩; rw [← hg] at hb4 h hz
 have hl4 : w0.heap.size ≤ g_4 := by have := hf.size; omega
 have hn_1_4 : g_1 < g_4 := by have := hb1.lt; omega
 replace hf := hf.next hq
 replace hy := hy.ext hq
 replace hb1 := hb1.ext hq
 clear hq hz hg
 refine st_storeB0 h rfl rfl hb4 rfl rfl sz3 ?_; clear h a; intro w3 hbn hq hz a h
 replace hf := hf.step hq (by first | (simp; done) | (simp; omega))
 replace hy := hy.fr hq (by first | (simp; done) | (simp; omega) | (simp [blks]; done) | (simp [blks]; omega))
 replace hb1 := hb1.fr hq (by first | (simp; done) | (simp; omega) | (simp [blks]; done) | (simp [blks]; omega))
 clear hb4 hq hz; have hb4 : Blk w3 g_4 _ [_] := hbn; clear hbn
 refine wnt ?_
 refine wp_seq ?_
 refine wR ?_
 refine st_alloc h zv90 rfl rfl ?_; clear h a; intro w4 hb5 hq hz a h
 obtain ⟨g_5, hg⟩ : ∃ g, g = w3.heap.size := ⟨_, rfl⟩; rw [← hg] at hb5 h hz
 have hl5 : w0.heap.size ≤ g_5 := by have := hf.size; omega
 have hn_1_5 : g_1 < g_5 := by have := hb1.lt; omega
 have hn_4_5 : g_4 < g_5 := by have := hb4.lt; omega
 replace hf := hf.next hq
 replace hy := hy.ext hq
 replace hb1 := hb1.ext hq
 replace hb4 := hb4.ext hq
 clear hq hz hg
 refine st_alloc h zv90 rfl rfl ?_; clear h a; intro w5 hb6 hq hz a h
 obtain ⟨g_6, hg⟩ : ∃ g, g = w4.heap.size := ⟨_, rfl⟩; rw [← hg] at hb6 h hz
 have hl6 : w0.heap.size ≤ g_6 := by have := hf.size; omega
 have hn_1_6 : g_1 < g_6 := by have := hb1.lt; omega
 have hn_4_6 : g_4 < g_6 := by have := hb4.lt; omega
 have hn_5_6 : g_5 < g_6 := by have := hb5.lt; omega
 replace hf := hf.next hq
 replace hy := hy.ext hq
 replace hb1 := hb1.ext hq
 replace hb4 := hb4.ext hq
 replace hb5 := hb5.ext hq
 clear hq hz hg
 refine wnt ?_
 refine wp_seq ?_
 refine wR ?_
 refine st_makeFunc h evs_nil (evs_cons rfl (evs_cons rfl (evs_cons rfl evs_nil))) rfl ?_; clear h a; intro a h
 refine st_storeB0 h rfl rfl hb5 rfl rfl sz90 ?_; clear h a; intro w6 hbn hq hz a h
 replace hf := hf.step hq (by first | (simp; done) | (simp; omega))
 replace hy := hy.fr hq (by first | (simp; done) | (simp; omega) | (simp [blks]; done) | (simp [blks]; omega))
 replace hb1 := hb1.fr hq (by first | (simp; done) | (simp; omega) | (simp [blks]; done) | (simp [blks]; omega))
 replace hb4 := hb4.fr hq (by first | (simp; done) | (simp; omega) | (simp [blks]; done) | (simp [blks]; omega))
 replace hb6 := hb6.fr hq (by first | (simp; done) | (simp; omega) | (simp [blks]; done) | (simp [blks]; omega))
 clear hb5 hq hz; have hb5 : Blk w6 g_5 _ [_] := hbn; clear hbn
 replace h : Ag a 24 [(1, _), (4, _), (5, _), (6, _)] := h.sub (.cons rfl (.cons rfl (.cons rfl (.cons rfl .nil))))
 refine wnt ?_
 refine wp_seq ?_
 refine wR ?_
 refine st_makeFunc h evs_nil (evs_cons rfl (evs_cons rfl (evs_cons rfl evs_nil))) rfl ?_; clear h a; intro a h
 refine st_storeB0 h rfl rfl hb6 rfl rfl sz90 ?_; clear h a; intro w7 hbn hq hz a h
 replace hf := hf.step hq (by first | (simp; done) | (simp; omega))
 replace hy := hy.fr hq (by first | (simp; done) | (simp; omega) | (simp [blks]; done) | (simp [blks]; omega))
 replace hb1 := hb1.fr hq (by first | (simp; done) | (simp; omega) | (simp [blks]; done) | (simp [blks]; omega))
 replace hb4 := hb4.fr hq (by first | (simp; done) | (simp; omega) | (simp [blks]; done) | (simp [blks]; omega))
 replace hb5 := hb5.fr hq (by first | (simp; done) | (simp; omega) | (simp [blks]; done) | (simp [blks]; omega))
 clear hb6 hq hz; have hb6 : Blk w7 g_6 _ [_] := hbn; clear hbn
 replace h : Ag a 24 [(1, _), (4, _), (5, _)] := h.sub (.cons rfl (.cons rfl (.cons rfl .nil)))
 refine wnt ?_
 refine wp_seq ?_
 refine wR ?_
 refine st_loadB0 h rfl hb5 na90 rfl ?_; clear h a; intro a h
 have hrow := (readC l g_1 g_4 g_5 g_6 hl (by omega) hn_1_4 hn_4_5 hn_5_6 (2 * l.length + 1)).1 0 w7 (Nat.zero_le _) (by omega) ⟨hb1, hb4, hb5, hb6, hy⟩
 have hfs := hf.size
 refine st_callv (us := []) (ws := [_, _, _]) h rfl evs_nil co49 hrow rfl (by intro g; simp) ?_; clear h a hrow hb4; rintro _ w9x ⟨x2, ok, rfl, hq, hyes, hno⟩ a h
 replace hf := hf.step hq (by simp; omega)
 replace hb1 := hb1.fr hq (by simp; omega)
 clear hq hb5 hb6 hy
 refine st_move h rfl rfl ?_; clear h a; intro a h
 refine st_extract h rfl rfl rfl ?_; clear h a; intro a h
 refine st_extract h rfl rfl rfl ?_; clear h a; intro a h
 refine st_assign h rfl rfl ?_; clear h a; intro a h
 refine st_assign h rfl rfl ?_; clear h a; intro a h
 replace h : Ag a 24 [(1, _), (4, _), (7, _), (8, _)] := h.sub (.cons rfl (.cons rfl (.cons rfl (.cons rfl .nil))))
 refine wnt ?_
 refine wp_seq ?_
 refine region_quiet hmix (by kernel_rfl) ?_
 refine qt_move h rfl rfl ?_; clear h a; intro a h
 refine qt_move h rfl rfl ?_; clear h a; intro a h
 refine qt_move h rfl rfl ?_; clear h a; intro a h
 first | refine guard_dec (D := 18) h rfl ?_ ?_ | refine guard_ndec (D := 18) h rfl ?_ ?_ | refine guard_any (D := 18) h rfl ?_ ?_
 ·clear h; intro g0 h
  refine qd_yes h rfl rfl rfl rfl rfl rfl ?_
  have hok : ok = true := by simpa using g0
  subst hok
  obtain ⟨xs, q, hr, ho2, hb4⟩ := hyes rfl
  obtain ⟨hq1, hq2, hxl⟩ := read_pos _ true 0 [] xs q (by omega) hr
  replace ho2 := ho2.low hfs
  clear hyes hno
  refine qt_loadB0 h rfl (fun _ hw => hb4.ext hw) na3 rfl ?_; clear h a; intro a h
  refine qd_yes h rfl rfl rfl rfl rfl rfl ?_
  refine qt_loadB0 h rfl (fun _ hw => hb1.ext hw) na9 rfl ?_; clear h a; intro a h
  refine qd_yes h rfl rfl rfl rfl rfl rfl ?_
  refine qt_len h rfl Tryd.underlying9 rfl ?_; clear h a; intro a h
  refine qd_yes h rfl rfl rfl rfl rfl rfl ?_
  refine qt_eq h rfl rfl rfl ?_; clear h a; intro a h
  refine qt_pick_t h rfl rfl rfl rfl ?_; clear h a; intro a h
  refine qt_assign h rfl rfl ?_; clear h a; intro a h
  refine qt_assign h rfl rfl ?_; clear h a; intro a h
  refine wpQuiet_nil ?_
  intro w8 hq
  replace hf := hf.next hq
  replace hb1 := hb1.ext hq
  replace hb4 := hb4.ext hq
  replace ho2 := ho2.ext hq
  clear hq
  replace h : Ag a 24 [(2, _), (3, _)] := h.sub (.cons rfl (.cons rfl .nil))
  refine (norm_then ?_)
  refine wp_ret ?_
  refine ret2 h Tryd.results25 rfl rfl ?_
  refine ⟨_, rfl, _, _, rfl, hf, fun e => ⟨xs, ?_, hxl, ho2⟩, fun e => ?_⟩
  ·rw [rowS, hr]; exact if_pos (by have := of_decide_eq_true e; omega)
  ·rw [rowS, hr]; exact if_neg (by have := of_decide_eq_false e; omega)
 ·clear h; intro g0 h
  refine qd_no h rfl rfl rfl rfl rfl rfl rfl rfl ?_; clear h a; intro a h
  refine qd_no h rfl rfl rfl rfl rfl rfl rfl rfl ?_; clear h a; intro a h
  refine qd_no h rfl rfl rfl rfl rfl rfl rfl rfl ?_; clear h a; intro a h
  refine qd_no h rfl rfl rfl rfl rfl rfl rfl rfl ?_; clear h a; intro a h
  refine qt_pick_f h rfl rfl rfl rfl ?_; clear h a; intro a h
  refine qt_assign h rfl rfl ?_; clear h a; intro a h
  refine qt_assign h rfl rfl ?_; clear h a; intro a h
  refine wpQuiet_nil ?_
  intro w9 hq
  replace hf := hf.next hq
  replace hb1 := hb1.ext hq
  clear hq
  replace h : Ag a 24 [(2, _), (3, _)] := h.sub (.cons rfl (.cons rfl .nil))
  refine (norm_then ?_)
  refine wp_ret ?_
  refine ret2 h Tryd.results25 rfl rfl ?_
  exact ⟨_, rfl, _, false, rfl, hf, (fun e => by cases e), fun _ => by rw [rowS, hno (by assumption)]⟩
theorem expand_ok (l : List UInt8) (w0 : World) (hy : Sym w0) (hlen : l.length ≤ 9223372036854775807) : Rets Tryd.prog 10 #[S l] w0 fun v w' => ∃ x c, v = .tuple #[.slice x (expandS l).1.length c, .int .i64 (expandS l).2] ∧ c = (expandS l).1.length ∧ Lw.Own encSt 36 w0.heap.size w' (.slice x (expandS l).1.length c) (expandS l).1 ∧ Fr [] w0 w' := by
 refine enter [(0, S l)] Tryd.func10 rfl Tryd.ntmps10 rfl (.cons rfl .nil) ?_
 have hf := Fr.refl [] w0
 intro a h
 refine wp_seq ?_
 refine wR ?_
 refine st_assign h rfl rfl ?_; clear h a; intro a h
 refine st_assign h rfl rfl ?_; clear h a; intro a h
 replace h : Ag a 21 [(0, _)] := h.sub (.cons rfl .nil)
 refine wnt ?_
 refine wp_seq ?_
 refine wp_seq ?_
 refine wR ?_
 refine st_move h rfl rfl ?_; clear h a; intro a h
 refine st_len h rfl Tryd.underlying9 rfl ?_; clear h a; intro a h
 refine st_gt h rfl rfl rfl ?_; clear h a; intro a h
 replace h : Ag a 21 [(0, _), (8, _)] := h.sub (.cons rfl (.cons rfl .nil))
 refine wnt ?_
 first | refine cond_dec h rfl (fun c0 => ?_) (fun c0 => ?_) | refine cond_ndec h rfl (fun c0 => ?_) (fun c0 => ?_) | refine cond_split h rfl (fun c0 => ?_) (fun c0 => ?_)
 ·refine id ?_
  refine wp_seq ?_
  refine wR ?_
  refine st_assign h rfl rfl ?_; clear h a; intro a h
  refine st_assign h rfl rfl ?_; clear h a; intro a h
  replace h : Ag a 21 [(2, _), (3, _)] := h.sub (.cons rfl (.cons rfl .nil))
  refine wnt ?_
  refine wp_ret (ret_then ?_)
  refine ret2 h Tryd.results10 rfl rfl ?_
  have e : expandS l = ([], 3) := by rw [expandS, if_pos (by omega)]
  rw [e]
  exact ⟨_, rfl, none, 0, rfl, rfl, Own.nil _, hf⟩
 ·refine id ?_
  refine wsn ?_
  refine wp_seq ?_
  refine wR ?_
  refine st_move h rfl rfl ?_; clear h a; intro a h
  refine st_call h (evs_cons rfl evs_nil) co25 (read_ok _ _ (by omega) hy) rfl ?_; clear h a; rintro _ w1 ⟨x2, ok, rfl, hq, hyes, hno⟩ a h
  replace hf := hf.next hq
  replace hy := hy.ext hq
  clear hq
  refine st_move h rfl rfl ?_; clear h a; intro a h
  refine st_extract h rfl rfl rfl ?_; clear h a; intro a h
  refine st_extract h rfl rfl rfl ?_; clear h a; intro a h
  refine st_assign h rfl rfl ?_; clear h a; intro a h
  refine st_assign h rfl rfl ?_; clear h a; intro a h
  replace h : Ag a 21 [(4, _), (5, _)] := h.sub (.cons rfl (.cons rfl .nil))
  refine wnt ?_
  refine wp_seq ?_
  refine wp_seq ?_
  refine wR ?_
  refine st_move h rfl rfl ?_; clear h a; intro a h
  refine st_not h rfl rfl ?_; clear h a; intro a h
  replace h : Ag a 21 [(4, _), (15, _)] := h.sub (.cons rfl (.cons rfl .nil))
  refine wnt ?_
  first | refine cond_dec h rfl (fun c1 => ?_) (fun c1 => ?_) | refine cond_ndec h rfl (fun c1 => ?_) (fun c1 => ?_) | refine cond_split h rfl (fun c1 => ?_) (fun c1 => ?_)
  ·have hok : ok = false := by simpa using c1
   subst hok
   refine wp_seq ?_
   refine wR ?_
   refine st_assign h rfl rfl ?_; clear h a; intro a h
   refine st_assign h rfl rfl ?_; clear h a; intro a h
   replace h : Ag a 21 [(2, _), (3, _)] := h.sub (.cons rfl (.cons rfl .nil))
   refine wnt ?_
   refine wp_ret (ret_then ?_)
   refine ret2 h Tryd.results10 rfl rfl ?_
   have e : expandS l = ([], 4) := by rw [expandS, if_neg (by omega), hno rfl]
   rw [e]
   exact ⟨_, rfl, none, 0, rfl, rfl, Own.nil _, hf⟩
  ·have hok : ok = true := by simpa using c1
   subst hok
   obtain ⟨xs, hr, hxl, ho⟩ := hyes rfl
   obtain ⟨A, c, rfl, hc⟩ := ho.sl.form
   refine wsn ?_
   refine wp_seq ?_
   refine wp_seq ?_
   refine wR ?_
   refine st_move h rfl rfl ?_; clear h a; intro a h
   refine st_lenS h rfl Tryd.underlying22 rfl ?_; clear h a; intro a h
   refine st_gt h rfl rfl rfl ?_; clear h a; intro a h
   replace h : Ag a 21 [(4, _), (18, _)] := h.sub (.cons rfl (.cons rfl .nil))
   refine wnt ?_
   first | refine cond_dec h rfl (fun c2 => ?_) (fun c2 => ?_) | refine cond_ndec h rfl (fun c2 => ?_) (fun c2 => ?_) | refine cond_split h rfl (fun c2 => ?_) (fun c2 => ?_)
   ·refine id ?_
    refine wp_seq ?_
    refine wR ?_
    refine st_assign h rfl rfl ?_; clear h a; intro a h
    refine st_assign h rfl rfl ?_; clear h a; intro a h
    replace h : Ag a 21 [(2, _), (3, _)] := h.sub (.cons rfl (.cons rfl .nil))
    refine wnt ?_
    refine wp_ret (ret_then ?_)
    refine ret2 h Tryd.results10 rfl rfl ?_
    have e : expandS l = ([], 3) := by rw [expandS, if_neg (by omega), hr]; exact if_pos (by omega)
    rw [e]
    exact ⟨_, rfl, none, 0, rfl, rfl, Own.nil _, hf⟩
   ·refine id ?_
    refine wsn ?_
    refine wp_seq ?_
    refine wR ?_
    refine st_move h rfl rfl ?_; clear h a; intro a h
    refine st_call h (evs_cons rfl evs_nil) co26 (clip_ok _ _ _ _ hc) rfl ?_; clear h a; rintro _ _ ⟨rfl, rfl⟩ a h
    replace ho := ho.take rfl (m := xs.length) (Nat.le_refl _) hc (Nat.le_refl _)
    rw [List.take_length] at ho
    refine st_assign h rfl rfl ?_; clear h a; intro a h
    refine st_assign h rfl rfl ?_; clear h a; intro a h
    replace h : Ag a 21 [(2, _), (3, _)] := h.sub (.cons rfl (.cons rfl .nil))
    refine wnt ?_
    refine wp_ret ?_
    refine ret2 h Tryd.results10 rfl rfl ?_
    have e : expandS l = (xs, 0) := by rw [expandS, if_neg (by omega), hr]; exact if_neg (by omega)
    rw [e]
    exact ⟨_, rfl, A, _, rfl, rfl, ho, hf⟩
end Go.Proofs.YtbbnampdgefljaaDoor
namespace Go.Proofs.YtbbnampdgefljaaDoor
open Go.Lw Go.G14
def kV (p : Int × Int) : Value := .agg #[.int .i64 p.1, .int .i64 p.2]
theorem eq98 (p q : Int × Int) (w : World) : (Op.equal 98 (kV p) (kV q)).run Tryd.prog w = .ok (decide (p = q)) w := by
 obtain ⟨a, b⟩ := p
 obtain ⟨c, d⟩ := q
 have hp0 : ∀ (x y : Value) w, (part 3 #[x, y] (0 * 1)).run Tryd.prog w = .ok x w := fun _ _ _ => by kernel_rfl
 have hp1 : ∀ (x y : Value) w, (part 3 #[x, y] 1).run Tryd.prog w = .ok y w := fun _ _ _ => by kernel_rfl
 have hs : ∀ w : World, (sizeOf 3).run Tryd.prog w = .ok 1 w := fun _ => by kernel_rfl
 show (Op.equalIn (9998 + 1 + 1) 98 (kV (a, b)) (kV (c, d))).run Tryd.prog w = _
 unfold Op.equalIn
 simp only [kV, Sem.run_bind, run_underlying Tryd.underlying98, Result.andThen_ok, hs]
 simp only [Std.Legacy.Range.forIn_eq_forIn_range', Std.Legacy.Range.size]
 have hI : ∀ (x y : Int) (w : World), (Op.equalIn 9999 3 (.int .i64 x) (.int .i64 y)).run Tryd.prog w = .ok (x == y) w := fun x y w => run_equalIn_int w 9998 3 _ _ x y Tryd.underlying3
 rw [show List.range' 0 ((2 - 0 + 1 - 1) / 1) = [0, 1] from rfl]
 simp only [List.forIn_cons, List.forIn_nil, Sem.run_bind, hp0, hI, Result.andThen_ok]
 by_cases e : a = c
 ·subst e
  by_cases f : b = d
  ·subst f; simp [hp1, hI]
  ·simp [f, hp1, hI]
 ·simp [e]
theorem key98 : KeyLaw Tryd.prog 98 kV := KeyLaw.asking Tryd.underlying98 (fun _ _ => rfl) (fun _ _ _ => by kernel_rfl) eq98 (fun _ => by simp [kV, Instr.sameBits])
set_option maxHeartbeats 4000000 in
theorem shortest_ok (u : Value) (xs : List Stitch) (w0 : World) (hu : Sl encSt w0 u xs) (hn : 1 ≤ xs.length) (hm : xs.length ≤ 16) (hy : Sym w0) : Rets Tryd.prog 31 #[u] w0 fun v w' => v = S (shortS xs) ∧ Fr [] w0 w' := by
 have h00 := hy.pos
 have hrb := hu.blk (by intro e; subst e; simp at hn)
 obtain ⟨A, c, rfl, hc⟩ := hu.form
 have hs := hu
 obtain ⟨-, -, hM, hA⟩ := Sl.open_ hu
 unfold maxLen at hM
 refine enter [(0, .slice A xs.length c)] Tryd.func31 rfl Tryd.ntmps31 rfl (.cons rfl .nil) ?_
 have hf := Fr.refl [] w0
 intro a h
 refine wp_seq ?_
 refine wR ?_
 refine st_assign h rfl rfl ?_; clear h a; intro a h
 replace h : Ag a 115 [(0, _)] := h.sub (.cons rfl .nil)
 refine wnt ?_
 refine wp_seq ?_
 refine wR ?_
 refine st_makeMap kV h rfl ?_; clear h a; intro gt w1 hg hmt hq hz a h
 have hlgt : w0.heap.size ≤ gt := by have := hf.size; omega
 replace hf := hf.next hq
 replace hs := hs.ext hq
 replace hy := hy.ext hq
 clear hq hz hg
 refine st_assign h rfl rfl ?_; clear h a; intro a h
 replace h : Ag a 115 [(0, _), (3, _)] := h.sub (.cons rfl (.cons rfl .nil))
 refine wnt ?_
 refine wp_seq ?_
 refine wR ?_
 refine st_makeMap kV h rfl ?_; clear h a; intro gi w2 hg hmi hq hz a h
 have hlgi : w0.heap.size ≤ gi := by have := hf.size; omega
 have hti : gt < gi := by have := hmt.lt; omega
 replace hf := hf.next hq
 replace hs := hs.ext hq
 replace hy := hy.ext hq
 replace hmt := hmt.ext hq
 clear hq hz hg
 refine st_assign h rfl rfl ?_; clear h a; intro a h
 replace h : Ag a 115 [(0, _), (3, _), (4, _)] := h.sub (.cons rfl (.cons rfl (.cons rfl .nil)))
 refine wnt ?_
 refine wp_seq ?_
 refine wp_seq ?_
 refine wR ?_
 refine st_assign h rfl rfl ?_; clear h a; intro a h
 refine wnt ?_
 refine wp_block ?_
 refine loop (ι := Nat) (fun L => [(0, .slice A xs.length c), (3, .map (some gt)), (4, .map (some gi)), (5, .int .i64 (L : Int))]) (fun L w' => 1 ≤ L ∧ L ≤ xs.length + 1 ∧ MapF kV w' gt (mfun xs.length (fun a m => (T xs a m).2) L 0) ∧ MapF kV w' gi (mfun xs.length (fun a m => (T xs a m).1) L 0) ∧ Sl encSt w' (.slice A xs.length c) xs ∧ Sym w' ∧ Fr [] w0 w') (fun L => xs.length + 1 - L) 1 (h.sub (.cons rfl (.cons rfl (.cons rfl (.cons rfl .nil))))) ⟨by omega, by omega, by rw [mfun_zero]; exact hmt, by rw [mfun_zero]; exact hmi, hs, hy, hf⟩ ?_
 clear h a hmt hmi hs hy hf
 rintro L w3 a h ⟨hL1, hL2, hmt, hmi, hs, hy, hf⟩
 refine wp_seq ?_
 refine wp_seq ?_
 refine wR ?_
 refine st_move h rfl rfl ?_; clear h a; intro a h
 refine st_move h rfl rfl ?_; clear h a; intro a h
 refine st_lenS h rfl Tryd.underlying22 rfl ?_; clear h a; intro a h
 refine st_le h rfl rfl rfl ?_; clear h a; intro a h
 replace h : Ag a 115 [(0, _), (3, _), (4, _), (5, _), (19, _)] := h.sub (.cons rfl (.cons rfl (.cons rfl (.cons rfl (.cons rfl .nil)))))
 refine wnt ?_
 first | refine cond_dec h rfl (fun c0 => ?_) (fun c0 => ?_) | refine cond_ndec h rfl (fun c0 => ?_) (fun c0 => ?_) | refine cond_split h rfl (fun c0 => ?_) (fun c0 => ?_)
 ·refine id ?_
  refine wsn ?_
  refine wp_seq ?_
  refine wp_block ?_
  refine wp_seq ?_
  refine wR ?_
  refine st_assign h rfl rfl ?_; clear h a; intro a h
  replace h : Ag a 115 [(0, _), (3, _), (4, _), (5, _), (6, _)] := h.sub (.cons rfl (.cons rfl (.cons rfl (.cons rfl (.cons rfl .nil)))))
  refine wnt ?_
  refine wp_block ?_
  refine loop (ι := Nat) (fun i => [(0, .slice A xs.length c), (3, .map (some gt)), (4, .map (some gi)), (5, .int .i64 (L : Int)), (6, .int .i64 (i : Int))]) (fun i w' => i ≤ xs.length + 1 - L ∧ MapF kV w' gt (mfun xs.length (fun a m => (T xs a m).2) L i) ∧ MapF kV w' gi (mfun xs.length (fun a m => (T xs a m).1) L i) ∧ Sl encSt w' (.slice A xs.length c) xs ∧ Sym w' ∧ Fr [] w0 w') (fun i => xs.length + 1 - i) 0 (h.sub (.cons rfl (.cons rfl (.cons rfl (.cons rfl (.cons rfl .nil)))))) ⟨by omega, hmt, hmi, hs, hy, hf⟩ ?_
  clear h a hmt hmi hs hy hf
  rintro i w4 a h ⟨hiL, hmt, hmi, hs, hy, hf⟩
  refine wp_seq ?_
  refine wp_seq ?_
  refine wR ?_
  refine st_move h rfl rfl ?_; clear h a; intro a h
  refine st_move h rfl rfl ?_; clear h a; intro a h
  refine st_add h rfl rfl (by first | exact IntWalk.i64_in _ (by omega) | rfl) rfl ?_; clear h a; intro a h
  refine st_move h rfl rfl ?_; clear h a; intro a h
  refine st_lenS h rfl Tryd.underlying22 rfl ?_; clear h a; intro a h
  refine st_le h rfl rfl rfl ?_; clear h a; intro a h
  replace h : Ag a 115 [(0, _), (3, _), (4, _), (5, _), (6, _), (27, _)] := h.sub (.cons rfl (.cons rfl (.cons rfl (.cons rfl (.cons rfl (.cons rfl .nil))))))
  refine wnt ?_
  first | refine cond_dec h rfl (fun c1 => ?_) (fun c1 => ?_) | refine cond_ndec h rfl (fun c1 => ?_) (fun c1 => ?_) | refine cond_split h rfl (fun c1 => ?_) (fun c1 => ?_)
  ·refine id ?_
   refine wsn ?_
   refine wp_seq ?_
   refine wp_block ?_
   refine wp_seq ?_
   refine wR ?_
   refine st_move h rfl rfl ?_; clear h a; intro a h
   refine st_move h rfl rfl ?_; clear h a; intro a h
   refine st_add h rfl rfl (by first | exact IntWalk.i64_in _ (by omega) | rfl) rfl ?_; clear h a; intro a h
   refine st_assign h rfl rfl ?_; clear h a; intro a h
   replace h : Ag a 115 [(0, _), (3, _), (4, _), (5, _), (6, _), (7, _)] := h.sub (.cons rfl (.cons rfl (.cons rfl (.cons rfl (.cons rfl (.cons rfl .nil))))))
   refine wnt ?_
   refine wp_seq ?_
   refine wR ?_
   refine st_assign h rfl rfl ?_; clear h a; intro a h
   refine wnt ?_
   refine seq_cut (Cut (ι := Unit) 115 (fun u => [(0, .slice A xs.length c), (3, .map (some gt)), (4, .map (some gi)), (5, .int .i64 (L : Int)), (6, .int .i64 (i : Int)), (7, .int .i64 ((i : Int) + (L : Int))), (8, S (itemTo (T xs) xs i L 0))]) (fun u w' => MapF kV w' gt (mfun xs.length (fun a m => (T xs a m).2) L i) ∧ MapF kV w' gi (mfun xs.length (fun a m => (T xs a m).1) L i) ∧ Sl encSt w' (.slice A xs.length c) xs ∧ Sym w' ∧ Fr [] w0 w')) ?_ ?_
   ·refine id ?_
    refine wp_seq ?_
    refine wR ?_
    refine st_move h rfl rfl ?_; clear h a; intro a h
    refine st_eq h rfl rfl rfl ?_; clear h a; intro a h
    replace h : Ag a 115 [(0, _), (3, _), (4, _), (5, _), (6, _), (7, _), (8, _), (34, _)] := h.sub (.cons rfl (.cons rfl (.cons rfl (.cons rfl (.cons rfl (.cons rfl (.cons rfl (.cons rfl .nil))))))))
    refine wnt ?_
    first | refine cond_dec h rfl (fun c2 => ?_) (fun c2 => ?_) | refine cond_ndec h rfl (fun c2 => ?_) (fun c2 => ?_) | refine cond_split h rfl (fun c2 => ?_) (fun c2 => ?_)
    ·obtain ⟨x, hxi⟩ : ∃ x, xs[i]? = some x := ⟨_, List.getElem?_eq_getElem (by omega)⟩
     obtain ⟨ad, hAd, ca⟩ := hA i x hxi
     refine wR ?_
     refine st_move h rfl rfl ?_; clear h a; intro a h
     refine st_move h rfl rfl ?_; clear h a; intro a h
     refine st_idxS h (by rw [hAd]; rfl) rfl el22 (by omega) (by omega) rfl rfl ?_; clear h a; intro a h
     refine st_loadA h rfl (ca.fr hf (by simp)) ag36 rfl ?_; clear h a; intro a h
     refine st_call h (evs_cons rfl evs_nil) co54 (text_ok _ _ hy) rfl ?_; clear h a; rintro _ w5 ⟨rfl, hq⟩ a h
     replace hf := hf.next hq
     replace hmt := hmt.ext hq
     replace hmi := hmi.ext hq
     replace hs := hs.ext hq
     replace hy := hy.ext hq
     clear hq
     refine st_assign h rfl rfl ?_; clear h a; intro a h
     replace h : Ag a 115 [(0, _), (3, _), (4, _), (5, _), (6, _), (7, _), (8, _)] := h.sub (.cons rfl (.cons rfl (.cons rfl (.cons rfl (.cons rfl (.cons rfl (.cons rfl .nil)))))))
     refine wnt ?_
     exact ⟨(), h.sub (.cons rfl (.cons rfl (.cons rfl (.cons rfl (.cons rfl (.cons rfl (.cons (by first | (rw [itemTo, if_pos (by omega), List.getD, hxi]; rfl) | (rw [itemTo, if_neg (by omega)]; rfl)) .nil))))))), hmt, hmi, hs, hy, hf⟩
    ·refine id ?_
     refine wsn ?_
     exact ⟨(), h.sub (.cons rfl (.cons rfl (.cons rfl (.cons rfl (.cons rfl (.cons rfl (.cons (by first | (rw [itemTo, if_pos (by omega), List.getD, hxi]; rfl) | (rw [itemTo, if_neg (by omega)]; rfl)) .nil))))))), hmt, hmi, hs, hy, hf⟩
   ·clear h a hmt hmi hs hy hf
    rintro a w6 ⟨u, h, ⟨hmt, hmi, hs, hy, hf⟩⟩
    refine wp_seq ?_
    refine wp_seq ?_
    refine wR ?_
    refine st_assign h rfl rfl ?_; clear h a; intro a h
    refine wnt ?_
    refine wp_block ?_
    refine loop (ι := Nat) (fun k => [(0, .slice A xs.length c), (3, .map (some gt)), (4, .map (some gi)), (5, .int .i64 (L : Int)), (6, .int .i64 (i : Int)), (7, .int .i64 ((i : Int) + (L : Int))), (8, S (itemTo (T xs) xs i L k)), (9, .int .i64 ((k : Int) + 2))]) (fun k w' => k ≤ L - 1 ∧ MapF kV w' gt (mfun xs.length (fun a m => (T xs a m).2) L i) ∧ MapF kV w' gi (mfun xs.length (fun a m => (T xs a m).1) L i) ∧ Sl encSt w' (.slice A xs.length c) xs ∧ Sym w' ∧ Fr [] w0 w') (fun k => L - k) 0 (h.sub (.cons rfl (.cons rfl (.cons rfl (.cons rfl (.cons rfl (.cons rfl (.cons rfl (.cons rfl .nil))))))))) ⟨by omega, hmt, hmi, hs, hy, hf⟩ ?_
    clear h a hmt hmi hs hy hf
    rintro k w7 a h ⟨hk, hmt, hmi, hs, hy, hf⟩
    have hdl : L / (k + 2) * (k + 2) ≤ L := Nat.div_mul_le_self _ _
    have hil := itemT_len xs i L k hL1
    refine wp_seq ?_
    refine wp_seq ?_
    refine wR ?_
    refine st_move h rfl rfl ?_; clear h a; intro a h
    refine st_move h rfl rfl ?_; clear h a; intro a h
    refine st_le h rfl rfl rfl ?_; clear h a; intro a h
    replace h : Ag a 115 [(0, _), (3, _), (4, _), (5, _), (6, _), (7, _), (8, _), (9, _), (42, _)] := h.sub (.cons rfl (.cons rfl (.cons rfl (.cons rfl (.cons rfl (.cons rfl (.cons rfl (.cons rfl (.cons rfl .nil)))))))))
    refine wnt ?_
    first | refine cond_dec h rfl (fun c3 => ?_) (fun c3 => ?_) | refine cond_ndec h rfl (fun c3 => ?_) (fun c3 => ?_) | refine cond_split h rfl (fun c3 => ?_) (fun c3 => ?_)
    ·have hk2 : 2 ≤ k + 2 := by omega
     refine wsn ?_
     refine wp_seq ?_
     refine wp_block ?_
     refine wp_seq ?_
     refine wR ?_
     refine st_move h rfl rfl ?_; clear h a; intro a h
     refine st_move h rfl rfl ?_; clear h a; intro a h
     refine st_quo (z := ((L / (k + 2) : Nat) : Int)) h rfl rfl (by omega) (by rw [IntWalk.i64_quo _ _ (by omega)]; exact (Int.natCast_ediv L (k + 2)).symm) rfl ?_; clear h a; intro a h
     refine st_assign h rfl rfl ?_; clear h a; intro a h
     replace h : Ag a 115 [(0, _), (3, _), (4, _), (5, _), (6, _), (7, _), (8, _), (9, _), (10, _)] := h.sub (.cons rfl (.cons rfl (.cons rfl (.cons rfl (.cons rfl (.cons rfl (.cons rfl (.cons rfl (.cons rfl .nil)))))))))
     refine wnt ?_
     refine wp_seq ?_
     refine wR ?_
     refine st_move h rfl rfl ?_; clear h a; intro a h
     refine st_move h rfl rfl ?_; clear h a; intro a h
     refine st_mul (z := ((L / (k + 2) * (k + 2) : Nat) : Int)) h rfl rfl (by rw [show ((L / (k + 2) : Nat) : Int) * ((k : Int) + 2) = ((L / (k + 2) * (k + 2) : Nat) : Int) from rfl]; exact IntWalk.i64_in _ (by omega)) rfl ?_; clear h a; intro a h
     refine st_move h rfl rfl ?_; clear h a; intro a h
     refine st_eq h rfl rfl rfl ?_; clear h a; intro a h
     refine st_move h rfl rfl ?_; clear h a; intro a h
     first | refine guard_dec (D := 53) h rfl ?_ ?_ | refine guard_ndec (D := 53) h rfl ?_ ?_ | refine guard_any (D := 53) h rfl ?_ ?_
     ·clear h; intro g0 h
      refine gd_yes h rfl rfl rfl rfl rfl rfl ?_
      refine st_move h rfl rfl ?_; clear h a; intro a h
      refine gd_yes h rfl rfl rfl rfl rfl rfl ?_
      refine st_move h rfl rfl ?_; clear h a; intro a h
      refine gd_yes h rfl rfl rfl rfl rfl rfl ?_
      refine st_move h rfl rfl ?_; clear h a; intro a h
      refine gd_yes h rfl rfl rfl rfl rfl rfl ?_
      refine st_sl_lh (p := i) (p' := i + L) h rfl rfl rfl el22 (by omega) (by omega) (by omega) (by omega) (by omega) rfl ?_; clear h a; intro a h
      refine gd_yes h rfl rfl rfl rfl rfl rfl ?_
      refine st_move h rfl rfl ?_; clear h a; intro a h
      refine gd_yes h rfl rfl rfl rfl rfl rfl ?_
      refine st_call h (evs_cons rfl (evs_cons rfl evs_nil)) co55 (repeats_ok _ (partS xs i L) _ _ (part_sl hs (by omega)) (by rw [part_len (show i + L ≤ xs.length by omega)]; have := Nat.div_le_self L (k + 2); omega)) rfl ?_; clear h a; rintro _ w8 ⟨rfl, hq⟩ a h
      replace hf := hf.next hq
      replace hmt := hmt.ext hq
      replace hmi := hmi.ext hq
      replace hs := hs.ext hq
      replace hy := hy.ext hq
      clear hq
      refine st_pick_t h rfl rfl rfl rfl ?_; clear h a; intro a h
      replace h : Ag a 115 [(0, _), (3, _), (4, _), (5, _), (6, _), (7, _), (8, _), (9, _), (10, _), (60, _)] := h.sub (.cons rfl (.cons rfl (.cons rfl (.cons rfl (.cons rfl (.cons rfl (.cons rfl (.cons rfl (.cons rfl (.cons rfl .nil))))))))))
      refine wnt ?_
      first | refine cond_dec h rfl (fun c4 => ?_) (fun c4 => ?_) | refine cond_ndec h rfl (fun c4 => ?_) (fun c4 => ?_) | refine cond_split h rfl (fun c4 => ?_) (fun c4 => ?_)
      ·have hone : 1 ≤ L / (k + 2) := by
        rcases Nat.eq_zero_or_pos (L / (k + 2)) with e | e
        ·rw [e] at hdl; have hz : L / (k + 2) * (k + 2) = L := by omega
         rw [e] at hz; omega
        ·exact e
       have hlt1 : L / (k + 2) < L := Nat.div_lt_self (by omega) (by omega)
       have hTl := (T_len xs i (L / (k + 2)) hone).2
       refine region_quiet hmix (by kernel_rfl) ?_
       refine qt_move h rfl rfl ?_; clear h a; intro a h
       refine qt_move h rfl rfl ?_; clear h a; intro a h
       refine qt_move h rfl rfl ?_; clear h a; intro a h
       refine qt_move h rfl rfl ?_; clear h a; intro a h
       refine qt_move h rfl rfl ?_; clear h a; intro a h
       refine qt_add h rfl rfl (by first | exact IntWalk.i64_in _ (by omega) | rfl) rfl ?_; clear h a; intro a h
       refine qt_lit (cs := [_, _]) h (evs_cons rfl (evs_cons rfl evs_nil)) bo98 (pok_cons rfl rfl rfl (pok_cons rfl rfl rfl pok_nil)) rfl rfl ?_; clear h a; intro a h
       refine qt_lookup (V := kV) (k := ((i : Int), (i : Int) + ((L / (k + 2) : Nat) : Int))) h rfl rfl (fun _ hw => hmt.ext hw) key98 Tryd.underlying95 zv9 (mfun_hit _ (i) (L / (k + 2)) _ _ (by omega) (by omega) (by omega) (by omega) (by omega) _) rfl ?_; clear h a; intro a h
       refine qt_adds h rfl rfl (by first | (simp; done) | (simp; omega)) rfl ?_; clear h a; intro a h
       refine qt_adds h rfl rfl (by first | (simp; done) | (simp; omega)) rfl ?_; clear h a; intro a h
       refine qt_move h rfl rfl ?_; clear h a; intro a h
       refine qt_call h (evs_cons rfl evs_nil) co46 (fun w hw => (itoa_ok (k + 2) w (by omega)).mono fun u w' ⟨e, f⟩ => ⟨e, f ▸ hw⟩) rfl ?_; clear h a; intro a h
       have hit := itoa_len (k + 2)
       refine qt_adds h rfl rfl (by simp; omega) rfl ?_; clear h a; intro a h
       refine qt_call h (evs_cons rfl (evs_cons rfl evs_nil)) co56 (fun w hw => (better_ok _ _ w).mono fun u w' ⟨e, f⟩ => ⟨e, f ▸ hw⟩) rfl ?_; clear h a; intro a h
       refine qt_assign h rfl rfl ?_; clear h a; intro a h
       refine wpQuiet_nil ?_
       intro w9 hq
       replace hf := hf.next hq
       replace hmt := hmt.ext hq
       replace hmi := hmi.ext hq
       replace hs := hs.ext hq
       replace hy := hy.ext hq
       clear hq
       replace h : Ag a 115 [(0, _), (3, _), (4, _), (5, _), (6, _), (7, _), (8, _), (9, _)] := h.sub (.cons rfl (.cons rfl (.cons rfl (.cons rfl (.cons rfl (.cons rfl (.cons rfl (.cons rfl .nil))))))))
       refine (norm_blk (norm_then ?_))
       refine wR ?_
       refine st_move h rfl rfl ?_; clear h a; intro a h
       refine st_add h rfl rfl (by first | exact IntWalk.i64_in _ (by omega) | rfl) rfl ?_; clear h a; intro a h
       refine st_assign h rfl rfl ?_; clear h a; intro a h
       replace h : Ag a 115 [(0, _), (3, _), (4, _), (5, _), (6, _), (7, _), (8, _), (9, _)] := h.sub (.cons rfl (.cons rfl (.cons rfl (.cons rfl (.cons rfl (.cons rfl (.cons rfl (.cons rfl .nil))))))))
       refine wnt ?_
       exact ⟨k + 1, h.sub (.cons rfl (.cons rfl (.cons rfl (.cons rfl (.cons rfl (.cons rfl (.cons (by first | rfl | exact congrArg (fun x => some (S x)) (itemTo_no (fun e => absurd e.1 (by omega))) | exact congrArg (fun x => some (S x)) (itemTo_no (fun e => c4 ((repsB_iff (by omega)).1 e.2))) | exact congrArg (fun x => some (S x)) (itemTo_yes (by omega) ((repsB_iff (by omega)).2 c4))) (.cons (by first | rfl | (congr 2; omega)) .nil)))))))), ⟨by omega, hmt, hmi, hs, hy, hf⟩, by omega⟩
      ·refine id ?_
       refine wp_skip (norm_blk (norm_then ?_))
       refine wR ?_
       refine st_move h rfl rfl ?_; clear h a; intro a h
       refine st_add h rfl rfl (by first | exact IntWalk.i64_in _ (by omega) | rfl) rfl ?_; clear h a; intro a h
       refine st_assign h rfl rfl ?_; clear h a; intro a h
       replace h : Ag a 115 [(0, _), (3, _), (4, _), (5, _), (6, _), (7, _), (8, _), (9, _)] := h.sub (.cons rfl (.cons rfl (.cons rfl (.cons rfl (.cons rfl (.cons rfl (.cons rfl (.cons rfl .nil))))))))
       refine wnt ?_
       exact ⟨k + 1, h.sub (.cons rfl (.cons rfl (.cons rfl (.cons rfl (.cons rfl (.cons rfl (.cons (by first | rfl | exact congrArg (fun x => some (S x)) (itemTo_no (fun e => absurd e.1 (by omega))) | exact congrArg (fun x => some (S x)) (itemTo_no (fun e => c4 ((repsB_iff (by omega)).1 e.2))) | exact congrArg (fun x => some (S x)) (itemTo_yes (by omega) ((repsB_iff (by omega)).2 c4))) (.cons (by first | rfl | (congr 2; omega)) .nil)))))))), ⟨by omega, hmt, hmi, hs, hy, hf⟩, by omega⟩
     ·clear h; intro g0 h
      refine gd_no h rfl rfl rfl rfl rfl rfl rfl rfl ?_; clear h a; intro a h
      refine gd_no h rfl rfl rfl rfl rfl rfl rfl rfl ?_; clear h a; intro a h
      refine gd_no h rfl rfl rfl rfl rfl rfl rfl rfl ?_; clear h a; intro a h
      refine gd_no h rfl rfl rfl rfl rfl rfl rfl rfl ?_; clear h a; intro a h
      refine gd_no h rfl rfl rfl rfl rfl rfl rfl rfl ?_; clear h a; intro a h
      refine gd_no h rfl rfl rfl rfl rfl rfl rfl rfl ?_; clear h a; intro a h
      refine st_pick_f h rfl rfl rfl rfl ?_; clear h a; intro a h
      replace h : Ag a 115 [(0, _), (3, _), (4, _), (5, _), (6, _), (7, _), (8, _), (9, _), (10, _), (60, _)] := h.sub (.cons rfl (.cons rfl (.cons rfl (.cons rfl (.cons rfl (.cons rfl (.cons rfl (.cons rfl (.cons rfl (.cons rfl .nil))))))))))
      refine wnt ?_
      refine cond_false h rfl ?_
      refine wp_skip (norm_blk (norm_then ?_))
      refine wR ?_
      refine st_move h rfl rfl ?_; clear h a; intro a h
      refine st_add h rfl rfl (by first | exact IntWalk.i64_in _ (by omega) | rfl) rfl ?_; clear h a; intro a h
      refine st_assign h rfl rfl ?_; clear h a; intro a h
      replace h : Ag a 115 [(0, _), (3, _), (4, _), (5, _), (6, _), (7, _), (8, _), (9, _)] := h.sub (.cons rfl (.cons rfl (.cons rfl (.cons rfl (.cons rfl (.cons rfl (.cons rfl (.cons rfl .nil))))))))
      refine wnt ?_
      exact ⟨k + 1, h.sub (.cons rfl (.cons rfl (.cons rfl (.cons rfl (.cons rfl (.cons rfl (.cons (by first | rfl | exact congrArg (fun x => some (S x)) (itemTo_no (fun e => absurd e.1 (by omega))) | exact congrArg (fun x => some (S x)) (itemTo_no (fun e => c4 ((repsB_iff (by omega)).1 e.2))) | exact congrArg (fun x => some (S x)) (itemTo_yes (by omega) ((repsB_iff (by omega)).2 c4))) (.cons (by first | rfl | (congr 2; omega)) .nil)))))))), ⟨by omega, hmt, hmi, hs, hy, hf⟩, by omega⟩
    ·obtain rfl : k = L - 1 := by omega
     refine wp_exit (exit_then (exit_then (exit_here (norm_then ?_))))
     refine wp_seq ?_
     refine wR ?_
     refine st_move h rfl rfl ?_; clear h a; intro a h
     refine st_assign h rfl rfl ?_; clear h a; intro a h
     replace h : Ag a 115 [(0, _), (3, _), (4, _), (5, _), (6, _), (7, _), (8, _), (11, _)] := h.sub (.cons rfl (.cons rfl (.cons rfl (.cons rfl (.cons rfl (.cons rfl (.cons rfl (.cons rfl .nil))))))))
     refine wnt ?_
     refine wp_seq ?_
     refine wp_seq ?_
     refine wR ?_
     refine st_move h rfl rfl ?_; clear h a; intro a h
     refine st_add h rfl rfl (by first | exact IntWalk.i64_in _ (by omega) | rfl) rfl ?_; clear h a; intro a h
     refine st_assign h rfl rfl ?_; clear h a; intro a h
     replace h : Ag a 115 [(0, _), (3, _), (4, _), (5, _), (6, _), (7, _), (8, _), (11, _), (12, _)] := h.sub (.cons rfl (.cons rfl (.cons rfl (.cons rfl (.cons rfl (.cons rfl (.cons rfl (.cons rfl (.cons rfl .nil)))))))))
     refine wnt ?_
     refine wp_block ?_
     refine loop (ι := Nat) (fun m => [(0, .slice A xs.length c), (3, .map (some gt)), (4, .map (some gi)), (5, .int .i64 (L : Int)), (6, .int .i64 (i : Int)), (7, .int .i64 ((i : Int) + (L : Int))), (8, S (itemTo (T xs) xs i L (L - 1))), (11, S (textTo (T xs) i L (itemTo (T xs) xs i L (L - 1)) m)), (12, .int .i64 ((i : Int) + 1 + (m : Int)))]) (fun m w' => m ≤ L - 1 ∧ MapF kV w' gt (mfun xs.length (fun a m => (T xs a m).2) L i) ∧ MapF kV w' gi (mfun xs.length (fun a m => (T xs a m).1) L i) ∧ Sl encSt w' (.slice A xs.length c) xs ∧ Sym w' ∧ Fr [] w0 w') (fun m => L - m) 0 (h.sub (.cons rfl (.cons rfl (.cons rfl (.cons rfl (.cons rfl (.cons rfl (.cons rfl (.cons rfl (.cons (by first | rfl | (congr 2; omega)) .nil)))))))))) ⟨by omega, hmt, hmi, hs, hy, hf⟩ ?_
     clear h a hmt hmi hs hy hf
     rintro m w10 a h ⟨hml, hmt, hmi, hs, hy, hf⟩
     have hil := itemT_len xs i L (L - 1) hL1
     have htl := textT_len xs i L m _ hil (by omega)
     refine wp_seq ?_
     refine wp_seq ?_
     refine wR ?_
     refine st_move h rfl rfl ?_; clear h a; intro a h
     refine st_move h rfl rfl ?_; clear h a; intro a h
     refine st_lt h rfl rfl rfl ?_; clear h a; intro a h
     replace h : Ag a 115 [(0, _), (3, _), (4, _), (5, _), (6, _), (7, _), (8, _), (11, _), (12, _), (80, _)] := h.sub (.cons rfl (.cons rfl (.cons rfl (.cons rfl (.cons rfl (.cons rfl (.cons rfl (.cons rfl (.cons rfl (.cons rfl .nil))))))))))
     refine wnt ?_
     first | refine cond_dec h rfl (fun c5 => ?_) (fun c5 => ?_) | refine cond_ndec h rfl (fun c5 => ?_) (fun c5 => ?_) | refine cond_split h rfl (fun c5 => ?_) (fun c5 => ?_)
     ·refine id ?_
      refine wsn ?_
      refine wp_seq ?_
      refine wp_block ?_
      refine wp_seq ?_
      refine wR ?_
      refine st_move h rfl rfl ?_; clear h a; intro a h
      refine st_move h rfl rfl ?_; clear h a; intro a h
      refine st_move h rfl rfl ?_; clear h a; intro a h
      refine st_lit (cs := [_, _]) h (evs_cons rfl (evs_cons rfl evs_nil)) bo98 (pok_cons rfl rfl rfl (pok_cons rfl rfl rfl pok_nil)) rfl rfl ?_; clear h a; intro a h
      have hTi := T_len xs i (m + 1) (by omega)
      refine st_lookup (V := kV) (k := ((i : Int), (i : Int) + 1 + (m : Int))) h rfl rfl hmi key98 Tryd.underlying95 zv9 (mfun_hit _ (i) (m + 1) _ _ (by omega) (by omega) (by omega) (by omega) (by omega) _) rfl ?_; clear h a; intro a h
      refine st_assign h rfl rfl ?_; clear h a; intro a h
      replace h : Ag a 115 [(0, _), (3, _), (4, _), (5, _), (6, _), (7, _), (8, _), (11, _), (12, _), (13, _)] := h.sub (.cons rfl (.cons rfl (.cons rfl (.cons rfl (.cons rfl (.cons rfl (.cons rfl (.cons rfl (.cons rfl (.cons rfl .nil))))))))))
      refine wnt ?_
      refine wp_seq ?_
      refine wR ?_
      refine st_move h rfl rfl ?_; clear h a; intro a h
      refine st_nes h rfl rfl rfl ?_; clear h a; intro a h
      replace h : Ag a 115 [(0, _), (3, _), (4, _), (5, _), (6, _), (7, _), (8, _), (11, _), (12, _), (13, _), (89, _)] := h.sub (.cons rfl (.cons rfl (.cons rfl (.cons rfl (.cons rfl (.cons rfl (.cons rfl (.cons rfl (.cons rfl (.cons rfl (.cons rfl .nil)))))))))))
      refine wnt ?_
      first | refine cond_dec h rfl (fun c6 => ?_) (fun c6 => ?_) | refine cond_ndec h rfl (fun c6 => ?_) (fun c6 => ?_) | refine cond_split h rfl (fun c6 => ?_) (fun c6 => ?_)
      ·refine id ?_
       refine wR ?_
       refine st_move h rfl rfl ?_; clear h a; intro a h
       refine st_move h rfl rfl ?_; clear h a; intro a h
       refine st_adds h rfl rfl (by first | (simp; done) | (simp; omega)) rfl ?_; clear h a; intro a h
       refine st_move h rfl rfl ?_; clear h a; intro a h
       refine st_move h rfl rfl ?_; clear h a; intro a h
       refine st_move h rfl rfl ?_; clear h a; intro a h
       refine st_lit (cs := [_, _]) h (evs_cons rfl (evs_cons rfl evs_nil)) bo98 (pok_cons rfl rfl rfl (pok_cons rfl rfl rfl pok_nil)) rfl rfl ?_; clear h a; intro a h
       have hTr := (T_len xs (i + (m + 1)) (L - (m + 1)) (by omega)).2
       refine st_lookup (V := kV) (k := ((i : Int) + 1 + (m : Int), (i : Int) + (L : Int))) h rfl rfl hmt key98 Tryd.underlying95 zv9 (mfun_hit _ (i + (m + 1)) (L - (m + 1)) _ _ (by omega) (by omega) (by omega) (by omega) (by omega) _) rfl ?_; clear h a; intro a h
       refine st_adds h rfl rfl (by first | (simp; done) | (simp; omega)) rfl ?_; clear h a; intro a h
       refine st_call h (evs_cons rfl (evs_cons rfl evs_nil)) co56 (better_ok _ _ _) rfl ?_; clear h a; rintro _ _ ⟨rfl, rfl⟩ a h
       refine st_assign h rfl rfl ?_; clear h a; intro a h
       replace h : Ag a 115 [(0, _), (3, _), (4, _), (5, _), (6, _), (7, _), (8, _), (11, _), (12, _)] := h.sub (.cons rfl (.cons rfl (.cons rfl (.cons rfl (.cons rfl (.cons rfl (.cons rfl (.cons rfl (.cons rfl .nil)))))))))
       refine wpList_nil (norm_blk (norm_then ?_))
       refine wR ?_
       refine st_move h rfl rfl ?_; clear h a; intro a h
       refine st_add h rfl rfl (by first | exact IntWalk.i64_in _ (by omega) | rfl) rfl ?_; clear h a; intro a h
       refine st_assign h rfl rfl ?_; clear h a; intro a h
       replace h : Ag a 115 [(0, _), (3, _), (4, _), (5, _), (6, _), (7, _), (8, _), (11, _), (12, _)] := h.sub (.cons rfl (.cons rfl (.cons rfl (.cons rfl (.cons rfl (.cons rfl (.cons rfl (.cons rfl (.cons rfl .nil)))))))))
       refine wnt ?_
       exact ⟨m + 1, h.sub (.cons rfl (.cons rfl (.cons rfl (.cons rfl (.cons rfl (.cons rfl (.cons rfl (.cons (by first | exact congrArg (fun x => some (S x)) (textTo_yes c6) | exact congrArg (fun x => some (S x)) (textTo_no c6)) (.cons (by first | rfl | (congr 2; omega)) .nil))))))))), ⟨by omega, hmt, hmi, hs, hy, hf⟩, by omega⟩
      ·refine id ?_
       refine wp_skip (norm_blk (norm_then ?_))
       refine wR ?_
       refine st_move h rfl rfl ?_; clear h a; intro a h
       refine st_add h rfl rfl (by first | exact IntWalk.i64_in _ (by omega) | rfl) rfl ?_; clear h a; intro a h
       refine st_assign h rfl rfl ?_; clear h a; intro a h
       replace h : Ag a 115 [(0, _), (3, _), (4, _), (5, _), (6, _), (7, _), (8, _), (11, _), (12, _)] := h.sub (.cons rfl (.cons rfl (.cons rfl (.cons rfl (.cons rfl (.cons rfl (.cons rfl (.cons rfl (.cons rfl .nil)))))))))
       refine wnt ?_
       exact ⟨m + 1, h.sub (.cons rfl (.cons rfl (.cons rfl (.cons rfl (.cons rfl (.cons rfl (.cons rfl (.cons (by first | exact congrArg (fun x => some (S x)) (textTo_yes c6) | exact congrArg (fun x => some (S x)) (textTo_no c6)) (.cons (by first | rfl | (congr 2; omega)) .nil))))))))), ⟨by omega, hmt, hmi, hs, hy, hf⟩, by omega⟩
     ·obtain rfl : m = L - 1 := by omega
      rw [show itemTo (T xs) xs i L (L - 1) = (T xs i L).1 from (T_item xs i L hL1 (by omega)).symm, ← T_text xs i L hL1 (by omega), T_item xs i L hL1 (by omega)] at h
      refine wp_exit (exit_then (exit_then (exit_here (norm_then ?_))))
      refine wp_seq ?_
      refine wR ?_
      refine st_move h rfl rfl ?_; clear h a; intro a h
      refine st_move h rfl rfl ?_; clear h a; intro a h
      refine st_move h rfl rfl ?_; clear h a; intro a h
      refine st_lit (cs := [_, _]) h (evs_cons rfl (evs_cons rfl evs_nil)) bo98 (pok_cons rfl rfl rfl (pok_cons rfl rfl rfl pok_nil)) rfl rfl ?_; clear h a; intro a h
      refine st_move h rfl rfl ?_; clear h a; intro a h
      refine st_mapSet (k := ((i : Int), (i : Int) + (L : Int))) h rfl rfl rfl hmi key98 Tryd.underlying95 ?_; clear h a; intro w11 hmn hq hz a h
      replace hf := hf.step hq (by simp; omega)
      replace hs := hs.fr hq (by intro k hk hb; have := hrb k hb; simp at hk; omega)
      replace hy := hy.fr hq (by simp; omega)
      replace hmt := hmt.fr hq (by simp; omega)
      rw [show itemTo (T xs) xs i L (L - 1) = (T xs i L).1 from (T_item xs i L hL1 (by omega)).symm] at hmn
      rw [mfun_set (fun a m => (T xs a m).1) hL1 (by omega)] at hmn
      clear hq hz hmi; have hmi := hmn; clear hmn
      replace h : Ag a 115 [(0, _), (3, _), (4, _), (5, _), (6, _), (7, _), (11, _)] := h.sub (.cons rfl (.cons rfl (.cons rfl (.cons rfl (.cons rfl (.cons rfl (.cons rfl .nil)))))))
      refine wnt ?_
      refine wR ?_
      refine st_move h rfl rfl ?_; clear h a; intro a h
      refine st_move h rfl rfl ?_; clear h a; intro a h
      refine st_move h rfl rfl ?_; clear h a; intro a h
      refine st_lit (cs := [_, _]) h (evs_cons rfl (evs_cons rfl evs_nil)) bo98 (pok_cons rfl rfl rfl (pok_cons rfl rfl rfl pok_nil)) rfl rfl ?_; clear h a; intro a h
      refine st_move h rfl rfl ?_; clear h a; intro a h
      refine st_mapSet (k := ((i : Int), (i : Int) + (L : Int))) h rfl rfl rfl hmt key98 Tryd.underlying95 ?_; clear h a; intro w12 hmn hq hz a h
      replace hf := hf.step hq (by simp; omega)
      replace hs := hs.fr hq (by intro k hk hb; have := hrb k hb; simp at hk; omega)
      replace hy := hy.fr hq (by simp; omega)
      replace hmi := hmi.fr hq (by simp; omega)
      rw [mfun_set (fun a m => (T xs a m).2) hL1 (by omega)] at hmn
      clear hq hz hmt; have hmt := hmn; clear hmn
      replace h : Ag a 115 [(0, _), (3, _), (4, _), (5, _), (6, _)] := h.sub (.cons rfl (.cons rfl (.cons rfl (.cons rfl (.cons rfl .nil)))))
      refine wpList_nil (norm_blk (norm_then ?_))
      refine wR ?_
      refine st_move h rfl rfl ?_; clear h a; intro a h
      refine st_add h rfl rfl (by first | exact IntWalk.i64_in _ (by omega) | rfl) rfl ?_; clear h a; intro a h
      refine st_assign h rfl rfl ?_; clear h a; intro a h
      replace h : Ag a 115 [(0, _), (3, _), (4, _), (5, _), (6, _)] := h.sub (.cons rfl (.cons rfl (.cons rfl (.cons rfl (.cons rfl .nil)))))
      refine wnt ?_
      exact ⟨i + 1, h.sub (.cons rfl (.cons rfl (.cons rfl (.cons rfl (.cons rfl .nil))))), ⟨by omega, hmt, hmi, hs, hy, hf⟩, by omega⟩
  ·refine id ?_
   refine wp_exit (exit_then (exit_then (exit_here (norm_blk (norm_then ?_)))))
   refine wR ?_
   refine st_move h rfl rfl ?_; clear h a; intro a h
   refine st_add h rfl rfl (by first | exact IntWalk.i64_in _ (by omega) | rfl) rfl ?_; clear h a; intro a h
   refine st_assign h rfl rfl ?_; clear h a; intro a h
   replace h : Ag a 115 [(0, _), (3, _), (4, _), (5, _)] := h.sub (.cons rfl (.cons rfl (.cons rfl (.cons rfl .nil))))
   refine wnt ?_
   exact ⟨L + 1, h.sub (.cons rfl (.cons rfl (.cons rfl (.cons rfl .nil)))), ⟨by omega, by omega, by rw [← mfun_next _ (show xs.length < i + L by omega)]; exact hmt, by rw [← mfun_next _ (show xs.length < i + L by omega)]; exact hmi, hs, hy, hf⟩, by omega⟩
 ·obtain rfl : L = xs.length + 1 := by omega
  refine wp_exit (exit_then (exit_then (exit_here (norm_then ?_))))
  refine wp_seq ?_
  refine wR ?_
  refine st_move h rfl rfl ?_; clear h a; intro a h
  refine st_move h rfl rfl ?_; clear h a; intro a h
  refine st_lenS h rfl Tryd.underlying22 rfl ?_; clear h a; intro a h
  refine st_lit (cs := [_, _]) h (evs_cons rfl (evs_cons rfl evs_nil)) bo98 (pok_cons rfl rfl rfl (pok_cons rfl rfl rfl pok_nil)) rfl rfl ?_; clear h a; intro a h
  refine st_lookup (V := kV) (k := (0, (xs.length : Int))) h rfl rfl hmt key98 Tryd.underlying95 zv9 (mfun_hit _ 0 xs.length _ _ (by omega) (by omega) (by omega) (by omega) (by omega) _) rfl ?_; clear h a; intro a h
  refine st_assign h rfl rfl ?_; clear h a; intro a h
  replace h : Ag a 115 [(2, _)] := h.sub (.cons rfl .nil)
  refine wnt ?_
  refine wp_ret ?_
  refine ret1 h Tryd.results31 rfl ?_
  exact ⟨_, rfl, rfl, hf⟩
end Go.Proofs.YtbbnampdgefljaaDoor
namespace Go.G14
open Go.Lw

theorem refsym (k : Int) (h1 : 1 ≤ k) (h8 : k ≤ 8) : (([63, 107, 112, 111, 47, 118, 116, 115, 99] : List UInt8).take (k + 1).toNat).drop k.toNat = [symbols.getD (k - 1).toNat 0] := by
  rcases (by omega : k = 1 ∨ k = 2 ∨ k = 3 ∨ k = 4 ∨ k = 5 ∨ k = 6 ∨ k = 7 ∨ k = 8) with rfl | rfl | rfl | rfl | rfl | rfl | rfl | rfl <;> rfl
theorem refdig (k : Int) (h1 : 0 ≤ k) (h8 : k ≤ 6) : (([48, 49, 50, 51, 52, 53, 54] : List UInt8).take (k + 1).toNat).drop k.toNat = [dg k] := by
  rcases (by omega : k = 0 ∨ k = 1 ∨ k = 2 ∨ k = 3 ∨ k = 4 ∨ k = 5 ∨ k = 6) with rfl | rfl | rfl | rfl | rfl | rfl | rfl <;> rfl
def textsL : List (List UInt8) := [[91, 107, 32, 112, 93, 120, 50], [91, 91, 107, 93, 120, 50, 32, 112, 93, 120, 50, 32, 111], [91, 107, 93, 120, 49], [91, 107, 93, 120, 48, 50], [107, 93, 120, 50], [91, 32, 107, 93, 120, 50], [107, 32, 32, 112], [91, 107, 93, 120, 49, 54, 32, 107]]
def plainL : List (List UInt8) := [[107, 32, 112, 32, 107, 32, 112], [107, 32, 107, 32, 112, 32, 107, 32, 107, 32, 112, 32, 111], [], [], [], [], [], []]
def errsL : List Int := [0, 0, 4, 4, 4, 4, 4, 3]
def longL : List (List UInt8) := [[107, 32, 107], [107, 32, 107, 32, 107], [47, 32, 47, 32, 47], [107, 32, 112, 32, 107, 32, 112, 32, 107, 32, 112, 32, 111], [107, 32, 107, 32, 112, 32, 107, 32, 107, 32, 112, 32, 107, 32, 107, 32, 112]]
def shortL : List (List UInt8) := [[107, 32, 107], [91, 107, 93, 120, 51], [47, 32, 47, 32, 47], [91, 107, 32, 112, 93, 120, 51, 32, 111], [91, 107, 32, 107, 32, 112, 93, 120, 51]]
/-- The texts of the first stitches, with spaces between them. -/
def joinTo (xs : List Stitch) : Nat → List UInt8
  | 0 => []
  | k + 1 => (if 0 < k then joinTo xs k ++ [32] else joinTo xs k) ++ textS (xs.getD k zeroSt)
theorem join_len (xs : List Stitch) : ∀ k, (joinTo xs k).length ≤ 6 * k
  | 0 => by simp [joinTo]
  | k + 1 => by
    have := join_len xs k
    have := textS_len (xs.getD k zeroSt)
    unfold joinTo
    split <;> simp only [List.length_append, List.length_singleton] <;> omega
theorem join_one {xs : List Stitch} {k : Nat} {x : Stitch} (hx : xs[k]? = some x) (h : ¬ 0 < (k : Int)) : joinTo xs k ++ textS x = joinTo xs (k + 1) := by
  rw [joinTo, if_neg (by omega), List.getD, hx]; rfl
theorem join_next {xs : List Stitch} {k : Nat} {x : Stitch} (hx : xs[k]? = some x) (h : 0 < (k : Int)) : joinTo xs k ++ [32] ++ textS x = joinTo xs (k + 1) := by
  rw [joinTo, if_pos (by omega), List.getD, hx]; rfl
theorem getD_get {α : Type} {l : List α} {i : Nat} (h : i < l.length) (d : α) : l[i]? = some (l.getD i d) := by
  rw [List.getD, List.getElem?_eq_getElem h]; rfl
theorem okB_pos {x : Stitch} (h : okB x = true) : 0 ≤ x.k ∧ 0 ≤ x.y := by
  have := check_rng ((okB_iff x).1 h); omega
theorem livesT : ∀ i, i < 8 → (expandS (textsL.getD i [])).2 = errsL.getD i 0 ∧ joinTo (expandS (textsL.getD i [])).1 (expandS (textsL.getD i [])).1.length = plainL.getD i [] ∧ (expandS (textsL.getD i [])).1.all okB = true := by decide +kernel
theorem livesN : ∀ i, i < 8 → (textsL.getD i []).length ≤ 20 := by decide +kernel
theorem livesX : ∀ i, i < 8 → (expandS (textsL.getD i [])).1.length ≤ 16 := by decide +kernel
theorem livesM : ∀ i, i < 5 → (longL.getD i []).length ≤ 20 := by decide +kernel
theorem livesU : ∀ i, i < 5 → (expandS (longL.getD i [])).2 = 0 ∧ shortenS (expandS (longL.getD i [])).1 = (shortL.getD i [], 0) := by decide +kernel
end Go.G14
namespace Go.Lw
open Go.RowKit

abbrev SV := Option Addr × Nat × Nat
def slv (p : SV) : Value := .slice p.1 p.2.1 p.2.2

/-- Rows of the call's own, no two in one block, none in a block of X. -/
structure Ins {α : Type} (E : Enc α) (T : TypeId) (base : Nat) (w : World) (X : List Nat) (ps : List (SV × List α)) : Prop where
  own : ∀ p ∈ ps, Own E T base w (slv p.1) p.2
  off : ∀ p ∈ ps, ∀ k ∈ blks (slv p.1), k ∉ X
  dis : ps.Pairwise fun p q => ∀ k ∈ blks (slv p.1), k ∉ blks (slv q.1)

section
variable {α : Type} {E : Enc α} {T : TypeId} {base : Nat} {w w' : World} {X Y S : List Nat} {ps qs : List (SV × List α)} {u u' : SV} {r r' : List α}

theorem Ins.fr (h : Ins E T base w X ps) (hf : Fr S w w') (hn : ∀ k ∈ S, ∀ p ∈ ps, k ∉ blks (slv p.1)) : Ins E T base w' X ps :=
  ⟨fun p hp => (h.own p hp).fr hf fun k hk => hn k hk p hp, h.off, h.dis⟩
theorem Ins.ext (h : Ins E T base w X ps) (hf : Fr [] w w') : Ins E T base w' X ps := h.fr hf (by simp)
theorem Ins.left (h : Ins E T base w X (ps ++ qs)) : Ins E T base w X ps :=
  ⟨fun p hp => h.own p (List.mem_append_left _ hp), fun p hp => h.off p (List.mem_append_left _ hp), (List.pairwise_append.1 h.dis).1⟩
theorem Ins.right (h : Ins E T base w X (ps ++ qs)) : Ins E T base w X qs :=
  ⟨fun p hp => h.own p (List.mem_append_right _ hp), fun p hp => h.off p (List.mem_append_right _ hp), (List.pairwise_append.1 h.dis).2.1⟩
theorem Ins.blk (h : Ins E T base w X ps) : ∀ p ∈ ps, ∀ k ∈ blks (slv p.1), base ≤ k ∧ k < w.heap.size := fun p hp => (h.own p hp).blk
/-- Another set of blocks to keep off: old ones, or new ones. -/
theorem Ins.newX (h : Ins E T base w X ps) (hY : ∀ k ∈ Y, k ∈ X ∨ w.heap.size ≤ k) : Ins E T base w Y ps :=
  ⟨h.own, fun p hp k hk hy => (hY k hy).elim (h.off p hp k hk) fun e => by have := (h.blk p hp k hk).2; omega, h.dis⟩
theorem Ins.nil : Ins E T base w X ([] : List (SV × List α)) := ⟨fun _ h => by simp at h, fun _ h => by simp at h, List.Pairwise.nil⟩
theorem Ins.snoc (h : Ins E T base w X ps) (ho : Own E T base w (slv u) r) (hX : ∀ k ∈ blks (slv u), k ∉ X) (hd : ∀ p ∈ ps, ∀ k ∈ blks (slv p.1), k ∉ blks (slv u)) : Ins E T base w X (ps ++ [(u, r)]) := by
  refine ⟨fun p hp => ?_, fun p hp => ?_, List.pairwise_append.2 ⟨h.dis, by simp, fun p hp q hq => ?_⟩⟩
  · rcases List.mem_append.1 hp with hp | hp
    · exact h.own p hp
    · simp at hp; subst hp; exact ho
  · rcases List.mem_append.1 hp with hp | hp
    · exact h.off p hp
    · simp at hp; subst hp; exact hX
  · simp at hq; subst hq; exact hd p hp
/-- A row that lies in no old block. -/
theorem Ins.push (h : Ins E T base w X ps) (ho : Own E T base w (slv u) r) (hX : ∀ k ∈ blks (slv u), k ∉ X) (hd : ∀ k ∈ blks (slv u), ∀ p ∈ ps, k ∉ blks (slv p.1)) : Ins E T base w X (ps ++ [(u, r)]) :=
  h.snoc ho hX fun p hp k hk hk' => hd k hk' p hp hk
theorem Ins.pushNil (h : Ins E T base w X ps) : Ins E T base w X (ps ++ [((none, 0, 0), [])]) := h.snoc (Own.nil w) (by simp [slv, blks]) (by simp [slv, blks])
theorem Ins.last (h : Ins E T base w X (ps ++ [(u, r)])) : Own E T base w (slv u) r := h.own (u, r) (List.mem_append_right _ (List.mem_singleton.2 rfl))
theorem Ins.lastOff (h : Ins E T base w X (ps ++ [(u, r)])) : ∀ k ∈ blks (slv u), k ∉ X := h.off (u, r) (List.mem_append_right _ (List.mem_singleton.2 rfl))
theorem Ins.lastDis (h : Ins E T base w X (ps ++ [(u, r)])) : ∀ p ∈ ps, ∀ k ∈ blks (slv p.1), k ∉ blks (slv u) := fun p hp => (List.pairwise_append.1 h.dis).2.2 p hp (u, r) (List.mem_singleton.2 rfl)
/-- The last row is written anew: in its own block, or in a new one. -/
theorem Ins.upd (h : Ins E T base w X (ps ++ [(u, r)])) (hf : Fr (blks (slv u)) w w') (ho : Own E T base w' (slv u') r') (hb : ∀ k ∈ blks (slv u'), k ∈ blks (slv u) ∨ w.heap.size ≤ k) (hX : ∀ k ∈ X, k < w.heap.size) : Ins E T base w' X (ps ++ [(u', r')]) := by
  refine (h.left.fr hf fun k hk p hp hk' => h.lastDis p hp k hk' hk).snoc ho (fun k hk hx => ?_) fun p hp k hk hk' => ?_
  · rcases hb k hk with e | e
    · exact h.lastOff k e hx
    · have := hX k hx; omega
  · rcases hb k hk' with e | e
    · exact h.lastDis p hp k hk e
    · have := (h.left.blk p hp k hk).2; omega
/-- The last two, exchanged. -/
theorem Ins.swap {v : SV} {s : List α} (h : Ins E T base w X (ps ++ [(u, r)] ++ [(v, s)])) : Ins E T base w X (ps ++ [(v, s)] ++ [(u, r)]) := by
  have hd : ∀ k ∈ blks (slv u), k ∉ blks (slv v) := h.lastDis (u, r) (by simp)
  refine (h.left.left.snoc h.last h.lastOff fun p hp => h.lastDis p (by simp [hp])).snoc h.left.last h.left.lastOff fun p hp k hk hk' => ?_
  rcases List.mem_append.1 hp with hp | hp
  · exact h.left.lastDis p hp k hk hk'
  · simp at hp; subst hp; exact hd k hk' hk
/-- The beginning of the last row. -/
theorem Ins.cut (h : Ins E T base w X (ps ++ [(u, r)])) {A : Option Addr} {n c c' m : Nat} (hu : u = (A, n, c)) (hm : m ≤ r.length) (hc : c' ≤ c) (hmc : m ≤ c') : Ins E T base w X (ps ++ [((A, m, c'), r.take m)]) := by
  subst hu
  have hb : blks (slv (A, m, c')) = blks (slv (A, n, c)) := by cases A <;> rfl
  refine h.left.snoc (h.last.take rfl hm hc hmc) ?_ ?_
  · rw [hb]; exact h.lastOff
  · rw [hb]; exact h.lastDis

theorem flat_set (ys : List α) (z : α) (R : List Value) : ∀ (i : Nat), i < ys.length → (ys.flatMap E.enc ++ R).take (i * E.sz) ++ E.enc z ++ (ys.flatMap E.enc ++ R).drop (i * E.sz + E.sz) = (ys.set i z).flatMap E.enc ++ R := by
  intro i hi
  obtain ⟨p, y, s, rfl, rfl⟩ : ∃ p y s, ys = p ++ y :: s ∧ p.length = i := ⟨ys.take i, ys[i], ys.drop (i + 1), by simp, by simp; omega⟩
  have h1 : p.length * E.sz = (p.flatMap E.enc).length := (E.flat_len p).symm
  rw [List.set_append_right _ _ (Nat.le_refl _), Nat.sub_self, List.set_cons_zero]
  simp only [List.flatMap_append, List.flatMap_cons, List.append_assoc]
  rw [h1, List.take_left, List.drop_append, List.drop_of_length_le (by omega), List.nil_append, show (p.flatMap E.enc).length + E.sz - (p.flatMap E.enc).length = (E.enc y).length by rw [E.len]; omega, List.drop_left]
end
section
variable {P : Program} {ops : Array Oper} {Q : Exit → Act → World → Prop} {rest : List Oper} {a : Act} {w : World} {n : Nat} {L : List (Nat × Value)} {ds : List Nat} {ty : TypeId} {pos : String} {after : Array Edge} {x y : Operand} {t T : TypeId} {v : Value}
/-- An element of a slice of the call's own is written. -/
theorem st_storeO {α : Type} {E : Enc α} {base g m c i : Nat} {ys : List α} (z : α) (h : AgM ds a n L) (hx : ev L x = some (.pointer (some ((⟨g, 0, none⟩ : Addr).add (i * E.sz))))) (hy : ev L y = some v) (ho : Own E T base w (.slice (some ⟨g, 0, none⟩) m c) ys) (hi : i < ys.length)
    (hc : v.cells = (E.enc z).toArray) (hs : SizeOf P t E.sz)
    (q : ∀ w', Own E T base w' (.slice (some ⟨g, 0, none⟩) m c) (ys.set i z) → Fr [g] w w' → w'.heap.size = w.heap.size → ∀ a, AgM ds a n L → wpList P ops Q rest a w') : wpList P ops Q (⟨none, .store t x y, ty, pos, after, none⟩ :: rest) a w := by
  rcases ho with ⟨e, _⟩ | ⟨g', cap, cur, e, hb, hg, h1, h2, h3, h4⟩
  · cases e
  cases e
  have hil : i * E.sz + E.sz ≤ ys.length * E.sz := by rw [← Nat.succ_mul]; exact Nat.mul_le_mul_right _ hi
  have hcs : ys.length * E.sz ≤ cur.size := Nat.le_trans (Nat.mul_le_mul_right _ h1) h3
  have hst := run_storeCells_at P g (i * E.sz) T (E.enc z) 0 cur w hg (by rw [E.len]; omega) (E.one z)
  rw [Nat.add_zero, E.len] at hst
  have hcur : cur.toList = ys.flatMap E.enc ++ cur.toList.drop (ys.length * E.sz) := by rw [← h4, List.take_append_drop]
  have hnew : cur.toList.take (i * E.sz) ++ E.enc z ++ cur.toList.drop (i * E.sz + E.sz) = (ys.set i z).flatMap E.enc ++ cur.toList.drop (ys.length * E.sz) := by
    conv => lhs; rw [hcur]
    exact flat_set ys z _ i hi
  rw [hnew] at hst
  refine st_skip h rfl rfl (w' := w.setRow g ((ys.set i z).flatMap E.enc ++ cur.toList.drop (ys.length * E.sz)).toArray) ?_ (q _ ?_ (Fr.setRow w g _) (by simp))
  · rw [lit_add, Nat.zero_add] at hx
    simp only [execOp, h.eval hx, h.eval hy, Sem.run_bind, Sem.run_pure, Result.andThen_ok, Instr.storeAt, Instr.sureAddr, storeVar, hs w, hc]
    simp [hst, E.len]
  · refine .inr ⟨g, c, _, by rw [List.length_set], hb, setRow_heap w g cur _ T _ hg, by rw [List.length_set]; exact h1, h2, ?_, ?_⟩
    · simp only [List.size_toArray, List.length_append, E.flat_len, List.length_set, List.length_drop, Array.length_toList]; omega
    · rw [List.length_set, show ys.length * E.sz = ((ys.set i z).flatMap E.enc).length by rw [E.flat_len, List.length_set]]
      exact List.take_left
end
section
variable {P : Program} {ops : Array Oper} {o o' : Oper} {K : Act → World → Prop} {C : World → Prop} {fu : Nat} {listed : Array Bool} {pq : Option Nat} {a : Act} {w : World}
theorem hd_come (ix : Nat) (hix : ops[ix]? = some o) (k : wpList P ops (NormEnd fun a' w' => Sat pq C (listed.setIfInBounds ix true) w' ∧ wpAnyP pq P ops (NormEnd K) C fu (listed.setIfInBounds ix true) a' w') [o] a w) :
    wpOp P ops (NormEnd K) ix (fun a w => Sat pq C (listed.setIfInBounds ix true) w ∧ wpAnyP pq P ops (NormEnd K) C fu (listed.setIfInBounds ix true) a w) a w := by
  unfold wpOp
  rw [hix]
  unfold wpList at k
  simp only
  split
  · rename_i hw
    rw [if_pos hw] at k
    rcases k with k | ⟨_, _, _, k⟩
    · refine .inl (Oper.wp_mono (fun a w h => h) ?_)
      unfold Oper.wp at k ⊢
      generalize (execOp a.eval o).run P w = r at k ⊢
      cases r with
      | ok nx w' =>
        cases nx <;> simp only [Oper.upon] at k ⊢ <;> first
          | exact k
          | exact Calls.mono k (fun e w'' he => by cases e <;> first | exact he | exact he.elim | (obtain ⟨_, _, he⟩ := he; exact he.elim))
          | exact Rows.mono k (fun _ _ he => he)
      | halt x w' => cases x <;> simp only [Oper.upon] at k ⊢ <;> exact k.elim
    · exact k.elim
  · rename_i hw
    rw [if_neg hw] at k
    exact k
/-- Two operations may come up. -/
theorem hd_two (i j : Nat) (hr : Region.ready .any ops listed = [i, j]) (hi : ops[i]? = some o) (hj : ops[j]? = some o')
    (k : wpList P ops (NormEnd fun a' w' => Sat pq C (listed.setIfInBounds i true) w' ∧ wpAnyP pq P ops (NormEnd K) C fu (listed.setIfInBounds i true) a' w') [o] a w)
    (k' : wpList P ops (NormEnd fun a' w' => Sat pq C (listed.setIfInBounds j true) w' ∧ wpAnyP pq P ops (NormEnd K) C fu (listed.setIfInBounds j true) a' w') [o'] a w) : wpAnyP pq P ops (NormEnd K) C (fu + 1) listed a w := by
  refine P_all hr (by simp) fun x hx => ?_
  simp at hx
  rcases hx with rfl | rfl
  · exact hd_come _ hi k
  · exact hd_come _ hj k'
end
end Go.Lw
namespace Go.G14
open Go.Lw

def wordS (l : List UInt8) (p : Nat) : List UInt8 := (l.take (wordEnd l p)).drop p
abbrev MSt := List (List Stitch) × List Stitch × Nat × Bool
/-- May a repeat end here? -/
def ends (l : List UInt8) (b : List (List Stitch)) (p : Nat) : Prop := l.getD p 0 = 93 ∧ b ≠ [] ∧ p + 1 < l.length ∧ l.getD (p + 1) 0 = 120
instance (l : List UInt8) (b : List (List Stitch)) (p : Nat) : Decidable (ends l b p) := by unfold ends; infer_instance
/-- One step: the rows of the open brackets below, the row on top, the place, and whether an item must follow. -/
def stepS (l : List UInt8) (b : List (List Stitch)) (t : List Stitch) (p : Nat) (it : Bool) : MSt ⊕ (List Stitch × Int) :=
  if it = true then
    if p < l.length then
      if l.getD p 0 = 91 then .inl (b ++ [t], [], p + 1, true)
      else if (parseS (wordS l p)).2 = 0 then .inl (b, (t ++ [(parseS (wordS l p)).1]).take 17, wordEnd l p, false) else .inr ([], 4)
    else .inr ([], 4)
  else if p < l.length then
    if l.getD p 0 = 32 then .inl (b, t, p + 1, true)
    else if ends l b p then
      if numberS (wordS l (p + 2)) 16 = 0 then .inr ([], 4)
      else .inl (b.dropLast, (b.getLast?.getD [] ++ timesS t (numberS (wordS l (p + 2)) 16).toNat).take 17, wordEnd l (p + 2), false)
    else .inr ([], 4)
  else if b ≠ [] then .inr ([], 4) else if 16 < t.length then .inr ([], 3) else .inr (t, 0)
inductive Mach (l : List UInt8) : List (List Stitch) → List Stitch → Nat → Bool → List Stitch × Int → Prop
  | done {b t p it R} (h : stepS l b t p it = .inr R) : Mach l b t p it R
  | next {b t p it b' t' p' it' R} (h : stepS l b t p it = .inl (b', t', p', it')) (m : Mach l b' t' p' it' R) : Mach l b t p it R
theorem Mach.det {l : List UInt8} {b : List (List Stitch)} {t : List Stitch} {p : Nat} {it : Bool} {R R' : List Stitch × Int} (h : Mach l b t p it R) (h' : Mach l b t p it R') : R = R' := by
  induction h with
  | done h =>
    cases h' with
    | done h2 => rw [h] at h2; cases h2; rfl
    | next h2 => rw [h] at h2; cases h2
  | next h m ih =>
    cases h' with
    | done h2 => rw [h] at h2; cases h2
    | next h2 m2 => rw [h] at h2; cases h2; exact ih m2
section
variable {l : List UInt8} {b : List (List Stitch)} {s t : List Stitch} {p : Nat} {R : List Stitch × Int}
theorem m_fin4 (hp : ¬ p < l.length) (hb : b ≠ []) : Mach l b t p false ([], 4) := .done (by rw [stepS, if_neg (by simp), if_neg hp, if_pos hb])
theorem m_fin3 (hp : ¬ p < l.length) (ht : 16 < t.length) : Mach l [] t p false ([], 3) := .done (by rw [stepS, if_neg (by simp), if_neg hp, if_neg (by simp), if_pos ht])
theorem m_fin0 (hp : ¬ p < l.length) (ht : ¬ 16 < t.length) : Mach l [] t p false (t, 0) := .done (by rw [stepS, if_neg (by simp), if_neg hp, if_neg (by simp), if_neg ht])
theorem m_space (hp : p < l.length) (hc : l.getD p 0 = 32) (m : Mach l b t (p + 1) true R) : Mach l b t p false R := .next (by rw [stepS, if_neg (by simp), if_pos hp, if_pos hc]) m
theorem m_bad (hp : p < l.length) (hc : l.getD p 0 ≠ 32) (he : ¬ ends l b p) : Mach l b t p false ([], 4) := .done (by rw [stepS, if_neg (by simp), if_pos hp, if_neg hc, if_neg he])
theorem ends_ns (he : ends l b p) : l.getD p 0 ≠ 32 := by rw [he.1]; decide
theorem m_num (he : ends l b p) (hn : numberS (wordS l (p + 2)) 16 = 0) : Mach l b t p false ([], 4) :=
  .done (by rw [stepS, if_neg (by simp), if_pos (by have := he.2.2.1; omega), if_neg (ends_ns he), if_pos he, if_pos hn])
theorem m_close (he : ends l (b ++ [s]) p) (hn : numberS (wordS l (p + 2)) 16 ≠ 0) (m : Mach l b ((s ++ timesS t (numberS (wordS l (p + 2)) 16).toNat).take 17) (wordEnd l (p + 2)) false R) : Mach l (b ++ [s]) t p false R :=
  .next (by rw [stepS, if_neg (by simp), if_pos (by have := he.2.2.1; omega), if_neg (ends_ns he), if_pos he, if_neg hn, List.dropLast_concat, List.getLast?_concat]; rfl) m
theorem m_end (hp : ¬ p < l.length) : Mach l b t p true ([], 4) := .done (by rw [stepS, if_pos rfl, if_neg hp])
theorem m_open (hp : p < l.length) (hc : l.getD p 0 = 91) (m : Mach l (b ++ [t]) [] (p + 1) true R) : Mach l b t p true R := .next (by rw [stepS, if_pos rfl, if_pos hp, if_pos hc]) m
theorem m_leaf4 (hp : p < l.length) (hc : l.getD p 0 ≠ 91) (hx : (parseS (wordS l p)).2 ≠ 0) : Mach l b t p true ([], 4) := .done (by rw [stepS, if_pos rfl, if_pos hp, if_neg hc, if_neg hx])
theorem m_leaf (hp : p < l.length) (hc : l.getD p 0 ≠ 91) (hx : (parseS (wordS l p)).2 = 0) (m : Mach l b ((t ++ [(parseS (wordS l p)).1]).take 17) (wordEnd l p) false R) : Mach l b t p true R := .next (by rw [stepS, if_pos rfl, if_pos hp, if_neg hc, if_pos hx]) m
end
/-- What the walk of the machine holds at its head. -/
structure RSt where
  ps : List (SV × List Stitch)
  u : SV
  t : List Stitch
  p : Nat
  it : Bool
  g : Nat
  c : Nat
theorem Own.lens {α : Type} {E : Enc α} {T : TypeId} {base : Nat} {w : World} {u : SV} {r : List α} (h : Own E T base w (slv u) r) : u.2.1 = r.length ∧ r.length ≤ u.2.2 := by
  obtain ⟨A, c, e, hc⟩ := h.sl.form
  unfold slv at e
  injection e with e1 e2 e3
  exact ⟨e2, by omega⟩
theorem Own.at_ {α : Type} {E : Enc α} {T : TypeId} {base : Nat} {w : World} {v : Value} {r : List α} (h : Own E T base w v r) (hr : r ≠ []) : ∃ g c, v = .slice (some ⟨g, 0, none⟩) r.length c ∧ base ≤ g ∧ r.length ≤ c ∧ g < w.heap.size := by
  rcases h with ⟨_, rfl⟩ | ⟨g, c, cur, e, hb, hg, h1, _⟩
  · exact absurd rfl hr
  · exact ⟨g, c, e, hb, h1, (Array.getElem?_eq_some_iff.1 hg).1⟩
theorem Ins.app {α : Type} {E : Enc α} {T : TypeId} {base : Nat} {w w' : World} {X : List Nat} {ps : List (SV × List α)} {u : SV} {r r' : List α} {v : Value} (h : Ins E T base w X (ps ++ [(u, r)])) (ho : Own E T base w' v r') (hq : Fr (blks (slv u)) w w')
    (hx : v = slv u ∨ blks v = blks (slv u) ∨ blks v = [w.heap.size]) (hX : ∀ k ∈ X, k < w.heap.size) : ∃ u', v = slv u' ∧ Ins E T base w' X (ps ++ [(u', r')]) := by
  obtain ⟨A, c, rfl, _⟩ := ho.sl.form
  refine ⟨(A, r'.length, c), rfl, h.upd hq ho (fun k hk => ?_) hX⟩
  have hk' : k ∈ blks (.slice A r'.length c) := hk
  rcases hx with e | e | e
  · rw [e] at hk'; exact .inl hk'
  · rw [e] at hk'; exact .inl hk'
  · rw [e] at hk'; simp at hk'; right; omega
section
variable {β : Type} {T : TypeId} {base : Nat} {w : World} {A : Option Addr} {n m c : Nat} {qs : List (SV × β)} {x : SV × β}
theorem top_get (hm : m = qs.length) : ((qs ++ [x]).map Prod.fst)[m]? = some x.1 := by subst hm; simp
theorem Own.pop (h : Own Enc.sl T base w (.slice A n c) ((qs ++ [x]).map Prod.fst)) (hm : m = qs.length) : Own Enc.sl T base w (.slice A m c) (qs.map Prod.fst) := by
  subst hm
  obtain ⟨_, c', e, h2⟩ := h.sl.form
  have hc : (qs ++ [x]).length ≤ c := by cases e; simpa using h2
  have h3 := h.take rfl (m := qs.length) (by simp) (Nat.le_refl _) (by simp at hc; omega)
  rw [List.map_append, List.take_left' (by simp)] at h3
  exact h3
theorem Own.reTop {z : SV} (h : Own Enc.sl T base w (.slice A n c) (((qs ++ [x]).map Prod.fst).set m z)) (hm : m = qs.length) (r : β) : Own Enc.sl T base w (.slice A n c) ((qs ++ [(z, r)]).map Prod.fst) := by
  subst hm
  rw [List.map_append, List.set_append_right _ _ (by simp)] at h
  simpa using h
theorem Own.capO (h : Own Enc.sl T base w (.slice A n c) ((qs ++ [x]).map Prod.fst)) : qs.length + 1 ≤ c ∧ n = qs.length + 1 := by
  obtain ⟨_, c', e, h2⟩ := h.sl.form
  cases e
  simpa using h2
end
theorem Ins.grow {α : Type} {E : Enc α} {T : TypeId} {base g g' n c m c' : Nat} {w w' : World} {ps : List (SV × List α)} (h : Ins E T base w [g] ps) (hq : Fr (blks (.slice (some ⟨g, 0, none⟩) n c)) w w')
    (hx : Value.slice (some ⟨g', 0, none⟩) m c' = .slice (some ⟨g, 0, none⟩) n c ∨ blks (.slice (some ⟨g', 0, none⟩) m c') = blks (.slice (some ⟨g, 0, none⟩) n c) ∨ blks (.slice (some ⟨g', 0, none⟩) m c') = [w.heap.size]) : Ins E T base w' [g'] ps := by
  refine (h.newX (Y := [g']) fun k hk => ?_).fr hq fun k hk q hq2 hk2 => h.off q hq2 k hk2 hk
  simp at hk; subst hk
  rcases hx with e | e | e
  · cases e; exact .inl (by simp)
  · simp [blks] at e; exact .inl (by simp [e])
  · simp [blks] at e; exact .inr (by omega)
theorem number_rng (l : List UInt8) : 0 ≤ numberS l 16 ∧ numberS l 16 ≤ 16 := by
  unfold numberS
  split
  · omega
  · split
    · omega
    · split <;> omega
theorem word_pos {l : List UInt8} {p : Nat} (hp : p ≤ l.length) (h : (parseS (wordS l p)).2 = 0) : p < wordEnd l p := by
  have := wordEnd_rng hp
  rcases Nat.lt_or_ge p (wordEnd l p) with c | c
  · exact c
  · rw [wordS, show wordEnd l p = p by omega, show (l.take p).drop p = [] by simp, parse_nil] at h; omega
theorem rep_cut {s t : List Stitch} {k n : Nat} (hk : k ≤ n) (h : ¬ (k < n ∧ (s ++ timesS t k).length < 17)) : (s ++ timesS t n).take 17 = (s ++ timesS t k).take 17 := by
  rcases Nat.lt_or_ge k n with c | c
  · have hl : 17 ≤ (s ++ timesS t k).length := by omega
    have e : timesS t n = timesS t k ++ timesS t (n - k) := by
      unfold timesS
      rw [← List.flatten_append, List.replicate_append_replicate, show k + (n - k) = n by omega]
    rw [e, ← List.append_assoc, List.take_append_of_le_length hl]
  · rw [show k = n by omega]
theorem expand_err {l : List UInt8} (h : (expandS l).2 ≠ 0) : (expandS l).1 = [] := by
  revert h
  unfold expandS
  split
  · intro _; rfl
  · split
    · intro _; rfl
    · split
      · intro _; rfl
      · intro h; exact absurd rfl h
end Go.G14
namespace Go.G14
open Go.Lw

def nb (c : UInt8) : Bool := decide (c ≠ 32 ∧ c ≠ 93)
theorem nb_iff (c : UInt8) : nb c = true ↔ c ≠ 32 ∧ c ≠ 93 := by simp [nb]
theorem dig_nb {c : UInt8} (h : isDig c = true) : nb c = true := by
  rw [nb_iff]
  have := (isDig_iff c).1 h
  constructor
  · rintro rfl; simp at this
  · rintro rfl; simp at this
theorem drop_get {l : List UInt8} {p : Nat} (h : p < l.length) : l.drop p = l.getD p 0 :: l.drop (p + 1) := by
  rw [List.drop_eq_getElem_cons h]; simp [List.getD, h]
theorem word_end {l : List UInt8} : ∀ (m p : Nat), l.length - p = m → p ≤ l.length → wordEnd l p = p + ((l.drop p).takeWhile nb).length
  | 0, p, hm, hp => by
    rw [show p = l.length by omega, List.drop_length, wordEnd_here (by omega)]; rfl
  | m + 1, p, hm, hp => by
    have hlt : p < l.length := by omega
    rw [drop_get hlt]
    by_cases c : nb (l.getD p 0) = true
    · rw [List.takeWhile_cons_of_pos c, wordEnd_next ⟨hlt, (nb_iff _).1 c⟩, word_end m (p + 1) (by omega) (by omega), List.length_cons]; omega
    · rw [List.takeWhile_cons_of_neg c, wordEnd_here (fun e => c ((nb_iff _).2 e.2))]; rfl
theorem word_tw {l : List UInt8} {p : Nat} (hp : p ≤ l.length) : wordS l p = (l.drop p).takeWhile nb := by
  rw [wordS, word_end _ p rfl hp, List.drop_take, Nat.add_sub_cancel_left]
  exact (List.prefix_iff_eq_take.1 (List.takeWhile_prefix nb)).symm
theorem tw_app {f : UInt8 → Bool} : ∀ (a b : List UInt8), a.all f = true → (a ++ b).takeWhile f = a ++ b.takeWhile f
  | [], b, _ => rfl
  | x :: a, b, h => by
    simp only [List.all_cons, Bool.and_eq_true] at h
    rw [List.cons_append, List.takeWhile_cons_of_pos h.1, tw_app a b h.2, List.cons_append]
theorem tw_all {f : UInt8 → Bool} : ∀ (l : List UInt8), (l.takeWhile f).all f = true
  | [] => rfl
  | c :: l => by
    by_cases h : f c = true
    · rw [List.takeWhile_cons_of_pos h, List.all_cons, h, tw_all l]; rfl
    · rw [List.takeWhile_cons_of_neg h]; rfl
theorem tw_drop {f : UInt8 → Bool} : ∀ (l : List UInt8), l.drop (l.takeWhile f).length = l.dropWhile f
  | [] => rfl
  | c :: l => by
    by_cases h : f c = true
    · rw [List.takeWhile_cons_of_pos h, List.dropWhile_cons_of_pos h, List.length_cons, List.drop_succ_cons, tw_drop l]
    · rw [List.takeWhile_cons_of_neg h, List.dropWhile_cons_of_neg h]; rfl
theorem dw_head {r : List UInt8} {c : UInt8} {s : List UInt8} (h : r.dropWhile isDig = c :: s) : isDig c = false := by
  induction r with
  | nil => cases h
  | cons x r ih =>
    by_cases e : isDig x = true
    · rw [List.dropWhile_cons_of_pos e] at h; exact ih h
    · rw [List.dropWhile_cons_of_neg e] at h; cases h; simpa using e
theorem cap_big : ∀ (l : List UInt8) (n : Int), 100 ≤ n → l.all isDig = true → 100 ≤ l.foldl cstep n
  | [], n, h, _ => h
  | c :: l, n, h, ha => by
    simp only [List.all_cons, Bool.and_eq_true] at ha
    have := (isDig_iff c).1 ha.1
    exact cap_big l _ (by unfold cstep; omega) ha.2
/-- A word of digits alone is counted as it is read. -/
theorem num_count {r W : List UInt8} (hW : r.takeWhile isDig = W) : numberS W 16 = (countS r 16).1 ∧ ((countS r 16).2 ≠ 0 → (countS r 16).2 = W.length ∧ (countS r 16).1 ≠ 0) ∧ ((countS r 16).2 = 0 → (countS r 16).1 = 0) := by
  have ha : W.all isDig = true := by rw [← hW]; exact all_tw r
  have hg : W ≠ [] → r.getD 0 0 = W.getD 0 0 := by
    intro h
    subst hW
    cases r with
    | nil => exact absurd rfl h
    | cons x r =>
      by_cases e : isDig x = true
      · rw [List.takeWhile_cons_of_pos e]; rfl
      · rw [List.takeWhile_cons_of_neg e] at h; exact absurd rfl h
  unfold countS
  simp only [hW]
  unfold numberS
  match W, ha, hg with
  | [], _, _ => simp
  | [a], ha, hg =>
    rw [hg (by simp)]
    simp only [List.all_cons, List.all_nil, Bool.and_true] at ha
    have h1 := (isDig_iff a).1 ha
    have e : capS [a] = valS [a] := by simp [capS, valS, cstep, dstep]; omega
    rw [e]
    by_cases c1 : ((([a] : List UInt8).getD 0 0).toNat : Int) = 48
    · rw [if_pos (.inr (.inr c1)), if_pos (.inr (.inl c1))]; simp
    · rw [if_neg (by simp at c1 ⊢; omega), if_neg (by simp [ha])]
      by_cases c2 : valS [a] < 2 ∨ 16 < valS [a]
      · rw [if_pos c2, if_pos (.inr (.inr c2))]; simp
      · rw [if_neg c2, if_neg (by rintro (h | h | h); cases h; exact c1 h; exact c2 h)]; simp; omega
  | [a, b], ha, hg =>
    rw [hg (by simp)]
    simp only [List.all_cons, List.all_nil, Bool.and_true, Bool.and_eq_true] at ha
    have h1 := (isDig_iff a).1 ha.1
    have h2 := (isDig_iff b).1 ha.2
    have e : capS [a, b] = valS [a, b] := by simp [capS, valS, cstep, dstep]; omega
    rw [e]
    by_cases c1 : ((([a, b] : List UInt8).getD 0 0).toNat : Int) = 48
    · rw [if_pos (.inr (.inr c1)), if_pos (.inr (.inl c1))]; simp
    · rw [if_neg (by simp at c1 ⊢; omega), if_neg (by simp [ha.1, ha.2])]
      by_cases c2 : valS [a, b] < 2 ∨ 16 < valS [a, b]
      · rw [if_pos c2, if_pos (.inr (.inr c2))]; simp
      · rw [if_neg c2, if_neg (by rintro (h | h | h); cases h; exact c1 h; exact c2 h)]; simp; omega
  | a :: b :: d :: s, ha, hg =>
    rw [hg (by simp), if_pos (by right; left; simp)]
    simp only [List.all_cons, Bool.and_eq_true] at ha
    have h1 := (isDig_iff a).1 ha.1
    have h2 := (isDig_iff b).1 ha.2.1
    have h3 := (isDig_iff d).1 ha.2.2.1
    by_cases c1 : (((a :: b :: d :: s : List UInt8).getD 0 0).toNat : Int) = 48
    · rw [if_pos (.inr (.inl c1))]; simp
    · have hc : 100 ≤ capS (a :: b :: d :: s) := cap_big s _ (by simp at c1; simp [cstep]; omega) ha.2.2.2
      rw [if_pos (by right; right; right; omega)]; simp

def proper (l : List UInt8) (q : Nat) : Prop := q = l.length ∨ l.getD q 0 = 32 ∨ l.getD q 0 = 93
theorem word_proper {l : List UInt8} {p : Nat} (hp : p ≤ l.length) : proper l (wordEnd l p) := by
  have h1 := wordEnd_rng hp
  rcases Nat.lt_or_ge (wordEnd l p) l.length with h | h
  · by_cases c : l.getD (wordEnd l p) 0 ≠ 32 ∧ l.getD (wordEnd l p) 0 ≠ 93
    · exfalso
      have h2 : (l.drop p).takeWhile nb = (l.drop p).take ((l.drop p).takeWhile nb).length := List.prefix_iff_eq_take.1 (List.takeWhile_prefix nb)
      have h3 := word_end _ p rfl hp
      have h4 : l.drop p = (l.drop p).takeWhile nb ++ l.getD (wordEnd l p) 0 :: l.drop (wordEnd l p + 1) := by
        rw [← drop_get h, h3, ← List.drop_drop]
        conv => lhs; rw [← List.take_append_drop ((l.drop p).takeWhile nb).length (l.drop p)]
        rw [← h2]
      have h5 : ((l.drop p).takeWhile nb).all nb = true := tw_all _
      have h6 := congrArg (List.takeWhile nb) h4
      rw [tw_app _ _ h5, List.takeWhile_cons_of_pos ((nb_iff _).2 c)] at h6
      have := congrArg List.length h6
      simp at this
    · rw [Decidable.not_and_iff_not_or_not, Decidable.not_not, Decidable.not_not] at c
      exact .inr c
  · exact .inl (by omega)
/-- What the count says of the word from there on. -/
theorem word_num {l : List UInt8} {p : Nat} (hp : p ≤ l.length) :
    let c := countS (l.drop p) 16
    (c.2 = 0 → numberS (wordS l p) 16 = 0) ∧
    (0 < c.2 → (proper l (p + c.2.toNat) → numberS (wordS l p) 16 = c.1 ∧ wordEnd l p = p + c.2.toNat) ∧ (¬ proper l (p + c.2.toNat) → numberS (wordS l p) 16 = 0)) := by
  obtain ⟨n1, n2, n3⟩ := num_count (r := l.drop p) rfl
  have hsplit := (List.takeWhile_append_dropWhile (p := isDig) (l := l.drop p)).symm
  have hda := all_tw (l.drop p)
  have hdn : ((l.drop p).takeWhile isDig).all nb = true := by
    rw [List.all_eq_true] at hda ⊢; exact fun x hx => dig_nb (hda x hx)
  have hW : wordS l p = (l.drop p).takeWhile isDig ++ ((l.drop p).dropWhile isDig).takeWhile nb := by
    rw [word_tw hp]; conv => lhs; rw [hsplit]
    exact tw_app _ _ hdn
  have hrest : l.drop (p + ((l.drop p).takeWhile isDig).length) = (l.drop p).dropWhile isDig := by
    rw [← List.drop_drop]; exact tw_drop _
  have hall : (wordS l p).all isDig = true → ((l.drop p).dropWhile isDig).takeWhile nb = [] := by
    intro h
    rw [hW, List.all_append, Bool.and_eq_true] at h
    cases hd : (l.drop p).dropWhile isDig with
    | nil => rfl
    | cons c s =>
      rw [hd] at h
      by_cases e : nb c = true
      · rw [List.takeWhile_cons_of_pos e] at h
        simp [dw_head hd] at h
      · rw [List.takeWhile_cons_of_neg e]
  have hno : (wordS l p).all isDig = false → numberS (wordS l p) 16 = 0 := by
    intro h; unfold numberS; split
    · rfl
    · first | rfl | rw [if_pos h]
  have hyes : ((l.drop p).dropWhile isDig).takeWhile nb = [] → numberS (wordS l p) 16 = (countS (l.drop p) 16).1 := by
    intro h; rw [hW, h, List.append_nil]; exact n1
  have hprop : proper l (p + ((l.drop p).takeWhile isDig).length) ↔ ((l.drop p).dropWhile isDig).takeWhile nb = [] := by
    cases hd : (l.drop p).dropWhile isDig with
    | nil =>
      rw [hd] at hrest
      simp only [List.takeWhile_nil, iff_true]
      left
      have := (List.drop_eq_nil_iff).1 hrest
      have h2 : ((l.drop p).takeWhile isDig).length ≤ (l.drop p).length := (List.takeWhile_sublist _).length_le
      simp at h2; omega
    | cons c s =>
      rw [hd] at hrest
      have hlt : p + ((l.drop p).takeWhile isDig).length < l.length := by
        rcases Nat.lt_or_ge (p + ((l.drop p).takeWhile isDig).length) l.length with h | h
        · exact h
        · rw [List.drop_of_length_le h] at hrest; cases hrest
      have hc : l.getD (p + ((l.drop p).takeWhile isDig).length) 0 = c := by
        rw [drop_get hlt] at hrest; exact (List.cons.inj hrest).1
      unfold proper
      rw [hc]
      by_cases e : nb c = true
      · rw [List.takeWhile_cons_of_pos e]
        have := (nb_iff c).1 e
        simp [this.1, this.2]; omega
      · rw [List.takeWhile_cons_of_neg e]
        have : ¬ (c ≠ 32 ∧ c ≠ 93) := fun h => e ((nb_iff c).2 h)
        rw [Decidable.not_and_iff_not_or_not, Decidable.not_not, Decidable.not_not] at this
        simp only [iff_true]; exact .inr this
  simp only
  refine ⟨fun h0 => ?_, fun h0 => ?_⟩
  · cases ha : (wordS l p).all isDig with
    | false => exact hno ha
    | true => rw [hyes (hall ha)]; exact n3 h0
  · have hlen := (n2 (by omega)).1
    rw [hlen, Int.toNat_natCast]
    refine ⟨fun hpr => ⟨hyes (hprop.1 hpr), ?_⟩, fun hpr => hno ?_⟩
    · rw [word_end _ p rfl hp, ← word_tw hp, hW, hprop.1 hpr, List.append_nil]
    · cases ha : (wordS l p).all isDig with
      | false => rfl
      | true => exact absurd (hprop.2 (hall ha)) hpr
theorem take_take_app (a b : List Stitch) : (a ++ b.take 17).take 17 = (a ++ b).take 17 := by
  rw [List.take_append, List.take_append, List.take_take, Nat.min_eq_left (by omega)]
theorem pre_two {l : List UInt8} {q : Nat} : [93, 120] <+: l.drop q ↔ l.getD q 0 = 93 ∧ q + 1 < l.length ∧ l.getD (q + 1) 0 = 120 := by
  constructor
  · intro h
    have hl := h.length_le
    simp at hl
    rw [drop_get (by omega), drop_get (show q + 1 < l.length by omega), List.cons_prefix_cons, List.cons_prefix_cons] at h
    exact ⟨h.1.symm, by omega, h.2.1.symm⟩
  · rintro ⟨h1, h2, h3⟩
    rw [drop_get (by omega), drop_get h2, h1, h3]
    exact ⟨l.drop (q + 1 + 1), rfl⟩
def ItemM (l : List UInt8) (F p : Nat) : Prop := ∀ (b : List (List Stitch)) (t : List Stitch), t.length ≤ 17 →
  (readS l F false p [] = none → Mach l b t p true ([], 4)) ∧
  ∀ xs q, readS l F false p [] = some (xs, q) → (proper l q → ∀ R, Mach l b ((t ++ xs).take 17) q false R → Mach l b t p true R) ∧ (¬ proper l q → Mach l b t p true ([], 4))
def RowM (l : List UInt8) (F p : Nat) : Prop := ∀ (b : List (List Stitch)) (acc : List Stitch), acc.length ≤ 17 →
  (readS l F true p acc = none → Mach l b acc p true ([], 4)) ∧
  ∀ xs q, readS l F true p acc = some (xs, q) → (q = l.length ∨ l.getD q 0 = 93 → ∀ R, Mach l b xs q false R → Mach l b acc p true R) ∧ (¬ (q = l.length ∨ l.getD q 0 = 93) → Mach l b acc p true ([], 4))
theorem item_leaf {l : List UInt8} {F p : Nat} (hp : p ≤ l.length) (c : p = l.length ∨ l.getD p 0 ≠ 91) : ItemM l F p := by
  intro b t ht
  rw [read_leaf c]
  by_cases h : (parseS (wordS l p)).2 = 0
  · have hpos := word_pos hp h
    have hw := wordEnd_rng hp
    have hne : l.getD p 0 ≠ 91 := c.resolve_left (by omega)
    rw [leaf_some rfl h]
    refine ⟨(fun e => by cases e), fun xs q e => ?_⟩
    cases e
    exact ⟨fun _ R m => m_leaf (by omega) hne h m, fun hn => absurd (word_proper hp) hn⟩
  · rw [leaf_none rfl h]
    refine ⟨fun _ => ?_, fun xs q e => by cases e⟩
    rcases Nat.lt_or_ge p l.length with hlt | hge
    · exact m_leaf4 hlt (c.resolve_left (by omega)) h
    · exact m_end (by omega)
theorem item_rep {l : List UInt8} {F p : Nat} (hp : p ≤ l.length) (c : ¬ (p = l.length ∨ l.getD p 0 ≠ 91)) (ih : RowM l F (p + 1)) : ItemM l (F + 1) p := by
  intro b t ht
  have hlt : p < l.length := by omega
  have hc : l.getD p 0 = 91 := Decidable.not_not.1 fun e => c (.inr e)
  rw [read_rep c]
  obtain ⟨r1, r2⟩ := ih (b ++ [t]) [] (by simp)
  cases hr : readS l F true (p + 1) [] with
  | none => exact ⟨fun _ => m_open hlt hc (r1 hr), fun xs q e => by cases e⟩
  | some z =>
    obtain ⟨xs, q⟩ := z
    obtain ⟨s1, s2⟩ := r2 xs q hr
    have hpos := read_pos F true (p + 1) [] xs q (by omega) hr
    simp only
    unfold closeS
    by_cases hpre : [93, 120] <+: l.drop q
    · rw [if_pos hpre]
      have h2 := pre_two.1 hpre
      have hends : ends l (b ++ [t]) q := ⟨h2.1, by simp, h2.2.1, h2.2.2⟩
      have hwn := word_num (l := l) (p := q + 2) (by omega)
      simp only at hwn ⊢
      have hcr := @count_rng (l.drop (q + 2)) 16
      by_cases c2 : 0 < (countS (l.drop (q + 2)) 16).2
      · rw [if_pos c2]
        refine ⟨(fun e => by cases e), fun ys r e => ?_⟩
        cases e
        refine ⟨fun hpr R m => ?_, fun hpr => ?_⟩
        · obtain ⟨e1, e2⟩ := (hwn.2 c2).1 hpr
          have e3 : (countS (l.drop (q + 2)) 16).1 ≠ 0 := ((num_count (r := l.drop (q + 2)) rfl).2.1 (by omega)).2
          refine m_open hlt hc (s1 (.inr h2.1) R (m_close hends (by rw [e1]; exact e3) ?_))
          rw [e1, e2, ← take_take_app]; exact m
        · exact m_open hlt hc (s1 (.inr h2.1) _ (m_num hends ((hwn.2 c2).2 hpr)))
      · rw [if_neg c2]
        exact ⟨fun _ => m_open hlt hc (s1 (.inr h2.1) _ (m_num hends (hwn.1 (by omega)))), fun xs q e => by cases e⟩
    · rw [if_neg hpre]
      refine ⟨fun _ => m_open hlt hc ?_, fun xs q e => by cases e⟩
      by_cases c3 : q = l.length ∨ l.getD q 0 = 93
      · refine s1 c3 _ ?_
        rcases Nat.lt_or_ge q l.length with h | h
        · have h93 : l.getD q 0 = 93 := c3.resolve_left (by omega)
          exact m_bad h (by rw [h93]; decide) fun e => hpre (pre_two.2 ⟨e.1, e.2.2.1, e.2.2.2⟩)
        · exact m_fin4 (by omega) (by simp)
      · exact s2 c3
theorem row_mach {l : List UInt8} {F p : Nat} (hp : p ≤ l.length) (ih : ItemM l F p) (ihr : ∀ q, p < q → q ≤ l.length → RowM l F q) : RowM l (F + 1) p := by
  intro b acc ht
  obtain ⟨i1, i2⟩ := ih b acc ht
  cases hr : readS l F false p [] with
  | none => rw [read_row_none hr]; exact ⟨fun _ => i1 hr, fun xs q e => by cases e⟩
  | some z =>
    obtain ⟨ys, r⟩ := z
    obtain ⟨j1, j2⟩ := i2 ys r hr
    have hpos := read_pos F false p [] ys r hp hr
    by_cases c : r = l.length ∨ l.getD r 0 ≠ 32
    · rw [read_row_end hr c]
      refine ⟨(fun e => by cases e), fun xs q e => ?_⟩
      cases e
      refine ⟨fun h R m => j1 (h.imp id .inr) R m, fun h => j2 fun h2 => ?_⟩
      rcases h2 with h2 | h2 | h2
      · exact h (.inl h2)
      · rcases c with c | c
        · exact h (.inl c)
        · exact c h2
      · exact h (.inr h2)
    · rw [read_row_next hr c]
      have h32 : l.getD r 0 = 32 := Decidable.not_not.1 fun e => c (.inr e)
      have hlt : r < l.length := by omega
      obtain ⟨k1, k2⟩ := ihr (r + 1) (by omega) (by omega) b ((acc ++ ys).take 17) (by simp; omega)
      have go : ∀ R, Mach l b ((acc ++ ys).take 17) (r + 1) true R → Mach l b acc p true R := fun R m => j1 (.inr (.inl h32)) R (m_space hlt h32 m)
      exact ⟨fun h => go _ (k1 h), fun xs q h => ⟨fun hc R m => go _ ((k2 xs q h).1 hc R m), fun hc => go _ ((k2 xs q h).2 hc)⟩⟩
theorem mach_read {l : List UInt8} : ∀ (F : Nat), (∀ p, p ≤ l.length → 2 * (l.length - p) ≤ F → ItemM l F p) ∧ (∀ p, p ≤ l.length → 2 * (l.length - p) + 1 ≤ F → RowM l F p)
  | 0 => ⟨fun p hp hF => item_leaf hp (.inl (by omega)), fun p hp hF => by omega⟩
  | F + 1 => by
    obtain ⟨h1, h2⟩ := mach_read F
    refine ⟨fun p hp hF => ?_, fun p hp hF => row_mach hp (h1 p hp (by omega)) fun q hq hql => h2 q hql (by omega)⟩
    by_cases c : p = l.length ∨ l.getD p 0 ≠ 91
    · exact item_leaf hp c
    · exact item_rep hp c (h2 (p + 1) (by omega) (by omega))
/-- What the machine returns is the row of the text, and the error. -/
theorem mach_all {l : List UInt8} {R : List Stitch × Int} (h1 : l.length ≤ 1024 → Mach l [] [] 0 true R) (h2 : 1024 < l.length → R = ([], 3)) : R = expandS l := by
  unfold expandS
  by_cases c : 1024 < l.length
  · rw [if_pos c]; exact h2 c
  · rw [if_neg c]
    refine (h1 (by omega)).det ?_
    obtain ⟨r1, r2⟩ := (mach_read (l := l) (2 * l.length + 1)).2 0 (by omega) (by omega) [] [] (by simp)
    unfold rowS
    cases hr : readS l (2 * l.length + 1) true 0 [] with
    | none => exact r1 hr
    | some z =>
      obtain ⟨xs, q⟩ := z
      obtain ⟨s1, s2⟩ := r2 xs q hr
      have hpos := read_pos (2 * l.length + 1) true 0 [] xs q (by omega) hr
      simp only
      by_cases c2 : q = l.length
      · rw [if_pos c2]
        simp only
        refine s1 (.inl c2) _ ?_
        by_cases c3 : 16 < xs.length
        · rw [if_pos c3]; exact m_fin3 (by omega) c3
        · rw [if_neg c3]; exact m_fin0 (by omega) c3
      · rw [if_neg c2]
        simp only
        by_cases c3 : l.getD q 0 = 93
        · exact s1 (.inr c3) _ (m_bad (by omega) (by rw [c3]; decide) fun e => e.2.1 rfl)
        · exact s2 (by rintro (e | e); exact c2 e; exact c3 e)
end Go.G14
namespace Go.Proofs.YtbbnampdgefljaaDoor
open Go.Lw Go.G14
theorem co10 : CallOf Tryd.prog 10 := CallOf.mk' Tryd.func10 (by kernel_rfl) (by kernel_rfl)
theorem co11 : CallOf Tryd.prog 11 := CallOf.mk' Tryd.func11 (by kernel_rfl) (by kernel_rfl)
theorem co12 : CallOf Tryd.prog 12 := CallOf.mk' Tryd.func12 (by kernel_rfl) (by kernel_rfl)
theorem co13 : CallOf Tryd.prog 13 := CallOf.mk' Tryd.func13 (by kernel_rfl) (by kernel_rfl)
theorem co14 : CallOf Tryd.prog 14 := CallOf.mk' Tryd.func14 (by kernel_rfl) (by kernel_rfl)
theorem co15 : CallOf Tryd.prog 15 := CallOf.mk' Tryd.func15 (by kernel_rfl) (by kernel_rfl)
theorem co27 : CallOf Tryd.prog 27 := CallOf.mk' Tryd.func27 (by kernel_rfl) (by kernel_rfl)
theorem co29 : CallOf Tryd.prog 29 := CallOf.mk' Tryd.func29 (by kernel_rfl) (by kernel_rfl)
theorem co31 : CallOf Tryd.prog 31 := CallOf.mk' Tryd.func31 (by kernel_rfl) (by kernel_rfl)
theorem el48 : ElemOf Tryd.prog 48 9 Enc.str 16 := ElemOf.mk' (z := (S [])) Tryd.underlying48 (by kernel_rfl) rfl
theorem el65 : ElemOf Tryd.prog 65 23 Enc.i64 8 := ElemOf.mk' (z := (.int .i64 0)) Tryd.underlying65 (by kernel_rfl) rfl
theorem na23 : NotAgg Tryd.prog 23 := fun _ => by kernel_rfl
theorem sz22 : SizeOf Tryd.prog 22 1 := fun _ => by kernel_rfl
end Go.Proofs.YtbbnampdgefljaaDoor
