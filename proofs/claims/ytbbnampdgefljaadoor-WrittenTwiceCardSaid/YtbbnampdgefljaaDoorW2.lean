/- Walks. -/
import Derived.Test.YtbbnampdgefljaaDoorRows
import Derived.Test.YtbbnampdgefljaaDoorW1
import Derived.Test.YtbbnampdgefljaaDoorXMap
set_option linter.unusedVariables false
set_option linter.unusedSimpArgs false
namespace Go.Proofs.YtbbnampdgefljaaDoor
open Go.Lw Go.G14
set_option maxHeartbeats 1000000 in
theorem parse_ok (l : List UInt8) (w0 : World) (hy : Sym w0) : Rets Tryd.prog 28 #[S l] w0 fun v w' => v = .tuple #[stV (parseS l).1, .int .i64 (parseS l).2] ∧ Fr [] w0 w' := by
  have h00 := hy.pos
  refine enter [(0, S l)] Tryd.func28 rfl Tryd.ntmps28 rfl (.cons rfl .nil) ?_
  have hf := Fr.refl [] w0
  intro a h
  refine wp_seq ?_
  refine wp_region_lit ?_
  refine st_alloc h zv36 rfl rfl ?_; clear h a; intro w1 hb2 hq hz a h
  obtain ⟨g_2, hg⟩ : ∃ g, g = w0.heap.size := ⟨_, rfl⟩; rw [← hg] at hb2 h hz
  have hl2 : w0.heap.size ≤ g_2 := by have := hf.size; omega
  replace hf := hf.next hq
  replace hy := hy.ext hq
  clear hq hz hg
  refine st_assign h rfl rfl ?_; clear h a; intro a h
  replace h : Ag a 65 [(0, _), (2, _)] := h.sub (.cons rfl (.cons rfl .nil))
  refine wpList_nil (norm_then ?_)
  refine wp_seq ?_
  refine wp_seq ?_
  refine wp_region_lit ?_
  refine st_move h rfl rfl ?_; clear h a; intro a h
  refine st_eqs h rfl rfl rfl ?_; clear h a; intro a h
  replace h : Ag a 65 [(0, _), (2, _), (9, _)] := h.sub (.cons rfl (.cons rfl (.cons rfl .nil)))
  refine wpList_nil (norm_then ?_)
  first | refine cond_dec h rfl (fun c0 => ?_) (fun c0 => ?_) | refine cond_ndec h rfl (fun c0 => ?_) (fun c0 => ?_) | refine cond_split h rfl (fun c0 => ?_) (fun c0 => ?_)
  · refine id ?_
    refine wp_seq ?_
    refine wp_region_lit ?_
    refine st_lit (cs := [_, _, _, _, _]) h evs_nil bo36 pok_nil rfl rfl ?_; clear h a; intro a h
    refine st_storeBA h rfl rfl hb2 rfl (by first | (simp [Value.oneCell', S]; done) | exact Enc.one _ _) sz36 ?_; clear h a; intro w2 hbn hq hz a h
    replace hf := hf.step hq (by first | (simp; done) | (simp; omega))
    replace hy := hy.fr hq (by first | (simp; done) | (simp; omega) | (simp [blks]; done) | (simp [blks]; omega))
    clear hb2 hq hz; have hb2 : Blk w2 g_2 _ [_, _, _, _, _] := hbn; clear hbn
    refine st_assign h rfl rfl ?_; clear h a; intro a h
    replace h : Ag a 65 [(2, _), (3, _)] := h.sub (.cons rfl (.cons rfl .nil))
    refine wpList_nil (norm_then ?_)
    refine wp_ret (ret_then ?_)
    refine retCT h Tryd.results28 rfl hb2 ag36 rfl ?_
    exact ⟨_, rfl, by rw [parse_none c0]; rfl, hf⟩
  · have hlen : 0 < l.length := List.length_pos_iff.2 c0
    refine wp_skip (norm_then ?_)
    refine wp_seq ?_
    refine wp_region_lit ?_
    refine st_lit (cs := [_, _, _, _, _]) h (evs_cons rfl evs_nil) bo36 (pok_cons rfl rfl rfl pok_nil) rfl rfl ?_; clear h a; intro a h
    refine st_alloc h zv36 rfl rfl ?_; clear h a; intro w3 hb4 hq hz a h
    obtain ⟨g_4, hg⟩ : ∃ g, g = w1.heap.size := ⟨_, rfl⟩; rw [← hg] at hb4 h hz
    have hl4 : w0.heap.size ≤ g_4 := by have := hf.size; omega
    have hn_2_4 : g_2 < g_4 := by have := hb2.lt; omega
    replace hf := hf.next hq
    replace hy := hy.ext hq
    replace hb2 := hb2.ext hq
    clear hq hz hg
    refine st_storeBA h rfl rfl hb4 rfl (by first | (simp [Value.oneCell', S]; done) | exact Enc.one _ _) sz36 ?_; clear h a; intro w4 hbn hq hz a h
    replace hf := hf.step hq (by first | (simp; done) | (simp; omega))
    replace hy := hy.fr hq (by first | (simp; done) | (simp; omega) | (simp [blks]; done) | (simp [blks]; omega))
    replace hb2 := hb2.fr hq (by first | (simp; done) | (simp; omega) | (simp [blks]; done) | (simp [blks]; omega))
    clear hb4 hq hz; have hb4 : Blk w4 g_4 _ [_, _, _, _, _] := hbn; clear hbn
    replace h : Ag a 65 [(0, _), (2, _), (4, _)] := h.sub (.cons rfl (.cons rfl (.cons rfl .nil)))
    refine wpList_nil (norm_then ?_)
    refine wp_seq ?_
    refine wp_seq ?_
    refine wp_region_lit ?_
    refine st_loadA h rfl hy ag94 rfl ?_; clear h a; intro a h
    refine st_move h rfl rfl ?_; clear h a; intro a h
    refine wpList_nil (norm_then ?_)
    refine wp_block ?_
    refine loop (ι := Nat) (fun i => [(0, S l), (2, .pointer (some ⟨g_2, 0, none⟩)), (4, .pointer (some ⟨g_4, 0, none⟩)), (12, .agg (symbols.flatMap Enc.b.enc).toArray), (13, .int .i64 (i : Int))]) (fun i w' => i ≤ 8 ∧ Blk w' g_4 36 [.int .u8 (kindTo i (l.getD 0 0)), .int .u8 1, .int .i64 0, .int .i64 0, .bool false] ∧ Blk w' g_2 36 [.int .u8 0, .int .u8 0, .int .i64 0, .int .i64 0, .bool false] ∧ Sym w' ∧ Fr [] w0 w') (fun i => 8 - i) 0 (h.sub (.cons rfl (.cons rfl (.cons rfl (.cons rfl (.cons rfl .nil)))))) ⟨by omega, hb4, hb2, hy, hf⟩ ?_
    clear h a hb2 hb4 hf hy
    rintro i w5 a h ⟨hi, hb4, hb2, hy, hf⟩
    refine wp_seq ?_
    refine wp_region_lit ?_
    refine st_lt h rfl rfl rfl ?_; clear h a; intro a h
    refine wpList_nil (norm_then ?_)
    refine wp_seq ?_
    first | refine cond_dec h rfl (fun c1 => ?_) (fun c1 => ?_) | refine cond_ndec h rfl (fun c1 => ?_) (fun c1 => ?_) | refine cond_split h rfl (fun c1 => ?_) (fun c1 => ?_)
    · refine id ?_
      refine wp_skip (norm_then ?_)
      refine wp_seq ?_
      refine wp_block ?_
      refine wp_seq ?_
      refine wp_region_lit ?_
      refine st_move h rfl rfl ?_; clear h a; intro a h
      refine st_idxV (v := .int .u8 ((symbols.getD i 0).toNat : Int)) h rfl rfl Tryd.underlying94 sz5 na5 (by omega) (by omega) (by exact sym_get i (by omega)) rfl ?_; clear h a; intro a h
      refine st_assign h rfl rfl ?_; clear h a; intro a h
      refine st_assign h rfl rfl ?_; clear h a; intro a h
      replace h : Ag a 65 [(0, _), (2, _), (4, _), (5, _), (6, _), (12, _), (13, _)] := h.sub (.cons rfl (.cons rfl (.cons rfl (.cons rfl (.cons rfl (.cons rfl (.cons rfl .nil)))))))
      refine wpList_nil (norm_then ?_)
      refine wp_seq ?_
      refine wp_region_lit ?_
      refine st_move h rfl rfl ?_; clear h a; intro a h
      refine st_move h rfl rfl ?_; clear h a; intro a h
      refine st_index (p := 0) h rfl rfl Tryd.underlying9 (by omega) (by omega) rfl rfl ?_; clear h a; intro hy19 a h
      refine st_eq h rfl rfl rfl ?_; clear h a; intro a h
      replace h : Ag a 65 [(0, _), (2, _), (4, _), (5, _), (12, _), (13, _), (20, _)] := h.sub (.cons rfl (.cons rfl (.cons rfl (.cons rfl (.cons rfl (.cons rfl (.cons rfl .nil)))))))
      refine wpList_nil (norm_then ?_)
      first | refine cond_dec h rfl (fun c2 => ?_) (fun c2 => ?_) | refine cond_ndec h rfl (fun c2 => ?_) (fun c2 => ?_) | refine cond_split h rfl (fun c2 => ?_) (fun c2 => ?_)
      · refine id ?_
        refine wp_region_lit ?_
        refine st_move h rfl rfl ?_; clear h a; intro a h
        refine st_add h rfl rfl (by first | exact IntWalk.i64_in _ (by omega) | rfl) rfl ?_; clear h a; intro a h
        refine st_conv h rfl (by rw [Tryd.underlying3]; rfl) Tryd.underlying34 (by first | exact IntWalk.u8_in _ (by omega) | rfl) rfl ?_; clear h a; intro a h
        refine st_fieldAddr h rfl fa36_0 rfl ?_; clear h a; intro a h
        refine st_storeB h rfl rfl hb4 rfl rfl rfl sz34 ?_; clear h a; intro w6 hbn hq hz a h
        replace hf := hf.step hq (by first | (simp; done) | (simp; omega))
        replace hy := hy.fr hq (by first | (simp; done) | (simp; omega) | (simp [blks]; done) | (simp [blks]; omega))
        replace hb2 := hb2.fr hq (by first | (simp; done) | (simp; omega) | (simp [blks]; done) | (simp [blks]; omega))
        clear hb4 hq hz; have hb4 := hbn; clear hbn
        replace h : Ag a 65 [(0, _), (2, _), (4, _), (12, _), (13, _)] := h.sub (.cons rfl (.cons rfl (.cons rfl (.cons rfl (.cons rfl .nil)))))
        refine wpList_nil (norm_blk (norm_then ?_))
        refine wp_region_lit ?_
        refine st_add h rfl rfl (by first | exact IntWalk.i64_in _ (by omega) | rfl) rfl ?_; clear h a; intro a h
        refine st_move h rfl rfl ?_; clear h a; intro a h
        replace h : Ag a 65 [(0, _), (2, _), (4, _), (12, _), (13, _)] := h.sub (.cons rfl (.cons rfl (.cons rfl (.cons rfl (.cons rfl .nil)))))
        refine wpList_nil (norm_then ?_)
        exact ⟨i + 1, h.sub (.cons rfl (.cons rfl (.cons rfl (.cons rfl (.cons rfl .nil))))), ⟨by omega, by first | (rw [kindTo, if_pos (byte_eq.1 (by assumption))]; exact hb4) | (rw [kindTo, if_neg (fun e => absurd (byte_eq.2 e) (by assumption))]; exact hb4), hb2, hy, hf⟩, by omega⟩
      · refine id ?_
        refine wp_skip (norm_blk (norm_then ?_))
        refine wp_region_lit ?_
        refine st_add h rfl rfl (by first | exact IntWalk.i64_in _ (by omega) | rfl) rfl ?_; clear h a; intro a h
        refine st_move h rfl rfl ?_; clear h a; intro a h
        replace h : Ag a 65 [(0, _), (2, _), (4, _), (12, _), (13, _)] := h.sub (.cons rfl (.cons rfl (.cons rfl (.cons rfl (.cons rfl .nil)))))
        refine wpList_nil (norm_then ?_)
        exact ⟨i + 1, h.sub (.cons rfl (.cons rfl (.cons rfl (.cons rfl (.cons rfl .nil))))), ⟨by omega, by first | (rw [kindTo, if_pos (byte_eq.1 (by assumption))]; exact hb4) | (rw [kindTo, if_neg (fun e => absurd (byte_eq.2 e) (by assumption))]; exact hb4), hb2, hy, hf⟩, by omega⟩
    · obtain rfl : i = 8 := by omega
      refine wp_exit (exit_then (exit_then (exit_here (norm_then ?_))))
      refine wp_seq ?_
      refine wp_region_lit ?_
      refine st_move h rfl rfl ?_; clear h a; intro a h
      refine st_ss_l (p := 1) h rfl rfl Tryd.underlying9 (by omega) (by omega) rfl rfl ?_; clear h a; intro a h
      refine st_assign h rfl rfl ?_; clear h a; intro a h
      replace h : Ag a 65 [(0, _), (2, _), (4, _), (7, _)] := h.sub (.cons rfl (.cons rfl (.cons rfl (.cons rfl .nil))))
      refine wpList_nil (norm_then ?_)
      refine wp_seq ?_
      refine wp_seq ?_
      refine region_bool (r := 35) (L' := [(0, _), (2, _), (4, _), (7, _)]) (kindTo 8 (l.getD 0 0) = 8 ∧ 3 ≤ (l.drop 1).length) h (.cons rfl (.cons rfl (.cons rfl (.cons rfl .nil)))) ?_ ?_
      · refine id ?_
        refine st_fieldAddr h rfl fa36_0 rfl ?_; clear h a; intro a h
        refine st_loadB h rfl hb4 rfl na34 rfl ?_; clear h a; intro a h
        refine st_eq h rfl rfl rfl ?_; clear h a; intro a h
        refine st_move h rfl rfl ?_; clear h a; intro a h
        first | refine guard_dec (D := 31) h rfl ?_ ?_ | refine guard_ndec (D := 31) h rfl ?_ ?_ | refine guard_any (D := 31) h rfl ?_ ?_
        · clear h; intro g0 h
          refine gd_yes h rfl rfl rfl rfl rfl rfl ?_
          refine st_move h rfl rfl ?_; clear h a; intro a h
          refine gd_yes h rfl rfl rfl rfl rfl rfl ?_
          refine st_len h rfl Tryd.underlying9 rfl ?_; clear h a; intro a h
          refine gd_yes h rfl rfl rfl rfl rfl rfl ?_
          refine st_ge h rfl rfl rfl ?_; clear h a; intro a h
          refine st_pick_t h rfl rfl rfl rfl ?_; clear h a; intro a h
          exact wpList_nil (bool_end h rfl (by first | exact bt (by omega) | exact bf (by omega) | exact bi (by omega)) (.cons rfl (.cons rfl (.cons rfl (.cons rfl .nil)))))
        · clear h; intro g0 h
          refine gd_no h rfl rfl rfl rfl rfl rfl rfl rfl ?_; clear h a; intro a h
          refine gd_no h rfl rfl rfl rfl rfl rfl rfl rfl ?_; clear h a; intro a h
          refine gd_no h rfl rfl rfl rfl rfl rfl rfl rfl ?_; clear h a; intro a h
          refine st_pick_f h rfl rfl rfl rfl ?_; clear h a; intro a h
          exact wpList_nil (bool_end h rfl (by first | exact bt (by omega) | exact bf (by omega) | exact bi (by omega)) (.cons rfl (.cons rfl (.cons rfl (.cons rfl .nil)))))
      · clear h a; intro a h
        refine (norm_then ?_)
        first | refine cond_dec h rfl (fun c3 => ?_) (fun c3 => ?_) | refine cond_ndec h rfl (fun c3 => ?_) (fun c3 => ?_) | refine cond_split h rfl (fun c3 => ?_) (fun c3 => ?_)
        · refine id ?_
          refine wp_seq ?_
          refine region_held (fun wb w' => Fr [g_4] wb w') hmix ?_; intro w7 hq
          replace hf := hf.next hq
          replace hy := hy.ext hq
          replace hb2 := hb2.ext hq
          replace hb4 := hb4.ext hq
          clear hq; have hC : Fr [g_4] w7 w7 := Fr.refl _ _
          have hy_b := hy
          have hb2_b := hb2
          have hb4_b := hb4
          refine hd_move 0 (by kernel_rfl) (by kernel_rfl) (by kernel_rfl) hC h rfl rfl rfl ?_; clear h a; intro a h
          refine hd_index (p := 0) 1 (by kernel_rfl) (by kernel_rfl) (by kernel_rfl) hC h rfl rfl Tryd.underlying9 (by omega) (by omega) rfl rfl rfl ?_; clear h a; intro hy37 a h
          refine hd_conv 2 (by kernel_rfl) (by kernel_rfl) (by kernel_rfl) hC h rfl (by rw [Tryd.underlying5]; rfl) Tryd.underlying3 (by first | exact IntWalk.i64_in _ (by omega) | rfl) rfl rfl ?_; clear h a; intro a h
          refine hd_sub 3 (by kernel_rfl) (by kernel_rfl) (by kernel_rfl) hC h rfl rfl (by first | exact IntWalk.i64_in _ (by omega) | rfl) rfl rfl ?_; clear h a; intro a h
          refine hd_move 4 (by kernel_rfl) (by kernel_rfl) (by kernel_rfl) hC h rfl rfl rfl ?_; clear h a; intro a h
          refine hd_index (p := 1) 5 (by kernel_rfl) (by kernel_rfl) (by kernel_rfl) hC h rfl rfl Tryd.underlying9 (by omega) (by omega) rfl rfl rfl ?_; clear h a; intro hy41 a h
          refine hd_conv 6 (by kernel_rfl) (by kernel_rfl) (by kernel_rfl) hC h rfl (by rw [Tryd.underlying5]; rfl) Tryd.underlying3 (by first | exact IntWalk.i64_in _ (by omega) | rfl) rfl rfl ?_; clear h a; intro a h
          refine hd_sub 7 (by kernel_rfl) (by kernel_rfl) (by kernel_rfl) hC h rfl rfl (by first | exact IntWalk.i64_in _ (by omega) | rfl) rfl rfl ?_; clear h a; intro a h
          refine hd_move 8 (by kernel_rfl) (by kernel_rfl) (by kernel_rfl) hC h rfl rfl rfl ?_; clear h a; intro a h
          refine hd_index (p := 2) 9 (by kernel_rfl) (by kernel_rfl) (by kernel_rfl) hC h rfl rfl Tryd.underlying9 (by omega) (by omega) rfl rfl rfl ?_; clear h a; intro hy45 a h
          refine hd_eq 10 (by kernel_rfl) (by kernel_rfl) (by kernel_rfl) hC h rfl rfl rfl rfl ?_; clear h a; intro a h
          refine hd_fieldAddr 11 (by kernel_rfl) (by kernel_rfl) (by kernel_rfl) hC h rfl fa36_2 rfl rfl ?_; clear h a; intro a h
          refine hd_one 12 (by kernel_rfl) rfl ?_
          refine st_storeB h rfl rfl hb4 rfl rfl rfl sz3 ?_; clear h a; intro w8 hbn hq hz a h
          replace hf := hf.step hq (by first | (simp; done) | (simp; omega))
          replace hy := hy.fr hq (by first | (simp; done) | (simp; omega) | (simp [blks]; done) | (simp [blks]; omega))
          replace hb2 := hb2.fr hq (by first | (simp; done) | (simp; omega) | (simp [blks]; done) | (simp [blks]; omega))
          replace hC := hC.step hq (by first | (simp; done) | (simp; omega))
          clear hb4 hq hz; have hb4 := hbn; clear hbn
          refine hd_next hC ?_
          refine hd_fieldAddr 13 (by kernel_rfl) (by kernel_rfl) (by kernel_rfl) hC h rfl fa36_3 rfl rfl ?_; clear h a; intro a h
          refine hd_one 14 (by kernel_rfl) rfl ?_
          refine st_storeB h rfl rfl hb4 rfl rfl rfl sz3 ?_; clear h a; intro w9 hbn hq hz a h
          replace hf := hf.step hq (by first | (simp; done) | (simp; omega))
          replace hy := hy.fr hq (by first | (simp; done) | (simp; omega) | (simp [blks]; done) | (simp [blks]; omega))
          replace hb2 := hb2.fr hq (by first | (simp; done) | (simp; omega) | (simp [blks]; done) | (simp [blks]; omega))
          replace hC := hC.step hq (by first | (simp; done) | (simp; omega))
          clear hb4 hq hz; have hb4 := hbn; clear hbn
          refine hd_next hC ?_
          refine hd_fieldAddr 15 (by kernel_rfl) (by kernel_rfl) (by kernel_rfl) hC h rfl fa36_4 rfl rfl ?_; clear h a; intro a h
          refine hd_one 16 (by kernel_rfl) rfl ?_
          refine st_storeB h rfl rfl hb4 rfl rfl rfl sz4 ?_; clear h a; intro w10 hbn hq hz a h
          replace hf := hf.step hq (by first | (simp; done) | (simp; omega))
          replace hy := hy.fr hq (by first | (simp; done) | (simp; omega) | (simp [blks]; done) | (simp [blks]; omega))
          replace hb2 := hb2.fr hq (by first | (simp; done) | (simp; omega) | (simp [blks]; done) | (simp [blks]; omega))
          replace hC := hC.step hq (by first | (simp; done) | (simp; omega))
          clear hb4 hq hz; have hb4 := hbn; clear hbn
          refine hd_next hC ?_
          refine hd_end (by kernel_rfl) ?_
          clear hC hy_b hb2_b hb4_b
          replace h : Ag a 65 [(0, _), (2, _), (4, _), (7, _)] := h.sub (.cons rfl (.cons rfl (.cons rfl (.cons rfl .nil))))
          refine (norm_then ?_)
          refine wp_region_lit ?_
          refine st_move h rfl rfl ?_; clear h a; intro a h
          refine st_ss_l (p := 3) h rfl rfl Tryd.underlying9 (by omega) (by omega) rfl rfl ?_; clear h a; intro a h
          refine st_assign h rfl rfl ?_; clear h a; intro a h
          replace h : Ag a 65 [(0, _), (2, _), (4, _), (7, _)] := h.sub (.cons rfl (.cons rfl (.cons rfl (.cons rfl .nil))))
          refine wpList_nil (norm_then ?_)
          refine wp_seq ?_
          refine wp_seq ?_
          refine wp_region_lit ?_
          refine st_move h rfl rfl ?_; clear h a; intro a h
          refine st_len h rfl Tryd.underlying9 rfl ?_; clear h a; intro a h
          refine st_eq h rfl rfl rfl ?_; clear h a; intro a h
          replace h : Ag a 65 [(0, _), (2, _), (4, _), (7, _), (54, _)] := h.sub (.cons rfl (.cons rfl (.cons rfl (.cons rfl (.cons rfl .nil)))))
          refine wpList_nil (norm_then ?_)
          first | refine cond_dec h rfl (fun c4 => ?_) (fun c4 => ?_) | refine cond_ndec h rfl (fun c4 => ?_) (fun c4 => ?_) | refine cond_split h rfl (fun c4 => ?_) (fun c4 => ?_)
          · refine id ?_
            refine wp_region_lit ?_
            refine st_move h rfl rfl ?_; clear h a; intro a h
            refine st_index (p := 0) h rfl rfl Tryd.underlying9 (by omega) (by omega) rfl rfl ?_; clear h a; intro hy56 a h
            refine st_sub h rfl rfl (by first | exact IntWalk.u8_in _ (by omega) | rfl) rfl ?_; clear h a; intro a h
            refine st_fieldAddr h rfl fa36_1 rfl ?_; clear h a; intro a h
            refine st_storeB h rfl rfl hb4 rfl rfl rfl sz5 ?_; clear h a; intro w11 hbn hq hz a h
            replace hf := hf.step hq (by first | (simp; done) | (simp; omega))
            replace hy := hy.fr hq (by first | (simp; done) | (simp; omega) | (simp [blks]; done) | (simp [blks]; omega))
            replace hb2 := hb2.fr hq (by first | (simp; done) | (simp; omega) | (simp [blks]; done) | (simp [blks]; omega))
            clear hb4 hq hz; have hb4 := hbn; clear hbn
            replace h : Ag a 65 [(0, _), (2, _), (4, _)] := h.sub (.cons rfl (.cons rfl (.cons rfl .nil)))
            refine wpList_nil (norm_then ?_)
            refine wp_seq ?_
            refine wp_seq ?_
            refine wp_region_lit ?_
            refine st_loadBA h rfl hb4 ag36 rfl ?_; clear h a; intro a h
            refine st_call h (evs_cons rfl evs_nil) co54 (text_ok ⟨_, _, _, _, _⟩ _ hy) rfl ?_; clear h a; rintro _ w12 ⟨rfl, hq⟩ a h
            replace hf := hf.next hq
            replace hy := hy.ext hq
            replace hb2 := hb2.ext hq
            replace hb4 := hb4.ext hq
            clear hq
            refine st_move h rfl rfl ?_; clear h a; intro a h
            refine st_nes h rfl rfl rfl ?_; clear h a; intro a h
            replace h : Ag a 65 [(2, _), (4, _), (62, _)] := h.sub (.cons rfl (.cons rfl (.cons rfl .nil)))
            refine wpList_nil (norm_then ?_)
            first | refine cond_dec h rfl (fun c5 => ?_) (fun c5 => ?_) | refine cond_ndec h rfl (fun c5 => ?_) (fun c5 => ?_) | refine cond_split h rfl (fun c5 => ?_) (fun c5 => ?_)
            · refine id ?_
              refine wp_seq ?_
              refine wp_region_lit ?_
              refine st_lit (cs := [_, _, _, _, _]) h evs_nil bo36 pok_nil rfl rfl ?_; clear h a; intro a h
              refine st_storeBA h rfl rfl hb2 rfl (by first | (simp [Value.oneCell', S]; done) | exact Enc.one _ _) sz36 ?_; clear h a; intro w13 hbn hq hz a h
              replace hf := hf.step hq (by first | (simp; done) | (simp; omega))
              replace hy := hy.fr hq (by first | (simp; done) | (simp; omega) | (simp [blks]; done) | (simp [blks]; omega))
              replace hb4 := hb4.fr hq (by first | (simp; done) | (simp; omega) | (simp [blks]; done) | (simp [blks]; omega))
              clear hb2 hq hz; have hb2 := hbn; clear hbn
              refine st_assign h rfl rfl ?_; clear h a; intro a h
              replace h : Ag a 65 [(2, _), (3, _)] := h.sub (.cons rfl (.cons rfl .nil))
              refine wpList_nil (norm_then ?_)
              refine wp_ret (ret_then ?_)
              refine retCT h Tryd.results28 rfl hb2 ag36 rfl ?_
              exact ⟨_, rfl, by first | (rw [parse_bad (guess_ca c3.1 c3.2 (by omega)) c5]; rfl) | (rw [parse_bad (guess_cb c3.1 c3.2 (by omega)) c5]; rfl) | (rw [parse_bad (guess_na c3 (by omega)) c5]; rfl) | (rw [parse_bad (guess_nb c3 (by omega)) c5]; rfl) | (rw [parse_good c0 (guess_ca c3.1 c3.2 (by omega)) c5]; rfl) | (rw [parse_good c0 (guess_cb c3.1 c3.2 (by omega)) c5]; rfl) | (rw [parse_good c0 (guess_na c3 (by omega)) c5]; rfl) | (rw [parse_good c0 (guess_nb c3 (by omega)) c5]; rfl), hf⟩
            · refine id ?_
              refine wp_skip (norm_then ?_)
              refine wp_seq ?_
              refine wp_region_lit ?_
              refine st_loadBA h rfl hb4 ag36 rfl ?_; clear h a; intro a h
              refine st_storeBA h rfl rfl hb2 rfl (by first | (simp [Value.oneCell', S]; done) | exact Enc.one _ _) sz36 ?_; clear h a; intro w14 hbn hq hz a h
              replace hf := hf.step hq (by first | (simp; done) | (simp; omega))
              replace hy := hy.fr hq (by first | (simp; done) | (simp; omega) | (simp [blks]; done) | (simp [blks]; omega))
              replace hb4 := hb4.fr hq (by first | (simp; done) | (simp; omega) | (simp [blks]; done) | (simp [blks]; omega))
              clear hb2 hq hz; have hb2 := hbn; clear hbn
              refine st_assign h rfl rfl ?_; clear h a; intro a h
              replace h : Ag a 65 [(2, _), (3, _)] := h.sub (.cons rfl (.cons rfl .nil))
              refine wpList_nil (norm_then ?_)
              refine wp_ret ?_
              refine retCT h Tryd.results28 rfl hb2 ag36 rfl ?_
              exact ⟨_, rfl, by first | (rw [parse_bad (guess_ca c3.1 c3.2 (by omega)) c5]; rfl) | (rw [parse_bad (guess_cb c3.1 c3.2 (by omega)) c5]; rfl) | (rw [parse_bad (guess_na c3 (by omega)) c5]; rfl) | (rw [parse_bad (guess_nb c3 (by omega)) c5]; rfl) | (rw [parse_good c0 (guess_ca c3.1 c3.2 (by omega)) c5]; rfl) | (rw [parse_good c0 (guess_cb c3.1 c3.2 (by omega)) c5]; rfl) | (rw [parse_good c0 (guess_na c3 (by omega)) c5]; rfl) | (rw [parse_good c0 (guess_nb c3 (by omega)) c5]; rfl), hf⟩
          · refine id ?_
            refine wp_skip (norm_then ?_)
            refine wp_seq ?_
            refine wp_seq ?_
            refine wp_region_lit ?_
            refine st_loadBA h rfl hb4 ag36 rfl ?_; clear h a; intro a h
            refine st_call h (evs_cons rfl evs_nil) co54 (text_ok ⟨_, _, _, _, _⟩ _ hy) rfl ?_; clear h a; rintro _ w15 ⟨rfl, hq⟩ a h
            replace hf := hf.next hq
            replace hy := hy.ext hq
            replace hb2 := hb2.ext hq
            replace hb4 := hb4.ext hq
            clear hq
            refine st_move h rfl rfl ?_; clear h a; intro a h
            refine st_nes h rfl rfl rfl ?_; clear h a; intro a h
            replace h : Ag a 65 [(2, _), (4, _), (62, _)] := h.sub (.cons rfl (.cons rfl (.cons rfl .nil)))
            refine wpList_nil (norm_then ?_)
            first | refine cond_dec h rfl (fun c5 => ?_) (fun c5 => ?_) | refine cond_ndec h rfl (fun c5 => ?_) (fun c5 => ?_) | refine cond_split h rfl (fun c5 => ?_) (fun c5 => ?_)
            · refine id ?_
              refine wp_seq ?_
              refine wp_region_lit ?_
              refine st_lit (cs := [_, _, _, _, _]) h evs_nil bo36 pok_nil rfl rfl ?_; clear h a; intro a h
              refine st_storeBA h rfl rfl hb2 rfl (by first | (simp [Value.oneCell', S]; done) | exact Enc.one _ _) sz36 ?_; clear h a; intro w16 hbn hq hz a h
              replace hf := hf.step hq (by first | (simp; done) | (simp; omega))
              replace hy := hy.fr hq (by first | (simp; done) | (simp; omega) | (simp [blks]; done) | (simp [blks]; omega))
              replace hb4 := hb4.fr hq (by first | (simp; done) | (simp; omega) | (simp [blks]; done) | (simp [blks]; omega))
              clear hb2 hq hz; have hb2 := hbn; clear hbn
              refine st_assign h rfl rfl ?_; clear h a; intro a h
              replace h : Ag a 65 [(2, _), (3, _)] := h.sub (.cons rfl (.cons rfl .nil))
              refine wpList_nil (norm_then ?_)
              refine wp_ret (ret_then ?_)
              refine retCT h Tryd.results28 rfl hb2 ag36 rfl ?_
              exact ⟨_, rfl, by first | (rw [parse_bad (guess_ca c3.1 c3.2 (by omega)) c5]; rfl) | (rw [parse_bad (guess_cb c3.1 c3.2 (by omega)) c5]; rfl) | (rw [parse_bad (guess_na c3 (by omega)) c5]; rfl) | (rw [parse_bad (guess_nb c3 (by omega)) c5]; rfl) | (rw [parse_good c0 (guess_ca c3.1 c3.2 (by omega)) c5]; rfl) | (rw [parse_good c0 (guess_cb c3.1 c3.2 (by omega)) c5]; rfl) | (rw [parse_good c0 (guess_na c3 (by omega)) c5]; rfl) | (rw [parse_good c0 (guess_nb c3 (by omega)) c5]; rfl), hf⟩
            · refine id ?_
              refine wp_skip (norm_then ?_)
              refine wp_seq ?_
              refine wp_region_lit ?_
              refine st_loadBA h rfl hb4 ag36 rfl ?_; clear h a; intro a h
              refine st_storeBA h rfl rfl hb2 rfl (by first | (simp [Value.oneCell', S]; done) | exact Enc.one _ _) sz36 ?_; clear h a; intro w17 hbn hq hz a h
              replace hf := hf.step hq (by first | (simp; done) | (simp; omega))
              replace hy := hy.fr hq (by first | (simp; done) | (simp; omega) | (simp [blks]; done) | (simp [blks]; omega))
              replace hb4 := hb4.fr hq (by first | (simp; done) | (simp; omega) | (simp [blks]; done) | (simp [blks]; omega))
              clear hb2 hq hz; have hb2 := hbn; clear hbn
              refine st_assign h rfl rfl ?_; clear h a; intro a h
              replace h : Ag a 65 [(2, _), (3, _)] := h.sub (.cons rfl (.cons rfl .nil))
              refine wpList_nil (norm_then ?_)
              refine wp_ret ?_
              refine retCT h Tryd.results28 rfl hb2 ag36 rfl ?_
              exact ⟨_, rfl, by first | (rw [parse_bad (guess_ca c3.1 c3.2 (by omega)) c5]; rfl) | (rw [parse_bad (guess_cb c3.1 c3.2 (by omega)) c5]; rfl) | (rw [parse_bad (guess_na c3 (by omega)) c5]; rfl) | (rw [parse_bad (guess_nb c3 (by omega)) c5]; rfl) | (rw [parse_good c0 (guess_ca c3.1 c3.2 (by omega)) c5]; rfl) | (rw [parse_good c0 (guess_cb c3.1 c3.2 (by omega)) c5]; rfl) | (rw [parse_good c0 (guess_na c3 (by omega)) c5]; rfl) | (rw [parse_good c0 (guess_nb c3 (by omega)) c5]; rfl), hf⟩
        · refine id ?_
          refine wp_skip (norm_then ?_)
          refine wp_seq ?_
          refine wp_seq ?_
          refine wp_region_lit ?_
          refine st_move h rfl rfl ?_; clear h a; intro a h
          refine st_len h rfl Tryd.underlying9 rfl ?_; clear h a; intro a h
          refine st_eq h rfl rfl rfl ?_; clear h a; intro a h
          replace h : Ag a 65 [(0, _), (2, _), (4, _), (7, _), (54, _)] := h.sub (.cons rfl (.cons rfl (.cons rfl (.cons rfl (.cons rfl .nil)))))
          refine wpList_nil (norm_then ?_)
          first | refine cond_dec h rfl (fun c4 => ?_) (fun c4 => ?_) | refine cond_ndec h rfl (fun c4 => ?_) (fun c4 => ?_) | refine cond_split h rfl (fun c4 => ?_) (fun c4 => ?_)
          · refine id ?_
            refine wp_region_lit ?_
            refine st_move h rfl rfl ?_; clear h a; intro a h
            refine st_index (p := 0) h rfl rfl Tryd.underlying9 (by omega) (by omega) rfl rfl ?_; clear h a; intro hy56 a h
            refine st_sub h rfl rfl (by first | exact IntWalk.u8_in _ (by omega) | rfl) rfl ?_; clear h a; intro a h
            refine st_fieldAddr h rfl fa36_1 rfl ?_; clear h a; intro a h
            refine st_storeB h rfl rfl hb4 rfl rfl rfl sz5 ?_; clear h a; intro w18 hbn hq hz a h
            replace hf := hf.step hq (by first | (simp; done) | (simp; omega))
            replace hy := hy.fr hq (by first | (simp; done) | (simp; omega) | (simp [blks]; done) | (simp [blks]; omega))
            replace hb2 := hb2.fr hq (by first | (simp; done) | (simp; omega) | (simp [blks]; done) | (simp [blks]; omega))
            clear hb4 hq hz; have hb4 := hbn; clear hbn
            replace h : Ag a 65 [(0, _), (2, _), (4, _)] := h.sub (.cons rfl (.cons rfl (.cons rfl .nil)))
            refine wpList_nil (norm_then ?_)
            refine wp_seq ?_
            refine wp_seq ?_
            refine wp_region_lit ?_
            refine st_loadBA h rfl hb4 ag36 rfl ?_; clear h a; intro a h
            refine st_call h (evs_cons rfl evs_nil) co54 (text_ok ⟨_, _, _, _, _⟩ _ hy) rfl ?_; clear h a; rintro _ w19 ⟨rfl, hq⟩ a h
            replace hf := hf.next hq
            replace hy := hy.ext hq
            replace hb2 := hb2.ext hq
            replace hb4 := hb4.ext hq
            clear hq
            refine st_move h rfl rfl ?_; clear h a; intro a h
            refine st_nes h rfl rfl rfl ?_; clear h a; intro a h
            replace h : Ag a 65 [(2, _), (4, _), (62, _)] := h.sub (.cons rfl (.cons rfl (.cons rfl .nil)))
            refine wpList_nil (norm_then ?_)
            first | refine cond_dec h rfl (fun c5 => ?_) (fun c5 => ?_) | refine cond_ndec h rfl (fun c5 => ?_) (fun c5 => ?_) | refine cond_split h rfl (fun c5 => ?_) (fun c5 => ?_)
            · refine id ?_
              refine wp_seq ?_
              refine wp_region_lit ?_
              refine st_lit (cs := [_, _, _, _, _]) h evs_nil bo36 pok_nil rfl rfl ?_; clear h a; intro a h
              refine st_storeBA h rfl rfl hb2 rfl (by first | (simp [Value.oneCell', S]; done) | exact Enc.one _ _) sz36 ?_; clear h a; intro w20 hbn hq hz a h
              replace hf := hf.step hq (by first | (simp; done) | (simp; omega))
              replace hy := hy.fr hq (by first | (simp; done) | (simp; omega) | (simp [blks]; done) | (simp [blks]; omega))
              replace hb4 := hb4.fr hq (by first | (simp; done) | (simp; omega) | (simp [blks]; done) | (simp [blks]; omega))
              clear hb2 hq hz; have hb2 := hbn; clear hbn
              refine st_assign h rfl rfl ?_; clear h a; intro a h
              replace h : Ag a 65 [(2, _), (3, _)] := h.sub (.cons rfl (.cons rfl .nil))
              refine wpList_nil (norm_then ?_)
              refine wp_ret (ret_then ?_)
              refine retCT h Tryd.results28 rfl hb2 ag36 rfl ?_
              exact ⟨_, rfl, by first | (rw [parse_bad (guess_ca c3.1 c3.2 (by omega)) c5]; rfl) | (rw [parse_bad (guess_cb c3.1 c3.2 (by omega)) c5]; rfl) | (rw [parse_bad (guess_na c3 (by omega)) c5]; rfl) | (rw [parse_bad (guess_nb c3 (by omega)) c5]; rfl) | (rw [parse_good c0 (guess_ca c3.1 c3.2 (by omega)) c5]; rfl) | (rw [parse_good c0 (guess_cb c3.1 c3.2 (by omega)) c5]; rfl) | (rw [parse_good c0 (guess_na c3 (by omega)) c5]; rfl) | (rw [parse_good c0 (guess_nb c3 (by omega)) c5]; rfl), hf⟩
            · refine id ?_
              refine wp_skip (norm_then ?_)
              refine wp_seq ?_
              refine wp_region_lit ?_
              refine st_loadBA h rfl hb4 ag36 rfl ?_; clear h a; intro a h
              refine st_storeBA h rfl rfl hb2 rfl (by first | (simp [Value.oneCell', S]; done) | exact Enc.one _ _) sz36 ?_; clear h a; intro w21 hbn hq hz a h
              replace hf := hf.step hq (by first | (simp; done) | (simp; omega))
              replace hy := hy.fr hq (by first | (simp; done) | (simp; omega) | (simp [blks]; done) | (simp [blks]; omega))
              replace hb4 := hb4.fr hq (by first | (simp; done) | (simp; omega) | (simp [blks]; done) | (simp [blks]; omega))
              clear hb2 hq hz; have hb2 := hbn; clear hbn
              refine st_assign h rfl rfl ?_; clear h a; intro a h
              replace h : Ag a 65 [(2, _), (3, _)] := h.sub (.cons rfl (.cons rfl .nil))
              refine wpList_nil (norm_then ?_)
              refine wp_ret ?_
              refine retCT h Tryd.results28 rfl hb2 ag36 rfl ?_
              exact ⟨_, rfl, by first | (rw [parse_bad (guess_ca c3.1 c3.2 (by omega)) c5]; rfl) | (rw [parse_bad (guess_cb c3.1 c3.2 (by omega)) c5]; rfl) | (rw [parse_bad (guess_na c3 (by omega)) c5]; rfl) | (rw [parse_bad (guess_nb c3 (by omega)) c5]; rfl) | (rw [parse_good c0 (guess_ca c3.1 c3.2 (by omega)) c5]; rfl) | (rw [parse_good c0 (guess_cb c3.1 c3.2 (by omega)) c5]; rfl) | (rw [parse_good c0 (guess_na c3 (by omega)) c5]; rfl) | (rw [parse_good c0 (guess_nb c3 (by omega)) c5]; rfl), hf⟩
          · refine id ?_
            refine wp_skip (norm_then ?_)
            refine wp_seq ?_
            refine wp_seq ?_
            refine wp_region_lit ?_
            refine st_loadBA h rfl hb4 ag36 rfl ?_; clear h a; intro a h
            refine st_call h (evs_cons rfl evs_nil) co54 (text_ok ⟨_, _, _, _, _⟩ _ hy) rfl ?_; clear h a; rintro _ w22 ⟨rfl, hq⟩ a h
            replace hf := hf.next hq
            replace hy := hy.ext hq
            replace hb2 := hb2.ext hq
            replace hb4 := hb4.ext hq
            clear hq
            refine st_move h rfl rfl ?_; clear h a; intro a h
            refine st_nes h rfl rfl rfl ?_; clear h a; intro a h
            replace h : Ag a 65 [(2, _), (4, _), (62, _)] := h.sub (.cons rfl (.cons rfl (.cons rfl .nil)))
            refine wpList_nil (norm_then ?_)
            first | refine cond_dec h rfl (fun c5 => ?_) (fun c5 => ?_) | refine cond_ndec h rfl (fun c5 => ?_) (fun c5 => ?_) | refine cond_split h rfl (fun c5 => ?_) (fun c5 => ?_)
            · refine id ?_
              refine wp_seq ?_
              refine wp_region_lit ?_
              refine st_lit (cs := [_, _, _, _, _]) h evs_nil bo36 pok_nil rfl rfl ?_; clear h a; intro a h
              refine st_storeBA h rfl rfl hb2 rfl (by first | (simp [Value.oneCell', S]; done) | exact Enc.one _ _) sz36 ?_; clear h a; intro w23 hbn hq hz a h
              replace hf := hf.step hq (by first | (simp; done) | (simp; omega))
              replace hy := hy.fr hq (by first | (simp; done) | (simp; omega) | (simp [blks]; done) | (simp [blks]; omega))
              replace hb4 := hb4.fr hq (by first | (simp; done) | (simp; omega) | (simp [blks]; done) | (simp [blks]; omega))
              clear hb2 hq hz; have hb2 := hbn; clear hbn
              refine st_assign h rfl rfl ?_; clear h a; intro a h
              replace h : Ag a 65 [(2, _), (3, _)] := h.sub (.cons rfl (.cons rfl .nil))
              refine wpList_nil (norm_then ?_)
              refine wp_ret (ret_then ?_)
              refine retCT h Tryd.results28 rfl hb2 ag36 rfl ?_
              exact ⟨_, rfl, by first | (rw [parse_bad (guess_ca c3.1 c3.2 (by omega)) c5]; rfl) | (rw [parse_bad (guess_cb c3.1 c3.2 (by omega)) c5]; rfl) | (rw [parse_bad (guess_na c3 (by omega)) c5]; rfl) | (rw [parse_bad (guess_nb c3 (by omega)) c5]; rfl) | (rw [parse_good c0 (guess_ca c3.1 c3.2 (by omega)) c5]; rfl) | (rw [parse_good c0 (guess_cb c3.1 c3.2 (by omega)) c5]; rfl) | (rw [parse_good c0 (guess_na c3 (by omega)) c5]; rfl) | (rw [parse_good c0 (guess_nb c3 (by omega)) c5]; rfl), hf⟩
            · refine id ?_
              refine wp_skip (norm_then ?_)
              refine wp_seq ?_
              refine wp_region_lit ?_
              refine st_loadBA h rfl hb4 ag36 rfl ?_; clear h a; intro a h
              refine st_storeBA h rfl rfl hb2 rfl (by first | (simp [Value.oneCell', S]; done) | exact Enc.one _ _) sz36 ?_; clear h a; intro w24 hbn hq hz a h
              replace hf := hf.step hq (by first | (simp; done) | (simp; omega))
              replace hy := hy.fr hq (by first | (simp; done) | (simp; omega) | (simp [blks]; done) | (simp [blks]; omega))
              replace hb4 := hb4.fr hq (by first | (simp; done) | (simp; omega) | (simp [blks]; done) | (simp [blks]; omega))
              clear hb2 hq hz; have hb2 := hbn; clear hbn
              refine st_assign h rfl rfl ?_; clear h a; intro a h
              replace h : Ag a 65 [(2, _), (3, _)] := h.sub (.cons rfl (.cons rfl .nil))
              refine wpList_nil (norm_then ?_)
              refine wp_ret ?_
              refine retCT h Tryd.results28 rfl hb2 ag36 rfl ?_
              exact ⟨_, rfl, by first | (rw [parse_bad (guess_ca c3.1 c3.2 (by omega)) c5]; rfl) | (rw [parse_bad (guess_cb c3.1 c3.2 (by omega)) c5]; rfl) | (rw [parse_bad (guess_na c3 (by omega)) c5]; rfl) | (rw [parse_bad (guess_nb c3 (by omega)) c5]; rfl) | (rw [parse_good c0 (guess_ca c3.1 c3.2 (by omega)) c5]; rfl) | (rw [parse_good c0 (guess_cb c3.1 c3.2 (by omega)) c5]; rfl) | (rw [parse_good c0 (guess_na c3 (by omega)) c5]; rfl) | (rw [parse_good c0 (guess_nb c3 (by omega)) c5]; rfl), hf⟩
end Go.Proofs.YtbbnampdgefljaaDoor
