/- Walks. -/
import Derived.Test.YtbbnampdgefljaaDoorW16
import Derived.Test.YtbbnampdgefljaaDoorXRowOf
import Derived.Test.YtbbnampdgefljaaDoorXMake
set_option linter.unusedVariables false
set_option linter.unusedSimpArgs false
namespace Go.Proofs.YtbbnampdgefljaaDoor
open Go.Lw Go.G14
theorem ag98 : AggOf Tryd.prog 98 2 := ⟨fun _ => by kernel_rfl, fun _ => by kernel_rfl⟩
theorem el107 : ElemOf Tryd.prog 107 98 encPr 16 := ElemOf.mk' (z := (.agg #[.int .i64 0, .int .i64 0])) Tryd.underlying107 (by kernel_rfl) rfl
theorem fa100_0 : FieldAt Tryd.prog 100 0 0 := fun _ _ => by kernel_rfl
theorem fa100_1 : FieldAt Tryd.prog 100 1 1 := fun _ _ => by kernel_rfl
theorem fa100_2 : FieldAt Tryd.prog 100 2 2 := fun _ _ => by kernel_rfl
theorem fa100_3 : FieldAt Tryd.prog 100 3 3 := fun _ _ => by kernel_rfl
theorem sz98 : SizeOf Tryd.prog 98 2 := fun _ => by kernel_rfl
theorem zv98 (w : World) : (zeroValue 98).run Tryd.prog w = .ok (.agg #[(.int .i64 0), (.int .i64 0)]) w := by kernel_rfl
set_option maxHeartbeats 1000000 in
theorem kof_ok (kd y a1 : Int) (f : Bool) (w0 : World) (r1 : 0 ≤ kd ∧ kd ≤ 255) (r2 : 0 ≤ y ∧ y ≤ 255) (r3 : 0 ≤ a1 ∧ a1 ≤ 255) : Rets Tryd.prog 57 #[.agg #[.int .u8 kd, .int .u8 y, .int .u8 a1, .bool f]] w0 fun v w' => v = stV (kOfS kd y a1 f) ∧ Fr [] w0 w' := by
  refine enter [(0, .agg #[.int .u8 kd, .int .u8 y, .int .u8 a1, .bool f])] Tryd.func57 rfl Tryd.ntmps57 rfl (.cons rfl .nil) ?_
  have hf := Fr.refl [] w0
  intro a h
  refine wp_seq ?_
  refine wp_region_lit ?_
  refine st_box h rfl rfl rfl ?_; clear h a; intro w1 hb1 hq hz a h
  obtain ⟨g_1, hg⟩ : ∃ g, g = w0.heap.size := ⟨_, rfl⟩; rw [← hg] at hb1 h hz
  have hl1 : w0.heap.size ≤ g_1 := by have := hf.size; omega
  replace hf := hf.next hq
  clear hq hz hg
  refine st_alloc h zv36 rfl rfl ?_; clear h a; intro w2 hb2 hq hz a h
  obtain ⟨g_2, hg⟩ : ∃ g, g = w1.heap.size := ⟨_, rfl⟩; rw [← hg] at hb2 h hz
  have hl2 : w0.heap.size ≤ g_2 := by have := hf.size; omega
  have hn_1_2 : g_1 < g_2 := by have := hb1.lt; omega
  replace hf := hf.next hq
  replace hb1 := hb1.ext hq
  clear hq hz hg
  replace h : Ag a 39 [(1, _), (2, _)] := h.sub (.cons rfl (.cons rfl .nil))
  refine wpList_nil (norm_then ?_)
  refine wp_seq ?_
  refine wp_region_lit ?_
  refine st_fieldAddr h rfl fa100_0 rfl ?_; clear h a; intro a h
  refine st_loadB h rfl hb1 rfl na5 rfl ?_; clear h a; intro a h
  refine st_rem h rfl rfl (by omega) (by first | exact IntWalk.rem_in _ _ (by omega) | rfl) rfl ?_; clear h a; intro a h
  refine st_add h rfl rfl (by first | exact IntWalk.u8_in _ (by omega) | rfl) rfl ?_; clear h a; intro a h
  refine st_fieldAddr h rfl fa100_1 rfl ?_; clear h a; intro a h
  refine st_loadB h rfl hb1 rfl na5 rfl ?_; clear h a; intro a h
  refine st_rem h rfl rfl (by omega) (by first | exact IntWalk.rem_in _ _ (by omega) | rfl) rfl ?_; clear h a; intro a h
  refine st_add h rfl rfl (by first | exact IntWalk.u8_in _ (by omega) | rfl) rfl ?_; clear h a; intro a h
  refine st_lit (cs := [_, _, _, _, _]) h (evs_cons rfl (evs_cons rfl evs_nil)) bo36 (pok_cons rfl rfl rfl (pok_cons rfl rfl rfl pok_nil)) rfl rfl ?_; clear h a; intro a h
  refine st_alloc h zv36 rfl rfl ?_; clear h a; intro w3 hb3 hq hz a h
  obtain ⟨g_3, hg⟩ : ∃ g, g = w2.heap.size := ⟨_, rfl⟩; rw [← hg] at hb3 h hz
  have hl3 : w0.heap.size ≤ g_3 := by have := hf.size; omega
  have hn_1_3 : g_1 < g_3 := by have := hb1.lt; omega
  have hn_2_3 : g_2 < g_3 := by have := hb2.lt; omega
  replace hf := hf.next hq
  replace hb1 := hb1.ext hq
  replace hb2 := hb2.ext hq
  clear hq hz hg
  refine st_storeBA h rfl rfl hb3 rfl (by first | (simp [Value.oneCell', S]; done) | exact Enc.one _ _) sz36 ?_; clear h a; intro w4 hbn hq hz a h
  replace hf := hf.step hq (by first | (simp; done) | (simp; omega))
  replace hb1 := hb1.fr hq (by first | (simp; done) | (simp; omega) | (simp [blks]; done) | (simp [blks]; omega))
  replace hb2 := hb2.fr hq (by first | (simp; done) | (simp; omega) | (simp [blks]; done) | (simp [blks]; omega))
  clear hb3 hq hz; have hb3 : Blk w4 g_3 _ [_, _, _, _, _] := hbn; clear hbn
  replace h : Ag a 39 [(1, _), (2, _), (3, _)] := h.sub (.cons rfl (.cons rfl (.cons rfl .nil)))
  refine wpList_nil (norm_then ?_)
  refine wp_seq ?_
  refine wp_seq ?_
  refine wp_region_lit ?_
  refine st_fieldAddr h rfl fa36_0 rfl ?_; clear h a; intro a h
  refine st_loadB h rfl hb3 rfl na34 rfl ?_; clear h a; intro a h
  refine st_eq h rfl rfl rfl ?_; clear h a; intro a h
  replace h : Ag a 39 [(1, _), (2, _), (3, _), (16, _)] := h.sub (.cons rfl (.cons rfl (.cons rfl (.cons rfl .nil))))
  refine wpList_nil (norm_then ?_)
  first | refine cond_dec h rfl (fun c0 => ?_) (fun c0 => ?_) | refine cond_ndec h rfl (fun c0 => ?_) (fun c0 => ?_) | refine cond_split h rfl (fun c0 => ?_) (fun c0 => ?_)
  · refine id ?_
    refine wp_seq ?_
    refine wp_region_lit ?_
    refine st_lit (cs := [_, _]) h (evs_cons rfl (evs_cons rfl evs_nil)) bo98 (pok_cons rfl rfl rfl (pok_cons rfl rfl rfl pok_nil)) rfl rfl ?_; clear h a; intro a h
    refine st_lit (cs := [_, _]) h (evs_cons rfl (evs_cons rfl evs_nil)) bo98 (pok_cons rfl rfl rfl (pok_cons rfl rfl rfl pok_nil)) rfl rfl ?_; clear h a; intro a h
    refine st_lit (cs := [_, _]) h (evs_cons rfl (evs_cons rfl evs_nil)) bo98 (pok_cons rfl rfl rfl (pok_cons rfl rfl rfl pok_nil)) rfl rfl ?_; clear h a; intro a h
    refine st_lit (cs := [_, _]) h (evs_cons rfl (evs_cons rfl evs_nil)) bo98 (pok_cons rfl rfl rfl (pok_cons rfl rfl rfl pok_nil)) rfl rfl ?_; clear h a; intro a h
    refine st_lit (cs := [_, _]) h (evs_cons rfl (evs_cons rfl evs_nil)) bo98 (pok_cons rfl rfl rfl (pok_cons rfl rfl rfl pok_nil)) rfl rfl ?_; clear h a; intro a h
    refine st_lit (cs := [_, _]) h (evs_cons rfl (evs_cons rfl evs_nil)) bo98 (pok_cons rfl rfl rfl (pok_cons rfl rfl rfl pok_nil)) rfl rfl ?_; clear h a; intro a h
    refine st_bslice (pairsL) h (evs_cons rfl (evs_cons rfl (evs_cons rfl (evs_cons rfl (evs_cons rfl (evs_cons rfl evs_nil)))))) rfl rfl rfl el107 (by decide) rfl ?_; clear h a; intro g_23 w5 hg ho23 hq hz a h
    have hn_1_23 : g_1 < g_23 := by have := hb1.lt; omega
    have hn_2_23 : g_2 < g_23 := by have := hb2.lt; omega
    have hn_3_23 : g_3 < g_23 := by have := hb3.lt; omega
    have hl23 : w0.heap.size ≤ g_23 := by have := hf.size; omega
    replace hf := hf.next hq
    replace hb1 := hb1.ext hq
    replace hb2 := hb2.ext hq
    replace hb3 := hb3.ext hq
    clear hq hz hg
    refine st_fieldAddr h rfl fa100_2 rfl ?_; clear h a; intro a h
    refine st_loadB h rfl hb1 rfl na5 rfl ?_; clear h a; intro a h
    refine st_rem h rfl rfl (by omega) (by first | exact IntWalk.rem_in _ _ (by omega) | rfl) rfl ?_; clear h a; intro a h
    refine st_idx (p := (a1 % 6).toNat) h rfl rfl ho23.sl el107 (by omega) rfl (getD_get (show (a1 % 6).toNat < pairsL.length by rw [show pairsL.length = 6 from rfl]; omega) (0, 0)) rfl ?_; clear h a; intro ad cc a h
    refine st_loadA h rfl cc ag98 rfl ?_; clear h a; intro a h
    refine st_alloc h zv98 rfl rfl ?_; clear h a; intro w6 hb4 hq hz a h
    obtain ⟨g_4, hg⟩ : ∃ g, g = w5.heap.size := ⟨_, rfl⟩; rw [← hg] at hb4 h hz
    have hl4 : w0.heap.size ≤ g_4 := by have := hf.size; omega
    have hn_1_4 : g_1 < g_4 := by have := hb1.lt; omega
    have hn_2_4 : g_2 < g_4 := by have := hb2.lt; omega
    have hn_3_4 : g_3 < g_4 := by have := hb3.lt; omega
    have hn_23_4 : g_23 < g_4 := by have := (ho23.blk g_23 (by simp [blks])).2; omega
    replace hf := hf.next hq
    replace hb1 := hb1.ext hq
    replace hb2 := hb2.ext hq
    replace hb3 := hb3.ext hq
    replace ho23 := ho23.ext hq
    clear hq hz hg
    refine st_storeBA h rfl rfl hb4 rfl (by first | (simp [Value.oneCell', S]; done) | exact Enc.one _ _) sz98 ?_; clear h a; intro w7 hbn hq hz a h
    replace hf := hf.step hq (by first | (simp; done) | (simp; omega))
    replace hb1 := hb1.fr hq (by first | (simp; done) | (simp; omega) | (simp [blks]; done) | (simp [blks]; omega))
    replace hb2 := hb2.fr hq (by first | (simp; done) | (simp; omega) | (simp [blks]; done) | (simp [blks]; omega))
    replace hb3 := hb3.fr hq (by first | (simp; done) | (simp; omega) | (simp [blks]; done) | (simp [blks]; omega))
    replace ho23 := ho23.fr hq (by first | (simp; done) | (simp; omega) | (simp [blks]; done) | (simp [blks]; omega))
    clear hb4 hq hz; have hb4 : Blk w7 g_4 _ [_, _] := hbn; clear hbn
    replace h : Ag a 39 [(1, _), (2, _), (3, _), (4, _)] := h.sub (.cons rfl (.cons rfl (.cons rfl (.cons rfl .nil))))
    refine wpList_nil (norm_then ?_)
    refine region_held (fun wb w' => Fr [g_3] wb w') hmix ?_; intro w8 hq
    replace hf := hf.next hq
    replace hb1 := hb1.ext hq
    replace hb2 := hb2.ext hq
    replace hb3 := hb3.ext hq
    replace ho23 := ho23.ext hq
    replace hb4 := hb4.ext hq
    clear hq; have hC : Fr [g_3] w8 w8 := Fr.refl _ _
    have hb1_b := hb1
    have hb2_b := hb2
    have hb3_b := hb3
    have ho23_b := ho23
    have hb4_b := hb4
    refine hd_idxA 0 (by kernel_rfl) (by kernel_rfl) (by kernel_rfl) hC h rfl rfl Tryd.underlying98 sz3 (by omega) (by omega) rfl rfl ?_; clear h a; intro a h
    refine hd_loadB 1 (by kernel_rfl) (by kernel_rfl) (by kernel_rfl) hC h rfl (fun _ hw => hb4_b.fr hw (by first | (simp; done) | (simp; omega))) rfl na3 rfl rfl ?_; clear h a; intro a h
    refine hd_idxA 2 (by kernel_rfl) (by kernel_rfl) (by kernel_rfl) hC h rfl rfl Tryd.underlying98 sz3 (by omega) (by omega) rfl rfl ?_; clear h a; intro a h
    refine hd_loadB 3 (by kernel_rfl) (by kernel_rfl) (by kernel_rfl) hC h rfl (fun _ hw => hb4_b.fr hw (by first | (simp; done) | (simp; omega))) rfl na3 rfl rfl ?_; clear h a; intro a h
    refine hd_fieldAddr 4 (by kernel_rfl) (by kernel_rfl) (by kernel_rfl) hC h rfl fa100_3 rfl rfl ?_; clear h a; intro a h
    refine hd_loadB 5 (by kernel_rfl) (by kernel_rfl) (by kernel_rfl) hC h rfl (fun _ hw => hb1_b.fr hw (by first | (simp; done) | (simp; omega))) rfl na4 rfl rfl ?_; clear h a; intro a h
    refine hd_fieldAddr 6 (by kernel_rfl) (by kernel_rfl) (by kernel_rfl) hC h rfl fa36_2 rfl rfl ?_; clear h a; intro a h
    refine hd_one 7 (by kernel_rfl) rfl ?_
    refine st_storeB h rfl rfl hb3 rfl rfl rfl sz3 ?_; clear h a; intro w9 hbn hq hz a h
    replace hf := hf.step hq (by first | (simp; done) | (simp; omega))
    replace hb1 := hb1.fr hq (by first | (simp; done) | (simp; omega) | (simp [blks]; done) | (simp [blks]; omega))
    replace hb2 := hb2.fr hq (by first | (simp; done) | (simp; omega) | (simp [blks]; done) | (simp [blks]; omega))
    replace ho23 := ho23.fr hq (by first | (simp; done) | (simp; omega) | (simp [blks]; done) | (simp [blks]; omega))
    replace hb4 := hb4.fr hq (by first | (simp; done) | (simp; omega) | (simp [blks]; done) | (simp [blks]; omega))
    replace hC := hC.step hq (by first | (simp; done) | (simp; omega))
    clear hb3 hq hz; have hb3 : Blk w9 g_3 _ [_, _, _, _, _] := hbn; clear hbn
    refine hd_next hC ?_
    refine hd_fieldAddr 8 (by kernel_rfl) (by kernel_rfl) (by kernel_rfl) hC h rfl fa36_3 rfl rfl ?_; clear h a; intro a h
    refine hd_one 9 (by kernel_rfl) rfl ?_
    refine st_storeB h rfl rfl hb3 rfl rfl rfl sz3 ?_; clear h a; intro w10 hbn hq hz a h
    replace hf := hf.step hq (by first | (simp; done) | (simp; omega))
    replace hb1 := hb1.fr hq (by first | (simp; done) | (simp; omega) | (simp [blks]; done) | (simp [blks]; omega))
    replace hb2 := hb2.fr hq (by first | (simp; done) | (simp; omega) | (simp [blks]; done) | (simp [blks]; omega))
    replace ho23 := ho23.fr hq (by first | (simp; done) | (simp; omega) | (simp [blks]; done) | (simp [blks]; omega))
    replace hb4 := hb4.fr hq (by first | (simp; done) | (simp; omega) | (simp [blks]; done) | (simp [blks]; omega))
    replace hC := hC.step hq (by first | (simp; done) | (simp; omega))
    clear hb3 hq hz; have hb3 : Blk w10 g_3 _ [_, _, _, _, _] := hbn; clear hbn
    refine hd_next hC ?_
    refine hd_fieldAddr 10 (by kernel_rfl) (by kernel_rfl) (by kernel_rfl) hC h rfl fa36_4 rfl rfl ?_; clear h a; intro a h
    refine hd_one 11 (by kernel_rfl) rfl ?_
    refine st_storeB h rfl rfl hb3 rfl rfl rfl sz4 ?_; clear h a; intro w11 hbn hq hz a h
    replace hf := hf.step hq (by first | (simp; done) | (simp; omega))
    replace hb1 := hb1.fr hq (by first | (simp; done) | (simp; omega) | (simp [blks]; done) | (simp [blks]; omega))
    replace hb2 := hb2.fr hq (by first | (simp; done) | (simp; omega) | (simp [blks]; done) | (simp [blks]; omega))
    replace ho23 := ho23.fr hq (by first | (simp; done) | (simp; omega) | (simp [blks]; done) | (simp [blks]; omega))
    replace hb4 := hb4.fr hq (by first | (simp; done) | (simp; omega) | (simp [blks]; done) | (simp [blks]; omega))
    replace hC := hC.step hq (by first | (simp; done) | (simp; omega))
    clear hb3 hq hz; have hb3 : Blk w11 g_3 _ [_, _, _, _, _] := hbn; clear hbn
    refine hd_next hC ?_
    refine hd_end (by kernel_rfl) ?_
    clear hC hb1_b hb2_b hb3_b ho23_b hb4_b
    replace h : Ag a 39 [(2, _), (3, _)] := h.sub (.cons rfl (.cons rfl .nil))
    refine (norm_then ?_)
    refine wp_seq ?_
    refine wp_region_lit ?_
    refine st_loadBA h rfl hb3 ag36 rfl ?_; clear h a; intro a h
    refine st_storeBA h rfl rfl hb2 rfl (by first | (simp [Value.oneCell', S]; done) | exact Enc.one _ _) sz36 ?_; clear h a; intro w12 hbn hq hz a h
    replace hf := hf.step hq (by first | (simp; done) | (simp; omega))
    replace hb1 := hb1.fr hq (by first | (simp; done) | (simp; omega) | (simp [blks]; done) | (simp [blks]; omega))
    replace hb3 := hb3.fr hq (by first | (simp; done) | (simp; omega) | (simp [blks]; done) | (simp [blks]; omega))
    replace ho23 := ho23.fr hq (by first | (simp; done) | (simp; omega) | (simp [blks]; done) | (simp [blks]; omega))
    replace hb4 := hb4.fr hq (by first | (simp; done) | (simp; omega) | (simp [blks]; done) | (simp [blks]; omega))
    clear hb2 hq hz; have hb2 : Blk w12 g_2 _ [_, _, _, _, _] := hbn; clear hbn
    replace h : Ag a 39 [(2, _)] := h.sub (.cons rfl .nil)
    refine wpList_nil (norm_then ?_)
    refine wp_ret ?_
    refine retC h Tryd.results57 rfl hb2 ag36  ?_
    exact ⟨_, rfl, by first | (rw [kOfS, if_pos c0]; rfl) | (rw [kOfS, if_neg c0]; rfl), hf⟩
  · refine id ?_
    refine wp_skip (norm_then ?_)
    refine wp_seq ?_
    refine wp_region_lit ?_
    refine st_loadBA h rfl hb3 ag36 rfl ?_; clear h a; intro a h
    refine st_storeBA h rfl rfl hb2 rfl (by first | (simp [Value.oneCell', S]; done) | exact Enc.one _ _) sz36 ?_; clear h a; intro w13 hbn hq hz a h
    replace hf := hf.step hq (by first | (simp; done) | (simp; omega))
    replace hb1 := hb1.fr hq (by first | (simp; done) | (simp; omega) | (simp [blks]; done) | (simp [blks]; omega))
    replace hb3 := hb3.fr hq (by first | (simp; done) | (simp; omega) | (simp [blks]; done) | (simp [blks]; omega))
    clear hb2 hq hz; have hb2 : Blk w13 g_2 _ [_, _, _, _, _] := hbn; clear hbn
    replace h : Ag a 39 [(2, _)] := h.sub (.cons rfl .nil)
    refine wpList_nil (norm_then ?_)
    refine wp_ret ?_
    refine retC h Tryd.results57 rfl hb2 ag36  ?_
    exact ⟨_, rfl, by first | (rw [kOfS, if_pos c0]; rfl) | (rw [kOfS, if_neg c0]; rfl), hf⟩
end Go.Proofs.YtbbnampdgefljaaDoor
