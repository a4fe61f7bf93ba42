/- Walks. -/
import Derived.Test.YtbbnampdgefljaaDoorW18
import Derived.Test.YtbbnampdgefljaaDoorXRowOf
import Derived.Test.YtbbnampdgefljaaDoorXMake
set_option linter.unusedVariables false
set_option linter.unusedSimpArgs false
namespace Go.Proofs.YtbbnampdgefljaaDoor
open Go.Lw Go.G14
theorem ag45 : AggOf Tryd.prog 45 1 := ⟨fun _ => by kernel_rfl, fun _ => by kernel_rfl⟩
theorem co32 : CallOf Tryd.prog 32 := CallOf.mk' Tryd.func32 (by kernel_rfl) (by kernel_rfl)
theorem el40 : ElemOf Tryd.prog 40 58 Enc.sl 24 := ElemOf.mk' (z := (.slice none 0 0)) Tryd.underlying40 (by kernel_rfl) rfl
theorem fa42_0 : FieldAt Tryd.prog 42 0 0 := fun _ _ => by kernel_rfl
theorem fa42_1 : FieldAt Tryd.prog 42 1 1 := fun _ _ => by kernel_rfl
theorem na40 : NotAgg Tryd.prog 40 := fun _ => by kernel_rfl
theorem na58 : NotAgg Tryd.prog 58 := fun _ => by kernel_rfl
theorem sz43 : SizeOf Tryd.prog 43 1 := fun _ => by kernel_rfl
theorem sz45 : SizeOf Tryd.prog 45 1 := fun _ => by kernel_rfl
theorem zv45 (w : World) : (zeroValue 45).run Tryd.prog w = .ok (.agg #[(.slice none 0 0)]) w := by kernel_rfl
set_option maxHeartbeats 1000000 in
theorem cof_ok (wd : Int) (v : Value) (w0 : World) (hw : 0 ≤ wd ∧ wd ≤ 255) (hv : ∃ hs, Sl Enc.sl w0 v hs ∧ ∀ p ∈ hs, ∃ cs, Sl Enc.b w0 (slv p) cs) : Rets Tryd.prog 18 #[.agg #[.int .u8 wd, v]] w0 fun r w' => ∃ X rows, r = .agg #[X] ∧ Sl2 w' X rows ∧ rows ≠ [] ∧ (∀ r ∈ rows, goodRow r) ∧ Fr [] w0 w' := by
  obtain ⟨hs, hsl, hin⟩ := hv
  obtain ⟨HA, hc, rfl, hcp⟩ := hsl.form
  obtain ⟨-, -, hM, hA⟩ := Sl.open_ hsl
  unfold maxLen at hM
  refine enter [(0, .agg #[.int .u8 wd, .slice HA hs.length hc])] Tryd.func18 rfl Tryd.ntmps18 rfl (.cons rfl .nil) ?_
  have hf := Fr.refl [] w0
  intro a h
  refine wp_seq ?_
  refine wp_region_lit ?_
  refine st_box h rfl rfl rfl ?_; clear h a; intro w1 hb1 hq hz a h
  obtain ⟨g_1, hg⟩ : ∃ g, g = w0.heap.size := ⟨_, rfl⟩; rw [← hg] at hb1 h hz
  have hl1 : w0.heap.size ≤ g_1 := by have := hf.size; omega
  replace hf := hf.next hq
  clear hq hz hg
  refine st_alloc h zv45 rfl rfl ?_; clear h a; intro w2 hb2 hq hz a h
  obtain ⟨g_2, hg⟩ : ∃ g, g = w1.heap.size := ⟨_, rfl⟩; rw [← hg] at hb2 h hz
  have hl2 : w0.heap.size ≤ g_2 := by have := hf.size; omega
  have hn_1_2 : g_1 < g_2 := by have := hb1.lt; omega
  replace hf := hf.next hq
  replace hb1 := hb1.ext hq
  clear hq hz hg
  replace h : Ag a 60 [(1, _), (2, _)] := h.sub (.cons rfl (.cons rfl .nil))
  refine wpList_nil (norm_then ?_)
  refine wp_seq ?_
  refine wp_region_lit ?_
  refine st_assign h rfl rfl ?_; clear h a; intro a h
  refine wpList_nil (norm_then ?_)
  refine wp_seq ?_
  refine wp_seq ?_
  refine wp_region_lit ?_
  refine st_assign h rfl rfl ?_; clear h a; intro a h
  refine wpList_nil (norm_then ?_)
  refine wp_block ?_
  refine loop (ι := Nat × Value) (fun z => [(1, .pointer (some ⟨g_1, 0, none⟩)), (2, .pointer (some ⟨g_2, 0, none⟩)), (3, z.2), (4, .int .i64 (z.1 : Int))]) (fun z w' => (z.1 : Int) ≤ wd % 8 + 1 ∧ Own Enc.i64 3 (g_2 + 1) w' z.2 (List.replicate z.1 1) ∧ Blk w' g_1 42 [.int .u8 wd, .slice HA hs.length hc] ∧ Blk w' g_2 45 [.slice none 0 0] ∧ Fr [] w0 w') (fun z => 9 - z.1) (0, .slice none 0 0) (h.sub (.cons rfl (.cons rfl (.cons rfl (.cons rfl .nil))))) ⟨by simp only; omega, Own.nil _, hb1, hb2, hf⟩ ?_
  clear h a hb1 hb2 hf
  rintro ⟨j, x⟩ w3 a h ⟨hj, ho, hb1, hb2, hf⟩
  simp only at hj ho h
  refine wp_seq ?_
  refine wp_seq ?_
  refine wp_region_lit ?_
  refine st_move h rfl rfl ?_; clear h a; intro a h
  refine st_fieldAddr h rfl fa42_0 rfl ?_; clear h a; intro a h
  refine st_loadB h rfl hb1 rfl na5 rfl ?_; clear h a; intro a h
  refine st_rem h rfl rfl (by omega) (by first | exact IntWalk.rem_in _ _ (by omega) | rfl) rfl ?_; clear h a; intro a h
  refine st_conv h rfl (by rw [Tryd.underlying5]; rfl) Tryd.underlying3 (by first | exact IntWalk.i64_in _ (by omega) | rfl) rfl ?_; clear h a; intro a h
  refine st_le h rfl rfl rfl ?_; clear h a; intro a h
  replace h : Ag a 60 [(1, _), (2, _), (3, _), (4, _), (16, _)] := h.sub (.cons rfl (.cons rfl (.cons rfl (.cons rfl (.cons rfl .nil)))))
  refine wpList_nil (norm_then ?_)
  first | refine cond_dec h rfl (fun c0 => ?_) (fun c0 => ?_) | refine cond_ndec h rfl (fun c0 => ?_) (fun c0 => ?_) | refine cond_split h rfl (fun c0 => ?_) (fun c0 => ?_)
  · refine id ?_
    refine wp_skip (norm_then ?_)
    refine wp_seq ?_
    refine wp_block ?_
    refine wp_region_lit ?_
    refine st_move h rfl rfl ?_; clear h a; intro a h
    refine st_bslice [(1 : Int)] h (evs_cons rfl evs_nil) rfl rfl rfl el68 (by decide) rfl ?_; clear h a; intro gN w4 hg hoN hq hz a h
    replace hf := hf.next hq
    replace hb1 := hb1.ext hq
    replace hb2 := hb2.ext hq
    replace ho := ho.ext hq
    clear hq hz hg
    have hbO := ho.blk
    refine st_append h rfl rfl ho hoN.sl el68 (by unfold maxLen; simp; omega) (by simp; omega) (by have := hb2.lt; omega) rfl ?_; clear h a; intro v3 w5 ho3 hq hx3 a h
    replace hb1 := hb1.fr hq (fun hb => by have := (hbO _ hb).1; omega)
    replace hb2 := hb2.fr hq (fun hb => by have := (hbO _ hb).1; omega)
    replace hf := hf.step hq (fun k hk hlt => absurd (hbO k hk).1 (by omega))
    clear ho hq hx3 hoN hbO; have ho := ho3; clear ho3
    refine st_assign h rfl rfl ?_; clear h a; intro a h
    replace h : Ag a 60 [(1, _), (2, _), (3, _), (4, _)] := h.sub (.cons rfl (.cons rfl (.cons rfl (.cons rfl .nil))))
    refine wpList_nil (norm_blk (norm_then ?_))
    refine wp_region_lit ?_
    refine st_move h rfl rfl ?_; clear h a; intro a h
    refine st_add h rfl rfl (by first | exact IntWalk.i64_in _ (by omega) | rfl) rfl ?_; clear h a; intro a h
    refine st_assign h rfl rfl ?_; clear h a; intro a h
    replace h : Ag a 60 [(1, _), (2, _), (3, _), (4, _)] := h.sub (.cons rfl (.cons rfl (.cons rfl (.cons rfl .nil))))
    refine wpList_nil (norm_then ?_)
    exact ⟨(j + 1, _), h.sub (.cons rfl (.cons rfl (.cons rfl (.cons rfl .nil)))), ⟨by simp only; omega, by rw [rep_succ]; exact ho, hb1, hb2, hf⟩, by simp only; omega⟩
  · obtain hjj : (j : Int) = wd % 8 + 1 := by omega
    refine wp_exit (exit_then (exit_then (exit_here (norm_then ?_))))
    refine wp_seq ?_
    refine wp_region_lit ?_
    refine st_fieldAddr h rfl fa42_1 rfl ?_; clear h a; intro a h
    refine st_loadB h rfl hb1 rfl na40 rfl ?_; clear h a; intro a h
    refine st_lenS h rfl Tryd.underlying40 rfl ?_; clear h a; intro a h
    refine st_min h rfl rfl rfl ?_; clear h a; intro a h
    refine st_assign h rfl rfl ?_; clear h a; intro a h
    replace h : Ag a 60 [(1, _), (2, _), (3, _), (5, _)] := h.sub (.cons rfl (.cons rfl (.cons rfl (.cons rfl .nil))))
    refine wpList_nil (norm_then ?_)
    refine seq_cut (Cut (ι := Int) 60 (fun many => [(1, .pointer (some ⟨g_1, 0, none⟩)), (2, .pointer (some ⟨g_2, 0, none⟩)), (3, x), (5, .int .i64 many)]) (fun many w' => 1 ≤ many ∧ many ≤ 9 ∧ Own Enc.i64 3 (g_2 + 1) w' x (List.replicate j 1) ∧ Blk w' g_1 42 [.int .u8 wd, .slice HA hs.length hc] ∧ Blk w' g_2 45 [.slice none 0 0] ∧ Fr [] w0 w')) ?_ ?_
    · refine id ?_
      refine wp_seq ?_
      refine wp_region_lit ?_
      refine st_move h rfl rfl ?_; clear h a; intro a h
      refine st_rem h rfl rfl (by omega) (by first | exact IntWalk.rem_in _ _ (by omega) | rfl) rfl ?_; clear h a; intro a h
      refine st_eq h rfl rfl rfl ?_; clear h a; intro a h
      replace h : Ag a 60 [(1, _), (2, _), (3, _), (5, _), (28, _)] := h.sub (.cons rfl (.cons rfl (.cons rfl (.cons rfl (.cons rfl .nil)))))
      refine wpList_nil (norm_then ?_)
      first | refine cond_dec h rfl (fun c1 => ?_) (fun c1 => ?_) | refine cond_ndec h rfl (fun c1 => ?_) (fun c1 => ?_) | refine cond_split h rfl (fun c1 => ?_) (fun c1 => ?_)
      · refine id ?_
        refine wp_region_lit ?_
        refine st_move h rfl rfl ?_; clear h a; intro a h
        refine st_add h rfl rfl (by first | exact IntWalk.i64_in _ (by omega) | rfl) rfl ?_; clear h a; intro a h
        refine st_assign h rfl rfl ?_; clear h a; intro a h
        replace h : Ag a 60 [(1, _), (2, _), (3, _), (5, _)] := h.sub (.cons rfl (.cons rfl (.cons rfl (.cons rfl .nil))))
        refine wpList_nil (norm_then ?_)
        exact ⟨_, h.sub (.cons rfl (.cons rfl (.cons rfl (.cons rfl .nil)))), by omega, by omega, ho, hb1, hb2, hf⟩
      · refine id ?_
        refine wp_skip (norm_then ?_)
        exact ⟨_, h.sub (.cons rfl (.cons rfl (.cons rfl (.cons rfl .nil)))), by omega, by omega, ho, hb1, hb2, hf⟩
    · clear h a hb1 hb2 hf ho
      rintro a w6 ⟨many, h, ⟨hm1, hm9, ho, hb1, hb2, hf⟩⟩
      refine wp_seq ?_
      refine wp_region_lit ?_
      refine st_alloc h zv45 rfl rfl ?_; clear h a; intro w7 hb6 hq hz a h
      obtain ⟨g_6, hg⟩ : ∃ g, g = w6.heap.size := ⟨_, rfl⟩; rw [← hg] at hb6 h hz
      have hl6 : w0.heap.size ≤ g_6 := by have := hf.size; omega
      have hn_1_6 : g_1 < g_6 := by have := hb1.lt; omega
      have hn_2_6 : g_2 < g_6 := by have := hb2.lt; omega
      replace hf := hf.next hq
      replace hb1 := hb1.ext hq
      replace hb2 := hb2.ext hq
      replace ho := ho.ext hq
      clear hq hz hg
      refine wpList_nil (norm_then ?_)
      refine wp_seq ?_
      refine wp_seq ?_
      refine wp_region_lit ?_
      refine st_assign h rfl rfl ?_; clear h a; intro a h
      refine wpList_nil (norm_then ?_)
      refine wp_block ?_
      refine loop (ι := OfSt) (fun z => [(1, .pointer (some ⟨g_1, 0, none⟩)), (2, .pointer (some ⟨g_2, 0, none⟩)), (3, z.L), (5, .int .i64 many), (6, .pointer (some ⟨g_6, 0, none⟩)), (7, .int .i64 (z.i : Int))]) (fun z w' => (z.i : Int) ≤ many ∧ z.ps.length = z.i ∧ Sl Enc.i64 w' z.L z.ls ∧ z.ls.all few = true ∧ 1 ≤ z.ls.length ∧ z.ls.length ≤ 8 ∧ RowsO 22 36 (g_6 + 1) w' z.OV z.ps ∧ (∀ p ∈ z.ps, goodRow p.2) ∧ Blk w' g_1 42 [.int .u8 wd, .slice HA hs.length hc] ∧ Blk w' g_2 45 [.slice none 0 0] ∧ Blk w' g_6 45 [z.OV] ∧ Fr [] w0 w') (fun z => many.toNat - z.i) ⟨0, x, List.replicate j 1, .slice none 0 0, []⟩ (h.sub (.cons rfl (.cons rfl (.cons rfl (.cons rfl (.cons rfl (.cons rfl .nil))))))) ⟨by simp only; omega, rfl, ho.sl, rep_few _, by simp; omega, by simp; omega, RowsO.nil _, by simp, hb1, hb2, hb6, hf⟩ ?_
      clear h a hb1 hb2 hb6 hf ho
      rintro ⟨i, L, ls, OV, ps⟩ w8 a h ⟨hi, hpl, hL, hlf, hl1, hl8, hR, hgood, hb1, hb2, hb6, hf⟩
      simp only at hi hpl hL hlf hl1 hl8 hR hgood hb6 h
      refine wp_seq ?_
      refine wp_seq ?_
      refine wp_region_lit ?_
      refine st_move h rfl rfl ?_; clear h a; intro a h
      refine st_move h rfl rfl ?_; clear h a; intro a h
      refine st_lt h rfl rfl rfl ?_; clear h a; intro a h
      replace h : Ag a 60 [(1, _), (2, _), (3, _), (5, _), (6, _), (7, _), (33, _)] := h.sub (.cons rfl (.cons rfl (.cons rfl (.cons rfl (.cons rfl (.cons rfl (.cons rfl .nil)))))))
      refine wpList_nil (norm_then ?_)
      first | refine cond_dec h rfl (fun c2 => ?_) (fun c2 => ?_) | refine cond_ndec h rfl (fun c2 => ?_) (fun c2 => ?_) | refine cond_split h rfl (fun c2 => ?_) (fun c2 => ?_)
      · refine id ?_
        refine wp_skip (norm_then ?_)
        refine wp_seq ?_
        refine wp_block ?_
        refine wp_seq ?_
        refine wp_region_lit ?_
        refine st_assign h rfl rfl ?_; clear h a; intro a h
        replace h : Ag a 60 [(1, _), (2, _), (3, _), (5, _), (6, _), (7, _), (8, _)] := h.sub (.cons rfl (.cons rfl (.cons rfl (.cons rfl (.cons rfl (.cons rfl (.cons rfl .nil)))))))
        refine wpList_nil (norm_then ?_)
        refine seq_cut (Cut (ι := Value) 60 (fun v8 => [(1, .pointer (some ⟨g_1, 0, none⟩)), (2, .pointer (some ⟨g_2, 0, none⟩)), (3, L), (5, .int .i64 many), (6, .pointer (some ⟨g_6, 0, none⟩)), (7, .int .i64 (i : Int)), (8, v8)]) (fun v8 w' => (∃ cs, Sl Enc.b w' v8 cs) ∧ Sl Enc.i64 w' L ls ∧ RowsO 22 36 (g_6 + 1) w' OV ps ∧ Blk w' g_1 42 [.int .u8 wd, .slice HA hs.length hc] ∧ Blk w' g_2 45 [.slice none 0 0] ∧ Blk w' g_6 45 [OV] ∧ Fr [] w0 w')) ?_ ?_
        · refine id ?_
          refine wp_seq ?_
          refine wp_region_lit ?_
          refine st_move h rfl rfl ?_; clear h a; intro a h
          refine st_fieldAddr h rfl fa42_1 rfl ?_; clear h a; intro a h
          refine st_loadB h rfl hb1 rfl na40 rfl ?_; clear h a; intro a h
          refine st_lenS h rfl Tryd.underlying40 rfl ?_; clear h a; intro a h
          refine st_lt h rfl rfl rfl ?_; clear h a; intro a h
          replace h : Ag a 60 [(1, _), (2, _), (3, _), (5, _), (6, _), (7, _), (8, _), (40, _)] := h.sub (.cons rfl (.cons rfl (.cons rfl (.cons rfl (.cons rfl (.cons rfl (.cons rfl (.cons rfl .nil))))))))
          refine wpList_nil (norm_then ?_)
          first | refine cond_dec h rfl (fun c3 => ?_) (fun c3 => ?_) | refine cond_ndec h rfl (fun c3 => ?_) (fun c3 => ?_) | refine cond_split h rfl (fun c3 => ?_) (fun c3 => ?_)
          · obtain ⟨p, hp⟩ : ∃ x, hs[i]? = some x := ⟨_, List.getElem?_eq_getElem (by omega)⟩
            obtain ⟨ad, hAd, ca⟩ := hA _ p hp
            obtain ⟨cs, hcs⟩ := hin p (List.mem_of_getElem? hp)
            refine wp_region_lit ?_
            refine st_fieldAddr h rfl fa42_1 rfl ?_; clear h a; intro a h
            refine st_loadB h rfl hb1 rfl na40 rfl ?_; clear h a; intro a h
            refine st_move h rfl rfl ?_; clear h a; intro a h
            refine st_idxS h (by rw [hAd]; rfl) rfl el40 (by omega) (by omega) rfl rfl ?_; clear h a; intro a h
            refine st_loadC0 h rfl (ca.fr hf (by simp)) na58 rfl ?_; clear h a; intro a h
            refine st_assign h rfl rfl ?_; clear h a; intro a h
            replace h : Ag a 60 [(1, _), (2, _), (3, _), (5, _), (6, _), (7, _), (8, _)] := h.sub (.cons rfl (.cons rfl (.cons rfl (.cons rfl (.cons rfl (.cons rfl (.cons rfl .nil)))))))
            refine wpList_nil (norm_then ?_)
            exact ⟨_, h.sub (.cons rfl (.cons rfl (.cons rfl (.cons rfl (.cons rfl (.cons rfl (.cons rfl .nil))))))), by first | exact ⟨_, hcs.ext hf⟩ | exact ⟨[], Sl.nil _⟩, hL, hR, hb1, hb2, hb6, hf⟩
          · refine id ?_
            refine wp_skip (norm_then ?_)
            exact ⟨_, h.sub (.cons rfl (.cons rfl (.cons rfl (.cons rfl (.cons rfl (.cons rfl (.cons rfl .nil))))))), by first | exact ⟨_, hcs.ext hf⟩ | exact ⟨[], Sl.nil _⟩, hL, hR, hb1, hb2, hb6, hf⟩
        · clear h a hb1 hb2 hb6 hf hL hR
          rintro a w9 ⟨v8, h, ⟨⟨cs, hcs⟩, hL, hR, hb1, hb2, hb6, hf⟩⟩
          refine wp_seq ?_
          refine wp_region_lit ?_
          refine st_move h rfl rfl ?_; clear h a; intro a h
          refine st_move h rfl rfl ?_; clear h a; intro a h
          have hOb := hR.out.blk
          have hb6l := hb6.lt
          refine st_call h (evs_cons rfl (evs_cons rfl evs_nil)) co32 (row_ok _ _ _ _ _ hL hcs hlf hl1 hl8) rfl ?_; clear h a; rintro _ w10 ⟨X, Y, xs2, ys2, rfl, hX, hY, -, hxne, hxok, hx8, hyf, hy1, hy8, hq⟩ a h
          have hXO : ∀ k ∈ blks X, k ∉ blks OV := fun k hk hk2 => by have := (hX.blk k hk).1; have := (hOb k hk2).2; omega
          have hYO : ∀ k ∈ blks OV, k ∉ blks Y := fun k hk hk2 => by have := (hY.blk k hk2).1; have := (hOb k hk).2; omega
          have hY6 : ∀ k ∈ blks Y, g_6 < k := fun k hk => by have := (hY.blk k hk).1; omega
          replace hX := hX.low (show g_6 + 1 ≤ _ by omega)
          replace hf := hf.next hq
          replace hb1 := hb1.ext hq
          replace hb2 := hb2.ext hq
          replace hb6 := hb6.ext hq
          replace hR := hR.ext hq
          clear hq hL hcs hOb hb6l
          replace hY := hY.sl
          obtain ⟨XA, xc, rfl, hxc⟩ := hX.sl.form
          refine st_move h rfl rfl ?_; clear h a; intro a h
          refine st_extract h rfl rfl rfl ?_; clear h a; intro a h
          refine st_extract h rfl rfl rfl ?_; clear h a; intro a h
          refine st_assign h rfl rfl ?_; clear h a; intro a h
          refine st_assign h rfl rfl ?_; clear h a; intro a h
          replace h : Ag a 60 [(1, _), (2, _), (5, _), (6, _), (7, _), (9, _), (10, _)] := h.sub (.cons rfl (.cons rfl (.cons rfl (.cons rfl (.cons rfl (.cons rfl (.cons rfl .nil)))))))
          refine wpList_nil (norm_then ?_)
          refine wp_seq ?_
          refine wp_region_lit ?_
          refine st_fieldAddr h rfl fa45_0 rfl ?_; clear h a; intro a h
          refine st_loadB h rfl hb6 rfl na43 rfl ?_; clear h a; intro a h
          refine st_move h rfl rfl ?_; clear h a; intro a h
          refine st_bslice [((XA, xs2.length, xc) : SV)] h (evs_cons rfl evs_nil) rfl rfl rfl el43 (by decide) rfl ?_; clear h a; intro gN w11 hg hoN hq hz a h
          replace hf := hf.next hq
          replace hb1 := hb1.ext hq
          replace hb2 := hb2.ext hq
          replace hb6 := hb6.ext hq
          replace hR := hR.ext hq
          replace hX := hX.ext hq
          replace hY := hY.ext hq
          clear hq hz hg
          have hbO := hR.out.blk
          refine st_append h rfl rfl hR.out hoN.sl el43 (by unfold maxLen; simp; omega) (by simp; omega) (by have := hb6.lt; omega) rfl ?_; clear h a; intro OV3 w12 ho3 hq hx3 a h
          replace hR := hR.push (u := (XA, xs2.length, xc)) hX hXO ho3 hq hx3
          replace hY := hY.fr hq hYO
          replace hb1 := hb1.fr hq (fun hb => by have := (hbO _ hb).1; omega)
          replace hb2 := hb2.fr hq (fun hb => by have := (hbO _ hb).1; omega)
          replace hb6 := hb6.fr hq (fun hb => by have := (hbO _ hb).1; omega)
          replace hf := hf.step hq (fun k hk hlt => absurd (hbO k hk).1 (by omega))
          clear hq hx3 hoN hbO ho3 hX hXO hYO
          refine st_fieldAddr h rfl fa45_0 rfl ?_; clear h a; intro a h
          refine st_storeB h rfl rfl hb6 rfl (by obtain ⟨OA, oc, rfl, _⟩ := hR.out.sl.form; rfl) (by obtain ⟨OA, oc, rfl, _⟩ := hR.out.sl.form; rfl) sz43 ?_; clear h a; intro w13 hbn hq hz a h
          replace hR := hR.fr hq (by simp)
          replace hY := hY.fr hq (fun k hk hb => by simp at hk; have := hY6 k hb; omega)
          replace hb1 := hb1.fr hq (by simp; omega)
          replace hb2 := hb2.fr hq (by simp; omega)
          replace hf := hf.step hq (by simp; omega)
          clear hb6 hq hz; have hb6 : Blk w13 g_6 _ [_] := hbn; clear hbn
          replace h : Ag a 60 [(1, _), (2, _), (5, _), (6, _), (7, _), (10, _)] := h.sub (.cons rfl (.cons rfl (.cons rfl (.cons rfl (.cons rfl (.cons rfl .nil))))))
          refine wpList_nil (norm_then ?_)
          refine wp_region_lit ?_
          refine st_move h rfl rfl ?_; clear h a; intro a h
          refine st_assign h rfl rfl ?_; clear h a; intro a h
          replace h : Ag a 60 [(1, _), (2, _), (3, _), (5, _), (6, _), (7, _)] := h.sub (.cons rfl (.cons rfl (.cons rfl (.cons rfl (.cons rfl (.cons rfl .nil))))))
          refine wpList_nil (norm_blk (norm_then ?_))
          refine wp_region_lit ?_
          refine st_move h rfl rfl ?_; clear h a; intro a h
          refine st_add h rfl rfl (by first | exact IntWalk.i64_in _ (by omega) | rfl) rfl ?_; clear h a; intro a h
          refine st_assign h rfl rfl ?_; clear h a; intro a h
          replace h : Ag a 60 [(1, _), (2, _), (3, _), (5, _), (6, _), (7, _)] := h.sub (.cons rfl (.cons rfl (.cons rfl (.cons rfl (.cons rfl (.cons rfl .nil))))))
          refine wpList_nil (norm_then ?_)
          exact ⟨⟨i + 1, Y, ys2, OV3, ps ++ [((XA, xs2.length, xc), xs2)]⟩, h.sub (.cons rfl (.cons rfl (.cons rfl (.cons rfl (.cons rfl (.cons rfl .nil)))))), ⟨by simp only; omega, by simp [hpl], hY, hyf, hy1, hy8, hR, by intro p hp; rcases List.mem_append.1 hp with hp | hp; exact hgood p hp; simp at hp; subst hp; exact ⟨hxne, hxok, hx8⟩, hb1, hb2, hb6, hf⟩, by simp only; omega⟩
      · obtain ⟨OA, oc, rfl, _⟩ := hR.out.sl.form
        clear hL
        refine wp_exit (exit_then (exit_then (exit_here (norm_then ?_))))
        refine wp_seq ?_
        refine wp_region_lit ?_
        refine st_loadBA h rfl hb6 ag45 rfl ?_; clear h a; intro a h
        refine st_storeBA h rfl rfl hb2 rfl (by first | (simp [Value.oneCell', S]; done) | exact Enc.one _ _) sz45 ?_; clear h a; intro w14 hbn hq hz a h
        replace hf := hf.step hq (by first | (simp; done) | (simp; omega))
        replace hb1 := hb1.fr hq (by first | (simp; done) | (simp; omega) | (simp [blks]; done) | (simp [blks]; omega))
        replace hb6 := hb6.fr hq (by first | (simp; done) | (simp; omega) | (simp [blks]; done) | (simp [blks]; omega))
        replace hR := hR.fr hq (by first | (simp; done) | (simp; omega) | (simp [blks]; done) | (simp [blks]; omega))
        clear hb2 hq hz; have hb2 : Blk w14 g_2 _ [_] := hbn; clear hbn
        replace h : Ag a 60 [(2, _)] := h.sub (.cons rfl .nil)
        refine wpList_nil (norm_then ?_)
        refine wp_ret ?_
        refine retC h Tryd.results18 rfl hb2 ag45  ?_
        exact ⟨_, rfl, _, _, rfl, hR.sl2, fun e => by have := congrArg List.length e; rw [List.length_map, List.length_nil] at this; omega, fun r hr => by obtain ⟨p, hp, rfl⟩ := List.mem_map.1 hr; exact hgood p hp, hf⟩
end Go.Proofs.YtbbnampdgefljaaDoor
