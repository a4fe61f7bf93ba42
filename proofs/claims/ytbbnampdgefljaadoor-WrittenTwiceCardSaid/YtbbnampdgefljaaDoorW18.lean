/- Walks. -/
import Derived.Test.YtbbnampdgefljaaDoorW17
import Derived.Test.YtbbnampdgefljaaDoorXRowOf
import Derived.Test.YtbbnampdgefljaaDoorXMake
set_option linter.unusedVariables false
set_option linter.unusedSimpArgs false
namespace Go.Proofs.YtbbnampdgefljaaDoor
open Go.Lw Go.G14
theorem bo100 : BuildAt Tryd.prog 100 [(0, 1), (1, 1), (2, 1), (3, 1)] [(.int .u8 0), (.int .u8 0), (.int .u8 0), (.bool false)] := BuildAt.struct Tryd.underlying100 (fun _ => by kernel_rfl) (fun _ => by kernel_rfl)
theorem co43 : CallOf Tryd.prog 43 := CallOf.mk' Tryd.func43 (by kernel_rfl) (by kernel_rfl)
theorem co57 : CallOf Tryd.prog 57 := CallOf.mk' Tryd.func57 (by kernel_rfl) (by kernel_rfl)
set_option maxHeartbeats 4000000 in
theorem row_ok (u v : Value) (ls : List Int) (cs : List UInt8) (w0 : World) (hu : Sl Enc.i64 w0 u ls) (hv : Sl Enc.b w0 v cs) (hfl : ls.all few = true) (hl1 : 1 ≤ ls.length) (hl8 : ls.length ≤ 8) : Rets Tryd.prog 32 #[u, v] w0 fun r w' => ∃ X Y xs ys, r = .tuple #[X, Y] ∧ Own encSt 36 w0.heap.size w' X xs ∧ Own Enc.i64 3 w0.heap.size w' Y ys ∧ (∀ k ∈ blks X, k ∉ blks Y) ∧ xs ≠ [] ∧ xs.all okB = true ∧ xs.length ≤ 8 ∧ ys.all few = true ∧ 1 ≤ ys.length ∧ ys.length ≤ 8 ∧ Fr [] w0 w' := by
  obtain ⟨A, c, rfl, hcp⟩ := hu.form
  obtain ⟨-, -, hM, hA⟩ := Sl.open_ hu
  obtain ⟨B, d, rfl, hdp⟩ := hv.form
  obtain ⟨-, -, hN, hB⟩ := Sl.open_ hv
  unfold maxLen at hM hN
  refine enter [(0, .slice A ls.length c), (1, .slice B cs.length d)] Tryd.func32 rfl Tryd.ntmps32 rfl (.cons rfl (.cons rfl .nil)) ?_
  have hf := Fr.refl [] w0
  intro a h
  refine wp_seq ?_
  refine wp_region_lit ?_
  refine st_assign h rfl rfl ?_; clear h a; intro a h
  refine st_assign h rfl rfl ?_; clear h a; intro a h
  replace h : Ag a 141 [(0, _), (1, _)] := h.sub (.cons rfl (.cons rfl .nil))
  refine wpList_nil (norm_then ?_)
  refine wp_seq ?_
  refine wp_region_lit ?_
  refine st_assign h rfl rfl ?_; clear h a; intro a h
  refine wpList_nil (norm_then ?_)
  refine wp_seq ?_
  refine wp_region_lit ?_
  refine st_assign h rfl rfl ?_; clear h a; intro a h
  refine wpList_nil (norm_then ?_)
  refine wp_seq ?_
  refine wp_region_lit ?_
  refine st_assign h rfl rfl ?_; clear h a; intro a h
  refine wpList_nil (norm_then ?_)
  refine wp_seq ?_
  refine wp_seq ?_
  refine wp_region_lit ?_
  refine st_assign h rfl rfl ?_; clear h a; intro a h
  refine wpList_nil (norm_then ?_)
  refine wp_block ?_
  refine loop (ι := RowSt) (fun z => [(0, .slice A ls.length c), (1, .slice B cs.length d), (6, z.X), (7, z.Y), (8, .int .i64 (z.i : Int)), (9, .int .i64 (z.xs.length : Int))]) (fun z w' => z.i ≤ ls.length ∧ Own encSt 36 w0.heap.size w' z.X z.xs ∧ Own Enc.i64 3 w0.heap.size w' z.Y z.ys ∧ (∀ k ∈ blks z.X, k ∉ blks z.Y) ∧ z.xs.all okB = true ∧ z.ys.all few = true ∧ z.xs.length ≤ z.ys.length ∧ z.ys.length + (ls.length - z.i) ≤ 8 ∧ (z.xs = [] → z.i = 0) ∧ Fr [] w0 w') (fun z => 16 + (ls.length - z.i) - z.ys.length) ⟨0, [], [], .slice none 0 0, .slice none 0 0⟩ (h.sub (.cons rfl (.cons rfl (.cons rfl (.cons rfl (.cons rfl (.cons rfl .nil))))))) ⟨Nat.zero_le _, Own.nil _, Own.nil _, (by intro k hk; cases hk), rfl, rfl, Nat.le_refl _, by simpa using hl8, fun _ => rfl, hf⟩ ?_
  clear h a hf
  rintro ⟨i, xs, ys, X, Y⟩ w1 a h ⟨hi, hX, hY, hdis, hok, hfy, hxy, h8, hne, hf⟩
  simp only at hi hX hY hdis hok hfy hxy h8 hne h
  obtain ⟨YA, yc, rfl, hyc⟩ := hY.sl.form
  refine wp_seq ?_
  refine wp_seq ?_
  refine wp_region_lit ?_
  refine st_move h rfl rfl ?_; clear h a; intro a h
  refine st_move h rfl rfl ?_; clear h a; intro a h
  refine st_lenS h rfl Tryd.underlying68 rfl ?_; clear h a; intro a h
  refine st_lt h rfl rfl rfl ?_; clear h a; intro a h
  replace h : Ag a 141 [(0, _), (1, _), (6, _), (7, _), (8, _), (9, _), (20, _)] := h.sub (.cons rfl (.cons rfl (.cons rfl (.cons rfl (.cons rfl (.cons rfl (.cons rfl .nil)))))))
  refine wpList_nil (norm_then ?_)
  first | refine cond_dec h rfl (fun c0 => ?_) (fun c0 => ?_) | refine cond_ndec h rfl (fun c0 => ?_) (fun c0 => ?_) | refine cond_split h rfl (fun c0 => ?_) (fun c0 => ?_)
  · refine id ?_
    refine wp_skip (norm_then ?_)
    refine wp_seq ?_
    refine wp_block ?_
    refine wp_seq ?_
    refine wp_region_lit ?_
    refine st_assign h rfl rfl ?_; clear h a; intro a h
    replace h : Ag a 141 [(0, _), (1, _), (6, _), (7, _), (8, _), (9, _), (10, _)] := h.sub (.cons rfl (.cons rfl (.cons rfl (.cons rfl (.cons rfl (.cons rfl (.cons rfl .nil)))))))
    refine wpList_nil (norm_then ?_)
    refine seq_cut (Cut (ι := Int) 141 (fun ch => [(0, .slice A ls.length c), (1, .slice B cs.length d), (6, X), (7, .slice YA ys.length yc), (8, .int .i64 (i : Int)), (9, .int .i64 (xs.length : Int)), (10, .int .u8 ch)]) (fun ch w' => 0 ≤ ch ∧ ch ≤ 255 ∧ Own encSt 36 w0.heap.size w' X xs ∧ Own Enc.i64 3 w0.heap.size w' (.slice YA ys.length yc) ys ∧ Fr [] w0 w')) ?_ ?_
    · refine id ?_
      refine wp_seq ?_
      refine wp_region_lit ?_
      refine st_move h rfl rfl ?_; clear h a; intro a h
      refine st_move h rfl rfl ?_; clear h a; intro a h
      refine st_lenS h rfl Tryd.underlying58 rfl ?_; clear h a; intro a h
      refine st_lt h rfl rfl rfl ?_; clear h a; intro a h
      replace h : Ag a 141 [(0, _), (1, _), (6, _), (7, _), (8, _), (9, _), (10, _), (26, _)] := h.sub (.cons rfl (.cons rfl (.cons rfl (.cons rfl (.cons rfl (.cons rfl (.cons rfl (.cons rfl .nil))))))))
      refine wpList_nil (norm_then ?_)
      first | refine cond_dec h rfl (fun c1 => ?_) (fun c1 => ?_) | refine cond_ndec h rfl (fun c1 => ?_) (fun c1 => ?_) | refine cond_split h rfl (fun c1 => ?_) (fun c1 => ?_)
      · obtain ⟨bx, hbx⟩ : ∃ x, cs[xs.length]? = some x := ⟨_, List.getElem?_eq_getElem (by omega)⟩
        obtain ⟨bd, hBx, cbx⟩ := hB _ bx hbx
        refine wp_region_lit ?_
        refine st_move h rfl rfl ?_; clear h a; intro a h
        refine st_move h rfl rfl ?_; clear h a; intro a h
        refine st_idxS h (by rw [hBx]; rfl) rfl el58 (by omega) (by omega) rfl rfl ?_; clear h a; intro a h
        refine st_loadC0 h rfl (cbx.fr hf (by simp)) na5 rfl ?_; clear h a; intro a h
        refine st_assign h rfl rfl ?_; clear h a; intro a h
        replace h : Ag a 141 [(0, _), (1, _), (6, _), (7, _), (8, _), (9, _), (10, _)] := h.sub (.cons rfl (.cons rfl (.cons rfl (.cons rfl (.cons rfl (.cons rfl (.cons rfl .nil)))))))
        refine wpList_nil (norm_then ?_)
        exact ⟨_, h.sub (.cons rfl (.cons rfl (.cons rfl (.cons rfl (.cons rfl (.cons rfl (.cons rfl .nil))))))), by first | omega | exact (byte_rng _).1, by first | omega | exact (byte_rng _).2, hX, hY, hf⟩
      · refine id ?_
        refine wp_skip (norm_then ?_)
        exact ⟨_, h.sub (.cons rfl (.cons rfl (.cons rfl (.cons rfl (.cons rfl (.cons rfl (.cons rfl .nil))))))), by first | omega | exact (byte_rng _).1, by first | omega | exact (byte_rng _).2, hX, hY, hf⟩
    · clear h a hX hY hf
      rintro a w2 ⟨ch, h, ⟨ch0, ch1, hX, hY, hf⟩⟩
      refine wp_seq ?_
      refine wp_region_lit ?_
      refine st_move h rfl rfl ?_; clear h a; intro a h
      refine st_quo h rfl rfl (by omega) (by first | exact IntWalk.u8_quo _ _ (by omega) | rfl) rfl ?_; clear h a; intro a h
      refine st_rem h rfl rfl (by omega) (by first | exact IntWalk.rem_in _ _ (by omega) | rfl) rfl ?_; clear h a; intro a h
      refine st_add h rfl rfl (by first | exact IntWalk.u8_in _ (by omega) | rfl) rfl ?_; clear h a; intro a h
      refine st_lit (cs := [_, _, _, _, _]) h (evs_cons rfl (evs_cons rfl evs_nil)) bo36 (pok_cons rfl rfl rfl (pok_cons rfl rfl rfl pok_nil)) rfl rfl ?_; clear h a; intro a h
      refine st_alloc h zv36 rfl rfl ?_; clear h a; intro w3 hb11 hq hz a h
      obtain ⟨g_11, hg⟩ : ∃ g, g = w2.heap.size := ⟨_, rfl⟩; rw [← hg] at hb11 h hz
      have hl11 : w0.heap.size ≤ g_11 := by have := hf.size; omega
      have hlt_hX_11 : ∀ k ∈ blks X, k < g_11 := fun k hk => by have := (hX.blk k hk).2; omega
      have hlt_hY_11 : ∀ k ∈ blks (.slice YA ys.length yc), k < g_11 := fun k hk => by have := (hY.blk k hk).2; omega
      replace hf := hf.next hq
      replace hX := hX.ext hq
      replace hY := hY.ext hq
      clear hq hz hg
      refine st_storeBA h rfl rfl hb11 rfl (by first | (simp [Value.oneCell', S]; done) | exact Enc.one _ _) sz36 ?_; clear h a; intro w4 hbn hq hz a h
      replace hf := hf.step hq (by first | (simp; done) | (simp; omega))
      replace hX := hX.fr hq (by intro k hk hb; simp at hk; subst hk; exact absurd (hlt_hX_11 _ hb) (by omega))
      replace hY := hY.fr hq (by intro k hk hb; simp at hk; subst hk; exact absurd (hlt_hY_11 _ hb) (by omega))
      clear hb11 hq hz; have hb11 : Blk w4 g_11 _ [_, _, _, _, _] := hbn; clear hbn
      replace hb11 : Blk w4 g_11 36 [.int .u8 1, .int .u8 (1 + ch / 16 % 3), .int .i64 0, .int .i64 0, .bool false] := hb11
      replace h : Ag a 141 [(0, _), (1, _), (6, _), (7, _), (8, _), (9, _), (10, _), (11, _)] := h.sub (.cons rfl (.cons rfl (.cons rfl (.cons rfl (.cons rfl (.cons rfl (.cons rfl (.cons rfl .nil))))))))
      refine wpList_nil (norm_then ?_)
      refine wp_seq ?_
      refine wp_region_lit ?_
      refine st_move h rfl rfl ?_; clear h a; intro a h
      refine st_lenS h rfl Tryd.underlying68 rfl ?_; clear h a; intro a h
      refine st_move h rfl rfl ?_; clear h a; intro a h
      refine st_sub h rfl rfl (by first | exact IntWalk.i64_in _ (by omega) | rfl) rfl ?_; clear h a; intro a h
      refine st_assign h rfl rfl ?_; clear h a; intro a h
      replace h : Ag a 141 [(0, _), (1, _), (6, _), (7, _), (8, _), (9, _), (10, _), (11, _), (12, _)] := h.sub (.cons rfl (.cons rfl (.cons rfl (.cons rfl (.cons rfl (.cons rfl (.cons rfl (.cons rfl (.cons rfl .nil)))))))))
      refine wpList_nil (norm_then ?_)
      refine seq_cut (Cut (ι := Stitch) 141 (fun s => [(0, .slice A ls.length c), (1, .slice B cs.length d), (6, X), (7, .slice YA ys.length yc), (8, .int .i64 (i : Int)), (9, .int .i64 (xs.length : Int)), (11, .pointer (some ⟨g_11, 0, none⟩))]) (fun s w' => Blk w' g_11 36 [.int .u8 s.k, .int .u8 s.y, .int .i64 s.a, .int .i64 s.b, .bool s.f] ∧ Fit ls i ys.length s ∧ Own encSt 36 w0.heap.size w' X xs ∧ Own Enc.i64 3 w0.heap.size w' (.slice YA ys.length yc) ys ∧ Fr [] w0 w')) ?_ ?_
      · refine id ?_
        refine wp_seq ?_
        refine wp_region_lit ?_
        refine st_move h rfl rfl ?_; clear h a; intro a h
        refine st_rem h rfl rfl (by omega) (by first | exact IntWalk.rem_in _ _ (by omega) | rfl) rfl ?_; clear h a; intro a h
        replace h : Ag a 141 [(0, _), (1, _), (6, _), (7, _), (8, _), (9, _), (10, _), (11, _), (12, _), (41, _)] := h.sub (.cons rfl (.cons rfl (.cons rfl (.cons rfl (.cons rfl (.cons rfl (.cons rfl (.cons rfl (.cons rfl (.cons rfl .nil))))))))))
        refine wpList_nil (norm_then ?_)
        refine wp_block ?_
        refine wp_seq ?_
        refine wp_seq ?_
        refine wp_region_lit ?_
        refine st_eq h rfl rfl rfl ?_; clear h a; intro a h
        refine st_assign h rfl rfl ?_; clear h a; intro a h
        replace h : Ag a 141 [(0, _), (1, _), (6, _), (7, _), (8, _), (9, _), (10, _), (11, _), (12, _), (41, _), (42, _)] := h.sub (.cons rfl (.cons rfl (.cons rfl (.cons rfl (.cons rfl (.cons rfl (.cons rfl (.cons rfl (.cons rfl (.cons rfl (.cons rfl .nil)))))))))))
        refine wpList_nil (norm_then ?_)
        first | refine cond_dec h rfl (fun c2 => ?_) (fun c2 => ?_) | refine cond_ndec h rfl (fun c2 => ?_) (fun c2 => ?_) | refine cond_split h rfl (fun c2 => ?_) (fun c2 => ?_)
        · refine id ?_
          rw [decide_eq_true c2] at h
          refine wp_skip (norm_then ?_)
          refine cond_true h rfl ?_
          refine wp_region_lit ?_
          refine st_fieldAddr h rfl fa36_0 rfl ?_; clear h a; intro a h
          refine st_storeB h rfl rfl hb11 rfl rfl rfl sz34 ?_; clear h a; intro w5 hbn hq hz a h
          replace hf := hf.step hq (by first | (simp; done) | (simp; omega))
          replace hX := hX.fr hq (by intro k hk hb; simp at hk; subst hk; exact absurd (hlt_hX_11 _ hb) (by omega))
          replace hY := hY.fr hq (by intro k hk hb; simp at hk; subst hk; exact absurd (hlt_hY_11 _ hb) (by omega))
          clear hb11 hq hz; have hb11 : Blk w5 g_11 _ [_, _, _, _, _] := hbn; clear hbn
          replace h : Ag a 141 [(0, _), (1, _), (6, _), (7, _), (8, _), (9, _), (11, _)] := h.sub (.cons rfl (.cons rfl (.cons rfl (.cons rfl (.cons rfl (.cons rfl (.cons rfl .nil)))))))
          refine wpList_nil (norm_blk (norm_then ?_))
          first | exact ⟨⟨kx.k, 1 + ch / 16 % 3, kx.a, kx.b, kx.f⟩, h.sub (.cons rfl (.cons rfl (.cons rfl (.cons rfl (.cons rfl (.cons rfl (.cons rfl .nil))))))), hb11, fitC hk7.1 (by omega) hk7.2.2.1 hk7.2.2.2.1 hk7.2.2.2.2 hfl (by omega), hX, hY, hf⟩ | exact ⟨⟨_, _, _, _, _⟩, h.sub (.cons rfl (.cons rfl (.cons rfl (.cons rfl (.cons rfl (.cons rfl (.cons rfl .nil))))))), hb11, by first | exact fitP (by omega) (by omega) (by omega) hfl | exact fitO (by omega) (by omega) (by omega) hfl (by omega) | exact fitT (by omega) (by omega) (by omega) hfl hxp hxq (by omega) | exact fitU (by omega) (by omega) (by omega) hfl hxp (by omega) | exact fitS (by omega) (by omega) (by omega) hfl, hX, hY, hf⟩
        · refine id ?_
          rw [decide_eq_false c2] at h
          refine wp_region_lit ?_
          refine st_eq h rfl rfl rfl ?_; clear h a; intro a h
          refine st_assign h rfl rfl ?_; clear h a; intro a h
          replace h : Ag a 141 [(0, _), (1, _), (6, _), (7, _), (8, _), (9, _), (10, _), (11, _), (12, _), (41, _), (42, _)] := h.sub (.cons rfl (.cons rfl (.cons rfl (.cons rfl (.cons rfl (.cons rfl (.cons rfl (.cons rfl (.cons rfl (.cons rfl (.cons rfl .nil)))))))))))
          refine wpList_nil (norm_then ?_)
          first | refine cond_dec h rfl (fun c3 => ?_) (fun c3 => ?_) | refine cond_ndec h rfl (fun c3 => ?_) (fun c3 => ?_) | refine cond_split h rfl (fun c3 => ?_) (fun c3 => ?_)
          · refine id ?_
            refine wp_region_lit ?_
            refine st_fieldAddr h rfl fa36_0 rfl ?_; clear h a; intro a h
            refine st_storeB h rfl rfl hb11 rfl rfl rfl sz34 ?_; clear h a; intro w6 hbn hq hz a h
            replace hf := hf.step hq (by first | (simp; done) | (simp; omega))
            replace hX := hX.fr hq (by intro k hk hb; simp at hk; subst hk; exact absurd (hlt_hX_11 _ hb) (by omega))
            replace hY := hY.fr hq (by intro k hk hb; simp at hk; subst hk; exact absurd (hlt_hY_11 _ hb) (by omega))
            clear hb11 hq hz; have hb11 : Blk w6 g_11 _ [_, _, _, _, _] := hbn; clear hbn
            replace h : Ag a 141 [(0, _), (1, _), (6, _), (7, _), (8, _), (9, _), (11, _)] := h.sub (.cons rfl (.cons rfl (.cons rfl (.cons rfl (.cons rfl (.cons rfl (.cons rfl .nil)))))))
            refine wpList_nil (norm_blk (norm_then ?_))
            first | exact ⟨⟨kx.k, 1 + ch / 16 % 3, kx.a, kx.b, kx.f⟩, h.sub (.cons rfl (.cons rfl (.cons rfl (.cons rfl (.cons rfl (.cons rfl (.cons rfl .nil))))))), hb11, fitC hk7.1 (by omega) hk7.2.2.1 hk7.2.2.2.1 hk7.2.2.2.2 hfl (by omega), hX, hY, hf⟩ | exact ⟨⟨_, _, _, _, _⟩, h.sub (.cons rfl (.cons rfl (.cons rfl (.cons rfl (.cons rfl (.cons rfl (.cons rfl .nil))))))), hb11, by first | exact fitP (by omega) (by omega) (by omega) hfl | exact fitO (by omega) (by omega) (by omega) hfl (by omega) | exact fitT (by omega) (by omega) (by omega) hfl hxp hxq (by omega) | exact fitU (by omega) (by omega) (by omega) hfl hxp (by omega) | exact fitS (by omega) (by omega) (by omega) hfl, hX, hY, hf⟩
          · refine id ?_
            refine wp_seq ?_
            refine wp_region_lit ?_
            refine st_eq h rfl rfl rfl ?_; clear h a; intro a h
            refine st_assign h rfl rfl ?_; clear h a; intro a h
            replace h : Ag a 141 [(0, _), (1, _), (6, _), (7, _), (8, _), (9, _), (10, _), (11, _), (12, _), (41, _), (46, _)] := h.sub (.cons rfl (.cons rfl (.cons rfl (.cons rfl (.cons rfl (.cons rfl (.cons rfl (.cons rfl (.cons rfl (.cons rfl (.cons rfl .nil)))))))))))
            refine wpList_nil (norm_then ?_)
            first | refine cond_dec h rfl (fun c4 => ?_) (fun c4 => ?_) | refine cond_ndec h rfl (fun c4 => ?_) (fun c4 => ?_) | refine cond_split h rfl (fun c4 => ?_) (fun c4 => ?_)
            · refine id ?_
              refine wp_seq ?_
              refine wp_region_lit ?_
              refine st_move h rfl rfl ?_; clear h a; intro a h
              refine st_lenS h rfl Tryd.underlying68 rfl ?_; clear h a; intro a h
              refine st_move h rfl rfl ?_; clear h a; intro a h
              refine st_add h rfl rfl (by first | exact IntWalk.i64_in _ (by omega) | rfl) rfl ?_; clear h a; intro a h
              refine st_lt h rfl rfl rfl ?_; clear h a; intro a h
              replace h : Ag a 141 [(0, _), (1, _), (6, _), (7, _), (8, _), (9, _), (11, _), (52, _)] := h.sub (.cons rfl (.cons rfl (.cons rfl (.cons rfl (.cons rfl (.cons rfl (.cons rfl (.cons rfl .nil))))))))
              refine wpList_nil (norm_then ?_)
              first | refine cond_dec h rfl (fun c5 => ?_) (fun c5 => ?_) | refine cond_ndec h rfl (fun c5 => ?_) (fun c5 => ?_) | refine cond_split h rfl (fun c5 => ?_) (fun c5 => ?_)
              · refine id ?_
                refine wp_region_lit ?_
                refine st_fieldAddr h rfl fa36_0 rfl ?_; clear h a; intro a h
                refine st_storeB h rfl rfl hb11 rfl rfl rfl sz34 ?_; clear h a; intro w7 hbn hq hz a h
                replace hf := hf.step hq (by first | (simp; done) | (simp; omega))
                replace hX := hX.fr hq (by intro k hk hb; simp at hk; subst hk; exact absurd (hlt_hX_11 _ hb) (by omega))
                replace hY := hY.fr hq (by intro k hk hb; simp at hk; subst hk; exact absurd (hlt_hY_11 _ hb) (by omega))
                clear hb11 hq hz; have hb11 : Blk w7 g_11 _ [_, _, _, _, _] := hbn; clear hbn
                replace h : Ag a 141 [(0, _), (1, _), (6, _), (7, _), (8, _), (9, _), (11, _)] := h.sub (.cons rfl (.cons rfl (.cons rfl (.cons rfl (.cons rfl (.cons rfl (.cons rfl .nil)))))))
                refine wpList_nil (norm_blk (norm_then ?_))
                first | exact ⟨⟨kx.k, 1 + ch / 16 % 3, kx.a, kx.b, kx.f⟩, h.sub (.cons rfl (.cons rfl (.cons rfl (.cons rfl (.cons rfl (.cons rfl (.cons rfl .nil))))))), hb11, fitC hk7.1 (by omega) hk7.2.2.1 hk7.2.2.2.1 hk7.2.2.2.2 hfl (by omega), hX, hY, hf⟩ | exact ⟨⟨_, _, _, _, _⟩, h.sub (.cons rfl (.cons rfl (.cons rfl (.cons rfl (.cons rfl (.cons rfl (.cons rfl .nil))))))), hb11, by first | exact fitP (by omega) (by omega) (by omega) hfl | exact fitO (by omega) (by omega) (by omega) hfl (by omega) | exact fitT (by omega) (by omega) (by omega) hfl hxp hxq (by omega) | exact fitU (by omega) (by omega) (by omega) hfl hxp (by omega) | exact fitS (by omega) (by omega) (by omega) hfl, hX, hY, hf⟩
              · refine id ?_
                refine wp_skip (norm_blk (norm_then ?_))
                first | exact ⟨⟨kx.k, 1 + ch / 16 % 3, kx.a, kx.b, kx.f⟩, h.sub (.cons rfl (.cons rfl (.cons rfl (.cons rfl (.cons rfl (.cons rfl (.cons rfl .nil))))))), hb11, fitC hk7.1 (by omega) hk7.2.2.1 hk7.2.2.2.1 hk7.2.2.2.2 hfl (by omega), hX, hY, hf⟩ | exact ⟨⟨_, _, _, _, _⟩, h.sub (.cons rfl (.cons rfl (.cons rfl (.cons rfl (.cons rfl (.cons rfl (.cons rfl .nil))))))), hb11, by first | exact fitP (by omega) (by omega) (by omega) hfl | exact fitO (by omega) (by omega) (by omega) hfl (by omega) | exact fitT (by omega) (by omega) (by omega) hfl hxp hxq (by omega) | exact fitU (by omega) (by omega) (by omega) hfl hxp (by omega) | exact fitS (by omega) (by omega) (by omega) hfl, hX, hY, hf⟩
            · refine id ?_
              refine wp_seq ?_
              refine wp_seq ?_
              refine wp_region_lit ?_
              refine st_eq h rfl rfl rfl ?_; clear h a; intro a h
              refine st_assign h rfl rfl ?_; clear h a; intro a h
              replace h : Ag a 141 [(0, _), (1, _), (6, _), (7, _), (8, _), (9, _), (10, _), (11, _), (12, _), (41, _), (54, _)] := h.sub (.cons rfl (.cons rfl (.cons rfl (.cons rfl (.cons rfl (.cons rfl (.cons rfl (.cons rfl (.cons rfl (.cons rfl (.cons rfl .nil)))))))))))
              refine wpList_nil (norm_then ?_)
              first | refine cond_dec h rfl (fun c6 => ?_) (fun c6 => ?_) | refine cond_ndec h rfl (fun c6 => ?_) (fun c6 => ?_) | refine cond_split h rfl (fun c6 => ?_) (fun c6 => ?_)
              · refine id ?_
                rw [decide_eq_true c6] at h
                refine wp_skip (norm_then ?_)
                refine cond_true h rfl ?_
                refine wp_seq ?_
                refine region_quiet hmix (by kernel_rfl) ?_
                refine qt_move h rfl rfl ?_; clear h a; intro a h
                refine qt_gt h rfl rfl rfl ?_; clear h a; intro a h
                refine qt_move h rfl rfl ?_; clear h a; intro a h
                first | refine guard_dec (D := 59) h rfl ?_ ?_ | refine guard_ndec (D := 59) h rfl ?_ ?_ | refine guard_any (D := 59) h rfl ?_ ?_
                · clear h; intro g0 h
                  refine qd_yes h rfl rfl rfl rfl rfl rfl ?_
                  refine qt_move h rfl rfl ?_; clear h a; intro a h
                  refine qd_yes h rfl rfl rfl rfl rfl rfl ?_
                  refine qt_move h rfl rfl ?_; clear h a; intro a h
                  refine qd_yes h rfl rfl rfl rfl rfl rfl ?_
                  obtain ⟨p, hxp⟩ : ∃ x, ls[i]? = some x := ⟨_, List.getElem?_eq_getElem (by omega)⟩
                  obtain ⟨pa, hAp, cp⟩ := hA _ p hxp
                  have hfp := (few_iff p).1 (List.all_eq_true.1 hfl p (List.mem_of_getElem? hxp))
                  obtain ⟨q, hxq⟩ : ∃ x, ls[i + 1]? = some x := ⟨_, List.getElem?_eq_getElem (by omega)⟩
                  obtain ⟨qa, hAq, cq⟩ := hA _ q hxq
                  have hfq := (few_iff q).1 (List.all_eq_true.1 hfl q (List.mem_of_getElem? hxq))
                  refine qt_idxS (p := i) h (by rw [hAp]; rfl) rfl el68 (by omega) (by omega) (by omega) rfl ?_; clear h a; intro a h
                  refine qd_yes h rfl rfl rfl rfl rfl rfl ?_
                  refine qt_loadC0 h rfl (fun _ hw => (cp.fr hf (by simp)).fr hw (by simp)) na3 rfl ?_; clear h a; intro a h
                  refine qd_yes h rfl rfl rfl rfl rfl rfl ?_
                  refine qt_move h rfl rfl ?_; clear h a; intro a h
                  refine qd_yes h rfl rfl rfl rfl rfl rfl ?_
                  refine qt_move h rfl rfl ?_; clear h a; intro a h
                  refine qd_yes h rfl rfl rfl rfl rfl rfl ?_
                  refine qt_add h rfl rfl (by first | exact IntWalk.i64_in _ (by omega) | rfl) rfl ?_; clear h a; intro a h
                  refine qd_yes h rfl rfl rfl rfl rfl rfl ?_
                  refine qt_idxS (p := i + 1) h (by rw [hAq]; rfl) rfl el68 (by omega) (by omega) (by omega) rfl ?_; clear h a; intro a h
                  refine qd_yes h rfl rfl rfl rfl rfl rfl ?_
                  refine qt_loadC0 h rfl (fun _ hw => (cq.fr hf (by simp)).fr hw (by simp)) na3 rfl ?_; clear h a; intro a h
                  refine qd_yes h rfl rfl rfl rfl rfl rfl ?_
                  refine qt_add h rfl rfl (by first | exact IntWalk.i64_in _ (by omega) | rfl) rfl ?_; clear h a; intro a h
                  refine qd_yes h rfl rfl rfl rfl rfl rfl ?_
                  refine qt_le h rfl rfl rfl ?_; clear h a; intro a h
                  refine qt_pick_t h rfl rfl rfl rfl ?_; clear h a; intro a h
                  refine wpQuiet_nil ?_
                  intro w8 hq
                  replace hf := hf.next hq
                  replace hX := hX.ext hq
                  replace hY := hY.ext hq
                  replace hb11 := hb11.ext hq
                  clear hq
                  replace h : Ag a 141 [(0, _), (1, _), (6, _), (7, _), (8, _), (9, _), (10, _), (11, _), (60, _), (61, _), (62, _), (63, _), (64, _), (65, _), (66, _), (67, _), (68, _), (69, _), (70, _), (71, _)] := h.sub (.cons rfl (.cons rfl (.cons rfl (.cons rfl (.cons rfl (.cons rfl (.cons rfl (.cons rfl (.cons rfl (.cons rfl (.cons rfl (.cons rfl (.cons rfl (.cons rfl (.cons rfl (.cons rfl (.cons rfl (.cons rfl (.cons rfl (.cons rfl .nil))))))))))))))))))))
                  refine (norm_then ?_)
                  first | refine cond_dec h rfl (fun c8 => ?_) (fun c8 => ?_) | refine cond_ndec h rfl (fun c8 => ?_) (fun c8 => ?_) | refine cond_split h rfl (fun c8 => ?_) (fun c8 => ?_)
                  · refine id ?_
                    refine wp_region_lit ?_
                    refine st_move h rfl rfl ?_; clear h a; intro a h
                    refine st_rem h rfl rfl (by omega) (by first | exact IntWalk.rem_in _ _ (by omega) | rfl) rfl ?_; clear h a; intro a h
                    refine st_sub h rfl rfl (by first | exact IntWalk.u8_in _ (by omega) | rfl) rfl ?_; clear h a; intro a h
                    refine st_add h rfl rfl (by first | exact IntWalk.u8_in _ (by omega) | rfl) rfl ?_; clear h a; intro a h
                    refine st_fieldAddr h rfl fa36_0 rfl ?_; clear h a; intro a h
                    refine st_storeB h rfl rfl hb11 rfl rfl rfl sz34 ?_; clear h a; intro w9 hbn hq hz a h
                    replace hf := hf.step hq (by first | (simp; done) | (simp; omega))
                    replace hX := hX.fr hq (by intro k hk hb; simp at hk; subst hk; exact absurd (hlt_hX_11 _ hb) (by omega))
                    replace hY := hY.fr hq (by intro k hk hb; simp at hk; subst hk; exact absurd (hlt_hY_11 _ hb) (by omega))
                    clear hb11 hq hz; have hb11 : Blk w9 g_11 _ [_, _, _, _, _] := hbn; clear hbn
                    replace h : Ag a 141 [(0, _), (1, _), (6, _), (7, _), (8, _), (9, _), (11, _), (60, _), (61, _), (62, _), (63, _), (64, _), (65, _), (66, _), (67, _), (68, _), (69, _), (70, _)] := h.sub (.cons rfl (.cons rfl (.cons rfl (.cons rfl (.cons rfl (.cons rfl (.cons rfl (.cons rfl (.cons rfl (.cons rfl (.cons rfl (.cons rfl (.cons rfl (.cons rfl (.cons rfl (.cons rfl (.cons rfl (.cons rfl .nil))))))))))))))))))
                    refine wpList_nil (norm_blk (norm_then ?_))
                    first | exact ⟨⟨kx.k, 1 + ch / 16 % 3, kx.a, kx.b, kx.f⟩, h.sub (.cons rfl (.cons rfl (.cons rfl (.cons rfl (.cons rfl (.cons rfl (.cons rfl .nil))))))), hb11, fitC hk7.1 (by omega) hk7.2.2.1 hk7.2.2.2.1 hk7.2.2.2.2 hfl (by omega), hX, hY, hf⟩ | exact ⟨⟨_, _, _, _, _⟩, h.sub (.cons rfl (.cons rfl (.cons rfl (.cons rfl (.cons rfl (.cons rfl (.cons rfl .nil))))))), hb11, by first | exact fitP (by omega) (by omega) (by omega) hfl | exact fitO (by omega) (by omega) (by omega) hfl (by omega) | exact fitT (by omega) (by omega) (by omega) hfl hxp hxq (by omega) | exact fitU (by omega) (by omega) (by omega) hfl hxp (by omega) | exact fitS (by omega) (by omega) (by omega) hfl, hX, hY, hf⟩
                  · refine id ?_
                    refine wp_skip (norm_blk (norm_then ?_))
                    first | exact ⟨⟨kx.k, 1 + ch / 16 % 3, kx.a, kx.b, kx.f⟩, h.sub (.cons rfl (.cons rfl (.cons rfl (.cons rfl (.cons rfl (.cons rfl (.cons rfl .nil))))))), hb11, fitC hk7.1 (by omega) hk7.2.2.1 hk7.2.2.2.1 hk7.2.2.2.2 hfl (by omega), hX, hY, hf⟩ | exact ⟨⟨_, _, _, _, _⟩, h.sub (.cons rfl (.cons rfl (.cons rfl (.cons rfl (.cons rfl (.cons rfl (.cons rfl .nil))))))), hb11, by first | exact fitP (by omega) (by omega) (by omega) hfl | exact fitO (by omega) (by omega) (by omega) hfl (by omega) | exact fitT (by omega) (by omega) (by omega) hfl hxp hxq (by omega) | exact fitU (by omega) (by omega) (by omega) hfl hxp (by omega) | exact fitS (by omega) (by omega) (by omega) hfl, hX, hY, hf⟩
                · clear h; intro g0 h
                  refine qd_no h rfl rfl rfl rfl rfl rfl rfl rfl ?_; clear h a; intro a h
                  refine qd_no h rfl rfl rfl rfl rfl rfl rfl rfl ?_; clear h a; intro a h
                  refine qd_no h rfl rfl rfl rfl rfl rfl rfl rfl ?_; clear h a; intro a h
                  refine qd_no h rfl rfl rfl rfl rfl rfl rfl rfl ?_; clear h a; intro a h
                  refine qd_no h rfl rfl rfl rfl rfl rfl rfl rfl ?_; clear h a; intro a h
                  refine qd_no h rfl rfl rfl rfl rfl rfl rfl rfl ?_; clear h a; intro a h
                  refine qd_no h rfl rfl rfl rfl rfl rfl rfl rfl ?_; clear h a; intro a h
                  refine qd_no h rfl rfl rfl rfl rfl rfl rfl rfl ?_; clear h a; intro a h
                  refine qd_no h rfl rfl rfl rfl rfl rfl rfl rfl ?_; clear h a; intro a h
                  refine qd_no h rfl rfl rfl rfl rfl rfl rfl rfl ?_; clear h a; intro a h
                  refine qd_no h rfl rfl rfl rfl rfl rfl rfl rfl ?_; clear h a; intro a h
                  refine qt_pick_f h rfl rfl rfl rfl ?_; clear h a; intro a h
                  refine wpQuiet_nil ?_
                  intro w10 hq
                  replace hf := hf.next hq
                  replace hX := hX.ext hq
                  replace hY := hY.ext hq
                  replace hb11 := hb11.ext hq
                  clear hq
                  replace h : Ag a 141 [(0, _), (1, _), (6, _), (7, _), (8, _), (9, _), (10, _), (11, _), (60, _), (61, _), (62, _), (63, _), (64, _), (65, _), (66, _), (67, _), (68, _), (69, _), (70, _), (71, _)] := h.sub (.cons rfl (.cons rfl (.cons rfl (.cons rfl (.cons rfl (.cons rfl (.cons rfl (.cons rfl (.cons rfl (.cons rfl (.cons rfl (.cons rfl (.cons rfl (.cons rfl (.cons rfl (.cons rfl (.cons rfl (.cons rfl (.cons rfl (.cons rfl .nil))))))))))))))))))))
                  refine (norm_then ?_)
                  refine cond_false h rfl ?_
                  refine wp_skip (norm_blk (norm_then ?_))
                  first | exact ⟨⟨kx.k, 1 + ch / 16 % 3, kx.a, kx.b, kx.f⟩, h.sub (.cons rfl (.cons rfl (.cons rfl (.cons rfl (.cons rfl (.cons rfl (.cons rfl .nil))))))), hb11, fitC hk7.1 (by omega) hk7.2.2.1 hk7.2.2.2.1 hk7.2.2.2.2 hfl (by omega), hX, hY, hf⟩ | exact ⟨⟨_, _, _, _, _⟩, h.sub (.cons rfl (.cons rfl (.cons rfl (.cons rfl (.cons rfl (.cons rfl (.cons rfl .nil))))))), hb11, by first | exact fitP (by omega) (by omega) (by omega) hfl | exact fitO (by omega) (by omega) (by omega) hfl (by omega) | exact fitT (by omega) (by omega) (by omega) hfl hxp hxq (by omega) | exact fitU (by omega) (by omega) (by omega) hfl hxp (by omega) | exact fitS (by omega) (by omega) (by omega) hfl, hX, hY, hf⟩
              · refine id ?_
                rw [decide_eq_false c6] at h
                refine wp_region_lit ?_
                refine st_eq h rfl rfl rfl ?_; clear h a; intro a h
                refine st_assign h rfl rfl ?_; clear h a; intro a h
                replace h : Ag a 141 [(0, _), (1, _), (6, _), (7, _), (8, _), (9, _), (10, _), (11, _), (12, _), (41, _), (54, _)] := h.sub (.cons rfl (.cons rfl (.cons rfl (.cons rfl (.cons rfl (.cons rfl (.cons rfl (.cons rfl (.cons rfl (.cons rfl (.cons rfl .nil)))))))))))
                refine wpList_nil (norm_then ?_)
                first | refine cond_dec h rfl (fun c7 => ?_) (fun c7 => ?_) | refine cond_ndec h rfl (fun c7 => ?_) (fun c7 => ?_) | refine cond_split h rfl (fun c7 => ?_) (fun c7 => ?_)
                · refine id ?_
                  refine wp_seq ?_
                  refine region_quiet hmix (by kernel_rfl) ?_
                  refine qt_move h rfl rfl ?_; clear h a; intro a h
                  refine qt_gt h rfl rfl rfl ?_; clear h a; intro a h
                  refine qt_move h rfl rfl ?_; clear h a; intro a h
                  first | refine guard_dec (D := 59) h rfl ?_ ?_ | refine guard_ndec (D := 59) h rfl ?_ ?_ | refine guard_any (D := 59) h rfl ?_ ?_
                  · clear h; intro g1 h
                    refine qd_yes h rfl rfl rfl rfl rfl rfl ?_
                    refine qt_move h rfl rfl ?_; clear h a; intro a h
                    refine qd_yes h rfl rfl rfl rfl rfl rfl ?_
                    refine qt_move h rfl rfl ?_; clear h a; intro a h
                    refine qd_yes h rfl rfl rfl rfl rfl rfl ?_
                    obtain ⟨p, hxp⟩ : ∃ x, ls[i]? = some x := ⟨_, List.getElem?_eq_getElem (by omega)⟩
                    obtain ⟨pa, hAp, cp⟩ := hA _ p hxp
                    have hfp := (few_iff p).1 (List.all_eq_true.1 hfl p (List.mem_of_getElem? hxp))
                    obtain ⟨q, hxq⟩ : ∃ x, ls[i + 1]? = some x := ⟨_, List.getElem?_eq_getElem (by omega)⟩
                    obtain ⟨qa, hAq, cq⟩ := hA _ q hxq
                    have hfq := (few_iff q).1 (List.all_eq_true.1 hfl q (List.mem_of_getElem? hxq))
                    refine qt_idxS (p := i) h (by rw [hAp]; rfl) rfl el68 (by omega) (by omega) (by omega) rfl ?_; clear h a; intro a h
                    refine qd_yes h rfl rfl rfl rfl rfl rfl ?_
                    refine qt_loadC0 h rfl (fun _ hw => (cp.fr hf (by simp)).fr hw (by simp)) na3 rfl ?_; clear h a; intro a h
                    refine qd_yes h rfl rfl rfl rfl rfl rfl ?_
                    refine qt_move h rfl rfl ?_; clear h a; intro a h
                    refine qd_yes h rfl rfl rfl rfl rfl rfl ?_
                    refine qt_move h rfl rfl ?_; clear h a; intro a h
                    refine qd_yes h rfl rfl rfl rfl rfl rfl ?_
                    refine qt_add h rfl rfl (by first | exact IntWalk.i64_in _ (by omega) | rfl) rfl ?_; clear h a; intro a h
                    refine qd_yes h rfl rfl rfl rfl rfl rfl ?_
                    refine qt_idxS (p := i + 1) h (by rw [hAq]; rfl) rfl el68 (by omega) (by omega) (by omega) rfl ?_; clear h a; intro a h
                    refine qd_yes h rfl rfl rfl rfl rfl rfl ?_
                    refine qt_loadC0 h rfl (fun _ hw => (cq.fr hf (by simp)).fr hw (by simp)) na3 rfl ?_; clear h a; intro a h
                    refine qd_yes h rfl rfl rfl rfl rfl rfl ?_
                    refine qt_add h rfl rfl (by first | exact IntWalk.i64_in _ (by omega) | rfl) rfl ?_; clear h a; intro a h
                    refine qd_yes h rfl rfl rfl rfl rfl rfl ?_
                    refine qt_le h rfl rfl rfl ?_; clear h a; intro a h
                    refine qt_pick_t h rfl rfl rfl rfl ?_; clear h a; intro a h
                    refine wpQuiet_nil ?_
                    intro w11 hq
                    replace hf := hf.next hq
                    replace hX := hX.ext hq
                    replace hY := hY.ext hq
                    replace hb11 := hb11.ext hq
                    clear hq
                    replace h : Ag a 141 [(0, _), (1, _), (6, _), (7, _), (8, _), (9, _), (10, _), (11, _), (60, _), (61, _), (62, _), (63, _), (64, _), (65, _), (66, _), (67, _), (68, _), (69, _), (70, _), (71, _)] := h.sub (.cons rfl (.cons rfl (.cons rfl (.cons rfl (.cons rfl (.cons rfl (.cons rfl (.cons rfl (.cons rfl (.cons rfl (.cons rfl (.cons rfl (.cons rfl (.cons rfl (.cons rfl (.cons rfl (.cons rfl (.cons rfl (.cons rfl (.cons rfl .nil))))))))))))))))))))
                    refine (norm_then ?_)
                    first | refine cond_dec h rfl (fun c8 => ?_) (fun c8 => ?_) | refine cond_ndec h rfl (fun c8 => ?_) (fun c8 => ?_) | refine cond_split h rfl (fun c8 => ?_) (fun c8 => ?_)
                    · refine id ?_
                      refine wp_region_lit ?_
                      refine st_move h rfl rfl ?_; clear h a; intro a h
                      refine st_rem h rfl rfl (by omega) (by first | exact IntWalk.rem_in _ _ (by omega) | rfl) rfl ?_; clear h a; intro a h
                      refine st_sub h rfl rfl (by first | exact IntWalk.u8_in _ (by omega) | rfl) rfl ?_; clear h a; intro a h
                      refine st_add h rfl rfl (by first | exact IntWalk.u8_in _ (by omega) | rfl) rfl ?_; clear h a; intro a h
                      refine st_fieldAddr h rfl fa36_0 rfl ?_; clear h a; intro a h
                      refine st_storeB h rfl rfl hb11 rfl rfl rfl sz34 ?_; clear h a; intro w12 hbn hq hz a h
                      replace hf := hf.step hq (by first | (simp; done) | (simp; omega))
                      replace hX := hX.fr hq (by intro k hk hb; simp at hk; subst hk; exact absurd (hlt_hX_11 _ hb) (by omega))
                      replace hY := hY.fr hq (by intro k hk hb; simp at hk; subst hk; exact absurd (hlt_hY_11 _ hb) (by omega))
                      clear hb11 hq hz; have hb11 : Blk w12 g_11 _ [_, _, _, _, _] := hbn; clear hbn
                      replace h : Ag a 141 [(0, _), (1, _), (6, _), (7, _), (8, _), (9, _), (11, _), (60, _), (61, _), (62, _), (63, _), (64, _), (65, _), (66, _), (67, _), (68, _), (69, _), (70, _)] := h.sub (.cons rfl (.cons rfl (.cons rfl (.cons rfl (.cons rfl (.cons rfl (.cons rfl (.cons rfl (.cons rfl (.cons rfl (.cons rfl (.cons rfl (.cons rfl (.cons rfl (.cons rfl (.cons rfl (.cons rfl (.cons rfl .nil))))))))))))))))))
                      refine wpList_nil (norm_blk (norm_then ?_))
                      first | exact ⟨⟨kx.k, 1 + ch / 16 % 3, kx.a, kx.b, kx.f⟩, h.sub (.cons rfl (.cons rfl (.cons rfl (.cons rfl (.cons rfl (.cons rfl (.cons rfl .nil))))))), hb11, fitC hk7.1 (by omega) hk7.2.2.1 hk7.2.2.2.1 hk7.2.2.2.2 hfl (by omega), hX, hY, hf⟩ | exact ⟨⟨_, _, _, _, _⟩, h.sub (.cons rfl (.cons rfl (.cons rfl (.cons rfl (.cons rfl (.cons rfl (.cons rfl .nil))))))), hb11, by first | exact fitP (by omega) (by omega) (by omega) hfl | exact fitO (by omega) (by omega) (by omega) hfl (by omega) | exact fitT (by omega) (by omega) (by omega) hfl hxp hxq (by omega) | exact fitU (by omega) (by omega) (by omega) hfl hxp (by omega) | exact fitS (by omega) (by omega) (by omega) hfl, hX, hY, hf⟩
                    · refine id ?_
                      refine wp_skip (norm_blk (norm_then ?_))
                      first | exact ⟨⟨kx.k, 1 + ch / 16 % 3, kx.a, kx.b, kx.f⟩, h.sub (.cons rfl (.cons rfl (.cons rfl (.cons rfl (.cons rfl (.cons rfl (.cons rfl .nil))))))), hb11, fitC hk7.1 (by omega) hk7.2.2.1 hk7.2.2.2.1 hk7.2.2.2.2 hfl (by omega), hX, hY, hf⟩ | exact ⟨⟨_, _, _, _, _⟩, h.sub (.cons rfl (.cons rfl (.cons rfl (.cons rfl (.cons rfl (.cons rfl (.cons rfl .nil))))))), hb11, by first | exact fitP (by omega) (by omega) (by omega) hfl | exact fitO (by omega) (by omega) (by omega) hfl (by omega) | exact fitT (by omega) (by omega) (by omega) hfl hxp hxq (by omega) | exact fitU (by omega) (by omega) (by omega) hfl hxp (by omega) | exact fitS (by omega) (by omega) (by omega) hfl, hX, hY, hf⟩
                  · clear h; intro g1 h
                    refine qd_no h rfl rfl rfl rfl rfl rfl rfl rfl ?_; clear h a; intro a h
                    refine qd_no h rfl rfl rfl rfl rfl rfl rfl rfl ?_; clear h a; intro a h
                    refine qd_no h rfl rfl rfl rfl rfl rfl rfl rfl ?_; clear h a; intro a h
                    refine qd_no h rfl rfl rfl rfl rfl rfl rfl rfl ?_; clear h a; intro a h
                    refine qd_no h rfl rfl rfl rfl rfl rfl rfl rfl ?_; clear h a; intro a h
                    refine qd_no h rfl rfl rfl rfl rfl rfl rfl rfl ?_; clear h a; intro a h
                    refine qd_no h rfl rfl rfl rfl rfl rfl rfl rfl ?_; clear h a; intro a h
                    refine qd_no h rfl rfl rfl rfl rfl rfl rfl rfl ?_; clear h a; intro a h
                    refine qd_no h rfl rfl rfl rfl rfl rfl rfl rfl ?_; clear h a; intro a h
                    refine qd_no h rfl rfl rfl rfl rfl rfl rfl rfl ?_; clear h a; intro a h
                    refine qd_no h rfl rfl rfl rfl rfl rfl rfl rfl ?_; clear h a; intro a h
                    refine qt_pick_f h rfl rfl rfl rfl ?_; clear h a; intro a h
                    refine wpQuiet_nil ?_
                    intro w13 hq
                    replace hf := hf.next hq
                    replace hX := hX.ext hq
                    replace hY := hY.ext hq
                    replace hb11 := hb11.ext hq
                    clear hq
                    replace h : Ag a 141 [(0, _), (1, _), (6, _), (7, _), (8, _), (9, _), (10, _), (11, _), (60, _), (61, _), (62, _), (63, _), (64, _), (65, _), (66, _), (67, _), (68, _), (69, _), (70, _), (71, _)] := h.sub (.cons rfl (.cons rfl (.cons rfl (.cons rfl (.cons rfl (.cons rfl (.cons rfl (.cons rfl (.cons rfl (.cons rfl (.cons rfl (.cons rfl (.cons rfl (.cons rfl (.cons rfl (.cons rfl (.cons rfl (.cons rfl (.cons rfl (.cons rfl .nil))))))))))))))))))))
                    refine (norm_then ?_)
                    refine cond_false h rfl ?_
                    refine wp_skip (norm_blk (norm_then ?_))
                    first | exact ⟨⟨kx.k, 1 + ch / 16 % 3, kx.a, kx.b, kx.f⟩, h.sub (.cons rfl (.cons rfl (.cons rfl (.cons rfl (.cons rfl (.cons rfl (.cons rfl .nil))))))), hb11, fitC hk7.1 (by omega) hk7.2.2.1 hk7.2.2.2.1 hk7.2.2.2.2 hfl (by omega), hX, hY, hf⟩ | exact ⟨⟨_, _, _, _, _⟩, h.sub (.cons rfl (.cons rfl (.cons rfl (.cons rfl (.cons rfl (.cons rfl (.cons rfl .nil))))))), hb11, by first | exact fitP (by omega) (by omega) (by omega) hfl | exact fitO (by omega) (by omega) (by omega) hfl (by omega) | exact fitT (by omega) (by omega) (by omega) hfl hxp hxq (by omega) | exact fitU (by omega) (by omega) (by omega) hfl hxp (by omega) | exact fitS (by omega) (by omega) (by omega) hfl, hX, hY, hf⟩
                · refine id ?_
                  refine wp_seq ?_
                  refine wp_seq ?_
                  refine wp_region_lit ?_
                  refine st_eq h rfl rfl rfl ?_; clear h a; intro a h
                  refine st_assign h rfl rfl ?_; clear h a; intro a h
                  replace h : Ag a 141 [(0, _), (1, _), (6, _), (7, _), (8, _), (9, _), (10, _), (11, _), (12, _), (41, _), (77, _)] := h.sub (.cons rfl (.cons rfl (.cons rfl (.cons rfl (.cons rfl (.cons rfl (.cons rfl (.cons rfl (.cons rfl (.cons rfl (.cons rfl .nil)))))))))))
                  refine wpList_nil (norm_then ?_)
                  first | refine cond_dec h rfl (fun c9 => ?_) (fun c9 => ?_) | refine cond_ndec h rfl (fun c9 => ?_) (fun c9 => ?_) | refine cond_split h rfl (fun c9 => ?_) (fun c9 => ?_)
                  · refine id ?_
                    rw [decide_eq_true c9] at h
                    refine wp_skip (norm_then ?_)
                    refine cond_true h rfl ?_
                    obtain ⟨p, hxp⟩ : ∃ x, ls[i]? = some x := ⟨_, List.getElem?_eq_getElem (by omega)⟩
                    obtain ⟨pa, hAp, cp⟩ := hA _ p hxp
                    have hfp := (few_iff p).1 (List.all_eq_true.1 hfl p (List.mem_of_getElem? hxp))
                    refine wp_seq ?_
                    refine wp_region_lit ?_
                    refine st_move h rfl rfl ?_; clear h a; intro a h
                    refine st_move h rfl rfl ?_; clear h a; intro a h
                    refine st_idxS (p := i) h (by rw [hAp]; rfl) rfl el68 (by omega) (by omega) (by omega) rfl ?_; clear h a; intro a h
                    refine st_loadC0 h rfl (cp.fr hf (by simp)) na3 rfl ?_; clear h a; intro a h
                    refine st_lt h rfl rfl rfl ?_; clear h a; intro a h
                    replace h : Ag a 141 [(0, _), (1, _), (6, _), (7, _), (8, _), (9, _), (11, _), (84, _)] := h.sub (.cons rfl (.cons rfl (.cons rfl (.cons rfl (.cons rfl (.cons rfl (.cons rfl (.cons rfl .nil))))))))
                    refine wpList_nil (norm_then ?_)
                    first | refine cond_dec h rfl (fun c11 => ?_) (fun c11 => ?_) | refine cond_ndec h rfl (fun c11 => ?_) (fun c11 => ?_) | refine cond_split h rfl (fun c11 => ?_) (fun c11 => ?_)
                    · refine id ?_
                      refine wp_region_lit ?_
                      refine st_fieldAddr h rfl fa36_0 rfl ?_; clear h a; intro a h
                      refine st_storeB h rfl rfl hb11 rfl rfl rfl sz34 ?_; clear h a; intro w14 hbn hq hz a h
                      replace hf := hf.step hq (by first | (simp; done) | (simp; omega))
                      replace hX := hX.fr hq (by intro k hk hb; simp at hk; subst hk; exact absurd (hlt_hX_11 _ hb) (by omega))
                      replace hY := hY.fr hq (by intro k hk hb; simp at hk; subst hk; exact absurd (hlt_hY_11 _ hb) (by omega))
                      clear hb11 hq hz; have hb11 : Blk w14 g_11 _ [_, _, _, _, _] := hbn; clear hbn
                      replace h : Ag a 141 [(0, _), (1, _), (6, _), (7, _), (8, _), (9, _), (11, _)] := h.sub (.cons rfl (.cons rfl (.cons rfl (.cons rfl (.cons rfl (.cons rfl (.cons rfl .nil)))))))
                      refine wpList_nil (norm_blk (norm_then ?_))
                      first | exact ⟨⟨kx.k, 1 + ch / 16 % 3, kx.a, kx.b, kx.f⟩, h.sub (.cons rfl (.cons rfl (.cons rfl (.cons rfl (.cons rfl (.cons rfl (.cons rfl .nil))))))), hb11, fitC hk7.1 (by omega) hk7.2.2.1 hk7.2.2.2.1 hk7.2.2.2.2 hfl (by omega), hX, hY, hf⟩ | exact ⟨⟨_, _, _, _, _⟩, h.sub (.cons rfl (.cons rfl (.cons rfl (.cons rfl (.cons rfl (.cons rfl (.cons rfl .nil))))))), hb11, by first | exact fitP (by omega) (by omega) (by omega) hfl | exact fitO (by omega) (by omega) (by omega) hfl (by omega) | exact fitT (by omega) (by omega) (by omega) hfl hxp hxq (by omega) | exact fitU (by omega) (by omega) (by omega) hfl hxp (by omega) | exact fitS (by omega) (by omega) (by omega) hfl, hX, hY, hf⟩
                    · refine id ?_
                      refine wp_skip (norm_blk (norm_then ?_))
                      first | exact ⟨⟨kx.k, 1 + ch / 16 % 3, kx.a, kx.b, kx.f⟩, h.sub (.cons rfl (.cons rfl (.cons rfl (.cons rfl (.cons rfl (.cons rfl (.cons rfl .nil))))))), hb11, fitC hk7.1 (by omega) hk7.2.2.1 hk7.2.2.2.1 hk7.2.2.2.2 hfl (by omega), hX, hY, hf⟩ | exact ⟨⟨_, _, _, _, _⟩, h.sub (.cons rfl (.cons rfl (.cons rfl (.cons rfl (.cons rfl (.cons rfl (.cons rfl .nil))))))), hb11, by first | exact fitP (by omega) (by omega) (by omega) hfl | exact fitO (by omega) (by omega) (by omega) hfl (by omega) | exact fitT (by omega) (by omega) (by omega) hfl hxp hxq (by omega) | exact fitU (by omega) (by omega) (by omega) hfl hxp (by omega) | exact fitS (by omega) (by omega) (by omega) hfl, hX, hY, hf⟩
                  · refine id ?_
                    rw [decide_eq_false c9] at h
                    refine wp_region_lit ?_
                    refine st_eq h rfl rfl rfl ?_; clear h a; intro a h
                    refine st_assign h rfl rfl ?_; clear h a; intro a h
                    replace h : Ag a 141 [(0, _), (1, _), (6, _), (7, _), (8, _), (9, _), (10, _), (11, _), (12, _), (41, _), (77, _)] := h.sub (.cons rfl (.cons rfl (.cons rfl (.cons rfl (.cons rfl (.cons rfl (.cons rfl (.cons rfl (.cons rfl (.cons rfl (.cons rfl .nil)))))))))))
                    refine wpList_nil (norm_then ?_)
                    first | refine cond_dec h rfl (fun c10 => ?_) (fun c10 => ?_) | refine cond_ndec h rfl (fun c10 => ?_) (fun c10 => ?_) | refine cond_split h rfl (fun c10 => ?_) (fun c10 => ?_)
                    · obtain ⟨p, hxp⟩ : ∃ x, ls[i]? = some x := ⟨_, List.getElem?_eq_getElem (by omega)⟩
                      obtain ⟨pa, hAp, cp⟩ := hA _ p hxp
                      have hfp := (few_iff p).1 (List.all_eq_true.1 hfl p (List.mem_of_getElem? hxp))
                      refine wp_seq ?_
                      refine wp_region_lit ?_
                      refine st_move h rfl rfl ?_; clear h a; intro a h
                      refine st_move h rfl rfl ?_; clear h a; intro a h
                      refine st_idxS (p := i) h (by rw [hAp]; rfl) rfl el68 (by omega) (by omega) (by omega) rfl ?_; clear h a; intro a h
                      refine st_loadC0 h rfl (cp.fr hf (by simp)) na3 rfl ?_; clear h a; intro a h
                      refine st_lt h rfl rfl rfl ?_; clear h a; intro a h
                      replace h : Ag a 141 [(0, _), (1, _), (6, _), (7, _), (8, _), (9, _), (11, _), (84, _)] := h.sub (.cons rfl (.cons rfl (.cons rfl (.cons rfl (.cons rfl (.cons rfl (.cons rfl (.cons rfl .nil))))))))
                      refine wpList_nil (norm_then ?_)
                      first | refine cond_dec h rfl (fun c11 => ?_) (fun c11 => ?_) | refine cond_ndec h rfl (fun c11 => ?_) (fun c11 => ?_) | refine cond_split h rfl (fun c11 => ?_) (fun c11 => ?_)
                      · refine id ?_
                        refine wp_region_lit ?_
                        refine st_fieldAddr h rfl fa36_0 rfl ?_; clear h a; intro a h
                        refine st_storeB h rfl rfl hb11 rfl rfl rfl sz34 ?_; clear h a; intro w15 hbn hq hz a h
                        replace hf := hf.step hq (by first | (simp; done) | (simp; omega))
                        replace hX := hX.fr hq (by intro k hk hb; simp at hk; subst hk; exact absurd (hlt_hX_11 _ hb) (by omega))
                        replace hY := hY.fr hq (by intro k hk hb; simp at hk; subst hk; exact absurd (hlt_hY_11 _ hb) (by omega))
                        clear hb11 hq hz; have hb11 : Blk w15 g_11 _ [_, _, _, _, _] := hbn; clear hbn
                        replace h : Ag a 141 [(0, _), (1, _), (6, _), (7, _), (8, _), (9, _), (11, _)] := h.sub (.cons rfl (.cons rfl (.cons rfl (.cons rfl (.cons rfl (.cons rfl (.cons rfl .nil)))))))
                        refine wpList_nil (norm_blk (norm_then ?_))
                        first | exact ⟨⟨kx.k, 1 + ch / 16 % 3, kx.a, kx.b, kx.f⟩, h.sub (.cons rfl (.cons rfl (.cons rfl (.cons rfl (.cons rfl (.cons rfl (.cons rfl .nil))))))), hb11, fitC hk7.1 (by omega) hk7.2.2.1 hk7.2.2.2.1 hk7.2.2.2.2 hfl (by omega), hX, hY, hf⟩ | exact ⟨⟨_, _, _, _, _⟩, h.sub (.cons rfl (.cons rfl (.cons rfl (.cons rfl (.cons rfl (.cons rfl (.cons rfl .nil))))))), hb11, by first | exact fitP (by omega) (by omega) (by omega) hfl | exact fitO (by omega) (by omega) (by omega) hfl (by omega) | exact fitT (by omega) (by omega) (by omega) hfl hxp hxq (by omega) | exact fitU (by omega) (by omega) (by omega) hfl hxp (by omega) | exact fitS (by omega) (by omega) (by omega) hfl, hX, hY, hf⟩
                      · refine id ?_
                        refine wp_skip (norm_blk (norm_then ?_))
                        first | exact ⟨⟨kx.k, 1 + ch / 16 % 3, kx.a, kx.b, kx.f⟩, h.sub (.cons rfl (.cons rfl (.cons rfl (.cons rfl (.cons rfl (.cons rfl (.cons rfl .nil))))))), hb11, fitC hk7.1 (by omega) hk7.2.2.1 hk7.2.2.2.1 hk7.2.2.2.2 hfl (by omega), hX, hY, hf⟩ | exact ⟨⟨_, _, _, _, _⟩, h.sub (.cons rfl (.cons rfl (.cons rfl (.cons rfl (.cons rfl (.cons rfl (.cons rfl .nil))))))), hb11, by first | exact fitP (by omega) (by omega) (by omega) hfl | exact fitO (by omega) (by omega) (by omega) hfl (by omega) | exact fitT (by omega) (by omega) (by omega) hfl hxp hxq (by omega) | exact fitU (by omega) (by omega) (by omega) hfl hxp (by omega) | exact fitS (by omega) (by omega) (by omega) hfl, hX, hY, hf⟩
                    · refine id ?_
                      refine wp_seq ?_
                      refine wp_seq ?_
                      refine wp_region_lit ?_
                      refine st_eq h rfl rfl rfl ?_; clear h a; intro a h
                      refine st_assign h rfl rfl ?_; clear h a; intro a h
                      replace h : Ag a 141 [(0, _), (1, _), (6, _), (7, _), (8, _), (9, _), (10, _), (11, _), (12, _), (41, _), (86, _)] := h.sub (.cons rfl (.cons rfl (.cons rfl (.cons rfl (.cons rfl (.cons rfl (.cons rfl (.cons rfl (.cons rfl (.cons rfl (.cons rfl .nil)))))))))))
                      refine wpList_nil (norm_then ?_)
                      first | refine cond_dec h rfl (fun c12 => ?_) (fun c12 => ?_) | refine cond_ndec h rfl (fun c12 => ?_) (fun c12 => ?_) | refine cond_split h rfl (fun c12 => ?_) (fun c12 => ?_)
                      · refine id ?_
                        rw [decide_eq_true c12] at h
                        refine wp_skip (norm_then ?_)
                        refine cond_true h rfl ?_
                        refine wp_region_lit ?_
                        refine st_fieldAddr h rfl fa36_0 rfl ?_; clear h a; intro a h
                        refine st_storeB h rfl rfl hb11 rfl rfl rfl sz34 ?_; clear h a; intro w16 hbn hq hz a h
                        replace hf := hf.step hq (by first | (simp; done) | (simp; omega))
                        replace hX := hX.fr hq (by intro k hk hb; simp at hk; subst hk; exact absurd (hlt_hX_11 _ hb) (by omega))
                        replace hY := hY.fr hq (by intro k hk hb; simp at hk; subst hk; exact absurd (hlt_hY_11 _ hb) (by omega))
                        clear hb11 hq hz; have hb11 : Blk w16 g_11 _ [_, _, _, _, _] := hbn; clear hbn
                        replace h : Ag a 141 [(0, _), (1, _), (6, _), (7, _), (8, _), (9, _), (11, _)] := h.sub (.cons rfl (.cons rfl (.cons rfl (.cons rfl (.cons rfl (.cons rfl (.cons rfl .nil)))))))
                        refine wpList_nil (norm_blk (norm_then ?_))
                        first | exact ⟨⟨kx.k, 1 + ch / 16 % 3, kx.a, kx.b, kx.f⟩, h.sub (.cons rfl (.cons rfl (.cons rfl (.cons rfl (.cons rfl (.cons rfl (.cons rfl .nil))))))), hb11, fitC hk7.1 (by omega) hk7.2.2.1 hk7.2.2.2.1 hk7.2.2.2.2 hfl (by omega), hX, hY, hf⟩ | exact ⟨⟨_, _, _, _, _⟩, h.sub (.cons rfl (.cons rfl (.cons rfl (.cons rfl (.cons rfl (.cons rfl (.cons rfl .nil))))))), hb11, by first | exact fitP (by omega) (by omega) (by omega) hfl | exact fitO (by omega) (by omega) (by omega) hfl (by omega) | exact fitT (by omega) (by omega) (by omega) hfl hxp hxq (by omega) | exact fitU (by omega) (by omega) (by omega) hfl hxp (by omega) | exact fitS (by omega) (by omega) (by omega) hfl, hX, hY, hf⟩
                      · refine id ?_
                        rw [decide_eq_false c12] at h
                        refine wp_region_lit ?_
                        refine st_eq h rfl rfl rfl ?_; clear h a; intro a h
                        refine st_assign h rfl rfl ?_; clear h a; intro a h
                        replace h : Ag a 141 [(0, _), (1, _), (6, _), (7, _), (8, _), (9, _), (10, _), (11, _), (12, _), (41, _), (86, _)] := h.sub (.cons rfl (.cons rfl (.cons rfl (.cons rfl (.cons rfl (.cons rfl (.cons rfl (.cons rfl (.cons rfl (.cons rfl (.cons rfl .nil)))))))))))
                        refine wpList_nil (norm_then ?_)
                        first | refine cond_dec h rfl (fun c13 => ?_) (fun c13 => ?_) | refine cond_ndec h rfl (fun c13 => ?_) (fun c13 => ?_) | refine cond_split h rfl (fun c13 => ?_) (fun c13 => ?_)
                        · refine id ?_
                          refine wp_region_lit ?_
                          refine st_fieldAddr h rfl fa36_0 rfl ?_; clear h a; intro a h
                          refine st_storeB h rfl rfl hb11 rfl rfl rfl sz34 ?_; clear h a; intro w17 hbn hq hz a h
                          replace hf := hf.step hq (by first | (simp; done) | (simp; omega))
                          replace hX := hX.fr hq (by intro k hk hb; simp at hk; subst hk; exact absurd (hlt_hX_11 _ hb) (by omega))
                          replace hY := hY.fr hq (by intro k hk hb; simp at hk; subst hk; exact absurd (hlt_hY_11 _ hb) (by omega))
                          clear hb11 hq hz; have hb11 : Blk w17 g_11 _ [_, _, _, _, _] := hbn; clear hbn
                          replace h : Ag a 141 [(0, _), (1, _), (6, _), (7, _), (8, _), (9, _), (11, _)] := h.sub (.cons rfl (.cons rfl (.cons rfl (.cons rfl (.cons rfl (.cons rfl (.cons rfl .nil)))))))
                          refine wpList_nil (norm_blk (norm_then ?_))
                          first | exact ⟨⟨kx.k, 1 + ch / 16 % 3, kx.a, kx.b, kx.f⟩, h.sub (.cons rfl (.cons rfl (.cons rfl (.cons rfl (.cons rfl (.cons rfl (.cons rfl .nil))))))), hb11, fitC hk7.1 (by omega) hk7.2.2.1 hk7.2.2.2.1 hk7.2.2.2.2 hfl (by omega), hX, hY, hf⟩ | exact ⟨⟨_, _, _, _, _⟩, h.sub (.cons rfl (.cons rfl (.cons rfl (.cons rfl (.cons rfl (.cons rfl (.cons rfl .nil))))))), hb11, by first | exact fitP (by omega) (by omega) (by omega) hfl | exact fitO (by omega) (by omega) (by omega) hfl (by omega) | exact fitT (by omega) (by omega) (by omega) hfl hxp hxq (by omega) | exact fitU (by omega) (by omega) (by omega) hfl hxp (by omega) | exact fitS (by omega) (by omega) (by omega) hfl, hX, hY, hf⟩
                        · refine id ?_
                          refine wp_seq ?_
                          refine wp_seq ?_
                          refine wp_region_lit ?_
                          refine st_eq h rfl rfl rfl ?_; clear h a; intro a h
                          refine st_assign h rfl rfl ?_; clear h a; intro a h
                          replace h : Ag a 141 [(0, _), (1, _), (6, _), (7, _), (8, _), (9, _), (10, _), (11, _), (12, _), (41, _), (90, _)] := h.sub (.cons rfl (.cons rfl (.cons rfl (.cons rfl (.cons rfl (.cons rfl (.cons rfl (.cons rfl (.cons rfl (.cons rfl (.cons rfl .nil)))))))))))
                          refine wpList_nil (norm_then ?_)
                          first | refine cond_dec h rfl (fun c14 => ?_) (fun c14 => ?_) | refine cond_ndec h rfl (fun c14 => ?_) (fun c14 => ?_) | refine cond_split h rfl (fun c14 => ?_) (fun c14 => ?_)
                          · refine id ?_
                            rw [decide_eq_true c14] at h
                            refine wp_skip (norm_then ?_)
                            refine cond_true h rfl ?_
                            refine wp_seq ?_
                            refine wp_region_lit ?_
                            refine st_move h rfl rfl ?_; clear h a; intro a h
                            refine st_move h rfl rfl ?_; clear h a; intro a h
                            refine st_quo h rfl rfl (by omega) (by first | exact IntWalk.u8_quo _ _ (by omega) | rfl) rfl ?_; clear h a; intro a h
                            refine st_mul h rfl rfl (by first | exact IntWalk.u8_in _ (by omega) | rfl) rfl ?_; clear h a; intro a h
                            refine st_sub h rfl rfl (by first | exact IntWalk.u8_in _ (by omega) | rfl) rfl ?_; clear h a; intro a h
                            refine st_move h rfl rfl ?_; clear h a; intro a h
                            refine st_ge h rfl rfl rfl ?_; clear h a; intro a h
                            refine st_lit (cs := [_, _, _, _]) h (evs_cons rfl (evs_cons rfl (evs_cons rfl evs_nil))) bo100 (pok_cons rfl rfl rfl (pok_cons rfl rfl rfl (pok_cons rfl rfl rfl pok_nil))) rfl rfl ?_; clear h a; intro a h
                            refine st_call h (evs_cons rfl evs_nil) co57 (kof_ok 7 0 _ _ _ (by omega) (by omega) (by omega)) rfl ?_; clear h a; rintro _ w18 ⟨rfl, hq⟩ a h
                            replace hf := hf.next hq
                            replace hX := hX.ext hq
                            replace hY := hY.ext hq
                            replace hb11 := hb11.ext hq
                            clear hq
                            obtain ⟨kx, hkx⟩ : ∃ s, s = kOfS 7 0 (ch - ch / 16 * 16) (decide (128 ≤ ch)) := ⟨_, rfl⟩
                            rw [← hkx] at h
                            have hk7 := kOf7 (ch - ch / 16 * 16) (decide (128 ≤ ch)) (by omega)
                            rw [← hkx] at hk7
                            refine st_alloc h zv36 rfl rfl ?_; clear h a; intro w19 hb13 hq hz a h
                            obtain ⟨g_13, hg⟩ : ∃ g, g = w18.heap.size := ⟨_, rfl⟩; rw [← hg] at hb13 h hz
                            have hl13 : w0.heap.size ≤ g_13 := by have := hf.size; omega
                            have hlt_hX_13 : ∀ k ∈ blks X, k < g_13 := fun k hk => by have := (hX.blk k hk).2; omega
                            have hlt_hY_13 : ∀ k ∈ blks (.slice YA ys.length yc), k < g_13 := fun k hk => by have := (hY.blk k hk).2; omega
                            have hn_11_13 : g_11 < g_13 := by have := hb11.lt; omega
                            replace hf := hf.next hq
                            replace hX := hX.ext hq
                            replace hY := hY.ext hq
                            replace hb11 := hb11.ext hq
                            clear hq hz hg
                            refine st_storeBA h rfl rfl hb13 rfl (by first | (simp [Value.oneCell', S]; done) | exact Enc.one _ _) sz36 ?_; clear h a; intro w20 hbn hq hz a h
                            replace hf := hf.step hq (by first | (simp; done) | (simp; omega))
                            replace hX := hX.fr hq (by intro k hk hb; simp at hk; subst hk; exact absurd (hlt_hX_13 _ hb) (by omega))
                            replace hY := hY.fr hq (by intro k hk hb; simp at hk; subst hk; exact absurd (hlt_hY_13 _ hb) (by omega))
                            replace hb11 := hb11.fr hq (by first | (simp; done) | (simp; omega) | (simp [blks]; done) | (simp [blks]; omega))
                            clear hb13 hq hz; have hb13 : Blk w20 g_13 _ [_, _, _, _, _] := hbn; clear hbn
                            replace h : Ag a 141 [(0, _), (1, _), (6, _), (7, _), (8, _), (9, _), (11, _), (12, _), (13, _)] := h.sub (.cons rfl (.cons rfl (.cons rfl (.cons rfl (.cons rfl (.cons rfl (.cons rfl (.cons rfl (.cons rfl .nil)))))))))
                            refine wpList_nil (norm_then ?_)
                            refine wp_seq ?_
                            refine wp_region_lit ?_
                            refine st_fieldAddr h rfl fa36_2 rfl ?_; clear h a; intro a h
                            refine st_loadB h rfl hb13 rfl na3 rfl ?_; clear h a; intro a h
                            refine st_fieldAddr h rfl fa36_3 rfl ?_; clear h a; intro a h
                            refine st_loadB h rfl hb13 rfl na3 rfl ?_; clear h a; intro a h
                            refine st_add h rfl rfl (by first | exact IntWalk.i64_in _ (by omega) | rfl) rfl ?_; clear h a; intro a h
                            refine st_move h rfl rfl ?_; clear h a; intro a h
                            refine st_le h rfl rfl rfl ?_; clear h a; intro a h
                            replace h : Ag a 141 [(0, _), (1, _), (6, _), (7, _), (8, _), (9, _), (11, _), (13, _), (111, _)] := h.sub (.cons rfl (.cons rfl (.cons rfl (.cons rfl (.cons rfl (.cons rfl (.cons rfl (.cons rfl (.cons rfl .nil)))))))))
                            refine wpList_nil (norm_then ?_)
                            first | refine cond_dec h rfl (fun c19 => ?_) (fun c19 => ?_) | refine cond_ndec h rfl (fun c19 => ?_) (fun c19 => ?_) | refine cond_split h rfl (fun c19 => ?_) (fun c19 => ?_)
                            · refine id ?_
                              refine wp_seq ?_
                              refine wp_region_lit ?_
                              refine st_fieldAddr h rfl fa36_1 rfl ?_; clear h a; intro a h
                              refine st_loadB h rfl hb11 rfl na5 rfl ?_; clear h a; intro a h
                              refine st_fieldAddr h rfl fa36_1 rfl ?_; clear h a; intro a h
                              refine st_storeB h rfl rfl hb13 rfl rfl rfl sz5 ?_; clear h a; intro w21 hbn hq hz a h
                              replace hf := hf.step hq (by first | (simp; done) | (simp; omega))
                              replace hX := hX.fr hq (by intro k hk hb; simp at hk; subst hk; exact absurd (hlt_hX_13 _ hb) (by omega))
                              replace hY := hY.fr hq (by intro k hk hb; simp at hk; subst hk; exact absurd (hlt_hY_13 _ hb) (by omega))
                              replace hb11 := hb11.fr hq (by first | (simp; done) | (simp; omega) | (simp [blks]; done) | (simp [blks]; omega))
                              clear hb13 hq hz; have hb13 : Blk w21 g_13 _ [_, _, _, _, _] := hbn; clear hbn
                              replace h : Ag a 141 [(0, _), (1, _), (6, _), (7, _), (8, _), (9, _), (11, _), (13, _)] := h.sub (.cons rfl (.cons rfl (.cons rfl (.cons rfl (.cons rfl (.cons rfl (.cons rfl (.cons rfl .nil))))))))
                              refine wpList_nil (norm_then ?_)
                              refine wp_region_lit ?_
                              refine st_loadBA h rfl hb13 ag36 rfl ?_; clear h a; intro a h
                              refine st_storeBA h rfl rfl hb11 rfl (by first | (simp [Value.oneCell', S]; done) | exact Enc.one _ _) sz36 ?_; clear h a; intro w22 hbn hq hz a h
                              replace hf := hf.step hq (by first | (simp; done) | (simp; omega))
                              replace hX := hX.fr hq (by intro k hk hb; simp at hk; subst hk; exact absurd (hlt_hX_11 _ hb) (by omega))
                              replace hY := hY.fr hq (by intro k hk hb; simp at hk; subst hk; exact absurd (hlt_hY_11 _ hb) (by omega))
                              replace hb13 := hb13.fr hq (by first | (simp; done) | (simp; omega) | (simp [blks]; done) | (simp [blks]; omega))
                              clear hb11 hq hz; have hb11 : Blk w22 g_11 _ [_, _, _, _, _] := hbn; clear hbn
                              replace hb11 : Blk w22 g_11 36 [.int .u8 kx.k, .int .u8 (1 + ch / 16 % 3), .int .i64 kx.a, .int .i64 kx.b, .bool kx.f] := hb11
                              replace h : Ag a 141 [(0, _), (1, _), (6, _), (7, _), (8, _), (9, _), (11, _)] := h.sub (.cons rfl (.cons rfl (.cons rfl (.cons rfl (.cons rfl (.cons rfl (.cons rfl .nil)))))))
                              refine wpList_nil (norm_blk (norm_then ?_))
                              first | exact ⟨⟨kx.k, 1 + ch / 16 % 3, kx.a, kx.b, kx.f⟩, h.sub (.cons rfl (.cons rfl (.cons rfl (.cons rfl (.cons rfl (.cons rfl (.cons rfl .nil))))))), hb11, fitC hk7.1 (by omega) hk7.2.2.1 hk7.2.2.2.1 hk7.2.2.2.2 hfl (by omega), hX, hY, hf⟩ | exact ⟨⟨_, _, _, _, _⟩, h.sub (.cons rfl (.cons rfl (.cons rfl (.cons rfl (.cons rfl (.cons rfl (.cons rfl .nil))))))), hb11, by first | exact fitP (by omega) (by omega) (by omega) hfl | exact fitO (by omega) (by omega) (by omega) hfl (by omega) | exact fitT (by omega) (by omega) (by omega) hfl hxp hxq (by omega) | exact fitU (by omega) (by omega) (by omega) hfl hxp (by omega) | exact fitS (by omega) (by omega) (by omega) hfl, hX, hY, hf⟩
                            · refine id ?_
                              refine wp_skip (norm_blk (norm_then ?_))
                              first | exact ⟨⟨kx.k, 1 + ch / 16 % 3, kx.a, kx.b, kx.f⟩, h.sub (.cons rfl (.cons rfl (.cons rfl (.cons rfl (.cons rfl (.cons rfl (.cons rfl .nil))))))), hb11, fitC hk7.1 (by omega) hk7.2.2.1 hk7.2.2.2.1 hk7.2.2.2.2 hfl (by omega), hX, hY, hf⟩ | exact ⟨⟨_, _, _, _, _⟩, h.sub (.cons rfl (.cons rfl (.cons rfl (.cons rfl (.cons rfl (.cons rfl (.cons rfl .nil))))))), hb11, by first | exact fitP (by omega) (by omega) (by omega) hfl | exact fitO (by omega) (by omega) (by omega) hfl (by omega) | exact fitT (by omega) (by omega) (by omega) hfl hxp hxq (by omega) | exact fitU (by omega) (by omega) (by omega) hfl hxp (by omega) | exact fitS (by omega) (by omega) (by omega) hfl, hX, hY, hf⟩
                          · refine id ?_
                            rw [decide_eq_false c14] at h
                            refine wp_seq ?_
                            refine wp_region_lit ?_
                            refine st_eq h rfl rfl rfl ?_; clear h a; intro a h
                            refine st_assign h rfl rfl ?_; clear h a; intro a h
                            replace h : Ag a 141 [(0, _), (1, _), (6, _), (7, _), (8, _), (9, _), (10, _), (11, _), (12, _), (41, _), (90, _)] := h.sub (.cons rfl (.cons rfl (.cons rfl (.cons rfl (.cons rfl (.cons rfl (.cons rfl (.cons rfl (.cons rfl (.cons rfl (.cons rfl .nil)))))))))))
                            refine wpList_nil (norm_then ?_)
                            first | refine cond_dec h rfl (fun c15 => ?_) (fun c15 => ?_) | refine cond_ndec h rfl (fun c15 => ?_) (fun c15 => ?_) | refine cond_split h rfl (fun c15 => ?_) (fun c15 => ?_)
                            · refine id ?_
                              rw [decide_eq_true c15] at h
                              refine wp_skip (norm_then ?_)
                              refine cond_true h rfl ?_
                              refine wp_seq ?_
                              refine wp_region_lit ?_
                              refine st_move h rfl rfl ?_; clear h a; intro a h
                              refine st_move h rfl rfl ?_; clear h a; intro a h
                              refine st_quo h rfl rfl (by omega) (by first | exact IntWalk.u8_quo _ _ (by omega) | rfl) rfl ?_; clear h a; intro a h
                              refine st_mul h rfl rfl (by first | exact IntWalk.u8_in _ (by omega) | rfl) rfl ?_; clear h a; intro a h
                              refine st_sub h rfl rfl (by first | exact IntWalk.u8_in _ (by omega) | rfl) rfl ?_; clear h a; intro a h
                              refine st_move h rfl rfl ?_; clear h a; intro a h
                              refine st_ge h rfl rfl rfl ?_; clear h a; intro a h
                              refine st_lit (cs := [_, _, _, _]) h (evs_cons rfl (evs_cons rfl (evs_cons rfl evs_nil))) bo100 (pok_cons rfl rfl rfl (pok_cons rfl rfl rfl (pok_cons rfl rfl rfl pok_nil))) rfl rfl ?_; clear h a; intro a h
                              refine st_call h (evs_cons rfl evs_nil) co57 (kof_ok 7 0 _ _ _ (by omega) (by omega) (by omega)) rfl ?_; clear h a; rintro _ w23 ⟨rfl, hq⟩ a h
                              replace hf := hf.next hq
                              replace hX := hX.ext hq
                              replace hY := hY.ext hq
                              replace hb11 := hb11.ext hq
                              clear hq
                              obtain ⟨kx, hkx⟩ : ∃ s, s = kOfS 7 0 (ch - ch / 16 * 16) (decide (128 ≤ ch)) := ⟨_, rfl⟩
                              rw [← hkx] at h
                              have hk7 := kOf7 (ch - ch / 16 * 16) (decide (128 ≤ ch)) (by omega)
                              rw [← hkx] at hk7
                              refine st_alloc h zv36 rfl rfl ?_; clear h a; intro w24 hb13 hq hz a h
                              obtain ⟨g_13, hg⟩ : ∃ g, g = w23.heap.size := ⟨_, rfl⟩; rw [← hg] at hb13 h hz
                              have hl13 : w0.heap.size ≤ g_13 := by have := hf.size; omega
                              have hlt_hX_13 : ∀ k ∈ blks X, k < g_13 := fun k hk => by have := (hX.blk k hk).2; omega
                              have hlt_hY_13 : ∀ k ∈ blks (.slice YA ys.length yc), k < g_13 := fun k hk => by have := (hY.blk k hk).2; omega
                              have hn_11_13 : g_11 < g_13 := by have := hb11.lt; omega
                              replace hf := hf.next hq
                              replace hX := hX.ext hq
                              replace hY := hY.ext hq
                              replace hb11 := hb11.ext hq
                              clear hq hz hg
                              refine st_storeBA h rfl rfl hb13 rfl (by first | (simp [Value.oneCell', S]; done) | exact Enc.one _ _) sz36 ?_; clear h a; intro w25 hbn hq hz a h
                              replace hf := hf.step hq (by first | (simp; done) | (simp; omega))
                              replace hX := hX.fr hq (by intro k hk hb; simp at hk; subst hk; exact absurd (hlt_hX_13 _ hb) (by omega))
                              replace hY := hY.fr hq (by intro k hk hb; simp at hk; subst hk; exact absurd (hlt_hY_13 _ hb) (by omega))
                              replace hb11 := hb11.fr hq (by first | (simp; done) | (simp; omega) | (simp [blks]; done) | (simp [blks]; omega))
                              clear hb13 hq hz; have hb13 : Blk w25 g_13 _ [_, _, _, _, _] := hbn; clear hbn
                              replace h : Ag a 141 [(0, _), (1, _), (6, _), (7, _), (8, _), (9, _), (11, _), (12, _), (13, _)] := h.sub (.cons rfl (.cons rfl (.cons rfl (.cons rfl (.cons rfl (.cons rfl (.cons rfl (.cons rfl (.cons rfl .nil)))))))))
                              refine wpList_nil (norm_then ?_)
                              refine wp_seq ?_
                              refine wp_region_lit ?_
                              refine st_fieldAddr h rfl fa36_2 rfl ?_; clear h a; intro a h
                              refine st_loadB h rfl hb13 rfl na3 rfl ?_; clear h a; intro a h
                              refine st_fieldAddr h rfl fa36_3 rfl ?_; clear h a; intro a h
                              refine st_loadB h rfl hb13 rfl na3 rfl ?_; clear h a; intro a h
                              refine st_add h rfl rfl (by first | exact IntWalk.i64_in _ (by omega) | rfl) rfl ?_; clear h a; intro a h
                              refine st_move h rfl rfl ?_; clear h a; intro a h
                              refine st_le h rfl rfl rfl ?_; clear h a; intro a h
                              replace h : Ag a 141 [(0, _), (1, _), (6, _), (7, _), (8, _), (9, _), (11, _), (13, _), (111, _)] := h.sub (.cons rfl (.cons rfl (.cons rfl (.cons rfl (.cons rfl (.cons rfl (.cons rfl (.cons rfl (.cons rfl .nil)))))))))
                              refine wpList_nil (norm_then ?_)
                              first | refine cond_dec h rfl (fun c19 => ?_) (fun c19 => ?_) | refine cond_ndec h rfl (fun c19 => ?_) (fun c19 => ?_) | refine cond_split h rfl (fun c19 => ?_) (fun c19 => ?_)
                              · refine id ?_
                                refine wp_seq ?_
                                refine wp_region_lit ?_
                                refine st_fieldAddr h rfl fa36_1 rfl ?_; clear h a; intro a h
                                refine st_loadB h rfl hb11 rfl na5 rfl ?_; clear h a; intro a h
                                refine st_fieldAddr h rfl fa36_1 rfl ?_; clear h a; intro a h
                                refine st_storeB h rfl rfl hb13 rfl rfl rfl sz5 ?_; clear h a; intro w26 hbn hq hz a h
                                replace hf := hf.step hq (by first | (simp; done) | (simp; omega))
                                replace hX := hX.fr hq (by intro k hk hb; simp at hk; subst hk; exact absurd (hlt_hX_13 _ hb) (by omega))
                                replace hY := hY.fr hq (by intro k hk hb; simp at hk; subst hk; exact absurd (hlt_hY_13 _ hb) (by omega))
                                replace hb11 := hb11.fr hq (by first | (simp; done) | (simp; omega) | (simp [blks]; done) | (simp [blks]; omega))
                                clear hb13 hq hz; have hb13 : Blk w26 g_13 _ [_, _, _, _, _] := hbn; clear hbn
                                replace h : Ag a 141 [(0, _), (1, _), (6, _), (7, _), (8, _), (9, _), (11, _), (13, _)] := h.sub (.cons rfl (.cons rfl (.cons rfl (.cons rfl (.cons rfl (.cons rfl (.cons rfl (.cons rfl .nil))))))))
                                refine wpList_nil (norm_then ?_)
                                refine wp_region_lit ?_
                                refine st_loadBA h rfl hb13 ag36 rfl ?_; clear h a; intro a h
                                refine st_storeBA h rfl rfl hb11 rfl (by first | (simp [Value.oneCell', S]; done) | exact Enc.one _ _) sz36 ?_; clear h a; intro w27 hbn hq hz a h
                                replace hf := hf.step hq (by first | (simp; done) | (simp; omega))
                                replace hX := hX.fr hq (by intro k hk hb; simp at hk; subst hk; exact absurd (hlt_hX_11 _ hb) (by omega))
                                replace hY := hY.fr hq (by intro k hk hb; simp at hk; subst hk; exact absurd (hlt_hY_11 _ hb) (by omega))
                                replace hb13 := hb13.fr hq (by first | (simp; done) | (simp; omega) | (simp [blks]; done) | (simp [blks]; omega))
                                clear hb11 hq hz; have hb11 : Blk w27 g_11 _ [_, _, _, _, _] := hbn; clear hbn
                                replace hb11 : Blk w27 g_11 36 [.int .u8 kx.k, .int .u8 (1 + ch / 16 % 3), .int .i64 kx.a, .int .i64 kx.b, .bool kx.f] := hb11
                                replace h : Ag a 141 [(0, _), (1, _), (6, _), (7, _), (8, _), (9, _), (11, _)] := h.sub (.cons rfl (.cons rfl (.cons rfl (.cons rfl (.cons rfl (.cons rfl (.cons rfl .nil)))))))
                                refine wpList_nil (norm_blk (norm_then ?_))
                                first | exact ⟨⟨kx.k, 1 + ch / 16 % 3, kx.a, kx.b, kx.f⟩, h.sub (.cons rfl (.cons rfl (.cons rfl (.cons rfl (.cons rfl (.cons rfl (.cons rfl .nil))))))), hb11, fitC hk7.1 (by omega) hk7.2.2.1 hk7.2.2.2.1 hk7.2.2.2.2 hfl (by omega), hX, hY, hf⟩ | exact ⟨⟨_, _, _, _, _⟩, h.sub (.cons rfl (.cons rfl (.cons rfl (.cons rfl (.cons rfl (.cons rfl (.cons rfl .nil))))))), hb11, by first | exact fitP (by omega) (by omega) (by omega) hfl | exact fitO (by omega) (by omega) (by omega) hfl (by omega) | exact fitT (by omega) (by omega) (by omega) hfl hxp hxq (by omega) | exact fitU (by omega) (by omega) (by omega) hfl hxp (by omega) | exact fitS (by omega) (by omega) (by omega) hfl, hX, hY, hf⟩
                              · refine id ?_
                                refine wp_skip (norm_blk (norm_then ?_))
                                first | exact ⟨⟨kx.k, 1 + ch / 16 % 3, kx.a, kx.b, kx.f⟩, h.sub (.cons rfl (.cons rfl (.cons rfl (.cons rfl (.cons rfl (.cons rfl (.cons rfl .nil))))))), hb11, fitC hk7.1 (by omega) hk7.2.2.1 hk7.2.2.2.1 hk7.2.2.2.2 hfl (by omega), hX, hY, hf⟩ | exact ⟨⟨_, _, _, _, _⟩, h.sub (.cons rfl (.cons rfl (.cons rfl (.cons rfl (.cons rfl (.cons rfl (.cons rfl .nil))))))), hb11, by first | exact fitP (by omega) (by omega) (by omega) hfl | exact fitO (by omega) (by omega) (by omega) hfl (by omega) | exact fitT (by omega) (by omega) (by omega) hfl hxp hxq (by omega) | exact fitU (by omega) (by omega) (by omega) hfl hxp (by omega) | exact fitS (by omega) (by omega) (by omega) hfl, hX, hY, hf⟩
                            · refine id ?_
                              rw [decide_eq_false c15] at h
                              refine wp_seq ?_
                              refine wp_region_lit ?_
                              refine st_eq h rfl rfl rfl ?_; clear h a; intro a h
                              refine st_assign h rfl rfl ?_; clear h a; intro a h
                              replace h : Ag a 141 [(0, _), (1, _), (6, _), (7, _), (8, _), (9, _), (10, _), (11, _), (12, _), (41, _), (90, _)] := h.sub (.cons rfl (.cons rfl (.cons rfl (.cons rfl (.cons rfl (.cons rfl (.cons rfl (.cons rfl (.cons rfl (.cons rfl (.cons rfl .nil)))))))))))
                              refine wpList_nil (norm_then ?_)
                              first | refine cond_dec h rfl (fun c16 => ?_) (fun c16 => ?_) | refine cond_ndec h rfl (fun c16 => ?_) (fun c16 => ?_) | refine cond_split h rfl (fun c16 => ?_) (fun c16 => ?_)
                              · refine id ?_
                                rw [decide_eq_true c16] at h
                                refine wp_skip (norm_then ?_)
                                refine cond_true h rfl ?_
                                refine wp_seq ?_
                                refine wp_region_lit ?_
                                refine st_move h rfl rfl ?_; clear h a; intro a h
                                refine st_move h rfl rfl ?_; clear h a; intro a h
                                refine st_quo h rfl rfl (by omega) (by first | exact IntWalk.u8_quo _ _ (by omega) | rfl) rfl ?_; clear h a; intro a h
                                refine st_mul h rfl rfl (by first | exact IntWalk.u8_in _ (by omega) | rfl) rfl ?_; clear h a; intro a h
                                refine st_sub h rfl rfl (by first | exact IntWalk.u8_in _ (by omega) | rfl) rfl ?_; clear h a; intro a h
                                refine st_move h rfl rfl ?_; clear h a; intro a h
                                refine st_ge h rfl rfl rfl ?_; clear h a; intro a h
                                refine st_lit (cs := [_, _, _, _]) h (evs_cons rfl (evs_cons rfl (evs_cons rfl evs_nil))) bo100 (pok_cons rfl rfl rfl (pok_cons rfl rfl rfl (pok_cons rfl rfl rfl pok_nil))) rfl rfl ?_; clear h a; intro a h
                                refine st_call h (evs_cons rfl evs_nil) co57 (kof_ok 7 0 _ _ _ (by omega) (by omega) (by omega)) rfl ?_; clear h a; rintro _ w28 ⟨rfl, hq⟩ a h
                                replace hf := hf.next hq
                                replace hX := hX.ext hq
                                replace hY := hY.ext hq
                                replace hb11 := hb11.ext hq
                                clear hq
                                obtain ⟨kx, hkx⟩ : ∃ s, s = kOfS 7 0 (ch - ch / 16 * 16) (decide (128 ≤ ch)) := ⟨_, rfl⟩
                                rw [← hkx] at h
                                have hk7 := kOf7 (ch - ch / 16 * 16) (decide (128 ≤ ch)) (by omega)
                                rw [← hkx] at hk7
                                refine st_alloc h zv36 rfl rfl ?_; clear h a; intro w29 hb13 hq hz a h
                                obtain ⟨g_13, hg⟩ : ∃ g, g = w28.heap.size := ⟨_, rfl⟩; rw [← hg] at hb13 h hz
                                have hl13 : w0.heap.size ≤ g_13 := by have := hf.size; omega
                                have hlt_hX_13 : ∀ k ∈ blks X, k < g_13 := fun k hk => by have := (hX.blk k hk).2; omega
                                have hlt_hY_13 : ∀ k ∈ blks (.slice YA ys.length yc), k < g_13 := fun k hk => by have := (hY.blk k hk).2; omega
                                have hn_11_13 : g_11 < g_13 := by have := hb11.lt; omega
                                replace hf := hf.next hq
                                replace hX := hX.ext hq
                                replace hY := hY.ext hq
                                replace hb11 := hb11.ext hq
                                clear hq hz hg
                                refine st_storeBA h rfl rfl hb13 rfl (by first | (simp [Value.oneCell', S]; done) | exact Enc.one _ _) sz36 ?_; clear h a; intro w30 hbn hq hz a h
                                replace hf := hf.step hq (by first | (simp; done) | (simp; omega))
                                replace hX := hX.fr hq (by intro k hk hb; simp at hk; subst hk; exact absurd (hlt_hX_13 _ hb) (by omega))
                                replace hY := hY.fr hq (by intro k hk hb; simp at hk; subst hk; exact absurd (hlt_hY_13 _ hb) (by omega))
                                replace hb11 := hb11.fr hq (by first | (simp; done) | (simp; omega) | (simp [blks]; done) | (simp [blks]; omega))
                                clear hb13 hq hz; have hb13 : Blk w30 g_13 _ [_, _, _, _, _] := hbn; clear hbn
                                replace h : Ag a 141 [(0, _), (1, _), (6, _), (7, _), (8, _), (9, _), (11, _), (12, _), (13, _)] := h.sub (.cons rfl (.cons rfl (.cons rfl (.cons rfl (.cons rfl (.cons rfl (.cons rfl (.cons rfl (.cons rfl .nil)))))))))
                                refine wpList_nil (norm_then ?_)
                                refine wp_seq ?_
                                refine wp_region_lit ?_
                                refine st_fieldAddr h rfl fa36_2 rfl ?_; clear h a; intro a h
                                refine st_loadB h rfl hb13 rfl na3 rfl ?_; clear h a; intro a h
                                refine st_fieldAddr h rfl fa36_3 rfl ?_; clear h a; intro a h
                                refine st_loadB h rfl hb13 rfl na3 rfl ?_; clear h a; intro a h
                                refine st_add h rfl rfl (by first | exact IntWalk.i64_in _ (by omega) | rfl) rfl ?_; clear h a; intro a h
                                refine st_move h rfl rfl ?_; clear h a; intro a h
                                refine st_le h rfl rfl rfl ?_; clear h a; intro a h
                                replace h : Ag a 141 [(0, _), (1, _), (6, _), (7, _), (8, _), (9, _), (11, _), (13, _), (111, _)] := h.sub (.cons rfl (.cons rfl (.cons rfl (.cons rfl (.cons rfl (.cons rfl (.cons rfl (.cons rfl (.cons rfl .nil)))))))))
                                refine wpList_nil (norm_then ?_)
                                first | refine cond_dec h rfl (fun c19 => ?_) (fun c19 => ?_) | refine cond_ndec h rfl (fun c19 => ?_) (fun c19 => ?_) | refine cond_split h rfl (fun c19 => ?_) (fun c19 => ?_)
                                · refine id ?_
                                  refine wp_seq ?_
                                  refine wp_region_lit ?_
                                  refine st_fieldAddr h rfl fa36_1 rfl ?_; clear h a; intro a h
                                  refine st_loadB h rfl hb11 rfl na5 rfl ?_; clear h a; intro a h
                                  refine st_fieldAddr h rfl fa36_1 rfl ?_; clear h a; intro a h
                                  refine st_storeB h rfl rfl hb13 rfl rfl rfl sz5 ?_; clear h a; intro w31 hbn hq hz a h
                                  replace hf := hf.step hq (by first | (simp; done) | (simp; omega))
                                  replace hX := hX.fr hq (by intro k hk hb; simp at hk; subst hk; exact absurd (hlt_hX_13 _ hb) (by omega))
                                  replace hY := hY.fr hq (by intro k hk hb; simp at hk; subst hk; exact absurd (hlt_hY_13 _ hb) (by omega))
                                  replace hb11 := hb11.fr hq (by first | (simp; done) | (simp; omega) | (simp [blks]; done) | (simp [blks]; omega))
                                  clear hb13 hq hz; have hb13 : Blk w31 g_13 _ [_, _, _, _, _] := hbn; clear hbn
                                  replace h : Ag a 141 [(0, _), (1, _), (6, _), (7, _), (8, _), (9, _), (11, _), (13, _)] := h.sub (.cons rfl (.cons rfl (.cons rfl (.cons rfl (.cons rfl (.cons rfl (.cons rfl (.cons rfl .nil))))))))
                                  refine wpList_nil (norm_then ?_)
                                  refine wp_region_lit ?_
                                  refine st_loadBA h rfl hb13 ag36 rfl ?_; clear h a; intro a h
                                  refine st_storeBA h rfl rfl hb11 rfl (by first | (simp [Value.oneCell', S]; done) | exact Enc.one _ _) sz36 ?_; clear h a; intro w32 hbn hq hz a h
                                  replace hf := hf.step hq (by first | (simp; done) | (simp; omega))
                                  replace hX := hX.fr hq (by intro k hk hb; simp at hk; subst hk; exact absurd (hlt_hX_11 _ hb) (by omega))
                                  replace hY := hY.fr hq (by intro k hk hb; simp at hk; subst hk; exact absurd (hlt_hY_11 _ hb) (by omega))
                                  replace hb13 := hb13.fr hq (by first | (simp; done) | (simp; omega) | (simp [blks]; done) | (simp [blks]; omega))
                                  clear hb11 hq hz; have hb11 : Blk w32 g_11 _ [_, _, _, _, _] := hbn; clear hbn
                                  replace hb11 : Blk w32 g_11 36 [.int .u8 kx.k, .int .u8 (1 + ch / 16 % 3), .int .i64 kx.a, .int .i64 kx.b, .bool kx.f] := hb11
                                  replace h : Ag a 141 [(0, _), (1, _), (6, _), (7, _), (8, _), (9, _), (11, _)] := h.sub (.cons rfl (.cons rfl (.cons rfl (.cons rfl (.cons rfl (.cons rfl (.cons rfl .nil)))))))
                                  refine wpList_nil (norm_blk (norm_then ?_))
                                  first | exact ⟨⟨kx.k, 1 + ch / 16 % 3, kx.a, kx.b, kx.f⟩, h.sub (.cons rfl (.cons rfl (.cons rfl (.cons rfl (.cons rfl (.cons rfl (.cons rfl .nil))))))), hb11, fitC hk7.1 (by omega) hk7.2.2.1 hk7.2.2.2.1 hk7.2.2.2.2 hfl (by omega), hX, hY, hf⟩ | exact ⟨⟨_, _, _, _, _⟩, h.sub (.cons rfl (.cons rfl (.cons rfl (.cons rfl (.cons rfl (.cons rfl (.cons rfl .nil))))))), hb11, by first | exact fitP (by omega) (by omega) (by omega) hfl | exact fitO (by omega) (by omega) (by omega) hfl (by omega) | exact fitT (by omega) (by omega) (by omega) hfl hxp hxq (by omega) | exact fitU (by omega) (by omega) (by omega) hfl hxp (by omega) | exact fitS (by omega) (by omega) (by omega) hfl, hX, hY, hf⟩
                                · refine id ?_
                                  refine wp_skip (norm_blk (norm_then ?_))
                                  first | exact ⟨⟨kx.k, 1 + ch / 16 % 3, kx.a, kx.b, kx.f⟩, h.sub (.cons rfl (.cons rfl (.cons rfl (.cons rfl (.cons rfl (.cons rfl (.cons rfl .nil))))))), hb11, fitC hk7.1 (by omega) hk7.2.2.1 hk7.2.2.2.1 hk7.2.2.2.2 hfl (by omega), hX, hY, hf⟩ | exact ⟨⟨_, _, _, _, _⟩, h.sub (.cons rfl (.cons rfl (.cons rfl (.cons rfl (.cons rfl (.cons rfl (.cons rfl .nil))))))), hb11, by first | exact fitP (by omega) (by omega) (by omega) hfl | exact fitO (by omega) (by omega) (by omega) hfl (by omega) | exact fitT (by omega) (by omega) (by omega) hfl hxp hxq (by omega) | exact fitU (by omega) (by omega) (by omega) hfl hxp (by omega) | exact fitS (by omega) (by omega) (by omega) hfl, hX, hY, hf⟩
                              · refine id ?_
                                rw [decide_eq_false c16] at h
                                refine wp_seq ?_
                                refine wp_region_lit ?_
                                refine st_eq h rfl rfl rfl ?_; clear h a; intro a h
                                refine st_assign h rfl rfl ?_; clear h a; intro a h
                                replace h : Ag a 141 [(0, _), (1, _), (6, _), (7, _), (8, _), (9, _), (10, _), (11, _), (12, _), (41, _), (90, _)] := h.sub (.cons rfl (.cons rfl (.cons rfl (.cons rfl (.cons rfl (.cons rfl (.cons rfl (.cons rfl (.cons rfl (.cons rfl (.cons rfl .nil)))))))))))
                                refine wpList_nil (norm_then ?_)
                                first | refine cond_dec h rfl (fun c17 => ?_) (fun c17 => ?_) | refine cond_ndec h rfl (fun c17 => ?_) (fun c17 => ?_) | refine cond_split h rfl (fun c17 => ?_) (fun c17 => ?_)
                                · refine id ?_
                                  rw [decide_eq_true c17] at h
                                  refine wp_skip (norm_then ?_)
                                  refine cond_true h rfl ?_
                                  refine wp_seq ?_
                                  refine wp_region_lit ?_
                                  refine st_move h rfl rfl ?_; clear h a; intro a h
                                  refine st_move h rfl rfl ?_; clear h a; intro a h
                                  refine st_quo h rfl rfl (by omega) (by first | exact IntWalk.u8_quo _ _ (by omega) | rfl) rfl ?_; clear h a; intro a h
                                  refine st_mul h rfl rfl (by first | exact IntWalk.u8_in _ (by omega) | rfl) rfl ?_; clear h a; intro a h
                                  refine st_sub h rfl rfl (by first | exact IntWalk.u8_in _ (by omega) | rfl) rfl ?_; clear h a; intro a h
                                  refine st_move h rfl rfl ?_; clear h a; intro a h
                                  refine st_ge h rfl rfl rfl ?_; clear h a; intro a h
                                  refine st_lit (cs := [_, _, _, _]) h (evs_cons rfl (evs_cons rfl (evs_cons rfl evs_nil))) bo100 (pok_cons rfl rfl rfl (pok_cons rfl rfl rfl (pok_cons rfl rfl rfl pok_nil))) rfl rfl ?_; clear h a; intro a h
                                  refine st_call h (evs_cons rfl evs_nil) co57 (kof_ok 7 0 _ _ _ (by omega) (by omega) (by omega)) rfl ?_; clear h a; rintro _ w33 ⟨rfl, hq⟩ a h
                                  replace hf := hf.next hq
                                  replace hX := hX.ext hq
                                  replace hY := hY.ext hq
                                  replace hb11 := hb11.ext hq
                                  clear hq
                                  obtain ⟨kx, hkx⟩ : ∃ s, s = kOfS 7 0 (ch - ch / 16 * 16) (decide (128 ≤ ch)) := ⟨_, rfl⟩
                                  rw [← hkx] at h
                                  have hk7 := kOf7 (ch - ch / 16 * 16) (decide (128 ≤ ch)) (by omega)
                                  rw [← hkx] at hk7
                                  refine st_alloc h zv36 rfl rfl ?_; clear h a; intro w34 hb13 hq hz a h
                                  obtain ⟨g_13, hg⟩ : ∃ g, g = w33.heap.size := ⟨_, rfl⟩; rw [← hg] at hb13 h hz
                                  have hl13 : w0.heap.size ≤ g_13 := by have := hf.size; omega
                                  have hlt_hX_13 : ∀ k ∈ blks X, k < g_13 := fun k hk => by have := (hX.blk k hk).2; omega
                                  have hlt_hY_13 : ∀ k ∈ blks (.slice YA ys.length yc), k < g_13 := fun k hk => by have := (hY.blk k hk).2; omega
                                  have hn_11_13 : g_11 < g_13 := by have := hb11.lt; omega
                                  replace hf := hf.next hq
                                  replace hX := hX.ext hq
                                  replace hY := hY.ext hq
                                  replace hb11 := hb11.ext hq
                                  clear hq hz hg
                                  refine st_storeBA h rfl rfl hb13 rfl (by first | (simp [Value.oneCell', S]; done) | exact Enc.one _ _) sz36 ?_; clear h a; intro w35 hbn hq hz a h
                                  replace hf := hf.step hq (by first | (simp; done) | (simp; omega))
                                  replace hX := hX.fr hq (by intro k hk hb; simp at hk; subst hk; exact absurd (hlt_hX_13 _ hb) (by omega))
                                  replace hY := hY.fr hq (by intro k hk hb; simp at hk; subst hk; exact absurd (hlt_hY_13 _ hb) (by omega))
                                  replace hb11 := hb11.fr hq (by first | (simp; done) | (simp; omega) | (simp [blks]; done) | (simp [blks]; omega))
                                  clear hb13 hq hz; have hb13 : Blk w35 g_13 _ [_, _, _, _, _] := hbn; clear hbn
                                  replace h : Ag a 141 [(0, _), (1, _), (6, _), (7, _), (8, _), (9, _), (11, _), (12, _), (13, _)] := h.sub (.cons rfl (.cons rfl (.cons rfl (.cons rfl (.cons rfl (.cons rfl (.cons rfl (.cons rfl (.cons rfl .nil)))))))))
                                  refine wpList_nil (norm_then ?_)
                                  refine wp_seq ?_
                                  refine wp_region_lit ?_
                                  refine st_fieldAddr h rfl fa36_2 rfl ?_; clear h a; intro a h
                                  refine st_loadB h rfl hb13 rfl na3 rfl ?_; clear h a; intro a h
                                  refine st_fieldAddr h rfl fa36_3 rfl ?_; clear h a; intro a h
                                  refine st_loadB h rfl hb13 rfl na3 rfl ?_; clear h a; intro a h
                                  refine st_add h rfl rfl (by first | exact IntWalk.i64_in _ (by omega) | rfl) rfl ?_; clear h a; intro a h
                                  refine st_move h rfl rfl ?_; clear h a; intro a h
                                  refine st_le h rfl rfl rfl ?_; clear h a; intro a h
                                  replace h : Ag a 141 [(0, _), (1, _), (6, _), (7, _), (8, _), (9, _), (11, _), (13, _), (111, _)] := h.sub (.cons rfl (.cons rfl (.cons rfl (.cons rfl (.cons rfl (.cons rfl (.cons rfl (.cons rfl (.cons rfl .nil)))))))))
                                  refine wpList_nil (norm_then ?_)
                                  first | refine cond_dec h rfl (fun c19 => ?_) (fun c19 => ?_) | refine cond_ndec h rfl (fun c19 => ?_) (fun c19 => ?_) | refine cond_split h rfl (fun c19 => ?_) (fun c19 => ?_)
                                  · refine id ?_
                                    refine wp_seq ?_
                                    refine wp_region_lit ?_
                                    refine st_fieldAddr h rfl fa36_1 rfl ?_; clear h a; intro a h
                                    refine st_loadB h rfl hb11 rfl na5 rfl ?_; clear h a; intro a h
                                    refine st_fieldAddr h rfl fa36_1 rfl ?_; clear h a; intro a h
                                    refine st_storeB h rfl rfl hb13 rfl rfl rfl sz5 ?_; clear h a; intro w36 hbn hq hz a h
                                    replace hf := hf.step hq (by first | (simp; done) | (simp; omega))
                                    replace hX := hX.fr hq (by intro k hk hb; simp at hk; subst hk; exact absurd (hlt_hX_13 _ hb) (by omega))
                                    replace hY := hY.fr hq (by intro k hk hb; simp at hk; subst hk; exact absurd (hlt_hY_13 _ hb) (by omega))
                                    replace hb11 := hb11.fr hq (by first | (simp; done) | (simp; omega) | (simp [blks]; done) | (simp [blks]; omega))
                                    clear hb13 hq hz; have hb13 : Blk w36 g_13 _ [_, _, _, _, _] := hbn; clear hbn
                                    replace h : Ag a 141 [(0, _), (1, _), (6, _), (7, _), (8, _), (9, _), (11, _), (13, _)] := h.sub (.cons rfl (.cons rfl (.cons rfl (.cons rfl (.cons rfl (.cons rfl (.cons rfl (.cons rfl .nil))))))))
                                    refine wpList_nil (norm_then ?_)
                                    refine wp_region_lit ?_
                                    refine st_loadBA h rfl hb13 ag36 rfl ?_; clear h a; intro a h
                                    refine st_storeBA h rfl rfl hb11 rfl (by first | (simp [Value.oneCell', S]; done) | exact Enc.one _ _) sz36 ?_; clear h a; intro w37 hbn hq hz a h
                                    replace hf := hf.step hq (by first | (simp; done) | (simp; omega))
                                    replace hX := hX.fr hq (by intro k hk hb; simp at hk; subst hk; exact absurd (hlt_hX_11 _ hb) (by omega))
                                    replace hY := hY.fr hq (by intro k hk hb; simp at hk; subst hk; exact absurd (hlt_hY_11 _ hb) (by omega))
                                    replace hb13 := hb13.fr hq (by first | (simp; done) | (simp; omega) | (simp [blks]; done) | (simp [blks]; omega))
                                    clear hb11 hq hz; have hb11 : Blk w37 g_11 _ [_, _, _, _, _] := hbn; clear hbn
                                    replace hb11 : Blk w37 g_11 36 [.int .u8 kx.k, .int .u8 (1 + ch / 16 % 3), .int .i64 kx.a, .int .i64 kx.b, .bool kx.f] := hb11
                                    replace h : Ag a 141 [(0, _), (1, _), (6, _), (7, _), (8, _), (9, _), (11, _)] := h.sub (.cons rfl (.cons rfl (.cons rfl (.cons rfl (.cons rfl (.cons rfl (.cons rfl .nil)))))))
                                    refine wpList_nil (norm_blk (norm_then ?_))
                                    first | exact ⟨⟨kx.k, 1 + ch / 16 % 3, kx.a, kx.b, kx.f⟩, h.sub (.cons rfl (.cons rfl (.cons rfl (.cons rfl (.cons rfl (.cons rfl (.cons rfl .nil))))))), hb11, fitC hk7.1 (by omega) hk7.2.2.1 hk7.2.2.2.1 hk7.2.2.2.2 hfl (by omega), hX, hY, hf⟩ | exact ⟨⟨_, _, _, _, _⟩, h.sub (.cons rfl (.cons rfl (.cons rfl (.cons rfl (.cons rfl (.cons rfl (.cons rfl .nil))))))), hb11, by first | exact fitP (by omega) (by omega) (by omega) hfl | exact fitO (by omega) (by omega) (by omega) hfl (by omega) | exact fitT (by omega) (by omega) (by omega) hfl hxp hxq (by omega) | exact fitU (by omega) (by omega) (by omega) hfl hxp (by omega) | exact fitS (by omega) (by omega) (by omega) hfl, hX, hY, hf⟩
                                  · refine id ?_
                                    refine wp_skip (norm_blk (norm_then ?_))
                                    first | exact ⟨⟨kx.k, 1 + ch / 16 % 3, kx.a, kx.b, kx.f⟩, h.sub (.cons rfl (.cons rfl (.cons rfl (.cons rfl (.cons rfl (.cons rfl (.cons rfl .nil))))))), hb11, fitC hk7.1 (by omega) hk7.2.2.1 hk7.2.2.2.1 hk7.2.2.2.2 hfl (by omega), hX, hY, hf⟩ | exact ⟨⟨_, _, _, _, _⟩, h.sub (.cons rfl (.cons rfl (.cons rfl (.cons rfl (.cons rfl (.cons rfl (.cons rfl .nil))))))), hb11, by first | exact fitP (by omega) (by omega) (by omega) hfl | exact fitO (by omega) (by omega) (by omega) hfl (by omega) | exact fitT (by omega) (by omega) (by omega) hfl hxp hxq (by omega) | exact fitU (by omega) (by omega) (by omega) hfl hxp (by omega) | exact fitS (by omega) (by omega) (by omega) hfl, hX, hY, hf⟩
                                · refine id ?_
                                  rw [decide_eq_false c17] at h
                                  refine wp_region_lit ?_
                                  refine st_eq h rfl rfl rfl ?_; clear h a; intro a h
                                  refine st_assign h rfl rfl ?_; clear h a; intro a h
                                  replace h : Ag a 141 [(0, _), (1, _), (6, _), (7, _), (8, _), (9, _), (10, _), (11, _), (12, _), (90, _)] := h.sub (.cons rfl (.cons rfl (.cons rfl (.cons rfl (.cons rfl (.cons rfl (.cons rfl (.cons rfl (.cons rfl (.cons rfl .nil))))))))))
                                  refine wpList_nil (norm_then ?_)
                                  first | refine cond_dec h rfl (fun c18 => ?_) (fun c18 => ?_) | refine cond_ndec h rfl (fun c18 => ?_) (fun c18 => ?_) | refine cond_split h rfl (fun c18 => ?_) (fun c18 => ?_)
                                  · refine id ?_
                                    refine wp_seq ?_
                                    refine wp_region_lit ?_
                                    refine st_move h rfl rfl ?_; clear h a; intro a h
                                    refine st_move h rfl rfl ?_; clear h a; intro a h
                                    refine st_quo h rfl rfl (by omega) (by first | exact IntWalk.u8_quo _ _ (by omega) | rfl) rfl ?_; clear h a; intro a h
                                    refine st_mul h rfl rfl (by first | exact IntWalk.u8_in _ (by omega) | rfl) rfl ?_; clear h a; intro a h
                                    refine st_sub h rfl rfl (by first | exact IntWalk.u8_in _ (by omega) | rfl) rfl ?_; clear h a; intro a h
                                    refine st_move h rfl rfl ?_; clear h a; intro a h
                                    refine st_ge h rfl rfl rfl ?_; clear h a; intro a h
                                    refine st_lit (cs := [_, _, _, _]) h (evs_cons rfl (evs_cons rfl (evs_cons rfl evs_nil))) bo100 (pok_cons rfl rfl rfl (pok_cons rfl rfl rfl (pok_cons rfl rfl rfl pok_nil))) rfl rfl ?_; clear h a; intro a h
                                    refine st_call h (evs_cons rfl evs_nil) co57 (kof_ok 7 0 _ _ _ (by omega) (by omega) (by omega)) rfl ?_; clear h a; rintro _ w38 ⟨rfl, hq⟩ a h
                                    replace hf := hf.next hq
                                    replace hX := hX.ext hq
                                    replace hY := hY.ext hq
                                    replace hb11 := hb11.ext hq
                                    clear hq
                                    obtain ⟨kx, hkx⟩ : ∃ s, s = kOfS 7 0 (ch - ch / 16 * 16) (decide (128 ≤ ch)) := ⟨_, rfl⟩
                                    rw [← hkx] at h
                                    have hk7 := kOf7 (ch - ch / 16 * 16) (decide (128 ≤ ch)) (by omega)
                                    rw [← hkx] at hk7
                                    refine st_alloc h zv36 rfl rfl ?_; clear h a; intro w39 hb13 hq hz a h
                                    obtain ⟨g_13, hg⟩ : ∃ g, g = w38.heap.size := ⟨_, rfl⟩; rw [← hg] at hb13 h hz
                                    have hl13 : w0.heap.size ≤ g_13 := by have := hf.size; omega
                                    have hlt_hX_13 : ∀ k ∈ blks X, k < g_13 := fun k hk => by have := (hX.blk k hk).2; omega
                                    have hlt_hY_13 : ∀ k ∈ blks (.slice YA ys.length yc), k < g_13 := fun k hk => by have := (hY.blk k hk).2; omega
                                    have hn_11_13 : g_11 < g_13 := by have := hb11.lt; omega
                                    replace hf := hf.next hq
                                    replace hX := hX.ext hq
                                    replace hY := hY.ext hq
                                    replace hb11 := hb11.ext hq
                                    clear hq hz hg
                                    refine st_storeBA h rfl rfl hb13 rfl (by first | (simp [Value.oneCell', S]; done) | exact Enc.one _ _) sz36 ?_; clear h a; intro w40 hbn hq hz a h
                                    replace hf := hf.step hq (by first | (simp; done) | (simp; omega))
                                    replace hX := hX.fr hq (by intro k hk hb; simp at hk; subst hk; exact absurd (hlt_hX_13 _ hb) (by omega))
                                    replace hY := hY.fr hq (by intro k hk hb; simp at hk; subst hk; exact absurd (hlt_hY_13 _ hb) (by omega))
                                    replace hb11 := hb11.fr hq (by first | (simp; done) | (simp; omega) | (simp [blks]; done) | (simp [blks]; omega))
                                    clear hb13 hq hz; have hb13 : Blk w40 g_13 _ [_, _, _, _, _] := hbn; clear hbn
                                    replace h : Ag a 141 [(0, _), (1, _), (6, _), (7, _), (8, _), (9, _), (11, _), (12, _), (13, _)] := h.sub (.cons rfl (.cons rfl (.cons rfl (.cons rfl (.cons rfl (.cons rfl (.cons rfl (.cons rfl (.cons rfl .nil)))))))))
                                    refine wpList_nil (norm_then ?_)
                                    refine wp_seq ?_
                                    refine wp_region_lit ?_
                                    refine st_fieldAddr h rfl fa36_2 rfl ?_; clear h a; intro a h
                                    refine st_loadB h rfl hb13 rfl na3 rfl ?_; clear h a; intro a h
                                    refine st_fieldAddr h rfl fa36_3 rfl ?_; clear h a; intro a h
                                    refine st_loadB h rfl hb13 rfl na3 rfl ?_; clear h a; intro a h
                                    refine st_add h rfl rfl (by first | exact IntWalk.i64_in _ (by omega) | rfl) rfl ?_; clear h a; intro a h
                                    refine st_move h rfl rfl ?_; clear h a; intro a h
                                    refine st_le h rfl rfl rfl ?_; clear h a; intro a h
                                    replace h : Ag a 141 [(0, _), (1, _), (6, _), (7, _), (8, _), (9, _), (11, _), (13, _), (111, _)] := h.sub (.cons rfl (.cons rfl (.cons rfl (.cons rfl (.cons rfl (.cons rfl (.cons rfl (.cons rfl (.cons rfl .nil)))))))))
                                    refine wpList_nil (norm_then ?_)
                                    first | refine cond_dec h rfl (fun c19 => ?_) (fun c19 => ?_) | refine cond_ndec h rfl (fun c19 => ?_) (fun c19 => ?_) | refine cond_split h rfl (fun c19 => ?_) (fun c19 => ?_)
                                    · refine id ?_
                                      refine wp_seq ?_
                                      refine wp_region_lit ?_
                                      refine st_fieldAddr h rfl fa36_1 rfl ?_; clear h a; intro a h
                                      refine st_loadB h rfl hb11 rfl na5 rfl ?_; clear h a; intro a h
                                      refine st_fieldAddr h rfl fa36_1 rfl ?_; clear h a; intro a h
                                      refine st_storeB h rfl rfl hb13 rfl rfl rfl sz5 ?_; clear h a; intro w41 hbn hq hz a h
                                      replace hf := hf.step hq (by first | (simp; done) | (simp; omega))
                                      replace hX := hX.fr hq (by intro k hk hb; simp at hk; subst hk; exact absurd (hlt_hX_13 _ hb) (by omega))
                                      replace hY := hY.fr hq (by intro k hk hb; simp at hk; subst hk; exact absurd (hlt_hY_13 _ hb) (by omega))
                                      replace hb11 := hb11.fr hq (by first | (simp; done) | (simp; omega) | (simp [blks]; done) | (simp [blks]; omega))
                                      clear hb13 hq hz; have hb13 : Blk w41 g_13 _ [_, _, _, _, _] := hbn; clear hbn
                                      replace h : Ag a 141 [(0, _), (1, _), (6, _), (7, _), (8, _), (9, _), (11, _), (13, _)] := h.sub (.cons rfl (.cons rfl (.cons rfl (.cons rfl (.cons rfl (.cons rfl (.cons rfl (.cons rfl .nil))))))))
                                      refine wpList_nil (norm_then ?_)
                                      refine wp_region_lit ?_
                                      refine st_loadBA h rfl hb13 ag36 rfl ?_; clear h a; intro a h
                                      refine st_storeBA h rfl rfl hb11 rfl (by first | (simp [Value.oneCell', S]; done) | exact Enc.one _ _) sz36 ?_; clear h a; intro w42 hbn hq hz a h
                                      replace hf := hf.step hq (by first | (simp; done) | (simp; omega))
                                      replace hX := hX.fr hq (by intro k hk hb; simp at hk; subst hk; exact absurd (hlt_hX_11 _ hb) (by omega))
                                      replace hY := hY.fr hq (by intro k hk hb; simp at hk; subst hk; exact absurd (hlt_hY_11 _ hb) (by omega))
                                      replace hb13 := hb13.fr hq (by first | (simp; done) | (simp; omega) | (simp [blks]; done) | (simp [blks]; omega))
                                      clear hb11 hq hz; have hb11 : Blk w42 g_11 _ [_, _, _, _, _] := hbn; clear hbn
                                      replace hb11 : Blk w42 g_11 36 [.int .u8 kx.k, .int .u8 (1 + ch / 16 % 3), .int .i64 kx.a, .int .i64 kx.b, .bool kx.f] := hb11
                                      replace h : Ag a 141 [(0, _), (1, _), (6, _), (7, _), (8, _), (9, _), (11, _)] := h.sub (.cons rfl (.cons rfl (.cons rfl (.cons rfl (.cons rfl (.cons rfl (.cons rfl .nil)))))))
                                      refine wpList_nil (norm_blk (norm_then ?_))
                                      first | exact ⟨⟨kx.k, 1 + ch / 16 % 3, kx.a, kx.b, kx.f⟩, h.sub (.cons rfl (.cons rfl (.cons rfl (.cons rfl (.cons rfl (.cons rfl (.cons rfl .nil))))))), hb11, fitC hk7.1 (by omega) hk7.2.2.1 hk7.2.2.2.1 hk7.2.2.2.2 hfl (by omega), hX, hY, hf⟩ | exact ⟨⟨_, _, _, _, _⟩, h.sub (.cons rfl (.cons rfl (.cons rfl (.cons rfl (.cons rfl (.cons rfl (.cons rfl .nil))))))), hb11, by first | exact fitP (by omega) (by omega) (by omega) hfl | exact fitO (by omega) (by omega) (by omega) hfl (by omega) | exact fitT (by omega) (by omega) (by omega) hfl hxp hxq (by omega) | exact fitU (by omega) (by omega) (by omega) hfl hxp (by omega) | exact fitS (by omega) (by omega) (by omega) hfl, hX, hY, hf⟩
                                    · refine id ?_
                                      refine wp_skip (norm_blk (norm_then ?_))
                                      first | exact ⟨⟨kx.k, 1 + ch / 16 % 3, kx.a, kx.b, kx.f⟩, h.sub (.cons rfl (.cons rfl (.cons rfl (.cons rfl (.cons rfl (.cons rfl (.cons rfl .nil))))))), hb11, fitC hk7.1 (by omega) hk7.2.2.1 hk7.2.2.2.1 hk7.2.2.2.2 hfl (by omega), hX, hY, hf⟩ | exact ⟨⟨_, _, _, _, _⟩, h.sub (.cons rfl (.cons rfl (.cons rfl (.cons rfl (.cons rfl (.cons rfl (.cons rfl .nil))))))), hb11, by first | exact fitP (by omega) (by omega) (by omega) hfl | exact fitO (by omega) (by omega) (by omega) hfl (by omega) | exact fitT (by omega) (by omega) (by omega) hfl hxp hxq (by omega) | exact fitU (by omega) (by omega) (by omega) hfl hxp (by omega) | exact fitS (by omega) (by omega) (by omega) hfl, hX, hY, hf⟩
                                  · refine id ?_
                                    refine wp_skip (norm_blk (norm_then ?_))
                                    first | exact ⟨⟨kx.k, 1 + ch / 16 % 3, kx.a, kx.b, kx.f⟩, h.sub (.cons rfl (.cons rfl (.cons rfl (.cons rfl (.cons rfl (.cons rfl (.cons rfl .nil))))))), hb11, fitC hk7.1 (by omega) hk7.2.2.1 hk7.2.2.2.1 hk7.2.2.2.2 hfl (by omega), hX, hY, hf⟩ | exact ⟨⟨_, _, _, _, _⟩, h.sub (.cons rfl (.cons rfl (.cons rfl (.cons rfl (.cons rfl (.cons rfl (.cons rfl .nil))))))), hb11, by first | exact fitP (by omega) (by omega) (by omega) hfl | exact fitO (by omega) (by omega) (by omega) hfl (by omega) | exact fitT (by omega) (by omega) (by omega) hfl hxp hxq (by omega) | exact fitU (by omega) (by omega) (by omega) hfl hxp (by omega) | exact fitS (by omega) (by omega) (by omega) hfl, hX, hY, hf⟩
      · clear h a hX hY hf hb11
        rintro a w43 ⟨s, h, ⟨hb11, hfit, hX, hY, hf⟩⟩
        obtain ⟨hst1, hst2, hst3⟩ := fit_step hfit hi h8
        have hrs := check_rng hfit.1
        have hks : 0 ≤ s.k := by omega
        have hys : 0 ≤ s.y := by omega
        have hfz := loads_few hfit.2.2.2
        obtain ⟨hfz, hzl, -⟩ := hfz
        have hfn := hfit.2.1
        have hndr := needs_rng s
        refine wp_seq ?_
        refine wp_region_lit ?_
        refine st_loadBA h rfl hb11 ag36 rfl ?_; clear h a; intro a h
        refine st_call h (evs_cons rfl evs_nil) co42 (refneeds_ok s _ hks hys) rfl ?_; clear h a; rintro _ w44 ⟨rfl, hq⟩ a h
        replace hf := hf.next hq
        replace hX := hX.ext hq
        replace hY := hY.ext hq
        replace hb11 := hb11.ext hq
        clear hq
        refine st_assign h rfl rfl ?_; clear h a; intro a h
        replace h : Ag a 141 [(0, _), (1, _), (6, _), (7, _), (8, _), (9, _), (11, _), (14, _)] := h.sub (.cons rfl (.cons rfl (.cons rfl (.cons rfl (.cons rfl (.cons rfl (.cons rfl (.cons rfl .nil))))))))
        refine wpList_nil (norm_then ?_)
        refine wp_seq ?_
        refine region_held (fun wb w' => Fr [] wb w') hmix ?_; intro w45 hq
        replace hf := hf.next hq
        replace hX := hX.ext hq
        replace hY := hY.ext hq
        replace hb11 := hb11.ext hq
        clear hq; have hC : Fr [] w45 w45 := Fr.refl _ _
        have hX_b := hX
        have hY_b := hY
        have hb11_b := hb11
        refine hd_loadBA 0 (by kernel_rfl) (by kernel_rfl) (by kernel_rfl) hC h rfl (fun _ hw => hb11_b.ext hw) ag36 rfl rfl ?_; clear h a; intro a h
        refine hd_move 1 (by kernel_rfl) (by kernel_rfl) (by kernel_rfl) hC h rfl rfl rfl ?_; clear h a; intro a h
        refine hd_move 2 (by kernel_rfl) (by kernel_rfl) (by kernel_rfl) hC h rfl rfl rfl ?_; clear h a; intro a h
        refine hd_move 3 (by kernel_rfl) (by kernel_rfl) (by kernel_rfl) hC h rfl rfl rfl ?_; clear h a; intro a h
        refine hd_move 4 (by kernel_rfl) (by kernel_rfl) (by kernel_rfl) hC h rfl rfl rfl ?_; clear h a; intro a h
        refine hd_add 5 (by kernel_rfl) (by kernel_rfl) (by kernel_rfl) hC h rfl rfl (by first | exact IntWalk.i64_in _ (by omega) | rfl) rfl rfl ?_; clear h a; intro a h
        refine hd_sl_lh 6 (by kernel_rfl) (by kernel_rfl) (by kernel_rfl) hC (p := i) (p' := i + (needsS s).toNat) h rfl rfl rfl el68 (by omega) (by omega) (by omega) (by omega) (by omega) rfl rfl ?_; clear h a; intro a h
        refine hd_one 7 (by kernel_rfl) rfl ?_
        have hpt := (Sl.part hu hfit.2.1).ext hf
        have hnd := needs_rng s
        refine st_call h (evs_cons rfl (evs_cons rfl evs_nil)) co43 (refloads_ok s _ _ _ hks hys hpt) rfl ?_; clear h a; rintro _ w46 ⟨rv, rfl, hr, hq⟩ a h
        have hXr : ∀ k ∈ blks X, k ∉ blks rv := fun k hk hk2 => by have := (hX.blk k hk).2; have := (hr.blk k hk2).1; omega
        have hYr : ∀ k ∈ blks (.slice YA ys.length yc), k ∉ blks rv := fun k hk hk2 => by have := (hY.blk k hk).2; have := (hr.blk k hk2).1; omega
        replace hf := hf.next hq
        replace hX := hX.ext hq
        replace hY := hY.ext hq
        replace hb11 := hb11.ext hq
        replace hC := hC.next hq
        clear hq hpt
        refine hd_next hC ?_
        refine hd_move 8 (by kernel_rfl) (by kernel_rfl) (by kernel_rfl) hC h rfl rfl rfl ?_; clear h a; intro a h
        refine hd_extract 9 (by kernel_rfl) (by kernel_rfl) (by kernel_rfl) hC h rfl rfl rfl rfl ?_; clear h a; intro a h
        refine hd_extract 10 (by kernel_rfl) (by kernel_rfl) (by kernel_rfl) hC h rfl rfl rfl rfl ?_; clear h a; intro a h
        refine hd_one 11 (by kernel_rfl) rfl ?_
        refine st_assign h rfl rfl ?_; clear h a; intro a h
        refine hd_next hC ?_
        refine hd_one 12 (by kernel_rfl) rfl ?_
        refine st_assign h rfl rfl ?_; clear h a; intro a h
        refine hd_next hC ?_
        refine hd_end (by kernel_rfl) ?_
        clear hC hX_b hY_b hb11_b
        replace h : Ag a 141 [(0, _), (1, _), (6, _), (7, _), (8, _), (9, _), (11, _), (14, _), (15, _)] := h.sub (.cons rfl (.cons rfl (.cons rfl (.cons rfl (.cons rfl (.cons rfl (.cons rfl (.cons rfl (.cons rfl .nil)))))))))
        refine (norm_then ?_)
        refine wp_seq ?_
        refine wp_region_lit ?_
        refine st_move h rfl rfl ?_; clear h a; intro a h
        refine st_loadBA h rfl hb11 ag36 rfl ?_; clear h a; intro a h
        clear hb11
        refine st_bslice [s] h (evs_cons rfl evs_nil) rfl rfl rfl el22 (by decide) rfl ?_; clear h a; intro gN w47 hg hoN hq hz a h
        replace hf := hf.next hq
        replace hX := hX.ext hq
        replace hY := hY.ext hq
        replace hr := hr.ext hq
        clear hq hz hg
        have hbX := hX.blk
        have hbY := hY.blk
        refine st_append h rfl rfl hX hoN.sl el22 (by unfold maxLen; simp; omega) (by simp; omega) (by have := hf.size; omega) rfl ?_; clear h a; intro X3 w48 hX3 hq hx3 a h
        replace hY := hY.fr hq hdis
        replace hr := hr.fr hq hXr
        replace hf := hf.step hq (fun k hk hlt => absurd (hbX k hk).1 (by omega))
        have hdis3 : ∀ k ∈ blks X3, k ∉ blks (.slice YA ys.length yc) := by
          intro k hk
          rcases hx3 with e | e | e
          · rw [e] at hk; exact hdis k hk
          · rw [e] at hk; exact hdis k hk
          · rw [e] at hk; simp at hk; intro hb; have := (hbY k hb).2; omega
        clear hX hbX hbY hq hx3 hdis hXr hoN; have hX := hX3; have hdis := hdis3; clear hX3 hdis3
        refine st_assign h rfl rfl ?_; clear h a; intro a h
        replace h : Ag a 141 [(0, _), (1, _), (6, _), (7, _), (8, _), (9, _), (14, _), (15, _)] := h.sub (.cons rfl (.cons rfl (.cons rfl (.cons rfl (.cons rfl (.cons rfl (.cons rfl (.cons rfl .nil))))))))
        refine wpList_nil (norm_then ?_)
        refine wp_seq ?_
        refine wp_region_lit ?_
        refine st_move h rfl rfl ?_; clear h a; intro a h
        refine st_move h rfl rfl ?_; clear h a; intro a h
        have hbX := hX.blk
        have hbY := hY.blk
        refine st_append h rfl rfl hY hr.sl el68 (by unfold maxLen; omega) (by omega) (by have := hf.size; omega) rfl ?_; clear h a; intro Y3 w49 hY3 hq hx3 a h
        replace hX := hX.fr hq (fun k hk hk2 => hdis k hk2 hk)
        replace hf := hf.step hq (fun k hk hlt => absurd (hbY k hk).1 (by omega))
        have hdis3 : ∀ k ∈ blks X3, k ∉ blks Y3 := by
          intro k hk
          rcases hx3 with e | e | e
          · rw [e]; exact hdis k hk
          · rw [e]; exact hdis k hk
          · rw [e]; have := (hbX k hk).2; simp; omega
        clear hY hbX hbY hq hx3 hdis hr hYr; have hY := hY3; have hdis := hdis3; clear hY3 hdis3
        refine st_assign h rfl rfl ?_; clear h a; intro a h
        replace h : Ag a 141 [(0, _), (1, _), (6, _), (7, _), (8, _), (9, _), (14, _)] := h.sub (.cons rfl (.cons rfl (.cons rfl (.cons rfl (.cons rfl (.cons rfl (.cons rfl .nil)))))))
        refine wpList_nil (norm_then ?_)
        refine wp_region_lit ?_
        refine st_move h rfl rfl ?_; clear h a; intro a h
        refine st_move h rfl rfl ?_; clear h a; intro a h
        refine st_add h rfl rfl (by first | exact IntWalk.i64_in _ (by omega) | rfl) rfl ?_; clear h a; intro a h
        refine st_assign h rfl rfl ?_; clear h a; intro a h
        replace h : Ag a 141 [(0, _), (1, _), (6, _), (7, _), (8, _), (9, _)] := h.sub (.cons rfl (.cons rfl (.cons rfl (.cons rfl (.cons rfl (.cons rfl .nil))))))
        refine wpList_nil (norm_blk (norm_then ?_))
        refine wp_region_lit ?_
        refine st_move h rfl rfl ?_; clear h a; intro a h
        refine st_add h rfl rfl (by first | exact IntWalk.i64_in _ (by omega) | rfl) rfl ?_; clear h a; intro a h
        refine st_assign h rfl rfl ?_; clear h a; intro a h
        replace h : Ag a 141 [(0, _), (1, _), (6, _), (7, _), (8, _), (9, _)] := h.sub (.cons rfl (.cons rfl (.cons rfl (.cons rfl (.cons rfl (.cons rfl .nil))))))
        refine wpList_nil (norm_then ?_)
        exact ⟨⟨i + (needsS s).toNat, xs ++ [s], ys ++ (loadsS s ((ls.drop i).take (needsS s).toNat)).1, _, _⟩, h.sub (.cons rfl (.cons rfl (.cons rfl (.cons rfl (.cons (by show some (Value.int IntKind.i64 ((i : Int) + needsS s)) = some (Value.int IntKind.i64 ((i + (needsS s).toNat : Nat) : Int)); congr 2; omega) (.cons (by show some (Value.int IntKind.i64 ((xs.length : Int) + 1)) = some (Value.int IntKind.i64 (((xs ++ [s]).length : Nat) : Int)); rw [List.length_append]; rfl) .nil)))))), ⟨by simp only; omega, hX, hY, hdis, by simp [hok, (okB_iff s).2 hfit.1], all_app hfy hfz, by simp only [List.length_append, List.length_singleton]; omega, by simp only [List.length_append]; omega, by simp, hf⟩, by simp only [List.length_append]; omega⟩
  · obtain rfl : i = ls.length := by omega
    refine wp_exit (exit_then (exit_then (exit_here (norm_then ?_))))
    refine wp_seq ?_
    refine wp_region_lit ?_
    refine st_move h rfl rfl ?_; clear h a; intro a h
    refine st_move h rfl rfl ?_; clear h a; intro a h
    refine st_assign h rfl rfl ?_; clear h a; intro a h
    refine st_assign h rfl rfl ?_; clear h a; intro a h
    replace h : Ag a 141 [(4, _), (5, _)] := h.sub (.cons rfl (.cons rfl .nil))
    refine wpList_nil (norm_then ?_)
    refine wp_ret ?_
    refine ret2 h Tryd.results32 rfl rfl ?_
    exact ⟨_, rfl, X, _, xs, ys, rfl, hX, hY, hdis, fun e => by have := hne e; omega, hok, by omega, hfy, by have : xs ≠ [] := fun e => (by have := hne e; omega); have := List.length_pos_iff.2 this; omega, by omega, hf⟩
end Go.Proofs.YtbbnampdgefljaaDoor
