/- Texts of the proof, joined: W28 XReadLaw W29 XOpen Opens -/
import Derived.Test.YtbbnampdgefljaaDoorRows
import Derived.Test.YtbbnampdgefljaaDoorR5
set_option linter.unusedVariables false
set_option linter.unusedSimpArgs false
namespace Go.Proofs.YtbbnampdgefljaaDoor
open Go.Lw Go.G14
theorem co34 : CallOf Tryd.prog 34 := CallOf.mk' Tryd.func34 (by kernel_rfl) (by kernel_rfl)
theorem co35 : CallOf Tryd.prog 35 := CallOf.mk' Tryd.func35 (by kernel_rfl) (by kernel_rfl)
theorem co36 : CallOf Tryd.prog 36 := CallOf.mk' Tryd.func36 (by kernel_rfl) (by kernel_rfl)
theorem co37 : CallOf Tryd.prog 37 := CallOf.mk' Tryd.func37 (by kernel_rfl) (by kernel_rfl)
theorem co38 : CallOf Tryd.prog 38 := CallOf.mk' Tryd.func38 (by kernel_rfl) (by kernel_rfl)
theorem sz45 : SizeOf Tryd.prog 45 1 := fun _ => by kernel_rfl
theorem zv45 (w : World) : (zeroValue 45).run Tryd.prog w = .ok (.agg #[(.slice none 0 0)]) w := by kernel_rfl
set_option maxHeartbeats 1000000 in
theorem read_chart_ok (l : List UInt8) (w0 : World) (hy : Sym w0) (hm : IntAt 1 w0) (hl : l.length < 4294967281) : Rets Tryd.prog 20 #[S l] w0 fun v w' => ∃ A m c n e, v = .tuple #[.agg #[.slice A m c], .int .i64 n, .int .i64 e] ∧ ((rdS (l.length + 1) l 1 []).2.2 ≠ 0 → n = (rdS (l.length + 1) l 1 []).2.1 ∧ e = (rdS (l.length + 1) l 1 []).2.2 ∧ m = 0) ∧ ((rdS (l.length + 1) l 1 []).2.2 = 0 → n = 0 ∧ e = chartE (rdS (l.length + 1) l 1 []).1.reverse ∧ (e ≠ 0 → m = 0) ∧ (e = 0 → m = c ∧ Sll encSt w' (.slice A m c) (rdS (l.length + 1) l 1 []).1.reverse)) ∧ Fr [] w0 w' := by
  have h00 := hy.pos
  have h01 := hm.lt
  refine enter [(0, S l)] Tryd.func20 rfl Tryd.ntmps20 rfl (.cons rfl .nil) ?_
  have hf := Fr.refl [] w0
  intro a h
  refine wp_seq ?_
  refine wp_region_lit ?_
  refine st_alloc h zv45 rfl rfl ?_; clear h a; intro w1 hb2 hq hz a h
  obtain ⟨g_2, hg⟩ : ∃ g, g = w0.heap.size := ⟨_, rfl⟩; rw [← hg] at hb2 h hz
  have hl2 : w0.heap.size ≤ g_2 := by have := hf.size; omega
  replace hf := hf.next hq
  replace hy := hy.ext hq
  replace hm := hm.ext hq
  clear hq hz hg
  refine st_assign h rfl rfl ?_; clear h a; intro a h
  refine st_assign h rfl rfl ?_; clear h a; intro a h
  replace h : Ag a 64 [(0, _), (2, _)] := h.sub (.cons rfl (.cons rfl .nil))
  refine wpList_nil (norm_then ?_)
  refine wp_seq ?_
  refine wp_region_lit ?_
  refine st_assign h rfl rfl ?_; clear h a; intro a h
  refine wpList_nil (norm_then ?_)
  refine wp_seq ?_
  refine wp_seq ?_
  refine wp_region_lit ?_
  refine st_assign h rfl rfl ?_; clear h a; intro a h
  refine wpList_nil (norm_then ?_)
  refine wp_block ?_
  refine loop (ι := ReSt) (fun z => [(0, S z.s), (2, .pointer (some ⟨g_2, 0, none⟩)), (5, z.OV), (6, .int .i64 z.n)]) (fun z w' => rdS z.f z.s z.n (z.ps.map Prod.snd) = rdS (l.length + 1) l 1 [] ∧ z.s.length < z.f ∧ z.s.length ≤ l.length ∧ 1 ≤ z.n ∧ z.n + z.s.length ≤ l.length + 1 ∧ z.ps.length ≤ 32 ∧ Rws encSt 22 36 (g_2 + 1) w' z.OV z.ps ∧ Blk w' g_2 45 [.slice none 0 0] ∧ Sym w' ∧ IntAt 1 w' ∧ Fr [] w0 w') (fun z => z.s.length) ⟨l.length + 1, l, 1, .slice none 0 0, []⟩ (h.sub (.cons rfl (.cons rfl (.cons rfl (.cons rfl .nil))))) ⟨rfl, by simp, Nat.le_refl _, by simp, by simp only; omega, by simp, Rws.nil _, hb2, hy, hm, hf⟩ ?_
  clear h a hf hy hm hb2
  rintro ⟨f, s, n, OV, ps⟩ w2 a h ⟨hrd, hsf, hsl, hn1, hnl, hps, hR, hb2, hy, hm, hf⟩
  simp only at hrd hsf hsl hn1 hnl hps hR h
  obtain ⟨f', rfl⟩ : ∃ k, f = k + 1 := ⟨f - 1, by omega⟩
  refine wp_seq ?_
  refine wp_seq ?_
  refine wp_region_lit ?_
  refine st_move h rfl rfl ?_; clear h a; intro a h
  refine st_nes h rfl rfl rfl ?_; clear h a; intro a h
  replace h : Ag a 64 [(0, _), (2, _), (5, _), (6, _), (15, _)] := h.sub (.cons rfl (.cons rfl (.cons rfl (.cons rfl (.cons rfl .nil)))))
  refine wpList_nil (norm_then ?_)
  first | refine cond_dec h rfl (fun c0 => ?_) (fun c0 => ?_) | refine cond_ndec h rfl (fun c0 => ?_) (fun c0 => ?_) | refine cond_split h rfl (fun c0 => ?_) (fun c0 => ?_)
  · have hcl := cut_len s [10]
    refine wp_skip (norm_then ?_)
    refine wp_seq ?_
    refine wp_block ?_
    refine wp_seq ?_
    refine wp_region_lit ?_
    refine st_move h rfl rfl ?_; clear h a; intro a h
    refine st_call h (evs_cons rfl (evs_cons rfl evs_nil)) co33 (scut_ok _ _ _ hm (by omega)) rfl ?_; clear h a; rintro _ w3 ⟨rfl, hq⟩ a h
    replace hf := hf.next hq
    replace hy := hy.ext hq
    replace hm := hm.ext hq
    replace hb2 := hb2.ext hq
    replace hR := hR.ext hq
    clear hq
    refine st_move h rfl rfl ?_; clear h a; intro a h
    refine st_extract h rfl rfl rfl ?_; clear h a; intro a h
    refine st_extract h rfl rfl rfl ?_; clear h a; intro a h
    refine st_extract h rfl rfl rfl ?_; clear h a; intro a h
    refine st_assign h rfl rfl ?_; clear h a; intro a h
    refine st_assign h rfl rfl ?_; clear h a; intro a h
    refine st_assign h rfl rfl ?_; clear h a; intro a h
    replace h : Ag a 64 [(2, _), (5, _), (6, _), (7, _), (8, _), (9, _)] := h.sub (.cons rfl (.cons rfl (.cons rfl (.cons rfl (.cons rfl (.cons rfl .nil))))))
    refine wpList_nil (norm_then ?_)
    refine wp_seq ?_
    refine wp_region_lit ?_
    refine st_move h rfl rfl ?_; clear h a; intro a h
    refine st_call h (evs_cons rfl evs_nil) co34 (readline_ok _ _ hy hm (by omega)) rfl ?_; clear h a; rintro _ w4 ⟨x, t, rfl, rfl, hxo, hq⟩ a h
    have hOb := hR.bnd
    have hb2l := hb2.lt
    replace hf := hf.next hq
    replace hy := hy.ext hq
    replace hm := hm.ext hq
    replace hb2 := hb2.ext hq
    replace hR := hR.ext hq
    have hxO : (lineR (Lib.cut s [10]).1).2 ≠ 0 → ∀ k ∈ blks x, k ∉ blks OV := fun e k hk hk2 => by have := ((hxo e).blk k hk).1; have := hOb.1 k hk2; omega
    replace hxo : (lineR (Lib.cut s [10]).1).2 ≠ 0 → Own encSt 36 (g_2 + 1) w4 x (lineR (Lib.cut s [10]).1).1 := fun e => (hxo e).low (by omega)
    clear hq hOb hb2l
    refine st_move h rfl rfl ?_; clear h a; intro a h
    refine st_extract h rfl rfl rfl ?_; clear h a; intro a h
    refine st_extract h rfl rfl rfl ?_; clear h a; intro a h
    refine st_assign h rfl rfl ?_; clear h a; intro a h
    refine st_assign h rfl rfl ?_; clear h a; intro a h
    replace h : Ag a 64 [(2, _), (5, _), (6, _), (8, _), (9, _), (10, _), (11, _)] := h.sub (.cons rfl (.cons rfl (.cons rfl (.cons rfl (.cons rfl (.cons rfl (.cons rfl .nil)))))))
    refine wpList_nil (norm_then ?_)
    refine wp_seq ?_
    refine wp_seq ?_
    refine region_bool (r := 34) (L' := [(2, _), (5, _), (6, _), (8, _), (10, _), (11, _)]) ((Lib.cut s [10]).2.2 = false ∨ (lineR (Lib.cut s [10]).1).2 = 0) h (.cons rfl (.cons rfl (.cons rfl (.cons rfl (.cons rfl (.cons rfl .nil)))))) ?_ ?_
    · refine id ?_
      refine st_move h rfl rfl ?_; clear h a; intro a h
      refine st_not h rfl rfl ?_; clear h a; intro a h
      refine st_move h rfl rfl ?_; clear h a; intro a h
      first | refine guard_dec (D := 31) h rfl ?_ ?_ | refine guard_ndec (D := 31) h rfl ?_ ?_ | refine guard_any (D := 31) h rfl ?_ ?_
      · clear h; intro g0 h
        refine gd_no h rfl rfl rfl rfl rfl rfl rfl rfl ?_; clear h a; intro a h
        refine gd_no h rfl rfl rfl rfl rfl rfl rfl rfl ?_; clear h a; intro a h
        refine st_pick_t h rfl rfl rfl rfl ?_; clear h a; intro a h
        exact wpList_nil (bool_end h rfl (by first | exact bt (.inl (by simpa using g0)) | exact bi ⟨fun e => .inr e, fun e => e.resolve_left (by simpa using g0)⟩) (.cons rfl (.cons rfl (.cons rfl (.cons rfl (.cons rfl (.cons rfl .nil)))))))
      · clear h; intro g0 h
        refine gd_yes h rfl rfl rfl rfl rfl rfl ?_
        refine st_move h rfl rfl ?_; clear h a; intro a h
        refine gd_yes h rfl rfl rfl rfl rfl rfl ?_
        refine st_eq h rfl rfl rfl ?_; clear h a; intro a h
        refine st_pick_f h rfl rfl rfl rfl ?_; clear h a; intro a h
        exact wpList_nil (bool_end h rfl (by first | exact bt (.inl (by simpa using g0)) | exact bi ⟨fun e => .inr e, fun e => e.resolve_left (by simpa using g0)⟩) (.cons rfl (.cons rfl (.cons rfl (.cons rfl (.cons rfl (.cons rfl .nil)))))))
    · clear h a; intro a h
      refine (norm_then ?_)
      first | refine cond_dec h rfl (fun c1 => ?_) (fun c1 => ?_) | refine cond_ndec h rfl (fun c1 => ?_) (fun c1 => ?_) | refine cond_split h rfl (fun c1 => ?_) (fun c1 => ?_)
      · have hbadl : (Lib.cut s [10]).2.2 = false ∨ (lineR (Lib.cut s [10]).1).2 = 0 := c1
        rw [rd_bad c0 hbadl] at hrd
        refine wp_seq ?_
        refine wp_region_lit ?_
        refine st_lit (cs := [_]) h evs_nil bo45 pok_nil rfl rfl ?_; clear h a; intro a h
        refine st_move h rfl rfl ?_; clear h a; intro a h
        refine st_storeBA h rfl rfl hb2 rfl (by first | (simp [Value.oneCell', S]; done) | exact Enc.one _ _) sz45 ?_; clear h a; intro w5 hbn hq hz a h
        replace hf := hf.step hq (by first | (simp; done) | (simp; omega))
        replace hy := hy.fr hq (by first | (simp; done) | (simp; omega) | (simp [blks]; done) | (simp [blks]; omega))
        replace hm := hm.fr hq (by first | (simp; done) | (simp; omega) | (simp [blks]; done) | (simp [blks]; omega))
        replace hR := hR.fr hq (by first | (simp; done) | (simp; omega) | (simp [blks]; done) | (simp [blks]; omega))
        clear hb2 hq hz; have hb2 : Blk w5 g_2 _ [_] := hbn; clear hbn
        refine st_assign h rfl rfl ?_; clear h a; intro a h
        refine st_assign h rfl rfl ?_; clear h a; intro a h
        replace h : Ag a 64 [(2, _), (3, _), (4, _)] := h.sub (.cons rfl (.cons rfl (.cons rfl .nil)))
        refine wpList_nil (norm_then ?_)
        refine wp_ret (ret_then (ret_blk (ret_then (ret_then (ret_blk (ret_then ?_))))))
        refine retCTT h Tryd.results20 rfl hb2 ag45 rfl rfl ?_
        exact ⟨_, rfl, _, _, _, _, _, rfl, fun _ => by rw [← hrd]; exact ⟨rfl, rfl, rfl⟩, fun e => by rw [← hrd] at e; exact absurd e (by simp), hf⟩
      · have hgood : ¬ ((Lib.cut s [10]).2.2 = false ∨ (lineR (Lib.cut s [10]).1).2 = 0) := c1
        have ht0 : (lineR (Lib.cut s [10]).1).2 ≠ 0 := fun e => hgood (.inr e)
        have htr := lineR_rng (Lib.cut s [10]).1
        have hx := hxo ht0
        obtain ⟨hrne, hrok, hr16⟩ := lineR_row ht0
        replace hxO := hxO ht0
        have hfound : (Lib.cut s [10]).2.2 = true := by cases e : (Lib.cut s [10]).2.2 with | true => rfl | false => exact absurd (.inl e) hgood
        have hcut := congrArg List.length (cut_ten hfound)
        simp only [List.length_append, List.length_cons] at hcut
        obtain ⟨row, hrow⟩ : ∃ r, r = (lineR (Lib.cut s [10]).1).1 := ⟨_, rfl⟩
        rw [← hrow] at hx hrne hrok hr16
        obtain ⟨OA, oc, e, hoc⟩ := hR.out.sl.form
        rw [List.length_map] at e hoc
        subst e
        refine wp_skip (norm_then ?_)
        refine wp_seq ?_
        refine wp_seq ?_
        refine wp_region_lit ?_
        refine st_move h rfl rfl ?_; clear h a; intro a h
        refine st_move h rfl rfl ?_; clear h a; intro a h
        refine st_lenS h rfl Tryd.underlying43 rfl ?_; clear h a; intro a h
        refine st_sub h rfl rfl (by first | exact IntWalk.i64_in _ (by omega) | rfl) rfl ?_; clear h a; intro a h
        refine st_min h rfl rfl rfl ?_; clear h a; intro a h
        refine st_move h rfl rfl ?_; clear h a; intro a h
        replace h : Ag a 64 [(2, _), (5, _), (6, _), (8, _), (10, _), (41, _), (42, _)] := h.sub (.cons rfl (.cons rfl (.cons rfl (.cons rfl (.cons rfl (.cons rfl (.cons rfl .nil)))))))
        refine wpList_nil (norm_then ?_)
        refine wp_block ?_
        refine loop (ι := CpSt) (fun z => [(2, .pointer (some ⟨g_2, 0, none⟩)), (5, z.OV), (6, .int .i64 n), (8, S (Lib.cut s [10]).2.1), (10, x), (41, .int .i64 (min (lineR (Lib.cut s [10]).1).2 (32 - (ps.length : Int)))), (42, .int .i64 (z.j : Int))]) (fun z w' => (z.j : Int) ≤ min (lineR (Lib.cut s [10]).1).2 (32 - (ps.length : Int)) ∧ (z.ps.map Prod.snd) = (ps.map Prod.snd) ++ List.replicate z.j row ∧ z.ps.length = ps.length + z.j ∧ Rws encSt 22 36 (g_2 + 1) w' z.OV z.ps ∧ Own encSt 36 (g_2 + 1) w' x row ∧ (∀ k ∈ blks x, k ∉ blks z.OV) ∧ Blk w' g_2 45 [.slice none 0 0] ∧ Sym w' ∧ IntAt 1 w' ∧ Fr [] w0 w') (fun z => (min (lineR (Lib.cut s [10]).1).2 (32 - (ps.length : Int))).toNat - z.j) ⟨0, _, ps⟩ (h.sub (.cons rfl (.cons rfl (.cons rfl (.cons rfl (.cons rfl (.cons rfl (.cons rfl .nil)))))))) ⟨by simp only; omega, by simp, rfl, hR, hx, hxO, hb2, hy, hm, hf⟩ ?_
        clear h a hf hy hm hb2 hR hx hxO
        rintro ⟨j, OV2, ps2⟩ w6 a h ⟨hj, hmp, hpl, hR, hx, hxO, hb2, hy, hm, hf⟩
        simp only at hj hmp hpl hR hxO h
        refine wp_seq ?_
        refine wp_region_lit ?_
        refine st_lt h rfl rfl rfl ?_; clear h a; intro a h
        refine wpList_nil (norm_then ?_)
        refine wp_seq ?_
        first | refine cond_dec h rfl (fun c2 => ?_) (fun c2 => ?_) | refine cond_ndec h rfl (fun c2 => ?_) (fun c2 => ?_) | refine cond_split h rfl (fun c2 => ?_) (fun c2 => ?_)
        · refine id ?_
          refine wp_skip (norm_then ?_)
          refine wp_seq ?_
          refine wp_block ?_
          refine wp_region_lit ?_
          refine st_move h rfl rfl ?_; clear h a; intro a h
          refine st_move h rfl rfl ?_; clear h a; intro a h
          have hOb := hR.bnd
          have hfsz := hf.size
          have hb2l := hb2.lt
          refine st_call h (evs_cons rfl evs_nil) co35 (clone_ok _ row _ hx.sl hrne hr16) rfl ?_; clear h a; rintro X w7 ⟨hX, hq⟩ a h
          have hXO : ∀ k ∈ blks X, k ∉ blks OV2 := fun k hk hk2 => by have := (hX.blk k hk).1; have := hOb.1 k hk2; omega
          replace hX := hX.low (show g_2 + 1 ≤ _ by omega)
          replace hf := hf.next hq
          replace hy := hy.ext hq
          replace hm := hm.ext hq
          replace hb2 := hb2.ext hq
          replace hR := hR.ext hq
          replace hx := hx.ext hq
          clear hq hOb hfsz hb2l
          obtain ⟨XA, xc, rfl, hxc⟩ := hX.sl.form
          refine st_call h (evs_cons rfl evs_nil) co26 (clip_ok _ _ _ _ hxc) rfl ?_; clear h a; rintro _ _ ⟨rfl, rfl⟩ a h
          replace hX := hX.take rfl (m := row.length) (Nat.le_refl _) hxc (Nat.le_refl _)
          rw [List.take_length] at hX
          refine st_bslice [((XA, row.length, row.length) : SV)] h (evs_cons rfl evs_nil) rfl rfl rfl el43 (by decide) rfl ?_; clear h a; intro gV w8 hg hoV hq hz a h
          replace hf := hf.next hq
          replace hy := hy.ext hq
          replace hm := hm.ext hq
          replace hb2 := hb2.ext hq
          replace hR := hR.ext hq
          replace hx := hx.ext hq
          replace hX := hX.ext hq
          clear hq hz hg
          have hbO := hR.out.blk
          refine st_append h rfl rfl hR.out hoV.sl el43 (by unfold maxLen; simp; omega) (by simp; omega) (by have := hb2.lt; omega) rfl ?_; clear h a; intro O3 w9 ho3 hq hx3 a h
          replace hR := hR.push (u := (XA, row.length, row.length)) hX (fun k hk hk2 => hXO k (by rw [blks_any XA _ _ row.length row.length]; exact hk) hk2) ho3 hq hx3
          have hxO3 : ∀ k ∈ blks x, k ∉ blks O3 := by
            intro k hk
            rcases hx3 with e | e | e
            · rw [e]; exact hxO k hk
            · rw [e]; exact hxO k hk
            · rw [e]; have := (hx.blk k hk).2; simp; omega
          replace hx := hx.fr hq (fun k hk hb => hxO k hb hk)
          replace hb2 := hb2.fr hq (fun hb => by have := (hbO _ hb).1; omega)
          replace hy := hy.fr hq (fun hb => by have := (hbO _ hb).1; omega)
          replace hm := hm.fr hq (fun hb => by have := (hbO _ hb).1; omega)
          replace hf := hf.step hq (fun k hk hlt => absurd (hbO k hk).1 (by omega))
          clear hq hx3 hoV hbO ho3 hX hXO hxO; have hxO := hxO3; clear hxO3
          refine st_assign h rfl rfl ?_; clear h a; intro a h
          replace h : Ag a 64 [(2, _), (5, _), (6, _), (8, _), (10, _), (41, _), (42, _)] := h.sub (.cons rfl (.cons rfl (.cons rfl (.cons rfl (.cons rfl (.cons rfl (.cons rfl .nil)))))))
          refine wpList_nil (norm_blk (norm_then ?_))
          refine wp_region_lit ?_
          refine st_add h rfl rfl (by first | exact IntWalk.i64_in _ (by omega) | rfl) rfl ?_; clear h a; intro a h
          refine st_move h rfl rfl ?_; clear h a; intro a h
          replace h : Ag a 64 [(2, _), (5, _), (6, _), (8, _), (10, _), (41, _), (42, _)] := h.sub (.cons rfl (.cons rfl (.cons rfl (.cons rfl (.cons rfl (.cons rfl (.cons rfl .nil)))))))
          refine wpList_nil (norm_then ?_)
          exact ⟨⟨j + 1, O3, ps2 ++ [((XA, row.length, row.length), row)]⟩, h.sub (.cons rfl (.cons rfl (.cons rfl (.cons rfl (.cons rfl (.cons rfl (.cons rfl .nil))))))), ⟨by simp only; omega, by simp [hmp, List.replicate_succ'], by simp [hpl]; omega, hR, hx, hxO, hb2, hy, hm, hf⟩, by simp only; omega⟩
        · have hjm : (j : Int) = min (lineR (Lib.cut s [10]).1).2 (32 - (ps.length : Int)) := by omega
          have hps2 : ps2.length ≤ 32 := by omega
          rw [show j = (min (lineR (Lib.cut s [10]).1).2 (32 - (ps.length : Int))).toNat by omega, hrow] at hmp
          refine wp_exit (exit_then (exit_then (exit_here (norm_then ?_))))
          refine wp_region_lit ?_
          refine st_move h rfl rfl ?_; clear h a; intro a h
          refine st_assign h rfl rfl ?_; clear h a; intro a h
          replace h : Ag a 64 [(0, _), (2, _), (5, _), (6, _)] := h.sub (.cons rfl (.cons rfl (.cons rfl (.cons rfl .nil))))
          refine wpList_nil (norm_blk (norm_then ?_))
          refine wp_region_lit ?_
          refine st_move h rfl rfl ?_; clear h a; intro a h
          refine st_add h rfl rfl (by first | exact IntWalk.i64_in _ (by omega) | rfl) rfl ?_; clear h a; intro a h
          refine st_assign h rfl rfl ?_; clear h a; intro a h
          replace h : Ag a 64 [(0, _), (2, _), (5, _), (6, _)] := h.sub (.cons rfl (.cons rfl (.cons rfl (.cons rfl .nil))))
          refine wpList_nil (norm_then ?_)
          exact ⟨⟨f', (Lib.cut s [10]).2.1, n + 1, OV2, ps2⟩, h.sub (.cons rfl (.cons rfl (.cons rfl (.cons rfl .nil)))), ⟨by rw [← hrd, rd_next c0 hgood, hmp, List.length_map], by simp only; omega, by simp only; omega, by simp only; omega, by simp only; omega, hps2, hR, hb2, hy, hm, hf⟩, by simp only; omega⟩
  · obtain rfl : s = [] := Decidable.not_not.1 c0
    rw [rd_done] at hrd
    refine wp_exit (exit_then (exit_then (exit_here (norm_then ?_))))
    refine wp_seq ?_
    refine wp_region_lit ?_
    refine st_move h rfl rfl ?_; clear h a; intro a h
    have hbO := hR.out.blk
    refine st_call h (evs_cons rfl evs_nil) co36 (reverse_ok _ _ _ _ hR.out) rfl ?_; clear h a; rintro _ w10 ⟨ho3, hq⟩ a h
    replace hR := hR.rev ho3 hq
    replace hb2 := hb2.fr hq (fun hb => by have := (hbO _ hb).1; omega)
    replace hf := hf.step hq (fun k hk hlt => absurd (hbO k hk).1 (by omega))
    clear hq ho3 hbO hy hm
    obtain ⟨OA, oc, rfl, hoc⟩ := hR.out.sl.form
    rw [List.length_map] at hoc hR h
    replace h : Ag a 64 [(2, _), (5, _)] := h.sub (.cons rfl (.cons rfl .nil))
    refine wpList_nil (norm_then ?_)
    refine wp_seq ?_
    refine wp_region_lit ?_
    refine st_move h rfl rfl ?_; clear h a; intro a h
    refine st_call h (evs_cons rfl evs_nil) co37 (clipr_ok _ _ _ _ hoc) rfl ?_; clear h a; rintro _ _ ⟨rfl, rfl⟩ a h
    replace hR := hR.clip
    obtain ⟨gZ, hgz'⟩ : ∃ g, g = w10.heap.size := ⟨_, rfl⟩
    have hRA : RAll gZ (.slice OA ps.reverse.length ps.reverse.length) ps.reverse := by rw [hgz']; exact hR.bnd
    have hgz : gZ ≤ w10.heap.size := by omega
    refine st_lit (cs := [_]) h (evs_cons rfl evs_nil) bo45 (pok_cons rfl rfl rfl pok_nil) rfl rfl ?_; clear h a; intro a h
    refine st_alloc h zv45 rfl rfl ?_; clear h a; intro w11 hb12 hq hz a h
    obtain ⟨g_12, hg⟩ : ∃ g, g = w10.heap.size := ⟨_, rfl⟩; rw [← hg] at hb12 h hz
    have hl12 : w0.heap.size ≤ g_12 := by have := hf.size; omega
    have hn_2_12 : g_2 < g_12 := by have := hb2.lt; omega
    have hl_hgz_12 : gZ ≤ g_12 := by omega
    replace hf := hf.next hq
    replace hb2 := hb2.ext hq
    first | (replace hR := hR.up hq hRA (by first | (simp; done) | (simp; omega))) | (replace hR := hR.fr hq (by first | (simp; done) | (simp; omega)))
    replace hgz := Nat.le_trans hgz hq.size
    clear hq hz hg
    refine st_storeBA h rfl rfl hb12 rfl (by first | (simp [Value.oneCell', S]; done) | exact Enc.one _ _) sz45 ?_; clear h a; intro w12 hbn hq hz a h
    replace hf := hf.step hq (by first | (simp; done) | (simp; omega))
    replace hb2 := hb2.fr hq (by first | (simp; done) | (simp; omega) | (simp [blks]; done) | (simp [blks]; omega))
    first | (replace hR := hR.up hq hRA (by first | (simp; done) | (simp; omega))) | (replace hR := hR.fr hq (by first | (simp; done) | (simp; omega)))
    replace hgz := Nat.le_trans hgz hq.size
    clear hb12 hq hz; have hb12 : Blk w12 g_12 _ [_] := hbn; clear hbn
    replace h : Ag a 64 [(2, _), (12, _)] := h.sub (.cons rfl (.cons rfl .nil))
    refine wpList_nil (norm_then ?_)
    refine wp_seq ?_
    refine wp_seq ?_
    refine wp_region_lit ?_
    refine st_loadBA h rfl hb12 ag45 rfl ?_; clear h a; intro a h
    refine st_call h (evs_cons rfl evs_nil) co38 (check_chart_ok _ _ _ hR.sll) rfl ?_; clear h a; rintro _ w13 ⟨rfl, hq⟩ a h
    replace hf := hf.next hq
    replace hb2 := hb2.ext hq
    first | (replace hR := hR.up hq hRA (by first | (simp; done) | (simp; omega))) | (replace hR := hR.fr hq (by first | (simp; done) | (simp; omega)))
    replace hgz := Nat.le_trans hgz hq.size
    replace hb12 := hb12.ext hq
    clear hq
    refine st_assign h rfl rfl ?_; clear h a; intro a h
    replace h : Ag a 64 [(2, _), (12, _), (13, _)] := h.sub (.cons rfl (.cons rfl (.cons rfl .nil)))
    refine wpList_nil (norm_then ?_)
    refine wp_seq ?_
    refine wp_region_lit ?_
    refine st_move h rfl rfl ?_; clear h a; intro a h
    refine st_ne h rfl rfl rfl ?_; clear h a; intro a h
    replace h : Ag a 64 [(2, _), (12, _), (13, _), (60, _)] := h.sub (.cons rfl (.cons rfl (.cons rfl (.cons rfl .nil))))
    refine wpList_nil (norm_then ?_)
    first | refine cond_dec h rfl (fun c3 => ?_) (fun c3 => ?_) | refine cond_ndec h rfl (fun c3 => ?_) (fun c3 => ?_) | refine cond_split h rfl (fun c3 => ?_) (fun c3 => ?_)
    · refine id ?_
      refine wp_seq ?_
      refine wp_region_lit ?_
      refine st_lit (cs := [_]) h evs_nil bo45 pok_nil rfl rfl ?_; clear h a; intro a h
      refine st_move h rfl rfl ?_; clear h a; intro a h
      refine st_storeBA h rfl rfl hb2 rfl (by first | (simp [Value.oneCell', S]; done) | exact Enc.one _ _) sz45 ?_; clear h a; intro w14 hbn hq hz a h
      replace hf := hf.step hq (by first | (simp; done) | (simp; omega))
      first | (replace hR := hR.up hq hRA (by first | (simp; done) | (simp; omega))) | (replace hR := hR.fr hq (by first | (simp; done) | (simp; omega)))
      replace hgz := Nat.le_trans hgz hq.size
      replace hb12 := hb12.fr hq (by first | (simp; done) | (simp; omega) | (simp [blks]; done) | (simp [blks]; omega))
      clear hb2 hq hz; have hb2 : Blk w14 g_2 _ [_] := hbn; clear hbn
      refine st_assign h rfl rfl ?_; clear h a; intro a h
      refine st_assign h rfl rfl ?_; clear h a; intro a h
      replace h : Ag a 64 [(2, _), (3, _), (4, _)] := h.sub (.cons rfl (.cons rfl (.cons rfl .nil)))
      refine wpList_nil (norm_then ?_)
      refine wp_ret (ret_then ?_)
      refine retCTT h Tryd.results20 rfl hb2 ag45 rfl rfl ?_
      exact ⟨_, rfl, _, _, _, _, _, rfl, fun e => by rw [← hrd] at e; exact absurd rfl e, fun _ => by rw [← hrd]; exact ⟨rfl, by rw [← List.map_reverse], fun _ => rfl, fun e => absurd e c3⟩, hf⟩
    · refine id ?_
      refine wp_skip (norm_then ?_)
      refine wp_seq ?_
      refine wp_region_lit ?_
      refine st_loadBA h rfl hb12 ag45 rfl ?_; clear h a; intro a h
      refine st_storeBA h rfl rfl hb2 rfl (by first | (simp [Value.oneCell', S]; done) | exact Enc.one _ _) sz45 ?_; clear h a; intro w15 hbn hq hz a h
      replace hf := hf.step hq (by first | (simp; done) | (simp; omega))
      first | (replace hR := hR.up hq hRA (by first | (simp; done) | (simp; omega))) | (replace hR := hR.fr hq (by first | (simp; done) | (simp; omega)))
      replace hgz := Nat.le_trans hgz hq.size
      replace hb12 := hb12.fr hq (by first | (simp; done) | (simp; omega) | (simp [blks]; done) | (simp [blks]; omega))
      clear hb2 hq hz; have hb2 : Blk w15 g_2 _ [_] := hbn; clear hbn
      refine st_assign h rfl rfl ?_; clear h a; intro a h
      refine st_assign h rfl rfl ?_; clear h a; intro a h
      replace h : Ag a 64 [(2, _), (3, _), (4, _)] := h.sub (.cons rfl (.cons rfl (.cons rfl .nil)))
      refine wpList_nil (norm_then ?_)
      refine wp_ret ?_
      refine retCTT h Tryd.results20 rfl hb2 ag45 rfl rfl ?_
      exact ⟨_, rfl, _, _, _, _, _, rfl, fun e => by rw [← hrd] at e; exact absurd rfl e, fun _ => by rw [← hrd]; exact ⟨rfl, by rw [← List.map_reverse]; exact (Decidable.not_not.1 c3).symm, fun e => absurd rfl e, fun _ => ⟨rfl, by rw [← List.map_reverse]; exact hR.sll⟩⟩, hf⟩
end Go.Proofs.YtbbnampdgefljaaDoor
namespace Go.G14
open Go.Lw

def textOf (ls : List (List UInt8)) : List UInt8 := ls.flatMap (· ++ [10])
def rowsOf (ls : List (List UInt8)) : List (List Stitch) := ls.flatMap fun x => List.replicate (lineR x).2.toNat (lineR x).1
/-- The number of the first line that is wrong, or 0. -/
def badS : List (List UInt8) → Int
  | [] => 0
  | x :: r => if (lineR x).2 = 0 then 1 else if badS r = 0 then 0 else badS r + 1
theorem badS_nonneg : ∀ ls, 0 ≤ badS ls ∧ badS ls ≤ ls.length
  | [] => by simp [badS]
  | x :: r => by
    have := badS_nonneg r
    unfold badS
    (repeat' split) <;> simp <;> omega
theorem badS_snoc : ∀ (ls : List (List UInt8)) (x : List UInt8), badS (ls ++ [x]) = if badS ls = 0 then (if (lineR x).2 = 0 then (ls.length : Int) + 1 else 0) else badS ls
  | [], x => by simp [badS]
  | y :: r, x => by
    rw [List.cons_append, badS, badS, badS_snoc r x]
    have hr := badS_nonneg r
    by_cases h1 : (lineR y).2 = 0
    · simp [h1]
    · rw [if_neg h1, if_neg h1]
      by_cases h2 : badS r = 0
      · rw [if_pos h2, if_pos h2]
        by_cases h3 : (lineR x).2 = 0
        · rw [if_pos h3, if_neg (by omega)]; simp [h3]
        · rw [if_neg h3]; simp [h3]
      · simp only [if_neg h2]
        rw [if_neg (show ¬ badS r + 1 = 0 by omega)]
theorem rowsOf_snoc (ls : List (List UInt8)) (x : List UInt8) : (rowsOf (ls ++ [x])).reverse = List.replicate (lineR x).2.toNat (lineR x).1 ++ (rowsOf ls).reverse := by
  simp [rowsOf]
theorem cut_line {x rest : List UInt8} (hx : ∀ c ∈ x, c ≠ 10) : Lib.cut (x ++ 10 :: rest) [10] = (x, rest, true) := by
  have hi : Lib.index (x ++ 10 :: rest) [10] = (x.length : Int) := by
    refine Lib.index_first (by simp) ?_ ?_
    · simp [Lib.occAt, List.isPrefixOf]
    · intro j hj
      unfold Lib.occAt
      have hne : ((10 : UInt8) == x[j]) = false := by rw [beq_eq_false_iff_ne]; exact fun e => hx _ (List.getElem_mem hj) e.symm
      rw [List.drop_append_of_le_length (by omega), List.drop_eq_getElem_cons hj, List.cons_append, List.isPrefixOf, hne, Bool.false_and]
  unfold Lib.cut
  rw [hi, if_pos (by omega)]
  simp
theorem cut_none {x : List UInt8} (hx : ∀ c ∈ x, c ≠ 10) : (Lib.cut x [10]).2.2 = false := by
  have hi : Lib.index x [10] = -1 := by
    refine Lib.index_none fun j _ => ?_
    unfold Lib.occAt
    rcases Nat.lt_or_ge j x.length with h | h
    · rw [List.drop_eq_getElem_cons h]
      have hne : (10 : UInt8) ≠ x[j] := fun e => hx _ (List.getElem_mem h) e.symm
      simp [List.isPrefixOf, hne]
    · rw [List.drop_eq_nil_iff.2 h]; rfl
  unfold Lib.cut
  rw [hi, if_neg (by omega)]
theorem text_cons (x : List UInt8) (ls : List (List UInt8)) (t : List UInt8) : textOf (x :: ls) ++ t = x ++ 10 :: (textOf ls ++ t) := by simp [textOf]
theorem take_add {α : Type} (rows : List α) (n k : Nat) (r : α) (rest : List α) (h : rows.length ≤ 32) (hk : k = min n (32 - rows.length)) : (rows ++ List.replicate k r ++ rest).take 32 = (rows ++ List.replicate n r ++ rest).take 32 := by
  rcases Nat.lt_or_ge (32 - rows.length) n with h1 | h1
  · have e : k = 32 - rows.length := by omega
    have hL : (rows ++ List.replicate k r ++ rest).take 32 = rows ++ List.replicate k r := by
      rw [show 32 = (rows ++ List.replicate k r).length by simp; omega]; exact List.take_left
    have hR : (rows ++ List.replicate n r ++ rest).take 32 = rows ++ List.replicate k r := by
      rw [List.append_assoc, List.take_append, List.take_of_length_le h, List.take_append_of_le_length (by simp; omega), List.take_replicate]
      congr 2; omega
    rw [hL, hR]
  · rw [show k = n by omega]
/-- Lines that are ended, and a rest. -/
theorem rd_text : ∀ (ls : List (List UInt8)) (t : List UInt8) (f : Nat) (n : Int) (rows : List (List Stitch)), (∀ x ∈ ls, ∀ c ∈ x, c ≠ 10) → (textOf ls ++ t).length < f → rows.length ≤ 32 →
    (badS ls ≠ 0 → rdS f (textOf ls ++ t) n rows = ([], n + badS ls - 1, 4)) ∧
    (badS ls = 0 → ∃ g rows', rdS f (textOf ls ++ t) n rows = rdS g t (n + ls.length) rows' ∧ t.length < g ∧ rows'.length ≤ 32 ∧ rows' = (rows ++ rowsOf ls).take 32)
  | [], t, f, n, rows, _, hf, hr => by
    refine ⟨fun h => absurd rfl h, fun _ => ⟨f, rows, by simp [textOf], by simpa [textOf] using hf, hr, by simp [rowsOf, List.take_of_length_le hr]⟩⟩
  | x :: ls, t, f, n, rows, hx, hf, hr => by
    rw [text_cons] at hf ⊢
    obtain ⟨g, rfl⟩ : ∃ g, f = g + 1 := ⟨f - 1, by omega⟩
    have hne : x ++ 10 :: (textOf ls ++ t) ≠ [] := by simp
    have hc := cut_line (rest := textOf ls ++ t) (hx x (by simp))
    have hlr := lineR_rng x
    by_cases hb : (lineR x).2 = 0
    · have e1 : badS (x :: ls) = 1 := by rw [badS, if_pos hb]
      refine ⟨fun _ => ?_, fun h => by rw [e1] at h; cases h⟩
      rw [rd_bad hne (.inr (by rw [hc]; exact hb)), e1]
      congr 2; omega
    · have e2 : badS (x :: ls) = if badS ls = 0 then 0 else badS ls + 1 := by rw [badS, if_neg hb]
      have hgood : ¬ ((Lib.cut (x ++ 10 :: (textOf ls ++ t)) [10]).2.2 = false ∨ (lineR (Lib.cut (x ++ 10 :: (textOf ls ++ t)) [10]).1).2 = 0) := by
        rw [hc]; rintro (e | e)
        · cases e
        · exact hb e
      have hstep := rd_next (f := g) (n := n) (rows := rows) hne hgood
      rw [hc] at hstep
      simp only at hstep
      have hk : (min (lineR x).2 (32 - (rows.length : Int))).toNat = min (lineR x).2.toNat (32 - rows.length) := by omega
      rw [hk] at hstep
      obtain ⟨ih1, ih2⟩ := rd_text ls t g (n + 1) (rows ++ List.replicate (min (lineR x).2.toNat (32 - rows.length)) (lineR x).1) (fun y hy => hx y (by simp [hy])) (by simp at hf ⊢; omega) (by simp; omega)
      rw [e2]
      constructor
      · intro h
        have hb2 : badS ls ≠ 0 := by intro e; rw [if_pos e] at h; exact h rfl
        rw [if_neg hb2, hstep, ih1 hb2]
        congr 2; omega
      · intro h
        have hb2 : badS ls = 0 := by
          by_cases e : badS ls = 0
          · exact e
          · rw [if_neg e] at h; have := badS_nonneg ls; omega
        obtain ⟨g', rows', h1, h2, h3, h4⟩ := ih2 hb2
        refine ⟨g', rows', by rw [hstep, h1]; congr 1; simp; omega, h2, h3, ?_⟩
        rw [h4, take_add rows (lineR x).2.toNat _ _ _ hr rfl]
        simp [rowsOf]
/-- The text and the number of the wrong line, where the last line may not be ended. -/
def finText (ls : List (List UInt8)) (op : Bool) : List UInt8 := if op = true ∧ 0 < ls.length then (textOf ls).take ((textOf ls).length - 1) else textOf ls
def finBad (ls : List (List UInt8)) (op : Bool) : Int :=
  if op = true ∧ 0 < ls.length then (if ls.getD (ls.length - 1) [] = [] ∧ badS ls = ls.length then 0 else if badS ls = 0 then ls.length else badS ls) else badS ls
theorem expand_nil : (expandS []).2 = 4 := by decide +kernel
theorem line_empty : (lineR []).2 = 0 := by decide +kernel
theorem chart_cut (rows : List (List Stitch)) : chartE ((rows.take 32).reverse) = chartE rows.reverse ∧ (chartE rows.reverse = 0 → (rows.take 32).reverse = rows.reverse) := by
  rcases Nat.lt_or_ge rows.length 33 with h | h
  · rw [List.take_of_length_le (by omega)]; exact ⟨rfl, fun _ => rfl⟩
  · have h1 : chartE rows.reverse = 3 := chart_bad (rows3 (by simp; omega)) (by decide)
    have h2 : chartE ((rows.take 32).reverse) = 3 := chart_bad (rows3 (by simp; omega)) (by decide)
    exact ⟨by rw [h1, h2], fun e => by rw [h1] at e; cases e⟩
theorem read_facts (ls : List (List UInt8)) (op : Bool) (hx : ∀ x ∈ ls, ∀ c ∈ x, c ≠ 10) :
    (0 < finBad ls op → (rdS ((finText ls op).length + 1) (finText ls op) 1 []).2.2 = 4 ∧ (rdS ((finText ls op).length + 1) (finText ls op) 1 []).2.1 = finBad ls op) ∧
    (¬ 0 < finBad ls op → (rdS ((finText ls op).length + 1) (finText ls op) 1 []).2.2 = 0 ∧ chartE (rdS ((finText ls op).length + 1) (finText ls op) 1 []).1.reverse = chartE (rowsOf ls).reverse ∧ (chartE (rowsOf ls).reverse = 0 → (rdS ((finText ls op).length + 1) (finText ls op) 1 []).1.reverse = (rowsOf ls).reverse)) := by
  have hbn := badS_nonneg ls
  have closed : ∀ (ms : List (List UInt8)), (∀ x ∈ ms, ∀ c ∈ x, c ≠ 10) → (badS ms ≠ 0 → rdS ((textOf ms).length + 1) (textOf ms) 1 [] = ([], badS ms, 4)) ∧ (badS ms = 0 → rdS ((textOf ms).length + 1) (textOf ms) 1 [] = ((rowsOf ms).take 32, 0, 0)) := by
    intro ms hm
    obtain ⟨h1, h2⟩ := rd_text ms [] ((textOf ms).length + 1) 1 [] hm (by simp) (by simp)
    rw [List.append_nil] at h1 h2
    refine ⟨fun h => by rw [h1 h]; congr 2; omega, fun h => ?_⟩
    obtain ⟨g, rows', e1, _, _, e4⟩ := h2 h
    rw [e1, rd_done, e4, List.nil_append]
  by_cases ho : op = true ∧ 0 < ls.length
  · have hT : finText ls op = (textOf ls).take ((textOf ls).length - 1) := if_pos ho
    have hB : finBad ls op = if ls.getD (ls.length - 1) [] = [] ∧ badS ls = ls.length then 0 else if badS ls = 0 then (ls.length : Int) else badS ls := if_pos ho
    obtain ⟨init, last, rfl⟩ : ∃ init last, ls = init ++ [last] := ⟨ls.dropLast, ls.getLast (List.length_pos_iff.1 ho.2), (List.dropLast_concat_getLast _).symm⟩
    have hl : (init ++ [last]).getD ((init ++ [last]).length - 1) [] = last := by simp [List.getD]
    have ht : (textOf (init ++ [last])).take ((textOf (init ++ [last])).length - 1) = textOf init ++ last := by
      have e : textOf (init ++ [last]) = (textOf init ++ last) ++ [10] := by simp [textOf]
      have e2 : ((textOf init ++ last) ++ [10]).length - 1 = (textOf init ++ last).length := by simp
      rw [e, e2]; exact List.take_left
    rw [hl] at hB
    rw [ht] at hT
    have hxi : ∀ x ∈ init, ∀ c ∈ x, c ≠ 10 := fun x h => hx x (by simp [h])
    have hxl : ∀ c ∈ last, c ≠ 10 := hx last (by simp)
    have hbi := badS_nonneg init
    have hsn := badS_snoc init last
    have hlen : (((init ++ [last]).length : Nat) : Int) = init.length + 1 := by simp
    rw [hT, hB]
    by_cases hlast : last = []
    · subst hlast
      rw [line_empty, if_pos rfl] at hsn
      rw [List.append_nil]
      obtain ⟨c1, c2⟩ := closed init hxi
      by_cases hb0 : badS init = 0
      · rw [if_pos hb0] at hsn
        rw [if_pos ⟨rfl, by omega⟩, c2 hb0]
        refine ⟨fun h => absurd h (by omega), fun _ => ⟨rfl, ?_⟩⟩
        have hrr : rowsOf (init ++ [[]]) = rowsOf init := by simp [rowsOf, line_empty]
        rw [hrr]; exact chart_cut _
      · rw [if_neg hb0] at hsn
        rw [if_neg (by omega), if_neg (by omega), c1 hb0]
        exact ⟨fun _ => ⟨rfl, by rw [hsn]⟩, fun h => absurd h (by omega)⟩
    · rw [if_neg (fun e => hlast e.1)]
      obtain ⟨h1, h2⟩ := rd_text init last ((textOf init ++ last).length + 1) 1 [] hxi (by omega) (by simp)
      by_cases hb0 : badS init = 0
      · obtain ⟨g, rows', e1, e2, _, _⟩ := h2 hb0
        obtain ⟨g', rfl⟩ : ∃ k, g = k + 1 := ⟨g - 1, by omega⟩
        rw [e1, rd_bad hlast (.inl (cut_none hxl))]
        rw [if_pos hb0] at hsn
        have hv : (if badS (init ++ [last]) = 0 then (((init ++ [last]).length : Nat) : Int) else badS (init ++ [last])) = init.length + 1 := by
          split
          · exact hlen
          · rename_i h; rw [hsn] at h ⊢; split at h
            · rename_i h5; rw [if_pos h5]
            · exact absurd rfl h
        rw [hv]
        exact ⟨fun _ => ⟨rfl, by simp only; omega⟩, fun h => absurd h (by omega)⟩
      · rw [if_neg hb0] at hsn
        rw [h1 hb0, if_neg (by omega), hsn]
        exact ⟨fun _ => ⟨rfl, by simp only; omega⟩, fun h => absurd h (by omega)⟩
  · have hT : finText ls op = textOf ls := if_neg ho
    have hB : finBad ls op = badS ls := if_neg ho
    rw [hT, hB]
    obtain ⟨c1, c2⟩ := closed ls hx
    refine ⟨fun h => by rw [c1 (by omega)]; exact ⟨rfl, rfl⟩, fun h => ?_⟩
    rw [c2 (by omega)]
    exact ⟨rfl, chart_cut _⟩
theorem text_snoc (ls : List (List UInt8)) (x : List UInt8) : textOf (ls ++ [x]) = textOf ls ++ (x ++ [10]) := by simp [textOf]
theorem textOf_len (ls : List (List UInt8)) (h : ∀ x ∈ ls, x.length ≤ 100) : (textOf ls).length ≤ 101 * ls.length := by
  induction ls with
  | nil => simp [textOf]
  | cons x r ih =>
    have := ih (fun y hy => h y (by simp [hy]))
    have := h x (by simp)
    simp only [textOf, List.flatMap_cons, List.length_append, List.length_cons, List.length_nil] at *
    omega
theorem sll_cons {w : World} {v : Value} {u : SV} {hs : List SV} {row : List Stitch} {rows : List (List Stitch)} (h : Sl Enc.sl w v ([u] ++ hs)) (hr : Sl encSt w (slv u) row) (hl : hs.length = rows.length) (hi : ∀ (i : Nat) (p : SV) (r : List Stitch), hs[i]? = some p → rows[i]? = some r → Sl encSt w (slv p) r) : Sll encSt w v (row :: rows) := by
  refine ⟨[u] ++ hs, h, by simp [hl], fun i p r hp hrr => ?_⟩
  match i with
  | 0 => simp at hp hrr; subst hp hrr; exact hr
  | i + 1 => exact hi i p r (by simpa using hp) (by simpa using hrr)
theorem sll_nil (w : World) : Sll encSt w (.slice none 0 0) [] := ⟨[], Sl.nil w, rfl, fun i p r h => by simp at h⟩
theorem rowsOf_len (ls : List (List UInt8)) : (rowsOf ls).length ≤ 31 * ls.length := by
  induction ls with
  | nil => simp [rowsOf]
  | cons x r ih =>
    have := lineR_rng x
    simp only [rowsOf, List.flatMap_cons, List.length_append, List.length_replicate, List.length_cons] at *
    omega
theorem rowsOf_ok (ls : List (List UInt8)) : ∀ r ∈ (rowsOf ls).reverse, ∀ x ∈ r, 0 ≤ x.k ∧ 0 ≤ x.y := by
  intro r hr x hx
  obtain ⟨y, hy, h⟩ := List.mem_flatMap.1 (List.mem_reverse.1 hr)
  obtain ⟨h1, rfl⟩ := List.mem_replicate.1 h
  have h2 : (lineR y).2 ≠ 0 := fun e => h1 (by rw [e]; rfl)
  exact okB_pos (List.all_eq_true.1 (lineR_row h2).2.1 x hx)
theorem take_snocL {α : Type} {l : List α} {k : Nat} {x : α} (h : l[k]? = some x) : l.take (k + 1) = l.take k ++ [x] := by rw [List.take_add_one, h]; rfl
theorem bad_next {ls : List (List UInt8)} {k : Nat} {x : List UInt8} (h : ls[k]? = some x) : badS (ls.take (k + 1)) = if badS (ls.take k) = 0 then (if (lineR x).2 = 0 then (k : Int) + 1 else 0) else badS (ls.take k) := by
  have hk : k < ls.length := (List.getElem?_eq_some_iff.1 h).1
  rw [take_snocL h, badS_snoc, List.length_take, Nat.min_eq_left (by omega)]
theorem bad_yes {ls : List (List UInt8)} {k : Nat} {x : List UInt8} (h : ls[k]? = some x) (c : (lineR x).2 = 0 ∧ badS (ls.take k) = 0) : badS (ls.take (k + 1)) = (k : Int) + 1 := by rw [bad_next h, if_pos c.2, if_pos c.1]
theorem bad_no {ls : List (List UInt8)} {k : Nat} {x : List UInt8} (h : ls[k]? = some x) (c : ¬ ((lineR x).2 = 0 ∧ badS (ls.take k) = 0)) : badS (ls.take (k + 1)) = badS (ls.take k) := by
  rw [bad_next h]
  split
  · rename_i e; rw [if_neg (fun e2 => c ⟨e2, e⟩), e]
  · rfl
theorem mem_next {ls : List (List UInt8)} {k : Nat} {x : List UInt8} {P : List UInt8 → Prop} (h : ls[k]? = some x) (ha : ∀ y ∈ ls.take k, P y) (hx : P x) : ∀ y ∈ ls.take (k + 1), P y := by
  rw [take_snocL h]
  intro y hy
  rcases List.mem_append.1 hy with hy | hy
  · exact ha y hy
  · simp at hy; subst hy; exact hx
theorem no_ten {x : List UInt8} (h : ∀ i, i < x.length → x.getD i 0 ≠ 10) : ∀ c ∈ x, c ≠ 10 := by
  intro c hc
  obtain ⟨i, hi⟩ := List.getElem?_of_mem hc
  have hl := (List.getElem?_eq_some_iff.1 hi).1
  have := h i hl
  rw [List.getD, hi] at this; exact this
end Go.G14
namespace Go.Proofs.YtbbnampdgefljaaDoor
open Go.Lw Go.G14
theorem co19 : CallOf Tryd.prog 19 := CallOf.mk' Tryd.func19 (by kernel_rfl) (by kernel_rfl)
theorem co20 : CallOf Tryd.prog 20 := CallOf.mk' Tryd.func20 (by kernel_rfl) (by kernel_rfl)
theorem co21 : CallOf Tryd.prog 21 := CallOf.mk' Tryd.func21 (by kernel_rfl) (by kernel_rfl)
set_option maxHeartbeats 2000000 in
theorem law_read (u : Value) (ls : List (List UInt8)) (op : Bool) (w0 : World) (hu : Sl Enc.str w0 u ls) (hy : Sym w0) (hm : IntAt 1 w0) : Rets Tryd.prog 7 #[u, .bool op] w0 fun v w' => v = .bool true ∧ Fr [] w0 w' := by
  have h00 := hy.pos
  have h01 := hm.lt
  obtain ⟨A, c, rfl, hcp⟩ := hu.form
  obtain ⟨-, -, hM, hA⟩ := Sl.open_ hu
  unfold maxLen at hM
  refine enter [(0, .slice A ls.length c), (1, .bool op)] Tryd.func7 rfl Tryd.ntmps7 rfl (.cons rfl (.cons rfl .nil)) ?_
  have hf := Fr.refl [] w0
  intro a h
  refine wp_seq ?_
  refine wp_region_lit ?_
  refine st_assign h rfl rfl ?_; clear h a; intro a h
  replace h : Ag a 172 [(0, _), (1, _)] := h.sub (.cons rfl (.cons rfl .nil))
  refine wpList_nil (norm_then ?_)
  refine wp_seq ?_
  refine wp_seq ?_
  refine wp_region_lit ?_
  refine st_move h rfl rfl ?_; clear h a; intro a h
  refine st_lenS h rfl Tryd.underlying48 rfl ?_; clear h a; intro a h
  refine st_gt h rfl rfl rfl ?_; clear h a; intro a h
  replace h : Ag a 172 [(0, _), (1, _), (20, _)] := h.sub (.cons rfl (.cons rfl (.cons rfl .nil)))
  refine wpList_nil (norm_then ?_)
  first | refine cond_dec h rfl (fun c0 => ?_) (fun c0 => ?_) | refine cond_ndec h rfl (fun c0 => ?_) (fun c0 => ?_) | refine cond_split h rfl (fun c0 => ?_) (fun c0 => ?_)
  · refine id ?_
    refine wp_seq ?_
    refine wp_region_lit ?_
    refine st_assign h rfl rfl ?_; clear h a; intro a h
    replace h : Ag a 172 [(4, _)] := h.sub (.cons rfl .nil)
    refine wpList_nil (norm_then ?_)
    refine wp_ret (ret_then ?_)
    refine ret1 h Tryd.results7 rfl ?_
    first | exact ⟨_, rfl, rfl, hf⟩ | (exfalso; first | omega | simp_all)
  · refine id ?_
    refine wp_skip (norm_then ?_)
    refine wp_seq ?_
    refine wp_region_lit ?_
    refine st_assign h rfl rfl ?_; clear h a; intro a h
    replace h : Ag a 172 [(0, _), (1, _), (5, _)] := h.sub (.cons rfl (.cons rfl (.cons rfl .nil)))
    refine wpList_nil (norm_then ?_)
    refine wp_seq ?_
    refine wp_region_lit ?_
    refine st_assign h rfl rfl ?_; clear h a; intro a h
    refine wpList_nil (norm_then ?_)
    refine wp_seq ?_
    refine wp_region_lit ?_
    refine st_assign h rfl rfl ?_; clear h a; intro a h
    refine wpList_nil (norm_then ?_)
    refine wp_seq ?_
    refine wp_seq ?_
    refine wp_region_lit ?_
    refine st_assign h rfl rfl ?_; clear h a; intro a h
    refine wpList_nil (norm_then ?_)
    refine wp_block ?_
    refine loop (ι := Nat × Value) (fun z => [(0, .slice A ls.length c), (1, .bool op), (5, S (textOf (ls.take z.1))), (6, .int .i64 (badS (ls.take z.1))), (7, z.2), (8, .int .i64 (z.1 : Int))]) (fun z w' => z.1 ≤ ls.length ∧ (∀ y ∈ ls.take z.1, y.length ≤ 100 ∧ ∀ c ∈ y, c ≠ 10) ∧ Sll encSt w' z.2 (rowsOf (ls.take z.1)).reverse ∧ Sym w' ∧ IntAt 1 w' ∧ Fr [] w0 w') (fun z => ls.length - z.1) (0, .slice none 0 0) (h.sub (.cons rfl (.cons rfl (.cons rfl (.cons rfl (.cons rfl (.cons rfl .nil))))))) ⟨Nat.zero_le _, by simp, sll_nil _, hy, hm, hf⟩ ?_
    clear h a hf hy hm
    rintro ⟨k, AV⟩ w1 a h ⟨hk, hgd, hAll, hy, hm, hf⟩
    simp only at hk hgd hAll h
    refine wp_seq ?_
    refine wp_seq ?_
    refine wp_region_lit ?_
    refine st_move h rfl rfl ?_; clear h a; intro a h
    refine st_move h rfl rfl ?_; clear h a; intro a h
    refine st_lenS h rfl Tryd.underlying48 rfl ?_; clear h a; intro a h
    refine st_lt h rfl rfl rfl ?_; clear h a; intro a h
    replace h : Ag a 172 [(0, _), (1, _), (5, _), (6, _), (7, _), (8, _), (24, _)] := h.sub (.cons rfl (.cons rfl (.cons rfl (.cons rfl (.cons rfl (.cons rfl (.cons rfl .nil)))))))
    refine wpList_nil (norm_then ?_)
    first | refine cond_dec h rfl (fun c1 => ?_) (fun c1 => ?_) | refine cond_ndec h rfl (fun c1 => ?_) (fun c1 => ?_) | refine cond_split h rfl (fun c1 => ?_) (fun c1 => ?_)
    · obtain ⟨x, hxk⟩ : ∃ x, ls[k]? = some x := ⟨_, List.getElem?_eq_getElem (by omega)⟩
      obtain ⟨ad, hAd, ca⟩ := hA k x hxk
      have hbn := badS_nonneg (ls.take k)
      have htl := textOf_len (ls.take k) (fun y hy => (hgd y hy).1)
      have hrl := rowsOf_len (ls.take k)
      rw [List.length_take] at htl hrl
      refine wp_skip (norm_then ?_)
      refine wp_seq ?_
      refine wp_block ?_
      refine wp_seq ?_
      refine wp_seq ?_
      refine wp_region_lit ?_
      refine st_move h rfl rfl ?_; clear h a; intro a h
      refine st_move h rfl rfl ?_; clear h a; intro a h
      refine st_idxS h (by rw [hAd]; rfl) rfl el48 (by omega) (by omega) rfl rfl ?_; clear h a; intro a h
      refine st_loadC0 h rfl (ca.fr hf (by simp)) na9 rfl ?_; clear h a; intro a h
      refine st_len h rfl Tryd.underlying9 rfl ?_; clear h a; intro a h
      refine st_gt h rfl rfl rfl ?_; clear h a; intro a h
      replace h : Ag a 172 [(0, _), (1, _), (5, _), (6, _), (7, _), (8, _), (32, _)] := h.sub (.cons rfl (.cons rfl (.cons rfl (.cons rfl (.cons rfl (.cons rfl (.cons rfl .nil)))))))
      refine wpList_nil (norm_then ?_)
      first | refine cond_dec h rfl (fun c2 => ?_) (fun c2 => ?_) | refine cond_ndec h rfl (fun c2 => ?_) (fun c2 => ?_) | refine cond_split h rfl (fun c2 => ?_) (fun c2 => ?_)
      · refine id ?_
        refine wp_seq ?_
        refine wp_region_lit ?_
        refine st_assign h rfl rfl ?_; clear h a; intro a h
        replace h : Ag a 172 [(4, _)] := h.sub (.cons rfl .nil)
        refine wpList_nil (norm_then ?_)
        refine wp_ret (ret_then (ret_blk (ret_then (ret_then (ret_blk (ret_then ?_))))))
        refine ret1 h Tryd.results7 rfl ?_
        first | exact ⟨_, rfl, rfl, hf⟩ | (exfalso; first | omega | simp_all)
      · refine id ?_
        refine wp_skip (norm_then ?_)
        refine wp_seq ?_
        refine wp_seq ?_
        refine wp_region_lit ?_
        refine st_assign h rfl rfl ?_; clear h a; intro a h
        replace h : Ag a 172 [(0, _), (1, _), (5, _), (6, _), (7, _), (8, _), (9, _)] := h.sub (.cons rfl (.cons rfl (.cons rfl (.cons rfl (.cons rfl (.cons rfl (.cons rfl .nil)))))))
        refine wpList_nil (norm_then ?_)
        refine wp_block ?_
        refine loop (ι := Nat) (fun m => [(0, .slice A ls.length c), (1, .bool op), (5, S (textOf (ls.take k))), (6, .int .i64 (badS (ls.take k))), (7, AV), (8, .int .i64 (k : Int)), (9, .int .i64 (m : Int))]) (fun m w' => m ≤ x.length ∧ (∀ i, i < m → x.getD i 0 ≠ 10) ∧ Sll encSt w' AV (rowsOf (ls.take k)).reverse ∧ Sym w' ∧ IntAt 1 w' ∧ Fr [] w0 w') (fun m => x.length - m) 0 (h.sub (.cons rfl (.cons rfl (.cons rfl (.cons rfl (.cons rfl (.cons rfl (.cons rfl .nil)))))))) ⟨by omega, fun i h => by omega, hAll, hy, hm, hf⟩ ?_
        clear h a hf hy hm hAll
        rintro m w2 a h ⟨hmx, hno, hAll, hy, hm, hf⟩
        refine wp_seq ?_
        refine wp_seq ?_
        refine wp_region_lit ?_
        refine st_move h rfl rfl ?_; clear h a; intro a h
        refine st_move h rfl rfl ?_; clear h a; intro a h
        refine st_move h rfl rfl ?_; clear h a; intro a h
        refine st_idxS h (by rw [hAd]; rfl) rfl el48 (by omega) (by omega) rfl rfl ?_; clear h a; intro a h
        refine st_loadC0 h rfl (ca.fr hf (by simp)) na9 rfl ?_; clear h a; intro a h
        refine st_len h rfl Tryd.underlying9 rfl ?_; clear h a; intro a h
        refine st_lt h rfl rfl rfl ?_; clear h a; intro a h
        replace h : Ag a 172 [(0, _), (1, _), (5, _), (6, _), (7, _), (8, _), (9, _), (39, _)] := h.sub (.cons rfl (.cons rfl (.cons rfl (.cons rfl (.cons rfl (.cons rfl (.cons rfl (.cons rfl .nil))))))))
        refine wpList_nil (norm_then ?_)
        first | refine cond_dec h rfl (fun c3 => ?_) (fun c3 => ?_) | refine cond_ndec h rfl (fun c3 => ?_) (fun c3 => ?_) | refine cond_split h rfl (fun c3 => ?_) (fun c3 => ?_)
        · refine id ?_
          refine wp_skip (norm_then ?_)
          refine wp_seq ?_
          refine wp_block ?_
          refine wp_seq ?_
          refine wp_region_lit ?_
          refine st_move h rfl rfl ?_; clear h a; intro a h
          refine st_move h rfl rfl ?_; clear h a; intro a h
          refine st_idxS h (by rw [hAd]; rfl) rfl el48 (by omega) (by omega) rfl rfl ?_; clear h a; intro a h
          refine st_loadC0 h rfl (ca.fr hf (by simp)) na9 rfl ?_; clear h a; intro a h
          refine st_move h rfl rfl ?_; clear h a; intro a h
          refine st_index (p := m) h rfl rfl Tryd.underlying9 (by omega) (by omega) (by omega) rfl ?_; clear h a; intro hy47 a h
          refine st_eq h rfl rfl rfl ?_; clear h a; intro a h
          replace h : Ag a 172 [(0, _), (1, _), (5, _), (6, _), (7, _), (8, _), (9, _), (48, _)] := h.sub (.cons rfl (.cons rfl (.cons rfl (.cons rfl (.cons rfl (.cons rfl (.cons rfl (.cons rfl .nil))))))))
          refine wpList_nil (norm_then ?_)
          first | refine cond_dec h rfl (fun c4 => ?_) (fun c4 => ?_) | refine cond_ndec h rfl (fun c4 => ?_) (fun c4 => ?_) | refine cond_split h rfl (fun c4 => ?_) (fun c4 => ?_)
          · refine id ?_
            refine wp_seq ?_
            refine wp_region_lit ?_
            refine st_assign h rfl rfl ?_; clear h a; intro a h
            replace h : Ag a 172 [(4, _)] := h.sub (.cons rfl .nil)
            refine wpList_nil (norm_then ?_)
            refine wp_ret (ret_blk (ret_then (ret_then (ret_blk (ret_then (ret_blk (ret_then (ret_then (ret_blk (ret_then ?_))))))))))
            refine ret1 h Tryd.results7 rfl ?_
            first | exact ⟨_, rfl, rfl, hf⟩ | (exfalso; first | omega | simp_all)
          · refine id ?_
            refine wp_skip (norm_blk (norm_then ?_))
            refine wp_region_lit ?_
            refine st_move h rfl rfl ?_; clear h a; intro a h
            refine st_add h rfl rfl (by first | exact IntWalk.i64_in _ (by omega) | rfl) rfl ?_; clear h a; intro a h
            refine st_assign h rfl rfl ?_; clear h a; intro a h
            replace h : Ag a 172 [(0, _), (1, _), (5, _), (6, _), (7, _), (8, _), (9, _)] := h.sub (.cons rfl (.cons rfl (.cons rfl (.cons rfl (.cons rfl (.cons rfl (.cons rfl .nil)))))))
            refine wpList_nil (norm_then ?_)
            exact ⟨m + 1, h.sub (.cons rfl (.cons rfl (.cons rfl (.cons rfl (.cons rfl (.cons rfl (.cons rfl .nil))))))), ⟨by omega, fun i hi => by rcases Nat.lt_or_ge i m with h | h; exact hno i h; rw [show i = m by omega]; exact fun e => c4 (by rw [e]; rfl), hAll, hy, hm, hf⟩, by omega⟩
        · obtain rfl : m = x.length := by omega
          have hx10 := no_ten hno
          refine wp_exit (exit_then (exit_then (exit_here (norm_then ?_))))
          refine wp_seq ?_
          refine wp_region_lit ?_
          refine st_move h rfl rfl ?_; clear h a; intro a h
          refine st_move h rfl rfl ?_; clear h a; intro a h
          refine st_idxS h (by rw [hAd]; rfl) rfl el48 (by omega) (by omega) rfl rfl ?_; clear h a; intro a h
          refine st_loadC0 h rfl (ca.fr hf (by simp)) na9 rfl ?_; clear h a; intro a h
          refine st_call h (evs_cons rfl evs_nil) co19 (refline_ok _ _ hy (by omega)) rfl ?_; clear h a; rintro _ w3 ⟨rv, rfl, hrv, hq⟩ a h
          replace hf := hf.next hq
          replace hy := hy.ext hq
          replace hm := hm.ext hq
          replace hAll := hAll.ext hq
          clear hq
          obtain ⟨RA, rc, rfl, hrc⟩ := hrv.form
          have hlr := lineR_rng x
          refine st_move h rfl rfl ?_; clear h a; intro a h
          refine st_extract h rfl rfl rfl ?_; clear h a; intro a h
          refine st_extract h rfl rfl rfl ?_; clear h a; intro a h
          refine st_assign h rfl rfl ?_; clear h a; intro a h
          refine st_assign h rfl rfl ?_; clear h a; intro a h
          replace h : Ag a 172 [(0, _), (1, _), (5, _), (6, _), (7, _), (8, _), (10, _), (11, _)] := h.sub (.cons rfl (.cons rfl (.cons rfl (.cons rfl (.cons rfl (.cons rfl (.cons rfl (.cons rfl .nil))))))))
          refine wpList_nil (norm_then ?_)
          refine seq_cut (Cut (ι := Unit) 172 (fun u => [(0, .slice A ls.length c), (1, .bool op), (5, S (textOf (ls.take k))), (6, .int .i64 (badS (ls.take (k + 1)))), (7, AV), (8, .int .i64 (k : Int)), (10, .slice RA (lineR x).1.length rc), (11, .int .i64 (lineR x).2)]) (fun u w' => Sll encSt w' AV (rowsOf (ls.take k)).reverse ∧ Sl encSt w' (.slice RA (lineR x).1.length rc) (lineR x).1 ∧ Sym w' ∧ IntAt 1 w' ∧ Fr [] w0 w')) ?_ ?_
          · refine id ?_
            refine wp_seq ?_
            refine region_bool (r := 62) (L' := [(0, _), (1, _), (5, _), (6, _), (7, _), (8, _), (10, _), (11, _)]) ((lineR x).2 = 0 ∧ badS (ls.take k) = 0) h (.cons rfl (.cons rfl (.cons rfl (.cons rfl (.cons rfl (.cons rfl (.cons rfl (.cons rfl .nil)))))))) ?_ ?_
            · refine id ?_
              refine st_move h rfl rfl ?_; clear h a; intro a h
              refine st_eq h rfl rfl rfl ?_; clear h a; intro a h
              refine st_move h rfl rfl ?_; clear h a; intro a h
              first | refine guard_dec (D := 59) h rfl ?_ ?_ | refine guard_ndec (D := 59) h rfl ?_ ?_ | refine guard_any (D := 59) h rfl ?_ ?_
              · clear h; intro g0 h
                refine gd_yes h rfl rfl rfl rfl rfl rfl ?_
                refine st_move h rfl rfl ?_; clear h a; intro a h
                refine gd_yes h rfl rfl rfl rfl rfl rfl ?_
                refine st_eq h rfl rfl rfl ?_; clear h a; intro a h
                refine st_pick_t h rfl rfl rfl rfl ?_; clear h a; intro a h
                exact wpList_nil (bool_end h rfl (by first | exact bt (by omega) | exact bf (by omega) | exact bi (by omega) | exact bn (by omega)) (.cons rfl (.cons rfl (.cons rfl (.cons rfl (.cons rfl (.cons rfl (.cons rfl (.cons rfl .nil)))))))))
              · clear h; intro g0 h
                refine gd_no h rfl rfl rfl rfl rfl rfl rfl rfl ?_; clear h a; intro a h
                refine gd_no h rfl rfl rfl rfl rfl rfl rfl rfl ?_; clear h a; intro a h
                refine st_pick_f h rfl rfl rfl rfl ?_; clear h a; intro a h
                exact wpList_nil (bool_end h rfl (by first | exact bt (by omega) | exact bf (by omega) | exact bi (by omega) | exact bn (by omega)) (.cons rfl (.cons rfl (.cons rfl (.cons rfl (.cons rfl (.cons rfl (.cons rfl (.cons rfl .nil)))))))))
            · clear h a; intro a h
              refine (norm_then ?_)
              first | refine cond_dec h rfl (fun c5 => ?_) (fun c5 => ?_) | refine cond_ndec h rfl (fun c5 => ?_) (fun c5 => ?_) | refine cond_split h rfl (fun c5 => ?_) (fun c5 => ?_)
              · refine id ?_
                refine wp_region_lit ?_
                refine st_move h rfl rfl ?_; clear h a; intro a h
                refine st_add h rfl rfl (by first | exact IntWalk.i64_in _ (by omega) | rfl) rfl ?_; clear h a; intro a h
                refine st_assign h rfl rfl ?_; clear h a; intro a h
                replace h : Ag a 172 [(0, _), (1, _), (5, _), (6, _), (7, _), (8, _), (10, _), (11, _)] := h.sub (.cons rfl (.cons rfl (.cons rfl (.cons rfl (.cons rfl (.cons rfl (.cons rfl (.cons rfl .nil))))))))
                refine wpList_nil (norm_then ?_)
                exact ⟨(), h.sub (.cons rfl (.cons rfl (.cons rfl (.cons (by first | (rw [bad_yes hxk c5]; rfl) | (rw [bad_no hxk c5]; rfl)) (.cons rfl (.cons rfl (.cons rfl (.cons rfl .nil)))))))), hAll, hrv, hy, hm, hf⟩
              · refine id ?_
                refine wp_skip (norm_then ?_)
                exact ⟨(), h.sub (.cons rfl (.cons rfl (.cons rfl (.cons (by first | (rw [bad_yes hxk c5]; rfl) | (rw [bad_no hxk c5]; rfl)) (.cons rfl (.cons rfl (.cons rfl (.cons rfl .nil)))))))), hAll, hrv, hy, hm, hf⟩
          · clear h a hf hy hm hAll hrv
            rintro a w4 ⟨u, h, ⟨hAll, hrv, hy, hm, hf⟩⟩
            refine wp_seq ?_
            refine wp_seq ?_
            refine wp_region_lit ?_
            refine st_assign h rfl rfl ?_; clear h a; intro a h
            refine wpList_nil (norm_then ?_)
            refine wp_block ?_
            refine loop (ι := Nat × Value) (fun z => [(0, .slice A ls.length c), (1, .bool op), (5, S (textOf (ls.take k))), (6, .int .i64 (badS (ls.take (k + 1)))), (7, z.2), (8, .int .i64 (k : Int)), (10, .slice RA (lineR x).1.length rc), (11, .int .i64 (lineR x).2), (12, .int .i64 (z.1 : Int))]) (fun z w' => (z.1 : Int) ≤ (lineR x).2 ∧ Sll encSt w' z.2 (List.replicate z.1 (lineR x).1 ++ (rowsOf (ls.take k)).reverse) ∧ Sl encSt w' (.slice RA (lineR x).1.length rc) (lineR x).1 ∧ Sym w' ∧ IntAt 1 w' ∧ Fr [] w0 w') (fun z => (lineR x).2.toNat - z.1) (0, AV) (h.sub (.cons rfl (.cons rfl (.cons rfl (.cons rfl (.cons rfl (.cons rfl (.cons rfl (.cons rfl (.cons rfl .nil)))))))))) ⟨by simp only; omega, hAll, hrv, hy, hm, hf⟩ ?_
            clear h a hf hy hm hAll hrv
            rintro ⟨j, AV2⟩ w5 a h ⟨hj, hAll, hrv, hy, hm, hf⟩
            simp only at hj hAll h
            refine wp_seq ?_
            refine wp_seq ?_
            refine wp_region_lit ?_
            refine st_move h rfl rfl ?_; clear h a; intro a h
            refine st_move h rfl rfl ?_; clear h a; intro a h
            refine st_lt h rfl rfl rfl ?_; clear h a; intro a h
            replace h : Ag a 172 [(0, _), (1, _), (5, _), (6, _), (7, _), (8, _), (10, _), (11, _), (12, _), (67, _)] := h.sub (.cons rfl (.cons rfl (.cons rfl (.cons rfl (.cons rfl (.cons rfl (.cons rfl (.cons rfl (.cons rfl (.cons rfl .nil))))))))))
            refine wpList_nil (norm_then ?_)
            first | refine cond_dec h rfl (fun c6 => ?_) (fun c6 => ?_) | refine cond_ndec h rfl (fun c6 => ?_) (fun c6 => ?_) | refine cond_split h rfl (fun c6 => ?_) (fun c6 => ?_)
            · refine id ?_
              refine wp_skip (norm_then ?_)
              refine wp_seq ?_
              refine wp_block ?_
              refine wp_region_lit ?_
              refine st_move h rfl rfl ?_; clear h a; intro a h
              obtain ⟨hs, hsl, hsn, hsi⟩ := hAll
              have hfa := Fr.refl [] w5
              refine st_bslice [((RA, (lineR x).1.length, rc) : SV)] h (evs_cons rfl evs_nil) rfl rfl rfl el43 (by decide) rfl ?_; clear h a; intro gV w6 hg hoV hq hz a h
              replace hfa := hfa.next hq
              clear hq
              refine st_move h rfl rfl ?_; clear h a; intro a h
              refine st_append h rfl rfl hoV (hsl.ext hfa) el43 (by unfold maxLen; simp at hsn ⊢; omega) (by simp at hsn ⊢; omega) (by omega) rfl ?_; clear h a; intro AV3 w7 ho3 hq2 hx3 a h
              have hq := hfa.step hq2 (by simp [blks]; omega)
              have hAll := sll_cons ho3.sl (hrv.ext hq) hsn (fun i p r hp hr => (hsi i p r hp hr).ext hq)
              clear hfa hq2 hx3 hoV ho3 hsl hsi hg hz
              replace hf := hf.next hq
              replace hy := hy.ext hq
              replace hm := hm.ext hq
              replace hrv := hrv.ext hq
              clear hq hs hsn
              refine st_assign h rfl rfl ?_; clear h a; intro a h
              replace h : Ag a 172 [(0, _), (1, _), (5, _), (6, _), (7, _), (8, _), (10, _), (11, _), (12, _)] := h.sub (.cons rfl (.cons rfl (.cons rfl (.cons rfl (.cons rfl (.cons rfl (.cons rfl (.cons rfl (.cons rfl .nil)))))))))
              refine wpList_nil (norm_blk (norm_then ?_))
              refine wp_region_lit ?_
              refine st_move h rfl rfl ?_; clear h a; intro a h
              refine st_add h rfl rfl (by first | exact IntWalk.i64_in _ (by omega) | rfl) rfl ?_; clear h a; intro a h
              refine st_assign h rfl rfl ?_; clear h a; intro a h
              replace h : Ag a 172 [(0, _), (1, _), (5, _), (6, _), (7, _), (8, _), (10, _), (11, _), (12, _)] := h.sub (.cons rfl (.cons rfl (.cons rfl (.cons rfl (.cons rfl (.cons rfl (.cons rfl (.cons rfl (.cons rfl .nil)))))))))
              refine wpList_nil (norm_then ?_)
              exact ⟨(j + 1, AV3), h.sub (.cons rfl (.cons rfl (.cons rfl (.cons rfl (.cons rfl (.cons rfl (.cons rfl (.cons rfl (.cons rfl .nil))))))))), ⟨by simp only; omega, hAll, hrv, hy, hm, hf⟩, by simp only; omega⟩
            · have hjt : j = (lineR x).2.toNat := by omega
              rw [hjt] at hAll
              refine wp_exit (exit_then (exit_then (exit_here (norm_then ?_))))
              refine wp_region_lit ?_
              refine st_move h rfl rfl ?_; clear h a; intro a h
              refine st_move h rfl rfl ?_; clear h a; intro a h
              refine st_move h rfl rfl ?_; clear h a; intro a h
              refine st_idxS h (by rw [hAd]; rfl) rfl el48 (by omega) (by omega) rfl rfl ?_; clear h a; intro a h
              refine st_loadC0 h rfl (ca.fr hf (by simp)) na9 rfl ?_; clear h a; intro a h
              refine st_adds h rfl rfl (by first | (simp; done) | (simp; omega)) rfl ?_; clear h a; intro a h
              refine st_adds h rfl rfl (by first | (simp; done) | (simp; omega)) rfl ?_; clear h a; intro a h
              refine st_assign h rfl rfl ?_; clear h a; intro a h
              replace h : Ag a 172 [(0, _), (1, _), (5, _), (6, _), (7, _), (8, _)] := h.sub (.cons rfl (.cons rfl (.cons rfl (.cons rfl (.cons rfl (.cons rfl .nil))))))
              refine wpList_nil (norm_blk (norm_then ?_))
              refine wp_region_lit ?_
              refine st_move h rfl rfl ?_; clear h a; intro a h
              refine st_add h rfl rfl (by first | exact IntWalk.i64_in _ (by omega) | rfl) rfl ?_; clear h a; intro a h
              refine st_assign h rfl rfl ?_; clear h a; intro a h
              replace h : Ag a 172 [(0, _), (1, _), (5, _), (6, _), (7, _), (8, _)] := h.sub (.cons rfl (.cons rfl (.cons rfl (.cons rfl (.cons rfl (.cons rfl .nil))))))
              refine wpList_nil (norm_then ?_)
              exact ⟨(k + 1, _), h.sub (.cons rfl (.cons rfl (.cons (by rw [take_snocL hxk, text_snoc]; rfl) (.cons rfl (.cons rfl (.cons rfl .nil)))))), ⟨by simp only; omega, mem_next hxk hgd ⟨by omega, hx10⟩, by rw [take_snocL hxk, rowsOf_snoc]; exact hAll, hy, hm, hf⟩, by simp only; omega⟩
    · obtain rfl : k = ls.length := by omega
      rw [List.take_length] at h hgd hAll
      have htl := textOf_len ls (fun y hy => (hgd y hy).1)
      refine wp_exit (exit_then (exit_then (exit_here (norm_then ?_))))
      refine seq_cut (Cut (ι := Unit) 172 (fun u => [(5, S (finText ls op)), (6, .int .i64 (finBad ls op)), (7, AV)]) (fun u w' => Sll encSt w' AV (rowsOf ls).reverse ∧ Sym w' ∧ IntAt 1 w' ∧ Fr [] w0 w')) ?_ ?_
      · refine id ?_
        refine wp_seq ?_
        refine wp_region_lit ?_
        refine st_move h rfl rfl ?_; clear h a; intro a h
        refine st_move h rfl rfl ?_; clear h a; intro a h
        first | refine guard_dec (D := 82) h rfl ?_ ?_ | refine guard_ndec (D := 82) h rfl ?_ ?_ | refine guard_any (D := 82) h rfl ?_ ?_
        · clear h; intro g1 h
          refine gd_yes h rfl rfl rfl rfl rfl rfl ?_
          refine st_move h rfl rfl ?_; clear h a; intro a h
          refine gd_yes h rfl rfl rfl rfl rfl rfl ?_
          refine st_lenS h rfl Tryd.underlying48 rfl ?_; clear h a; intro a h
          refine gd_yes h rfl rfl rfl rfl rfl rfl ?_
          refine st_gt h rfl rfl rfl ?_; clear h a; intro a h
          refine st_pick_t h rfl rfl rfl rfl ?_; clear h a; intro a h
          replace h : Ag a 172 [(0, _), (5, _), (6, _), (7, _), (86, _)] := h.sub (.cons rfl (.cons rfl (.cons rfl (.cons rfl (.cons rfl .nil)))))
          refine wpList_nil (norm_then ?_)
          first | refine cond_dec h rfl (fun c7 => ?_) (fun c7 => ?_) | refine cond_ndec h rfl (fun c7 => ?_) (fun c7 => ?_) | refine cond_split h rfl (fun c7 => ?_) (fun c7 => ?_)
          · obtain ⟨x, hxk⟩ : ∃ x, ls[ls.length - 1]? = some x := ⟨_, List.getElem?_eq_getElem (by omega)⟩
            obtain ⟨ad, hAd, ca⟩ := hA _ x hxk
            have hlast : ls.getD (ls.length - 1) [] = x := by rw [List.getD, hxk]; rfl
            have htp : 1 ≤ (textOf ls).length := by obtain ⟨y, r, rfl⟩ := List.exists_cons_of_ne_nil (List.length_pos_iff.1 (show 0 < ls.length by omega)); simp [textOf]; omega
            refine wp_seq ?_
            refine wp_region_lit ?_
            refine st_move h rfl rfl ?_; clear h a; intro a h
            refine st_move h rfl rfl ?_; clear h a; intro a h
            refine st_len h rfl Tryd.underlying9 rfl ?_; clear h a; intro a h
            refine st_sub h rfl rfl (by first | exact IntWalk.i64_in _ (by omega) | rfl) rfl ?_; clear h a; intro a h
            refine st_ss_h (p := (textOf ls).length - 1) h rfl rfl Tryd.underlying9 (by omega) (by omega) (by omega) rfl ?_; clear h a; intro a h
            refine st_assign h rfl rfl ?_; clear h a; intro a h
            replace h : Ag a 172 [(0, _), (5, _), (6, _), (7, _)] := h.sub (.cons rfl (.cons rfl (.cons rfl (.cons rfl .nil))))
            refine wpList_nil (norm_then ?_)
            refine wp_seq ?_
            refine region_bool (r := 104) (L' := [(0, _), (5, _), (6, _), (7, _)]) (ls.getD (ls.length - 1) [] = [] ∧ badS ls = (ls.length : Int)) h (.cons rfl (.cons rfl (.cons rfl (.cons rfl .nil)))) ?_ ?_
            · refine id ?_
              refine st_move h rfl rfl ?_; clear h a; intro a h
              refine st_move h rfl rfl ?_; clear h a; intro a h
              refine st_lenS h rfl Tryd.underlying48 rfl ?_; clear h a; intro a h
              refine st_sub h rfl rfl (by first | exact IntWalk.i64_in _ (by omega) | rfl) rfl ?_; clear h a; intro a h
              refine st_idxS (p := ls.length - 1) h (by rw [hAd]; rfl) rfl el48 (by omega) (by omega) (by omega) rfl ?_; clear h a; intro a h
              refine st_loadC0 h rfl (ca.fr hf (by simp)) na9 rfl ?_; clear h a; intro a h
              refine st_eqs h rfl rfl rfl ?_; clear h a; intro a h
              refine st_move h rfl rfl ?_; clear h a; intro a h
              first | refine guard_dec (D := 99) h rfl ?_ ?_ | refine guard_ndec (D := 99) h rfl ?_ ?_ | refine guard_any (D := 99) h rfl ?_ ?_
              · clear h; intro g2 h
                refine gd_yes h rfl rfl rfl rfl rfl rfl ?_
                refine st_move h rfl rfl ?_; clear h a; intro a h
                refine gd_yes h rfl rfl rfl rfl rfl rfl ?_
                refine st_move h rfl rfl ?_; clear h a; intro a h
                refine gd_yes h rfl rfl rfl rfl rfl rfl ?_
                refine st_lenS h rfl Tryd.underlying48 rfl ?_; clear h a; intro a h
                refine gd_yes h rfl rfl rfl rfl rfl rfl ?_
                refine st_eq h rfl rfl rfl ?_; clear h a; intro a h
                refine st_pick_t h rfl rfl rfl rfl ?_; clear h a; intro a h
                exact wpList_nil (bool_end h rfl (by rw [hlast]; first | exact bi ⟨fun e => ⟨by assumption, e⟩, fun e => e.2⟩ | exact bf (fun e => absurd e.1 (by assumption))) (.cons rfl (.cons rfl (.cons rfl (.cons rfl .nil)))))
              · clear h; intro g2 h
                refine gd_no h rfl rfl rfl rfl rfl rfl rfl rfl ?_; clear h a; intro a h
                refine gd_no h rfl rfl rfl rfl rfl rfl rfl rfl ?_; clear h a; intro a h
                refine gd_no h rfl rfl rfl rfl rfl rfl rfl rfl ?_; clear h a; intro a h
                refine gd_no h rfl rfl rfl rfl rfl rfl rfl rfl ?_; clear h a; intro a h
                refine st_pick_f h rfl rfl rfl rfl ?_; clear h a; intro a h
                exact wpList_nil (bool_end h rfl (by rw [hlast]; first | exact bi ⟨fun e => ⟨by assumption, e⟩, fun e => e.2⟩ | exact bf (fun e => absurd e.1 (by assumption))) (.cons rfl (.cons rfl (.cons rfl (.cons rfl .nil)))))
            · clear h a; intro a h
              refine (norm_then ?_)
              first | refine cond_dec h rfl (fun c8 => ?_) (fun c8 => ?_) | refine cond_ndec h rfl (fun c8 => ?_) (fun c8 => ?_) | refine cond_split h rfl (fun c8 => ?_) (fun c8 => ?_)
              · refine id ?_
                refine wp_region_lit ?_
                refine st_assign h rfl rfl ?_; clear h a; intro a h
                replace h : Ag a 172 [(5, _), (6, _), (7, _)] := h.sub (.cons rfl (.cons rfl (.cons rfl .nil)))
                refine wpList_nil (norm_then ?_)
                exact ⟨(), h.sub (.cons (by first | (rw [finText, if_pos ⟨by assumption, by omega⟩]; rfl) | (rw [finText, if_neg (fun e => by first | omega | simp_all)]; rfl)) (.cons (by first | (rw [finBad, if_pos ⟨by assumption, by omega⟩, if_pos c8]; rfl) | (rw [finBad, if_pos ⟨by assumption, by omega⟩, if_neg c8, if_pos c9]; rfl) | (rw [finBad, if_pos ⟨by assumption, by omega⟩, if_neg c8, if_neg c9]; rfl) | (rw [finBad, if_neg (fun e => by first | omega | simp_all)]; rfl)) (.cons rfl .nil))), hAll, hy, hm, hf⟩
              · refine id ?_
                refine wp_seq ?_
                refine wp_region_lit ?_
                refine st_move h rfl rfl ?_; clear h a; intro a h
                refine st_eq h rfl rfl rfl ?_; clear h a; intro a h
                replace h : Ag a 172 [(0, _), (5, _), (6, _), (7, _), (106, _)] := h.sub (.cons rfl (.cons rfl (.cons rfl (.cons rfl (.cons rfl .nil)))))
                refine wpList_nil (norm_then ?_)
                first | refine cond_dec h rfl (fun c9 => ?_) (fun c9 => ?_) | refine cond_ndec h rfl (fun c9 => ?_) (fun c9 => ?_) | refine cond_split h rfl (fun c9 => ?_) (fun c9 => ?_)
                · refine id ?_
                  refine wp_region_lit ?_
                  refine st_move h rfl rfl ?_; clear h a; intro a h
                  refine st_lenS h rfl Tryd.underlying48 rfl ?_; clear h a; intro a h
                  refine st_assign h rfl rfl ?_; clear h a; intro a h
                  replace h : Ag a 172 [(5, _), (6, _), (7, _)] := h.sub (.cons rfl (.cons rfl (.cons rfl .nil)))
                  refine wpList_nil (norm_then ?_)
                  exact ⟨(), h.sub (.cons (by first | (rw [finText, if_pos ⟨by assumption, by omega⟩]; rfl) | (rw [finText, if_neg (fun e => by first | omega | simp_all)]; rfl)) (.cons (by first | (rw [finBad, if_pos ⟨by assumption, by omega⟩, if_pos c8]; rfl) | (rw [finBad, if_pos ⟨by assumption, by omega⟩, if_neg c8, if_pos c9]; rfl) | (rw [finBad, if_pos ⟨by assumption, by omega⟩, if_neg c8, if_neg c9]; rfl) | (rw [finBad, if_neg (fun e => by first | omega | simp_all)]; rfl)) (.cons rfl .nil))), hAll, hy, hm, hf⟩
                · refine id ?_
                  refine wp_skip (norm_then ?_)
                  exact ⟨(), h.sub (.cons (by first | (rw [finText, if_pos ⟨by assumption, by omega⟩]; rfl) | (rw [finText, if_neg (fun e => by first | omega | simp_all)]; rfl)) (.cons (by first | (rw [finBad, if_pos ⟨by assumption, by omega⟩, if_pos c8]; rfl) | (rw [finBad, if_pos ⟨by assumption, by omega⟩, if_neg c8, if_pos c9]; rfl) | (rw [finBad, if_pos ⟨by assumption, by omega⟩, if_neg c8, if_neg c9]; rfl) | (rw [finBad, if_neg (fun e => by first | omega | simp_all)]; rfl)) (.cons rfl .nil))), hAll, hy, hm, hf⟩
          · refine id ?_
            refine wp_skip (norm_then ?_)
            exact ⟨(), h.sub (.cons (by first | (rw [finText, if_pos ⟨by assumption, by omega⟩]; rfl) | (rw [finText, if_neg (fun e => by first | omega | simp_all)]; rfl)) (.cons (by first | (rw [finBad, if_pos ⟨by assumption, by omega⟩, if_pos c8]; rfl) | (rw [finBad, if_pos ⟨by assumption, by omega⟩, if_neg c8, if_pos c9]; rfl) | (rw [finBad, if_pos ⟨by assumption, by omega⟩, if_neg c8, if_neg c9]; rfl) | (rw [finBad, if_neg (fun e => by first | omega | simp_all)]; rfl)) (.cons rfl .nil))), hAll, hy, hm, hf⟩
        · clear h; intro g1 h
          refine gd_no h rfl rfl rfl rfl rfl rfl rfl rfl ?_; clear h a; intro a h
          refine gd_no h rfl rfl rfl rfl rfl rfl rfl rfl ?_; clear h a; intro a h
          refine gd_no h rfl rfl rfl rfl rfl rfl rfl rfl ?_; clear h a; intro a h
          refine st_pick_f h rfl rfl rfl rfl ?_; clear h a; intro a h
          replace h : Ag a 172 [(0, _), (5, _), (6, _), (7, _), (86, _)] := h.sub (.cons rfl (.cons rfl (.cons rfl (.cons rfl (.cons rfl .nil)))))
          refine wpList_nil (norm_then ?_)
          refine cond_false h rfl ?_
          refine wp_skip (norm_then ?_)
          exact ⟨(), h.sub (.cons (by first | (rw [finText, if_pos ⟨by assumption, by omega⟩]; rfl) | (rw [finText, if_neg (fun e => by first | omega | simp_all)]; rfl)) (.cons (by first | (rw [finBad, if_pos ⟨by assumption, by omega⟩, if_pos c8]; rfl) | (rw [finBad, if_pos ⟨by assumption, by omega⟩, if_neg c8, if_pos c9]; rfl) | (rw [finBad, if_pos ⟨by assumption, by omega⟩, if_neg c8, if_neg c9]; rfl) | (rw [finBad, if_neg (fun e => by first | omega | simp_all)]; rfl)) (.cons rfl .nil))), hAll, hy, hm, hf⟩
      · clear h a hf hy hm hAll
        rintro a w8 ⟨u, h, ⟨hAll, hy, hm, hf⟩⟩
        refine wp_seq ?_
        refine wp_region_lit ?_
        refine st_move h rfl rfl ?_; clear h a; intro a h
        refine st_call h (evs_cons rfl evs_nil) co20 (read_chart_ok _ _ hy hm (by rw [finText]; split <;> (try simp) <;> omega)) rfl ?_; clear h a; rintro _ w9 ⟨XA, xm, xc, rn, re, rfl, hb, hg, hq⟩ a h
        replace hf := hf.next hq
        replace hy := hy.ext hq
        replace hm := hm.ext hq
        replace hAll := hAll.ext hq
        clear hq
        have hfa := Fr.refl [] w9
        obtain ⟨f1, f2⟩ := read_facts ls op (fun y hy => (hgd y hy).2)
        refine st_move h rfl rfl ?_; clear h a; intro a h
        refine st_extract h rfl rfl rfl ?_; clear h a; intro a h
        refine st_extract h rfl rfl rfl ?_; clear h a; intro a h
        refine st_extract h rfl rfl rfl ?_; clear h a; intro a h
        refine st_alloc h zv45 rfl rfl ?_; clear h a; intro w10 hb13 hq hz a h
        obtain ⟨g_13, hg⟩ : ∃ g, g = w9.heap.size := ⟨_, rfl⟩; rw [← hg] at hb13 h hz
        have hl13 : w0.heap.size ≤ g_13 := by have := hf.size; omega
        have hl_hfa_13 : w9.heap.size ≤ g_13 := by have := hfa.size; omega
        replace hf := hf.next hq
        replace hy := hy.ext hq
        replace hm := hm.ext hq
        replace hfa := hfa.next hq
        clear hq hz hg
        refine st_storeBA h rfl rfl hb13 rfl (by first | (simp [Value.oneCell', S]; done) | exact Enc.one _ _) sz45 ?_; clear h a; intro w11 hbn hq hz a h
        replace hf := hf.step hq (by first | (simp; done) | (simp; omega))
        replace hy := hy.fr hq (by first | (simp; done) | (simp; omega) | (simp [blks]; done) | (simp [blks]; omega))
        replace hm := hm.fr hq (by first | (simp; done) | (simp; omega) | (simp [blks]; done) | (simp [blks]; omega))
        replace hfa := hfa.step hq (by first | (simp; done) | (simp; omega))
        clear hb13 hq hz; have hb13 : Blk w11 g_13 _ [_] := hbn; clear hbn
        refine st_assign h rfl rfl ?_; clear h a; intro a h
        refine st_assign h rfl rfl ?_; clear h a; intro a h
        replace h : Ag a 172 [(6, _), (7, _), (13, _), (14, _), (15, _)] := h.sub (.cons rfl (.cons rfl (.cons rfl (.cons rfl (.cons rfl .nil)))))
        refine wpList_nil (norm_then ?_)
        refine wp_seq ?_
        refine wp_seq ?_
        refine wp_region_lit ?_
        refine st_move h rfl rfl ?_; clear h a; intro a h
        refine st_gt h rfl rfl rfl ?_; clear h a; intro a h
        replace h : Ag a 172 [(6, _), (7, _), (13, _), (14, _), (15, _), (116, _)] := h.sub (.cons rfl (.cons rfl (.cons rfl (.cons rfl (.cons rfl (.cons rfl .nil))))))
        refine wpList_nil (norm_then ?_)
        first | refine cond_dec h rfl (fun c10 => ?_) (fun c10 => ?_) | refine cond_ndec h rfl (fun c10 => ?_) (fun c10 => ?_) | refine cond_split h rfl (fun c10 => ?_) (fun c10 => ?_)
        · obtain ⟨e1, e2⟩ := f1 c10
          obtain ⟨rfl, rfl, rfl⟩ := hb (by rw [e1]; decide)
          rw [e1, e2] at h
          refine wp_seq ?_
          refine wp_region_lit ?_
          refine st_move h rfl rfl ?_; clear h a; intro a h
          refine st_eq h rfl rfl rfl ?_; clear h a; intro a h
          refine st_move h rfl rfl ?_; clear h a; intro a h
          first | refine guard_dec (D := 119) h rfl ?_ ?_ | refine guard_ndec (D := 119) h rfl ?_ ?_ | refine guard_any (D := 119) h rfl ?_ ?_
          · clear h; intro g3 h
            refine gd_yes h rfl rfl rfl rfl rfl rfl ?_
            refine st_move h rfl rfl ?_; clear h a; intro a h
            refine gd_yes h rfl rfl rfl rfl rfl rfl ?_
            refine st_move h rfl rfl ?_; clear h a; intro a h
            refine gd_yes h rfl rfl rfl rfl rfl rfl ?_
            refine st_eq h rfl rfl rfl ?_; clear h a; intro a h
            refine st_pick_t h rfl rfl rfl rfl ?_; clear h a; intro a h
            refine st_move h rfl rfl ?_; clear h a; intro a h
            first | refine guard_dec (D := 124) h rfl ?_ ?_ | refine guard_ndec (D := 124) h rfl ?_ ?_ | refine guard_any (D := 124) h rfl ?_ ?_
            · clear h; intro g4 h
              refine gd_yes h rfl rfl rfl rfl rfl rfl ?_
              refine st_fieldAddr h rfl fa45_0 rfl ?_; clear h a; intro a h
              refine gd_yes h rfl rfl rfl rfl rfl rfl ?_
              refine st_loadB h rfl hb13 rfl na43 rfl ?_; clear h a; intro a h
              refine gd_yes h rfl rfl rfl rfl rfl rfl ?_
              refine st_lenS h rfl Tryd.underlying43 rfl ?_; clear h a; intro a h
              refine gd_yes h rfl rfl rfl rfl rfl rfl ?_
              refine st_eq h rfl rfl rfl ?_; clear h a; intro a h
              refine st_pick_t h rfl rfl rfl rfl ?_; clear h a; intro a h
              refine st_move h rfl rfl ?_; clear h a; intro a h
              first | refine guard_dec (D := 130) h rfl ?_ ?_ | refine guard_ndec (D := 130) h rfl ?_ ?_ | refine guard_any (D := 130) h rfl ?_ ?_
              · clear h; intro g5 h
                refine gd_yes h rfl rfl rfl rfl rfl rfl ?_
                refine st_call h evs_nil co12 (lives_ok _ hy) rfl ?_; clear h a; rintro _ w12 ⟨rfl, hq⟩ a h
                replace hf := hf.next hq
                replace hy := hy.ext hq
                replace hm := hm.ext hq
                replace hfa := hfa.next hq
                replace hb13 := hb13.ext hq
                clear hq
                refine st_pick_t h rfl rfl rfl rfl ?_; clear h a; intro a h
                refine st_assign h rfl rfl ?_; clear h a; intro a h
                replace h : Ag a 172 [(4, _)] := h.sub (.cons rfl .nil)
                refine wpList_nil (norm_then ?_)
                refine wp_ret (ret_then ?_)
                refine ret1 h Tryd.results7 rfl ?_
                first | exact ⟨_, rfl, rfl, hf⟩ | (exfalso; first | omega | simp_all)
              · clear h; intro g5 h
                refine gd_no h rfl rfl rfl rfl rfl rfl rfl rfl ?_; clear h a; intro a h
                refine st_pick_f h rfl rfl rfl rfl ?_; clear h a; intro a h
                refine st_assign h rfl rfl ?_; clear h a; intro a h
                replace h : Ag a 172 [(4, _)] := h.sub (.cons rfl .nil)
                refine wpList_nil (norm_then ?_)
                refine wp_ret (ret_then ?_)
                refine ret1 h Tryd.results7 rfl ?_
                first | exact ⟨_, rfl, rfl, hf⟩ | (exfalso; first | omega | simp_all)
            · clear h; intro g4 h
              refine gd_no h rfl rfl rfl rfl rfl rfl rfl rfl ?_; clear h a; intro a h
              refine gd_no h rfl rfl rfl rfl rfl rfl rfl rfl ?_; clear h a; intro a h
              refine gd_no h rfl rfl rfl rfl rfl rfl rfl rfl ?_; clear h a; intro a h
              refine gd_no h rfl rfl rfl rfl rfl rfl rfl rfl ?_; clear h a; intro a h
              refine st_pick_f h rfl rfl rfl rfl ?_; clear h a; intro a h
              refine st_move h rfl rfl ?_; clear h a; intro a h
              refine gd_no h rfl rfl rfl rfl rfl rfl rfl rfl ?_; clear h a; intro a h
              refine st_pick_f h rfl rfl rfl rfl ?_; clear h a; intro a h
              refine st_assign h rfl rfl ?_; clear h a; intro a h
              replace h : Ag a 172 [(4, _)] := h.sub (.cons rfl .nil)
              refine wpList_nil (norm_then ?_)
              refine wp_ret (ret_then ?_)
              refine ret1 h Tryd.results7 rfl ?_
              first | exact ⟨_, rfl, rfl, hf⟩ | (exfalso; first | omega | simp_all)
          · clear h; intro g3 h
            refine gd_no h rfl rfl rfl rfl rfl rfl rfl rfl ?_; clear h a; intro a h
            refine gd_no h rfl rfl rfl rfl rfl rfl rfl rfl ?_; clear h a; intro a h
            refine gd_no h rfl rfl rfl rfl rfl rfl rfl rfl ?_; clear h a; intro a h
            refine st_pick_f h rfl rfl rfl rfl ?_; clear h a; intro a h
            refine st_move h rfl rfl ?_; clear h a; intro a h
            refine gd_no h rfl rfl rfl rfl rfl rfl rfl rfl ?_; clear h a; intro a h
            refine gd_no h rfl rfl rfl rfl rfl rfl rfl rfl ?_; clear h a; intro a h
            refine gd_no h rfl rfl rfl rfl rfl rfl rfl rfl ?_; clear h a; intro a h
            refine gd_no h rfl rfl rfl rfl rfl rfl rfl rfl ?_; clear h a; intro a h
            refine st_pick_f h rfl rfl rfl rfl ?_; clear h a; intro a h
            refine st_move h rfl rfl ?_; clear h a; intro a h
            refine gd_no h rfl rfl rfl rfl rfl rfl rfl rfl ?_; clear h a; intro a h
            refine st_pick_f h rfl rfl rfl rfl ?_; clear h a; intro a h
            refine st_assign h rfl rfl ?_; clear h a; intro a h
            replace h : Ag a 172 [(4, _)] := h.sub (.cons rfl .nil)
            refine wpList_nil (norm_then ?_)
            refine wp_ret (ret_then ?_)
            refine ret1 h Tryd.results7 rfl ?_
            first | exact ⟨_, rfl, rfl, hf⟩ | (exfalso; first | omega | simp_all)
        · obtain ⟨e1, e2, e3⟩ := f2 c10
          obtain ⟨rfl, rfl, g3, g4⟩ := hg e1
          rw [e2] at h g3 g4
          obtain ⟨AA, ac, rfl, hac, hacm⟩ := hAll.form
          refine wp_skip (norm_then ?_)
          refine wp_seq ?_
          refine wp_region_lit ?_
          refine st_move h rfl rfl ?_; clear h a; intro a h
          refine st_lit (cs := [_]) h (evs_cons rfl evs_nil) bo45 (pok_cons rfl rfl rfl pok_nil) rfl rfl ?_; clear h a; intro a h
          refine st_call h (evs_cons rfl evs_nil) co21 (refchart_ok _ _ _ (hAll.ext hfa) (rowsOf_ok ls)) rfl ?_; clear h a; rintro _ w13 ⟨LX, rfl, hq⟩ a h
          replace hf := hf.next hq
          replace hy := hy.ext hq
          replace hm := hm.ext hq
          replace hfa := hfa.next hq
          replace hb13 := hb13.ext hq
          clear hq
          refine st_move h rfl rfl ?_; clear h a; intro a h
          refine st_extract h rfl rfl rfl ?_; clear h a; intro a h
          refine st_extract h rfl rfl rfl ?_; clear h a; intro a h
          refine st_assign h rfl rfl ?_; clear h a; intro a h
          refine st_assign h rfl rfl ?_; clear h a; intro a h
          replace h : Ag a 172 [(7, _), (13, _), (14, _), (15, _), (17, _)] := h.sub (.cons rfl (.cons rfl (.cons rfl (.cons rfl (.cons rfl .nil)))))
          refine wpList_nil (norm_then ?_)
          refine wp_seq ?_
          refine wp_seq ?_
          refine wp_region_lit ?_
          refine st_move h rfl rfl ?_; clear h a; intro a h
          refine st_move h rfl rfl ?_; clear h a; intro a h
          refine st_ne h rfl rfl rfl ?_; clear h a; intro a h
          refine st_move h rfl rfl ?_; clear h a; intro a h
          first | refine guard_dec (D := 142) h rfl ?_ ?_ | refine guard_ndec (D := 142) h rfl ?_ ?_ | refine guard_any (D := 142) h rfl ?_ ?_
          · clear h; intro g6 h
            refine gd_no h rfl rfl rfl rfl rfl rfl rfl rfl ?_; clear h a; intro a h
            refine gd_no h rfl rfl rfl rfl rfl rfl rfl rfl ?_; clear h a; intro a h
            refine st_pick_t h rfl rfl rfl rfl ?_; clear h a; intro a h
            replace h : Ag a 172 [(7, _), (13, _), (17, _), (145, _)] := h.sub (.cons rfl (.cons rfl (.cons rfl (.cons rfl .nil))))
            refine wpList_nil (norm_then ?_)
            refine cond_true h rfl ?_
            refine wp_seq ?_
            refine wp_region_lit ?_
            refine st_assign h rfl rfl ?_; clear h a; intro a h
            replace h : Ag a 172 [(4, _)] := h.sub (.cons rfl .nil)
            refine wpList_nil (norm_then ?_)
            refine wp_ret (ret_then ?_)
            refine ret1 h Tryd.results7 rfl ?_
            first | exact ⟨_, rfl, rfl, hf⟩ | (exfalso; first | omega | simp_all)
          · clear h; intro g6 h
            refine gd_yes h rfl rfl rfl rfl rfl rfl ?_
            refine st_move h rfl rfl ?_; clear h a; intro a h
            refine gd_yes h rfl rfl rfl rfl rfl rfl ?_
            refine st_ne h rfl rfl rfl ?_; clear h a; intro a h
            refine st_pick_f h rfl rfl rfl rfl ?_; clear h a; intro a h
            replace h : Ag a 172 [(7, _), (13, _), (17, _), (145, _)] := h.sub (.cons rfl (.cons rfl (.cons rfl (.cons rfl .nil))))
            refine wpList_nil (norm_then ?_)
            first | refine cond_dec h rfl (fun c11 => ?_) (fun c11 => ?_) | refine cond_ndec h rfl (fun c11 => ?_) (fun c11 => ?_) | refine cond_split h rfl (fun c11 => ?_) (fun c11 => ?_)
            · refine id ?_
              refine wp_seq ?_
              refine wp_region_lit ?_
              refine st_assign h rfl rfl ?_; clear h a; intro a h
              replace h : Ag a 172 [(4, _)] := h.sub (.cons rfl .nil)
              refine wpList_nil (norm_then ?_)
              refine wp_ret (ret_then ?_)
              refine ret1 h Tryd.results7 rfl ?_
              first | exact ⟨_, rfl, rfl, hf⟩ | (exfalso; first | omega | simp_all)
            · refine id ?_
              refine wp_skip (norm_then ?_)
              refine wp_seq ?_
              refine wp_seq ?_
              refine wp_region_lit ?_
              refine st_move h rfl rfl ?_; clear h a; intro a h
              refine st_ne h rfl rfl rfl ?_; clear h a; intro a h
              replace h : Ag a 172 [(7, _), (13, _), (147, _)] := h.sub (.cons rfl (.cons rfl (.cons rfl .nil)))
              refine wpList_nil (norm_then ?_)
              first | refine cond_dec h rfl (fun c12 => ?_) (fun c12 => ?_) | refine cond_ndec h rfl (fun c12 => ?_) (fun c12 => ?_) | refine cond_split h rfl (fun c12 => ?_) (fun c12 => ?_)
              · obtain rfl := g3 c12
                refine wp_seq ?_
                refine wp_region_lit ?_
                refine st_fieldAddr h rfl fa45_0 rfl ?_; clear h a; intro a h
                refine st_loadB h rfl hb13 rfl na43 rfl ?_; clear h a; intro a h
                refine st_lenS h rfl Tryd.underlying43 rfl ?_; clear h a; intro a h
                refine st_eq h rfl rfl rfl ?_; clear h a; intro a h
                refine st_move h rfl rfl ?_; clear h a; intro a h
                first | refine guard_dec (D := 152) h rfl ?_ ?_ | refine guard_ndec (D := 152) h rfl ?_ ?_ | refine guard_any (D := 152) h rfl ?_ ?_
                · clear h; intro g7 h
                  refine gd_yes h rfl rfl rfl rfl rfl rfl ?_
                  refine st_call h evs_nil co12 (lives_ok _ hy) rfl ?_; clear h a; rintro _ w14 ⟨rfl, hq⟩ a h
                  replace hf := hf.next hq
                  replace hy := hy.ext hq
                  replace hm := hm.ext hq
                  replace hfa := hfa.next hq
                  replace hb13 := hb13.ext hq
                  clear hq
                  refine st_pick_t h rfl rfl rfl rfl ?_; clear h a; intro a h
                  refine st_assign h rfl rfl ?_; clear h a; intro a h
                  replace h : Ag a 172 [(4, _)] := h.sub (.cons rfl .nil)
                  refine wpList_nil (norm_then ?_)
                  refine wp_ret (ret_then ?_)
                  refine ret1 h Tryd.results7 rfl ?_
                  first | exact ⟨_, rfl, rfl, hf⟩ | (exfalso; first | omega | simp_all)
                · clear h; intro g7 h
                  refine gd_no h rfl rfl rfl rfl rfl rfl rfl rfl ?_; clear h a; intro a h
                  refine st_pick_f h rfl rfl rfl rfl ?_; clear h a; intro a h
                  refine st_assign h rfl rfl ?_; clear h a; intro a h
                  replace h : Ag a 172 [(4, _)] := h.sub (.cons rfl .nil)
                  refine wpList_nil (norm_then ?_)
                  refine wp_ret (ret_then ?_)
                  refine ret1 h Tryd.results7 rfl ?_
                  first | exact ⟨_, rfl, rfl, hf⟩ | (exfalso; first | omega | simp_all)
              · obtain ⟨rfl, hgs⟩ := g4 (Decidable.not_not.1 c12)
                rw [e3 (Decidable.not_not.1 c12)] at hgs
                replace hgs := hgs.ext hfa
                refine wp_skip (norm_then ?_)
                refine wp_seq ?_
                refine wp_region_lit ?_
                refine st_loadBA h rfl hb13 ag45 rfl ?_; clear h a; intro a h
                refine st_move h rfl rfl ?_; clear h a; intro a h
                refine st_lit (cs := [_]) h (evs_cons rfl evs_nil) bo45 (pok_cons rfl rfl rfl pok_nil) rfl rfl ?_; clear h a; intro a h
                refine st_call h (evs_cons rfl (evs_cons rfl evs_nil)) co22 (differ2_ok _ _ _ _ _ hgs (hAll.ext hfa)) rfl ?_; clear h a; rintro _ w15 ⟨rfl, hq⟩ a h
                replace hf := hf.next hq
                replace hy := hy.ext hq
                replace hm := hm.ext hq
                replace hfa := hfa.next hq
                replace hb13 := hb13.ext hq
                clear hq
                rw [if_pos rfl] at h
                refine st_eq h rfl rfl rfl ?_; clear h a; intro a h
                refine st_move h rfl rfl ?_; clear h a; intro a h
                first | refine guard_dec (D := 160) h rfl ?_ ?_ | refine guard_ndec (D := 160) h rfl ?_ ?_ | refine guard_any (D := 160) h rfl ?_ ?_
                · clear h; intro g8 h
                  refine gd_yes h rfl rfl rfl rfl rfl rfl ?_
                  refine st_fieldAddr h rfl fa45_0 rfl ?_; clear h a; intro a h
                  refine gd_yes h rfl rfl rfl rfl rfl rfl ?_
                  refine st_loadB h rfl hb13 rfl na43 rfl ?_; clear h a; intro a h
                  refine gd_yes h rfl rfl rfl rfl rfl rfl ?_
                  refine st_capS h rfl Tryd.underlying43 rfl ?_; clear h a; intro a h
                  refine gd_yes h rfl rfl rfl rfl rfl rfl ?_
                  refine st_fieldAddr h rfl fa45_0 rfl ?_; clear h a; intro a h
                  refine gd_yes h rfl rfl rfl rfl rfl rfl ?_
                  refine st_loadB h rfl hb13 rfl na43 rfl ?_; clear h a; intro a h
                  refine gd_yes h rfl rfl rfl rfl rfl rfl ?_
                  refine st_lenS h rfl Tryd.underlying43 rfl ?_; clear h a; intro a h
                  refine gd_yes h rfl rfl rfl rfl rfl rfl ?_
                  refine st_eq h rfl rfl rfl ?_; clear h a; intro a h
                  refine st_pick_t h rfl rfl rfl rfl ?_; clear h a; intro a h
                  refine st_move h rfl rfl ?_; clear h a; intro a h
                  first | refine guard_dec (D := 169) h rfl ?_ ?_ | refine guard_ndec (D := 169) h rfl ?_ ?_ | refine guard_any (D := 169) h rfl ?_ ?_
                  · clear h; intro g9 h
                    refine gd_yes h rfl rfl rfl rfl rfl rfl ?_
                    refine st_call h evs_nil co12 (lives_ok _ hy) rfl ?_; clear h a; rintro _ w16 ⟨rfl, hq⟩ a h
                    replace hf := hf.next hq
                    replace hy := hy.ext hq
                    replace hm := hm.ext hq
                    replace hfa := hfa.next hq
                    replace hb13 := hb13.ext hq
                    clear hq
                    refine st_pick_t h rfl rfl rfl rfl ?_; clear h a; intro a h
                    refine st_assign h rfl rfl ?_; clear h a; intro a h
                    replace h : Ag a 172 [(4, _)] := h.sub (.cons rfl .nil)
                    refine wpList_nil (norm_then ?_)
                    refine wp_ret ?_
                    refine ret1 h Tryd.results7 rfl ?_
                    first | exact ⟨_, rfl, rfl, hf⟩ | (exfalso; first | omega | simp_all)
                  · clear h; intro g9 h
                    refine gd_no h rfl rfl rfl rfl rfl rfl rfl rfl ?_; clear h a; intro a h
                    refine st_pick_f h rfl rfl rfl rfl ?_; clear h a; intro a h
                    refine st_assign h rfl rfl ?_; clear h a; intro a h
                    replace h : Ag a 172 [(4, _)] := h.sub (.cons rfl .nil)
                    refine wpList_nil (norm_then ?_)
                    refine wp_ret ?_
                    refine ret1 h Tryd.results7 rfl ?_
                    first | exact ⟨_, rfl, rfl, hf⟩ | (exfalso; first | omega | simp_all)
                · clear h; intro g8 h
                  refine gd_no h rfl rfl rfl rfl rfl rfl rfl rfl ?_; clear h a; intro a h
                  refine gd_no h rfl rfl rfl rfl rfl rfl rfl rfl ?_; clear h a; intro a h
                  refine gd_no h rfl rfl rfl rfl rfl rfl rfl rfl ?_; clear h a; intro a h
                  refine gd_no h rfl rfl rfl rfl rfl rfl rfl rfl ?_; clear h a; intro a h
                  refine gd_no h rfl rfl rfl rfl rfl rfl rfl rfl ?_; clear h a; intro a h
                  refine gd_no h rfl rfl rfl rfl rfl rfl rfl rfl ?_; clear h a; intro a h
                  refine gd_no h rfl rfl rfl rfl rfl rfl rfl rfl ?_; clear h a; intro a h
                  refine st_pick_f h rfl rfl rfl rfl ?_; clear h a; intro a h
                  refine st_move h rfl rfl ?_; clear h a; intro a h
                  refine gd_no h rfl rfl rfl rfl rfl rfl rfl rfl ?_; clear h a; intro a h
                  refine st_pick_f h rfl rfl rfl rfl ?_; clear h a; intro a h
                  refine st_assign h rfl rfl ?_; clear h a; intro a h
                  replace h : Ag a 172 [(4, _)] := h.sub (.cons rfl .nil)
                  refine wpList_nil (norm_then ?_)
                  refine wp_ret ?_
                  refine ret1 h Tryd.results7 rfl ?_
                  first | exact ⟨_, rfl, rfl, hf⟩ | (exfalso; first | omega | simp_all)
end Go.Proofs.YtbbnampdgefljaaDoor
namespace Go.Lw
open Go.ChangeShapes Go.WideShapes Go.ChangeAt Go.RowKit

/-- What is read at a type lies in cells as E says, and R is known of it. -/
def Opens (P : Program) (t : TypeId) {α : Type} (E : Enc α) (R : World → α → Prop) : Prop :=
  ∀ (H : Type) (enc : TypeId × Value → H) (w : World) (base : Nat) (sp : Nat → Bool) (held : Bool) (fuel : Nat) (cs : List Value) (x : DataW H × List MemPlace),
    DataW.trod enc P w base sp held fuel t cs = some x → ∃ y, cs = E.enc y ∧ R w y
def Enc.int (k : IntKind) : Enc Int := ⟨fun n => [.int k n], 1, fun _ => rfl, fun _ u h => by simp at h; subst h; rfl, by decide⟩
def Enc.bool : Enc Bool := ⟨fun n => [.bool n], 1, fun _ => rfl, fun _ u h => by simp at h; subst h; rfl, by decide⟩
def SlR {α : Type} (E : Enc α) (R : World → α → Prop) (w : World) (v : SV) : Prop := ∃ ys, Sl E w (slv v) ys ∧ ∀ y ∈ ys, R w y
section
variable {P : Program} {t e : TypeId}
theorem opens_int {k : IntKind} (hu : P.underlying t = some (.int k)) : Opens P t (Enc.int k) (fun _ n => k.min ≤ n ∧ n ≤ k.max) := by
  intro H enc w base sp held fuel cs x h
  obtain ⟨n, rfl, _, hw⟩ := DataW.trod_int hu h
  refine ⟨n, rfl, ?_⟩
  simpa [Lit.wf] using hw
theorem opens_i64 (hu : P.underlying t = some (.int .i64)) : Opens P t Enc.i64 (fun _ n => -9223372036854775808 ≤ n ∧ n ≤ 9223372036854775807) := by
  intro H enc w base sp held fuel cs x h
  obtain ⟨n, rfl, r⟩ := opens_int hu H enc w base sp held fuel cs x h
  exact ⟨n, rfl, r⟩
theorem opens_u8 (hu : P.underlying t = some (.int .u8)) : Opens P t Enc.u8 (fun _ n => 0 ≤ n ∧ n ≤ 255) := by
  intro H enc w base sp held fuel cs x h
  obtain ⟨n, rfl, r⟩ := opens_int hu H enc w base sp held fuel cs x h
  exact ⟨n, rfl, r⟩
theorem opens_b (hu : P.underlying t = some (.int .u8)) : Opens P t Enc.b (fun _ _ => True) := by
  intro H enc w base sp held fuel cs x h
  obtain ⟨n, rfl, r⟩ := opens_u8 hu H enc w base sp held fuel cs x h
  refine ⟨UInt8.ofNat n.toNat, ?_, trivial⟩
  show [Value.int .u8 n] = [Value.int .u8 (((UInt8.ofNat n.toNat).toNat : Nat) : Int)]
  rw [UInt8.toNat_ofNat', Nat.mod_eq_of_lt (by omega)]
  congr 2
  omega
theorem opens_bool (hu : P.underlying t = some .bool) : Opens P t Enc.bool (fun _ _ => True) := by
  intro H enc w base sp held fuel cs x h
  obtain ⟨b, rfl, _⟩ := DataW.trod_bool hu h
  exact ⟨b, rfl, trivial⟩
theorem opens_str (hu : P.underlying t = some .string) : Opens P t Enc.str (fun _ l => l.length ≤ 9223372036854775807) := by
  intro H enc w base sp held fuel cs x h
  obtain ⟨s, rfl, _, hs⟩ := DataW.trod_string hu h
  exact ⟨s.data.toList, by simp [Enc.str, S], str_len hs⟩
theorem opens_slice {α : Type} {E : Enc α} {R : World → α → Prop} (hu : P.underlying t = some (.slice e)) (hc : P.cellsOf e = E.sz) (ho : Opens P e E R) : Opens P t Enc.sl (SlR E R) := by
  intro H enc w base sp held fuel cs x h
  rcases DataW.trod_slice hu h with ⟨rfl, _⟩ | ⟨ad, len, cap, elems, rest, n, _, rfl, _, hb, hl, hm, hlen, hel, _⟩
  · exact ⟨(none, 0, 0), rfl, [], Sl.nil w, by simp⟩
  have each : ∀ i, i < len → ∃ y, Cells w (ad.add (i * E.sz)) (E.enc y) ∧ R w y := by
    intro i hi
    have h1 := hel i hi
    rw [List.getElem?_eq_getElem (by omega), Option.bind_eq_some_iff, hc] at h1
    obtain ⟨cs', h2, h3⟩ := h1
    obtain ⟨y, rfl, hR⟩ := ho H enc w base sp held n cs' _ h3
    obtain ⟨_, h5, h6⟩ := World.cells?_some h2
    refine ⟨y, fun j u hj => ?_, hR⟩
    have hjl : j < E.sz := by rw [← E.len y]; exact (List.getElem?_eq_some_iff.1 hj).1
    rw [h6 j hjl, hj]
  have all : ∀ m, m ≤ len → ∃ ys : List α, ys.length = m ∧ ∀ i y, ys[i]? = some y → Cells w (ad.add (i * E.sz)) (E.enc y) ∧ R w y := by
    intro m
    induction m with
    | zero => exact fun _ => ⟨[], rfl, fun i y h => by simp at h⟩
    | succ m ih =>
      intro hm
      obtain ⟨ys, h1, h2⟩ := ih (by omega)
      obtain ⟨y, h3⟩ := each m (by omega)
      refine ⟨ys ++ [y], by simp [h1], fun i z hz => ?_⟩
      rcases Nat.lt_or_ge i m with hi | hi
      · rw [List.getElem?_append_left (by omega)] at hz
        exact h2 i z hz
      · have hi' : i = m := by
          have := (List.getElem?_eq_some_iff.1 hz).1
          simp [h1] at this; omega
        subst hi'
        rw [List.getElem?_append_right (by omega), h1, Nat.sub_self] at hz
        simp at hz; subst hz
        exact h3
  obtain ⟨ys, h1, h2⟩ := all len (Nat.le_refl _)
  refine ⟨(some ad, len, cap), rfl, ys, ⟨some ad, cap, by simp [slv, h1], by omega, hm, fun i y hy => ⟨ad, rfl, (h2 i y hy).1⟩⟩, fun y hy => ?_⟩
  obtain ⟨i, hi⟩ := List.getElem?_of_mem hy
  exact (h2 i y hi).2
/-- A field of a struct. -/
theorem opens_field {H : Type} {enc : TypeId × Value → H} {w : World} {base : Nat} {sp : Nat → Bool} {held : Bool} {n : Nat} {cs : List Value} {xs : List (DataW H × List MemPlace)} {f : TypeId} {α : Type} {E : Enc α} {R : World → α → Prop} {i m : Nat}
    (h : DataW.trod enc P w base sp held n f cs = xs[i]?) (hl : xs.length = m) (hi : i < m) (ho : Opens P f E R) : ∃ y, cs = E.enc y ∧ R w y := by
  rw [List.getElem?_eq_getElem (by omega)] at h
  exact ho H enc w base sp held n cs _ h
theorem arg_slice {H : Type} {enc : TypeId × Value → H} {w : World} {base b0 : Nat} {r : Reach} {sp : Nat → Bool} {held : Bool} {v : Value} {d : DataW H} {ps : List MemPlace} {α : Type} {E : Enc α} {R : World → α → Prop}
    (hu : P.underlying t = some (.slice e)) (hc : P.cellsOf e = E.sz) (ho : Opens P e E R) (hv : Value.okWide P w r b0 t v) (hd : DataW.Trod enc P w base sp held t v d ps) : ∃ ys, Sl E w v ys ∧ ∀ y ∈ ys, R w y := by
  obtain ⟨A, m, c, rfl⟩ := okWide_slice hu hv
  obtain ⟨fuel, hf⟩ := hd
  obtain ⟨⟨A', m', c'⟩, h1, h2⟩ := opens_slice hu hc ho H enc w base sp held fuel _ _ hf
  simp [Value.cells, Enc.sl] at h1
  obtain ⟨rfl, rfl, rfl⟩ := h1
  exact h2
theorem arg_struct {H : Type} {enc : TypeId × Value → H} {w : World} {base b0 : Nat} {r : Reach} {sp : Nat → Bool} {held : Bool} {v : Value} {d : DataW H} {ps : List MemPlace} {α : Type} {E : Enc α} {R : World → α → Prop} {fs : Array Field}
    (hu : P.underlying t = some (.struct fs)) (ho : Opens P t E R) (hv : Value.okWide P w r b0 t v) (hd : DataW.Trod enc P w base sp held t v d ps) : ∃ y, v = .agg (E.enc y).toArray ∧ R w y := by
  simp only [Value.okWide, hu] at hv
  obtain ⟨cs, rfl, _⟩ := hv
  obtain ⟨fuel, hf⟩ := hd
  obtain ⟨y, h1, h2⟩ := ho H enc w base sp held fuel _ _ hf
  refine ⟨y, ?_, h2⟩
  have h1' : cs.toList = E.enc y := h1
  rw [← h1']
theorem arg_one {H : Type} {enc : TypeId × Value → H} {w : World} {base : Nat} {sp : Nat → Bool} {held : Bool} {v : Value} {d : DataW H} {ps : List MemPlace} {α : Type} {E : Enc α} {R : World → α → Prop}
    (ho : Opens P t E R) (hd : DataW.Trod enc P w base sp held t v d ps) : ∃ y, v.cells.toList = E.enc y ∧ R w y := by
  obtain ⟨fuel, hf⟩ := hd
  exact ho H enc w base sp held fuel _ _ hf
end
end Go.Lw
namespace Go.Proofs.YtbbnampdgefljaaDoor
open Go.Lw Go.G14
def encC : Enc (Int × SV) := ⟨fun p => [.int .u8 p.1, slv p.2], 2, fun _ => rfl, fun _ u h => by simp [slv] at h; rcases h with rfl | rfl <;> rfl, by decide⟩
theorem opSt_len {cs : List Value} (h : cs.length = 5) : ∃ c0 c1 c2 c3 c4, cs = [c0, c1, c2, c3, c4] := match cs, h with | [c0, c1, c2, c3, c4], _ => ⟨c0, c1, c2, c3, c4, rfl⟩
theorem opSt : Opens Tryd.prog 36 encSt (fun _ s => 0 ≤ s.k ∧ s.k ≤ 255 ∧ 0 ≤ s.y ∧ s.y ≤ 255 ∧ -9223372036854775808 ≤ s.a ∧ s.a ≤ 9223372036854775807 ∧ -9223372036854775808 ≤ s.b ∧ s.b ≤ 9223372036854775807) := by
  intro H enc w base sp held fuel cs x h
  obtain ⟨xs, n, _, _, hl, hlen, hf⟩ := DataW.trod_struct Tryd.underlying36 h
  rw [show Tryd.prog.cellsOf 36 = 5 by kernel_rfl] at hl
  obtain ⟨c0, c1, c2, c3, c4, rfl⟩ := opSt_len hl
  have h0 : DataW.trod enc Tryd.prog w base sp held n 34 (([c0, c1, c2, c3, c4].drop 0).take (Tryd.prog.cellsOf 34)) = xs[0]? := hf 0 _ rfl
  rw [show Tryd.prog.cellsOf 34 = 1 by kernel_rfl] at h0
  obtain ⟨y0, e0, r0⟩ := opens_field (cs := [c0]) h0 hlen (by decide) (opens_u8 Tryd.underlying34)
  have h1 : DataW.trod enc Tryd.prog w base sp held n 5 (([c0, c1, c2, c3, c4].drop 1).take (Tryd.prog.cellsOf 5)) = xs[1]? := hf 1 _ rfl
  rw [show Tryd.prog.cellsOf 5 = 1 by kernel_rfl] at h1
  obtain ⟨y1, e1, r1⟩ := opens_field (cs := [c1]) h1 hlen (by decide) (opens_u8 Tryd.underlying5)
  have h2 : DataW.trod enc Tryd.prog w base sp held n 3 (([c0, c1, c2, c3, c4].drop 2).take (Tryd.prog.cellsOf 3)) = xs[2]? := hf 2 _ rfl
  rw [show Tryd.prog.cellsOf 3 = 1 by kernel_rfl] at h2
  obtain ⟨y2, e2, r2⟩ := opens_field (cs := [c2]) h2 hlen (by decide) (opens_i64 Tryd.underlying3)
  have h3 : DataW.trod enc Tryd.prog w base sp held n 3 (([c0, c1, c2, c3, c4].drop 3).take (Tryd.prog.cellsOf 3)) = xs[3]? := hf 3 _ rfl
  rw [show Tryd.prog.cellsOf 3 = 1 by kernel_rfl] at h3
  obtain ⟨y3, e3, r3⟩ := opens_field (cs := [c3]) h3 hlen (by decide) (opens_i64 Tryd.underlying3)
  have h4 : DataW.trod enc Tryd.prog w base sp held n 4 (([c0, c1, c2, c3, c4].drop 4).take (Tryd.prog.cellsOf 4)) = xs[4]? := hf 4 _ rfl
  rw [show Tryd.prog.cellsOf 4 = 1 by kernel_rfl] at h4
  obtain ⟨y4, e4, r4⟩ := opens_field (cs := [c4]) h4 hlen (by decide) (opens_bool Tryd.underlying4)
  cases e0
  cases e1
  cases e2
  cases e3
  cases e4
  exact ⟨⟨y0, y1, y2, y3, y4⟩, rfl, ⟨r0.1, r0.2, r1.1, r1.2, r2.1, r2.2, r3.1, r3.2⟩⟩
theorem opC_len {cs : List Value} (h : cs.length = 2) : ∃ c0 c1, cs = [c0, c1] := match cs, h with | [c0, c1], _ => ⟨c0, c1, rfl⟩
theorem opC : Opens Tryd.prog 42 encC (fun w y => (0 ≤ y.1 ∧ y.1 ≤ 255) ∧ SlR Enc.sl (SlR Enc.b (fun _ _ => True)) w y.2) := by
  intro H enc w base sp held fuel cs x h
  obtain ⟨xs, n, _, _, hl, hlen, hf⟩ := DataW.trod_struct Tryd.underlying42 h
  rw [show Tryd.prog.cellsOf 42 = 2 by kernel_rfl] at hl
  obtain ⟨c0, c1, rfl⟩ := opC_len hl
  have h0 : DataW.trod enc Tryd.prog w base sp held n 5 (([c0, c1].drop 0).take (Tryd.prog.cellsOf 5)) = xs[0]? := hf 0 _ rfl
  rw [show Tryd.prog.cellsOf 5 = 1 by kernel_rfl] at h0
  obtain ⟨y0, e0, r0⟩ := opens_field (cs := [c0]) h0 hlen (by decide) (opens_u8 Tryd.underlying5)
  have h1 : DataW.trod enc Tryd.prog w base sp held n 40 (([c0, c1].drop 1).take (Tryd.prog.cellsOf 40)) = xs[1]? := hf 1 _ rfl
  rw [show Tryd.prog.cellsOf 40 = 1 by kernel_rfl] at h1
  obtain ⟨y1, e1, r1⟩ := opens_field (cs := [c1]) h1 hlen (by decide) (opens_slice Tryd.underlying40 (by kernel_rfl) (opens_slice Tryd.underlying58 (by kernel_rfl) (opens_b Tryd.underlying5)))
  cases e0
  cases e1
  exact ⟨(y0, y1), rfl, ⟨r0, r1⟩⟩
end Go.Proofs.YtbbnampdgefljaaDoor
