/- Walks. -/
import Derived.Test.YtbbnampdgefljaaDoorW19
import Derived.Test.YtbbnampdgefljaaDoorXRowOf
import Derived.Test.YtbbnampdgefljaaDoorXMake
import Derived.Test.YtbbnampdgefljaaDoorXTwice
set_option linter.unusedVariables false
set_option linter.unusedSimpArgs false
namespace Go.Proofs.YtbbnampdgefljaaDoor
open Go.Lw Go.G14
theorem ag42 : AggOf Tryd.prog 42 2 := ⟨fun _ => by kernel_rfl, fun _ => by kernel_rfl⟩
theorem co18 : CallOf Tryd.prog 18 := CallOf.mk' Tryd.func18 (by kernel_rfl) (by kernel_rfl)
set_option maxHeartbeats 1000000 in
theorem law_twice (wd : Int) (v : Value) (w0 : World) (hw : 0 ≤ wd ∧ wd ≤ 255) (hv : ∃ hs, Sl Enc.sl w0 v hs ∧ ∀ p ∈ hs, ∃ cs, Sl Enc.b w0 (slv p) cs) (hy : Sym w0) : Rets Tryd.prog 6 #[.agg #[.int .u8 wd, v]] w0 fun v w' => v = .bool true ∧ Fr [] w0 w' := by
  obtain ⟨hds, hsl0, hin0⟩ := hv
  obtain ⟨HA, hc, rfl, hcp⟩ := hsl0.form
  refine enter [(0, .agg #[.int .u8 wd, .slice HA hds.length hc])] Tryd.func6 rfl Tryd.ntmps6 rfl (.cons rfl .nil) ?_
  have hf := Fr.refl [] w0
  intro a h
  refine wp_seq ?_
  refine wp_region_lit ?_
  refine st_box h rfl rfl rfl ?_; clear h a; intro w1 hb1 hq hz a h
  obtain ⟨g_1, hg⟩ : ∃ g, g = w0.heap.size := ⟨_, rfl⟩; rw [← hg] at hb1 h hz
  have hl1 : w0.heap.size ≤ g_1 := by have := hf.size; omega
  replace hf := hf.next hq
  replace hy := hy.ext hq
  clear hq hz hg
  refine st_assign h rfl rfl ?_; clear h a; intro a h
  replace h : Ag a 101 [(1, _)] := h.sub (.cons rfl .nil)
  refine wpList_nil (norm_then ?_)
  refine wp_seq ?_
  refine wp_region_lit ?_
  refine st_loadBA h rfl hb1 ag42 rfl ?_; clear h a; intro a h
  refine st_call h (evs_cons rfl evs_nil) co18 (cof_ok wd _ _ hw ⟨hds, hsl0.ext hf, fun p hp => let ⟨cs, h⟩ := hin0 p hp; ⟨cs, h.ext hf⟩⟩) rfl ?_; clear h a; rintro _ w2 ⟨X, rows, rfl, hS, hne, hgood, hq⟩ a h
  replace hf := hf.next hq
  replace hy := hy.ext hq
  replace hb1 := hb1.ext hq
  clear hq
  obtain ⟨XA, xn, xc, rfl⟩ : ∃ A n c, X = .slice A n c := by obtain ⟨hs, hsl, _⟩ := hS; obtain ⟨A, c, rfl, _⟩ := hsl.form; exact ⟨_, _, _, rfl⟩
  have hfa := Fr.refl [] w2
  refine st_alloc h zv45 rfl rfl ?_; clear h a; intro w3 hb3 hq hz a h
  obtain ⟨g_3, hg⟩ : ∃ g, g = w2.heap.size := ⟨_, rfl⟩; rw [← hg] at hb3 h hz
  have hl3 : w0.heap.size ≤ g_3 := by have := hf.size; omega
  have hn_1_3 : g_1 < g_3 := by have := hb1.lt; omega
  have hl_hfa_3 : w2.heap.size ≤ g_3 := by have := hfa.size; omega
  replace hf := hf.next hq
  replace hy := hy.ext hq
  replace hb1 := hb1.ext hq
  replace hfa := hfa.next hq
  clear hq hz hg
  refine st_storeBA h rfl rfl hb3 rfl (by first | (simp [Value.oneCell', S]; done) | exact Enc.one _ _) sz45 ?_; clear h a; intro w4 hbn hq hz a h
  replace hf := hf.step hq (by first | (simp; done) | (simp; omega))
  replace hy := hy.fr hq (by first | (simp; done) | (simp; omega) | (simp [blks]; done) | (simp [blks]; omega))
  replace hb1 := hb1.fr hq (by first | (simp; done) | (simp; omega) | (simp [blks]; done) | (simp [blks]; omega))
  replace hfa := hfa.step hq (by first | (simp; done) | (simp; omega))
  clear hb3 hq hz; have hb3 : Blk w4 g_3 _ [_] := hbn; clear hbn
  replace h : Ag a 101 [(3, _)] := h.sub (.cons rfl .nil)
  refine wpList_nil (norm_then ?_)
  refine wp_seq ?_
  refine wp_region_lit ?_
  refine st_fieldAddr h rfl fa45_0 rfl ?_; clear h a; intro a h
  refine st_loadB h rfl hb3 rfl na43 rfl ?_; clear h a; intro a h
  replace hS := hS.ext hfa
  obtain ⟨hs, hsl, hln, hin⟩ := hS
  obtain ⟨r, rest, rfl⟩ := List.exists_cons_of_ne_nil hne
  obtain ⟨⟨RA, rn, rc⟩, hp⟩ : ∃ p, hs[0]? = some p := ⟨_, List.getElem?_eq_getElem (by rw [hln]; simp)⟩
  have hs : Sl encSt _ (.slice RA rn rc) r := hin 0 _ r hp rfl
  obtain ⟨rfl, hrc, -, -⟩ := Sl.open_ hs
  have hgr := hgood r (by simp)
  obtain ⟨f1, f2, f3, f4, f5, f6, f7⟩ := twice_facts hgr
  have hr8 := hgr.2.2
  refine st_idx (p := 0) h rfl rfl hsl el43 (by omega) rfl hp rfl ?_; clear h a; intro ad cc a h
  refine st_loadC0 (v := .slice RA r.length rc) h rfl cc na22 rfl ?_; clear h a; intro a h
  clear hb3 hb1
  refine st_assign h rfl rfl ?_; clear h a; intro a h
  replace h : Ag a 101 [(4, _)] := h.sub (.cons rfl .nil)
  refine wpList_nil (norm_then ?_)
  refine wp_seq ?_
  refine wp_seq ?_
  refine wp_region_lit ?_
  refine st_move h rfl rfl ?_; clear h a; intro a h
  refine st_lenS h rfl Tryd.underlying22 rfl ?_; clear h a; intro a h
  refine st_gt h rfl rfl rfl ?_; clear h a; intro a h
  replace h : Ag a 101 [(4, _), (22, _)] := h.sub (.cons rfl (.cons rfl .nil))
  refine wpList_nil (norm_then ?_)
  first | refine cond_dec h rfl (fun c0 => ?_) (fun c0 => ?_) | refine cond_ndec h rfl (fun c0 => ?_) (fun c0 => ?_) | refine cond_split h rfl (fun c0 => ?_) (fun c0 => ?_)
  · exfalso; omega
  · refine id ?_
    refine wp_skip (norm_then ?_)
    refine wp_seq ?_
    refine wp_region_lit ?_
    refine st_move h rfl rfl ?_; clear h a; intro a h
    refine st_call h (evs_cons rfl evs_nil) co14 (shorten_ok _ _ _ hs hy) rfl ?_; clear h a; rintro _ w5 ⟨rfl, hq⟩ a h
    replace hf := hf.next hq
    replace hy := hy.ext hq
    replace hs := hs.ext hq
    clear hq
    rw [f1] at h
    dsimp only at h
    refine st_move h rfl rfl ?_; clear h a; intro a h
    refine st_extract h rfl rfl rfl ?_; clear h a; intro a h
    refine st_extract h rfl rfl rfl ?_; clear h a; intro a h
    refine st_assign h rfl rfl ?_; clear h a; intro a h
    refine st_assign h rfl rfl ?_; clear h a; intro a h
    replace h : Ag a 101 [(4, _), (5, _), (6, _)] := h.sub (.cons rfl (.cons rfl (.cons rfl .nil)))
    refine wpList_nil (norm_then ?_)
    refine wp_seq ?_
    refine wp_region_lit ?_
    refine st_bslice ([] : List Stitch) h evs_nil rfl rfl rfl el22 (by decide) rfl ?_; clear h a; intro gE w6 hg hoE hq hz a h
    have hgE : w0.heap.size ≤ gE := by have := hf.size; omega
    have hg0 : 0 < gE := by have := hy.pos; omega
    have hsE : ∀ k ∈ blks (.slice RA r.length rc), k < gE := by have := hs.blk hgr.1; intro k hk; have := this k hk; omega
    replace hf := hf.next hq
    replace hy := hy.ext hq
    replace hs := hs.ext hq
    clear hq hz hg
    refine st_move h rfl rfl ?_; clear h a; intro a h
    have hbO := hoE.blk
    refine st_append h rfl rfl hoE hs el22 (by unfold maxLen; simp; omega) (by simp; omega) (Nat.le_of_lt (hbO gE (by simp [blks])).2) rfl ?_; clear h a; intro V6 w7 ho_V6 hq hx3 a h
    replace hs := hs.fr hq (fun k hk hb => by have := (hbO k hk).1; have := hsE k hb; omega)
    replace hy := hy.fr hq (fun hb => by have := (hbO _ hb).1; omega)
    replace hf := hf.step hq (fun k hk hlt => absurd (hbO k hk).1 (by omega))
    have hgs : gE ≤ w7.heap.size := Nat.le_trans (Nat.le_of_lt (hbO gE (by simp [blks])).2) hq.size
    clear hq hx3 hbO hoE
    refine st_move h rfl rfl ?_; clear h a; intro a h
    have hbO := ho_V6.blk
    refine st_append h rfl rfl ho_V6 hs el22 (by unfold maxLen; simp; omega) (by simp; omega) (hgs) rfl ?_; clear h a; intro V7 w8 ho_V7 hq hx3 a h
    replace hs := hs.fr hq (fun k hk hb => by have := (hbO k hk).1; have := hsE k hb; omega)
    replace hy := hy.fr hq (fun hb => by have := (hbO _ hb).1; omega)
    replace hf := hf.step hq (fun k hk hlt => absurd (hbO k hk).1 (by omega))
    have hgs : gE ≤ w8.heap.size := Nat.le_trans (hgs) hq.size
    clear hq hx3 hbO ho_V6
    obtain ⟨VA, vc, rfl, hvc⟩ := ho_V7.sl.form
    rw [List.nil_append] at ho_V7 h
    refine st_assign h rfl rfl ?_; clear h a; intro a h
    replace h : Ag a 101 [(5, _), (6, _), (7, _)] := h.sub (.cons rfl (.cons rfl (.cons rfl .nil)))
    refine wpList_nil (norm_then ?_)
    refine wp_seq ?_
    refine wp_region_lit ?_
    refine st_move h rfl rfl ?_; clear h a; intro a h
    refine st_call h (evs_cons rfl evs_nil) co14 (shorten_ok _ _ _ ho_V7.sl hy) rfl ?_; clear h a; rintro _ w9 ⟨rfl, hq⟩ a h
    replace hf := hf.next hq
    replace hy := hy.ext hq
    replace hs := hs.ext hq
    replace ho_V7 := ho_V7.ext hq
    clear hq
    rw [f2] at h
    dsimp only at h
    refine st_move h rfl rfl ?_; clear h a; intro a h
    refine st_extract h rfl rfl rfl ?_; clear h a; intro a h
    refine st_extract h rfl rfl rfl ?_; clear h a; intro a h
    refine st_assign h rfl rfl ?_; clear h a; intro a h
    refine st_assign h rfl rfl ?_; clear h a; intro a h
    replace h : Ag a 101 [(5, _), (6, _), (7, _), (8, _), (9, _)] := h.sub (.cons rfl (.cons rfl (.cons rfl (.cons rfl (.cons rfl .nil)))))
    refine wpList_nil (norm_then ?_)
    refine wp_seq ?_
    refine wp_region_lit ?_
    refine st_move h rfl rfl ?_; clear h a; intro a h
    refine st_adds h rfl rfl (by first | (simp; done) | (simp; omega)) rfl ?_; clear h a; intro a h
    refine st_adds h rfl rfl (by first | (simp; done) | (simp; omega)) rfl ?_; clear h a; intro a h
    refine st_call h (evs_cons rfl evs_nil) co10 (expand_ok _ _ hy (by simp; omega)) rfl ?_; clear h a; rintro _ w10 ⟨xa, xac, rfl, rfl, hoxa, hq⟩ a h
    replace hf := hf.next hq
    replace hy := hy.ext hq
    replace hs := hs.ext hq
    replace ho_V7 := ho_V7.ext hq
    clear hq
    rw [f3] at h hoxa
    refine st_move h rfl rfl ?_; clear h a; intro a h
    refine st_extract h rfl rfl rfl ?_; clear h a; intro a h
    refine st_extract h rfl rfl rfl ?_; clear h a; intro a h
    refine st_assign h rfl rfl ?_; clear h a; intro a h
    refine st_assign h rfl rfl ?_; clear h a; intro a h
    replace h : Ag a 101 [(5, _), (6, _), (7, _), (8, _), (9, _), (10, _), (11, _)] := h.sub (.cons rfl (.cons rfl (.cons rfl (.cons rfl (.cons rfl (.cons rfl (.cons rfl .nil)))))))
    refine wpList_nil (norm_then ?_)
    refine wp_seq ?_
    refine wp_region_lit ?_
    refine st_move h rfl rfl ?_; clear h a; intro a h
    refine st_adds h rfl rfl (by first | (simp; done) | (simp; omega)) rfl ?_; clear h a; intro a h
    refine st_move h rfl rfl ?_; clear h a; intro a h
    refine st_adds h rfl rfl (by simp; omega) rfl ?_; clear h a; intro a h
    refine st_call h (evs_cons rfl evs_nil) co10 (expand_ok _ _ hy (by simp; omega)) rfl ?_; clear h a; rintro _ w11 ⟨xb, xbc, rfl, rfl, hoxb, hq⟩ a h
    replace hf := hf.next hq
    replace hy := hy.ext hq
    replace hs := hs.ext hq
    replace ho_V7 := ho_V7.ext hq
    replace hoxa := hoxa.ext hq
    clear hq
    rw [f4] at h hoxb
    refine st_move h rfl rfl ?_; clear h a; intro a h
    refine st_extract h rfl rfl rfl ?_; clear h a; intro a h
    refine st_extract h rfl rfl rfl ?_; clear h a; intro a h
    refine st_assign h rfl rfl ?_; clear h a; intro a h
    refine st_assign h rfl rfl ?_; clear h a; intro a h
    replace h : Ag a 101 [(5, _), (6, _), (7, _), (8, _), (9, _), (10, _), (11, _), (12, _), (13, _)] := h.sub (.cons rfl (.cons rfl (.cons rfl (.cons rfl (.cons rfl (.cons rfl (.cons rfl (.cons rfl (.cons rfl .nil)))))))))
    refine wpList_nil (norm_then ?_)
    refine wp_seq ?_
    refine wp_region_lit ?_
    refine st_move h rfl rfl ?_; clear h a; intro a h
    refine st_eq h rfl rfl rfl ?_; clear h a; intro a h
    refine st_move h rfl rfl ?_; clear h a; intro a h
    first | refine guard_dec (D := 57) h rfl ?_ ?_ | refine guard_ndec (D := 57) h rfl ?_ ?_ | refine guard_any (D := 57) h rfl ?_ ?_
    · clear h; intro g0 h
      refine gd_yes h rfl rfl rfl rfl rfl rfl ?_
      refine st_move h rfl rfl ?_; clear h a; intro a h
      refine gd_yes h rfl rfl rfl rfl rfl rfl ?_
      refine st_eq h rfl rfl rfl ?_; clear h a; intro a h
      refine st_pick_t h rfl rfl rfl rfl ?_; clear h a; intro a h
      refine st_move h rfl rfl ?_; clear h a; intro a h
      first | refine guard_dec (D := 61) h rfl ?_ ?_ | refine guard_ndec (D := 61) h rfl ?_ ?_ | refine guard_any (D := 61) h rfl ?_ ?_
      · clear h; intro g1 h
        refine gd_yes h rfl rfl rfl rfl rfl rfl ?_
        refine st_move h rfl rfl ?_; clear h a; intro a h
        refine gd_yes h rfl rfl rfl rfl rfl rfl ?_
        refine st_eq h rfl rfl rfl ?_; clear h a; intro a h
        refine st_pick_t h rfl rfl rfl rfl ?_; clear h a; intro a h
        refine st_move h rfl rfl ?_; clear h a; intro a h
        first | refine guard_dec (D := 65) h rfl ?_ ?_ | refine guard_ndec (D := 65) h rfl ?_ ?_ | refine guard_any (D := 65) h rfl ?_ ?_
        · clear h; intro g2 h
          refine gd_yes h rfl rfl rfl rfl rfl rfl ?_
          refine st_move h rfl rfl ?_; clear h a; intro a h
          refine gd_yes h rfl rfl rfl rfl rfl rfl ?_
          refine st_eq h rfl rfl rfl ?_; clear h a; intro a h
          refine st_pick_t h rfl rfl rfl rfl ?_; clear h a; intro a h
          refine st_move h rfl rfl ?_; clear h a; intro a h
          first | refine guard_dec (D := 69) h rfl ?_ ?_ | refine guard_ndec (D := 69) h rfl ?_ ?_ | refine guard_any (D := 69) h rfl ?_ ?_
          · clear h; intro g3 h
            refine gd_yes h rfl rfl rfl rfl rfl rfl ?_
            refine st_move h rfl rfl ?_; clear h a; intro a h
            refine gd_yes h rfl rfl rfl rfl rfl rfl ?_
            refine st_move h rfl rfl ?_; clear h a; intro a h
            refine gd_yes h rfl rfl rfl rfl rfl rfl ?_
            refine st_call h (evs_cons rfl (evs_cons rfl evs_nil)) co13 (differ_ok _ _ _ _ _ hoxa.sl ho_V7.sl) rfl ?_; clear h a; rintro _ w12 ⟨rfl, hq⟩ a h
            replace hf := hf.next hq
            replace hy := hy.ext hq
            replace hs := hs.ext hq
            replace ho_V7 := ho_V7.ext hq
            replace hoxa := hoxa.ext hq
            replace hoxb := hoxb.ext hq
            clear hq
            rw [if_pos rfl] at h
            refine gd_yes h rfl rfl rfl rfl rfl rfl ?_
            refine st_eq h rfl rfl rfl ?_; clear h a; intro a h
            refine st_pick_t h rfl rfl rfl rfl ?_; clear h a; intro a h
            refine st_move h rfl rfl ?_; clear h a; intro a h
            first | refine guard_dec (D := 75) h rfl ?_ ?_ | refine guard_ndec (D := 75) h rfl ?_ ?_ | refine guard_any (D := 75) h rfl ?_ ?_
            · clear h; intro g4 h
              refine gd_yes h rfl rfl rfl rfl rfl rfl ?_
              refine st_move h rfl rfl ?_; clear h a; intro a h
              refine gd_yes h rfl rfl rfl rfl rfl rfl ?_
              refine st_move h rfl rfl ?_; clear h a; intro a h
              refine gd_yes h rfl rfl rfl rfl rfl rfl ?_
              refine st_call h (evs_cons rfl (evs_cons rfl evs_nil)) co13 (differ_ok _ _ _ _ _ hoxb.sl ho_V7.sl) rfl ?_; clear h a; rintro _ w13 ⟨rfl, hq⟩ a h
              replace hf := hf.next hq
              replace hy := hy.ext hq
              replace hs := hs.ext hq
              replace ho_V7 := ho_V7.ext hq
              replace hoxa := hoxa.ext hq
              replace hoxb := hoxb.ext hq
              clear hq
              rw [if_pos rfl] at h
              refine gd_yes h rfl rfl rfl rfl rfl rfl ?_
              refine st_eq h rfl rfl rfl ?_; clear h a; intro a h
              refine st_pick_t h rfl rfl rfl rfl ?_; clear h a; intro a h
              refine st_move h rfl rfl ?_; clear h a; intro a h
              first | refine guard_dec (D := 81) h rfl ?_ ?_ | refine guard_ndec (D := 81) h rfl ?_ ?_ | refine guard_any (D := 81) h rfl ?_ ?_
              · clear h; intro g5 h
                refine gd_yes h rfl rfl rfl rfl rfl rfl ?_
                refine st_move h rfl rfl ?_; clear h a; intro a h
                refine gd_yes h rfl rfl rfl rfl rfl rfl ?_
                refine st_len h rfl Tryd.underlying9 rfl ?_; clear h a; intro a h
                refine gd_yes h rfl rfl rfl rfl rfl rfl ?_
                refine st_move h rfl rfl ?_; clear h a; intro a h
                refine gd_yes h rfl rfl rfl rfl rfl rfl ?_
                refine st_len h rfl Tryd.underlying9 rfl ?_; clear h a; intro a h
                refine gd_yes h rfl rfl rfl rfl rfl rfl ?_
                refine st_add h rfl rfl (by first | exact IntWalk.i64_in _ (by omega) | rfl) rfl ?_; clear h a; intro a h
                refine gd_yes h rfl rfl rfl rfl rfl rfl ?_
                refine st_le h rfl rfl rfl ?_; clear h a; intro a h
                refine st_pick_t h rfl rfl rfl rfl ?_; clear h a; intro a h
                refine st_move h rfl rfl ?_; clear h a; intro a h
                first | refine guard_dec (D := 89) h rfl ?_ ?_ | refine guard_ndec (D := 89) h rfl ?_ ?_ | refine guard_any (D := 89) h rfl ?_ ?_
                · clear h; intro g6 h
                  refine gd_yes h rfl rfl rfl rfl rfl rfl ?_
                  refine st_move h rfl rfl ?_; clear h a; intro a h
                  refine gd_yes h rfl rfl rfl rfl rfl rfl ?_
                  refine st_len h rfl Tryd.underlying9 rfl ?_; clear h a; intro a h
                  refine gd_yes h rfl rfl rfl rfl rfl rfl ?_
                  refine st_move h rfl rfl ?_; clear h a; intro a h
                  refine gd_yes h rfl rfl rfl rfl rfl rfl ?_
                  refine st_len h rfl Tryd.underlying9 rfl ?_; clear h a; intro a h
                  refine gd_yes h rfl rfl rfl rfl rfl rfl ?_
                  refine st_mul h rfl rfl (by first | exact IntWalk.i64_in _ (by omega) | rfl) rfl ?_; clear h a; intro a h
                  refine gd_yes h rfl rfl rfl rfl rfl rfl ?_
                  refine st_add h rfl rfl (by first | exact IntWalk.i64_in _ (by omega) | rfl) rfl ?_; clear h a; intro a h
                  refine gd_yes h rfl rfl rfl rfl rfl rfl ?_
                  refine st_le h rfl rfl rfl ?_; clear h a; intro a h
                  refine st_pick_t h rfl rfl rfl rfl ?_; clear h a; intro a h
                  refine st_move h rfl rfl ?_; clear h a; intro a h
                  first | refine guard_dec (D := 98) h rfl ?_ ?_ | refine guard_ndec (D := 98) h rfl ?_ ?_ | refine guard_any (D := 98) h rfl ?_ ?_
                  · clear h; intro g7 h
                    refine gd_yes h rfl rfl rfl rfl rfl rfl ?_
                    refine st_call h evs_nil co12 (lives_ok _ hy) rfl ?_; clear h a; rintro _ w14 ⟨rfl, hq⟩ a h
                    replace hf := hf.next hq
                    replace hy := hy.ext hq
                    replace hs := hs.ext hq
                    replace ho_V7 := ho_V7.ext hq
                    replace hoxa := hoxa.ext hq
                    replace hoxb := hoxb.ext hq
                    clear hq
                    refine st_pick_t h rfl rfl rfl rfl ?_; clear h a; intro a h
                    refine st_assign h rfl rfl ?_; clear h a; intro a h
                    replace h : Ag a 101 [(2, _)] := h.sub (.cons rfl .nil)
                    refine wpList_nil (norm_then ?_)
                    refine wp_ret ?_
                    refine ret1 h Tryd.results6 rfl ?_
                    first | exact ⟨_, rfl, rfl, hf⟩ | (exfalso; first | omega | simp_all)
                  · clear h; intro g7 h
                    refine gd_no h rfl rfl rfl rfl rfl rfl rfl rfl ?_; clear h a; intro a h
                    refine st_pick_f h rfl rfl rfl rfl ?_; clear h a; intro a h
                    refine st_assign h rfl rfl ?_; clear h a; intro a h
                    replace h : Ag a 101 [(2, _)] := h.sub (.cons rfl .nil)
                    refine wpList_nil (norm_then ?_)
                    refine wp_ret ?_
                    refine ret1 h Tryd.results6 rfl ?_
                    first | exact ⟨_, rfl, rfl, hf⟩ | (exfalso; first | omega | simp_all)
                · clear h; intro g6 h
                  refine gd_no h rfl rfl rfl rfl rfl rfl rfl rfl ?_; clear h a; intro a h
                  refine gd_no h rfl rfl rfl rfl rfl rfl rfl rfl ?_; clear h a; intro a h
                  refine gd_no h rfl rfl rfl rfl rfl rfl rfl rfl ?_; clear h a; intro a h
                  refine gd_no h rfl rfl rfl rfl rfl rfl rfl rfl ?_; clear h a; intro a h
                  refine gd_no h rfl rfl rfl rfl rfl rfl rfl rfl ?_; clear h a; intro a h
                  refine gd_no h rfl rfl rfl rfl rfl rfl rfl rfl ?_; clear h a; intro a h
                  refine gd_no h rfl rfl rfl rfl rfl rfl rfl rfl ?_; clear h a; intro a h
                  refine st_pick_f h rfl rfl rfl rfl ?_; clear h a; intro a h
                  refine st_move h rfl rfl ?_; clear h a; intro a h
                  refine gd_no h rfl rfl rfl rfl rfl rfl rfl rfl ?_; clear h a; intro a h
                  refine st_pick_f h rfl rfl rfl rfl ?_; clear h a; intro a h
                  refine st_assign h rfl rfl ?_; clear h a; intro a h
                  replace h : Ag a 101 [(2, _)] := h.sub (.cons rfl .nil)
                  refine wpList_nil (norm_then ?_)
                  refine wp_ret ?_
                  refine ret1 h Tryd.results6 rfl ?_
                  first | exact ⟨_, rfl, rfl, hf⟩ | (exfalso; first | omega | simp_all)
              · clear h; intro g5 h
                refine gd_no h rfl rfl rfl rfl rfl rfl rfl rfl ?_; clear h a; intro a h
                refine gd_no h rfl rfl rfl rfl rfl rfl rfl rfl ?_; clear h a; intro a h
                refine gd_no h rfl rfl rfl rfl rfl rfl rfl rfl ?_; clear h a; intro a h
                refine gd_no h rfl rfl rfl rfl rfl rfl rfl rfl ?_; clear h a; intro a h
                refine gd_no h rfl rfl rfl rfl rfl rfl rfl rfl ?_; clear h a; intro a h
                refine gd_no h rfl rfl rfl rfl rfl rfl rfl rfl ?_; clear h a; intro a h
                refine st_pick_f h rfl rfl rfl rfl ?_; clear h a; intro a h
                refine st_move h rfl rfl ?_; clear h a; intro a h
                refine gd_no h rfl rfl rfl rfl rfl rfl rfl rfl ?_; clear h a; intro a h
                refine gd_no h rfl rfl rfl rfl rfl rfl rfl rfl ?_; clear h a; intro a h
                refine gd_no h rfl rfl rfl rfl rfl rfl rfl rfl ?_; clear h a; intro a h
                refine gd_no h rfl rfl rfl rfl rfl rfl rfl rfl ?_; clear h a; intro a h
                refine gd_no h rfl rfl rfl rfl rfl rfl rfl rfl ?_; clear h a; intro a h
                refine gd_no h rfl rfl rfl rfl rfl rfl rfl rfl ?_; clear h a; intro a h
                refine gd_no h rfl rfl rfl rfl rfl rfl rfl rfl ?_; clear h a; intro a h
                refine st_pick_f h rfl rfl rfl rfl ?_; clear h a; intro a h
                refine st_move h rfl rfl ?_; clear h a; intro a h
                refine gd_no h rfl rfl rfl rfl rfl rfl rfl rfl ?_; clear h a; intro a h
                refine st_pick_f h rfl rfl rfl rfl ?_; clear h a; intro a h
                refine st_assign h rfl rfl ?_; clear h a; intro a h
                replace h : Ag a 101 [(2, _)] := h.sub (.cons rfl .nil)
                refine wpList_nil (norm_then ?_)
                refine wp_ret ?_
                refine ret1 h Tryd.results6 rfl ?_
                first | exact ⟨_, rfl, rfl, hf⟩ | (exfalso; first | omega | simp_all)
            · clear h; intro g4 h
              refine gd_no h rfl rfl rfl rfl rfl rfl rfl rfl ?_; clear h a; intro a h
              refine gd_no h rfl rfl rfl rfl rfl rfl rfl rfl ?_; clear h a; intro a h
              refine gd_no h rfl rfl rfl rfl rfl rfl rfl rfl ?_; clear h a; intro a h
              refine gd_no h rfl rfl rfl rfl rfl rfl rfl rfl ?_; clear h a; intro a h
              refine st_pick_f h rfl rfl rfl rfl ?_; clear h a; intro a h
              refine st_move h rfl rfl ?_; clear h a; intro a h
              refine gd_no h rfl rfl rfl rfl rfl rfl rfl rfl ?_; clear h a; intro a h
              refine gd_no h rfl rfl rfl rfl rfl rfl rfl rfl ?_; clear h a; intro a h
              refine gd_no h rfl rfl rfl rfl rfl rfl rfl rfl ?_; clear h a; intro a h
              refine gd_no h rfl rfl rfl rfl rfl rfl rfl rfl ?_; clear h a; intro a h
              refine gd_no h rfl rfl rfl rfl rfl rfl rfl rfl ?_; clear h a; intro a h
              refine gd_no h rfl rfl rfl rfl rfl rfl rfl rfl ?_; clear h a; intro a h
              refine st_pick_f h rfl rfl rfl rfl ?_; clear h a; intro a h
              refine st_move h rfl rfl ?_; clear h a; intro a h
              refine gd_no h rfl rfl rfl rfl rfl rfl rfl rfl ?_; clear h a; intro a h
              refine gd_no h rfl rfl rfl rfl rfl rfl rfl rfl ?_; clear h a; intro a h
              refine gd_no h rfl rfl rfl rfl rfl rfl rfl rfl ?_; clear h a; intro a h
              refine gd_no h rfl rfl rfl rfl rfl rfl rfl rfl ?_; clear h a; intro a h
              refine gd_no h rfl rfl rfl rfl rfl rfl rfl rfl ?_; clear h a; intro a h
              refine gd_no h rfl rfl rfl rfl rfl rfl rfl rfl ?_; clear h a; intro a h
              refine gd_no h rfl rfl rfl rfl rfl rfl rfl rfl ?_; clear h a; intro a h
              refine st_pick_f h rfl rfl rfl rfl ?_; clear h a; intro a h
              refine st_move h rfl rfl ?_; clear h a; intro a h
              refine gd_no h rfl rfl rfl rfl rfl rfl rfl rfl ?_; clear h a; intro a h
              refine st_pick_f h rfl rfl rfl rfl ?_; clear h a; intro a h
              refine st_assign h rfl rfl ?_; clear h a; intro a h
              replace h : Ag a 101 [(2, _)] := h.sub (.cons rfl .nil)
              refine wpList_nil (norm_then ?_)
              refine wp_ret ?_
              refine ret1 h Tryd.results6 rfl ?_
              first | exact ⟨_, rfl, rfl, hf⟩ | (exfalso; first | omega | simp_all)
          · clear h; intro g3 h
            refine gd_no h rfl rfl rfl rfl rfl rfl rfl rfl ?_; clear h a; intro a h
            refine gd_no h rfl rfl rfl rfl rfl rfl rfl rfl ?_; clear h a; intro a h
            refine gd_no h rfl rfl rfl rfl rfl rfl rfl rfl ?_; clear h a; intro a h
            refine gd_no h rfl rfl rfl rfl rfl rfl rfl rfl ?_; clear h a; intro a h
            refine st_pick_f h rfl rfl rfl rfl ?_; clear h a; intro a h
            refine st_move h rfl rfl ?_; clear h a; intro a h
            refine gd_no h rfl rfl rfl rfl rfl rfl rfl rfl ?_; clear h a; intro a h
            refine gd_no h rfl rfl rfl rfl rfl rfl rfl rfl ?_; clear h a; intro a h
            refine gd_no h rfl rfl rfl rfl rfl rfl rfl rfl ?_; clear h a; intro a h
            refine gd_no h rfl rfl rfl rfl rfl rfl rfl rfl ?_; clear h a; intro a h
            refine st_pick_f h rfl rfl rfl rfl ?_; clear h a; intro a h
            refine st_move h rfl rfl ?_; clear h a; intro a h
            refine gd_no h rfl rfl rfl rfl rfl rfl rfl rfl ?_; clear h a; intro a h
            refine gd_no h rfl rfl rfl rfl rfl rfl rfl rfl ?_; clear h a; intro a h
            refine gd_no h rfl rfl rfl rfl rfl rfl rfl rfl ?_; clear h a; intro a h
            refine gd_no h rfl rfl rfl rfl rfl rfl rfl rfl ?_; clear h a; intro a h
            refine gd_no h rfl rfl rfl rfl rfl rfl rfl rfl ?_; clear h a; intro a h
            refine gd_no h rfl rfl rfl rfl rfl rfl rfl rfl ?_; clear h a; intro a h
            refine st_pick_f h rfl rfl rfl rfl ?_; clear h a; intro a h
            refine st_move h rfl rfl ?_; clear h a; intro a h
            refine gd_no h rfl rfl rfl rfl rfl rfl rfl rfl ?_; clear h a; intro a h
            refine gd_no h rfl rfl rfl rfl rfl rfl rfl rfl ?_; clear h a; intro a h
            refine gd_no h rfl rfl rfl rfl rfl rfl rfl rfl ?_; clear h a; intro a h
            refine gd_no h rfl rfl rfl rfl rfl rfl rfl rfl ?_; clear h a; intro a h
            refine gd_no h rfl rfl rfl rfl rfl rfl rfl rfl ?_; clear h a; intro a h
            refine gd_no h rfl rfl rfl rfl rfl rfl rfl rfl ?_; clear h a; intro a h
            refine gd_no h rfl rfl rfl rfl rfl rfl rfl rfl ?_; clear h a; intro a h
            refine st_pick_f h rfl rfl rfl rfl ?_; clear h a; intro a h
            refine st_move h rfl rfl ?_; clear h a; intro a h
            refine gd_no h rfl rfl rfl rfl rfl rfl rfl rfl ?_; clear h a; intro a h
            refine st_pick_f h rfl rfl rfl rfl ?_; clear h a; intro a h
            refine st_assign h rfl rfl ?_; clear h a; intro a h
            replace h : Ag a 101 [(2, _)] := h.sub (.cons rfl .nil)
            refine wpList_nil (norm_then ?_)
            refine wp_ret ?_
            refine ret1 h Tryd.results6 rfl ?_
            first | exact ⟨_, rfl, rfl, hf⟩ | (exfalso; first | omega | simp_all)
        · clear h; intro g2 h
          refine gd_no h rfl rfl rfl rfl rfl rfl rfl rfl ?_; clear h a; intro a h
          refine gd_no h rfl rfl rfl rfl rfl rfl rfl rfl ?_; clear h a; intro a h
          refine st_pick_f h rfl rfl rfl rfl ?_; clear h a; intro a h
          refine st_move h rfl rfl ?_; clear h a; intro a h
          refine gd_no h rfl rfl rfl rfl rfl rfl rfl rfl ?_; clear h a; intro a h
          refine gd_no h rfl rfl rfl rfl rfl rfl rfl rfl ?_; clear h a; intro a h
          refine gd_no h rfl rfl rfl rfl rfl rfl rfl rfl ?_; clear h a; intro a h
          refine gd_no h rfl rfl rfl rfl rfl rfl rfl rfl ?_; clear h a; intro a h
          refine st_pick_f h rfl rfl rfl rfl ?_; clear h a; intro a h
          refine st_move h rfl rfl ?_; clear h a; intro a h
          refine gd_no h rfl rfl rfl rfl rfl rfl rfl rfl ?_; clear h a; intro a h
          refine gd_no h rfl rfl rfl rfl rfl rfl rfl rfl ?_; clear h a; intro a h
          refine gd_no h rfl rfl rfl rfl rfl rfl rfl rfl ?_; clear h a; intro a h
          refine gd_no h rfl rfl rfl rfl rfl rfl rfl rfl ?_; clear h a; intro a h
          refine st_pick_f h rfl rfl rfl rfl ?_; clear h a; intro a h
          refine st_move h rfl rfl ?_; clear h a; intro a h
          refine gd_no h rfl rfl rfl rfl rfl rfl rfl rfl ?_; clear h a; intro a h
          refine gd_no h rfl rfl rfl rfl rfl rfl rfl rfl ?_; clear h a; intro a h
          refine gd_no h rfl rfl rfl rfl rfl rfl rfl rfl ?_; clear h a; intro a h
          refine gd_no h rfl rfl rfl rfl rfl rfl rfl rfl ?_; clear h a; intro a h
          refine gd_no h rfl rfl rfl rfl rfl rfl rfl rfl ?_; clear h a; intro a h
          refine gd_no h rfl rfl rfl rfl rfl rfl rfl rfl ?_; clear h a; intro a h
          refine st_pick_f h rfl rfl rfl rfl ?_; clear h a; intro a h
          refine st_move h rfl rfl ?_; clear h a; intro a h
          refine gd_no h rfl rfl rfl rfl rfl rfl rfl rfl ?_; clear h a; intro a h
          refine gd_no h rfl rfl rfl rfl rfl rfl rfl rfl ?_; clear h a; intro a h
          refine gd_no h rfl rfl rfl rfl rfl rfl rfl rfl ?_; clear h a; intro a h
          refine gd_no h rfl rfl rfl rfl rfl rfl rfl rfl ?_; clear h a; intro a h
          refine gd_no h rfl rfl rfl rfl rfl rfl rfl rfl ?_; clear h a; intro a h
          refine gd_no h rfl rfl rfl rfl rfl rfl rfl rfl ?_; clear h a; intro a h
          refine gd_no h rfl rfl rfl rfl rfl rfl rfl rfl ?_; clear h a; intro a h
          refine st_pick_f h rfl rfl rfl rfl ?_; clear h a; intro a h
          refine st_move h rfl rfl ?_; clear h a; intro a h
          refine gd_no h rfl rfl rfl rfl rfl rfl rfl rfl ?_; clear h a; intro a h
          refine st_pick_f h rfl rfl rfl rfl ?_; clear h a; intro a h
          refine st_assign h rfl rfl ?_; clear h a; intro a h
          replace h : Ag a 101 [(2, _)] := h.sub (.cons rfl .nil)
          refine wpList_nil (norm_then ?_)
          refine wp_ret ?_
          refine ret1 h Tryd.results6 rfl ?_
          first | exact ⟨_, rfl, rfl, hf⟩ | (exfalso; first | omega | simp_all)
      · clear h; intro g1 h
        refine gd_no h rfl rfl rfl rfl rfl rfl rfl rfl ?_; clear h a; intro a h
        refine gd_no h rfl rfl rfl rfl rfl rfl rfl rfl ?_; clear h a; intro a h
        refine st_pick_f h rfl rfl rfl rfl ?_; clear h a; intro a h
        refine st_move h rfl rfl ?_; clear h a; intro a h
        refine gd_no h rfl rfl rfl rfl rfl rfl rfl rfl ?_; clear h a; intro a h
        refine gd_no h rfl rfl rfl rfl rfl rfl rfl rfl ?_; clear h a; intro a h
        refine st_pick_f h rfl rfl rfl rfl ?_; clear h a; intro a h
        refine st_move h rfl rfl ?_; clear h a; intro a h
        refine gd_no h rfl rfl rfl rfl rfl rfl rfl rfl ?_; clear h a; intro a h
        refine gd_no h rfl rfl rfl rfl rfl rfl rfl rfl ?_; clear h a; intro a h
        refine gd_no h rfl rfl rfl rfl rfl rfl rfl rfl ?_; clear h a; intro a h
        refine gd_no h rfl rfl rfl rfl rfl rfl rfl rfl ?_; clear h a; intro a h
        refine st_pick_f h rfl rfl rfl rfl ?_; clear h a; intro a h
        refine st_move h rfl rfl ?_; clear h a; intro a h
        refine gd_no h rfl rfl rfl rfl rfl rfl rfl rfl ?_; clear h a; intro a h
        refine gd_no h rfl rfl rfl rfl rfl rfl rfl rfl ?_; clear h a; intro a h
        refine gd_no h rfl rfl rfl rfl rfl rfl rfl rfl ?_; clear h a; intro a h
        refine gd_no h rfl rfl rfl rfl rfl rfl rfl rfl ?_; clear h a; intro a h
        refine st_pick_f h rfl rfl rfl rfl ?_; clear h a; intro a h
        refine st_move h rfl rfl ?_; clear h a; intro a h
        refine gd_no h rfl rfl rfl rfl rfl rfl rfl rfl ?_; clear h a; intro a h
        refine gd_no h rfl rfl rfl rfl rfl rfl rfl rfl ?_; clear h a; intro a h
        refine gd_no h rfl rfl rfl rfl rfl rfl rfl rfl ?_; clear h a; intro a h
        refine gd_no h rfl rfl rfl rfl rfl rfl rfl rfl ?_; clear h a; intro a h
        refine gd_no h rfl rfl rfl rfl rfl rfl rfl rfl ?_; clear h a; intro a h
        refine gd_no h rfl rfl rfl rfl rfl rfl rfl rfl ?_; clear h a; intro a h
        refine st_pick_f h rfl rfl rfl rfl ?_; clear h a; intro a h
        refine st_move h rfl rfl ?_; clear h a; intro a h
        refine gd_no h rfl rfl rfl rfl rfl rfl rfl rfl ?_; clear h a; intro a h
        refine gd_no h rfl rfl rfl rfl rfl rfl rfl rfl ?_; clear h a; intro a h
        refine gd_no h rfl rfl rfl rfl rfl rfl rfl rfl ?_; clear h a; intro a h
        refine gd_no h rfl rfl rfl rfl rfl rfl rfl rfl ?_; clear h a; intro a h
        refine gd_no h rfl rfl rfl rfl rfl rfl rfl rfl ?_; clear h a; intro a h
        refine gd_no h rfl rfl rfl rfl rfl rfl rfl rfl ?_; clear h a; intro a h
        refine gd_no h rfl rfl rfl rfl rfl rfl rfl rfl ?_; clear h a; intro a h
        refine st_pick_f h rfl rfl rfl rfl ?_; clear h a; intro a h
        refine st_move h rfl rfl ?_; clear h a; intro a h
        refine gd_no h rfl rfl rfl rfl rfl rfl rfl rfl ?_; clear h a; intro a h
        refine st_pick_f h rfl rfl rfl rfl ?_; clear h a; intro a h
        refine st_assign h rfl rfl ?_; clear h a; intro a h
        replace h : Ag a 101 [(2, _)] := h.sub (.cons rfl .nil)
        refine wpList_nil (norm_then ?_)
        refine wp_ret ?_
        refine ret1 h Tryd.results6 rfl ?_
        first | exact ⟨_, rfl, rfl, hf⟩ | (exfalso; first | omega | simp_all)
    · clear h; intro g0 h
      refine gd_no h rfl rfl rfl rfl rfl rfl rfl rfl ?_; clear h a; intro a h
      refine gd_no h rfl rfl rfl rfl rfl rfl rfl rfl ?_; clear h a; intro a h
      refine st_pick_f h rfl rfl rfl rfl ?_; clear h a; intro a h
      refine st_move h rfl rfl ?_; clear h a; intro a h
      refine gd_no h rfl rfl rfl rfl rfl rfl rfl rfl ?_; clear h a; intro a h
      refine gd_no h rfl rfl rfl rfl rfl rfl rfl rfl ?_; clear h a; intro a h
      refine st_pick_f h rfl rfl rfl rfl ?_; clear h a; intro a h
      refine st_move h rfl rfl ?_; clear h a; intro a h
      refine gd_no h rfl rfl rfl rfl rfl rfl rfl rfl ?_; clear h a; intro a h
      refine gd_no h rfl rfl rfl rfl rfl rfl rfl rfl ?_; clear h a; intro a h
      refine st_pick_f h rfl rfl rfl rfl ?_; clear h a; intro a h
      refine st_move h rfl rfl ?_; clear h a; intro a h
      refine gd_no h rfl rfl rfl rfl rfl rfl rfl rfl ?_; clear h a; intro a h
      refine gd_no h rfl rfl rfl rfl rfl rfl rfl rfl ?_; clear h a; intro a h
      refine gd_no h rfl rfl rfl rfl rfl rfl rfl rfl ?_; clear h a; intro a h
      refine gd_no h rfl rfl rfl rfl rfl rfl rfl rfl ?_; clear h a; intro a h
      refine st_pick_f h rfl rfl rfl rfl ?_; clear h a; intro a h
      refine st_move h rfl rfl ?_; clear h a; intro a h
      refine gd_no h rfl rfl rfl rfl rfl rfl rfl rfl ?_; clear h a; intro a h
      refine gd_no h rfl rfl rfl rfl rfl rfl rfl rfl ?_; clear h a; intro a h
      refine gd_no h rfl rfl rfl rfl rfl rfl rfl rfl ?_; clear h a; intro a h
      refine gd_no h rfl rfl rfl rfl rfl rfl rfl rfl ?_; clear h a; intro a h
      refine st_pick_f h rfl rfl rfl rfl ?_; clear h a; intro a h
      refine st_move h rfl rfl ?_; clear h a; intro a h
      refine gd_no h rfl rfl rfl rfl rfl rfl rfl rfl ?_; clear h a; intro a h
      refine gd_no h rfl rfl rfl rfl rfl rfl rfl rfl ?_; clear h a; intro a h
      refine gd_no h rfl rfl rfl rfl rfl rfl rfl rfl ?_; clear h a; intro a h
      refine gd_no h rfl rfl rfl rfl rfl rfl rfl rfl ?_; clear h a; intro a h
      refine gd_no h rfl rfl rfl rfl rfl rfl rfl rfl ?_; clear h a; intro a h
      refine gd_no h rfl rfl rfl rfl rfl rfl rfl rfl ?_; clear h a; intro a h
      refine st_pick_f h rfl rfl rfl rfl ?_; clear h a; intro a h
      refine st_move h rfl rfl ?_; clear h a; intro a h
      refine gd_no h rfl rfl rfl rfl rfl rfl rfl rfl ?_; clear h a; intro a h
      refine gd_no h rfl rfl rfl rfl rfl rfl rfl rfl ?_; clear h a; intro a h
      refine gd_no h rfl rfl rfl rfl rfl rfl rfl rfl ?_; clear h a; intro a h
      refine gd_no h rfl rfl rfl rfl rfl rfl rfl rfl ?_; clear h a; intro a h
      refine gd_no h rfl rfl rfl rfl rfl rfl rfl rfl ?_; clear h a; intro a h
      refine gd_no h rfl rfl rfl rfl rfl rfl rfl rfl ?_; clear h a; intro a h
      refine gd_no h rfl rfl rfl rfl rfl rfl rfl rfl ?_; clear h a; intro a h
      refine st_pick_f h rfl rfl rfl rfl ?_; clear h a; intro a h
      refine st_move h rfl rfl ?_; clear h a; intro a h
      refine gd_no h rfl rfl rfl rfl rfl rfl rfl rfl ?_; clear h a; intro a h
      refine st_pick_f h rfl rfl rfl rfl ?_; clear h a; intro a h
      refine st_assign h rfl rfl ?_; clear h a; intro a h
      replace h : Ag a 101 [(2, _)] := h.sub (.cons rfl .nil)
      refine wpList_nil (norm_then ?_)
      refine wp_ret ?_
      refine ret1 h Tryd.results6 rfl ?_
      first | exact ⟨_, rfl, rfl, hf⟩ | (exfalso; first | omega | simp_all)
end Go.Proofs.YtbbnampdgefljaaDoor
