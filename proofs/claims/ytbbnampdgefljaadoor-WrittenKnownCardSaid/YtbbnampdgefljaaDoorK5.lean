/- Texts of the proof, joined: W20 XSll XChart W21 W22 XScope W23 W24 W25 XLine XShelf Shelf -/
import Derived.Test.YtbbnampdgefljaaDoorRows
import Derived.Scope
import Derived.Lib.IndexMore
import Derived.WalkSmall
import Derived.Shelf.Strings.Builder1
import Derived.Shelf.Strings.BuilderF
import Derived.Shelf.Strings.BuilderK
import Derived.Shelf.Strconv.Itoa0
import Derived.Shelf.Strconv.Itoa1
import Derived.Shelf.LaysM
import Derived.Shelf.Strconv.Itoa2
import Derived.Shelf.Strconv.Itoa3
import Derived.Shelf.Strings.Search1
import Derived.Shelf.Strings.Search2
import Derived.Shelf.Strings.Cut
import Derived.Shelf.Strings.Shaped
import Derived.Shelf.Strings.Prefix
import Derived.Test.YtbbnampdgefljaaDoorProg
import Derived.Test.YtbbnampdgefljaaDoorK4
set_option linter.unusedVariables false
set_option linter.unusedSimpArgs false
namespace Go.Proofs.YtbbnampdgefljaaDoor
open Go.Lw Go.G14
theorem ag42 : AggOf Tryd.prog 42 2 := ⟨fun _ => by kernel_rfl, fun _ => by kernel_rfl⟩
theorem co18 : CallOf Tryd.prog 18 := CallOf.mk' Tryd.func18 (by kernel_rfl) (by kernel_rfl)
set_option maxHeartbeats 1000000 in
theorem law_twice (wd : Int) (v : Value) (w0 : World) (hw : 0 ≤ wd ∧ wd ≤ 255) (hv : ∃ hs, Sl Enc.sl w0 v hs ∧ ∀ p ∈ hs, ∃ cs, Sl Enc.b w0 (slv p) cs) (hy : Sym w0) : Rets Tryd.prog 6 #[.agg #[.int .u8 wd, v]] w0 fun v w' => v = .bool true ∧ Fr [] w0 w' := by
 obtain ⟨hds, hsl0, hin0⟩ := hv
 obtain ⟨HA, hc, rfl, hcp⟩ := hsl0.form
 refine enter [(0, .agg #[.int .u8 wd, .slice HA hds.length hc])] Tryd.func6 rfl Tryd.ntmps6 rfl (.cons rfl .nil) ?_
 have hf := Fr.refl [] w0
 intro a h
 refine wp_seq ?_
 refine wR ?_
 refine st_box h rfl rfl rfl ?_; clear h a; intro w1 hb1 hq hz a h
 obtain ⟨g_1, hg⟩ : ∃ g, g = w0.heap.size := ⟨_, rfl⟩; rw [← hg] at hb1 h hz
 have hl1 : w0.heap.size ≤ g_1 := by have := hf.size; omega
 replace hf := hf.next hq
 replace hy := hy.ext hq
 clear hq hz hg
 refine st_assign h rfl rfl ?_; clear h a; intro a h
 replace h : Ag a 101 [(1, _)] := h.sub (.cons rfl .nil)
 refine wnt ?_
 refine wp_seq ?_
 refine wR ?_
 refine st_loadBA h rfl hb1 ag42 rfl ?_; clear h a; intro a h
 refine st_call h (evs_cons rfl evs_nil) co18 (cof_ok wd _ _ hw ⟨hds, hsl0.ext hf, fun p hp => let ⟨cs, h⟩ := hin0 p hp; ⟨cs, h.ext hf⟩⟩) rfl ?_; clear h a; rintro _ w2 ⟨X, rows, rfl, hS, hne, hgood, hq⟩ a h
 replace hf := hf.next hq
 replace hy := hy.ext hq
 replace hb1 := hb1.ext hq
 clear hq
 obtain ⟨XA, xn, xc, rfl⟩ : ∃ A n c, X = .slice A n c := by obtain ⟨hs, hsl, _⟩ := hS; obtain ⟨A, c, rfl, _⟩ := hsl.form; exact ⟨_, _, _, rfl⟩
 have hfa := Fr.refl [] w2
 refine st_alloc h zv45 rfl rfl ?_; clear h a; intro w3 hb3 hq hz a h
 obtain ⟨g_3, hg⟩ : ∃ g, g = w2.heap.size := ⟨_, rfl⟩; rw [← hg] at hb3 h hz
 have hl3 : w0.heap.size ≤ g_3 := by have := hf.size; omega
 have hn_1_3 : g_1 < g_3 := by have := hb1.lt; omega
 have hl_hfa_3 : w2.heap.size ≤ g_3 := by have := hfa.size; omega
 replace hf := hf.next hq
 replace hy := hy.ext hq
 replace hb1 := hb1.ext hq
 replace hfa := hfa.next hq
 clear hq hz hg
 refine st_storeBA h rfl rfl hb3 rfl (by first | (simp [Value.oneCell', S]; done) | exact Enc.one _ _) sz45 ?_; clear h a; intro w4 hbn hq hz a h
 replace hf := hf.step hq (by first | (simp; done) | (simp; omega))
 replace hy := hy.fr hq (by first | (simp; done) | (simp; omega) | (simp [blks]; done) | (simp [blks]; omega))
 replace hb1 := hb1.fr hq (by first | (simp; done) | (simp; omega) | (simp [blks]; done) | (simp [blks]; omega))
 replace hfa := hfa.step hq (by first | (simp; done) | (simp; omega))
 clear hb3 hq hz; have hb3 : Blk w4 g_3 _ [_] := hbn; clear hbn
 replace h : Ag a 101 [(3, _)] := h.sub (.cons rfl .nil)
 refine wnt ?_
 refine wp_seq ?_
 refine wR ?_
 refine st_fieldAddr h rfl fa45_0 rfl ?_; clear h a; intro a h
 refine st_loadB h rfl hb3 rfl na43 rfl ?_; clear h a; intro a h
 replace hS := hS.ext hfa
 obtain ⟨hs, hsl, hln, hin⟩ := hS
 obtain ⟨r, rest, rfl⟩ := List.exists_cons_of_ne_nil hne
 obtain ⟨⟨RA, rn, rc⟩, hp⟩ : ∃ p, hs[0]? = some p := ⟨_, List.getElem?_eq_getElem (by rw [hln]; simp)⟩
 have hs : Sl encSt _ (.slice RA rn rc) r := hin 0 _ r hp rfl
 obtain ⟨rfl, hrc, -, -⟩ := Sl.open_ hs
 have hgr := hgood r (by simp)
 obtain ⟨f1, f2, f3, f4, f5, f6, f7⟩ := twice_facts hgr
 have hr8 := hgr.2.2
 refine st_idx (p := 0) h rfl rfl hsl el43 (by omega) rfl hp rfl ?_; clear h a; intro ad cc a h
 refine st_loadC0 (v := .slice RA r.length rc) h rfl cc na22 rfl ?_; clear h a; intro a h
 clear hb3 hb1
 refine st_assign h rfl rfl ?_; clear h a; intro a h
 replace h : Ag a 101 [(4, _)] := h.sub (.cons rfl .nil)
 refine wnt ?_
 refine wp_seq ?_
 refine wp_seq ?_
 refine wR ?_
 refine st_move h rfl rfl ?_; clear h a; intro a h
 refine st_lenS h rfl Tryd.underlying22 rfl ?_; clear h a; intro a h
 refine st_gt h rfl rfl rfl ?_; clear h a; intro a h
 replace h : Ag a 101 [(4, _), (22, _)] := h.sub (.cons rfl (.cons rfl .nil))
 refine wnt ?_
 first | refine cond_dec h rfl (fun c0 => ?_) (fun c0 => ?_) | refine cond_ndec h rfl (fun c0 => ?_) (fun c0 => ?_) | refine cond_split h rfl (fun c0 => ?_) (fun c0 => ?_)
 ·exfalso; omega
 ·refine id ?_
  refine wsn ?_
  refine wp_seq ?_
  refine wR ?_
  refine st_move h rfl rfl ?_; clear h a; intro a h
  refine st_call h (evs_cons rfl evs_nil) co14 (shorten_ok _ _ _ hs hy) rfl ?_; clear h a; rintro _ w5 ⟨rfl, hq⟩ a h
  replace hf := hf.next hq
  replace hy := hy.ext hq
  replace hs := hs.ext hq
  clear hq
  rw [f1] at h
  dsimp only at h
  refine st_move h rfl rfl ?_; clear h a; intro a h
  refine st_extract h rfl rfl rfl ?_; clear h a; intro a h
  refine st_extract h rfl rfl rfl ?_; clear h a; intro a h
  refine st_assign h rfl rfl ?_; clear h a; intro a h
  refine st_assign h rfl rfl ?_; clear h a; intro a h
  replace h : Ag a 101 [(4, _), (5, _), (6, _)] := h.sub (.cons rfl (.cons rfl (.cons rfl .nil)))
  refine wnt ?_
  refine wp_seq ?_
  refine wR ?_
  refine st_bslice ([] : List Stitch) h evs_nil rfl rfl rfl el22 (by decide) rfl ?_; clear h a; intro gE w6 hg hoE hq hz a h
  have hgE : w0.heap.size ≤ gE := by have := hf.size; omega
  have hg0 : 0 < gE := by have := hy.pos; omega
  have hsE : ∀ k ∈ blks (.slice RA r.length rc), k < gE := by have := hs.blk hgr.1; intro k hk; have := this k hk; omega
  replace hf := hf.next hq
  replace hy := hy.ext hq
  replace hs := hs.ext hq
  clear hq hz hg
  refine st_move h rfl rfl ?_; clear h a; intro a h
  have hbO := hoE.blk
  refine st_append h rfl rfl hoE hs el22 (by unfold maxLen; simp; omega) (by simp; omega) (Nat.le_of_lt (hbO gE (by simp [blks])).2) rfl ?_; clear h a; intro V6 w7 ho_V6 hq hx3 a h
  replace hs := hs.fr hq (fun k hk hb => by have := (hbO k hk).1; have := hsE k hb; omega)
  replace hy := hy.fr hq (fun hb => by have := (hbO _ hb).1; omega)
  replace hf := hf.step hq (fun k hk hlt => absurd (hbO k hk).1 (by omega))
  have hgs : gE ≤ w7.heap.size := Nat.le_trans (Nat.le_of_lt (hbO gE (by simp [blks])).2) hq.size
  clear hq hx3 hbO hoE
  refine st_move h rfl rfl ?_; clear h a; intro a h
  have hbO := ho_V6.blk
  refine st_append h rfl rfl ho_V6 hs el22 (by unfold maxLen; simp; omega) (by simp; omega) (hgs) rfl ?_; clear h a; intro V7 w8 ho_V7 hq hx3 a h
  replace hs := hs.fr hq (fun k hk hb => by have := (hbO k hk).1; have := hsE k hb; omega)
  replace hy := hy.fr hq (fun hb => by have := (hbO _ hb).1; omega)
  replace hf := hf.step hq (fun k hk hlt => absurd (hbO k hk).1 (by omega))
  have hgs : gE ≤ w8.heap.size := Nat.le_trans (hgs) hq.size
  clear hq hx3 hbO ho_V6
  obtain ⟨VA, vc, rfl, hvc⟩ := ho_V7.sl.form
  rw [List.nil_append] at ho_V7 h
  refine st_assign h rfl rfl ?_; clear h a; intro a h
  replace h : Ag a 101 [(5, _), (6, _), (7, _)] := h.sub (.cons rfl (.cons rfl (.cons rfl .nil)))
  refine wnt ?_
  refine wp_seq ?_
  refine wR ?_
  refine st_move h rfl rfl ?_; clear h a; intro a h
  refine st_call h (evs_cons rfl evs_nil) co14 (shorten_ok _ _ _ ho_V7.sl hy) rfl ?_; clear h a; rintro _ w9 ⟨rfl, hq⟩ a h
  replace hf := hf.next hq
  replace hy := hy.ext hq
  replace hs := hs.ext hq
  replace ho_V7 := ho_V7.ext hq
  clear hq
  rw [f2] at h
  dsimp only at h
  refine st_move h rfl rfl ?_; clear h a; intro a h
  refine st_extract h rfl rfl rfl ?_; clear h a; intro a h
  refine st_extract h rfl rfl rfl ?_; clear h a; intro a h
  refine st_assign h rfl rfl ?_; clear h a; intro a h
  refine st_assign h rfl rfl ?_; clear h a; intro a h
  replace h : Ag a 101 [(5, _), (6, _), (7, _), (8, _), (9, _)] := h.sub (.cons rfl (.cons rfl (.cons rfl (.cons rfl (.cons rfl .nil)))))
  refine wnt ?_
  refine wp_seq ?_
  refine wR ?_
  refine st_move h rfl rfl ?_; clear h a; intro a h
  refine st_adds h rfl rfl (by first | (simp; done) | (simp; omega)) rfl ?_; clear h a; intro a h
  refine st_adds h rfl rfl (by first | (simp; done) | (simp; omega)) rfl ?_; clear h a; intro a h
  refine st_call h (evs_cons rfl evs_nil) co10 (expand_ok _ _ hy (by simp; omega)) rfl ?_; clear h a; rintro _ w10 ⟨xa, xac, rfl, rfl, hoxa, hq⟩ a h
  replace hf := hf.next hq
  replace hy := hy.ext hq
  replace hs := hs.ext hq
  replace ho_V7 := ho_V7.ext hq
  clear hq
  rw [f3] at h hoxa
  refine st_move h rfl rfl ?_; clear h a; intro a h
  refine st_extract h rfl rfl rfl ?_; clear h a; intro a h
  refine st_extract h rfl rfl rfl ?_; clear h a; intro a h
  refine st_assign h rfl rfl ?_; clear h a; intro a h
  refine st_assign h rfl rfl ?_; clear h a; intro a h
  replace h : Ag a 101 [(5, _), (6, _), (7, _), (8, _), (9, _), (10, _), (11, _)] := h.sub (.cons rfl (.cons rfl (.cons rfl (.cons rfl (.cons rfl (.cons rfl (.cons rfl .nil)))))))
  refine wnt ?_
  refine wp_seq ?_
  refine wR ?_
  refine st_move h rfl rfl ?_; clear h a; intro a h
  refine st_adds h rfl rfl (by first | (simp; done) | (simp; omega)) rfl ?_; clear h a; intro a h
  refine st_move h rfl rfl ?_; clear h a; intro a h
  refine st_adds h rfl rfl (by simp; omega) rfl ?_; clear h a; intro a h
  refine st_call h (evs_cons rfl evs_nil) co10 (expand_ok _ _ hy (by simp; omega)) rfl ?_; clear h a; rintro _ w11 ⟨xb, xbc, rfl, rfl, hoxb, hq⟩ a h
  replace hf := hf.next hq
  replace hy := hy.ext hq
  replace hs := hs.ext hq
  replace ho_V7 := ho_V7.ext hq
  replace hoxa := hoxa.ext hq
  clear hq
  rw [f4] at h hoxb
  refine st_move h rfl rfl ?_; clear h a; intro a h
  refine st_extract h rfl rfl rfl ?_; clear h a; intro a h
  refine st_extract h rfl rfl rfl ?_; clear h a; intro a h
  refine st_assign h rfl rfl ?_; clear h a; intro a h
  refine st_assign h rfl rfl ?_; clear h a; intro a h
  replace h : Ag a 101 [(5, _), (6, _), (7, _), (8, _), (9, _), (10, _), (11, _), (12, _), (13, _)] := h.sub (.cons rfl (.cons rfl (.cons rfl (.cons rfl (.cons rfl (.cons rfl (.cons rfl (.cons rfl (.cons rfl .nil)))))))))
  refine wnt ?_
  refine wp_seq ?_
  refine wR ?_
  refine st_move h rfl rfl ?_; clear h a; intro a h
  refine st_eq h rfl rfl rfl ?_; clear h a; intro a h
  refine st_move h rfl rfl ?_; clear h a; intro a h
  first | refine guard_dec (D := 57) h rfl ?_ ?_ | refine guard_ndec (D := 57) h rfl ?_ ?_ | refine guard_any (D := 57) h rfl ?_ ?_
  ·clear h; intro g0 h
   refine gd_yes h rfl rfl rfl rfl rfl rfl ?_
   refine st_move h rfl rfl ?_; clear h a; intro a h
   refine gd_yes h rfl rfl rfl rfl rfl rfl ?_
   refine st_eq h rfl rfl rfl ?_; clear h a; intro a h
   refine st_pick_t h rfl rfl rfl rfl ?_; clear h a; intro a h
   refine st_move h rfl rfl ?_; clear h a; intro a h
   first | refine guard_dec (D := 61) h rfl ?_ ?_ | refine guard_ndec (D := 61) h rfl ?_ ?_ | refine guard_any (D := 61) h rfl ?_ ?_
   ·clear h; intro g1 h
    refine gd_yes h rfl rfl rfl rfl rfl rfl ?_
    refine st_move h rfl rfl ?_; clear h a; intro a h
    refine gd_yes h rfl rfl rfl rfl rfl rfl ?_
    refine st_eq h rfl rfl rfl ?_; clear h a; intro a h
    refine st_pick_t h rfl rfl rfl rfl ?_; clear h a; intro a h
    refine st_move h rfl rfl ?_; clear h a; intro a h
    first | refine guard_dec (D := 65) h rfl ?_ ?_ | refine guard_ndec (D := 65) h rfl ?_ ?_ | refine guard_any (D := 65) h rfl ?_ ?_
    ·clear h; intro g2 h
     refine gd_yes h rfl rfl rfl rfl rfl rfl ?_
     refine st_move h rfl rfl ?_; clear h a; intro a h
     refine gd_yes h rfl rfl rfl rfl rfl rfl ?_
     refine st_eq h rfl rfl rfl ?_; clear h a; intro a h
     refine st_pick_t h rfl rfl rfl rfl ?_; clear h a; intro a h
     refine st_move h rfl rfl ?_; clear h a; intro a h
     first | refine guard_dec (D := 69) h rfl ?_ ?_ | refine guard_ndec (D := 69) h rfl ?_ ?_ | refine guard_any (D := 69) h rfl ?_ ?_
     ·clear h; intro g3 h
      refine gd_yes h rfl rfl rfl rfl rfl rfl ?_
      refine st_move h rfl rfl ?_; clear h a; intro a h
      refine gd_yes h rfl rfl rfl rfl rfl rfl ?_
      refine st_move h rfl rfl ?_; clear h a; intro a h
      refine gd_yes h rfl rfl rfl rfl rfl rfl ?_
      refine st_call h (evs_cons rfl (evs_cons rfl evs_nil)) co13 (differ_ok _ _ _ _ _ hoxa.sl ho_V7.sl) rfl ?_; clear h a; rintro _ w12 ⟨rfl, hq⟩ a h
      replace hf := hf.next hq
      replace hy := hy.ext hq
      replace hs := hs.ext hq
      replace ho_V7 := ho_V7.ext hq
      replace hoxa := hoxa.ext hq
      replace hoxb := hoxb.ext hq
      clear hq
      rw [if_pos rfl] at h
      refine gd_yes h rfl rfl rfl rfl rfl rfl ?_
      refine st_eq h rfl rfl rfl ?_; clear h a; intro a h
      refine st_pick_t h rfl rfl rfl rfl ?_; clear h a; intro a h
      refine st_move h rfl rfl ?_; clear h a; intro a h
      first | refine guard_dec (D := 75) h rfl ?_ ?_ | refine guard_ndec (D := 75) h rfl ?_ ?_ | refine guard_any (D := 75) h rfl ?_ ?_
      ·clear h; intro g4 h
       refine gd_yes h rfl rfl rfl rfl rfl rfl ?_
       refine st_move h rfl rfl ?_; clear h a; intro a h
       refine gd_yes h rfl rfl rfl rfl rfl rfl ?_
       refine st_move h rfl rfl ?_; clear h a; intro a h
       refine gd_yes h rfl rfl rfl rfl rfl rfl ?_
       refine st_call h (evs_cons rfl (evs_cons rfl evs_nil)) co13 (differ_ok _ _ _ _ _ hoxb.sl ho_V7.sl) rfl ?_; clear h a; rintro _ w13 ⟨rfl, hq⟩ a h
       replace hf := hf.next hq
       replace hy := hy.ext hq
       replace hs := hs.ext hq
       replace ho_V7 := ho_V7.ext hq
       replace hoxa := hoxa.ext hq
       replace hoxb := hoxb.ext hq
       clear hq
       rw [if_pos rfl] at h
       refine gd_yes h rfl rfl rfl rfl rfl rfl ?_
       refine st_eq h rfl rfl rfl ?_; clear h a; intro a h
       refine st_pick_t h rfl rfl rfl rfl ?_; clear h a; intro a h
       refine st_move h rfl rfl ?_; clear h a; intro a h
       first | refine guard_dec (D := 81) h rfl ?_ ?_ | refine guard_ndec (D := 81) h rfl ?_ ?_ | refine guard_any (D := 81) h rfl ?_ ?_
       ·clear h; intro g5 h
        refine gd_yes h rfl rfl rfl rfl rfl rfl ?_
        refine st_move h rfl rfl ?_; clear h a; intro a h
        refine gd_yes h rfl rfl rfl rfl rfl rfl ?_
        refine st_len h rfl Tryd.underlying9 rfl ?_; clear h a; intro a h
        refine gd_yes h rfl rfl rfl rfl rfl rfl ?_
        refine st_move h rfl rfl ?_; clear h a; intro a h
        refine gd_yes h rfl rfl rfl rfl rfl rfl ?_
        refine st_len h rfl Tryd.underlying9 rfl ?_; clear h a; intro a h
        refine gd_yes h rfl rfl rfl rfl rfl rfl ?_
        refine st_add h rfl rfl (by first | exact IntWalk.i64_in _ (by omega) | rfl) rfl ?_; clear h a; intro a h
        refine gd_yes h rfl rfl rfl rfl rfl rfl ?_
        refine st_le h rfl rfl rfl ?_; clear h a; intro a h
        refine st_pick_t h rfl rfl rfl rfl ?_; clear h a; intro a h
        refine st_move h rfl rfl ?_; clear h a; intro a h
        first | refine guard_dec (D := 89) h rfl ?_ ?_ | refine guard_ndec (D := 89) h rfl ?_ ?_ | refine guard_any (D := 89) h rfl ?_ ?_
        ·clear h; intro g6 h
         refine gd_yes h rfl rfl rfl rfl rfl rfl ?_
         refine st_move h rfl rfl ?_; clear h a; intro a h
         refine gd_yes h rfl rfl rfl rfl rfl rfl ?_
         refine st_len h rfl Tryd.underlying9 rfl ?_; clear h a; intro a h
         refine gd_yes h rfl rfl rfl rfl rfl rfl ?_
         refine st_move h rfl rfl ?_; clear h a; intro a h
         refine gd_yes h rfl rfl rfl rfl rfl rfl ?_
         refine st_len h rfl Tryd.underlying9 rfl ?_; clear h a; intro a h
         refine gd_yes h rfl rfl rfl rfl rfl rfl ?_
         refine st_mul h rfl rfl (by first | exact IntWalk.i64_in _ (by omega) | rfl) rfl ?_; clear h a; intro a h
         refine gd_yes h rfl rfl rfl rfl rfl rfl ?_
         refine st_add h rfl rfl (by first | exact IntWalk.i64_in _ (by omega) | rfl) rfl ?_; clear h a; intro a h
         refine gd_yes h rfl rfl rfl rfl rfl rfl ?_
         refine st_le h rfl rfl rfl ?_; clear h a; intro a h
         refine st_pick_t h rfl rfl rfl rfl ?_; clear h a; intro a h
         refine st_move h rfl rfl ?_; clear h a; intro a h
         first | refine guard_dec (D := 98) h rfl ?_ ?_ | refine guard_ndec (D := 98) h rfl ?_ ?_ | refine guard_any (D := 98) h rfl ?_ ?_
         ·clear h; intro g7 h
          refine gd_yes h rfl rfl rfl rfl rfl rfl ?_
          refine st_call h evs_nil co12 (lives_ok _ hy) rfl ?_; clear h a; rintro _ w14 ⟨rfl, hq⟩ a h
          replace hf := hf.next hq
          replace hy := hy.ext hq
          replace hs := hs.ext hq
          replace ho_V7 := ho_V7.ext hq
          replace hoxa := hoxa.ext hq
          replace hoxb := hoxb.ext hq
          clear hq
          refine st_pick_t h rfl rfl rfl rfl ?_; clear h a; intro a h
          refine st_assign h rfl rfl ?_; clear h a; intro a h
          replace h : Ag a 101 [(2, _)] := h.sub (.cons rfl .nil)
          refine wnt ?_
          refine wp_ret ?_
          refine ret1 h Tryd.results6 rfl ?_
          first | exact ⟨_, rfl, rfl, hf⟩ | (exfalso; first | omega | simp_all)
         ·clear h; intro g7 h
          refine gd_no h rfl rfl rfl rfl rfl rfl rfl rfl ?_; clear h a; intro a h
          refine st_pick_f h rfl rfl rfl rfl ?_; clear h a; intro a h
          refine st_assign h rfl rfl ?_; clear h a; intro a h
          replace h : Ag a 101 [(2, _)] := h.sub (.cons rfl .nil)
          refine wnt ?_
          refine wp_ret ?_
          refine ret1 h Tryd.results6 rfl ?_
          first | exact ⟨_, rfl, rfl, hf⟩ | (exfalso; first | omega | simp_all)
        ·clear h; intro g6 h
         refine gd_no h rfl rfl rfl rfl rfl rfl rfl rfl ?_; clear h a; intro a h
         refine gd_no h rfl rfl rfl rfl rfl rfl rfl rfl ?_; clear h a; intro a h
         refine gd_no h rfl rfl rfl rfl rfl rfl rfl rfl ?_; clear h a; intro a h
         refine gd_no h rfl rfl rfl rfl rfl rfl rfl rfl ?_; clear h a; intro a h
         refine gd_no h rfl rfl rfl rfl rfl rfl rfl rfl ?_; clear h a; intro a h
         refine gd_no h rfl rfl rfl rfl rfl rfl rfl rfl ?_; clear h a; intro a h
         refine gd_no h rfl rfl rfl rfl rfl rfl rfl rfl ?_; clear h a; intro a h
         refine st_pick_f h rfl rfl rfl rfl ?_; clear h a; intro a h
         refine st_move h rfl rfl ?_; clear h a; intro a h
         refine gd_no h rfl rfl rfl rfl rfl rfl rfl rfl ?_; clear h a; intro a h
         refine st_pick_f h rfl rfl rfl rfl ?_; clear h a; intro a h
         refine st_assign h rfl rfl ?_; clear h a; intro a h
         replace h : Ag a 101 [(2, _)] := h.sub (.cons rfl .nil)
         refine wnt ?_
         refine wp_ret ?_
         refine ret1 h Tryd.results6 rfl ?_
         first | exact ⟨_, rfl, rfl, hf⟩ | (exfalso; first | omega | simp_all)
       ·clear h; intro g5 h
        refine gd_no h rfl rfl rfl rfl rfl rfl rfl rfl ?_; clear h a; intro a h
        refine gd_no h rfl rfl rfl rfl rfl rfl rfl rfl ?_; clear h a; intro a h
        refine gd_no h rfl rfl rfl rfl rfl rfl rfl rfl ?_; clear h a; intro a h
        refine gd_no h rfl rfl rfl rfl rfl rfl rfl rfl ?_; clear h a; intro a h
        refine gd_no h rfl rfl rfl rfl rfl rfl rfl rfl ?_; clear h a; intro a h
        refine gd_no h rfl rfl rfl rfl rfl rfl rfl rfl ?_; clear h a; intro a h
        refine st_pick_f h rfl rfl rfl rfl ?_; clear h a; intro a h
        refine st_move h rfl rfl ?_; clear h a; intro a h
        refine gd_no h rfl rfl rfl rfl rfl rfl rfl rfl ?_; clear h a; intro a h
        refine gd_no h rfl rfl rfl rfl rfl rfl rfl rfl ?_; clear h a; intro a h
        refine gd_no h rfl rfl rfl rfl rfl rfl rfl rfl ?_; clear h a; intro a h
        refine gd_no h rfl rfl rfl rfl rfl rfl rfl rfl ?_; clear h a; intro a h
        refine gd_no h rfl rfl rfl rfl rfl rfl rfl rfl ?_; clear h a; intro a h
        refine gd_no h rfl rfl rfl rfl rfl rfl rfl rfl ?_; clear h a; intro a h
        refine gd_no h rfl rfl rfl rfl rfl rfl rfl rfl ?_; clear h a; intro a h
        refine st_pick_f h rfl rfl rfl rfl ?_; clear h a; intro a h
        refine st_move h rfl rfl ?_; clear h a; intro a h
        refine gd_no h rfl rfl rfl rfl rfl rfl rfl rfl ?_; clear h a; intro a h
        refine st_pick_f h rfl rfl rfl rfl ?_; clear h a; intro a h
        refine st_assign h rfl rfl ?_; clear h a; intro a h
        replace h : Ag a 101 [(2, _)] := h.sub (.cons rfl .nil)
        refine wnt ?_
        refine wp_ret ?_
        refine ret1 h Tryd.results6 rfl ?_
        first | exact ⟨_, rfl, rfl, hf⟩ | (exfalso; first | omega | simp_all)
      ·clear h; intro g4 h
       refine gd_no h rfl rfl rfl rfl rfl rfl rfl rfl ?_; clear h a; intro a h
       refine gd_no h rfl rfl rfl rfl rfl rfl rfl rfl ?_; clear h a; intro a h
       refine gd_no h rfl rfl rfl rfl rfl rfl rfl rfl ?_; clear h a; intro a h
       refine gd_no h rfl rfl rfl rfl rfl rfl rfl rfl ?_; clear h a; intro a h
       refine st_pick_f h rfl rfl rfl rfl ?_; clear h a; intro a h
       refine st_move h rfl rfl ?_; clear h a; intro a h
       refine gd_no h rfl rfl rfl rfl rfl rfl rfl rfl ?_; clear h a; intro a h
       refine gd_no h rfl rfl rfl rfl rfl rfl rfl rfl ?_; clear h a; intro a h
       refine gd_no h rfl rfl rfl rfl rfl rfl rfl rfl ?_; clear h a; intro a h
       refine gd_no h rfl rfl rfl rfl rfl rfl rfl rfl ?_; clear h a; intro a h
       refine gd_no h rfl rfl rfl rfl rfl rfl rfl rfl ?_; clear h a; intro a h
       refine gd_no h rfl rfl rfl rfl rfl rfl rfl rfl ?_; clear h a; intro a h
       refine st_pick_f h rfl rfl rfl rfl ?_; clear h a; intro a h
       refine st_move h rfl rfl ?_; clear h a; intro a h
       refine gd_no h rfl rfl rfl rfl rfl rfl rfl rfl ?_; clear h a; intro a h
       refine gd_no h rfl rfl rfl rfl rfl rfl rfl rfl ?_; clear h a; intro a h
       refine gd_no h rfl rfl rfl rfl rfl rfl rfl rfl ?_; clear h a; intro a h
       refine gd_no h rfl rfl rfl rfl rfl rfl rfl rfl ?_; clear h a; intro a h
       refine gd_no h rfl rfl rfl rfl rfl rfl rfl rfl ?_; clear h a; intro a h
       refine gd_no h rfl rfl rfl rfl rfl rfl rfl rfl ?_; clear h a; intro a h
       refine gd_no h rfl rfl rfl rfl rfl rfl rfl rfl ?_; clear h a; intro a h
       refine st_pick_f h rfl rfl rfl rfl ?_; clear h a; intro a h
       refine st_move h rfl rfl ?_; clear h a; intro a h
       refine gd_no h rfl rfl rfl rfl rfl rfl rfl rfl ?_; clear h a; intro a h
       refine st_pick_f h rfl rfl rfl rfl ?_; clear h a; intro a h
       refine st_assign h rfl rfl ?_; clear h a; intro a h
       replace h : Ag a 101 [(2, _)] := h.sub (.cons rfl .nil)
       refine wnt ?_
       refine wp_ret ?_
       refine ret1 h Tryd.results6 rfl ?_
       first | exact ⟨_, rfl, rfl, hf⟩ | (exfalso; first | omega | simp_all)
     ·clear h; intro g3 h
      refine gd_no h rfl rfl rfl rfl rfl rfl rfl rfl ?_; clear h a; intro a h
      refine gd_no h rfl rfl rfl rfl rfl rfl rfl rfl ?_; clear h a; intro a h
      refine gd_no h rfl rfl rfl rfl rfl rfl rfl rfl ?_; clear h a; intro a h
      refine gd_no h rfl rfl rfl rfl rfl rfl rfl rfl ?_; clear h a; intro a h
      refine st_pick_f h rfl rfl rfl rfl ?_; clear h a; intro a h
      refine st_move h rfl rfl ?_; clear h a; intro a h
      refine gd_no h rfl rfl rfl rfl rfl rfl rfl rfl ?_; clear h a; intro a h
      refine gd_no h rfl rfl rfl rfl rfl rfl rfl rfl ?_; clear h a; intro a h
      refine gd_no h rfl rfl rfl rfl rfl rfl rfl rfl ?_; clear h a; intro a h
      refine gd_no h rfl rfl rfl rfl rfl rfl rfl rfl ?_; clear h a; intro a h
      refine st_pick_f h rfl rfl rfl rfl ?_; clear h a; intro a h
      refine st_move h rfl rfl ?_; clear h a; intro a h
      refine gd_no h rfl rfl rfl rfl rfl rfl rfl rfl ?_; clear h a; intro a h
      refine gd_no h rfl rfl rfl rfl rfl rfl rfl rfl ?_; clear h a; intro a h
      refine gd_no h rfl rfl rfl rfl rfl rfl rfl rfl ?_; clear h a; intro a h
      refine gd_no h rfl rfl rfl rfl rfl rfl rfl rfl ?_; clear h a; intro a h
      refine gd_no h rfl rfl rfl rfl rfl rfl rfl rfl ?_; clear h a; intro a h
      refine gd_no h rfl rfl rfl rfl rfl rfl rfl rfl ?_; clear h a; intro a h
      refine st_pick_f h rfl rfl rfl rfl ?_; clear h a; intro a h
      refine st_move h rfl rfl ?_; clear h a; intro a h
      refine gd_no h rfl rfl rfl rfl rfl rfl rfl rfl ?_; clear h a; intro a h
      refine gd_no h rfl rfl rfl rfl rfl rfl rfl rfl ?_; clear h a; intro a h
      refine gd_no h rfl rfl rfl rfl rfl rfl rfl rfl ?_; clear h a; intro a h
      refine gd_no h rfl rfl rfl rfl rfl rfl rfl rfl ?_; clear h a; intro a h
      refine gd_no h rfl rfl rfl rfl rfl rfl rfl rfl ?_; clear h a; intro a h
      refine gd_no h rfl rfl rfl rfl rfl rfl rfl rfl ?_; clear h a; intro a h
      refine gd_no h rfl rfl rfl rfl rfl rfl rfl rfl ?_; clear h a; intro a h
      refine st_pick_f h rfl rfl rfl rfl ?_; clear h a; intro a h
      refine st_move h rfl rfl ?_; clear h a; intro a h
      refine gd_no h rfl rfl rfl rfl rfl rfl rfl rfl ?_; clear h a; intro a h
      refine st_pick_f h rfl rfl rfl rfl ?_; clear h a; intro a h
      refine st_assign h rfl rfl ?_; clear h a; intro a h
      replace h : Ag a 101 [(2, _)] := h.sub (.cons rfl .nil)
      refine wnt ?_
      refine wp_ret ?_
      refine ret1 h Tryd.results6 rfl ?_
      first | exact ⟨_, rfl, rfl, hf⟩ | (exfalso; first | omega | simp_all)
    ·clear h; intro g2 h
     refine gd_no h rfl rfl rfl rfl rfl rfl rfl rfl ?_; clear h a; intro a h
     refine gd_no h rfl rfl rfl rfl rfl rfl rfl rfl ?_; clear h a; intro a h
     refine st_pick_f h rfl rfl rfl rfl ?_; clear h a; intro a h
     refine st_move h rfl rfl ?_; clear h a; intro a h
     refine gd_no h rfl rfl rfl rfl rfl rfl rfl rfl ?_; clear h a; intro a h
     refine gd_no h rfl rfl rfl rfl rfl rfl rfl rfl ?_; clear h a; intro a h
     refine gd_no h rfl rfl rfl rfl rfl rfl rfl rfl ?_; clear h a; intro a h
     refine gd_no h rfl rfl rfl rfl rfl rfl rfl rfl ?_; clear h a; intro a h
     refine st_pick_f h rfl rfl rfl rfl ?_; clear h a; intro a h
     refine st_move h rfl rfl ?_; clear h a; intro a h
     refine gd_no h rfl rfl rfl rfl rfl rfl rfl rfl ?_; clear h a; intro a h
     refine gd_no h rfl rfl rfl rfl rfl rfl rfl rfl ?_; clear h a; intro a h
     refine gd_no h rfl rfl rfl rfl rfl rfl rfl rfl ?_; clear h a; intro a h
     refine gd_no h rfl rfl rfl rfl rfl rfl rfl rfl ?_; clear h a; intro a h
     refine st_pick_f h rfl rfl rfl rfl ?_; clear h a; intro a h
     refine st_move h rfl rfl ?_; clear h a; intro a h
     refine gd_no h rfl rfl rfl rfl rfl rfl rfl rfl ?_; clear h a; intro a h
     refine gd_no h rfl rfl rfl rfl rfl rfl rfl rfl ?_; clear h a; intro a h
     refine gd_no h rfl rfl rfl rfl rfl rfl rfl rfl ?_; clear h a; intro a h
     refine gd_no h rfl rfl rfl rfl rfl rfl rfl rfl ?_; clear h a; intro a h
     refine gd_no h rfl rfl rfl rfl rfl rfl rfl rfl ?_; clear h a; intro a h
     refine gd_no h rfl rfl rfl rfl rfl rfl rfl rfl ?_; clear h a; intro a h
     refine st_pick_f h rfl rfl rfl rfl ?_; clear h a; intro a h
     refine st_move h rfl rfl ?_; clear h a; intro a h
     refine gd_no h rfl rfl rfl rfl rfl rfl rfl rfl ?_; clear h a; intro a h
     refine gd_no h rfl rfl rfl rfl rfl rfl rfl rfl ?_; clear h a; intro a h
     refine gd_no h rfl rfl rfl rfl rfl rfl rfl rfl ?_; clear h a; intro a h
     refine gd_no h rfl rfl rfl rfl rfl rfl rfl rfl ?_; clear h a; intro a h
     refine gd_no h rfl rfl rfl rfl rfl rfl rfl rfl ?_; clear h a; intro a h
     refine gd_no h rfl rfl rfl rfl rfl rfl rfl rfl ?_; clear h a; intro a h
     refine gd_no h rfl rfl rfl rfl rfl rfl rfl rfl ?_; clear h a; intro a h
     refine st_pick_f h rfl rfl rfl rfl ?_; clear h a; intro a h
     refine st_move h rfl rfl ?_; clear h a; intro a h
     refine gd_no h rfl rfl rfl rfl rfl rfl rfl rfl ?_; clear h a; intro a h
     refine st_pick_f h rfl rfl rfl rfl ?_; clear h a; intro a h
     refine st_assign h rfl rfl ?_; clear h a; intro a h
     replace h : Ag a 101 [(2, _)] := h.sub (.cons rfl .nil)
     refine wnt ?_
     refine wp_ret ?_
     refine ret1 h Tryd.results6 rfl ?_
     first | exact ⟨_, rfl, rfl, hf⟩ | (exfalso; first | omega | simp_all)
   ·clear h; intro g1 h
    refine gd_no h rfl rfl rfl rfl rfl rfl rfl rfl ?_; clear h a; intro a h
    refine gd_no h rfl rfl rfl rfl rfl rfl rfl rfl ?_; clear h a; intro a h
    refine st_pick_f h rfl rfl rfl rfl ?_; clear h a; intro a h
    refine st_move h rfl rfl ?_; clear h a; intro a h
    refine gd_no h rfl rfl rfl rfl rfl rfl rfl rfl ?_; clear h a; intro a h
    refine gd_no h rfl rfl rfl rfl rfl rfl rfl rfl ?_; clear h a; intro a h
    refine st_pick_f h rfl rfl rfl rfl ?_; clear h a; intro a h
    refine st_move h rfl rfl ?_; clear h a; intro a h
    refine gd_no h rfl rfl rfl rfl rfl rfl rfl rfl ?_; clear h a; intro a h
    refine gd_no h rfl rfl rfl rfl rfl rfl rfl rfl ?_; clear h a; intro a h
    refine gd_no h rfl rfl rfl rfl rfl rfl rfl rfl ?_; clear h a; intro a h
    refine gd_no h rfl rfl rfl rfl rfl rfl rfl rfl ?_; clear h a; intro a h
    refine st_pick_f h rfl rfl rfl rfl ?_; clear h a; intro a h
    refine st_move h rfl rfl ?_; clear h a; intro a h
    refine gd_no h rfl rfl rfl rfl rfl rfl rfl rfl ?_; clear h a; intro a h
    refine gd_no h rfl rfl rfl rfl rfl rfl rfl rfl ?_; clear h a; intro a h
    refine gd_no h rfl rfl rfl rfl rfl rfl rfl rfl ?_; clear h a; intro a h
    refine gd_no h rfl rfl rfl rfl rfl rfl rfl rfl ?_; clear h a; intro a h
    refine st_pick_f h rfl rfl rfl rfl ?_; clear h a; intro a h
    refine st_move h rfl rfl ?_; clear h a; intro a h
    refine gd_no h rfl rfl rfl rfl rfl rfl rfl rfl ?_; clear h a; intro a h
    refine gd_no h rfl rfl rfl rfl rfl rfl rfl rfl ?_; clear h a; intro a h
    refine gd_no h rfl rfl rfl rfl rfl rfl rfl rfl ?_; clear h a; intro a h
    refine gd_no h rfl rfl rfl rfl rfl rfl rfl rfl ?_; clear h a; intro a h
    refine gd_no h rfl rfl rfl rfl rfl rfl rfl rfl ?_; clear h a; intro a h
    refine gd_no h rfl rfl rfl rfl rfl rfl rfl rfl ?_; clear h a; intro a h
    refine st_pick_f h rfl rfl rfl rfl ?_; clear h a; intro a h
    refine st_move h rfl rfl ?_; clear h a; intro a h
    refine gd_no h rfl rfl rfl rfl rfl rfl rfl rfl ?_; clear h a; intro a h
    refine gd_no h rfl rfl rfl rfl rfl rfl rfl rfl ?_; clear h a; intro a h
    refine gd_no h rfl rfl rfl rfl rfl rfl rfl rfl ?_; clear h a; intro a h
    refine gd_no h rfl rfl rfl rfl rfl rfl rfl rfl ?_; clear h a; intro a h
    refine gd_no h rfl rfl rfl rfl rfl rfl rfl rfl ?_; clear h a; intro a h
    refine gd_no h rfl rfl rfl rfl rfl rfl rfl rfl ?_; clear h a; intro a h
    refine gd_no h rfl rfl rfl rfl rfl rfl rfl rfl ?_; clear h a; intro a h
    refine st_pick_f h rfl rfl rfl rfl ?_; clear h a; intro a h
    refine st_move h rfl rfl ?_; clear h a; intro a h
    refine gd_no h rfl rfl rfl rfl rfl rfl rfl rfl ?_; clear h a; intro a h
    refine st_pick_f h rfl rfl rfl rfl ?_; clear h a; intro a h
    refine st_assign h rfl rfl ?_; clear h a; intro a h
    replace h : Ag a 101 [(2, _)] := h.sub (.cons rfl .nil)
    refine wnt ?_
    refine wp_ret ?_
    refine ret1 h Tryd.results6 rfl ?_
    first | exact ⟨_, rfl, rfl, hf⟩ | (exfalso; first | omega | simp_all)
  ·clear h; intro g0 h
   refine gd_no h rfl rfl rfl rfl rfl rfl rfl rfl ?_; clear h a; intro a h
   refine gd_no h rfl rfl rfl rfl rfl rfl rfl rfl ?_; clear h a; intro a h
   refine st_pick_f h rfl rfl rfl rfl ?_; clear h a; intro a h
   refine st_move h rfl rfl ?_; clear h a; intro a h
   refine gd_no h rfl rfl rfl rfl rfl rfl rfl rfl ?_; clear h a; intro a h
   refine gd_no h rfl rfl rfl rfl rfl rfl rfl rfl ?_; clear h a; intro a h
   refine st_pick_f h rfl rfl rfl rfl ?_; clear h a; intro a h
   refine st_move h rfl rfl ?_; clear h a; intro a h
   refine gd_no h rfl rfl rfl rfl rfl rfl rfl rfl ?_; clear h a; intro a h
   refine gd_no h rfl rfl rfl rfl rfl rfl rfl rfl ?_; clear h a; intro a h
   refine st_pick_f h rfl rfl rfl rfl ?_; clear h a; intro a h
   refine st_move h rfl rfl ?_; clear h a; intro a h
   refine gd_no h rfl rfl rfl rfl rfl rfl rfl rfl ?_; clear h a; intro a h
   refine gd_no h rfl rfl rfl rfl rfl rfl rfl rfl ?_; clear h a; intro a h
   refine gd_no h rfl rfl rfl rfl rfl rfl rfl rfl ?_; clear h a; intro a h
   refine gd_no h rfl rfl rfl rfl rfl rfl rfl rfl ?_; clear h a; intro a h
   refine st_pick_f h rfl rfl rfl rfl ?_; clear h a; intro a h
   refine st_move h rfl rfl ?_; clear h a; intro a h
   refine gd_no h rfl rfl rfl rfl rfl rfl rfl rfl ?_; clear h a; intro a h
   refine gd_no h rfl rfl rfl rfl rfl rfl rfl rfl ?_; clear h a; intro a h
   refine gd_no h rfl rfl rfl rfl rfl rfl rfl rfl ?_; clear h a; intro a h
   refine gd_no h rfl rfl rfl rfl rfl rfl rfl rfl ?_; clear h a; intro a h
   refine st_pick_f h rfl rfl rfl rfl ?_; clear h a; intro a h
   refine st_move h rfl rfl ?_; clear h a; intro a h
   refine gd_no h rfl rfl rfl rfl rfl rfl rfl rfl ?_; clear h a; intro a h
   refine gd_no h rfl rfl rfl rfl rfl rfl rfl rfl ?_; clear h a; intro a h
   refine gd_no h rfl rfl rfl rfl rfl rfl rfl rfl ?_; clear h a; intro a h
   refine gd_no h rfl rfl rfl rfl rfl rfl rfl rfl ?_; clear h a; intro a h
   refine gd_no h rfl rfl rfl rfl rfl rfl rfl rfl ?_; clear h a; intro a h
   refine gd_no h rfl rfl rfl rfl rfl rfl rfl rfl ?_; clear h a; intro a h
   refine st_pick_f h rfl rfl rfl rfl ?_; clear h a; intro a h
   refine st_move h rfl rfl ?_; clear h a; intro a h
   refine gd_no h rfl rfl rfl rfl rfl rfl rfl rfl ?_; clear h a; intro a h
   refine gd_no h rfl rfl rfl rfl rfl rfl rfl rfl ?_; clear h a; intro a h
   refine gd_no h rfl rfl rfl rfl rfl rfl rfl rfl ?_; clear h a; intro a h
   refine gd_no h rfl rfl rfl rfl rfl rfl rfl rfl ?_; clear h a; intro a h
   refine gd_no h rfl rfl rfl rfl rfl rfl rfl rfl ?_; clear h a; intro a h
   refine gd_no h rfl rfl rfl rfl rfl rfl rfl rfl ?_; clear h a; intro a h
   refine gd_no h rfl rfl rfl rfl rfl rfl rfl rfl ?_; clear h a; intro a h
   refine st_pick_f h rfl rfl rfl rfl ?_; clear h a; intro a h
   refine st_move h rfl rfl ?_; clear h a; intro a h
   refine gd_no h rfl rfl rfl rfl rfl rfl rfl rfl ?_; clear h a; intro a h
   refine st_pick_f h rfl rfl rfl rfl ?_; clear h a; intro a h
   refine st_assign h rfl rfl ?_; clear h a; intro a h
   replace h : Ag a 101 [(2, _)] := h.sub (.cons rfl .nil)
   refine wnt ?_
   refine wp_ret ?_
   refine ret1 h Tryd.results6 rfl ?_
   first | exact ⟨_, rfl, rfl, hf⟩ | (exfalso; first | omega | simp_all)
end Go.Proofs.YtbbnampdgefljaaDoor
namespace Go.Lw
open Go.RowKit

/-- A slice of slices reads as a list of lists. -/
def Sll {α : Type} (E : Enc α) (w : World) (v : Value) (rows : List (List α)) : Prop :=
  ∃ hs : List SV, Sl Enc.sl w v hs ∧ hs.length = rows.length ∧ ∀ (i : Nat) (p : SV) (r : List α), hs[i]? = some p → rows[i]? = some r → Sl E w (slv p) r
theorem Sll.ext {α : Type} {E : Enc α} {w w' : World} {v : Value} {rows : List (List α)} (h : Sll E w v rows) (hf : Fr [] w w') : Sll E w' v rows := by
  obtain ⟨hs, h1, h2, h3⟩ := h
  exact ⟨hs, h1.ext hf, h2, fun i p r hp hr => (h3 i p r hp hr).ext hf⟩
theorem Sll.form {α : Type} {E : Enc α} {w : World} {v : Value} {rows : List (List α)} (h : Sll E w v rows) : ∃ A c, v = .slice A rows.length c ∧ rows.length ≤ c ∧ c ≤ maxLen := by
  obtain ⟨hs, h1, h2, h3⟩ := h
  obtain ⟨A, c, e, h4, h5, _⟩ := h1
  exact ⟨A, c, by rw [e, h2], by omega, h5⟩
/-- A row of it: its header lies where it is, and reads as the list. -/
theorem Sll.row {α : Type} {E : Enc α} {w : World} {A : Option Addr} {n c : Nat} {rows : List (List α)} {i : Nat} {r : List α} (h : Sll E w (.slice A n c) rows) (hr : rows[i]? = some r) :
    ∃ RA rc ad, A = some ad ∧ Cells w (ad.add (i * 1)) [.slice RA r.length rc] ∧ Sl E w (.slice RA r.length rc) r ∧ r.length ≤ rc ∧ rc ≤ maxLen := by
  obtain ⟨hs, h1, h2, h3⟩ := h
  have hi : i < hs.length := by rw [h2]; exact (List.getElem?_eq_some_iff.1 hr).1
  have hp := List.getElem?_eq_getElem hi
  have hs1 := h3 i _ r hp hr
  obtain ⟨A', c', e, _, _, hA⟩ := h1
  cases e
  obtain ⟨ad, rfl, hc⟩ := hA i _ hp
  obtain ⟨RA, rc, e, h5, h6, _⟩ := hs1
  have hl : hs[i].2.1 = r.length ∧ hs[i].1 = RA ∧ hs[i].2.2 = rc := by
    simp only [slv, Value.slice.injEq] at e; exact ⟨e.2.1, e.1, e.2.2⟩
  have hsl := h3 i _ r hp hr
  refine ⟨RA, rc, ad, rfl, ?_, ?_, h5, h6⟩
  · have hc' : Cells w (ad.add (i * 1)) [.slice hs[i].1 hs[i].2.1 hs[i].2.2] := hc
    rw [hl.1, hl.2.1, hl.2.2] at hc'; exact hc'
  · rw [e] at hsl; exact hsl
/-- Rows in memory: the outer slice is the call's own, and so are the rows, apart from it. -/
structure Rws {α : Type} (E : Enc α) (R T : TypeId) (base : Nat) (w : World) (OV : Value) (ps : List (SV × List α)) : Prop where
  out : Own Enc.sl R base w OV (ps.map Prod.fst)
  ins : ∀ p ∈ ps, Own E T base w (slv p.1) p.2
  off : ∀ p ∈ ps, ∀ k ∈ blks (slv p.1), k ∉ blks OV
section
variable {α : Type} {E : Enc α} {R T : TypeId} {base : Nat} {w w' : World} {OV OV' : Value} {ps : List (SV × List α)}
theorem Rws.fr {S : List Nat} (h : Rws E R T base w OV ps) (hq : Fr S w w') (hS : ∀ k ∈ S, k < base) : Rws E R T base w' OV ps :=
  ⟨h.out.fr hq (fun k hk hb => by have := (h.out.blk k hb).1; have := hS k hk; omega), fun p hp => (h.ins p hp).fr hq (fun k hk hb => by have := ((h.ins p hp).blk k hb).1; have := hS k hk; omega), h.off⟩
theorem Rws.ext (h : Rws E R T base w OV ps) (hq : Fr [] w w') : Rws E R T base w' OV ps := h.fr hq (by simp)
theorem Rws.nil (w : World) : Rws E R T base w (.slice none 0 0) [] := ⟨Own.nil w, by simp, by simp⟩
theorem Rws.low {b' : Nat} (h : Rws E R T base w OV ps) (hb : b' ≤ base) : Rws E R T b' w OV ps := ⟨h.out.low hb, fun p hp => (h.ins p hp).low hb, h.off⟩
theorem Rws.push {u : SV} {r : List α} (h : Rws E R T base w OV ps) (hu : Own E T base w (slv u) r) (hd : ∀ k ∈ blks (slv u), k ∉ blks OV) (ho : Own Enc.sl R base w' OV' (ps.map Prod.fst ++ [u])) (hq : Fr (blks OV) w w')
    (hx : OV' = OV ∨ blks OV' = blks OV ∨ blks OV' = [w.heap.size]) : Rws E R T base w' OV' (ps ++ [(u, r)]) := by
  have hall : ∀ p ∈ ps ++ [(u, r)], Own E T base w (slv p.1) p.2 ∧ ∀ k ∈ blks (slv p.1), k ∉ blks OV := by
    intro p hp
    rcases List.mem_append.1 hp with hp | hp
    · exact ⟨h.ins p hp, h.off p hp⟩
    · simp at hp; subst hp; exact ⟨hu, hd⟩
  refine ⟨by simpa using ho, fun p hp => (hall p hp).1.fr hq (fun k hk hb => (hall p hp).2 k hb hk), fun p hp k hk => ?_⟩
  rcases hx with e | e | e
  · rw [e]; exact (hall p hp).2 k hk
  · rw [e]; exact (hall p hp).2 k hk
  · rw [e]; have := ((hall p hp).1.blk k hk).2; simp; omega
theorem Rws.sll (h : Rws E R T base w OV ps) : Sll E w OV (ps.map Prod.snd) := by
  refine ⟨ps.map Prod.fst, h.out.sl, by simp, fun i p x hp hx => ?_⟩
  rw [List.getElem?_map] at hp hx
  obtain ⟨q, hq, rfl⟩ := Option.map_eq_some_iff.1 hp
  rw [hq] at hx
  simp at hx; subst hx
  exact (h.ins q (List.mem_of_getElem? hq)).sl
/-- All blocks of such rows are below n. -/
def RAll (n : Nat) (OV : Value) (ps : List (SV × List α)) : Prop := (∀ k ∈ blks OV, k < n) ∧ ∀ p ∈ ps, ∀ k ∈ blks (slv p.1), k < n
theorem Rws.bnd (h : Rws E R T base w OV ps) : RAll w.heap.size OV ps := ⟨fun k hk => (h.out.blk k hk).2, fun p hp k hk => ((h.ins p hp).blk k hk).2⟩
theorem Rws.up {S : List Nat} {n : Nat} (h : Rws E R T base w OV ps) (hq : Fr S w w') (hA : RAll n OV ps) (hS : ∀ k ∈ S, n ≤ k) : Rws E R T base w' OV ps :=
  ⟨h.out.fr hq (fun k hk hb => by have := hA.1 k hb; have := hS k hk; omega), fun p hp => (h.ins p hp).fr hq (fun k hk hb => by have := hA.2 p hp k hb; have := hS k hk; omega), h.off⟩
end
theorem blks_add (A : Option Addr) (m n c n' c' : Nat) : blks (.slice (A.map (·.add m)) n c) = blks (.slice A n' c') := by cases A <;> simp [blks, block_add]
theorem blks_any (A : Option Addr) (n c n' c' : Nat) : blks (.slice A n c) = blks (.slice A n' c') := by cases A <;> rfl
end Go.Lw
namespace Go.Lw
section
variable {α : Type} {E : Enc α} {R T : TypeId} {base : Nat} {w w' : World} {OV : Value} {ps : List (SV × List α)}
theorem Rws.rev {v : Value} (h : Rws E R T base w v ps) (ho : Own Enc.sl R base w' v (ps.map Prod.fst).reverse) (hq : Fr (blks v) w w') : Rws E R T base w' v ps.reverse :=
  ⟨by rw [List.map_reverse]; exact ho, fun p hp => (h.ins p (List.mem_reverse.1 hp)).fr hq (fun k hk hb => h.off p (List.mem_reverse.1 hp) k hb hk), fun p hp => h.off p (List.mem_reverse.1 hp)⟩
theorem Rws.clip {A : Option Addr} {n c : Nat} (h : Rws E R T base w (.slice A n c) ps) : Rws E R T base w (.slice A n n) ps := by
  have hn : n = ps.length ∧ n ≤ c := by
    obtain ⟨A', c', e, h1⟩ := h.out.sl.form
    cases e; simp at h1 ⊢; exact h1
  refine ⟨?_, h.ins, fun p hp k hk => by rw [blks_any A n n n c]; exact h.off p hp k hk⟩
  have := h.out.take rfl (m := n) (c' := n) (by simp; omega) hn.2 (Nat.le_refl _)
  rwa [List.take_of_length_le (by simp; omega)] at this
end
end Go.Lw
namespace Go.G14
open Go.Lw

def needsR (xs : List Stitch) : Int := (xs.map needsS).sum
def makesR (xs : List Stitch) : Int := (xs.map makesS).sum
theorem sum_rng {f : Stitch → Int} (hf : ∀ s, 0 ≤ f s ∧ f s ≤ 4) : ∀ xs : List Stitch, 0 ≤ (xs.map f).sum ∧ (xs.map f).sum ≤ 4 * xs.length
  | [] => by simp
  | x :: xs => by
    have := sum_rng hf xs
    have := hf x
    simp only [List.map_cons, List.sum_cons, List.length_cons]
    omega
theorem sum_next {f : Stitch → Int} {xs : List Stitch} {k : Nat} {x : Stitch} (hx : xs[k]? = some x) : ((xs.take (k + 1)).map f).sum = ((xs.take k).map f).sum + f x := by
  rw [List.take_add_one, hx]; simp
theorem sum_drop {f : Stitch → Int} {xs : List Stitch} {k : Nat} {x : Stitch} (hx : xs[k]? = some x) : ((xs.drop k).map f).sum = f x + ((xs.drop (k + 1)).map f).sum := by
  rw [List.drop_eq_getElem_cons (List.getElem?_eq_some_iff.1 hx).1]
  have : xs[k]'(List.getElem?_eq_some_iff.1 hx).1 = x := (List.getElem?_eq_some_iff.1 hx).2
  simp [this]
def rowE (xs : List Stitch) : Int :=
  if 16 < xs.length then 3 else if xs.length = 0 then 1 else if xs.all okB = false then 1
  else if needsR xs < 1 ∨ 16 < needsR xs ∨ makesR xs < 1 ∨ 16 < makesR xs then 5 else 0
def adjB (rows : List (List Stitch)) : Bool := (List.range (rows.length - 1)).all fun i => decide (needsR (rows.getD (i + 1) []) = makesR (rows.getD i []))
def firstE : List (List Stitch) → Int
  | [] => 0
  | r :: rs => if rowE r ≠ 0 then rowE r else firstE rs
def rowsE (rows : List (List Stitch)) : Int :=
  if 31 < rows.length then 3 else if rows.length % 2 = 0 then 1 else if firstE rows ≠ 0 then firstE rows else if adjB rows = true then 0 else 14
/-- The loops behind a row, and its error. -/
def runRow : List Stitch → List Int → List Int → List Int × Int
  | [], _, acc => (acc, 0)
  | s :: xs, ls, acc => if (loadsS s (ls.take (needsS s).toNat)).2 ≠ 0 then ([], (loadsS s (ls.take (needsS s).toNat)).2) else runRow xs (ls.drop (needsS s).toNat) (acc ++ (loadsS s (ls.take (needsS s).toNat)).1)
def runRows : List (List Stitch) → List Int → Int
  | [], _ => 0
  | r :: rs, ls => if (runRow r ls []).2 ≠ 0 then (runRow r ls []).2 else runRows rs (runRow r ls []).1
def startL (rows : List (List Stitch)) : List Int := List.replicate (needsR (rows.getD 0 [])).toNat 1
def chartE (rows : List (List Stitch)) : Int := if rowsE rows ≠ 0 then rowsE rows else runRows rows (startL rows)
variable {xs : List Stitch} {rows : List (List Stitch)}
theorem row3 (h : 16 < xs.length) : rowE xs = 3 := if_pos h
theorem row1 (h : ¬ 16 < xs.length) (h0 : xs.length = 0) : rowE xs = 1 := by rw [rowE, if_neg h, if_pos h0]
theorem row1b (h : ¬ 16 < xs.length) {k : Nat} {x : Stitch} (hx : xs[k]? = some x) (hb : checkS x ≠ 0) : rowE xs = 1 := by
  have : xs.all okB = false := by
    rw [Bool.eq_false_iff]; intro e
    exact hb ((okB_iff x).1 (List.all_eq_true.1 e x (List.mem_of_getElem? hx)))
  have h0 : ¬ xs.length = 0 := by have := (List.getElem?_eq_some_iff.1 hx).1; omega
  rw [rowE, if_neg h, if_neg h0, if_pos this]
theorem row5 (h : ¬ 16 < xs.length) (h0 : ¬ xs.length = 0) (ha : xs.all okB = true) (hc : needsR xs < 1 ∨ 16 < needsR xs ∨ makesR xs < 1 ∨ 16 < makesR xs) : rowE xs = 5 := by
  rw [rowE, if_neg h, if_neg h0, if_neg (by rw [ha]; simp), if_pos hc]
theorem row0 (h : ¬ 16 < xs.length) (h0 : ¬ xs.length = 0) (ha : xs.all okB = true) (hc : ¬ (needsR xs < 1 ∨ 16 < needsR xs ∨ makesR xs < 1 ∨ 16 < makesR xs)) : rowE xs = 0 := by
  rw [rowE, if_neg h, if_neg h0, if_neg (by rw [ha]; simp), if_neg hc]
theorem row_ok_of (h : rowE xs = 0) : xs.length ≤ 16 ∧ 1 ≤ xs.length ∧ xs.all okB = true ∧ 1 ≤ needsR xs ∧ needsR xs ≤ 16 ∧ 1 ≤ makesR xs ∧ makesR xs ≤ 16 := by
  unfold rowE at h
  split at h
  · omega
  split at h
  · omega
  split at h
  · omega
  split at h
  · omega
  · rename_i h1 h2 h3 h4
    refine ⟨by omega, by omega, by simpa using h3, by omega, by omega, by omega, by omega⟩
theorem first_bad : ∀ {rows : List (List Stitch)} {k : Nat} {r : List Stitch}, (∀ i q, i < k → rows[i]? = some q → rowE q = 0) → rows[k]? = some r → rowE r ≠ 0 → firstE rows = rowE r
  | [], k, r, _, h, _ => by simp at h
  | q :: rs, 0, r, _, h, hb => by simp at h; subst h; rw [firstE, if_pos hb]
  | q :: rs, k + 1, r, hz, h, hb => by
    have hq := hz 0 q (by omega) rfl
    rw [firstE, if_neg (by omega)]
    exact first_bad (k := k) (fun i p hi hp => hz (i + 1) p (by omega) (by simpa using hp)) (by simpa using h) hb
theorem first_good : ∀ {rows : List (List Stitch)}, (∀ (i : Nat) (q : List Stitch), rows[i]? = some q → rowE q = 0) → firstE rows = 0
  | [], _ => rfl
  | q :: rs, hz => by
    have hq := hz 0 q rfl
    rw [firstE, if_neg (by omega)]
    exact first_good fun i p hp => hz (i + 1) p (by simpa using hp)
theorem first_all : ∀ {rows : List (List Stitch)}, firstE rows = 0 → ∀ (i : Nat) (q : List Stitch), rows[i]? = some q → rowE q = 0
  | [], _, i, q, h => by simp at h
  | r :: rs, hz, i, q, h => by
    unfold firstE at hz
    split at hz
    · rename_i hb; exact absurd hz hb
    · rename_i hb
      match i with
      | 0 => simp at h; subst h; omega
      | i + 1 => exact first_all hz i q (by simpa using h)
theorem rows3 (h : 31 < rows.length) : rowsE rows = 3 := if_pos h
theorem rows1 (h : ¬ 31 < rows.length) (h2 : rows.length % 2 = 0) : rowsE rows = 1 := by rw [rowsE, if_neg h, if_pos h2]
theorem rowsB (h : ¬ 31 < rows.length) (h2 : ¬ rows.length % 2 = 0) {k : Nat} {r : List Stitch} (hz : ∀ i q, i < k → rows[i]? = some q → rowE q = 0) (hr : rows[k]? = some r) (hb : rowE r ≠ 0) : rowsE rows = rowE r := by
  have := first_bad hz hr hb
  rw [rowsE, if_neg h, if_neg h2, if_pos (by omega), this]
theorem adj_at {k : Nat} (h : adjB rows = true) (hk : k + 1 < rows.length) : needsR (rows.getD (k + 1) []) = makesR (rows.getD k []) := by
  have := List.all_eq_true.1 h k (List.mem_range.2 (by omega))
  simpa using this
theorem rows14 (h : ¬ 31 < rows.length) (h2 : ¬ rows.length % 2 = 0) (hz : ∀ (i : Nat) (q : List Stitch), rows[i]? = some q → rowE q = 0) {k : Nat} {r q : List Stitch} (hr : rows[k]? = some r) (hq : rows[k + 1]? = some q) (hne : needsR q ≠ makesR r) : rowsE rows = 14 := by
  have h0 := first_good hz
  have ha : ¬ adjB rows = true := fun e => by
    have := adj_at (k := k) e (List.getElem?_eq_some_iff.1 hq).1
    rw [List.getD, List.getD, hq, hr] at this
    exact hne this
  rw [rowsE, if_neg h, if_neg h2, if_neg (by omega), if_neg ha]
theorem rows0 (h : ¬ 31 < rows.length) (h2 : ¬ rows.length % 2 = 0) (hz : ∀ (i : Nat) (q : List Stitch), rows[i]? = some q → rowE q = 0) (ha : ∀ (k : Nat) (r q : List Stitch), rows[k]? = some r → rows[k + 1]? = some q → needsR q = makesR r) : rowsE rows = 0 := by
  have h0 := first_good hz
  have ha : adjB rows = true := by
    refine List.all_eq_true.2 fun k hk => ?_
    have hk := List.mem_range.1 hk
    have h1 : k < rows.length := by omega
    have h3 : k + 1 < rows.length := by omega
    rw [decide_eq_true_iff, List.getD, List.getD, List.getElem?_eq_getElem h1, List.getElem?_eq_getElem h3]
    exact ha k _ _ (List.getElem?_eq_getElem h1) (List.getElem?_eq_getElem h3)
  rw [rowsE, if_neg h, if_neg h2, if_neg (by omega), if_pos ha]
theorem rows_of (h : rowsE rows = 0) : rows.length ≤ 31 ∧ rows.length % 2 = 1 ∧ (∀ (i : Nat) (q : List Stitch), rows[i]? = some q → rowE q = 0) ∧ ∀ (k : Nat) (r q : List Stitch), rows[k]? = some r → rows[k + 1]? = some q → needsR q = makesR r := by
  unfold rowsE at h
  split at h
  · omega
  split at h
  · omega
  split at h
  · omega
  split at h
  · rename_i h1 h2 h3 h4
    refine ⟨by omega, by omega, first_all (by omega), fun k r q hr hq => ?_⟩
    have := adj_at (k := k) h4 (List.getElem?_eq_some_iff.1 hq).1
    rw [List.getD, List.getD, hq, hr] at this
    exact this
  · omega
theorem run_bad {s : Stitch} {xs : List Stitch} {ls acc : List Int} (h : (loadsS s (ls.take (needsS s).toNat)).2 ≠ 0) : runRow (s :: xs) ls acc = ([], (loadsS s (ls.take (needsS s).toNat)).2) := by rw [runRow, if_pos h]
theorem run_next {s : Stitch} {xs : List Stitch} {ls acc : List Int} (h : ¬ (loadsS s (ls.take (needsS s).toNat)).2 ≠ 0) : runRow (s :: xs) ls acc = runRow xs (ls.drop (needsS s).toNat) (acc ++ (loadsS s (ls.take (needsS s).toNat)).1) := by rw [runRow, if_neg h]
theorem drop_cons {α : Type} {l : List α} {k : Nat} {x : α} (h : l[k]? = some x) : l.drop k = x :: l.drop (k + 1) := by
  rw [List.drop_eq_getElem_cons (List.getElem?_eq_some_iff.1 h).1, (List.getElem?_eq_some_iff.1 h).2]
theorem run_len : ∀ (xs : List Stitch) (ls acc : List Int), (runRow xs ls acc).2 = 0 → ((runRow xs ls acc).1.length : Int) = acc.length + makesR xs
  | [], ls, acc, _ => by simp [runRow, makesR]
  | s :: xs, ls, acc, h => by
    by_cases hb : (loadsS s (ls.take (needsS s).toNat)).2 ≠ 0
    · rw [run_bad hb] at h; exact absurd h hb
    · rw [run_next hb] at h ⊢
      have hl := (loads_few (Decidable.not_not.1 hb)).2.1
      rw [run_len xs _ _ h, List.length_append]
      simp only [makesR, List.map_cons, List.sum_cons]
      push_cast; omega
end Go.G14
namespace Go.G14
theorem set_one (j m : Nat) (h : j < m) : (List.replicate j (1 : Int) ++ List.replicate (m - j) 0).set j 1 = List.replicate (j + 1) 1 ++ List.replicate (m - (j + 1)) 0 := by
  obtain ⟨r, rfl⟩ : ∃ r, m = j + 1 + r := ⟨m - (j + 1), by omega⟩
  rw [show j + 1 + r - j = r + 1 by omega, show j + 1 + r - (j + 1) = r by omega, List.replicate_succ]
  rw [List.set_append_right _ _ (by simp)]
  simp [List.replicate_succ']
end Go.G14
namespace Go.G14
theorem z_next {rows : List (List Stitch)} {k : Nat} {r : List Stitch} (hz : ∀ (i : Nat) (q : List Stitch), i < k → rows[i]? = some q → rowE q = 0) (hr : rows[k]? = some r) (h0 : rowE r = 0) : ∀ (i : Nat) (q : List Stitch), i < k + 1 → rows[i]? = some q → rowE q = 0 := by
  intro i q hi hq
  rcases Nat.lt_or_ge i k with h | h
  · exact hz i q h hq
  · obtain rfl : i = k := by omega
    rw [hr] at hq; cases hq; exact h0
theorem adj_next {rows : List (List Stitch)} {k : Nat} {r q : List Stitch} (ha : ∀ (j : Nat) (r q : List Stitch), j < k → rows[j]? = some r → rows[j + 1]? = some q → needsR q = makesR r) (hr : rows[k]? = some r) (hq : rows[k + 1]? = some q) (h0 : needsR q = makesR r) :
    ∀ (j : Nat) (r q : List Stitch), j < k + 1 → rows[j]? = some r → rows[j + 1]? = some q → needsR q = makesR r := by
  intro j r1 q1 hj h1 h2
  rcases Nat.lt_or_ge j k with h | h
  · exact ha j r1 q1 h h1 h2
  · obtain rfl : j = k := by omega
    rw [hr] at h1; rw [hq] at h2; cases h1; cases h2; exact h0
end Go.G14
namespace Go.G14
theorem rr_next {r : List Stitch} {ls acc : List Int} {k at_ : Nat} {s : Stitch} {R : List Int × Int} (h : runRow (r.drop k) (ls.drop at_) acc = R) (hs : r[k]? = some s) (h0 : ¬ (loadsS s ((ls.drop at_).take (needsS s).toNat)).2 ≠ 0) :
    runRow (r.drop (k + 1)) (ls.drop (at_ + (needsS s).toNat)) (acc ++ (loadsS s ((ls.drop at_).take (needsS s).toNat)).1) = R := by
  rw [drop_cons hs, run_next h0, List.drop_drop] at h; exact h
theorem rr_bad {r : List Stitch} {ls acc : List Int} {k at_ : Nat} {s : Stitch} {R : List Int × Int} (h : runRow (r.drop k) (ls.drop at_) acc = R) (hs : r[k]? = some s) (h0 : (loadsS s ((ls.drop at_).take (needsS s).toNat)).2 ≠ 0) :
    R.2 = (loadsS s ((ls.drop at_).take (needsS s).toNat)).2 := by
  rw [drop_cons hs, run_bad h0] at h; rw [← h]
theorem rr_end {r : List Stitch} {ls acc : List Int} {at_ : Nat} {R : List Int × Int} (h : runRow (r.drop r.length) (ls.drop at_) acc = R) : R = (acc, 0) := by
  rw [List.drop_length, runRow] at h; exact h.symm
theorem rs_next {rows : List (List Stitch)} {ls : List Int} {i : Nat} {r : List Stitch} {E : Int} (h : runRows (rows.drop i) ls = E) (hr : rows[i]? = some r) {acc : List Int} (h0 : runRow r ls [] = (acc, 0)) : runRows (rows.drop (i + 1)) acc = E := by
  rw [drop_cons hr, runRows, h0, if_neg (by simp)] at h; exact h
theorem rs_bad {rows : List (List Stitch)} {ls : List Int} {i : Nat} {r : List Stitch} {E : Int} (h : runRows (rows.drop i) ls = E) (hr : rows[i]? = some r) (h0 : (runRow r ls []).2 ≠ 0) : E = (runRow r ls []).2 := by
  rw [drop_cons hr, runRows, if_pos h0] at h; exact h.symm
theorem rs_end {rows : List (List Stitch)} {ls : List Int} {E : Int} (h : runRows (rows.drop rows.length) ls = E) : E = 0 := by
  rw [List.drop_length, runRows] at h; exact h.symm
theorem needs_drop {r : List Stitch} {k : Nat} {s : Stitch} (hs : r[k]? = some s) : needsR (r.drop k) = needsS s + needsR (r.drop (k + 1)) := sum_drop hs
theorem needs_pos (xs : List Stitch) : 0 ≤ needsR xs := (sum_rng needs_rng xs).1
theorem chart_run {rows : List (List Stitch)} (h : rowsE rows = 0) : chartE rows = runRows rows (startL rows) := by rw [chartE, if_neg (by omega)]
theorem chart_bad {rows : List (List Stitch)} {e : Int} (h : rowsE rows = e) (he : e ≠ 0) : chartE rows = e := by rw [chartE, if_pos (by omega), h]
theorem run_next_len {r : List Stitch} {ls acc : List Int} (h0 : runRow r ls [] = (acc, 0)) : (acc.length : Int) = makesR r := by
  have := run_len r ls [] (by rw [h0])
  rw [h0] at this; simpa using this
theorem loads_len (s : Stitch) (l : List Int) : (loadsS s l).1.length ≤ 4 := by
  by_cases h : (loadsS s l).2 = 0
  · have := (loads_few h).2.1
    have := makes_rng s
    omega
  · unfold loadsS at h ⊢
    (repeat' split) <;> simp_all
structure RefSt where
  i : Nat
  N : Value
  ls : List Int
  OV : Value
  hs : List Go.Lw.SV
structure InSt where
  k : Nat
  at_ : Nat
  acc : List Int
  X : Value
end Go.G14
namespace Go.G14
open Go.Lw
structure LdSt where
  i : Nat
  OV : Value
  ps : List (SV × List Int)
  u : SV
  ls : List Int
structure LeSt where
  k : Nat
  at_ : Nat
  acc : List Int
  X : Value
  B : Value
theorem rws_one {E : Enc Int} {R T : TypeId} {base : Nat} {w : World} {OV : Value} {u : SV} {ls : List Int} (ho : Own Enc.sl R base w OV [u]) (hi : Own E T base w (slv u) ls) (hd : ∀ k ∈ blks (slv u), k ∉ blks OV) : Rws E R T base w OV ([] ++ [(u, ls)]) :=
  ⟨by simpa using ho, fun p hp => by simp at hp; subst hp; exact hi, fun p hp => by simp at hp; subst hp; exact hd⟩
end Go.G14
namespace Go.Proofs.YtbbnampdgefljaaDoor
open Go.Lw Go.G14
theorem co70 : CallOf Tryd.prog 70 := CallOf.mk' Tryd.func70 (by kernel_rfl) (by kernel_rfl)
theorem co80 : CallOf Tryd.prog 80 := CallOf.mk' Tryd.func80 (by kernel_rfl) (by kernel_rfl)
theorem needs_ok (s : Stitch) (w0 : World) : Rets Tryd.prog 70 #[stV s] w0 fun v w' => v = .int .i64 (needsS s) ∧ Fr [] w0 w' := by
 refine enter [(0, stV s)] Tryd.func70 rfl Tryd.ntmps70 rfl (.cons rfl .nil) ?_
 have hf := Fr.refl [] w0
 intro a h
 refine wp_seq ?_
 refine wR ?_
 refine st_box h rfl rfl rfl ?_; clear h a; intro w1 hb1 hq hz a h
 obtain ⟨g_1, hg⟩ : ∃ g, g = w0.heap.size := ⟨_, rfl⟩; rw [← hg] at hb1 h hz
 have hl1 : w0.heap.size ≤ g_1 := by have := hf.size; omega
 replace hf := hf.next hq
 clear hq hz hg
 refine st_assign h rfl rfl ?_; clear h a; intro a h
 replace h : Ag a 20 [(1, _)] := h.sub (.cons rfl .nil)
 refine wnt ?_
 refine wp_seq ?_
 refine wp_seq ?_
 refine wR ?_
 refine st_loadBA h rfl hb1 ag36 rfl ?_; clear h a; intro a h
 refine st_call h (evs_cons rfl evs_nil) co30 (check_ok s _) rfl ?_; clear h a; rintro _ w2 ⟨rfl, hq⟩ a h
 replace hf := hf.next hq
 replace hb1 := hb1.ext hq
 clear hq
 refine st_ne h rfl rfl rfl ?_; clear h a; intro a h
 replace h : Ag a 20 [(1, _), (5, _)] := h.sub (.cons rfl (.cons rfl .nil))
 refine wnt ?_
 first | refine cond_dec h rfl (fun c0 => ?_) (fun c0 => ?_) | refine cond_ndec h rfl (fun c0 => ?_) (fun c0 => ?_) | refine cond_split h rfl (fun c0 => ?_) (fun c0 => ?_)
 ·have hc : checkS s ≠ 0 := c0
  refine wp_seq ?_
  refine wR ?_
  refine st_assign h rfl rfl ?_; clear h a; intro a h
  replace h : Ag a 20 [(2, _)] := h.sub (.cons rfl .nil)
  refine wnt ?_
  refine wp_ret (ret_then ?_)
  refine ret1 h Tryd.results70 rfl ?_
  exact ⟨_, rfl, by first | rw [needs_0 (.inl hc)] | rw [needs_0 (.inr c1)] | rw [needs_2 hc (by omega)] | rw [needs_8 hc c4] | rw [needs_1 hc (by omega) (by omega) (by omega)], hf⟩
 ·have hc : checkS s = 0 := Decidable.not_not.1 c0
  refine wsn ?_
  refine wp_seq ?_
  refine wp_seq ?_
  refine wR ?_
  refine st_fieldAddr h rfl fa36_0 rfl ?_; clear h a; intro a h
  refine st_loadB h rfl hb1 rfl na34 rfl ?_; clear h a; intro a h
  replace h : Ag a 20 [(1, _), (7, _)] := h.sub (.cons rfl (.cons rfl .nil))
  refine wnt ?_
  refine wp_block ?_
  refine wp_seq ?_
  refine wR ?_
  refine st_eq h rfl rfl rfl ?_; clear h a; intro a h
  refine st_assign h rfl rfl ?_; clear h a; intro a h
  replace h : Ag a 20 [(1, _), (7, _), (8, _)] := h.sub (.cons rfl (.cons rfl (.cons rfl .nil)))
  refine wnt ?_
  first | refine cond_dec h rfl (fun c1 => ?_) (fun c1 => ?_) | refine cond_ndec h rfl (fun c1 => ?_) (fun c1 => ?_) | refine cond_split h rfl (fun c1 => ?_) (fun c1 => ?_)
  ·refine id ?_
   refine wp_seq ?_
   refine wR ?_
   refine st_assign h rfl rfl ?_; clear h a; intro a h
   replace h : Ag a 20 [(2, _)] := h.sub (.cons rfl .nil)
   refine wnt ?_
   refine wp_ret (ret_blk (ret_then ?_))
   refine ret1 h Tryd.results70 rfl ?_
   exact ⟨_, rfl, by first | rw [needs_0 (.inl hc)] | rw [needs_0 (.inr c1)] | rw [needs_2 hc (by omega)] | rw [needs_8 hc c4] | rw [needs_1 hc (by omega) (by omega) (by omega)], hf⟩
  ·refine id ?_
   refine wp_seq ?_
   refine wp_seq ?_
   refine wR ?_
   refine st_eq h rfl rfl rfl ?_; clear h a; intro a h
   refine st_assign h rfl rfl ?_; clear h a; intro a h
   replace h : Ag a 20 [(1, _), (7, _), (10, _)] := h.sub (.cons rfl (.cons rfl (.cons rfl .nil)))
   refine wnt ?_
   first | refine cond_dec h rfl (fun c2 => ?_) (fun c2 => ?_) | refine cond_ndec h rfl (fun c2 => ?_) (fun c2 => ?_) | refine cond_split h rfl (fun c2 => ?_) (fun c2 => ?_)
   ·refine id ?_
    rw [decide_eq_true c2] at h
    refine wsn ?_
    refine cond_true h rfl ?_
    refine wp_seq ?_
    refine wR ?_
    refine st_assign h rfl rfl ?_; clear h a; intro a h
    replace h : Ag a 20 [(2, _)] := h.sub (.cons rfl .nil)
    refine wnt ?_
    refine wp_ret (ret_blk (ret_then ?_))
    refine ret1 h Tryd.results70 rfl ?_
    exact ⟨_, rfl, by first | rw [needs_0 (.inl hc)] | rw [needs_0 (.inr c1)] | rw [needs_2 hc (by omega)] | rw [needs_8 hc c4] | rw [needs_1 hc (by omega) (by omega) (by omega)], hf⟩
   ·refine id ?_
    rw [decide_eq_false c2] at h
    refine wR ?_
    refine st_eq h rfl rfl rfl ?_; clear h a; intro a h
    refine st_assign h rfl rfl ?_; clear h a; intro a h
    replace h : Ag a 20 [(1, _), (7, _), (10, _)] := h.sub (.cons rfl (.cons rfl (.cons rfl .nil)))
    refine wnt ?_
    first | refine cond_dec h rfl (fun c3 => ?_) (fun c3 => ?_) | refine cond_ndec h rfl (fun c3 => ?_) (fun c3 => ?_) | refine cond_split h rfl (fun c3 => ?_) (fun c3 => ?_)
    ·refine id ?_
     refine wp_seq ?_
     refine wR ?_
     refine st_assign h rfl rfl ?_; clear h a; intro a h
     replace h : Ag a 20 [(2, _)] := h.sub (.cons rfl .nil)
     refine wnt ?_
     refine wp_ret (ret_blk (ret_then ?_))
     refine ret1 h Tryd.results70 rfl ?_
     exact ⟨_, rfl, by first | rw [needs_0 (.inl hc)] | rw [needs_0 (.inr c1)] | rw [needs_2 hc (by omega)] | rw [needs_8 hc c4] | rw [needs_1 hc (by omega) (by omega) (by omega)], hf⟩
    ·refine id ?_
     refine wp_seq ?_
     refine wR ?_
     refine st_eq h rfl rfl rfl ?_; clear h a; intro a h
     refine st_assign h rfl rfl ?_; clear h a; intro a h
     replace h : Ag a 20 [(1, _), (13, _)] := h.sub (.cons rfl (.cons rfl .nil))
     refine wnt ?_
     first | refine cond_dec h rfl (fun c4 => ?_) (fun c4 => ?_) | refine cond_ndec h rfl (fun c4 => ?_) (fun c4 => ?_) | refine cond_split h rfl (fun c4 => ?_) (fun c4 => ?_)
     ·have h8 := (check_rng hc).2.2.2.2.2 c4
      refine wp_seq ?_
      refine wR ?_
      refine st_fieldAddr h rfl fa36_2 rfl ?_; clear h a; intro a h
      refine st_loadB h rfl hb1 rfl na3 rfl ?_; clear h a; intro a h
      refine st_fieldAddr h rfl fa36_3 rfl ?_; clear h a; intro a h
      refine st_loadB h rfl hb1 rfl na3 rfl ?_; clear h a; intro a h
      refine st_add h rfl rfl (by first | exact IntWalk.i64_in _ (by omega) | rfl) rfl ?_; clear h a; intro a h
      refine st_assign h rfl rfl ?_; clear h a; intro a h
      replace h : Ag a 20 [(2, _)] := h.sub (.cons rfl .nil)
      refine wnt ?_
      refine wp_ret (ret_blk (ret_then ?_))
      refine ret1 h Tryd.results70 rfl ?_
      exact ⟨_, rfl, by first | rw [needs_0 (.inl hc)] | rw [needs_0 (.inr c1)] | rw [needs_2 hc (by omega)] | rw [needs_8 hc c4] | rw [needs_1 hc (by omega) (by omega) (by omega)], hf⟩
     ·refine id ?_
      refine wp_skip (norm_blk (norm_then ?_))
      refine wp_seq ?_
      refine wR ?_
      refine st_assign h rfl rfl ?_; clear h a; intro a h
      replace h : Ag a 20 [(2, _)] := h.sub (.cons rfl .nil)
      refine wnt ?_
      refine wp_ret ?_
      refine ret1 h Tryd.results70 rfl ?_
      exact ⟨_, rfl, by first | rw [needs_0 (.inl hc)] | rw [needs_0 (.inr c1)] | rw [needs_2 hc (by omega)] | rw [needs_8 hc c4] | rw [needs_1 hc (by omega) (by omega) (by omega)], hf⟩
theorem makes_ok (s : Stitch) (w0 : World) : Rets Tryd.prog 80 #[stV s] w0 fun v w' => v = .int .i64 (makesS s) ∧ Fr [] w0 w' := by
 refine enter [(0, stV s)] Tryd.func80 rfl Tryd.ntmps80 rfl (.cons rfl .nil) ?_
 have hf := Fr.refl [] w0
 intro a h
 refine wp_seq ?_
 refine wR ?_
 refine st_box h rfl rfl rfl ?_; clear h a; intro w1 hb1 hq hz a h
 obtain ⟨g_1, hg⟩ : ∃ g, g = w0.heap.size := ⟨_, rfl⟩; rw [← hg] at hb1 h hz
 have hl1 : w0.heap.size ≤ g_1 := by have := hf.size; omega
 replace hf := hf.next hq
 clear hq hz hg
 refine st_assign h rfl rfl ?_; clear h a; intro a h
 replace h : Ag a 14 [(1, _)] := h.sub (.cons rfl .nil)
 refine wnt ?_
 refine wp_seq ?_
 refine wp_seq ?_
 refine wR ?_
 refine st_loadBA h rfl hb1 ag36 rfl ?_; clear h a; intro a h
 refine st_call h (evs_cons rfl evs_nil) co30 (check_ok s _) rfl ?_; clear h a; rintro _ w2 ⟨rfl, hq⟩ a h
 replace hf := hf.next hq
 replace hb1 := hb1.ext hq
 clear hq
 refine st_ne h rfl rfl rfl ?_; clear h a; intro a h
 replace h : Ag a 14 [(1, _), (5, _)] := h.sub (.cons rfl (.cons rfl .nil))
 refine wnt ?_
 first | refine cond_dec h rfl (fun c0 => ?_) (fun c0 => ?_) | refine cond_ndec h rfl (fun c0 => ?_) (fun c0 => ?_) | refine cond_split h rfl (fun c0 => ?_) (fun c0 => ?_)
 ·have hc : checkS s ≠ 0 := c0
  refine wp_seq ?_
  refine wR ?_
  refine st_assign h rfl rfl ?_; clear h a; intro a h
  replace h : Ag a 14 [(2, _)] := h.sub (.cons rfl .nil)
  refine wnt ?_
  refine wp_ret (ret_then ?_)
  refine ret1 h Tryd.results80 rfl ?_
  exact ⟨_, rfl, by first | rw [makes_0 hc] | rw [makes_8 hc c1] | rw [makes_1 hc c1], hf⟩
 ·have hc : checkS s = 0 := Decidable.not_not.1 c0
  refine wsn ?_
  refine wp_seq ?_
  refine wp_seq ?_
  refine wR ?_
  refine st_fieldAddr h rfl fa36_0 rfl ?_; clear h a; intro a h
  refine st_loadB h rfl hb1 rfl na34 rfl ?_; clear h a; intro a h
  refine st_eq h rfl rfl rfl ?_; clear h a; intro a h
  replace h : Ag a 14 [(1, _), (8, _)] := h.sub (.cons rfl (.cons rfl .nil))
  refine wnt ?_
  first | refine cond_dec h rfl (fun c1 => ?_) (fun c1 => ?_) | refine cond_ndec h rfl (fun c1 => ?_) (fun c1 => ?_) | refine cond_split h rfl (fun c1 => ?_) (fun c1 => ?_)
  ·have h8 := (check_rng hc).2.2.2.2.2 c1
   refine wp_seq ?_
   refine wR ?_
   refine st_fieldAddr h rfl fa36_2 rfl ?_; clear h a; intro a h
   refine st_loadB h rfl hb1 rfl na3 rfl ?_; clear h a; intro a h
   refine st_fieldAddr h rfl fa36_3 rfl ?_; clear h a; intro a h
   refine st_loadB h rfl hb1 rfl na3 rfl ?_; clear h a; intro a h
   refine st_add h rfl rfl (by first | exact IntWalk.i64_in _ (by omega) | rfl) rfl ?_; clear h a; intro a h
   refine st_assign h rfl rfl ?_; clear h a; intro a h
   replace h : Ag a 14 [(2, _)] := h.sub (.cons rfl .nil)
   refine wnt ?_
   refine wp_ret (ret_then ?_)
   refine ret1 h Tryd.results80 rfl ?_
   exact ⟨_, rfl, by first | rw [makes_0 hc] | rw [makes_8 hc c1] | rw [makes_1 hc c1], hf⟩
  ·refine id ?_
   refine wsn ?_
   refine wp_seq ?_
   refine wR ?_
   refine st_assign h rfl rfl ?_; clear h a; intro a h
   replace h : Ag a 14 [(2, _)] := h.sub (.cons rfl .nil)
   refine wnt ?_
   refine wp_ret ?_
   refine ret1 h Tryd.results80 rfl ?_
   exact ⟨_, rfl, by first | rw [makes_0 hc] | rw [makes_8 hc c1] | rw [makes_1 hc c1], hf⟩
set_option maxHeartbeats 1000000 in
theorem loads_ok (s : Stitch) (u : Value) (l : List Int) (w0 : World) (hu : Sl Enc.i64 w0 u l) : Rets Tryd.prog 71 #[stV s, u] w0 fun v w' => ∃ r, v = .tuple #[r, .int .i64 (loadsS s l).2] ∧ Lw.Own Enc.i64 3 w0.heap.size w' r (loadsS s l).1 ∧ Fr [] w0 w' := by
 obtain ⟨A, c, rfl, hcp⟩ := hu.form
 obtain ⟨-, -, hM, hA⟩ := Sl.open_ hu
 unfold maxLen at hM
 have hmk := makes_rng s
 refine enter [(0, stV s), (1, .slice A l.length c)] Tryd.func71 rfl Tryd.ntmps71 rfl (.cons rfl (.cons rfl .nil)) ?_
 have hf := Fr.refl [] w0
 intro a h
 refine wp_seq ?_
 refine wR ?_
 refine st_box h rfl rfl rfl ?_; clear h a; intro w1 hb2 hq hz a h
 obtain ⟨g_2, hg⟩ : ∃ g, g = w0.heap.size := ⟨_, rfl⟩; rw [← hg] at hb2 h hz
 have hl2 : w0.heap.size ≤ g_2 := by have := hf.size; omega
 replace hf := hf.next hq
 clear hq hz hg
 refine st_assign h rfl rfl ?_; clear h a; intro a h
 refine st_assign h rfl rfl ?_; clear h a; intro a h
 replace h : Ag a 76 [(1, _), (2, _)] := h.sub (.cons rfl (.cons rfl .nil))
 refine wnt ?_
 refine wp_seq ?_
 refine wp_seq ?_
 refine wR ?_
 refine st_loadBA h rfl hb2 ag36 rfl ?_; clear h a; intro a h
 refine st_call h (evs_cons rfl evs_nil) co30 (check_ok s _) rfl ?_; clear h a; rintro _ w2 ⟨rfl, hq⟩ a h
 replace hf := hf.next hq
 replace hb2 := hb2.ext hq
 clear hq
 refine st_ne h rfl rfl rfl ?_; clear h a; intro a h
 replace h : Ag a 76 [(1, _), (2, _), (12, _)] := h.sub (.cons rfl (.cons rfl (.cons rfl .nil)))
 refine wnt ?_
 first | refine cond_dec h rfl (fun c0 => ?_) (fun c0 => ?_) | refine cond_ndec h rfl (fun c0 => ?_) (fun c0 => ?_) | refine cond_split h rfl (fun c0 => ?_) (fun c0 => ?_)
 ·have hc : checkS s ≠ 0 := c0
  refine wp_seq ?_
  refine wR ?_
  refine st_assign h rfl rfl ?_; clear h a; intro a h
  refine st_assign h rfl rfl ?_; clear h a; intro a h
  replace h : Ag a 76 [(4, _), (5, _)] := h.sub (.cons rfl (.cons rfl .nil))
  refine wnt ?_
  refine wp_ret (ret_then ?_)
  refine ret2 h Tryd.results71 rfl rfl ?_
  rw [loads_1 hc]; exact ⟨_, rfl, _, rfl, Own.nil _, hf⟩
 ·have hc : checkS s = 0 := Decidable.not_not.1 c0
  refine wsn ?_
  refine wp_seq ?_
  refine wp_seq ?_
  refine wR ?_
  refine st_move h rfl rfl ?_; clear h a; intro a h
  refine st_lenS h rfl Tryd.underlying68 rfl ?_; clear h a; intro a h
  refine st_loadBA h rfl hb2 ag36 rfl ?_; clear h a; intro a h
  refine st_call h (evs_cons rfl evs_nil) co70 (needs_ok s _) rfl ?_; clear h a; rintro _ w3 ⟨rfl, hq⟩ a h
  replace hf := hf.next hq
  replace hb2 := hb2.ext hq
  clear hq
  refine st_ne h rfl rfl rfl ?_; clear h a; intro a h
  replace h : Ag a 76 [(1, _), (2, _), (17, _)] := h.sub (.cons rfl (.cons rfl (.cons rfl .nil)))
  refine wnt ?_
  first | refine cond_dec h rfl (fun c1 => ?_) (fun c1 => ?_) | refine cond_ndec h rfl (fun c1 => ?_) (fun c1 => ?_) | refine cond_split h rfl (fun c1 => ?_) (fun c1 => ?_)
  ·refine id ?_
   refine wp_seq ?_
   refine wR ?_
   refine st_assign h rfl rfl ?_; clear h a; intro a h
   refine st_assign h rfl rfl ?_; clear h a; intro a h
   replace h : Ag a 76 [(4, _), (5, _)] := h.sub (.cons rfl (.cons rfl .nil))
   refine wnt ?_
   refine wp_ret (ret_then ?_)
   refine ret2 h Tryd.results71 rfl rfl ?_
   rw [loads_5 hc c1]; exact ⟨_, rfl, _, rfl, Own.nil _, hf⟩
  ·have hn : (l.length : Int) = needsS s := Decidable.not_not.1 c1
   refine wsn ?_
   refine wp_seq ?_
   refine wp_seq ?_
   refine wR ?_
   refine st_move h rfl rfl ?_; clear h a; intro a h
   refine st_lenS h rfl Tryd.underlying68 rfl ?_; clear h a; intro a h
   refine st_move h rfl rfl ?_; clear h a; intro a h
   replace h : Ag a 76 [(1, _), (2, _), (18, _), (19, _), (20, _)] := h.sub (.cons rfl (.cons rfl (.cons rfl (.cons rfl (.cons rfl .nil)))))
   refine wnt ?_
   refine wp_block ?_
   refine loop (ι := Nat) (fun k => [(1, .slice A l.length c), (2, .pointer (some ⟨g_2, 0, none⟩)), (18, .slice A l.length c), (19, .int .i64 (l.length : Int)), (20, .int .i64 (k : Int))]) (fun k w' => k ≤ l.length ∧ (l.take k).all few = true ∧ Blk w' g_2 36 [.int .u8 s.k, .int .u8 s.y, .int .i64 s.a, .int .i64 s.b, .bool s.f] ∧ Fr [] w0 w') (fun k => l.length - k) 0 (h.sub (.cons rfl (.cons rfl (.cons rfl (.cons rfl (.cons rfl .nil)))))) ⟨by omega, rfl, hb2, hf⟩ ?_
   clear h a hb2 hf
   rintro k w4 a h ⟨hkl, ha, hb2, hf⟩
   refine wp_seq ?_
   refine wR ?_
   refine st_lt h rfl rfl rfl ?_; clear h a; intro a h
   refine wnt ?_
   refine wp_seq ?_
   first | refine cond_dec h rfl (fun c2 => ?_) (fun c2 => ?_) | refine cond_ndec h rfl (fun c2 => ?_) (fun c2 => ?_) | refine cond_split h rfl (fun c2 => ?_) (fun c2 => ?_)
   ·obtain ⟨x, hxx⟩ : ∃ x, l[k]? = some x := ⟨_, List.getElem?_eq_getElem (by omega)⟩
    obtain ⟨ad, hAx, ca⟩ := hA _ x hxx
    refine wsn ?_
    refine wp_seq ?_
    refine wp_block ?_
    refine wp_seq ?_
    refine wR ?_
    refine st_idxS h (by rw [hAx]; rfl) rfl el68 (by omega) (by omega) rfl rfl ?_; clear h a; intro a h
    refine st_loadC0 h rfl (ca.fr hf (by simp)) na3 rfl ?_; clear h a; intro a h
    refine st_assign h rfl rfl ?_; clear h a; intro a h
    replace h : Ag a 76 [(1, _), (2, _), (7, _), (18, _), (19, _), (20, _)] := h.sub (.cons rfl (.cons rfl (.cons rfl (.cons rfl (.cons rfl (.cons rfl .nil))))))
    refine wnt ?_
    refine wp_seq ?_
    refine region_bool (r := 29) (L' := [(1, _), (2, _), (18, _), (19, _), (20, _)]) (¬ (1 ≤ x ∧ x ≤ 3)) h (.cons rfl (.cons rfl (.cons rfl (.cons rfl (.cons rfl .nil))))) ?_ ?_
    ·refine id ?_
     refine st_move h rfl rfl ?_; clear h a; intro a h
     refine st_lt h rfl rfl rfl ?_; clear h a; intro a h
     refine st_move h rfl rfl ?_; clear h a; intro a h
     first | refine guard_dec (D := 26) h rfl ?_ ?_ | refine guard_ndec (D := 26) h rfl ?_ ?_ | refine guard_any (D := 26) h rfl ?_ ?_
     ·clear h; intro g0 h
      refine gd_no h rfl rfl rfl rfl rfl rfl rfl rfl ?_; clear h a; intro a h
      refine gd_no h rfl rfl rfl rfl rfl rfl rfl rfl ?_; clear h a; intro a h
      refine st_pick_t h rfl rfl rfl rfl ?_; clear h a; intro a h
      exact wpList_nil (bool_end h rfl (by first | exact bt (by omega) | exact bf (by omega) | exact bi (by omega) | exact bn (by omega)) (.cons rfl (.cons rfl (.cons rfl (.cons rfl (.cons rfl .nil))))))
     ·clear h; intro g0 h
      refine gd_yes h rfl rfl rfl rfl rfl rfl ?_
      refine st_move h rfl rfl ?_; clear h a; intro a h
      refine gd_yes h rfl rfl rfl rfl rfl rfl ?_
      refine st_gt h rfl rfl rfl ?_; clear h a; intro a h
      refine st_pick_f h rfl rfl rfl rfl ?_; clear h a; intro a h
      exact wpList_nil (bool_end h rfl (by first | exact bt (by omega) | exact bf (by omega) | exact bi (by omega) | exact bn (by omega)) (.cons rfl (.cons rfl (.cons rfl (.cons rfl (.cons rfl .nil))))))
    ·clear h a; intro a h
     refine (norm_then ?_)
     first | refine cond_dec h rfl (fun c3 => ?_) (fun c3 => ?_) | refine cond_ndec h rfl (fun c3 => ?_) (fun c3 => ?_) | refine cond_split h rfl (fun c3 => ?_) (fun c3 => ?_)
     ·refine id ?_
      refine wp_seq ?_
      refine wR ?_
      refine st_assign h rfl rfl ?_; clear h a; intro a h
      refine st_assign h rfl rfl ?_; clear h a; intro a h
      replace h : Ag a 76 [(4, _), (5, _)] := h.sub (.cons rfl (.cons rfl .nil))
      refine wnt ?_
      refine wp_ret (ret_blk (ret_then (ret_then (ret_blk (ret_then ?_)))))
      refine ret2 h Tryd.results71 rfl rfl ?_
      rw [loads_b hc hn hxx c3]; exact ⟨_, rfl, _, rfl, Own.nil _, hf⟩
     ·refine id ?_
      refine wp_skip (norm_blk (norm_then ?_))
      refine wR ?_
      refine st_add h rfl rfl (by first | exact IntWalk.i64_in _ (by omega) | rfl) rfl ?_; clear h a; intro a h
      refine st_move h rfl rfl ?_; clear h a; intro a h
      replace h : Ag a 76 [(1, _), (2, _), (18, _), (19, _), (20, _)] := h.sub (.cons rfl (.cons rfl (.cons rfl (.cons rfl (.cons rfl .nil)))))
      refine wnt ?_
      exact ⟨k + 1, h.sub (.cons rfl (.cons rfl (.cons rfl (.cons rfl (.cons rfl .nil))))), ⟨by omega, all_few_next ha hxx (by omega), hb2, hf⟩, by omega⟩
   ·obtain rfl : k = l.length := by omega
    rw [List.take_length] at ha
    refine wp_exit (exit_then (exit_then (exit_here (norm_then ?_))))
    refine wp_seq ?_
    refine wR ?_
    refine st_loadBA h rfl hb2 ag36 rfl ?_; clear h a; intro a h
    refine st_call h (evs_cons rfl evs_nil) co80 (makes_ok s _) rfl ?_; clear h a; rintro _ w5 ⟨rfl, hq⟩ a h
    replace hf := hf.next hq
    replace hb2 := hb2.ext hq
    clear hq
    have hmn : ((makesS s).toNat : Int) = makesS s := by omega
    rw [← hmn] at h
    refine st_makeSlice (0 : Int) h rfl rfl el68 zv3 rfl (Nat.le_refl _) (by omega) (by unfold maxLen; omega) rfl ?_; clear h a; intro gM w6 hg hO hq hz a h
    have hgM : w0.heap.size ≤ gM := by have := hf.size; omega
    have hg2M : g_2 < gM := by have := hb2.lt; omega
    replace hf := hf.next hq
    replace hb2 := hb2.ext hq
    clear hq hz hg
    refine st_assign h rfl rfl ?_; clear h a; intro a h
    replace h : Ag a 76 [(1, _), (2, _), (8, _)] := h.sub (.cons rfl (.cons rfl (.cons rfl .nil)))
    refine wnt ?_
    refine wp_seq ?_
    refine wp_seq ?_
    refine wR ?_
    refine st_move h rfl rfl ?_; clear h a; intro a h
    refine st_lenS h rfl Tryd.underlying68 rfl ?_; clear h a; intro a h
    refine st_move h rfl rfl ?_; clear h a; intro a h
    replace h : Ag a 76 [(1, _), (2, _), (8, _), (35, _), (36, _)] := h.sub (.cons rfl (.cons rfl (.cons rfl (.cons rfl (.cons rfl .nil)))))
    refine wnt ?_
    refine wp_block ?_
    refine loop (ι := Nat) (fun j => [(1, .slice A l.length c), (2, .pointer (some ⟨g_2, 0, none⟩)), (8, .slice (some ⟨gM, 0, none⟩) (makesS s).toNat (makesS s).toNat), (35, .int .i64 ((makesS s).toNat : Int)), (36, .int .i64 (j : Int))]) (fun j w' => j ≤ (makesS s).toNat ∧ Lw.Own Enc.i64 3 gM w' (.slice (some ⟨gM, 0, none⟩) (makesS s).toNat (makesS s).toNat) (List.replicate j 1 ++ List.replicate ((makesS s).toNat - j) 0) ∧ Blk w' g_2 36 [.int .u8 s.k, .int .u8 s.y, .int .i64 s.a, .int .i64 s.b, .bool s.f] ∧ Fr [] w0 w') (fun j => (makesS s).toNat - j) 0 (h.sub (.cons rfl (.cons rfl (.cons rfl (.cons rfl (.cons rfl .nil)))))) ⟨by omega, by simpa using hO, hb2, hf⟩ ?_
    clear h a hb2 hf hO
    rintro j w7 a h ⟨hj, hO, hb2, hf⟩
    refine wp_seq ?_
    refine wR ?_
    refine st_lt h rfl rfl rfl ?_; clear h a; intro a h
    refine wnt ?_
    refine wp_seq ?_
    first | refine cond_dec h rfl (fun c4 => ?_) (fun c4 => ?_) | refine cond_ndec h rfl (fun c4 => ?_) (fun c4 => ?_) | refine cond_split h rfl (fun c4 => ?_) (fun c4 => ?_)
    ·refine id ?_
     refine wsn ?_
     refine wp_seq ?_
     refine wp_block ?_
     refine wp_seq ?_
     refine wR ?_
     refine st_move h rfl rfl ?_; clear h a; intro a h
     refine st_assign h rfl rfl ?_; clear h a; intro a h
     replace h : Ag a 76 [(1, _), (2, _), (8, _), (9, _), (35, _), (36, _)] := h.sub (.cons rfl (.cons rfl (.cons rfl (.cons rfl (.cons rfl (.cons rfl .nil))))))
     refine wnt ?_
     refine wR ?_
     refine st_move h rfl rfl ?_; clear h a; intro a h
     refine st_move h rfl rfl ?_; clear h a; intro a h
     refine st_idxS (p := j) h rfl rfl el68 (by omega) (by omega) (by omega) rfl ?_; clear h a; intro a h
     refine st_storeO (i := j) (1 : Int) h rfl rfl hO (by simp; omega) rfl sz3 ?_; clear h a; intro w8 hO2 hq hz a h
     replace hb2 := hb2.fr hq (by simp; omega)
     replace hf := hf.step hq (by simp; omega)
     clear hO hq hz; have hO := hO2; clear hO2
     rw [set_one j _ (by omega)] at hO
     replace h : Ag a 76 [(1, _), (2, _), (8, _), (35, _), (36, _)] := h.sub (.cons rfl (.cons rfl (.cons rfl (.cons rfl (.cons rfl .nil)))))
     refine wpList_nil (norm_blk (norm_then ?_))
     refine wR ?_
     refine st_add h rfl rfl (by first | exact IntWalk.i64_in _ (by omega) | rfl) rfl ?_; clear h a; intro a h
     refine st_move h rfl rfl ?_; clear h a; intro a h
     replace h : Ag a 76 [(1, _), (2, _), (8, _), (35, _), (36, _)] := h.sub (.cons rfl (.cons rfl (.cons rfl (.cons rfl (.cons rfl .nil)))))
     refine wnt ?_
     exact ⟨j + 1, h.sub (.cons rfl (.cons rfl (.cons rfl (.cons rfl (.cons rfl .nil))))), ⟨by omega, hO, hb2, hf⟩, by omega⟩
    ·obtain rfl : j = (makesS s).toNat := by omega
     rw [Nat.sub_self, List.replicate_zero, List.append_nil] at hO
     refine wp_exit (exit_then (exit_then (exit_here (norm_then ?_))))
     refine seq_cut (Cut (ι := Unit) 76 (fun u => [(8, .slice (some ⟨gM, 0, none⟩) (makesS s).toNat (makesS s).toNat)]) (fun u w' => Lw.Own Enc.i64 3 gM w' (.slice (some ⟨gM, 0, none⟩) (makesS s).toNat (makesS s).toNat) (loadsS s l).1 ∧ (loadsS s l).2 = 0 ∧ Fr [] w0 w')) ?_ ?_
     ·refine id ?_
      refine wp_seq ?_
      refine wR ?_
      refine st_fieldAddr h rfl fa36_0 rfl ?_; clear h a; intro a h
      refine st_loadB h rfl hb2 rfl na34 rfl ?_; clear h a; intro a h
      replace h : Ag a 76 [(1, _), (8, _), (44, _)] := h.sub (.cons rfl (.cons rfl (.cons rfl .nil)))
      refine wnt ?_
      refine wp_block ?_
      refine wp_seq ?_
      refine wp_seq ?_
      refine wR ?_
      refine st_eq h rfl rfl rfl ?_; clear h a; intro a h
      refine st_assign h rfl rfl ?_; clear h a; intro a h
      replace h : Ag a 76 [(1, _), (8, _), (44, _), (45, _)] := h.sub (.cons rfl (.cons rfl (.cons rfl (.cons rfl .nil))))
      refine wnt ?_
      first | refine cond_dec h rfl (fun c5 => ?_) (fun c5 => ?_) | refine cond_ndec h rfl (fun c5 => ?_) (fun c5 => ?_) | refine cond_split h rfl (fun c5 => ?_) (fun c5 => ?_)
      ·refine id ?_
       rw [decide_eq_true c5] at h
       refine wsn ?_
       refine cond_true h rfl ?_
       have h4 : s.k = 4 ∨ s.k = 5 := by omega
       have hn2 := needs_2 hc h4
       obtain ⟨x, hxx⟩ : ∃ x, l[0]? = some x := ⟨_, List.getElem?_eq_getElem (by omega)⟩
       obtain ⟨ad, hAx, ca⟩ := hA _ x hxx
       obtain ⟨y, hxy⟩ : ∃ x, l[1]? = some x := ⟨_, List.getElem?_eq_getElem (by omega)⟩
       obtain ⟨bd, hAy, cb⟩ := hA _ y hxy
       have hfx := (few_iff x).1 (List.all_eq_true.1 ha x (List.mem_of_getElem? hxx))
       have hfy := (few_iff y).1 (List.all_eq_true.1 ha y (List.mem_of_getElem? hxy))
       refine wp_seq ?_
       refine region_quiet hmix (by kernel_rfl) ?_
       refine qt_move h rfl rfl ?_; clear h a; intro a h
       refine qt_idxS (p := 0) h (by rw [hAx]; rfl) rfl el68 (by omega) (by omega) (by omega) rfl ?_; clear h a; intro a h
       refine qt_loadC0 h rfl (fun _ hw => (ca.fr hf (by simp)).fr hw (by simp)) na3 rfl ?_; clear h a; intro a h
       refine qt_move h rfl rfl ?_; clear h a; intro a h
       refine qt_idxS (p := 1) h (by rw [hAy]; rfl) rfl el68 (by omega) (by omega) (by omega) rfl ?_; clear h a; intro a h
       refine qt_loadC0 h rfl (fun _ hw => (cb.fr hf (by simp)).fr hw (by simp)) na3 rfl ?_; clear h a; intro a h
       refine qt_add h rfl rfl (by first | exact IntWalk.i64_in _ (by omega) | rfl) rfl ?_; clear h a; intro a h
       refine qt_gt h rfl rfl rfl ?_; clear h a; intro a h
       refine wpQuiet_nil ?_
       intro w9 hq
       replace hf := hf.next hq
       replace hb2 := hb2.ext hq
       replace hO := hO.ext hq
       clear hq
       replace h : Ag a 76 [(8, _), (55, _)] := h.sub (.cons rfl (.cons rfl .nil))
       refine (norm_then ?_)
       first | refine cond_dec h rfl (fun c7 => ?_) (fun c7 => ?_) | refine cond_ndec h rfl (fun c7 => ?_) (fun c7 => ?_) | refine cond_split h rfl (fun c7 => ?_) (fun c7 => ?_)
       ·refine id ?_
        refine wp_seq ?_
        refine wR ?_
        refine st_assign h rfl rfl ?_; clear h a; intro a h
        refine st_assign h rfl rfl ?_; clear h a; intro a h
        replace h : Ag a 76 [(4, _), (5, _)] := h.sub (.cons rfl (.cons rfl .nil))
        refine wnt ?_
        refine wp_ret (ret_blk (ret_then ?_))
        refine ret2 h Tryd.results71 rfl rfl ?_
        rw [loads_2f hc hn ha h4 hxx hxy c7]; exact ⟨_, rfl, _, rfl, Own.nil _, hf⟩
       ·refine id ?_
        refine wp_skip (norm_blk (norm_then ?_))
        first | (have e := loads_2 hc hn ha h4 hxx hxy c7; exact ⟨(), h.sub (.cons rfl .nil), by rw [e, show (makesS s).toNat = 1 by rw [makes_1 hc (by omega)]; rfl] at *; exact hO, by rw [e], hf⟩) | (have e := loads_6 hc hn ha c8 hxx c9; exact ⟨(), h.sub (.cons rfl .nil), by rw [e]; rw [hm1] at hO ⊢; exact hO, by rw [e], hf⟩) | (have e := loads_7 hc hn ha c10 hxx; exact ⟨(), h.sub (.cons rfl .nil), by rw [e]; rw [hm1] at hO ⊢; exact hO, by rw [e], hf⟩) | (have e := loads_o hc hn ha h4 c8 c10; exact ⟨(), h.sub (.cons rfl .nil), by rw [e]; exact hO, by rw [e], hf⟩)
      ·refine id ?_
       rw [decide_eq_false c5] at h
       refine wR ?_
       refine st_eq h rfl rfl rfl ?_; clear h a; intro a h
       refine st_assign h rfl rfl ?_; clear h a; intro a h
       replace h : Ag a 76 [(1, _), (8, _), (44, _), (45, _)] := h.sub (.cons rfl (.cons rfl (.cons rfl (.cons rfl .nil))))
       refine wnt ?_
       first | refine cond_dec h rfl (fun c6 => ?_) (fun c6 => ?_) | refine cond_ndec h rfl (fun c6 => ?_) (fun c6 => ?_) | refine cond_split h rfl (fun c6 => ?_) (fun c6 => ?_)
       ·have h4 : s.k = 4 ∨ s.k = 5 := by omega
        have hn2 := needs_2 hc h4
        obtain ⟨x, hxx⟩ : ∃ x, l[0]? = some x := ⟨_, List.getElem?_eq_getElem (by omega)⟩
        obtain ⟨ad, hAx, ca⟩ := hA _ x hxx
        obtain ⟨y, hxy⟩ : ∃ x, l[1]? = some x := ⟨_, List.getElem?_eq_getElem (by omega)⟩
        obtain ⟨bd, hAy, cb⟩ := hA _ y hxy
        have hfx := (few_iff x).1 (List.all_eq_true.1 ha x (List.mem_of_getElem? hxx))
        have hfy := (few_iff y).1 (List.all_eq_true.1 ha y (List.mem_of_getElem? hxy))
        refine wp_seq ?_
        refine region_quiet hmix (by kernel_rfl) ?_
        refine qt_move h rfl rfl ?_; clear h a; intro a h
        refine qt_idxS (p := 0) h (by rw [hAx]; rfl) rfl el68 (by omega) (by omega) (by omega) rfl ?_; clear h a; intro a h
        refine qt_loadC0 h rfl (fun _ hw => (ca.fr hf (by simp)).fr hw (by simp)) na3 rfl ?_; clear h a; intro a h
        refine qt_move h rfl rfl ?_; clear h a; intro a h
        refine qt_idxS (p := 1) h (by rw [hAy]; rfl) rfl el68 (by omega) (by omega) (by omega) rfl ?_; clear h a; intro a h
        refine qt_loadC0 h rfl (fun _ hw => (cb.fr hf (by simp)).fr hw (by simp)) na3 rfl ?_; clear h a; intro a h
        refine qt_add h rfl rfl (by first | exact IntWalk.i64_in _ (by omega) | rfl) rfl ?_; clear h a; intro a h
        refine qt_gt h rfl rfl rfl ?_; clear h a; intro a h
        refine wpQuiet_nil ?_
        intro w10 hq
        replace hf := hf.next hq
        replace hb2 := hb2.ext hq
        replace hO := hO.ext hq
        clear hq
        replace h : Ag a 76 [(8, _), (55, _)] := h.sub (.cons rfl (.cons rfl .nil))
        refine (norm_then ?_)
        first | refine cond_dec h rfl (fun c7 => ?_) (fun c7 => ?_) | refine cond_ndec h rfl (fun c7 => ?_) (fun c7 => ?_) | refine cond_split h rfl (fun c7 => ?_) (fun c7 => ?_)
        ·refine id ?_
         refine wp_seq ?_
         refine wR ?_
         refine st_assign h rfl rfl ?_; clear h a; intro a h
         refine st_assign h rfl rfl ?_; clear h a; intro a h
         replace h : Ag a 76 [(4, _), (5, _)] := h.sub (.cons rfl (.cons rfl .nil))
         refine wnt ?_
         refine wp_ret (ret_blk (ret_then ?_))
         refine ret2 h Tryd.results71 rfl rfl ?_
         rw [loads_2f hc hn ha h4 hxx hxy c7]; exact ⟨_, rfl, _, rfl, Own.nil _, hf⟩
        ·refine id ?_
         refine wp_skip (norm_blk (norm_then ?_))
         first | (have e := loads_2 hc hn ha h4 hxx hxy c7; exact ⟨(), h.sub (.cons rfl .nil), by rw [e, show (makesS s).toNat = 1 by rw [makes_1 hc (by omega)]; rfl] at *; exact hO, by rw [e], hf⟩) | (have e := loads_6 hc hn ha c8 hxx c9; exact ⟨(), h.sub (.cons rfl .nil), by rw [e]; rw [hm1] at hO ⊢; exact hO, by rw [e], hf⟩) | (have e := loads_7 hc hn ha c10 hxx; exact ⟨(), h.sub (.cons rfl .nil), by rw [e]; rw [hm1] at hO ⊢; exact hO, by rw [e], hf⟩) | (have e := loads_o hc hn ha h4 c8 c10; exact ⟨(), h.sub (.cons rfl .nil), by rw [e]; exact hO, by rw [e], hf⟩)
       ·have h4 : ¬ (s.k = 4 ∨ s.k = 5) := by omega
        refine wp_seq ?_
        refine wR ?_
        refine st_eq h rfl rfl rfl ?_; clear h a; intro a h
        refine st_assign h rfl rfl ?_; clear h a; intro a h
        replace h : Ag a 76 [(1, _), (8, _), (44, _), (56, _)] := h.sub (.cons rfl (.cons rfl (.cons rfl (.cons rfl .nil))))
        refine wnt ?_
        first | refine cond_dec h rfl (fun c8 => ?_) (fun c8 => ?_) | refine cond_ndec h rfl (fun c8 => ?_) (fun c8 => ?_) | refine cond_split h rfl (fun c8 => ?_) (fun c8 => ?_)
        ·have hn1 := needs_1 hc (by omega) (by omega) h4
         have hm1 := makes_1 hc (show s.k ≠ 8 by omega)
         obtain ⟨x, hxx⟩ : ∃ x, l[0]? = some x := ⟨_, List.getElem?_eq_getElem (by omega)⟩
         obtain ⟨ad, hAx, ca⟩ := hA _ x hxx
         have hfx := (few_iff x).1 (List.all_eq_true.1 ha x (List.mem_of_getElem? hxx))
         refine wp_seq ?_
         refine wp_seq ?_
         refine wR ?_
         refine st_move h rfl rfl ?_; clear h a; intro a h
         refine st_idxS (p := 0) h (by rw [hAx]; rfl) rfl el68 (by omega) (by omega) (by omega) rfl ?_; clear h a; intro a h
         refine st_loadC0 h rfl (ca.fr hf (by simp)) na3 rfl ?_; clear h a; intro a h
         refine st_eq h rfl rfl rfl ?_; clear h a; intro a h
         replace h : Ag a 76 [(1, _), (8, _), (61, _)] := h.sub (.cons rfl (.cons rfl (.cons rfl .nil)))
         refine wnt ?_
         first | refine cond_dec h rfl (fun c9 => ?_) (fun c9 => ?_) | refine cond_ndec h rfl (fun c9 => ?_) (fun c9 => ?_) | refine cond_split h rfl (fun c9 => ?_) (fun c9 => ?_)
         ·refine id ?_
          refine wp_seq ?_
          refine wR ?_
          refine st_assign h rfl rfl ?_; clear h a; intro a h
          refine st_assign h rfl rfl ?_; clear h a; intro a h
          replace h : Ag a 76 [(4, _), (5, _)] := h.sub (.cons rfl (.cons rfl .nil))
          refine wnt ?_
          refine wp_ret (ret_then (ret_blk (ret_then ?_)))
          refine ret2 h Tryd.results71 rfl rfl ?_
          rw [loads_6f hc hn ha c8 hxx c9]; exact ⟨_, rfl, _, rfl, Own.nil _, hf⟩
         ·refine id ?_
          refine wsn ?_
          refine wR ?_
          refine st_move h rfl rfl ?_; clear h a; intro a h
          refine st_move h rfl rfl ?_; clear h a; intro a h
          refine st_idxS (p := 0) h (by rw [hAx]; rfl) rfl el68 (by omega) (by omega) (by omega) rfl ?_; clear h a; intro a h
          refine st_loadC0 h rfl (ca.fr hf (by simp)) na3 rfl ?_; clear h a; intro a h
          refine st_add h rfl rfl (by first | exact IntWalk.i64_in _ (by omega) | rfl) rfl ?_; clear h a; intro a h
          refine st_idxS (p := 0) h rfl rfl el68 (by omega) (by omega) (by omega) rfl ?_; clear h a; intro a h
          refine st_storeO (i := 0) (x + 1) h rfl rfl hO (by simp; omega) rfl sz3 ?_; clear h a; intro w11 hO2 hq hz a h
          replace hb2 := hb2.fr hq (by simp; omega)
          replace hf := hf.step hq (by simp; omega)
          clear hO hq hz; have hO := hO2; clear hO2
          
          replace h : Ag a 76 [(8, _)] := h.sub (.cons rfl .nil)
          refine wpList_nil (norm_blk (norm_then ?_))
          first | (have e := loads_2 hc hn ha h4 hxx hxy c7; exact ⟨(), h.sub (.cons rfl .nil), by rw [e, show (makesS s).toNat = 1 by rw [makes_1 hc (by omega)]; rfl] at *; exact hO, by rw [e], hf⟩) | (have e := loads_6 hc hn ha c8 hxx c9; exact ⟨(), h.sub (.cons rfl .nil), by rw [e]; rw [hm1] at hO ⊢; exact hO, by rw [e], hf⟩) | (have e := loads_7 hc hn ha c10 hxx; exact ⟨(), h.sub (.cons rfl .nil), by rw [e]; rw [hm1] at hO ⊢; exact hO, by rw [e], hf⟩) | (have e := loads_o hc hn ha h4 c8 c10; exact ⟨(), h.sub (.cons rfl .nil), by rw [e]; exact hO, by rw [e], hf⟩)
        ·refine id ?_
         refine wp_seq ?_
         refine wR ?_
         refine st_eq h rfl rfl rfl ?_; clear h a; intro a h
         refine st_assign h rfl rfl ?_; clear h a; intro a h
         replace h : Ag a 76 [(1, _), (8, _), (68, _)] := h.sub (.cons rfl (.cons rfl (.cons rfl .nil)))
         refine wnt ?_
         first | refine cond_dec h rfl (fun c10 => ?_) (fun c10 => ?_) | refine cond_ndec h rfl (fun c10 => ?_) (fun c10 => ?_) | refine cond_split h rfl (fun c10 => ?_) (fun c10 => ?_)
         ·have hn1 := needs_1 hc (by omega) (by omega) h4
          have hm1 := makes_1 hc (show s.k ≠ 8 by omega)
          obtain ⟨x, hxx⟩ : ∃ x, l[0]? = some x := ⟨_, List.getElem?_eq_getElem (by omega)⟩
          obtain ⟨ad, hAx, ca⟩ := hA _ x hxx
          refine wR ?_
          refine st_move h rfl rfl ?_; clear h a; intro a h
          refine st_move h rfl rfl ?_; clear h a; intro a h
          refine st_idxS (p := 0) h (by rw [hAx]; rfl) rfl el68 (by omega) (by omega) (by omega) rfl ?_; clear h a; intro a h
          refine st_loadC0 h rfl (ca.fr hf (by simp)) na3 rfl ?_; clear h a; intro a h
          refine st_idxS (p := 0) h rfl rfl el68 (by omega) (by omega) (by omega) rfl ?_; clear h a; intro a h
          refine st_storeO (i := 0) x h rfl rfl hO (by simp; omega) rfl sz3 ?_; clear h a; intro w12 hO2 hq hz a h
          replace hb2 := hb2.fr hq (by simp; omega)
          replace hf := hf.step hq (by simp; omega)
          clear hO hq hz; have hO := hO2; clear hO2
          
          replace h : Ag a 76 [(8, _)] := h.sub (.cons rfl .nil)
          refine wpList_nil (norm_blk (norm_then ?_))
          first | (have e := loads_2 hc hn ha h4 hxx hxy c7; exact ⟨(), h.sub (.cons rfl .nil), by rw [e, show (makesS s).toNat = 1 by rw [makes_1 hc (by omega)]; rfl] at *; exact hO, by rw [e], hf⟩) | (have e := loads_6 hc hn ha c8 hxx c9; exact ⟨(), h.sub (.cons rfl .nil), by rw [e]; rw [hm1] at hO ⊢; exact hO, by rw [e], hf⟩) | (have e := loads_7 hc hn ha c10 hxx; exact ⟨(), h.sub (.cons rfl .nil), by rw [e]; rw [hm1] at hO ⊢; exact hO, by rw [e], hf⟩) | (have e := loads_o hc hn ha h4 c8 c10; exact ⟨(), h.sub (.cons rfl .nil), by rw [e]; exact hO, by rw [e], hf⟩)
         ·refine id ?_
          refine wp_skip (norm_blk (norm_then ?_))
          first | (have e := loads_2 hc hn ha h4 hxx hxy c7; exact ⟨(), h.sub (.cons rfl .nil), by rw [e, show (makesS s).toNat = 1 by rw [makes_1 hc (by omega)]; rfl] at *; exact hO, by rw [e], hf⟩) | (have e := loads_6 hc hn ha c8 hxx c9; exact ⟨(), h.sub (.cons rfl .nil), by rw [e]; rw [hm1] at hO ⊢; exact hO, by rw [e], hf⟩) | (have e := loads_7 hc hn ha c10 hxx; exact ⟨(), h.sub (.cons rfl .nil), by rw [e]; rw [hm1] at hO ⊢; exact hO, by rw [e], hf⟩) | (have e := loads_o hc hn ha h4 c8 c10; exact ⟨(), h.sub (.cons rfl .nil), by rw [e]; exact hO, by rw [e], hf⟩)
     ·clear h a hb2 hf hO
      rintro a w13 ⟨u, h, ⟨hO, h0, hf⟩⟩
      refine wp_seq ?_
      refine wR ?_
      refine st_move h rfl rfl ?_; clear h a; intro a h
      refine st_assign h rfl rfl ?_; clear h a; intro a h
      refine st_assign h rfl rfl ?_; clear h a; intro a h
      replace h : Ag a 76 [(4, _), (5, _)] := h.sub (.cons rfl (.cons rfl .nil))
      refine wnt ?_
      refine wp_ret ?_
      refine ret2 h Tryd.results71 rfl rfl ?_
      exact ⟨_, rfl, _, by rw [h0], hO.low hgM, hf⟩
end Go.Proofs.YtbbnampdgefljaaDoor
namespace Go.Proofs.YtbbnampdgefljaaDoor
open Go.Lw Go.G14
theorem co40 : CallOf Tryd.prog 40 := CallOf.mk' Tryd.func40 (by kernel_rfl) (by kernel_rfl)
theorem co41 : CallOf Tryd.prog 41 := CallOf.mk' Tryd.func41 (by kernel_rfl) (by kernel_rfl)
theorem co68 : CallOf Tryd.prog 68 := CallOf.mk' Tryd.func68 (by kernel_rfl) (by kernel_rfl)
theorem co69 : CallOf Tryd.prog 69 := CallOf.mk' Tryd.func69 (by kernel_rfl) (by kernel_rfl)
theorem co79 : CallOf Tryd.prog 79 := CallOf.mk' Tryd.func79 (by kernel_rfl) (by kernel_rfl)
theorem total_ok (fid : Nat) (g : Stitch → Int) (hg : ∀ s, 0 ≤ g s ∧ g s ≤ 4) (hgc : ∀ s w, Rets Tryd.prog fid #[stV s] w fun v w' => v = .int .i64 (g s) ∧ Fr [] w w') (hco : CallOf Tryd.prog fid) (u : Value) (xs : List Stitch) (w0 : World) (hu : Sl encSt w0 u xs) (h16 : xs.length ≤ 16) : Rets Tryd.prog 79 #[u, .func (.func fid) #[] #[]] w0 fun v w' => v = .int .i64 (xs.map g).sum ∧ Fr [] w0 w' := by
 obtain ⟨A, c, rfl, hcp⟩ := hu.form
 obtain ⟨-, -, hM, hA⟩ := Sl.open_ hu
 unfold maxLen at hM
 refine enter [(0, .slice A xs.length c), (1, .func (.func fid) #[] #[])] Tryd.func79 rfl Tryd.ntmps79 rfl (.cons rfl (.cons rfl .nil)) ?_
 have hf := Fr.refl [] w0
 intro a h
 refine wp_seq ?_
 refine wR ?_
 refine st_assign h rfl rfl ?_; clear h a; intro a h
 replace h : Ag a 21 [(0, _), (1, _)] := h.sub (.cons rfl (.cons rfl .nil))
 refine wnt ?_
 refine wp_seq ?_
 refine wR ?_
 refine st_assign h rfl rfl ?_; clear h a; intro a h
 refine wnt ?_
 refine wp_seq ?_
 refine wp_seq ?_
 refine wR ?_
 refine st_move h rfl rfl ?_; clear h a; intro a h
 refine st_lenS h rfl Tryd.underlying22 rfl ?_; clear h a; intro a h
 refine st_move h rfl rfl ?_; clear h a; intro a h
 replace h : Ag a 21 [(1, _), (5, _), (8, _), (9, _), (10, _)] := h.sub (.cons rfl (.cons rfl (.cons rfl (.cons rfl (.cons rfl .nil)))))
 refine wnt ?_
 refine wp_block ?_
 refine loop (ι := Nat) (fun k => [(1, .func (.func fid) #[] #[]), (5, .int .i64 ((xs.take k).map g).sum), (8, .slice A xs.length c), (9, .int .i64 (xs.length : Int)), (10, .int .i64 (k : Int))]) (fun k w' => k ≤ xs.length ∧ Fr [] w0 w') (fun k => xs.length - k) 0 (h.sub (.cons rfl (.cons rfl (.cons rfl (.cons rfl (.cons rfl .nil)))))) ⟨by omega, hf⟩ ?_
 clear h a hf
 rintro k w1 a h ⟨hk, hf⟩
 have hsr := sum_rng hg (xs.take k)
 rw [List.length_take] at hsr
 refine wp_seq ?_
 refine wR ?_
 refine st_lt h rfl rfl rfl ?_; clear h a; intro a h
 refine wnt ?_
 refine wp_seq ?_
 first | refine cond_dec h rfl (fun c0 => ?_) (fun c0 => ?_) | refine cond_ndec h rfl (fun c0 => ?_) (fun c0 => ?_) | refine cond_split h rfl (fun c0 => ?_) (fun c0 => ?_)
 ·obtain ⟨x, hxk⟩ : ∃ x, xs[k]? = some x := ⟨_, List.getElem?_eq_getElem (by omega)⟩
  obtain ⟨ad, hAd, ca⟩ := hA k x hxk
  have hgx := hg x
  refine wsn ?_
  refine wp_seq ?_
  refine wp_block ?_
  refine wp_seq ?_
  refine wR ?_
  refine st_idxS h (by rw [hAd]; rfl) rfl el22 (by omega) (by omega) rfl rfl ?_; clear h a; intro a h
  refine st_loadA h rfl (ca.fr hf (by simp)) ag36 rfl ?_; clear h a; intro a h
  refine st_alloc h zv36 rfl rfl ?_; clear h a; intro w2 hb7 hq hz a h
  obtain ⟨g_7, hg⟩ : ∃ g, g = w1.heap.size := ⟨_, rfl⟩; rw [← hg] at hb7 h hz
  have hl7 : w0.heap.size ≤ g_7 := by have := hf.size; omega
  replace hf := hf.next hq
  clear hq hz hg
  refine st_storeBA h rfl rfl hb7 rfl (by first | (simp [Value.oneCell', S]; done) | exact Enc.one _ _) sz36 ?_; clear h a; intro w3 hbn hq hz a h
  replace hf := hf.step hq (by first | (simp; done) | (simp; omega))
  clear hb7 hq hz; have hb7 : Blk w3 g_7 _ [_, _, _, _, _] := hbn; clear hbn
  replace h : Ag a 21 [(1, _), (5, _), (7, _), (8, _), (9, _), (10, _)] := h.sub (.cons rfl (.cons rfl (.cons rfl (.cons rfl (.cons rfl (.cons rfl .nil))))))
  refine wnt ?_
  refine wR ?_
  refine st_move h rfl rfl ?_; clear h a; intro a h
  refine st_move h rfl rfl ?_; clear h a; intro a h
  refine st_loadBA h rfl hb7 ag36 rfl ?_; clear h a; intro a h
  refine st_callv (us := []) (ws := []) h rfl (evs_cons rfl evs_nil) hco (hgc x _) rfl (by intro g; simp) ?_; clear h a; rintro _ w4 ⟨rfl, hq⟩ a h
  replace hf := hf.next hq
  replace hb7 := hb7.ext hq
  clear hq
  refine st_add h rfl rfl (by first | exact IntWalk.i64_in _ (by omega) | rfl) rfl ?_; clear h a; intro a h
  refine st_assign h rfl rfl ?_; clear h a; intro a h
  replace h : Ag a 21 [(1, _), (5, _), (8, _), (9, _), (10, _)] := h.sub (.cons rfl (.cons rfl (.cons rfl (.cons rfl (.cons rfl .nil)))))
  refine wpList_nil (norm_blk (norm_then ?_))
  refine wR ?_
  refine st_add h rfl rfl (by first | exact IntWalk.i64_in _ (by omega) | rfl) rfl ?_; clear h a; intro a h
  refine st_move h rfl rfl ?_; clear h a; intro a h
  replace h : Ag a 21 [(1, _), (5, _), (8, _), (9, _), (10, _)] := h.sub (.cons rfl (.cons rfl (.cons rfl (.cons rfl (.cons rfl .nil)))))
  refine wnt ?_
  exact ⟨k + 1, h.sub (.cons rfl (.cons (by rw [sum_next hxk]; rfl) (.cons rfl (.cons rfl (.cons rfl .nil))))), ⟨by omega, hf⟩, by omega⟩
 ·obtain rfl : k = xs.length := by omega
  rw [List.take_length] at h
  refine wp_exit (exit_then (exit_then (exit_here (norm_then ?_))))
  refine wp_seq ?_
  refine wR ?_
  refine st_move h rfl rfl ?_; clear h a; intro a h
  refine st_assign h rfl rfl ?_; clear h a; intro a h
  replace h : Ag a 21 [(4, _)] := h.sub (.cons rfl .nil)
  refine wnt ?_
  refine wp_ret ?_
  refine ret1 h Tryd.results79 rfl ?_
  exact ⟨_, rfl, rfl, hf⟩
theorem cneeds_ok (u : Value) (xs : List Stitch) (w0 : World) (hu : Sl encSt w0 u xs) (h16 : xs.length ≤ 16) : Rets Tryd.prog 68 #[u] w0 fun v w' => v = .int .i64 (needsR xs) ∧ Fr [] w0 w' := by
 obtain ⟨A, c, rfl, hcp⟩ := hu.form
 refine enter [(0, .slice A xs.length c)] Tryd.func68 rfl Tryd.ntmps68 rfl (.cons rfl .nil) ?_
 have hf := Fr.refl [] w0
 intro a h
 refine wp_seq ?_
 refine wR ?_
 refine st_assign h rfl rfl ?_; clear h a; intro a h
 replace h : Ag a 5 [(0, _)] := h.sub (.cons rfl .nil)
 refine wnt ?_
 refine wp_seq ?_
 refine wR ?_
 refine st_move h rfl rfl ?_; clear h a; intro a h
 refine st_call h (evs_cons rfl (evs_cons rfl evs_nil)) co79 (total_ok 70 needsS needs_rng (fun s w => needs_ok s w) co70 _ xs _ hu h16) rfl ?_; clear h a; rintro _ w1 ⟨rfl, hq⟩ a h
 replace hf := hf.next hq
 clear hq
 refine st_assign h rfl rfl ?_; clear h a; intro a h
 replace h : Ag a 5 [(2, _)] := h.sub (.cons rfl .nil)
 refine wnt ?_
 refine wp_ret ?_
 refine ret1 h Tryd.results68 rfl ?_
 exact ⟨_, rfl, rfl, hf⟩
theorem cmakes_ok (u : Value) (xs : List Stitch) (w0 : World) (hu : Sl encSt w0 u xs) (h16 : xs.length ≤ 16) : Rets Tryd.prog 69 #[u] w0 fun v w' => v = .int .i64 (makesR xs) ∧ Fr [] w0 w' := by
 obtain ⟨A, c, rfl, hcp⟩ := hu.form
 refine enter [(0, .slice A xs.length c)] Tryd.func69 rfl Tryd.ntmps69 rfl (.cons rfl .nil) ?_
 have hf := Fr.refl [] w0
 intro a h
 refine wp_seq ?_
 refine wR ?_
 refine st_assign h rfl rfl ?_; clear h a; intro a h
 replace h : Ag a 5 [(0, _)] := h.sub (.cons rfl .nil)
 refine wnt ?_
 refine wp_seq ?_
 refine wR ?_
 refine st_move h rfl rfl ?_; clear h a; intro a h
 refine st_call h (evs_cons rfl (evs_cons rfl evs_nil)) co79 (total_ok 80 makesS makes_rng (fun s w => makes_ok s w) co80 _ xs _ hu h16) rfl ?_; clear h a; rintro _ w1 ⟨rfl, hq⟩ a h
 replace hf := hf.next hq
 clear hq
 refine st_assign h rfl rfl ?_; clear h a; intro a h
 replace h : Ag a 5 [(2, _)] := h.sub (.cons rfl .nil)
 refine wnt ?_
 refine wp_ret ?_
 refine ret1 h Tryd.results69 rfl ?_
 exact ⟨_, rfl, rfl, hf⟩
theorem checkrow_ok (u : Value) (xs : List Stitch) (w0 : World) (hu : Sl encSt w0 u xs) : Rets Tryd.prog 78 #[u] w0 fun v w' => v = .int .i64 (rowE xs) ∧ Fr [] w0 w' := by
 obtain ⟨A, c, rfl, hcp⟩ := hu.form
 obtain ⟨-, -, hM, hA⟩ := Sl.open_ hu
 unfold maxLen at hM
 refine enter [(0, .slice A xs.length c)] Tryd.func78 rfl Tryd.ntmps78 rfl (.cons rfl .nil) ?_
 have hf := Fr.refl [] w0
 intro a h
 refine wp_seq ?_
 refine wR ?_
 refine st_assign h rfl rfl ?_; clear h a; intro a h
 replace h : Ag a 41 [(0, _)] := h.sub (.cons rfl .nil)
 refine wnt ?_
 refine wp_seq ?_
 refine wp_seq ?_
 refine wR ?_
 refine st_move h rfl rfl ?_; clear h a; intro a h
 refine st_lenS h rfl Tryd.underlying22 rfl ?_; clear h a; intro a h
 refine st_gt h rfl rfl rfl ?_; clear h a; intro a h
 replace h : Ag a 41 [(0, _), (9, _)] := h.sub (.cons rfl (.cons rfl .nil))
 refine wnt ?_
 first | refine cond_dec h rfl (fun c0 => ?_) (fun c0 => ?_) | refine cond_ndec h rfl (fun c0 => ?_) (fun c0 => ?_) | refine cond_split h rfl (fun c0 => ?_) (fun c0 => ?_)
 ·refine id ?_
  refine wp_seq ?_
  refine wR ?_
  refine st_assign h rfl rfl ?_; clear h a; intro a h
  replace h : Ag a 41 [(2, _)] := h.sub (.cons rfl .nil)
  refine wnt ?_
  refine wp_ret (ret_then ?_)
  refine ret1 h Tryd.results78 rfl ?_
  exact ⟨_, rfl, by rw [row3 (by omega)], hf⟩
 ·refine id ?_
  refine wsn ?_
  refine wp_seq ?_
  refine wp_seq ?_
  refine wR ?_
  refine st_move h rfl rfl ?_; clear h a; intro a h
  refine st_lenS h rfl Tryd.underlying22 rfl ?_; clear h a; intro a h
  refine st_eq h rfl rfl rfl ?_; clear h a; intro a h
  replace h : Ag a 41 [(0, _), (12, _)] := h.sub (.cons rfl (.cons rfl .nil))
  refine wnt ?_
  first | refine cond_dec h rfl (fun c1 => ?_) (fun c1 => ?_) | refine cond_ndec h rfl (fun c1 => ?_) (fun c1 => ?_) | refine cond_split h rfl (fun c1 => ?_) (fun c1 => ?_)
  ·refine id ?_
   refine wp_seq ?_
   refine wR ?_
   refine st_assign h rfl rfl ?_; clear h a; intro a h
   replace h : Ag a 41 [(2, _)] := h.sub (.cons rfl .nil)
   refine wnt ?_
   refine wp_ret (ret_then ?_)
   refine ret1 h Tryd.results78 rfl ?_
   exact ⟨_, rfl, by rw [row1 (by omega) (by omega)], hf⟩
  ·refine id ?_
   refine wsn ?_
   refine wp_seq ?_
   refine wp_seq ?_
   refine wR ?_
   refine st_move h rfl rfl ?_; clear h a; intro a h
   refine st_lenS h rfl Tryd.underlying22 rfl ?_; clear h a; intro a h
   refine st_move h rfl rfl ?_; clear h a; intro a h
   replace h : Ag a 41 [(0, _), (13, _), (14, _), (15, _)] := h.sub (.cons rfl (.cons rfl (.cons rfl (.cons rfl .nil))))
   refine wnt ?_
   refine wp_block ?_
   refine loop (ι := Nat) (fun k => [(0, .slice A xs.length c), (13, .slice A xs.length c), (14, .int .i64 (xs.length : Int)), (15, .int .i64 (k : Int))]) (fun k w' => k ≤ xs.length ∧ (xs.take k).all okB = true ∧ Fr [] w0 w') (fun k => xs.length - k) 0 (h.sub (.cons rfl (.cons rfl (.cons rfl (.cons rfl .nil))))) ⟨by omega, rfl, hf⟩ ?_
   clear h a hf
   rintro k w1 a h ⟨hk, ha, hf⟩
   refine wp_seq ?_
   refine wR ?_
   refine st_lt h rfl rfl rfl ?_; clear h a; intro a h
   refine wnt ?_
   refine wp_seq ?_
   first | refine cond_dec h rfl (fun c2 => ?_) (fun c2 => ?_) | refine cond_ndec h rfl (fun c2 => ?_) (fun c2 => ?_) | refine cond_split h rfl (fun c2 => ?_) (fun c2 => ?_)
   ·obtain ⟨x, hxk⟩ : ∃ x, xs[k]? = some x := ⟨_, List.getElem?_eq_getElem (by omega)⟩
    obtain ⟨ad, hAd, ca⟩ := hA k x hxk
    refine wsn ?_
    refine wp_seq ?_
    refine wp_block ?_
    refine wp_seq ?_
    refine wR ?_
    refine st_idxS h (by rw [hAd]; rfl) rfl el22 (by omega) (by omega) rfl rfl ?_; clear h a; intro a h
    refine st_loadA h rfl (ca.fr hf (by simp)) ag36 rfl ?_; clear h a; intro a h
    refine st_alloc h zv36 rfl rfl ?_; clear h a; intro w2 hb4 hq hz a h
    obtain ⟨g_4, hg⟩ : ∃ g, g = w1.heap.size := ⟨_, rfl⟩; rw [← hg] at hb4 h hz
    have hl4 : w0.heap.size ≤ g_4 := by have := hf.size; omega
    replace hf := hf.next hq
    clear hq hz hg
    refine st_storeBA h rfl rfl hb4 rfl (by first | (simp [Value.oneCell', S]; done) | exact Enc.one _ _) sz36 ?_; clear h a; intro w3 hbn hq hz a h
    replace hf := hf.step hq (by first | (simp; done) | (simp; omega))
    clear hb4 hq hz; have hb4 : Blk w3 g_4 _ [_, _, _, _, _] := hbn; clear hbn
    replace h : Ag a 41 [(0, _), (4, _), (13, _), (14, _), (15, _)] := h.sub (.cons rfl (.cons rfl (.cons rfl (.cons rfl (.cons rfl .nil)))))
    refine wnt ?_
    refine wp_seq ?_
    refine wR ?_
    refine st_loadBA h rfl hb4 ag36 rfl ?_; clear h a; intro a h
    refine st_call h (evs_cons rfl evs_nil) co30 (check_ok x _) rfl ?_; clear h a; rintro _ w4 ⟨rfl, hq⟩ a h
    replace hf := hf.next hq
    replace hb4 := hb4.ext hq
    clear hq
    refine st_ne h rfl rfl rfl ?_; clear h a; intro a h
    replace h : Ag a 41 [(0, _), (13, _), (14, _), (15, _), (21, _)] := h.sub (.cons rfl (.cons rfl (.cons rfl (.cons rfl (.cons rfl .nil)))))
    refine wnt ?_
    first | refine cond_dec h rfl (fun c3 => ?_) (fun c3 => ?_) | refine cond_ndec h rfl (fun c3 => ?_) (fun c3 => ?_) | refine cond_split h rfl (fun c3 => ?_) (fun c3 => ?_)
    ·have c3' : checkS x ≠ 0 := c3
     refine wp_seq ?_
     refine wR ?_
     refine st_assign h rfl rfl ?_; clear h a; intro a h
     replace h : Ag a 41 [(2, _)] := h.sub (.cons rfl .nil)
     refine wnt ?_
     refine wp_ret (ret_blk (ret_then (ret_then (ret_blk (ret_then ?_)))))
     refine ret1 h Tryd.results78 rfl ?_
     exact ⟨_, rfl, by rw [row1b (by omega) hxk c3'], hf⟩
    ·have c3' : checkS x = 0 := Decidable.not_not.1 c3
     refine wp_skip (norm_blk (norm_then ?_))
     refine wR ?_
     refine st_add h rfl rfl (by first | exact IntWalk.i64_in _ (by omega) | rfl) rfl ?_; clear h a; intro a h
     refine st_move h rfl rfl ?_; clear h a; intro a h
     replace h : Ag a 41 [(0, _), (13, _), (14, _), (15, _)] := h.sub (.cons rfl (.cons rfl (.cons rfl (.cons rfl .nil))))
     refine wnt ?_
     exact ⟨k + 1, h.sub (.cons rfl (.cons rfl (.cons rfl (.cons rfl .nil)))), ⟨by omega, by rw [List.take_add_one, hxk]; exact all_snocS _ _ ha ((okB_iff _).2 c3'), hf⟩, by omega⟩
   ·obtain rfl : k = xs.length := by omega
    rw [List.take_length] at ha
    refine wp_exit (exit_then (exit_then (exit_here (norm_then ?_))))
    refine wp_seq ?_
    refine wR ?_
    refine st_move h rfl rfl ?_; clear h a; intro a h
    refine st_call h (evs_cons rfl evs_nil) co68 (cneeds_ok _ xs _ (hu.ext hf) (by omega)) rfl ?_; clear h a; rintro _ w5 ⟨rfl, hq⟩ a h
    replace hf := hf.next hq
    clear hq
    refine st_move h rfl rfl ?_; clear h a; intro a h
    refine st_call h (evs_cons rfl evs_nil) co69 (cmakes_ok _ xs _ (hu.ext hf) (by omega)) rfl ?_; clear h a; rintro _ w6 ⟨rfl, hq⟩ a h
    replace hf := hf.next hq
    clear hq
    refine st_assign h rfl rfl ?_; clear h a; intro a h
    refine st_assign h rfl rfl ?_; clear h a; intro a h
    replace h : Ag a 41 [(5, _), (6, _)] := h.sub (.cons rfl (.cons rfl .nil))
    refine wnt ?_
    refine wp_seq ?_
    refine wp_seq ?_
    refine region_bool (r := 40) (L' := []) (needsR xs < 1 ∨ 16 < needsR xs ∨ makesR xs < 1 ∨ 16 < makesR xs) h .nil ?_ ?_
    ·refine id ?_
     refine st_move h rfl rfl ?_; clear h a; intro a h
     refine st_lt h rfl rfl rfl ?_; clear h a; intro a h
     refine st_move h rfl rfl ?_; clear h a; intro a h
     first | refine guard_dec (D := 29) h rfl ?_ ?_ | refine guard_ndec (D := 29) h rfl ?_ ?_ | refine guard_any (D := 29) h rfl ?_ ?_
     ·clear h; intro g0 h
      refine gd_no h rfl rfl rfl rfl rfl rfl rfl rfl ?_; clear h a; intro a h
      refine gd_no h rfl rfl rfl rfl rfl rfl rfl rfl ?_; clear h a; intro a h
      refine st_pick_t h rfl rfl rfl rfl ?_; clear h a; intro a h
      refine st_move h rfl rfl ?_; clear h a; intro a h
      refine gd_no h rfl rfl rfl rfl rfl rfl rfl rfl ?_; clear h a; intro a h
      refine gd_no h rfl rfl rfl rfl rfl rfl rfl rfl ?_; clear h a; intro a h
      refine st_pick_t h rfl rfl rfl rfl ?_; clear h a; intro a h
      refine st_move h rfl rfl ?_; clear h a; intro a h
      refine gd_no h rfl rfl rfl rfl rfl rfl rfl rfl ?_; clear h a; intro a h
      refine gd_no h rfl rfl rfl rfl rfl rfl rfl rfl ?_; clear h a; intro a h
      refine st_pick_t h rfl rfl rfl rfl ?_; clear h a; intro a h
      exact wpList_nil (bool_end h rfl (by first | exact bt (by omega) | exact bf (by omega) | exact bi (by omega) | exact bn (by omega)) .nil)
     ·clear h; intro g0 h
      refine gd_yes h rfl rfl rfl rfl rfl rfl ?_
      refine st_move h rfl rfl ?_; clear h a; intro a h
      refine gd_yes h rfl rfl rfl rfl rfl rfl ?_
      refine st_gt h rfl rfl rfl ?_; clear h a; intro a h
      refine st_pick_f h rfl rfl rfl rfl ?_; clear h a; intro a h
      refine st_move h rfl rfl ?_; clear h a; intro a h
      first | refine guard_dec (D := 33) h rfl ?_ ?_ | refine guard_ndec (D := 33) h rfl ?_ ?_ | refine guard_any (D := 33) h rfl ?_ ?_
      ·clear h; intro g1 h
       refine gd_no h rfl rfl rfl rfl rfl rfl rfl rfl ?_; clear h a; intro a h
       refine gd_no h rfl rfl rfl rfl rfl rfl rfl rfl ?_; clear h a; intro a h
       refine st_pick_t h rfl rfl rfl rfl ?_; clear h a; intro a h
       refine st_move h rfl rfl ?_; clear h a; intro a h
       refine gd_no h rfl rfl rfl rfl rfl rfl rfl rfl ?_; clear h a; intro a h
       refine gd_no h rfl rfl rfl rfl rfl rfl rfl rfl ?_; clear h a; intro a h
       refine st_pick_t h rfl rfl rfl rfl ?_; clear h a; intro a h
       exact wpList_nil (bool_end h rfl (by first | exact bt (by omega) | exact bf (by omega) | exact bi (by omega) | exact bn (by omega)) .nil)
      ·clear h; intro g1 h
       refine gd_yes h rfl rfl rfl rfl rfl rfl ?_
       refine st_move h rfl rfl ?_; clear h a; intro a h
       refine gd_yes h rfl rfl rfl rfl rfl rfl ?_
       refine st_lt h rfl rfl rfl ?_; clear h a; intro a h
       refine st_pick_f h rfl rfl rfl rfl ?_; clear h a; intro a h
       refine st_move h rfl rfl ?_; clear h a; intro a h
       first | refine guard_dec (D := 37) h rfl ?_ ?_ | refine guard_ndec (D := 37) h rfl ?_ ?_ | refine guard_any (D := 37) h rfl ?_ ?_
       ·clear h; intro g2 h
        refine gd_no h rfl rfl rfl rfl rfl rfl rfl rfl ?_; clear h a; intro a h
        refine gd_no h rfl rfl rfl rfl rfl rfl rfl rfl ?_; clear h a; intro a h
        refine st_pick_t h rfl rfl rfl rfl ?_; clear h a; intro a h
        exact wpList_nil (bool_end h rfl (by first | exact bt (by omega) | exact bf (by omega) | exact bi (by omega) | exact bn (by omega)) .nil)
       ·clear h; intro g2 h
        refine gd_yes h rfl rfl rfl rfl rfl rfl ?_
        refine st_move h rfl rfl ?_; clear h a; intro a h
        refine gd_yes h rfl rfl rfl rfl rfl rfl ?_
        refine st_gt h rfl rfl rfl ?_; clear h a; intro a h
        refine st_pick_f h rfl rfl rfl rfl ?_; clear h a; intro a h
        exact wpList_nil (bool_end h rfl (by first | exact bt (by omega) | exact bf (by omega) | exact bi (by omega) | exact bn (by omega)) .nil)
    ·clear h a; intro a h
     refine (norm_then ?_)
     first | refine cond_dec h rfl (fun c4 => ?_) (fun c4 => ?_) | refine cond_ndec h rfl (fun c4 => ?_) (fun c4 => ?_) | refine cond_split h rfl (fun c4 => ?_) (fun c4 => ?_)
     ·refine id ?_
      refine wp_seq ?_
      refine wR ?_
      refine st_assign h rfl rfl ?_; clear h a; intro a h
      replace h : Ag a 41 [(2, _)] := h.sub (.cons rfl .nil)
      refine wnt ?_
      refine wp_ret (ret_then ?_)
      refine ret1 h Tryd.results78 rfl ?_
      exact ⟨_, rfl, by rw [row5 (by omega) (by omega) ha c4], hf⟩
     ·refine id ?_
      refine wsn ?_
      refine wp_seq ?_
      refine wR ?_
      refine st_assign h rfl rfl ?_; clear h a; intro a h
      replace h : Ag a 41 [(2, _)] := h.sub (.cons rfl .nil)
      refine wnt ?_
      refine wp_ret ?_
      refine ret1 h Tryd.results78 rfl ?_
      exact ⟨_, rfl, by rw [row0 (by omega) (by omega) ha c4], hf⟩
theorem rneeds_ok (u : Value) (xs : List Stitch) (w0 : World) (hu : Sl encSt w0 u xs) (hR : ∀ x ∈ xs, 0 ≤ x.k ∧ 0 ≤ x.y) (h16 : xs.length ≤ 16) : Rets Tryd.prog 40 #[u] w0 fun v w' => v = .int .i64 (needsR xs) ∧ Fr [] w0 w' := by
 obtain ⟨A, c, rfl, hcp⟩ := hu.form
 obtain ⟨-, -, hM, hA⟩ := Sl.open_ hu
 unfold maxLen at hM
 refine enter [(0, .slice A xs.length c)] Tryd.func40 rfl Tryd.ntmps40 rfl (.cons rfl .nil) ?_
 have hf := Fr.refl [] w0
 intro a h
 refine wp_seq ?_
 refine wR ?_
 refine st_assign h rfl rfl ?_; clear h a; intro a h
 replace h : Ag a 19 [(0, _)] := h.sub (.cons rfl .nil)
 refine wnt ?_
 refine wp_seq ?_
 refine wR ?_
 refine st_assign h rfl rfl ?_; clear h a; intro a h
 refine wnt ?_
 refine wp_seq ?_
 refine wp_seq ?_
 refine wR ?_
 refine st_assign h rfl rfl ?_; clear h a; intro a h
 refine wnt ?_
 refine wp_block ?_
 refine loop (ι := Nat) (fun k => [(0, .slice A xs.length c), (3, .int .i64 ((xs.take k).map needsS).sum), (4, .int .i64 (k : Int))]) (fun k w' => k ≤ xs.length ∧ Fr [] w0 w') (fun k => xs.length - k) 0 (h.sub (.cons rfl (.cons rfl (.cons rfl .nil)))) ⟨by omega, hf⟩ ?_
 clear h a hf
 rintro k w1 a h ⟨hk, hf⟩
 have hsr := sum_rng needs_rng (xs.take k)
 rw [List.length_take] at hsr
 refine wp_seq ?_
 refine wp_seq ?_
 refine wR ?_
 refine st_move h rfl rfl ?_; clear h a; intro a h
 refine st_move h rfl rfl ?_; clear h a; intro a h
 refine st_lenS h rfl Tryd.underlying22 rfl ?_; clear h a; intro a h
 refine st_lt h rfl rfl rfl ?_; clear h a; intro a h
 replace h : Ag a 19 [(0, _), (3, _), (4, _), (8, _)] := h.sub (.cons rfl (.cons rfl (.cons rfl (.cons rfl .nil))))
 refine wnt ?_
 first | refine cond_dec h rfl (fun c0 => ?_) (fun c0 => ?_) | refine cond_ndec h rfl (fun c0 => ?_) (fun c0 => ?_) | refine cond_split h rfl (fun c0 => ?_) (fun c0 => ?_)
 ·obtain ⟨x, hxk⟩ : ∃ x, xs[k]? = some x := ⟨_, List.getElem?_eq_getElem (by omega)⟩
  obtain ⟨ad, hAd, ca⟩ := hA k x hxk
  obtain ⟨p1, p2⟩ := hR x (List.mem_of_getElem? hxk)
  have hgx := needs_rng x
  refine wsn ?_
  refine wp_seq ?_
  refine wp_block ?_
  refine wR ?_
  refine st_move h rfl rfl ?_; clear h a; intro a h
  refine st_move h rfl rfl ?_; clear h a; intro a h
  refine st_move h rfl rfl ?_; clear h a; intro a h
  refine st_idxS h (by rw [hAd]; rfl) rfl el22 (by omega) (by omega) rfl rfl ?_; clear h a; intro a h
  refine st_loadA h rfl (ca.fr hf (by simp)) ag36 rfl ?_; clear h a; intro a h
  refine st_call h (evs_cons rfl evs_nil) co42 (refneeds_ok x _ p1 p2) rfl ?_; clear h a; rintro _ w2 ⟨rfl, hq⟩ a h
  replace hf := hf.next hq
  clear hq
  refine st_add h rfl rfl (by first | exact IntWalk.i64_in _ (by omega) | rfl) rfl ?_; clear h a; intro a h
  refine st_assign h rfl rfl ?_; clear h a; intro a h
  replace h : Ag a 19 [(0, _), (3, _), (4, _)] := h.sub (.cons rfl (.cons rfl (.cons rfl .nil)))
  refine wpList_nil (norm_blk (norm_then ?_))
  refine wR ?_
  refine st_move h rfl rfl ?_; clear h a; intro a h
  refine st_add h rfl rfl (by first | exact IntWalk.i64_in _ (by omega) | rfl) rfl ?_; clear h a; intro a h
  refine st_assign h rfl rfl ?_; clear h a; intro a h
  replace h : Ag a 19 [(0, _), (3, _), (4, _)] := h.sub (.cons rfl (.cons rfl (.cons rfl .nil)))
  refine wnt ?_
  exact ⟨k + 1, h.sub (.cons rfl (.cons (by rw [sum_next hxk]; rfl) (.cons rfl .nil))), ⟨by omega, hf⟩, by omega⟩
 ·obtain rfl : k = xs.length := by omega
  rw [List.take_length] at h
  refine wp_exit (exit_then (exit_then (exit_here (norm_then ?_))))
  refine wp_seq ?_
  refine wR ?_
  refine st_move h rfl rfl ?_; clear h a; intro a h
  refine st_assign h rfl rfl ?_; clear h a; intro a h
  replace h : Ag a 19 [(2, _)] := h.sub (.cons rfl .nil)
  refine wnt ?_
  refine wp_ret ?_
  refine ret1 h Tryd.results40 rfl ?_
  exact ⟨_, rfl, rfl, hf⟩
theorem rmakes_ok (u : Value) (xs : List Stitch) (w0 : World) (hu : Sl encSt w0 u xs) (hR : ∀ x ∈ xs, 0 ≤ x.k ∧ 0 ≤ x.y) (h16 : xs.length ≤ 16) : Rets Tryd.prog 41 #[u] w0 fun v w' => v = .int .i64 (makesR xs) ∧ Fr [] w0 w' := by
 obtain ⟨A, c, rfl, hcp⟩ := hu.form
 obtain ⟨-, -, hM, hA⟩ := Sl.open_ hu
 unfold maxLen at hM
 refine enter [(0, .slice A xs.length c)] Tryd.func41 rfl Tryd.ntmps41 rfl (.cons rfl .nil) ?_
 have hf := Fr.refl [] w0
 intro a h
 refine wp_seq ?_
 refine wR ?_
 refine st_assign h rfl rfl ?_; clear h a; intro a h
 replace h : Ag a 19 [(0, _)] := h.sub (.cons rfl .nil)
 refine wnt ?_
 refine wp_seq ?_
 refine wR ?_
 refine st_assign h rfl rfl ?_; clear h a; intro a h
 refine wnt ?_
 refine wp_seq ?_
 refine wp_seq ?_
 refine wR ?_
 refine st_assign h rfl rfl ?_; clear h a; intro a h
 refine wnt ?_
 refine wp_block ?_
 refine loop (ι := Nat) (fun k => [(0, .slice A xs.length c), (3, .int .i64 ((xs.take k).map makesS).sum), (4, .int .i64 (k : Int))]) (fun k w' => k ≤ xs.length ∧ Fr [] w0 w') (fun k => xs.length - k) 0 (h.sub (.cons rfl (.cons rfl (.cons rfl .nil)))) ⟨by omega, hf⟩ ?_
 clear h a hf
 rintro k w1 a h ⟨hk, hf⟩
 have hsr := sum_rng makes_rng (xs.take k)
 rw [List.length_take] at hsr
 refine wp_seq ?_
 refine wp_seq ?_
 refine wR ?_
 refine st_move h rfl rfl ?_; clear h a; intro a h
 refine st_move h rfl rfl ?_; clear h a; intro a h
 refine st_lenS h rfl Tryd.underlying22 rfl ?_; clear h a; intro a h
 refine st_lt h rfl rfl rfl ?_; clear h a; intro a h
 replace h : Ag a 19 [(0, _), (3, _), (4, _), (8, _)] := h.sub (.cons rfl (.cons rfl (.cons rfl (.cons rfl .nil))))
 refine wnt ?_
 first | refine cond_dec h rfl (fun c0 => ?_) (fun c0 => ?_) | refine cond_ndec h rfl (fun c0 => ?_) (fun c0 => ?_) | refine cond_split h rfl (fun c0 => ?_) (fun c0 => ?_)
 ·obtain ⟨x, hxk⟩ : ∃ x, xs[k]? = some x := ⟨_, List.getElem?_eq_getElem (by omega)⟩
  obtain ⟨ad, hAd, ca⟩ := hA k x hxk
  obtain ⟨p1, p2⟩ := hR x (List.mem_of_getElem? hxk)
  have hgx := makes_rng x
  refine wsn ?_
  refine wp_seq ?_
  refine wp_block ?_
  refine wR ?_
  refine st_move h rfl rfl ?_; clear h a; intro a h
  refine st_move h rfl rfl ?_; clear h a; intro a h
  refine st_move h rfl rfl ?_; clear h a; intro a h
  refine st_idxS h (by rw [hAd]; rfl) rfl el22 (by omega) (by omega) rfl rfl ?_; clear h a; intro a h
  refine st_loadA h rfl (ca.fr hf (by simp)) ag36 rfl ?_; clear h a; intro a h
  refine st_call h (evs_cons rfl evs_nil) co60 (refmakes_ok x _ p1 p2) rfl ?_; clear h a; rintro _ w2 ⟨rfl, hq⟩ a h
  replace hf := hf.next hq
  clear hq
  refine st_add h rfl rfl (by first | exact IntWalk.i64_in _ (by omega) | rfl) rfl ?_; clear h a; intro a h
  refine st_assign h rfl rfl ?_; clear h a; intro a h
  replace h : Ag a 19 [(0, _), (3, _), (4, _)] := h.sub (.cons rfl (.cons rfl (.cons rfl .nil)))
  refine wpList_nil (norm_blk (norm_then ?_))
  refine wR ?_
  refine st_move h rfl rfl ?_; clear h a; intro a h
  refine st_add h rfl rfl (by first | exact IntWalk.i64_in _ (by omega) | rfl) rfl ?_; clear h a; intro a h
  refine st_assign h rfl rfl ?_; clear h a; intro a h
  replace h : Ag a 19 [(0, _), (3, _), (4, _)] := h.sub (.cons rfl (.cons rfl (.cons rfl .nil)))
  refine wnt ?_
  exact ⟨k + 1, h.sub (.cons rfl (.cons (by rw [sum_next hxk]; rfl) (.cons rfl .nil))), ⟨by omega, hf⟩, by omega⟩
 ·obtain rfl : k = xs.length := by omega
  rw [List.take_length] at h
  refine wp_exit (exit_then (exit_then (exit_here (norm_then ?_))))
  refine wp_seq ?_
  refine wR ?_
  refine st_move h rfl rfl ?_; clear h a; intro a h
  refine st_assign h rfl rfl ?_; clear h a; intro a h
  replace h : Ag a 19 [(2, _)] := h.sub (.cons rfl .nil)
  refine wnt ?_
  refine wp_ret ?_
  refine ret1 h Tryd.results41 rfl ?_
  exact ⟨_, rfl, rfl, hf⟩
theorem refrow_ok (u : Value) (xs : List Stitch) (w0 : World) (hu : Sl encSt w0 u xs) (hR : ∀ x ∈ xs, 0 ≤ x.k ∧ 0 ≤ x.y) : Rets Tryd.prog 39 #[u] w0 fun v w' => v = .int .i64 (rowE xs) ∧ Fr [] w0 w' := by
 obtain ⟨A, c, rfl, hcp⟩ := hu.form
 obtain ⟨-, -, hM, hA⟩ := Sl.open_ hu
 unfold maxLen at hM
 refine enter [(0, .slice A xs.length c)] Tryd.func39 rfl Tryd.ntmps39 rfl (.cons rfl .nil) ?_
 have hf := Fr.refl [] w0
 intro a h
 refine wp_seq ?_
 refine wR ?_
 refine st_assign h rfl rfl ?_; clear h a; intro a h
 replace h : Ag a 40 [(0, _)] := h.sub (.cons rfl .nil)
 refine wnt ?_
 refine wp_seq ?_
 refine wp_seq ?_
 refine wR ?_
 refine st_move h rfl rfl ?_; clear h a; intro a h
 refine st_lenS h rfl Tryd.underlying22 rfl ?_; clear h a; intro a h
 refine st_gt h rfl rfl rfl ?_; clear h a; intro a h
 replace h : Ag a 40 [(0, _), (6, _)] := h.sub (.cons rfl (.cons rfl .nil))
 refine wnt ?_
 first | refine cond_dec h rfl (fun c0 => ?_) (fun c0 => ?_) | refine cond_ndec h rfl (fun c0 => ?_) (fun c0 => ?_) | refine cond_split h rfl (fun c0 => ?_) (fun c0 => ?_)
 ·refine id ?_
  refine wp_seq ?_
  refine wR ?_
  refine st_assign h rfl rfl ?_; clear h a; intro a h
  replace h : Ag a 40 [(2, _)] := h.sub (.cons rfl .nil)
  refine wnt ?_
  refine wp_ret (ret_then ?_)
  refine ret1 h Tryd.results39 rfl ?_
  exact ⟨_, rfl, by rw [row3 (by omega)], hf⟩
 ·refine id ?_
  refine wsn ?_
  refine wp_seq ?_
  refine wp_seq ?_
  refine wR ?_
  refine st_move h rfl rfl ?_; clear h a; intro a h
  refine st_lenS h rfl Tryd.underlying22 rfl ?_; clear h a; intro a h
  refine st_eq h rfl rfl rfl ?_; clear h a; intro a h
  replace h : Ag a 40 [(0, _), (9, _)] := h.sub (.cons rfl (.cons rfl .nil))
  refine wnt ?_
  first | refine cond_dec h rfl (fun c1 => ?_) (fun c1 => ?_) | refine cond_ndec h rfl (fun c1 => ?_) (fun c1 => ?_) | refine cond_split h rfl (fun c1 => ?_) (fun c1 => ?_)
  ·refine id ?_
   refine wp_seq ?_
   refine wR ?_
   refine st_assign h rfl rfl ?_; clear h a; intro a h
   replace h : Ag a 40 [(2, _)] := h.sub (.cons rfl .nil)
   refine wnt ?_
   refine wp_ret (ret_then ?_)
   refine ret1 h Tryd.results39 rfl ?_
   exact ⟨_, rfl, by rw [row1 (by omega) (by omega)], hf⟩
  ·refine id ?_
   refine wsn ?_
   refine wp_seq ?_
   refine wp_seq ?_
   refine wR ?_
   refine st_assign h rfl rfl ?_; clear h a; intro a h
   replace h : Ag a 40 [(0, _), (3, _)] := h.sub (.cons rfl (.cons rfl .nil))
   refine wnt ?_
   refine wp_block ?_
   refine loop (ι := Nat) (fun k => [(0, .slice A xs.length c), (3, .int .i64 (k : Int))]) (fun k w' => k ≤ xs.length ∧ (xs.take k).all okB = true ∧ Fr [] w0 w') (fun k => xs.length - k) 0 (h.sub (.cons rfl (.cons rfl .nil))) ⟨by omega, rfl, hf⟩ ?_
   clear h a hf
   rintro k w1 a h ⟨hk, ha, hf⟩
   refine wp_seq ?_
   refine wp_seq ?_
   refine wR ?_
   refine st_move h rfl rfl ?_; clear h a; intro a h
   refine st_move h rfl rfl ?_; clear h a; intro a h
   refine st_lenS h rfl Tryd.underlying22 rfl ?_; clear h a; intro a h
   refine st_lt h rfl rfl rfl ?_; clear h a; intro a h
   replace h : Ag a 40 [(0, _), (3, _), (13, _)] := h.sub (.cons rfl (.cons rfl (.cons rfl .nil)))
   refine wnt ?_
   first | refine cond_dec h rfl (fun c2 => ?_) (fun c2 => ?_) | refine cond_ndec h rfl (fun c2 => ?_) (fun c2 => ?_) | refine cond_split h rfl (fun c2 => ?_) (fun c2 => ?_)
   ·obtain ⟨x, hxk⟩ : ∃ x, xs[k]? = some x := ⟨_, List.getElem?_eq_getElem (by omega)⟩
    obtain ⟨ad, hAd, ca⟩ := hA k x hxk
    obtain ⟨p1, p2⟩ := hR x (List.mem_of_getElem? hxk)
    refine wsn ?_
    refine wp_seq ?_
    refine wp_block ?_
    refine wp_seq ?_
    refine wR ?_
    refine st_move h rfl rfl ?_; clear h a; intro a h
    refine st_move h rfl rfl ?_; clear h a; intro a h
    refine st_idxS h (by rw [hAd]; rfl) rfl el22 (by omega) (by omega) rfl rfl ?_; clear h a; intro a h
    refine st_loadA h rfl (ca.fr hf (by simp)) ag36 rfl ?_; clear h a; intro a h
    refine st_call h (evs_cons rfl evs_nil) co15 (valid_ok x _ p1 p2) rfl ?_; clear h a; rintro _ w2 ⟨rfl, hq⟩ a h
    replace hf := hf.next hq
    clear hq
    refine st_eq h rfl rfl rfl ?_; clear h a; intro a h
    replace h : Ag a 40 [(0, _), (3, _), (21, _)] := h.sub (.cons rfl (.cons rfl (.cons rfl .nil)))
    refine wnt ?_
    first | refine cond_dec h rfl (fun c3 => ?_) (fun c3 => ?_) | refine cond_ndec h rfl (fun c3 => ?_) (fun c3 => ?_) | refine cond_split h rfl (fun c3 => ?_) (fun c3 => ?_)
    ·have c3' : checkS x ≠ 0 := fun e => by rw [if_pos e] at c3; omega
     refine wp_seq ?_
     refine wR ?_
     refine st_assign h rfl rfl ?_; clear h a; intro a h
     replace h : Ag a 40 [(2, _)] := h.sub (.cons rfl .nil)
     refine wnt ?_
     refine wp_ret (ret_blk (ret_then (ret_then (ret_blk (ret_then ?_)))))
     refine ret1 h Tryd.results39 rfl ?_
     exact ⟨_, rfl, by rw [row1b (by omega) hxk c3'], hf⟩
    ·have c3' : checkS x = 0 := Decidable.not_not.1 fun e => c3 (if_neg e)
     refine wp_skip (norm_blk (norm_then ?_))
     refine wR ?_
     refine st_move h rfl rfl ?_; clear h a; intro a h
     refine st_add h rfl rfl (by first | exact IntWalk.i64_in _ (by omega) | rfl) rfl ?_; clear h a; intro a h
     refine st_assign h rfl rfl ?_; clear h a; intro a h
     replace h : Ag a 40 [(0, _), (3, _)] := h.sub (.cons rfl (.cons rfl .nil))
     refine wnt ?_
     exact ⟨k + 1, h.sub (.cons rfl (.cons rfl .nil)), ⟨by omega, by rw [List.take_add_one, hxk]; exact all_snocS _ _ ha ((okB_iff _).2 c3'), hf⟩, by omega⟩
   ·obtain rfl : k = xs.length := by omega
    rw [List.take_length] at ha
    refine wp_exit (exit_then (exit_then (exit_here (norm_then ?_))))
    refine wp_seq ?_
    refine wp_seq ?_
    refine wR ?_
    refine st_move h rfl rfl ?_; clear h a; intro a h
    refine st_call h (evs_cons rfl evs_nil) co40 (rneeds_ok _ xs _ (hu.ext hf) hR (by omega)) rfl ?_; clear h a; rintro _ w3 ⟨rfl, hq⟩ a h
    replace hf := hf.next hq
    clear hq
    refine st_lt h rfl rfl rfl ?_; clear h a; intro a h
    refine st_move h rfl rfl ?_; clear h a; intro a h
    first | refine guard_dec (D := 25) h rfl ?_ ?_ | refine guard_ndec (D := 25) h rfl ?_ ?_ | refine guard_any (D := 25) h rfl ?_ ?_
    ·clear h; intro g0 h
     refine gd_no h rfl rfl rfl rfl rfl rfl rfl rfl ?_; clear h a; intro a h
     refine gd_no h rfl rfl rfl rfl rfl rfl rfl rfl ?_; clear h a; intro a h
     refine gd_no h rfl rfl rfl rfl rfl rfl rfl rfl ?_; clear h a; intro a h
     refine st_pick_t h rfl rfl rfl rfl ?_; clear h a; intro a h
     refine st_move h rfl rfl ?_; clear h a; intro a h
     refine gd_no h rfl rfl rfl rfl rfl rfl rfl rfl ?_; clear h a; intro a h
     refine gd_no h rfl rfl rfl rfl rfl rfl rfl rfl ?_; clear h a; intro a h
     refine gd_no h rfl rfl rfl rfl rfl rfl rfl rfl ?_; clear h a; intro a h
     refine st_pick_t h rfl rfl rfl rfl ?_; clear h a; intro a h
     refine st_move h rfl rfl ?_; clear h a; intro a h
     refine gd_no h rfl rfl rfl rfl rfl rfl rfl rfl ?_; clear h a; intro a h
     refine gd_no h rfl rfl rfl rfl rfl rfl rfl rfl ?_; clear h a; intro a h
     refine gd_no h rfl rfl rfl rfl rfl rfl rfl rfl ?_; clear h a; intro a h
     refine st_pick_t h rfl rfl rfl rfl ?_; clear h a; intro a h
     replace h : Ag a 40 [(39, _)] := h.sub (.cons rfl .nil)
     refine wnt ?_
     refine cond_true h rfl ?_
     refine wp_seq ?_
     refine wR ?_
     refine st_assign h rfl rfl ?_; clear h a; intro a h
     replace h : Ag a 40 [(2, _)] := h.sub (.cons rfl .nil)
     refine wnt ?_
     refine wp_ret (ret_then ?_)
     refine ret1 h Tryd.results39 rfl ?_
     exact ⟨_, rfl, by first | rw [row5 (by omega) (by omega) ha (by omega)] | rw [row0 (by omega) (by omega) ha (by omega)], hf⟩
    ·clear h; intro g0 h
     refine gd_yes h rfl rfl rfl rfl rfl rfl ?_
     refine st_move h rfl rfl ?_; clear h a; intro a h
     refine gd_yes h rfl rfl rfl rfl rfl rfl ?_
     refine st_call h (evs_cons rfl evs_nil) co40 (rneeds_ok _ xs _ (hu.ext hf) hR (by omega)) rfl ?_; clear h a; rintro _ w4 ⟨rfl, hq⟩ a h
     replace hf := hf.next hq
     clear hq
     refine gd_yes h rfl rfl rfl rfl rfl rfl ?_
     refine st_gt h rfl rfl rfl ?_; clear h a; intro a h
     refine st_pick_f h rfl rfl rfl rfl ?_; clear h a; intro a h
     refine st_move h rfl rfl ?_; clear h a; intro a h
     first | refine guard_dec (D := 30) h rfl ?_ ?_ | refine guard_ndec (D := 30) h rfl ?_ ?_ | refine guard_any (D := 30) h rfl ?_ ?_
     ·clear h; intro g1 h
      refine gd_no h rfl rfl rfl rfl rfl rfl rfl rfl ?_; clear h a; intro a h
      refine gd_no h rfl rfl rfl rfl rfl rfl rfl rfl ?_; clear h a; intro a h
      refine gd_no h rfl rfl rfl rfl rfl rfl rfl rfl ?_; clear h a; intro a h
      refine st_pick_t h rfl rfl rfl rfl ?_; clear h a; intro a h
      refine st_move h rfl rfl ?_; clear h a; intro a h
      refine gd_no h rfl rfl rfl rfl rfl rfl rfl rfl ?_; clear h a; intro a h
      refine gd_no h rfl rfl rfl rfl rfl rfl rfl rfl ?_; clear h a; intro a h
      refine gd_no h rfl rfl rfl rfl rfl rfl rfl rfl ?_; clear h a; intro a h
      refine st_pick_t h rfl rfl rfl rfl ?_; clear h a; intro a h
      replace h : Ag a 40 [(39, _)] := h.sub (.cons rfl .nil)
      refine wnt ?_
      refine cond_true h rfl ?_
      refine wp_seq ?_
      refine wR ?_
      refine st_assign h rfl rfl ?_; clear h a; intro a h
      replace h : Ag a 40 [(2, _)] := h.sub (.cons rfl .nil)
      refine wnt ?_
      refine wp_ret (ret_then ?_)
      refine ret1 h Tryd.results39 rfl ?_
      exact ⟨_, rfl, by first | rw [row5 (by omega) (by omega) ha (by omega)] | rw [row0 (by omega) (by omega) ha (by omega)], hf⟩
     ·clear h; intro g1 h
      refine gd_yes h rfl rfl rfl rfl rfl rfl ?_
      refine st_move h rfl rfl ?_; clear h a; intro a h
      refine gd_yes h rfl rfl rfl rfl rfl rfl ?_
      refine st_call h (evs_cons rfl evs_nil) co41 (rmakes_ok _ xs _ (hu.ext hf) hR (by omega)) rfl ?_; clear h a; rintro _ w5 ⟨rfl, hq⟩ a h
      replace hf := hf.next hq
      clear hq
      refine gd_yes h rfl rfl rfl rfl rfl rfl ?_
      refine st_lt h rfl rfl rfl ?_; clear h a; intro a h
      refine st_pick_f h rfl rfl rfl rfl ?_; clear h a; intro a h
      refine st_move h rfl rfl ?_; clear h a; intro a h
      first | refine guard_dec (D := 35) h rfl ?_ ?_ | refine guard_ndec (D := 35) h rfl ?_ ?_ | refine guard_any (D := 35) h rfl ?_ ?_
      ·clear h; intro g2 h
       refine gd_no h rfl rfl rfl rfl rfl rfl rfl rfl ?_; clear h a; intro a h
       refine gd_no h rfl rfl rfl rfl rfl rfl rfl rfl ?_; clear h a; intro a h
       refine gd_no h rfl rfl rfl rfl rfl rfl rfl rfl ?_; clear h a; intro a h
       refine st_pick_t h rfl rfl rfl rfl ?_; clear h a; intro a h
       replace h : Ag a 40 [(39, _)] := h.sub (.cons rfl .nil)
       refine wnt ?_
       refine cond_true h rfl ?_
       refine wp_seq ?_
       refine wR ?_
       refine st_assign h rfl rfl ?_; clear h a; intro a h
       replace h : Ag a 40 [(2, _)] := h.sub (.cons rfl .nil)
       refine wnt ?_
       refine wp_ret (ret_then ?_)
       refine ret1 h Tryd.results39 rfl ?_
       exact ⟨_, rfl, by first | rw [row5 (by omega) (by omega) ha (by omega)] | rw [row0 (by omega) (by omega) ha (by omega)], hf⟩
      ·clear h; intro g2 h
       refine gd_yes h rfl rfl rfl rfl rfl rfl ?_
       refine st_move h rfl rfl ?_; clear h a; intro a h
       refine gd_yes h rfl rfl rfl rfl rfl rfl ?_
       refine st_call h (evs_cons rfl evs_nil) co41 (rmakes_ok _ xs _ (hu.ext hf) hR (by omega)) rfl ?_; clear h a; rintro _ w6 ⟨rfl, hq⟩ a h
       replace hf := hf.next hq
       clear hq
       refine gd_yes h rfl rfl rfl rfl rfl rfl ?_
       refine st_gt h rfl rfl rfl ?_; clear h a; intro a h
       refine st_pick_f h rfl rfl rfl rfl ?_; clear h a; intro a h
       replace h : Ag a 40 [(39, _)] := h.sub (.cons rfl .nil)
       refine wnt ?_
       first | refine cond_dec h rfl (fun c4 => ?_) (fun c4 => ?_) | refine cond_ndec h rfl (fun c4 => ?_) (fun c4 => ?_) | refine cond_split h rfl (fun c4 => ?_) (fun c4 => ?_)
       ·refine id ?_
        refine wp_seq ?_
        refine wR ?_
        refine st_assign h rfl rfl ?_; clear h a; intro a h
        replace h : Ag a 40 [(2, _)] := h.sub (.cons rfl .nil)
        refine wnt ?_
        refine wp_ret (ret_then ?_)
        refine ret1 h Tryd.results39 rfl ?_
        exact ⟨_, rfl, by first | rw [row5 (by omega) (by omega) ha (by omega)] | rw [row0 (by omega) (by omega) ha (by omega)], hf⟩
       ·refine id ?_
        refine wsn ?_
        refine wp_seq ?_
        refine wR ?_
        refine st_assign h rfl rfl ?_; clear h a; intro a h
        replace h : Ag a 40 [(2, _)] := h.sub (.cons rfl .nil)
        refine wnt ?_
        refine wp_ret ?_
        refine ret1 h Tryd.results39 rfl ?_
        exact ⟨_, rfl, by first | rw [row5 (by omega) (by omega) ha (by omega)] | rw [row0 (by omega) (by omega) ha (by omega)], hf⟩
end Go.Proofs.YtbbnampdgefljaaDoor
namespace Go.Lw
section
variable {a : Act} {w : World} {Q : Exit → Act → World → Prop}
theorem ret_sc (h : Q .ret a w) : Exit.noGoto Q .ret a w := h
end
end Go.Lw
namespace Go.Proofs.YtbbnampdgefljaaDoor
open Go.Lw Go.G14
theorem co78 : CallOf Tryd.prog 78 := CallOf.mk' Tryd.func78 (by kernel_rfl) (by kernel_rfl)
theorem checkrows_ok (u : Value) (rows : List (List Stitch)) (w0 : World) (hS : Sll encSt w0 u rows) : Rets Tryd.prog 67 #[u] w0 fun v w' => v = .int .i64 (rowsE rows) ∧ Fr [] w0 w' := by
 obtain ⟨A, c, rfl, hcp, hM⟩ := hS.form
 unfold maxLen at hM
 refine enter [(0, .slice A rows.length c)] Tryd.func67 rfl Tryd.ntmps67 rfl (.cons rfl .nil) ?_
 have hf := Fr.refl [] w0
 intro a h
 refine wp_seq ?_
 refine wR ?_
 refine st_assign h rfl rfl ?_; clear h a; intro a h
 replace h : Ag a 44 [(0, _)] := h.sub (.cons rfl .nil)
 refine wnt ?_
 refine wp_seq ?_
 refine wp_seq ?_
 refine wR ?_
 refine st_move h rfl rfl ?_; clear h a; intro a h
 refine st_lenS h rfl Tryd.underlying43 rfl ?_; clear h a; intro a h
 refine st_gt h rfl rfl rfl ?_; clear h a; intro a h
 replace h : Ag a 44 [(0, _), (9, _)] := h.sub (.cons rfl (.cons rfl .nil))
 refine wnt ?_
 first | refine cond_dec h rfl (fun c0 => ?_) (fun c0 => ?_) | refine cond_ndec h rfl (fun c0 => ?_) (fun c0 => ?_) | refine cond_split h rfl (fun c0 => ?_) (fun c0 => ?_)
 ·refine id ?_
  refine wp_seq ?_
  refine wR ?_
  refine st_assign h rfl rfl ?_; clear h a; intro a h
  replace h : Ag a 44 [(2, _)] := h.sub (.cons rfl .nil)
  refine wnt ?_
  refine wp_ret (ret_then ?_)
  refine ret1 h Tryd.results67 rfl ?_
  exact ⟨_, rfl, by rw [rows3 (by omega)], hf⟩
 ·refine id ?_
  refine wsn ?_
  refine wp_seq ?_
  refine wp_seq ?_
  refine wR ?_
  refine st_move h rfl rfl ?_; clear h a; intro a h
  refine st_lenS h rfl Tryd.underlying43 rfl ?_; clear h a; intro a h
  refine st_rem h rfl rfl (by omega) (by first | exact IntWalk.rem_in _ _ (by omega) | rfl) rfl ?_; clear h a; intro a h
  refine st_eq h rfl rfl rfl ?_; clear h a; intro a h
  replace h : Ag a 44 [(0, _), (13, _)] := h.sub (.cons rfl (.cons rfl .nil))
  refine wnt ?_
  first | refine cond_dec h rfl (fun c1 => ?_) (fun c1 => ?_) | refine cond_ndec h rfl (fun c1 => ?_) (fun c1 => ?_) | refine cond_split h rfl (fun c1 => ?_) (fun c1 => ?_)
  ·refine id ?_
   refine wp_seq ?_
   refine wR ?_
   refine st_assign h rfl rfl ?_; clear h a; intro a h
   replace h : Ag a 44 [(2, _)] := h.sub (.cons rfl .nil)
   refine wnt ?_
   refine wp_ret (ret_then ?_)
   refine ret1 h Tryd.results67 rfl ?_
   exact ⟨_, rfl, by rw [rows1 (by omega) (by omega)], hf⟩
  ·refine id ?_
   refine wsn ?_
   refine wp_seq ?_
   refine wp_seq ?_
   refine wR ?_
   refine st_move h rfl rfl ?_; clear h a; intro a h
   refine st_lenS h rfl Tryd.underlying43 rfl ?_; clear h a; intro a h
   refine st_move h rfl rfl ?_; clear h a; intro a h
   replace h : Ag a 44 [(0, _), (14, _), (15, _), (16, _)] := h.sub (.cons rfl (.cons rfl (.cons rfl (.cons rfl .nil))))
   refine wnt ?_
   refine wp_block ?_
   refine loop (ι := Nat) (fun k => [(0, .slice A rows.length c), (14, .slice A rows.length c), (15, .int .i64 (rows.length : Int)), (16, .int .i64 (k : Int))]) (fun k w' => k ≤ rows.length ∧ (∀ (i : Nat) (q : List Stitch), i < k → rows[i]? = some q → rowE q = 0) ∧ Fr [] w0 w') (fun k => rows.length - k) 0 (h.sub (.cons rfl (.cons rfl (.cons rfl (.cons rfl .nil))))) ⟨by omega, fun i q h => by omega, hf⟩ ?_
   clear h a hf
   rintro k w1 a h ⟨hk, hz, hf⟩
   refine wp_seq ?_
   refine wR ?_
   refine st_lt h rfl rfl rfl ?_; clear h a; intro a h
   refine wnt ?_
   refine wp_seq ?_
   first | refine cond_dec h rfl (fun c2 => ?_) (fun c2 => ?_) | refine cond_ndec h rfl (fun c2 => ?_) (fun c2 => ?_) | refine cond_split h rfl (fun c2 => ?_) (fun c2 => ?_)
   ·obtain ⟨r, hrk⟩ : ∃ r, rows[k]? = some r := ⟨_, List.getElem?_eq_getElem (by omega)⟩
    obtain ⟨RA, rc, ad, hAd, cc, hr, hrc, hrm⟩ := (hS.ext hf).row hrk
    unfold maxLen at hrm
    refine wsn ?_
    refine wp_seq ?_
    refine wp_block ?_
    refine wp_seq ?_
    refine wR ?_
    refine st_idxS h (by rw [hAd]; rfl) rfl el43 (by omega) (by omega) rfl rfl ?_; clear h a; intro a h
    refine st_loadC0 h rfl cc na22 rfl ?_; clear h a; intro a h
    refine st_assign h rfl rfl ?_; clear h a; intro a h
    replace h : Ag a 44 [(0, _), (4, _), (14, _), (15, _), (16, _)] := h.sub (.cons rfl (.cons rfl (.cons rfl (.cons rfl (.cons rfl .nil)))))
    refine wnt ?_
    refine wp_seq ?_
    refine wR ?_
    refine st_move h rfl rfl ?_; clear h a; intro a h
    refine st_call h (evs_cons rfl evs_nil) co78 (checkrow_ok _ r _ hr) rfl ?_; clear h a; rintro _ w2 ⟨rfl, hq⟩ a h
    replace hf := hf.next hq
    clear hq
    refine st_assign h rfl rfl ?_; clear h a; intro a h
    replace h : Ag a 44 [(0, _), (5, _), (14, _), (15, _), (16, _)] := h.sub (.cons rfl (.cons rfl (.cons rfl (.cons rfl (.cons rfl .nil)))))
    refine wnt ?_
    refine wp_seq ?_
    refine wR ?_
    refine st_move h rfl rfl ?_; clear h a; intro a h
    refine st_ne h rfl rfl rfl ?_; clear h a; intro a h
    replace h : Ag a 44 [(0, _), (5, _), (14, _), (15, _), (16, _), (23, _)] := h.sub (.cons rfl (.cons rfl (.cons rfl (.cons rfl (.cons rfl (.cons rfl .nil))))))
    refine wnt ?_
    first | refine cond_dec h rfl (fun c3 => ?_) (fun c3 => ?_) | refine cond_ndec h rfl (fun c3 => ?_) (fun c3 => ?_) | refine cond_split h rfl (fun c3 => ?_) (fun c3 => ?_)
    ·have c3' : rowE r ≠ 0 := c3
     refine wp_seq ?_
     refine wR ?_
     refine st_move h rfl rfl ?_; clear h a; intro a h
     refine st_assign h rfl rfl ?_; clear h a; intro a h
     replace h : Ag a 44 [(2, _)] := h.sub (.cons rfl .nil)
     refine wnt ?_
     refine wp_ret (ret_blk (ret_then (ret_then (ret_blk (ret_then ?_)))))
     refine ret1 h Tryd.results67 rfl ?_
     exact ⟨_, rfl, by rw [rowsB (by omega) (by omega) hz hrk c3'], hf⟩
    ·have c3' : rowE r = 0 := Decidable.not_not.1 c3
     refine wp_skip (norm_blk (norm_then ?_))
     refine wR ?_
     refine st_add h rfl rfl (by first | exact IntWalk.i64_in _ (by omega) | rfl) rfl ?_; clear h a; intro a h
     refine st_move h rfl rfl ?_; clear h a; intro a h
     replace h : Ag a 44 [(0, _), (14, _), (15, _), (16, _)] := h.sub (.cons rfl (.cons rfl (.cons rfl (.cons rfl .nil))))
     refine wnt ?_
     exact ⟨k + 1, h.sub (.cons rfl (.cons rfl (.cons rfl (.cons rfl .nil)))), ⟨by omega, z_next hz hrk c3', hf⟩, by omega⟩
   ·obtain rfl : k = rows.length := by omega
    replace hz : ∀ (i : Nat) (q : List Stitch), rows[i]? = some q → rowE q = 0 := fun i q hq => hz i q (List.getElem?_eq_some_iff.1 hq).1 hq
    refine wp_exit (exit_then (exit_then (exit_here (norm_then ?_))))
    refine wp_seq ?_
    refine wp_seq ?_
    refine wR ?_
    refine st_assign h rfl rfl ?_; clear h a; intro a h
    replace h : Ag a 44 [(0, _), (6, _)] := h.sub (.cons rfl (.cons rfl .nil))
    refine wnt ?_
    refine wp_block ?_
    refine loop (ι := Nat) (fun k => [(0, .slice A rows.length c), (6, .int .i64 ((k : Int) + 1))]) (fun k w' => k + 1 ≤ rows.length ∧ (∀ (j : Nat) (r q : List Stitch), j < k → rows[j]? = some r → rows[j + 1]? = some q → needsR q = makesR r) ∧ Fr [] w0 w') (fun k => rows.length - k) 0 (h.sub (.cons rfl (.cons rfl .nil))) ⟨by omega, fun j r q h => by omega, hf⟩ ?_
    clear h a hf
    rintro k w3 a h ⟨hk1, hadj, hf⟩
    refine wp_seq ?_
    refine wp_seq ?_
    refine wR ?_
    refine st_move h rfl rfl ?_; clear h a; intro a h
    refine st_move h rfl rfl ?_; clear h a; intro a h
    refine st_lenS h rfl Tryd.underlying43 rfl ?_; clear h a; intro a h
    refine st_lt h rfl rfl rfl ?_; clear h a; intro a h
    replace h : Ag a 44 [(0, _), (6, _), (29, _)] := h.sub (.cons rfl (.cons rfl (.cons rfl .nil)))
    refine wnt ?_
    first | refine cond_dec h rfl (fun c4 => ?_) (fun c4 => ?_) | refine cond_ndec h rfl (fun c4 => ?_) (fun c4 => ?_) | refine cond_split h rfl (fun c4 => ?_) (fun c4 => ?_)
    ·obtain ⟨r, hrk⟩ : ∃ r, rows[k]? = some r := ⟨_, List.getElem?_eq_getElem (by omega)⟩
     obtain ⟨RA, rc, ad, hAd, cc, hr, hrc, hrm⟩ := (hS.ext hf).row hrk
     unfold maxLen at hrm
     obtain ⟨q, hqk⟩ : ∃ r, rows[k + 1]? = some r := ⟨_, List.getElem?_eq_getElem (by omega)⟩
     obtain ⟨RA2, rc2, ad2, hAd2, cc2, hr2, hrc2, hrm2⟩ := (hS.ext hf).row hqk
     unfold maxLen at hrm2
     have hr16 := (row_ok_of (hz _ _ hrk)).1
     have hq16 := (row_ok_of (hz _ _ hqk)).1
     refine wsn ?_
     refine wp_seq ?_
     refine wp_block ?_
     refine wp_seq ?_
     refine region_quiet hmix (by kernel_rfl) ?_
     refine qt_move h rfl rfl ?_; clear h a; intro a h
     refine qt_move h rfl rfl ?_; clear h a; intro a h
     refine qt_idxS (p := k + 1) h (by rw [hAd2]; rfl) rfl el43 (by omega) (by omega) (by omega) rfl ?_; clear h a; intro a h
     refine qt_loadC0 h rfl (fun _ hw => cc2.fr hw (by simp)) na22 rfl ?_; clear h a; intro a h
     refine qt_call h (evs_cons rfl evs_nil) co68 (fun w hw => (cneeds_ok _ q w (hr2.ext hw) (by omega)).mono fun u w' ⟨e, f⟩ => ⟨e, hw.next f⟩) rfl ?_; clear h a; intro a h
     refine qt_move h rfl rfl ?_; clear h a; intro a h
     refine qt_move h rfl rfl ?_; clear h a; intro a h
     refine qt_sub h rfl rfl (by first | exact IntWalk.i64_in _ (by omega) | rfl) rfl ?_; clear h a; intro a h
     refine qt_idxS (p := k) h (by rw [hAd]; rfl) rfl el43 (by omega) (by omega) (by omega) rfl ?_; clear h a; intro a h
     refine qt_loadC0 h rfl (fun _ hw => cc.fr hw (by simp)) na22 rfl ?_; clear h a; intro a h
     refine qt_call h (evs_cons rfl evs_nil) co69 (fun w hw => (cmakes_ok _ r w (hr.ext hw) (by omega)).mono fun u w' ⟨e, f⟩ => ⟨e, hw.next f⟩) rfl ?_; clear h a; intro a h
     refine qt_ne h rfl rfl rfl ?_; clear h a; intro a h
     refine wpQuiet_nil ?_
     intro w4 hq
     replace hf := hf.next hq
     clear hq
     replace h : Ag a 44 [(0, _), (6, _), (43, _)] := h.sub (.cons rfl (.cons rfl (.cons rfl .nil)))
     refine (norm_then ?_)
     first | refine cond_dec h rfl (fun c5 => ?_) (fun c5 => ?_) | refine cond_ndec h rfl (fun c5 => ?_) (fun c5 => ?_) | refine cond_split h rfl (fun c5 => ?_) (fun c5 => ?_)
     ·refine id ?_
      refine wp_seq ?_
      refine wR ?_
      refine st_assign h rfl rfl ?_; clear h a; intro a h
      replace h : Ag a 44 [(2, _)] := h.sub (.cons rfl .nil)
      refine wnt ?_
      refine wp_ret (ret_blk (ret_then (ret_then (ret_blk (ret_then ?_)))))
      refine ret1 h Tryd.results67 rfl ?_
      exact ⟨_, rfl, by rw [rows14 (by omega) (by omega) hz hrk hqk c5], hf⟩
     ·refine id ?_
      refine wp_skip (norm_blk (norm_then ?_))
      refine wR ?_
      refine st_move h rfl rfl ?_; clear h a; intro a h
      refine st_add h rfl rfl (by first | exact IntWalk.i64_in _ (by omega) | rfl) rfl ?_; clear h a; intro a h
      refine st_assign h rfl rfl ?_; clear h a; intro a h
      replace h : Ag a 44 [(0, _), (6, _)] := h.sub (.cons rfl (.cons rfl .nil))
      refine wnt ?_
      exact ⟨k + 1, h.sub (.cons rfl (.cons (by first | rfl | (congr 2; omega)) .nil)), ⟨by omega, adj_next hadj hrk hqk (Decidable.not_not.1 c5), hf⟩, by omega⟩
    ·obtain hkl : k + 1 = rows.length := by omega
     refine wp_exit (exit_then (exit_then (exit_here (norm_then ?_))))
     refine wp_seq ?_
     refine wR ?_
     refine st_assign h rfl rfl ?_; clear h a; intro a h
     replace h : Ag a 44 [(2, _)] := h.sub (.cons rfl .nil)
     refine wnt ?_
     refine wp_ret ?_
     refine ret1 h Tryd.results67 rfl ?_
     exact ⟨_, rfl, by rw [rows0 (by omega) (by omega) hz (fun j r q h1 h2 => hadj j r q (by have := (List.getElem?_eq_some_iff.1 h2).1; omega) h1 h2)], hf⟩
end Go.Proofs.YtbbnampdgefljaaDoor
namespace Go.Proofs.YtbbnampdgefljaaDoor
open Go.Lw Go.G14
theorem co39 : CallOf Tryd.prog 39 := CallOf.mk' Tryd.func39 (by kernel_rfl) (by kernel_rfl)
theorem el51 : ElemOf Tryd.prog 51 68 Enc.sl 24 := ElemOf.mk' (z := (.slice none 0 0)) Tryd.underlying51 (by kernel_rfl) rfl
set_option maxHeartbeats 2000000 in
theorem refchart_ok (u : Value) (rows : List (List Stitch)) (w0 : World) (hS : Sll encSt w0 u rows) (hR : ∀ r ∈ rows, ∀ x ∈ r, 0 ≤ x.k ∧ 0 ≤ x.y) : Rets Tryd.prog 21 #[.agg #[u]] w0 fun v w' => ∃ X, v = .tuple #[X, .int .i64 (chartE rows)] ∧ Fr [] w0 w' := by
 obtain ⟨A, c, rfl, hcp, hM⟩ := hS.form
 unfold maxLen at hM
 refine enter [(0, .agg #[.slice A rows.length c])] Tryd.func21 rfl Tryd.ntmps21 rfl (.cons rfl .nil) ?_
 have hf := Fr.refl [] w0
 intro a h
 refine wp_seq ?_
 refine wR ?_
 refine st_box h rfl rfl rfl ?_; clear h a; intro w1 hb1 hq hz a h
 obtain ⟨g_1, hg⟩ : ∃ g, g = w0.heap.size := ⟨_, rfl⟩; rw [← hg] at hb1 h hz
 have hl1 : w0.heap.size ≤ g_1 := by have := hf.size; omega
 replace hf := hf.next hq
 clear hq hz hg
 refine st_assign h rfl rfl ?_; clear h a; intro a h
 refine st_assign h rfl rfl ?_; clear h a; intro a h
 replace h : Ag a 131 [(1, _)] := h.sub (.cons rfl .nil)
 refine wnt ?_
 refine wp_seq ?_
 refine wp_seq ?_
 refine wR ?_
 refine st_fieldAddr h rfl fa45_0 rfl ?_; clear h a; intro a h
 refine st_loadB h rfl hb1 rfl na43 rfl ?_; clear h a; intro a h
 refine st_lenS h rfl Tryd.underlying43 rfl ?_; clear h a; intro a h
 refine st_gt h rfl rfl rfl ?_; clear h a; intro a h
 replace h : Ag a 131 [(1, _), (21, _)] := h.sub (.cons rfl (.cons rfl .nil))
 refine wnt ?_
 first | refine cond_dec h rfl (fun c0 => ?_) (fun c0 => ?_) | refine cond_ndec h rfl (fun c0 => ?_) (fun c0 => ?_) | refine cond_split h rfl (fun c0 => ?_) (fun c0 => ?_)
 ·refine id ?_
  refine wp_seq ?_
  refine wR ?_
  refine st_assign h rfl rfl ?_; clear h a; intro a h
  refine st_assign h rfl rfl ?_; clear h a; intro a h
  replace h : Ag a 131 [(2, _), (3, _)] := h.sub (.cons rfl (.cons rfl .nil))
  refine wnt ?_
  refine wp_ret (ret_then ?_)
  refine ret2 h Tryd.results21 rfl rfl ?_
  exact ⟨_, rfl, _, by rw [chart_bad (rows3 (by omega)) (by decide)], hf⟩
 ·refine id ?_
  refine wsn ?_
  refine wp_seq ?_
  refine wp_seq ?_
  refine wR ?_
  refine st_fieldAddr h rfl fa45_0 rfl ?_; clear h a; intro a h
  refine st_loadB h rfl hb1 rfl na43 rfl ?_; clear h a; intro a h
  refine st_lenS h rfl Tryd.underlying43 rfl ?_; clear h a; intro a h
  refine st_rem h rfl rfl (by omega) (by first | exact IntWalk.rem_in _ _ (by omega) | rfl) rfl ?_; clear h a; intro a h
  refine st_eq h rfl rfl rfl ?_; clear h a; intro a h
  replace h : Ag a 131 [(1, _), (26, _)] := h.sub (.cons rfl (.cons rfl .nil))
  refine wnt ?_
  first | refine cond_dec h rfl (fun c1 => ?_) (fun c1 => ?_) | refine cond_ndec h rfl (fun c1 => ?_) (fun c1 => ?_) | refine cond_split h rfl (fun c1 => ?_) (fun c1 => ?_)
  ·refine id ?_
   refine wp_seq ?_
   refine wR ?_
   refine st_assign h rfl rfl ?_; clear h a; intro a h
   refine st_assign h rfl rfl ?_; clear h a; intro a h
   replace h : Ag a 131 [(2, _), (3, _)] := h.sub (.cons rfl (.cons rfl .nil))
   refine wnt ?_
   refine wp_ret (ret_then ?_)
   refine ret2 h Tryd.results21 rfl rfl ?_
   exact ⟨_, rfl, _, by rw [chart_bad (rows1 (by omega) (by omega)) (by decide)], hf⟩
  ·refine id ?_
   refine wsn ?_
   refine wp_seq ?_
   refine wp_seq ?_
   refine wR ?_
   refine st_assign h rfl rfl ?_; clear h a; intro a h
   replace h : Ag a 131 [(1, _), (4, _)] := h.sub (.cons rfl (.cons rfl .nil))
   refine wnt ?_
   refine wp_block ?_
   refine loop (ι := Nat) (fun k => [(1, .pointer (some ⟨g_1, 0, none⟩)), (4, .int .i64 (k : Int))]) (fun k w' => k ≤ rows.length ∧ (∀ (i : Nat) (q : List Stitch), i < k → rows[i]? = some q → rowE q = 0) ∧ Blk w' g_1 45 [.slice A rows.length c] ∧ Fr [] w0 w') (fun k => rows.length - k) 0 (h.sub (.cons rfl (.cons rfl .nil))) ⟨by omega, fun i q h => by omega, hb1, hf⟩ ?_
   clear h a hf hb1
   rintro k w2 a h ⟨hk, hz, hb1, hf⟩
   refine wp_seq ?_
   refine wp_seq ?_
   refine wR ?_
   refine st_move h rfl rfl ?_; clear h a; intro a h
   refine st_fieldAddr h rfl fa45_0 rfl ?_; clear h a; intro a h
   refine st_loadB h rfl hb1 rfl na43 rfl ?_; clear h a; intro a h
   refine st_lenS h rfl Tryd.underlying43 rfl ?_; clear h a; intro a h
   refine st_lt h rfl rfl rfl ?_; clear h a; intro a h
   replace h : Ag a 131 [(1, _), (4, _), (31, _)] := h.sub (.cons rfl (.cons rfl (.cons rfl .nil)))
   refine wnt ?_
   first | refine cond_dec h rfl (fun c2 => ?_) (fun c2 => ?_) | refine cond_ndec h rfl (fun c2 => ?_) (fun c2 => ?_) | refine cond_split h rfl (fun c2 => ?_) (fun c2 => ?_)
   ·obtain ⟨r, hrk⟩ : ∃ r, rows[k]? = some r := ⟨_, List.getElem?_eq_getElem (by omega)⟩
    obtain ⟨RA, rc, ad, hAd, cc, hr, hrc, hrm⟩ := (hS.ext hf).row hrk
    unfold maxLen at hrm
    have hRr := hR r (List.mem_of_getElem? hrk)
    refine wsn ?_
    refine wp_seq ?_
    refine wp_block ?_
    refine wp_seq ?_
    refine wR ?_
    refine st_fieldAddr h rfl fa45_0 rfl ?_; clear h a; intro a h
    refine st_loadB h rfl hb1 rfl na43 rfl ?_; clear h a; intro a h
    refine st_move h rfl rfl ?_; clear h a; intro a h
    refine st_idxS h (by rw [hAd]; rfl) rfl el43 (by omega) (by omega) rfl rfl ?_; clear h a; intro a h
    refine st_loadC0 h rfl cc na22 rfl ?_; clear h a; intro a h
    refine st_call h (evs_cons rfl evs_nil) co39 (refrow_ok _ r _ hr hRr) rfl ?_; clear h a; rintro _ w3 ⟨rfl, hq⟩ a h
    replace hf := hf.next hq
    replace hb1 := hb1.ext hq
    clear hq
    refine st_assign h rfl rfl ?_; clear h a; intro a h
    replace h : Ag a 131 [(1, _), (4, _), (5, _)] := h.sub (.cons rfl (.cons rfl (.cons rfl .nil)))
    refine wnt ?_
    refine wp_seq ?_
    refine wR ?_
    refine st_move h rfl rfl ?_; clear h a; intro a h
    refine st_ne h rfl rfl rfl ?_; clear h a; intro a h
    replace h : Ag a 131 [(1, _), (4, _), (5, _), (41, _)] := h.sub (.cons rfl (.cons rfl (.cons rfl (.cons rfl .nil))))
    refine wnt ?_
    first | refine cond_dec h rfl (fun c3 => ?_) (fun c3 => ?_) | refine cond_ndec h rfl (fun c3 => ?_) (fun c3 => ?_) | refine cond_split h rfl (fun c3 => ?_) (fun c3 => ?_)
    ·have c3' : rowE r ≠ 0 := c3
     refine wp_seq ?_
     refine wR ?_
     refine st_move h rfl rfl ?_; clear h a; intro a h
     refine st_assign h rfl rfl ?_; clear h a; intro a h
     refine st_assign h rfl rfl ?_; clear h a; intro a h
     replace h : Ag a 131 [(2, _), (3, _)] := h.sub (.cons rfl (.cons rfl .nil))
     refine wnt ?_
     refine wp_ret (ret_blk (ret_then (ret_then (ret_blk (ret_then ?_)))))
     refine ret2 h Tryd.results21 rfl rfl ?_
     exact ⟨_, rfl, _, by rw [chart_bad (rowsB (by omega) (by omega) hz hrk c3') c3'], hf⟩
    ·have c3' : rowE r = 0 := Decidable.not_not.1 c3
     refine wp_skip (norm_blk (norm_then ?_))
     refine wR ?_
     refine st_move h rfl rfl ?_; clear h a; intro a h
     refine st_add h rfl rfl (by first | exact IntWalk.i64_in _ (by omega) | rfl) rfl ?_; clear h a; intro a h
     refine st_assign h rfl rfl ?_; clear h a; intro a h
     replace h : Ag a 131 [(1, _), (4, _)] := h.sub (.cons rfl (.cons rfl .nil))
     refine wnt ?_
     exact ⟨k + 1, h.sub (.cons rfl (.cons rfl .nil)), ⟨by omega, z_next hz hrk c3', hb1, hf⟩, by omega⟩
   ·obtain rfl : k = rows.length := by omega
    replace hz : ∀ (i : Nat) (q : List Stitch), rows[i]? = some q → rowE q = 0 := fun i q hq => hz i q (List.getElem?_eq_some_iff.1 hq).1 hq
    refine wp_exit (exit_then (exit_then (exit_here (norm_then ?_))))
    refine wp_seq ?_
    refine wp_seq ?_
    refine wR ?_
    refine st_assign h rfl rfl ?_; clear h a; intro a h
    replace h : Ag a 131 [(1, _), (6, _)] := h.sub (.cons rfl (.cons rfl .nil))
    refine wnt ?_
    refine wp_block ?_
    refine loop (ι := Nat) (fun k => [(1, .pointer (some ⟨g_1, 0, none⟩)), (6, .int .i64 ((k : Int) + 1))]) (fun k w' => k + 1 ≤ rows.length ∧ (∀ (j : Nat) (r q : List Stitch), j < k → rows[j]? = some r → rows[j + 1]? = some q → needsR q = makesR r) ∧ Blk w' g_1 45 [.slice A rows.length c] ∧ Fr [] w0 w') (fun k => rows.length - k) 0 (h.sub (.cons rfl (.cons rfl .nil))) ⟨by omega, fun j r q h => by omega, hb1, hf⟩ ?_
    clear h a hf hb1
    rintro k w4 a h ⟨hk1, hadj, hb1, hf⟩
    refine wp_seq ?_
    refine wp_seq ?_
    refine wR ?_
    refine st_move h rfl rfl ?_; clear h a; intro a h
    refine st_fieldAddr h rfl fa45_0 rfl ?_; clear h a; intro a h
    refine st_loadB h rfl hb1 rfl na43 rfl ?_; clear h a; intro a h
    refine st_lenS h rfl Tryd.underlying43 rfl ?_; clear h a; intro a h
    refine st_lt h rfl rfl rfl ?_; clear h a; intro a h
    replace h : Ag a 131 [(1, _), (6, _), (47, _)] := h.sub (.cons rfl (.cons rfl (.cons rfl .nil)))
    refine wnt ?_
    first | refine cond_dec h rfl (fun c4 => ?_) (fun c4 => ?_) | refine cond_ndec h rfl (fun c4 => ?_) (fun c4 => ?_) | refine cond_split h rfl (fun c4 => ?_) (fun c4 => ?_)
    ·obtain ⟨r, hrk⟩ : ∃ r, rows[k]? = some r := ⟨_, List.getElem?_eq_getElem (by omega)⟩
     obtain ⟨RA, rc, ad, hAd, cc, hr, hrc, hrm⟩ := (hS.ext hf).row hrk
     unfold maxLen at hrm
     obtain ⟨q, hqk⟩ : ∃ r, rows[k + 1]? = some r := ⟨_, List.getElem?_eq_getElem (by omega)⟩
     obtain ⟨RA2, rc2, ad2, hAd2, cc2, hr2, hrc2, hrm2⟩ := (hS.ext hf).row hqk
     unfold maxLen at hrm2
     have hr16 := (row_ok_of (hz _ _ hrk)).1
     have hq16 := (row_ok_of (hz _ _ hqk)).1
     have hRr := hR r (List.mem_of_getElem? hrk)
     have hRq := hR q (List.mem_of_getElem? hqk)
     refine wsn ?_
     refine wp_seq ?_
     refine wp_block ?_
     refine wp_seq ?_
     refine region_quiet hmix (by kernel_rfl) ?_
     refine qt_fieldAddr h rfl fa45_0 rfl ?_; clear h a; intro a h
     refine qt_loadB h rfl (fun _ hw => hb1.ext hw) rfl na43 rfl ?_; clear h a; intro a h
     refine qt_move h rfl rfl ?_; clear h a; intro a h
     refine qt_idxS (p := k + 1) h (by rw [hAd2]; rfl) rfl el43 (by omega) (by omega) (by omega) rfl ?_; clear h a; intro a h
     refine qt_loadC0 h rfl (fun _ hw => cc2.fr hw (by simp)) na22 rfl ?_; clear h a; intro a h
     refine qt_call h (evs_cons rfl evs_nil) co40 (fun w hw => (rneeds_ok _ q w (hr2.ext hw) hRq (by omega)).mono fun u w' ⟨e, f⟩ => ⟨e, hw.next f⟩) rfl ?_; clear h a; intro a h
     refine qt_fieldAddr h rfl fa45_0 rfl ?_; clear h a; intro a h
     refine qt_loadB h rfl (fun _ hw => hb1.ext hw) rfl na43 rfl ?_; clear h a; intro a h
     refine qt_move h rfl rfl ?_; clear h a; intro a h
     refine qt_sub h rfl rfl (by first | exact IntWalk.i64_in _ (by omega) | rfl) rfl ?_; clear h a; intro a h
     refine qt_idxS (p := k) h (by rw [hAd]; rfl) rfl el43 (by omega) (by omega) (by omega) rfl ?_; clear h a; intro a h
     refine qt_loadC0 h rfl (fun _ hw => cc.fr hw (by simp)) na22 rfl ?_; clear h a; intro a h
     refine qt_call h (evs_cons rfl evs_nil) co41 (fun w hw => (rmakes_ok _ r w (hr.ext hw) hRr (by omega)).mono fun u w' ⟨e, f⟩ => ⟨e, hw.next f⟩) rfl ?_; clear h a; intro a h
     refine qt_ne h rfl rfl rfl ?_; clear h a; intro a h
     refine wpQuiet_nil ?_
     intro w5 hq
     replace hf := hf.next hq
     replace hb1 := hb1.ext hq
     clear hq
     replace h : Ag a 131 [(1, _), (6, _), (63, _)] := h.sub (.cons rfl (.cons rfl (.cons rfl .nil)))
     refine (norm_then ?_)
     first | refine cond_dec h rfl (fun c5 => ?_) (fun c5 => ?_) | refine cond_ndec h rfl (fun c5 => ?_) (fun c5 => ?_) | refine cond_split h rfl (fun c5 => ?_) (fun c5 => ?_)
     ·refine id ?_
      refine wp_seq ?_
      refine wR ?_
      refine st_assign h rfl rfl ?_; clear h a; intro a h
      refine st_assign h rfl rfl ?_; clear h a; intro a h
      replace h : Ag a 131 [(2, _), (3, _)] := h.sub (.cons rfl (.cons rfl .nil))
      refine wnt ?_
      refine wp_ret (ret_blk (ret_then (ret_then (ret_blk (ret_then ?_)))))
      refine ret2 h Tryd.results21 rfl rfl ?_
      exact ⟨_, rfl, _, by rw [chart_bad (rows14 (by omega) (by omega) hz hrk hqk c5) (by decide)], hf⟩
     ·refine id ?_
      refine wp_skip (norm_blk (norm_then ?_))
      refine wR ?_
      refine st_move h rfl rfl ?_; clear h a; intro a h
      refine st_add h rfl rfl (by first | exact IntWalk.i64_in _ (by omega) | rfl) rfl ?_; clear h a; intro a h
      refine st_assign h rfl rfl ?_; clear h a; intro a h
      replace h : Ag a 131 [(1, _), (6, _)] := h.sub (.cons rfl (.cons rfl .nil))
      refine wnt ?_
      exact ⟨k + 1, h.sub (.cons rfl (.cons (by first | rfl | (congr 2; omega)) .nil)), ⟨by omega, adj_next hadj hrk hqk (Decidable.not_not.1 c5), hb1, hf⟩, by omega⟩
    ·obtain hkl : k + 1 = rows.length := by omega
     have hE0 := rows0 (by omega) (by omega) hz (fun j r q h1 h2 => hadj j r q (by have := (List.getElem?_eq_some_iff.1 h2).1; omega) h1 h2)
     obtain ⟨-, -, -, hadj2⟩ := rows_of hE0
     obtain ⟨r0, hr0k⟩ : ∃ r, rows[0]? = some r := ⟨_, List.getElem?_eq_getElem (by omega)⟩
     have hr016 := row_ok_of (hz _ _ hr0k)
     have hR0 := hR r0 (List.mem_of_getElem? hr0k)
     refine wp_exit (exit_then (exit_then (exit_here (norm_then ?_))))
     refine wp_seq ?_
     refine wR ?_
     refine st_assign h rfl rfl ?_; clear h a; intro a h
     replace h : Ag a 131 [(1, _), (7, _)] := h.sub (.cons rfl (.cons rfl .nil))
     refine wnt ?_
     refine wp_seq ?_
     refine wp_seq ?_
     refine wR ?_
     refine st_assign h rfl rfl ?_; clear h a; intro a h
     refine wnt ?_
     refine wp_block ?_
     refine loop (ι := Nat × Value) (fun z => [(1, .pointer (some ⟨g_1, 0, none⟩)), (7, z.2), (8, .int .i64 (z.1 : Int))]) (fun z w' => (z.1 : Int) ≤ needsR r0 ∧ Lw.Own Enc.i64 3 (g_1 + 1) w' z.2 (List.replicate z.1 1) ∧ Blk w' g_1 45 [.slice A rows.length c] ∧ Fr [] w0 w') (fun z => (needsR r0).toNat - z.1) (0, .slice none 0 0) (h.sub (.cons rfl (.cons rfl (.cons rfl .nil)))) ⟨by simp only; omega, Own.nil _, hb1, hf⟩ ?_
     clear h a hf hb1
     rintro ⟨j, x⟩ w6 a h ⟨hj, ho, hb1, hf⟩
     simp only at hj ho h
     obtain ⟨RA, rc, ad, hAd, cc, hr, hrc, hrm⟩ := (hS.ext hf).row hr0k
     unfold maxLen at hrm
     refine wp_seq ?_
     refine wp_seq ?_
     refine wR ?_
     refine st_move h rfl rfl ?_; clear h a; intro a h
     refine st_fieldAddr h rfl fa45_0 rfl ?_; clear h a; intro a h
     refine st_loadB h rfl hb1 rfl na43 rfl ?_; clear h a; intro a h
     refine st_idxS (p := 0) h (by rw [hAd]; rfl) rfl el43 (by omega) (by omega) (by omega) rfl ?_; clear h a; intro a h
     refine st_loadC0 h rfl cc na22 rfl ?_; clear h a; intro a h
     refine st_call h (evs_cons rfl evs_nil) co40 (rneeds_ok _ r0 _ hr hR0 (by omega)) rfl ?_; clear h a; rintro _ w7 ⟨rfl, hq⟩ a h
     replace hf := hf.next hq
     replace hb1 := hb1.ext hq
     replace ho := ho.ext hq
     clear hq
     refine st_lt h rfl rfl rfl ?_; clear h a; intro a h
     replace h : Ag a 131 [(1, _), (7, _), (8, _), (70, _)] := h.sub (.cons rfl (.cons rfl (.cons rfl (.cons rfl .nil))))
     refine wnt ?_
     first | refine cond_dec h rfl (fun c6 => ?_) (fun c6 => ?_) | refine cond_ndec h rfl (fun c6 => ?_) (fun c6 => ?_) | refine cond_split h rfl (fun c6 => ?_) (fun c6 => ?_)
     ·refine id ?_
      refine wsn ?_
      refine wp_seq ?_
      refine wp_block ?_
      refine wR ?_
      refine st_move h rfl rfl ?_; clear h a; intro a h
      refine st_bslice [(1 : Int)] h (evs_cons rfl evs_nil) rfl rfl rfl el68 (by decide) rfl ?_; clear h a; intro gN w8 hg hoN hq hz a h
      replace hf := hf.next hq
      replace hb1 := hb1.ext hq
      replace ho := ho.ext hq
      clear hq hz hg
      have hbO := ho.blk
      refine st_append h rfl rfl ho hoN.sl el68 (by unfold maxLen; simp; omega) (by simp; omega) (by have := hb1.lt; omega) rfl ?_; clear h a; intro v3 w9 ho3 hq hx3 a h
      replace hb1 := hb1.fr hq (fun hb => by have := (hbO _ hb).1; omega)
      replace hf := hf.step hq (fun k hk hlt => absurd (hbO k hk).1 (by omega))
      clear hoN
      clear ho hq hx3 hbO; have ho := ho3; clear ho3
      refine st_assign h rfl rfl ?_; clear h a; intro a h
      replace h : Ag a 131 [(1, _), (7, _), (8, _)] := h.sub (.cons rfl (.cons rfl (.cons rfl .nil)))
      refine wpList_nil (norm_blk (norm_then ?_))
      refine wR ?_
      refine st_move h rfl rfl ?_; clear h a; intro a h
      refine st_add h rfl rfl (by first | exact IntWalk.i64_in _ (by omega) | rfl) rfl ?_; clear h a; intro a h
      refine st_assign h rfl rfl ?_; clear h a; intro a h
      replace h : Ag a 131 [(1, _), (7, _), (8, _)] := h.sub (.cons rfl (.cons rfl (.cons rfl .nil)))
      refine wnt ?_
      exact ⟨(j + 1, _), h.sub (.cons rfl (.cons rfl (.cons rfl .nil))), ⟨by simp only; omega, by rw [rep_succ]; exact ho, hb1, hf⟩, by simp only; omega⟩
     ·have hjj : (j : Int) = needsR r0 := by omega
      obtain ⟨NA, nc, e, hnc⟩ := ho.sl.form
      rw [List.length_replicate] at e
      subst e
      refine wp_exit (exit_then (exit_then (exit_here (norm_then ?_))))
      refine wp_seq ?_
      refine wR ?_
      refine st_move h rfl rfl ?_; clear h a; intro a h
      refine st_bslice [((NA, j, nc) : SV)] h (evs_cons rfl evs_nil) rfl rfl rfl el51 (by decide) rfl ?_; clear h a; intro gV w10 hg hoV hq hz a h
      have hgV : g_1 + 1 ≤ gV := by have := hb1.lt; omega
      replace hf := hf.next hq
      replace hb1 := hb1.ext hq
      replace ho := ho.ext hq
      clear hq hz hg
      refine st_assign h rfl rfl ?_; clear h a; intro a h
      replace h : Ag a 131 [(1, _), (7, _), (9, _)] := h.sub (.cons rfl (.cons rfl (.cons rfl .nil)))
      refine wnt ?_
      refine wp_seq ?_
      refine wp_seq ?_
      refine wR ?_
      refine st_assign h rfl rfl ?_; clear h a; intro a h
      refine wnt ?_
      refine wp_block ?_
      refine loop (ι := RefSt) (fun z => [(1, .pointer (some ⟨g_1, 0, none⟩)), (7, z.N), (9, z.OV), (10, .int .i64 (z.i : Int))]) (fun z w' => z.i ≤ rows.length ∧ (∀ r, rows[z.i]? = some r → (z.ls.length : Int) = needsR r) ∧ runRows (rows.drop z.i) z.ls = chartE rows ∧ Lw.Own Enc.i64 3 (g_1 + 1) w' z.N z.ls ∧ Lw.Own Enc.sl 68 (g_1 + 1) w' z.OV z.hs ∧ z.hs.length = z.i + 1 ∧ Blk w' g_1 45 [.slice A rows.length c] ∧ Fr [] w0 w') (fun z => rows.length - z.i) ⟨0, _, List.replicate j 1, _, [(NA, j, nc)]⟩ (h.sub (.cons rfl (.cons rfl (.cons rfl (.cons rfl .nil))))) ⟨Nat.zero_le _, fun r hr => by rw [hr0k] at hr; cases hr; simpa using hjj, by rw [chart_run hE0, startL, List.getD, hr0k, List.drop_zero]; show runRows rows (List.replicate j 1) = runRows rows (List.replicate (needsR r0).toNat 1); rw [show (needsR r0).toNat = j by omega], ho, hoV.low hgV, rfl, hb1, hf⟩ ?_
      clear h a hf hb1 ho hoV
      rintro ⟨i, N, ls, OV, hs⟩ w11 a h ⟨hi, hln, hrs, hN, hO, hol, hb1, hf⟩
      simp only at hi hln hrs hN hO hol h
      obtain ⟨NA, nc, rfl, hnc⟩ := hN.sl.form
      refine wp_seq ?_
      refine wp_seq ?_
      refine wR ?_
      refine st_move h rfl rfl ?_; clear h a; intro a h
      refine st_fieldAddr h rfl fa45_0 rfl ?_; clear h a; intro a h
      refine st_loadB h rfl hb1 rfl na43 rfl ?_; clear h a; intro a h
      refine st_lenS h rfl Tryd.underlying43 rfl ?_; clear h a; intro a h
      refine st_lt h rfl rfl rfl ?_; clear h a; intro a h
      replace h : Ag a 131 [(1, _), (7, _), (9, _), (10, _), (82, _)] := h.sub (.cons rfl (.cons rfl (.cons rfl (.cons rfl (.cons rfl .nil)))))
      refine wnt ?_
      first | refine cond_dec h rfl (fun c7 => ?_) (fun c7 => ?_) | refine cond_ndec h rfl (fun c7 => ?_) (fun c7 => ?_) | refine cond_split h rfl (fun c7 => ?_) (fun c7 => ?_)
      ·obtain ⟨r, hrk⟩ : ∃ r, rows[i]? = some r := ⟨_, List.getElem?_eq_getElem (by omega)⟩
       have hr16 := row_ok_of (hz _ _ hrk)
       have hRr := hR r (List.mem_of_getElem? hrk)
       obtain ⟨gI, hgI⟩ : ∃ g, g = w11.heap.size := ⟨_, rfl⟩
       have hOI : ∀ k ∈ blks OV, k < gI := fun k hk => by have := (hO.blk k hk).2; omega
       have hNI : ∀ k ∈ blks (.slice NA ls.length nc), k < gI := fun k hk => by have := (hN.blk k hk).2; omega
       have hg1I : g_1 < gI := by have := hb1.lt; omega
       have hw0I : w0.heap.size ≤ gI := by have := hf.size; omega
       refine wsn ?_
       refine wp_seq ?_
       refine wp_block ?_
       refine wp_seq ?_
       refine wR ?_
       refine st_assign h rfl rfl ?_; clear h a; intro a h
       replace h : Ag a 131 [(1, _), (7, _), (9, _), (10, _), (11, _)] := h.sub (.cons rfl (.cons rfl (.cons rfl (.cons rfl (.cons rfl .nil)))))
       refine wnt ?_
       refine wp_seq ?_
       refine wR ?_
       refine st_assign h rfl rfl ?_; clear h a; intro a h
       refine wnt ?_
       refine wp_seq ?_
       refine wp_seq ?_
       refine wR ?_
       refine st_assign h rfl rfl ?_; clear h a; intro a h
       refine wnt ?_
       refine wp_block ?_
       refine loop (ι := InSt) (fun z => [(1, .pointer (some ⟨g_1, 0, none⟩)), (7, .slice NA ls.length nc), (9, OV), (10, .int .i64 (i : Int)), (11, .int .i64 (z.at_ : Int)), (12, z.X), (13, .int .i64 (z.k : Int))]) (fun z w' => z.k ≤ r.length ∧ z.at_ ≤ ls.length ∧ ((ls.drop z.at_).length : Int) = needsR (r.drop z.k) ∧ runRow (r.drop z.k) (ls.drop z.at_) z.acc = runRow r ls [] ∧ z.acc.length ≤ 4 * z.k ∧ Lw.Own Enc.i64 3 gI w' z.X z.acc ∧ Lw.Own Enc.i64 3 (g_1 + 1) w' (.slice NA ls.length nc) ls ∧ Lw.Own Enc.sl 68 (g_1 + 1) w' OV hs ∧ Blk w' g_1 45 [.slice A rows.length c] ∧ gI ≤ w'.heap.size ∧ Fr [] w0 w') (fun z => r.length - z.k) ⟨0, 0, [], .slice none 0 0⟩ (h.sub (.cons rfl (.cons rfl (.cons rfl (.cons rfl (.cons rfl (.cons rfl (.cons rfl .nil)))))))) ⟨Nat.zero_le _, Nat.zero_le _, by simpa using hln r hrk, rfl, Nat.le_refl _, Own.nil _, hN, hO, hb1, by omega, hf⟩ ?_
       clear h a hf hb1 hN hO
       rintro ⟨k, at_, acc, X⟩ w12 a h ⟨hk, hat, hdl, hrr, hal, hX, hN, hO, hb1, hgs, hf⟩
       simp only at hk hat hdl hrr hal hX h
       obtain ⟨RA, rc, ad, hAd, cc, hr, hrc, hrm⟩ := (hS.ext hf).row hrk
       unfold maxLen at hrm
       refine wp_seq ?_
       refine wp_seq ?_
       refine wR ?_
       refine st_move h rfl rfl ?_; clear h a; intro a h
       refine st_fieldAddr h rfl fa45_0 rfl ?_; clear h a; intro a h
       refine st_loadB h rfl hb1 rfl na43 rfl ?_; clear h a; intro a h
       refine st_move h rfl rfl ?_; clear h a; intro a h
       refine st_idxS (p := i) h (by rw [hAd]; rfl) rfl el43 (by omega) (by omega) (by omega) rfl ?_; clear h a; intro a h
       refine st_loadC0 h rfl cc na22 rfl ?_; clear h a; intro a h
       refine st_lenS h rfl Tryd.underlying22 rfl ?_; clear h a; intro a h
       refine st_lt h rfl rfl rfl ?_; clear h a; intro a h
       replace h : Ag a 131 [(1, _), (7, _), (9, _), (10, _), (11, _), (12, _), (13, _), (92, _)] := h.sub (.cons rfl (.cons rfl (.cons rfl (.cons rfl (.cons rfl (.cons rfl (.cons rfl (.cons rfl .nil))))))))
       refine wnt ?_
       first | refine cond_dec h rfl (fun c8 => ?_) (fun c8 => ?_) | refine cond_ndec h rfl (fun c8 => ?_) (fun c8 => ?_) | refine cond_split h rfl (fun c8 => ?_) (fun c8 => ?_)
       ·obtain ⟨s, hsk⟩ : ∃ s, r[k]? = some s := ⟨_, List.getElem?_eq_getElem (by omega)⟩
        obtain ⟨-, -, -, hE⟩ := Sl.open_ hr
        obtain ⟨sa, hsa, csx⟩ := hE k s hsk
        obtain ⟨p1, p2⟩ := hRr s (List.mem_of_getElem? hsk)
        have hnd := needs_drop hsk
        have hnp := needs_pos (r.drop (k + 1))
        have hnr := needs_rng s
        have hdl2 : ((ls.length - at_ : Nat) : Int) = needsR (r.drop k) := by rw [← hdl, List.length_drop]
        have hls16 : ls.length ≤ 16 := by have := hln r hrk; omega
        refine wsn ?_
        refine wp_seq ?_
        refine wp_block ?_
        refine wp_seq ?_
        refine wR ?_
        refine st_fieldAddr h rfl fa45_0 rfl ?_; clear h a; intro a h
        refine st_loadB h rfl hb1 rfl na43 rfl ?_; clear h a; intro a h
        refine st_move h rfl rfl ?_; clear h a; intro a h
        refine st_idxS (p := i) h (by rw [hAd]; rfl) rfl el43 (by omega) (by omega) (by omega) rfl ?_; clear h a; intro a h
        refine st_loadC0 h rfl cc na22 rfl ?_; clear h a; intro a h
        refine st_move h rfl rfl ?_; clear h a; intro a h
        refine st_idxS (p := k) h (by rw [hsa]; rfl) rfl el22 (by omega) (by omega) (by omega) rfl ?_; clear h a; intro a h
        refine st_loadA h rfl csx ag36 rfl ?_; clear h a; intro a h
        refine st_alloc h zv36 rfl rfl ?_; clear h a; intro w13 hb14 hq hz a h
        obtain ⟨g_14, hg⟩ : ∃ g, g = w12.heap.size := ⟨_, rfl⟩; rw [← hg] at hb14 h hz
        have hl14 : w0.heap.size ≤ g_14 := by have := hf.size; omega
        have hn_1_14 : g_1 < g_14 := by have := hb1.lt; omega
        have hlt_hX_14 : ∀ k ∈ blks X, k < g_14 := fun k hk => by have := (hX.blk k hk).2; omega
        have hlt_hN_14 : ∀ k ∈ blks (.slice NA ls.length nc), k < g_14 := fun k hk => by have := (hN.blk k hk).2; omega
        have hlt_hO_14 : ∀ k ∈ blks OV, k < g_14 := fun k hk => by have := (hO.blk k hk).2; omega
        replace hf := hf.next hq
        replace hb1 := hb1.ext hq
        replace hX := hX.ext hq
        replace hN := hN.ext hq
        replace hO := hO.ext hq
        replace hgs := Nat.le_trans hgs hq.size
        clear hq hz hg
        refine st_storeBA h rfl rfl hb14 rfl (by first | (simp [Value.oneCell', S]; done) | exact Enc.one _ _) sz36 ?_; clear h a; intro w14 hbn hq hz a h
        replace hf := hf.step hq (by first | (simp; done) | (simp; omega))
        replace hb1 := hb1.fr hq (by first | (simp; done) | (simp; omega) | (simp [blks]; done) | (simp [blks]; omega))
        replace hX := hX.fr hq (by intro k hk hb; simp at hk; subst hk; exact absurd (hlt_hX_14 _ hb) (by omega))
        replace hN := hN.fr hq (by intro k hk hb; simp at hk; subst hk; exact absurd (hlt_hN_14 _ hb) (by omega))
        replace hO := hO.fr hq (by intro k hk hb; simp at hk; subst hk; exact absurd (hlt_hO_14 _ hb) (by omega))
        replace hgs := Nat.le_trans hgs hq.size
        clear hb14 hq hz; have hb14 : Blk w14 g_14 _ [_, _, _, _, _] := hbn; clear hbn
        replace h : Ag a 131 [(1, _), (7, _), (9, _), (10, _), (11, _), (12, _), (13, _), (14, _)] := h.sub (.cons rfl (.cons rfl (.cons rfl (.cons rfl (.cons rfl (.cons rfl (.cons rfl (.cons rfl .nil))))))))
        refine wnt ?_
        refine wp_seq ?_
        refine wR ?_
        refine st_loadBA h rfl hb14 ag36 rfl ?_; clear h a; intro a h
        refine st_call h (evs_cons rfl evs_nil) co42 (refneeds_ok s _ p1 p2) rfl ?_; clear h a; rintro _ w15 ⟨rfl, hq⟩ a h
        replace hf := hf.next hq
        replace hb1 := hb1.ext hq
        replace hX := hX.ext hq
        replace hN := hN.ext hq
        replace hO := hO.ext hq
        replace hgs := Nat.le_trans hgs hq.size
        replace hb14 := hb14.ext hq
        clear hq
        refine st_assign h rfl rfl ?_; clear h a; intro a h
        replace h : Ag a 131 [(1, _), (7, _), (9, _), (10, _), (11, _), (12, _), (13, _), (14, _), (15, _)] := h.sub (.cons rfl (.cons rfl (.cons rfl (.cons rfl (.cons rfl (.cons rfl (.cons rfl (.cons rfl (.cons rfl .nil)))))))))
        refine wnt ?_
        refine wp_seq ?_
        refine region_held (fun wb w' => Fr [] wb w') hmix ?_; intro w16 hq
        replace hf := hf.next hq
        replace hb1 := hb1.ext hq
        replace hX := hX.ext hq
        replace hN := hN.ext hq
        replace hO := hO.ext hq
        replace hgs := Nat.le_trans hgs hq.size
        replace hb14 := hb14.ext hq
        clear hq; have hC : Fr [] w16 w16 := Fr.refl _ _
        have hb1_b := hb1
        have hX_b := hX
        have hN_b := hN
        have hO_b := hO
        have hb14_b := hb14
        refine hd_loadBA 0 (by kernel_rfl) (by kernel_rfl) (by kernel_rfl) hC h wn rfl (fun _ hw => hb14_b.ext hw) ag36 rfl rfl ?_; clear h a; intro a h
        refine hd_move 1 (by kernel_rfl) (by kernel_rfl) (by kernel_rfl) hC h wn rfl rfl rfl ?_; clear h a; intro a h
        refine hd_move 2 (by kernel_rfl) (by kernel_rfl) (by kernel_rfl) hC h wn rfl rfl rfl ?_; clear h a; intro a h
        refine hd_move 3 (by kernel_rfl) (by kernel_rfl) (by kernel_rfl) hC h wn rfl rfl rfl ?_; clear h a; intro a h
        refine hd_move 4 (by kernel_rfl) (by kernel_rfl) (by kernel_rfl) hC h wn rfl rfl rfl ?_; clear h a; intro a h
        refine hd_add 5 (by kernel_rfl) (by kernel_rfl) (by kernel_rfl) hC h wn rfl rfl (by first | exact IntWalk.i64_in _ (by omega) | rfl) rfl rfl ?_; clear h a; intro a h
        refine hd_sl_lh 6 (by kernel_rfl) (by kernel_rfl) (by kernel_rfl) hC (p := at_) (p' := at_ + (needsS s).toNat) h wn rfl rfl rfl el68 (by omega) (by omega) (by omega) (by omega) (by omega) rfl rfl ?_; clear h a; intro a h
        refine hd_one 7 (by kernel_rfl) rfl ?_
        have hpt := Sl.part hN.sl (i := at_) (m := (needsS s).toNat) (by omega)
        refine st_call h (evs_cons rfl (evs_cons rfl evs_nil)) co43 (refloads_ok s _ _ _ p1 p2 hpt) rfl ?_; clear h a; rintro _ w17 ⟨rv, rfl, hrv, hq⟩ a h
        have hXr : ∀ k ∈ blks X, k ∉ blks rv := fun k hk hk2 => by have := (hX.blk k hk).2; have := (hrv.blk k hk2).1; omega
        replace hf := hf.next hq
        replace hb1 := hb1.ext hq
        replace hX := hX.ext hq
        replace hN := hN.ext hq
        replace hO := hO.ext hq
        replace hgs := Nat.le_trans hgs hq.size
        replace hb14 := hb14.ext hq
        replace hC := hC.next hq
        clear hq hpt
        refine hd_next hC ?_
        refine hd_move 8 (by kernel_rfl) (by kernel_rfl) (by kernel_rfl) hC h wn rfl rfl rfl ?_; clear h a; intro a h
        refine hd_extract 9 (by kernel_rfl) (by kernel_rfl) (by kernel_rfl) hC h wn rfl rfl rfl rfl ?_; clear h a; intro a h
        refine hd_extract 10 (by kernel_rfl) (by kernel_rfl) (by kernel_rfl) hC h wn rfl rfl rfl rfl ?_; clear h a; intro a h
        refine hd_one 11 (by kernel_rfl) rfl ?_
        refine st_assign h rfl rfl ?_; clear h a; intro a h
        refine hd_next hC ?_
        refine hd_one 12 (by kernel_rfl) rfl ?_
        refine st_assign h rfl rfl ?_; clear h a; intro a h
        refine hd_next hC ?_
        refine hd_end (by kernel_rfl) ?_
        clear hC hb1_b hX_b hN_b hO_b hb14_b
        replace h : Ag a 131 [(1, _), (7, _), (9, _), (10, _), (11, _), (12, _), (13, _), (15, _), (16, _), (17, _)] := h.sub (.cons rfl (.cons rfl (.cons rfl (.cons rfl (.cons rfl (.cons rfl (.cons rfl (.cons rfl (.cons rfl (.cons rfl .nil))))))))))
        refine (norm_then ?_)
        refine wp_seq ?_
        refine wp_seq ?_
        refine wR ?_
        refine st_move h rfl rfl ?_; clear h a; intro a h
        refine st_ne h rfl rfl rfl ?_; clear h a; intro a h
        replace h : Ag a 131 [(1, _), (7, _), (9, _), (10, _), (11, _), (12, _), (13, _), (15, _), (16, _), (17, _), (117, _)] := h.sub (.cons rfl (.cons rfl (.cons rfl (.cons rfl (.cons rfl (.cons rfl (.cons rfl (.cons rfl (.cons rfl (.cons rfl (.cons rfl .nil)))))))))))
        refine wnt ?_
        first | refine cond_dec h rfl (fun c9 => ?_) (fun c9 => ?_) | refine cond_ndec h rfl (fun c9 => ?_) (fun c9 => ?_) | refine cond_split h rfl (fun c9 => ?_) (fun c9 => ?_)
        ·have hbad := rs_bad hrs hrk (by rw [rr_bad hrr hsk c9]; exact c9)
         rw [rr_bad hrr hsk c9] at hbad
         refine wp_seq ?_
         refine wR ?_
         refine st_move h rfl rfl ?_; clear h a; intro a h
         refine st_assign h rfl rfl ?_; clear h a; intro a h
         refine st_assign h rfl rfl ?_; clear h a; intro a h
         replace h : Ag a 131 [(2, _), (3, _)] := h.sub (.cons rfl (.cons rfl .nil))
         refine wnt ?_
         refine wp_ret (ret_then (ret_blk (ret_then (ret_then (ret_blk (ret_then (ret_blk (ret_then (ret_then (ret_blk (ret_then ?_)))))))))))
         refine ret2 h Tryd.results21 rfl rfl ?_
         exact ⟨_, rfl, _, by rw [hbad]; rfl, hf⟩
        ·clear hb14
         have h0' : ¬ (loadsS s ((ls.drop at_).take (needsS s).toNat)).2 ≠ 0 := c9
         have hll := loads_len s ((ls.drop at_).take (needsS s).toNat)
         refine wsn ?_
         refine wp_seq ?_
         refine wR ?_
         refine st_move h rfl rfl ?_; clear h a; intro a h
         refine st_move h rfl rfl ?_; clear h a; intro a h
         have hbO := hX.blk
         refine st_append h rfl rfl hX hrv.sl el68 (by unfold maxLen; omega) (by omega) (by omega) rfl ?_; clear h a; intro X3 w18 ho3 hq hx3 a h
         replace hN := hN.fr hq (fun k hk hb => by have := (hbO k hk).1; have := hNI k hb; omega)
         replace hO := hO.fr hq (fun k hk hb => by have := (hbO k hk).1; have := hOI k hb; omega)
         replace hb1 := hb1.fr hq (fun hb => by have := (hbO _ hb).1; omega)
         replace hf := hf.step hq (fun k hk hlt => absurd (hbO k hk).1 (by omega))
         replace hgs := Nat.le_trans hgs hq.size
         clear hrv hXr
         clear hX hq hx3 hbO; have hX := ho3; clear ho3
         refine st_assign h rfl rfl ?_; clear h a; intro a h
         replace h : Ag a 131 [(1, _), (7, _), (9, _), (10, _), (11, _), (12, _), (13, _), (15, _)] := h.sub (.cons rfl (.cons rfl (.cons rfl (.cons rfl (.cons rfl (.cons rfl (.cons rfl (.cons rfl .nil))))))))
         refine wnt ?_
         refine wR ?_
         refine st_move h rfl rfl ?_; clear h a; intro a h
         refine st_move h rfl rfl ?_; clear h a; intro a h
         refine st_add h rfl rfl (by first | exact IntWalk.i64_in _ (by omega) | rfl) rfl ?_; clear h a; intro a h
         refine st_assign h rfl rfl ?_; clear h a; intro a h
         replace h : Ag a 131 [(1, _), (7, _), (9, _), (10, _), (11, _), (12, _), (13, _)] := h.sub (.cons rfl (.cons rfl (.cons rfl (.cons rfl (.cons rfl (.cons rfl (.cons rfl .nil)))))))
         refine wpList_nil (norm_blk (norm_then ?_))
         refine wR ?_
         refine st_move h rfl rfl ?_; clear h a; intro a h
         refine st_add h rfl rfl (by first | exact IntWalk.i64_in _ (by omega) | rfl) rfl ?_; clear h a; intro a h
         refine st_assign h rfl rfl ?_; clear h a; intro a h
         replace h : Ag a 131 [(1, _), (7, _), (9, _), (10, _), (11, _), (12, _), (13, _)] := h.sub (.cons rfl (.cons rfl (.cons rfl (.cons rfl (.cons rfl (.cons rfl (.cons rfl .nil)))))))
         refine wnt ?_
         exact ⟨⟨k + 1, at_ + (needsS s).toNat, acc ++ (loadsS s ((ls.drop at_).take (needsS s).toNat)).1, _⟩, h.sub (.cons rfl (.cons rfl (.cons rfl (.cons rfl (.cons (by show some (Value.int IntKind.i64 ((at_ : Int) + needsS s)) = some (Value.int IntKind.i64 ((at_ + (needsS s).toNat : Nat) : Int)); congr 2; omega) (.cons rfl (.cons rfl .nil))))))), ⟨by simp only; omega, by simp only; omega, by simp only [List.length_drop] at hdl ⊢; omega, rr_next hrr hsk h0', by simp only [List.length_append]; omega, hX, hN, hO, hb1, hgs, hf⟩, by simp only; omega⟩
       ·obtain rfl : k = r.length := by omega
        have hrow := rr_end hrr
        have hrsn := rs_next hrs hrk hrow
        have hal2 := run_next_len hrow
        have hlnn : ∀ q, rows[i + 1]? = some q → (acc.length : Int) = needsR q := fun q hq => by rw [hadj2 i r q hrk hq]; exact hal2
        obtain ⟨XA, xc, rfl, hxc⟩ := hX.sl.form
        refine wp_exit (exit_then (exit_then (exit_here (norm_then ?_))))
        refine wp_seq ?_
        refine wR ?_
        refine st_move h rfl rfl ?_; clear h a; intro a h
        refine st_assign h rfl rfl ?_; clear h a; intro a h
        replace h : Ag a 131 [(1, _), (7, _), (9, _), (10, _), (12, _)] := h.sub (.cons rfl (.cons rfl (.cons rfl (.cons rfl (.cons rfl .nil)))))
        refine wnt ?_
        refine wR ?_
        refine st_move h rfl rfl ?_; clear h a; intro a h
        refine st_move h rfl rfl ?_; clear h a; intro a h
        refine st_bslice [((XA, acc.length, xc) : SV)] h (evs_cons rfl evs_nil) rfl rfl rfl el51 (by decide) rfl ?_; clear h a; intro gV w19 hg hoV hq hz a h
        have hXO : ∀ k ∈ blks OV, k ∉ blks (.slice XA acc.length xc) := fun k hk hk2 => by have := hOI k hk; have := (hX.blk k hk2).1; omega
        replace hf := hf.next hq
        replace hb1 := hb1.ext hq
        replace hX := hX.ext hq
        replace hN := hN.ext hq
        replace hO := hO.ext hq
        replace hgs := Nat.le_trans hgs hq.size
        clear hq hz hg
        have hbO := hO.blk
        refine st_append h rfl rfl hO hoV.sl el51 (by unfold maxLen; simp; omega) (by simp; omega) (by have := hb1.lt; omega) rfl ?_; clear h a; intro O3 w20 ho3 hq hx3 a h
        replace hX := hX.fr hq hXO
        replace hb1 := hb1.fr hq (fun hb => by have := (hbO _ hb).1; omega)
        replace hf := hf.step hq (fun k hk hlt => absurd (hbO k hk).1 (by omega))
        clear hoV hN
        clear hO hq hx3 hbO; have hO := ho3; clear ho3
        refine st_assign h rfl rfl ?_; clear h a; intro a h
        replace h : Ag a 131 [(1, _), (7, _), (9, _), (10, _)] := h.sub (.cons rfl (.cons rfl (.cons rfl (.cons rfl .nil))))
        refine wpList_nil (norm_blk (norm_then ?_))
        refine wR ?_
        refine st_move h rfl rfl ?_; clear h a; intro a h
        refine st_add h rfl rfl (by first | exact IntWalk.i64_in _ (by omega) | rfl) rfl ?_; clear h a; intro a h
        refine st_assign h rfl rfl ?_; clear h a; intro a h
        replace h : Ag a 131 [(1, _), (7, _), (9, _), (10, _)] := h.sub (.cons rfl (.cons rfl (.cons rfl (.cons rfl .nil))))
        refine wnt ?_
        exact ⟨⟨i + 1, _, acc, _, hs ++ [(XA, acc.length, xc)]⟩, h.sub (.cons rfl (.cons rfl (.cons rfl (.cons rfl .nil)))), ⟨by simp only; omega, hlnn, hrsn, hX.low (by omega), hO, by simp [hol], hb1, hf⟩, by simp only; omega⟩
      ·obtain rfl : i = rows.length := by omega
       have hend := rs_end hrs
       refine wp_exit (exit_then (exit_then (exit_here (norm_then ?_))))
       refine wp_seq ?_
       refine wR ?_
       refine st_move h rfl rfl ?_; clear h a; intro a h
       refine st_assign h rfl rfl ?_; clear h a; intro a h
       refine st_assign h rfl rfl ?_; clear h a; intro a h
       replace h : Ag a 131 [(2, _), (3, _)] := h.sub (.cons rfl (.cons rfl .nil))
       refine wnt ?_
       refine wp_ret ?_
       refine ret2 h Tryd.results21 rfl rfl ?_
       exact ⟨_, rfl, _, by rw [hend], hf⟩
end Go.Proofs.YtbbnampdgefljaaDoor
namespace Go.Proofs.YtbbnampdgefljaaDoor
open Go.Lw Go.G14
theorem co59 : CallOf Tryd.prog 59 := CallOf.mk' Tryd.func59 (by kernel_rfl) (by kernel_rfl)
theorem co67 : CallOf Tryd.prog 67 := CallOf.mk' Tryd.func67 (by kernel_rfl) (by kernel_rfl)
theorem co71 : CallOf Tryd.prog 71 := CallOf.mk' Tryd.func71 (by kernel_rfl) (by kernel_rfl)
theorem na68 : NotAgg Tryd.prog 68 := fun _ => by kernel_rfl
theorem sz68 : SizeOf Tryd.prog 68 1 := fun _ => by kernel_rfl
theorem zv68 (w : World) : (zeroValue 68).run Tryd.prog w = .ok (.slice none 0 0) w := by kernel_rfl
set_option maxHeartbeats 2000000 in
theorem chart_ok (u : Value) (rows : List (List Stitch)) (w0 : World) (hS : Sll encSt w0 u rows) : Rets Tryd.prog 59 #[.agg #[u]] w0 fun v w' => ∃ X, v = .tuple #[X, .int .i64 (chartE rows)] ∧ Fr [] w0 w' := by
 obtain ⟨A, c, rfl, hcp, hM⟩ := hS.form
 unfold maxLen at hM
 refine enter [(0, .agg #[.slice A rows.length c])] Tryd.func59 rfl Tryd.ntmps59 rfl (.cons rfl .nil) ?_
 have hf := Fr.refl [] w0
 intro a h
 refine wp_seq ?_
 refine wR ?_
 refine st_box h rfl rfl rfl ?_; clear h a; intro w1 hb1 hq hz a h
 obtain ⟨g_1, hg⟩ : ∃ g, g = w0.heap.size := ⟨_, rfl⟩; rw [← hg] at hb1 h hz
 have hl1 : w0.heap.size ≤ g_1 := by have := hf.size; omega
 replace hf := hf.next hq
 clear hq hz hg
 refine st_assign h rfl rfl ?_; clear h a; intro a h
 refine st_assign h rfl rfl ?_; clear h a; intro a h
 replace h : Ag a 97 [(1, _)] := h.sub (.cons rfl .nil)
 refine wnt ?_
 refine wp_scope_straight ?_
 refine wp_seq ?_
 refine wp_seq ?_
 refine wR ?_
 refine st_fieldAddr h rfl fa45_0 rfl ?_; clear h a; intro a h
 refine st_loadB h rfl hb1 rfl na43 rfl ?_; clear h a; intro a h
 refine st_call h (evs_cons rfl evs_nil) co67 (checkrows_ok _ rows _ (hS.ext hf)) rfl ?_; clear h a; rintro _ w2 ⟨rfl, hq⟩ a h
 replace hf := hf.next hq
 replace hb1 := hb1.ext hq
 clear hq
 refine st_assign h rfl rfl ?_; clear h a; intro a h
 replace h : Ag a 97 [(1, _), (4, _)] := h.sub (.cons rfl (.cons rfl .nil))
 refine wnt ?_
 refine wp_seq ?_
 refine wR ?_
 refine st_move h rfl rfl ?_; clear h a; intro a h
 refine st_ne h rfl rfl rfl ?_; clear h a; intro a h
 replace h : Ag a 97 [(1, _), (4, _), (22, _)] := h.sub (.cons rfl (.cons rfl (.cons rfl .nil)))
 refine wnt ?_
 first | refine cond_dec h rfl (fun c0 => ?_) (fun c0 => ?_) | refine cond_ndec h rfl (fun c0 => ?_) (fun c0 => ?_) | refine cond_split h rfl (fun c0 => ?_) (fun c0 => ?_)
 ·have hE := c0
  refine wp_seq ?_
  refine wR ?_
  refine st_move h rfl rfl ?_; clear h a; intro a h
  refine st_assign h rfl rfl ?_; clear h a; intro a h
  refine st_assign h rfl rfl ?_; clear h a; intro a h
  replace h : Ag a 97 [(2, _), (3, _)] := h.sub (.cons rfl (.cons rfl .nil))
  refine wnt ?_
  refine wp_ret (ret_then (ret_sc ?_))
  refine ret2 h Tryd.results59 rfl rfl ?_
  exact ⟨_, rfl, _, by rw [chart_bad rfl hE], hf⟩
 ·have hE0 : rowsE rows = 0 := Decidable.not_not.1 c0
  obtain ⟨hl31, hl2, hz, hadj2⟩ := rows_of hE0
  obtain ⟨r0, hr0k⟩ : ∃ r, rows[0]? = some r := ⟨_, List.getElem?_eq_getElem (by omega)⟩
  have hr016 := row_ok_of (hz _ _ hr0k)
  obtain ⟨RA, rc, ad, hAd, cc, hr, hrc, hrm⟩ := hS.row hr0k
  unfold maxLen at hrm
  refine wsn ?_
  refine wp_seq ?_
  refine wR ?_
  refine st_fieldAddr h rfl fa45_0 rfl ?_; clear h a; intro a h
  refine st_loadB h rfl hb1 rfl na43 rfl ?_; clear h a; intro a h
  refine st_idxS (p := 0) h (by rw [hAd]; rfl) rfl el43 (by omega) (by omega) (by omega) rfl ?_; clear h a; intro a h
  refine st_loadC0 h rfl (cc.fr hf (by simp)) na22 rfl ?_; clear h a; intro a h
  refine st_call h (evs_cons rfl evs_nil) co68 (cneeds_ok _ r0 _ (hr.ext hf) (by omega)) rfl ?_; clear h a; rintro _ w3 ⟨rfl, hq⟩ a h
  replace hf := hf.next hq
  replace hb1 := hb1.ext hq
  clear hq
  obtain ⟨n0, hn0⟩ : ∃ n : Nat, (n : Int) = needsR r0 := ⟨(needsR r0).toNat, by omega⟩
  rw [← hn0] at h
  refine st_makeSlice (0 : Int) h rfl rfl el68 zv3 rfl (Nat.le_refl _) (by omega) (by unfold maxLen; omega) rfl ?_; clear h a; intro gF w4 hg hF hq hz a h
  have hgF : w0.heap.size ≤ gF := by have := hf.size; omega
  have hg1F : g_1 < gF := by have := hb1.lt; omega
  replace hf := hf.next hq
  replace hb1 := hb1.ext hq
  clear hq hz hg
  refine st_assign h rfl rfl ?_; clear h a; intro a h
  replace h : Ag a 97 [(1, _), (5, _)] := h.sub (.cons rfl (.cons rfl .nil))
  refine wnt ?_
  refine wp_seq ?_
  refine wp_seq ?_
  refine wR ?_
  refine st_move h rfl rfl ?_; clear h a; intro a h
  refine st_lenS h rfl Tryd.underlying68 rfl ?_; clear h a; intro a h
  refine st_move h rfl rfl ?_; clear h a; intro a h
  replace h : Ag a 97 [(1, _), (5, _), (31, _), (32, _)] := h.sub (.cons rfl (.cons rfl (.cons rfl (.cons rfl .nil))))
  refine wnt ?_
  refine wp_block ?_
  refine loop (ι := Nat) (fun j => [(1, .pointer (some ⟨g_1, 0, none⟩)), (5, .slice (some ⟨gF, 0, none⟩) n0 n0), (31, .int .i64 (n0 : Int)), (32, .int .i64 (j : Int))]) (fun j w' => j ≤ n0 ∧ Lw.Own Enc.i64 3 gF w' (.slice (some ⟨gF, 0, none⟩) n0 n0) (List.replicate j 1 ++ List.replicate (n0 - j) 0) ∧ Blk w' g_1 45 [.slice A rows.length c] ∧ Fr [] w0 w') (fun j => n0 - j) 0 (h.sub (.cons rfl (.cons rfl (.cons rfl (.cons rfl .nil))))) ⟨by omega, by simpa using hF, hb1, hf⟩ ?_
  clear h a hf hb1 hF
  rintro j w5 a h ⟨hj, hF, hb1, hf⟩
  refine wp_seq ?_
  refine wR ?_
  refine st_lt h rfl rfl rfl ?_; clear h a; intro a h
  refine wnt ?_
  refine wp_seq ?_
  first | refine cond_dec h rfl (fun c1 => ?_) (fun c1 => ?_) | refine cond_ndec h rfl (fun c1 => ?_) (fun c1 => ?_) | refine cond_split h rfl (fun c1 => ?_) (fun c1 => ?_)
  ·refine id ?_
   refine wsn ?_
   refine wp_seq ?_
   refine wp_block ?_
   refine wp_seq ?_
   refine wR ?_
   refine st_move h rfl rfl ?_; clear h a; intro a h
   refine st_assign h rfl rfl ?_; clear h a; intro a h
   replace h : Ag a 97 [(1, _), (5, _), (6, _), (31, _), (32, _)] := h.sub (.cons rfl (.cons rfl (.cons rfl (.cons rfl (.cons rfl .nil)))))
   refine wnt ?_
   refine wR ?_
   refine st_move h rfl rfl ?_; clear h a; intro a h
   refine st_move h rfl rfl ?_; clear h a; intro a h
   refine st_idxS (p := j) h rfl rfl el68 (by omega) (by omega) (by omega) rfl ?_; clear h a; intro a h
   refine st_storeO (i := j) (1 : Int) h rfl rfl hF (by simp; omega) rfl sz3 ?_; clear h a; intro w6 hO2 hq hz a h
   replace hb1 := hb1.fr hq (by simp; omega)
   replace hf := hf.step hq (by simp; omega)
   clear hF hq hz; have hF := hO2; clear hO2
   rw [set_one j _ (by omega)] at hF
   replace h : Ag a 97 [(1, _), (5, _), (31, _), (32, _)] := h.sub (.cons rfl (.cons rfl (.cons rfl (.cons rfl .nil))))
   refine wpList_nil (norm_blk (norm_then ?_))
   refine wR ?_
   refine st_add h rfl rfl (by first | exact IntWalk.i64_in _ (by omega) | rfl) rfl ?_; clear h a; intro a h
   refine st_move h rfl rfl ?_; clear h a; intro a h
   replace h : Ag a 97 [(1, _), (5, _), (31, _), (32, _)] := h.sub (.cons rfl (.cons rfl (.cons rfl (.cons rfl .nil))))
   refine wnt ?_
   exact ⟨j + 1, h.sub (.cons rfl (.cons rfl (.cons rfl (.cons rfl .nil)))), ⟨by omega, hF, hb1, hf⟩, by omega⟩
  ·obtain rfl : n0 = j := by omega
   rw [Nat.sub_self, List.replicate_zero, List.append_nil] at hF
   refine wp_exit (exit_then (exit_then (exit_here (norm_then ?_))))
   refine wp_seq ?_
   refine wR ?_
   refine st_fieldAddr h rfl fa45_0 rfl ?_; clear h a; intro a h
   refine st_loadB h rfl hb1 rfl na43 rfl ?_; clear h a; intro a h
   refine st_lenS h rfl Tryd.underlying43 rfl ?_; clear h a; intro a h
   refine st_add h rfl rfl (by first | exact IntWalk.i64_in _ (by omega) | rfl) rfl ?_; clear h a; intro a h
   rw [show (1 : Int) + (rows.length : Int) = ((1 + rows.length : Nat) : Int) by omega] at h
   refine st_makeSlice (m := 1) (c := 1 + rows.length) ((none, 0, 0) : SV) h rfl rfl el51 zv68 rfl (by omega) (by omega) (by unfold maxLen; omega) rfl ?_; clear h a; intro gL w7 hg hL hq hz a h
   have hgL : w0.heap.size ≤ gL := by have := hf.size; omega
   have hgFL : gF < gL := by have := (hF.blk gF (by simp [blks])).2; omega
   replace hf := hf.next hq
   replace hb1 := hb1.ext hq
   replace hF := hF.ext hq
   clear hq hz hg
   refine st_assign h rfl rfl ?_; clear h a; intro a h
   replace h : Ag a 97 [(1, _), (5, _), (7, _)] := h.sub (.cons rfl (.cons rfl (.cons rfl .nil)))
   refine wnt ?_
   refine wp_seq ?_
   refine wR ?_
   refine st_move h rfl rfl ?_; clear h a; intro a h
   refine st_move h rfl rfl ?_; clear h a; intro a h
   refine st_idxS (p := 0) h rfl rfl el51 (by omega) (by omega) (by omega) rfl ?_; clear h a; intro a h
   refine st_storeO (i := 0) ((some ⟨gF, 0, none⟩, n0, n0) : SV) h rfl rfl hL (by simp) rfl sz68 ?_; clear h a; intro w8 hO2 hq hz a h
   replace hF := hF.fr hq (by simp [blks]; omega)
   replace hb1 := hb1.fr hq (by simp; omega)
   replace hf := hf.step hq (by simp; omega)
   have hR : Rws Enc.i64 68 3 (g_1 + 1) w8 _ ([] ++ [((some ⟨gF, 0, none⟩, n0, n0), List.replicate n0 1)]) := rws_one (hO2.low (by omega)) (hF.low (by omega)) (by simp [slv, blks]; omega)
   clear hL hF hq hz hO2
   replace h : Ag a 97 [(1, _), (7, _)] := h.sub (.cons rfl (.cons rfl .nil))
   refine wnt ?_
   refine wp_seq ?_
   refine wR ?_
   refine st_assign h rfl rfl ?_; clear h a; intro a h
   refine wnt ?_
   refine wp_seq ?_
   refine wp_label (norm_then ?_)
   refine seq_cut (Cut (ι := Value) 97 (fun V => [(7, V), (8, .int .i64 (chartE rows))]) (fun V w' => Fr [] w0 w')) ?_ ?_
   ·refine id ?_
    refine wp_seq ?_
    refine wR ?_
    refine st_fieldAddr h rfl fa45_0 rfl ?_; clear h a; intro a h
    refine st_loadB h rfl hb1 rfl na43 rfl ?_; clear h a; intro a h
    refine st_lenS h rfl Tryd.underlying43 rfl ?_; clear h a; intro a h
    refine st_move h rfl rfl ?_; clear h a; intro a h
    replace h : Ag a 97 [(7, _), (8, _), (48, _), (49, _), (50, _)] := h.sub (.cons rfl (.cons rfl (.cons rfl (.cons rfl (.cons rfl .nil)))))
    refine wnt ?_
    refine wp_block ?_
    refine loop (ι := LdSt) (fun z => [(7, z.OV), (8, .int .i64 0), (48, .slice A rows.length c), (49, .int .i64 (rows.length : Int)), (50, .int .i64 (z.i : Int))]) (fun z w' => z.i ≤ rows.length ∧ (∀ r, rows[z.i]? = some r → (z.ls.length : Int) = needsR r) ∧ runRows (rows.drop z.i) z.ls = chartE rows ∧ Rws Enc.i64 68 3 (g_1 + 1) w' z.OV (z.ps ++ [(z.u, z.ls)]) ∧ z.ps.length = z.i ∧ g_1 < w'.heap.size ∧ Fr [] w0 w') (fun z => rows.length - z.i) ⟨0, _, [], (some ⟨gF, 0, none⟩, n0, n0), List.replicate n0 1⟩ (h.sub (.cons rfl (.cons rfl (.cons rfl (.cons rfl (.cons rfl .nil)))))) ⟨Nat.zero_le _, fun r hr => by rw [hr0k] at hr; cases hr; simpa using hn0, by rw [chart_run hE0, startL, List.getD, hr0k, List.drop_zero]; show runRows rows (List.replicate n0 1) = runRows rows (List.replicate (needsR r0).toNat 1); rw [show (needsR r0).toNat = n0 by omega], hR, rfl, by have := (hR.out.blk gL (by simp [blks])).2; omega, hf⟩ ?_
    clear h a hf hR hb1
    rintro ⟨i, OV, ps, u, ls⟩ w9 a h ⟨hi, hln, hrs, hR, hpl, hgz, hf⟩
    simp only at hi hln hrs hR hpl h
    obtain ⟨uA, un, uc⟩ := u
    obtain ⟨e1, e2⟩ := Own.lens (hR.ins _ (show ((uA, un, uc), ls) ∈ ps ++ [((uA, un, uc), ls)] by simp))
    simp only at e1 e2
    subst e1
    refine wp_seq ?_
    refine wR ?_
    refine st_lt h rfl rfl rfl ?_; clear h a; intro a h
    refine wnt ?_
    refine wp_seq ?_
    first | refine cond_dec h rfl (fun c2 => ?_) (fun c2 => ?_) | refine cond_ndec h rfl (fun c2 => ?_) (fun c2 => ?_) | refine cond_split h rfl (fun c2 => ?_) (fun c2 => ?_)
    ·obtain ⟨r, hrk⟩ : ∃ r, rows[i]? = some r := ⟨_, List.getElem?_eq_getElem (by omega)⟩
     have hr16 := row_ok_of (hz _ _ hrk)
     have hls := hln r hrk
     obtain ⟨RA, rc, ad, hAd, cc, hr, hrc, hrm⟩ := hS.row hrk
     unfold maxLen at hrm
     refine wsn ?_
     refine wp_seq ?_
     refine wp_block ?_
     refine wp_seq ?_
     refine wR ?_
     refine st_move h rfl rfl ?_; clear h a; intro a h
     refine st_idxS (p := i) h (by rw [hAd]; rfl) rfl el43 (by omega) (by omega) (by omega) rfl ?_; clear h a; intro a h
     refine st_loadC0 h rfl (cc.fr hf (by simp)) na22 rfl ?_; clear h a; intro a h
     refine st_assign h rfl rfl ?_; clear h a; intro a h
     refine st_assign h rfl rfl ?_; clear h a; intro a h
     replace h : Ag a 97 [(7, _), (8, _), (9, _), (10, _), (48, _), (49, _), (50, _)] := h.sub (.cons rfl (.cons rfl (.cons rfl (.cons rfl (.cons rfl (.cons rfl (.cons rfl .nil)))))))
     refine wnt ?_
     refine wp_seq ?_
     refine wR ?_
     refine st_move h rfl rfl ?_; clear h a; intro a h
     refine st_move h rfl rfl ?_; clear h a; intro a h
     refine st_idx (p := i) h rfl rfl hR.out.sl el51 (by omega) (by omega) (top_get hpl.symm) rfl ?_; clear h a; intro la lc a h
     refine st_loadC0 (v := .slice uA ls.length uc) h rfl lc na68 rfl ?_; clear h a; intro a h
     refine st_assign h rfl rfl ?_; clear h a; intro a h
     replace h : Ag a 97 [(7, _), (8, _), (10, _), (11, _), (48, _), (49, _), (50, _)] := h.sub (.cons rfl (.cons rfl (.cons rfl (.cons rfl (.cons rfl (.cons rfl (.cons rfl .nil)))))))
     refine wnt ?_
     refine wp_seq ?_
     refine wR ?_
     refine st_move h rfl rfl ?_; clear h a; intro a h
     refine st_call h (evs_cons rfl evs_nil) co69 (cmakes_ok _ r _ (hr.ext hf) (by omega)) rfl ?_; clear h a; rintro _ w10 ⟨rfl, hq⟩ a h
     replace hf := hf.next hq
     replace hR := hR.ext hq
     replace hgz := Nat.lt_of_lt_of_le hgz hq.size
     clear hq
     obtain ⟨m0, hm0⟩ : ∃ n : Nat, (n : Int) = makesR r := ⟨(makesR r).toNat, by omega⟩
     rw [← hm0] at h
     have hOb := hR.out.blk
     have hub := (hR.ins _ (show ((uA, ls.length, uc), ls) ∈ ps ++ [((uA, ls.length, uc), ls)] by simp)).blk
     refine st_makeSlice (m := 0) (c := m0) (0 : Int) h rfl rfl el68 zv3 rfl (by omega) (by omega) (by unfold maxLen; omega) rfl ?_; clear h a; intro gI w11 hg hX hq hz a h
     have hgI : w0.heap.size ≤ gI := by have := hf.size; omega
     have hOI : ∀ k ∈ blks OV, k < gI := fun k hk => by have := (hOb k hk).2; omega
     have hBI : ∀ k ∈ blks (slv (uA, ls.length, uc)), k < gI := fun k hk => by have := (hub k hk).2; omega
     have hg1I : g_1 + 1 ≤ gI := by omega
     have hRA : RAll gI OV (ps ++ [((uA, ls.length, uc), ls)]) := by rw [hg]; exact hR.bnd
     replace hf := hf.next hq
     replace hR := hR.ext hq
     replace hgz := Nat.lt_of_lt_of_le hgz hq.size
     have hgs : gI ≤ w11.heap.size := by omega
     have hB : Sl Enc.i64 w11 (.slice uA ls.length uc) ls := (hR.ins _ (show ((uA, ls.length, uc), ls) ∈ ps ++ [((uA, ls.length, uc), ls)] by simp)).sl
     clear hq hz hg hOb hub
     refine st_assign h rfl rfl ?_; clear h a; intro a h
     replace h : Ag a 97 [(7, _), (8, _), (10, _), (11, _), (12, _), (48, _), (49, _), (50, _)] := h.sub (.cons rfl (.cons rfl (.cons rfl (.cons rfl (.cons rfl (.cons rfl (.cons rfl (.cons rfl .nil))))))))
     refine wnt ?_
     refine wp_seq ?_
     refine wp_seq ?_
     refine wR ?_
     refine st_move h rfl rfl ?_; clear h a; intro a h
     refine st_lenS h rfl Tryd.underlying22 rfl ?_; clear h a; intro a h
     refine st_move h rfl rfl ?_; clear h a; intro a h
     replace h : Ag a 97 [(7, _), (8, _), (11, _), (12, _), (48, _), (49, _), (50, _), (62, _), (63, _), (64, _)] := h.sub (.cons rfl (.cons rfl (.cons rfl (.cons rfl (.cons rfl (.cons rfl (.cons rfl (.cons rfl (.cons rfl (.cons rfl .nil))))))))))
     refine wnt ?_
     refine wp_block ?_
     refine loop (ι := LeSt) (fun z => [(7, OV), (8, .int .i64 0), (11, z.B), (12, z.X), (48, .slice A rows.length c), (49, .int .i64 (rows.length : Int)), (50, .int .i64 (i : Int)), (62, .slice RA r.length rc), (63, .int .i64 (r.length : Int)), (64, .int .i64 (z.k : Int))]) (fun z w' => z.k ≤ r.length ∧ z.at_ ≤ ls.length ∧ ((ls.drop z.at_).length : Int) = needsR (r.drop z.k) ∧ runRow (r.drop z.k) (ls.drop z.at_) z.acc = runRow r ls [] ∧ z.acc.length ≤ 4 * z.k ∧ Lw.Own Enc.i64 3 gI w' z.X z.acc ∧ Sl Enc.i64 w' z.B (ls.drop z.at_) ∧ (∀ k ∈ blks z.B, k < gI) ∧ Rws Enc.i64 68 3 (g_1 + 1) w' OV (ps ++ [((uA, ls.length, uc), ls)]) ∧ gI ≤ w'.heap.size ∧ Fr [] w0 w') (fun z => r.length - z.k) ⟨0, 0, [], _, _⟩ (h.sub (.cons rfl (.cons rfl (.cons rfl (.cons rfl (.cons rfl (.cons rfl (.cons rfl (.cons rfl (.cons rfl (.cons rfl .nil))))))))))) ⟨Nat.zero_le _, Nat.zero_le _, by simpa using hln r hrk, rfl, Nat.le_refl _, hX, hB, hBI, hR, hgs, hf⟩ ?_
     clear h a hf hX hB hBI hR hgs
     rintro ⟨k, at_, acc, X, B⟩ w12 a h ⟨hk, hat, hdl, hrr, hal, hX, hB, hBI, hR, hgs, hf⟩
     simp only at hk hat hdl hrr hal hX hB hBI h
     obtain ⟨BA, bc, rfl, hbc⟩ := hB.form
     obtain ⟨-, -, hbM, -⟩ := Sl.open_ hB
     unfold maxLen at hbM
     refine wp_seq ?_
     refine wR ?_
     refine st_lt h rfl rfl rfl ?_; clear h a; intro a h
     refine wnt ?_
     refine wp_seq ?_
     first | refine cond_dec h rfl (fun c3 => ?_) (fun c3 => ?_) | refine cond_ndec h rfl (fun c3 => ?_) (fun c3 => ?_) | refine cond_split h rfl (fun c3 => ?_) (fun c3 => ?_)
     ·obtain ⟨s, hsk⟩ : ∃ s, r[k]? = some s := ⟨_, List.getElem?_eq_getElem (by omega)⟩
      obtain ⟨-, -, -, hE⟩ := Sl.open_ hr
      obtain ⟨sa, hsa, csx⟩ := hE k s hsk
      have hnd := needs_drop hsk
      have hnp := needs_pos (r.drop (k + 1))
      have hnr := needs_rng s
      have hdl2 : ((ls.length - at_ : Nat) : Int) = needsR (r.drop k) := by rw [← hdl, List.length_drop]
      refine wsn ?_
      refine wp_seq ?_
      refine wp_block ?_
      refine wp_seq ?_
      refine wR ?_
      refine st_idxS (p := k) h (by rw [hsa]; rfl) rfl el22 (by omega) (by omega) (by omega) rfl ?_; clear h a; intro a h
      refine st_loadA h rfl (csx.fr hf (by simp)) ag36 rfl ?_; clear h a; intro a h
      refine st_alloc h zv36 rfl rfl ?_; clear h a; intro w13 hb14 hq hz a h
      obtain ⟨g_14, hg⟩ : ∃ g, g = w12.heap.size := ⟨_, rfl⟩; rw [← hg] at hb14 h hz
      have hl14 : w0.heap.size ≤ g_14 := by have := hf.size; omega
      have hlt_hX_14 : ∀ k ∈ blks X, k < g_14 := fun k hk => by have := (hX.blk k hk).2; omega
      have hl_hgs_14 : gI ≤ g_14 := by omega
      replace hf := hf.next hq
      replace hX := hX.ext hq
      replace hB := hB.ext hq
      replace hR := hR.up hq hRA (by first | (simp; done) | (simp; omega))
      replace hgs := Nat.le_trans hgs hq.size
      clear hq hz hg
      refine st_storeBA h rfl rfl hb14 rfl (by first | (simp [Value.oneCell', S]; done) | exact Enc.one _ _) sz36 ?_; clear h a; intro w14 hbn hq hz a h
      replace hf := hf.step hq (by first | (simp; done) | (simp; omega))
      replace hX := hX.fr hq (by intro k hk hb; simp at hk; subst hk; exact absurd (hlt_hX_14 _ hb) (by omega))
      replace hB := hB.fr hq (by intro k hk hb; simp at hk; have := hBI k hb; omega)
      replace hR := hR.up hq hRA (by first | (simp; done) | (simp; omega))
      replace hgs := Nat.le_trans hgs hq.size
      clear hb14 hq hz; have hb14 : Blk w14 g_14 _ [_, _, _, _, _] := hbn; clear hbn
      replace h : Ag a 97 [(7, _), (8, _), (11, _), (12, _), (14, _), (48, _), (49, _), (50, _), (62, _), (63, _), (64, _)] := h.sub (.cons rfl (.cons rfl (.cons rfl (.cons rfl (.cons rfl (.cons rfl (.cons rfl (.cons rfl (.cons rfl (.cons rfl (.cons rfl .nil)))))))))))
      refine wnt ?_
      refine wp_seq ?_
      refine wR ?_
      refine st_loadBA h rfl hb14 ag36 rfl ?_; clear h a; intro a h
      refine st_call h (evs_cons rfl evs_nil) co70 (needs_ok s _) rfl ?_; clear h a; rintro _ w15 ⟨rfl, hq⟩ a h
      replace hf := hf.next hq
      replace hX := hX.ext hq
      replace hB := hB.ext hq
      replace hR := hR.up hq hRA (by first | (simp; done) | (simp; omega))
      replace hgs := Nat.le_trans hgs hq.size
      replace hb14 := hb14.ext hq
      clear hq
      refine st_assign h rfl rfl ?_; clear h a; intro a h
      replace h : Ag a 97 [(7, _), (8, _), (11, _), (12, _), (14, _), (15, _), (48, _), (49, _), (50, _), (62, _), (63, _), (64, _)] := h.sub (.cons rfl (.cons rfl (.cons rfl (.cons rfl (.cons rfl (.cons rfl (.cons rfl (.cons rfl (.cons rfl (.cons rfl (.cons rfl (.cons rfl .nil))))))))))))
      refine wnt ?_
      refine wp_seq ?_
      refine region_held (fun wb w' => Fr [] wb w') hmix ?_; intro w16 hq
      replace hf := hf.next hq
      replace hX := hX.ext hq
      replace hB := hB.ext hq
      replace hR := hR.up hq hRA (by first | (simp; done) | (simp; omega))
      replace hgs := Nat.le_trans hgs hq.size
      replace hb14 := hb14.ext hq
      clear hq; have hC : Fr [] w16 w16 := Fr.refl _ _
      have hX_b := hX
      have hB_b := hB
      have hb14_b := hb14
      refine hd_loadBA 0 (by kernel_rfl) (by kernel_rfl) (by kernel_rfl) hC h wn rfl (fun _ hw => hb14_b.ext hw) ag36 rfl rfl ?_; clear h a; intro a h
      refine hd_move 1 (by kernel_rfl) (by kernel_rfl) (by kernel_rfl) hC h wn rfl rfl rfl ?_; clear h a; intro a h
      refine hd_move 2 (by kernel_rfl) (by kernel_rfl) (by kernel_rfl) hC h wn rfl rfl rfl ?_; clear h a; intro a h
      refine hd_sl_h 3 (by kernel_rfl) (by kernel_rfl) (by kernel_rfl) hC (p := (needsS s).toNat) h wn rfl rfl el68 (by omega) (by omega) rfl rfl rfl ?_; clear h a; intro a h
      refine hd_one 4 (by kernel_rfl) rfl ?_
      have hpt := hB.take rfl (m := (needsS s).toNat) (by omega) (B := BA) (c' := bc) (by omega) (by unfold maxLen; omega) (fun _ => rfl)
      refine st_call h (evs_cons rfl (evs_cons rfl evs_nil)) co71 (loads_ok s _ _ _ hpt) rfl ?_; clear h a; rintro _ w17 ⟨rv, rfl, hrv, hq⟩ a h
      replace hf := hf.next hq
      replace hX := hX.ext hq
      replace hB := hB.ext hq
      replace hR := hR.up hq hRA (by first | (simp; done) | (simp; omega))
      replace hgs := Nat.le_trans hgs hq.size
      replace hb14 := hb14.ext hq
      replace hC := hC.next hq
      clear hq hpt
      refine hd_next hC ?_
      refine hd_move 5 (by kernel_rfl) (by kernel_rfl) (by kernel_rfl) hC h wn rfl rfl rfl ?_; clear h a; intro a h
      refine hd_extract 6 (by kernel_rfl) (by kernel_rfl) (by kernel_rfl) hC h wn rfl rfl rfl rfl ?_; clear h a; intro a h
      refine hd_extract 7 (by kernel_rfl) (by kernel_rfl) (by kernel_rfl) hC h wn rfl rfl rfl rfl ?_; clear h a; intro a h
      refine hd_one 8 (by kernel_rfl) rfl ?_
      refine st_assign h rfl rfl ?_; clear h a; intro a h
      refine hd_next hC ?_
      refine hd_one 9 (by kernel_rfl) rfl ?_
      refine st_assign h rfl rfl ?_; clear h a; intro a h
      refine hd_next hC ?_
      refine hd_end (by kernel_rfl) ?_
      clear hC hX_b hB_b hb14_b
      replace h : Ag a 97 [(7, _), (8, _), (11, _), (12, _), (15, _), (16, _), (17, _), (48, _), (49, _), (50, _), (62, _), (63, _), (64, _)] := h.sub (.cons rfl (.cons rfl (.cons rfl (.cons rfl (.cons rfl (.cons rfl (.cons rfl (.cons rfl (.cons rfl (.cons rfl (.cons rfl (.cons rfl (.cons rfl .nil)))))))))))))
      refine (norm_then ?_)
      refine wp_seq ?_
      refine wp_seq ?_
      refine wR ?_
      refine st_move h rfl rfl ?_; clear h a; intro a h
      refine st_ne h rfl rfl rfl ?_; clear h a; intro a h
      replace h : Ag a 97 [(7, _), (8, _), (11, _), (12, _), (15, _), (16, _), (17, _), (48, _), (49, _), (50, _), (62, _), (63, _), (64, _), (79, _)] := h.sub (.cons rfl (.cons rfl (.cons rfl (.cons rfl (.cons rfl (.cons rfl (.cons rfl (.cons rfl (.cons rfl (.cons rfl (.cons rfl (.cons rfl (.cons rfl (.cons rfl .nil))))))))))))))
      refine wnt ?_
      first | refine cond_dec h rfl (fun c4 => ?_) (fun c4 => ?_) | refine cond_ndec h rfl (fun c4 => ?_) (fun c4 => ?_) | refine cond_split h rfl (fun c4 => ?_) (fun c4 => ?_)
      ·have hbad := rs_bad hrs hrk (by rw [rr_bad hrr hsk c4]; exact c4)
       rw [rr_bad hrr hsk c4] at hbad
       refine wp_seq ?_
       refine wR ?_
       refine st_move h rfl rfl ?_; clear h a; intro a h
       refine st_assign h rfl rfl ?_; clear h a; intro a h
       replace h : Ag a 97 [(7, _), (8, _)] := h.sub (.cons rfl (.cons rfl .nil))
       refine wnt ?_
       refine wp_exit (exit_then (exit_out rfl (exit_then (exit_then (exit_out rfl (exit_then (exit_out rfl (exit_then (exit_then (exit_here (norm_then ?_)))))))))))
       exact ⟨_, h.sub (.cons rfl (.cons (by first | (rw [hend]; rfl) | (rw [hbad]; rfl)) .nil)), hf⟩
      ·clear hb14
       have h0' : ¬ (loadsS s ((ls.drop at_).take (needsS s).toNat)).2 ≠ 0 := c4
       have hll := loads_len s ((ls.drop at_).take (needsS s).toNat)
       refine wsn ?_
       refine wp_seq ?_
       refine wR ?_
       refine st_move h rfl rfl ?_; clear h a; intro a h
       refine st_move h rfl rfl ?_; clear h a; intro a h
       refine st_sl_l (p := (needsS s).toNat) h rfl rfl el68 (by omega) (by omega) rfl rfl ?_; clear h a; intro a h
       replace hB := hB.drop rfl (m := (needsS s).toNat) (by omega) (B := if bc = (needsS s).toNat then BA else BA.map (·.add ((needsS s).toNat * Enc.i64.sz))) (c' := bc - (needsS s).toNat) (by omega) (by unfold maxLen; omega) (fun hlt => by rw [if_neg (by omega)])
       rw [List.drop_drop] at hB
       replace hBI : ∀ k ∈ blks (.slice (if bc = (needsS s).toNat then BA else BA.map (·.add ((needsS s).toNat * Enc.i64.sz))) ((ls.drop at_).length - (needsS s).toNat) (bc - (needsS s).toNat)), k < gI := by
        intro k hk; split at hk; exact hBI k (by rw [blks_any BA _ _ ((ls.drop at_).length - (needsS s).toNat) (bc - (needsS s).toNat)]; exact hk); exact hBI k (by rw [← blks_add BA ((needsS s).toNat * Enc.i64.sz) ((ls.drop at_).length - (needsS s).toNat) (bc - (needsS s).toNat)]; exact hk)
       refine st_assign h rfl rfl ?_; clear h a; intro a h
       replace h : Ag a 97 [(7, _), (8, _), (11, _), (12, _), (16, _), (48, _), (49, _), (50, _), (62, _), (63, _), (64, _)] := h.sub (.cons rfl (.cons rfl (.cons rfl (.cons rfl (.cons rfl (.cons rfl (.cons rfl (.cons rfl (.cons rfl (.cons rfl (.cons rfl .nil)))))))))))
       refine wnt ?_
       refine wR ?_
       refine st_move h rfl rfl ?_; clear h a; intro a h
       refine st_move h rfl rfl ?_; clear h a; intro a h
       have hbO := hX.blk
       refine st_append h rfl rfl hX hrv.sl el68 (by unfold maxLen; omega) (by omega) (by omega) rfl ?_; clear h a; intro X3 w18 ho3 hq hx3 a h
       replace hB := hB.fr hq (fun k hk hb => by have := (hbO k hk).1; have := hBI k hb; omega)
       replace hR := hR.up hq hRA (fun k hk => (hbO k hk).1)
       replace hf := hf.step hq (fun k hk hlt => absurd (hbO k hk).1 (by omega))
       replace hgs := Nat.le_trans hgs hq.size
       clear hrv
       clear hX hq hx3 hbO; have hX := ho3; clear ho3
       refine st_assign h rfl rfl ?_; clear h a; intro a h
       replace h : Ag a 97 [(7, _), (8, _), (11, _), (12, _), (48, _), (49, _), (50, _), (62, _), (63, _), (64, _)] := h.sub (.cons rfl (.cons rfl (.cons rfl (.cons rfl (.cons rfl (.cons rfl (.cons rfl (.cons rfl (.cons rfl (.cons rfl .nil))))))))))
       refine wpList_nil (norm_blk (norm_then ?_))
       refine wR ?_
       refine st_add h rfl rfl (by first | exact IntWalk.i64_in _ (by omega) | rfl) rfl ?_; clear h a; intro a h
       refine st_move h rfl rfl ?_; clear h a; intro a h
       replace h : Ag a 97 [(7, _), (8, _), (11, _), (12, _), (48, _), (49, _), (50, _), (62, _), (63, _), (64, _)] := h.sub (.cons rfl (.cons rfl (.cons rfl (.cons rfl (.cons rfl (.cons rfl (.cons rfl (.cons rfl (.cons rfl (.cons rfl .nil))))))))))
       refine wnt ?_
       exact ⟨⟨k + 1, at_ + (needsS s).toNat, acc ++ (loadsS s ((ls.drop at_).take (needsS s).toNat)).1, _, _⟩, h.sub (.cons rfl (.cons rfl (.cons (by rw [List.length_drop]; rfl) (.cons rfl (.cons rfl (.cons rfl (.cons rfl (.cons rfl (.cons rfl (.cons rfl .nil)))))))))), ⟨by simp only; omega, by simp only; omega, by simp only [List.length_drop] at hdl ⊢; omega, rr_next hrr hsk h0', by simp only [List.length_append]; omega, hX, hB, hBI, hR, hgs, hf⟩, by simp only; omega⟩
     ·obtain rfl : k = r.length := by omega
      have hrow := rr_end hrr
      have hrsn := rs_next hrs hrk hrow
      have hal2 := run_next_len hrow
      have hlnn : ∀ q, rows[i + 1]? = some q → (acc.length : Int) = needsR q := fun q hq => by rw [hadj2 i r q hrk hq]; exact hal2
      obtain ⟨XA, xc, rfl, hxc⟩ := hX.sl.form
      refine wp_exit (exit_then (exit_then (exit_here (norm_then ?_))))
      refine wR ?_
      refine st_move h rfl rfl ?_; clear h a; intro a h
      refine st_move h rfl rfl ?_; clear h a; intro a h
      refine st_bslice [((XA, acc.length, xc) : SV)] h (evs_cons rfl evs_nil) rfl rfl rfl el51 (by decide) rfl ?_; clear h a; intro gV w19 hg hoV hq hz a h
      replace hf := hf.next hq
      replace hX := hX.ext hq
      replace hB := hB.ext hq
      replace hR := hR.up hq hRA (by first | (simp; done) | (simp; omega))
      replace hgs := Nat.le_trans hgs hq.size
      clear hq hz hg
      have hbO := hR.out.blk
      refine st_append h rfl rfl hR.out hoV.sl el51 (by unfold maxLen; simp; omega) (by simp; omega) (by omega) rfl ?_; clear h a; intro O3 w20 ho3 hq hx3 a h
      replace hR := hR.push (u := (XA, acc.length, xc)) (hX.low (by omega)) (fun k hk hk2 => by have := (hX.blk k hk).1; have := hOI k hk2; omega) ho3 hq hx3
      replace hf := hf.step hq (fun k hk hlt => absurd (hbO k hk).1 (by omega))
      replace hgs := Nat.le_trans hgs hq.size
      clear hq hx3 hoV hbO ho3 hX
      refine st_assign h rfl rfl ?_; clear h a; intro a h
      replace h : Ag a 97 [(7, _), (8, _), (48, _), (49, _), (50, _)] := h.sub (.cons rfl (.cons rfl (.cons rfl (.cons rfl (.cons rfl .nil)))))
      refine wpList_nil (norm_blk (norm_then ?_))
      refine wR ?_
      refine st_add h rfl rfl (by first | exact IntWalk.i64_in _ (by omega) | rfl) rfl ?_; clear h a; intro a h
      refine st_move h rfl rfl ?_; clear h a; intro a h
      replace h : Ag a 97 [(7, _), (8, _), (48, _), (49, _), (50, _)] := h.sub (.cons rfl (.cons rfl (.cons rfl (.cons rfl (.cons rfl .nil)))))
      refine wnt ?_
      exact ⟨⟨i + 1, O3, ps ++ [((uA, ls.length, uc), ls)], (XA, acc.length, xc), acc⟩, h.sub (.cons rfl (.cons rfl (.cons rfl (.cons rfl (.cons rfl .nil))))), ⟨by simp only; omega, hlnn, hrsn, hR, by simp [hpl], by omega, hf⟩, by simp only; omega⟩
    ·obtain rfl : i = rows.length := by omega
     have hend := rs_end hrs
     refine wp_exit (exit_then (exit_then (exit_here (norm_then ?_))))
     exact ⟨_, h.sub (.cons rfl (.cons (by first | (rw [hend]; rfl) | (rw [hbad]; rfl)) .nil)), hf⟩
   ·clear h a hf
    rintro a w21 ⟨V, h, hf⟩
    refine wp_seq ?_
    refine wp_seq ?_
    refine wR ?_
    refine st_move h rfl rfl ?_; clear h a; intro a h
    refine st_ne h rfl rfl rfl ?_; clear h a; intro a h
    replace h : Ag a 97 [(7, _), (8, _), (94, _)] := h.sub (.cons rfl (.cons rfl (.cons rfl .nil)))
    refine wnt ?_
    first | refine cond_dec h rfl (fun c5 => ?_) (fun c5 => ?_) | refine cond_ndec h rfl (fun c5 => ?_) (fun c5 => ?_) | refine cond_split h rfl (fun c5 => ?_) (fun c5 => ?_)
    ·refine id ?_
     refine wp_seq ?_
     refine wR ?_
     refine st_move h rfl rfl ?_; clear h a; intro a h
     refine st_assign h rfl rfl ?_; clear h a; intro a h
     refine st_assign h rfl rfl ?_; clear h a; intro a h
     replace h : Ag a 97 [(2, _), (3, _)] := h.sub (.cons rfl (.cons rfl .nil))
     refine wnt ?_
     refine wp_ret (ret_then (ret_sc ?_))
     refine ret2 h Tryd.results59 rfl rfl ?_
     exact ⟨_, rfl, _, rfl, hf⟩
    ·refine id ?_
     refine wsn ?_
     refine wp_seq ?_
     refine wR ?_
     refine st_move h rfl rfl ?_; clear h a; intro a h
     refine st_assign h rfl rfl ?_; clear h a; intro a h
     refine st_assign h rfl rfl ?_; clear h a; intro a h
     replace h : Ag a 97 [(2, _), (3, _)] := h.sub (.cons rfl (.cons rfl .nil))
     refine wnt ?_
     refine wp_ret (ret_sc ?_)
     refine ret2 h Tryd.results59 rfl rfl ?_
     exact ⟨_, rfl, _, by rw [show chartE rows = 0 from Decidable.not_not.1 c5], hf⟩
theorem check_chart_ok (u : Value) (rows : List (List Stitch)) (w0 : World) (hS : Sll encSt w0 u rows) : Rets Tryd.prog 38 #[.agg #[u]] w0 fun v w' => v = .int .i64 (chartE rows) ∧ Fr [] w0 w' := by
 obtain ⟨A, c, rfl, hcp, hM⟩ := hS.form
 unfold maxLen at hM
 refine enter [(0, .agg #[.slice A rows.length c])] Tryd.func38 rfl Tryd.ntmps38 rfl (.cons rfl .nil) ?_
 have hf := Fr.refl [] w0
 intro a h
 refine wp_seq ?_
 refine wR ?_
 refine st_box h rfl rfl rfl ?_; clear h a; intro w1 hb1 hq hz a h
 obtain ⟨g_1, hg⟩ : ∃ g, g = w0.heap.size := ⟨_, rfl⟩; rw [← hg] at hb1 h hz
 have hl1 : w0.heap.size ≤ g_1 := by have := hf.size; omega
 replace hf := hf.next hq
 clear hq hz hg
 refine st_assign h rfl rfl ?_; clear h a; intro a h
 replace h : Ag a 11 [(1, _)] := h.sub (.cons rfl .nil)
 refine wnt ?_
 refine wp_seq ?_
 refine wR ?_
 refine st_loadBA h rfl hb1 ag45 rfl ?_; clear h a; intro a h
 refine st_call h (evs_cons rfl evs_nil) co59 (chart_ok _ rows _ (hS.ext hf)) rfl ?_; clear h a; rintro _ w2 ⟨X, rfl, hq⟩ a h
 replace hf := hf.next hq
 replace hb1 := hb1.ext hq
 clear hq
 refine st_move h rfl rfl ?_; clear h a; intro a h
 refine st_extract h rfl rfl rfl ?_; clear h a; intro a h
 refine st_extract h rfl rfl rfl ?_; clear h a; intro a h
 refine st_assign h rfl rfl ?_; clear h a; intro a h
 refine st_assign h rfl rfl ?_; clear h a; intro a h
 replace h : Ag a 11 [(4, _)] := h.sub (.cons rfl .nil)
 refine wnt ?_
 refine wp_seq ?_
 refine wR ?_
 refine st_move h rfl rfl ?_; clear h a; intro a h
 refine st_assign h rfl rfl ?_; clear h a; intro a h
 replace h : Ag a 11 [(2, _)] := h.sub (.cons rfl .nil)
 refine wnt ?_
 refine wp_ret ?_
 refine ret1 h Tryd.results38 rfl ?_
 exact ⟨_, rfl, rfl, hf⟩
end Go.Proofs.YtbbnampdgefljaaDoor
namespace Go.G14
open Go.Lw

/-- A word of digits alone is counted as it is read. -/
theorem num_countM {m : Int} (hm : m < 100) {r W : List UInt8} (hW : r.takeWhile isDig = W) : numberS W m = (countS r m).1 ∧ ((countS r m).2 ≠ 0 → (countS r m).2 = W.length ∧ (countS r m).1 ≠ 0) ∧ ((countS r m).2 = 0 → (countS r m).1 = 0) := by
  have ha : W.all isDig = true := by rw [← hW]; exact all_tw r
  have hg : W ≠ [] → r.getD 0 0 = W.getD 0 0 := by
    intro h
    subst hW
    cases r with
    | nil => exact absurd rfl h
    | cons x r =>
      by_cases e : isDig x = true
      · rw [List.takeWhile_cons_of_pos e]; rfl
      · rw [List.takeWhile_cons_of_neg e] at h; exact absurd rfl h
  unfold countS
  simp only [hW]
  unfold numberS
  match W, ha, hg with
  | [], _, _ => simp
  | [a], ha, hg =>
    rw [hg (by simp)]
    simp only [List.all_cons, List.all_nil, Bool.and_true] at ha
    have h1 := (isDig_iff a).1 ha
    have e : capS [a] = valS [a] := by simp [capS, valS, cstep, dstep]; omega
    rw [e]
    by_cases c1 : ((([a] : List UInt8).getD 0 0).toNat : Int) = 48
    · rw [if_pos (.inr (.inr c1)), if_pos (.inr (.inl c1))]; simp
    · rw [if_neg (by simp at c1 ⊢; omega), if_neg (by simp [ha])]
      by_cases c2 : valS [a] < 2 ∨ m < valS [a]
      · rw [if_pos c2, if_pos (.inr (.inr c2))]; simp
      · rw [if_neg c2, if_neg (by rintro (h | h | h); cases h; exact c1 h; exact c2 h)]; simp; omega
  | [a, b], ha, hg =>
    rw [hg (by simp)]
    simp only [List.all_cons, List.all_nil, Bool.and_true, Bool.and_eq_true] at ha
    have h1 := (isDig_iff a).1 ha.1
    have h2 := (isDig_iff b).1 ha.2
    have e : capS [a, b] = valS [a, b] := by simp [capS, valS, cstep, dstep]; omega
    rw [e]
    by_cases c1 : ((([a, b] : List UInt8).getD 0 0).toNat : Int) = 48
    · rw [if_pos (.inr (.inr c1)), if_pos (.inr (.inl c1))]; simp
    · rw [if_neg (by simp at c1 ⊢; omega), if_neg (by simp [ha.1, ha.2])]
      by_cases c2 : valS [a, b] < 2 ∨ m < valS [a, b]
      · rw [if_pos c2, if_pos (.inr (.inr c2))]; simp
      · rw [if_neg c2, if_neg (by rintro (h | h | h); cases h; exact c1 h; exact c2 h)]; simp; omega
  | a :: b :: d :: s, ha, hg =>
    rw [hg (by simp), if_pos (by right; left; simp)]
    simp only [List.all_cons, Bool.and_eq_true] at ha
    have h1 := (isDig_iff a).1 ha.1
    have h2 := (isDig_iff b).1 ha.2.1
    have h3 := (isDig_iff d).1 ha.2.2.1
    by_cases c1 : (((a :: b :: d :: s : List UInt8).getD 0 0).toNat : Int) = 48
    · rw [if_pos (.inr (.inl c1))]; simp
    · have hc : 100 ≤ capS (a :: b :: d :: s) := cap_big s _ (by simp at c1; simp [cstep]; omega) ha.2.2.2
      rw [if_pos (by right; right; right; omega)]; simp
/-- The number that a whole text is: as counted, where the digits are all of it. -/
theorem number_whole {m : Int} (hm : m < 100) (r : List UInt8) : numberS r m = if (countS r m).2 = r.length then (countS r m).1 else 0 := by
  obtain ⟨n1, n2, n3⟩ := num_countM hm (r := r) rfl
  by_cases hall : r.all isDig = true
  · have hw : r.takeWhile isDig = r := by
      have := tw_app (f := isDig) r [] hall
      simpa using this
    rw [hw] at n1 n2
    by_cases c : (countS r m).2 = r.length
    · rw [if_pos c, n1]
    · rw [if_neg c, n1]
      by_cases c0 : (countS r m).2 = 0
      · exact n3 c0
      · exact absurd (n2 c0).1 c
  · have hb : numberS r m = 0 := by
      unfold numberS
      split
      · rfl
      · rw [if_pos (by simpa using hall)]
    rw [hb]
    by_cases c : (countS r m).2 = r.length
    · rw [if_pos c]
      by_cases c0 : (countS r m).2 = 0
      · exact (n3 c0).symm
      · exfalso
        have h1 := (n2 c0).1
        have h2 : (r.takeWhile isDig).length = r.length := by omega
        have h3 : r.takeWhile isDig = r := by
          have := List.takeWhile_prefix (l := r) isDig
          exact this.eq_of_length h2
        rw [← h3] at hall
        exact hall (all_tw r)
    · rw [if_neg c]
abbrev starI (l : List UInt8) : Int := Lib.index l [32, 42]
def lineX (l : List UInt8) : List UInt8 := if 0 ≤ starI l then l.take (starI l).toNat else l
def lineT (l : List UInt8) : Int := if 0 ≤ starI l then numberS (l.drop ((starI l).toNat + 2)) 31 else 1
/-- The row of a line, and how often it stands there. -/
def lineR (l : List UInt8) : List Stitch × Int := if (expandS (lineX l)).2 ≠ 0 ∨ lineT l = 0 then ([], 0) else ((expandS (lineX l)).1, lineT l)
theorem occ_iff {l : List UInt8} {i : Nat} (h : i + 1 < l.length) : Lib.occAt l [32, 42] i = true ↔ l.getD i 0 = 32 ∧ l.getD (i + 1) 0 = 42 := by
  unfold Lib.occAt
  rw [List.drop_eq_getElem_cons (by omega), List.drop_eq_getElem_cons (by omega)]
  have e1 : l.getD i 0 = l[i] := by rw [List.getD, List.getElem?_eq_getElem (show i < l.length by omega)]; rfl
  have e2 : l.getD (i + 1) 0 = l[i + 1] := by rw [List.getD, List.getElem?_eq_getElem h]; rfl
  rw [e1, e2]
  simp only [List.isPrefixOf, Bool.and_true, Bool.and_eq_true, beq_iff_eq]
  exact ⟨fun h => ⟨h.1.symm, h.2.symm⟩, fun h => ⟨h.1.symm, h.2.symm⟩⟩
theorem occ_no {l : List UInt8} {i : Nat} (h : ¬ i + 1 < l.length) : Lib.occAt l [32, 42] i = false := by
  unfold Lib.occAt
  have hl : (l.drop i).length ≤ 1 := by simp; omega
  match l.drop i, hl with
  | [], _ => rfl
  | [a], _ => simp [List.isPrefixOf]
theorem star_at {l : List UInt8} {i : Nat} (h : i + 1 < l.length) (h0 : ∀ j, j < i → Lib.occAt l [32, 42] j = false) (h1 : l.getD i 0 = 32 ∧ l.getD (i + 1) 0 = 42) : starI l = i :=
  Lib.index_first (by omega) ((occ_iff h).2 h1) h0
theorem star_no {l : List UInt8} {i : Nat} (h : ¬ i + 1 < l.length) (h0 : ∀ j, j < i → Lib.occAt l [32, 42] j = false) : starI l = -1 :=
  Lib.index_none fun j _ => by
    rcases Nat.lt_or_ge j i with hj | hj
    · exact h0 j hj
    · exact occ_no (by omega)
theorem no_next {l : List UInt8} {i : Nat} (h : i + 1 < l.length) (h0 : ∀ j, j < i → Lib.occAt l [32, 42] j = false) (h1 : ¬ (l.getD i 0 = 32 ∧ l.getD (i + 1) 0 = 42)) : ∀ j, j < i + 1 → Lib.occAt l [32, 42] j = false := by
  intro j hj
  rcases Nat.lt_or_ge j i with hj' | hj'
  · exact h0 j hj'
  · obtain rfl : j = i := by omega
    rw [Bool.eq_false_iff]; exact fun e => h1 ((occ_iff h).1 e)
theorem line_bad {l : List UInt8} (h : (expandS (lineX l)).2 ≠ 0 ∨ lineT l = 0) : lineR l = ([], 0) := if_pos h
theorem line_good {l : List UInt8} (h : ¬ ((expandS (lineX l)).2 ≠ 0 ∨ lineT l = 0)) : lineR l = ((expandS (lineX l)).1, lineT l) := if_neg h
theorem lineX_at {l : List UInt8} {i : Nat} (h : starI l = i) : lineX l = l.take i ∧ lineT l = numberS (l.drop (i + 2)) 31 := by
  unfold lineX lineT
  rw [h, if_pos (by omega), if_pos (by omega)]; exact ⟨rfl, rfl⟩
theorem lineX_no {l : List UInt8} (h : starI l = -1) : lineX l = l ∧ lineT l = 1 := by
  unfold lineX lineT
  rw [h, if_neg (by omega), if_neg (by omega)]; exact ⟨rfl, rfl⟩
theorem number_rngM (l : List UInt8) (m : Int) (hm : 0 ≤ m) : 0 ≤ numberS l m ∧ numberS l m ≤ m := by
  unfold numberS
  (repeat' split) <;> omega
theorem lineT_rng (l : List UInt8) : 0 ≤ lineT l ∧ lineT l ≤ 31 := by
  unfold lineT
  split
  · exact number_rngM _ 31 (by omega)
  · omega
theorem lineR_rng (l : List UInt8) : 0 ≤ (lineR l).2 ∧ (lineR l).2 ≤ 31 := by
  unfold lineR
  split
  · simp
  · exact lineT_rng l
theorem lineR_row {l : List UInt8} (h : (lineR l).2 ≠ 0) : (lineR l).1 ≠ [] ∧ (lineR l).1.all okB = true ∧ (lineR l).1.length ≤ 16 := by
  by_cases c : (expandS (lineX l)).2 ≠ 0 ∨ lineT l = 0
  · rw [line_bad c] at h; exact absurd rfl h
  · rw [line_good c]
    have h0 : (expandS (lineX l)).2 = 0 := Decidable.not_not.1 fun e => c (.inl e)
    obtain ⟨h1, h2⟩ := expand_sound (l := lineX l) (xs := (expandS (lineX l)).1) (by rw [← h0])
    exact ⟨h1.ok.1, h1.ok.2, h2⟩
/-- All lines of a text: the rows, the line that is wrong, the error. -/
def rdS : Nat → List UInt8 → Int → List (List Stitch) → List (List Stitch) × Int × Int
  | 0, _, _, rows => (rows, 0, 0)
  | f + 1, s, n, rows =>
    if s = [] then (rows, 0, 0)
    else if (Lib.cut s [10]).2.2 = false ∨ (lineR (Lib.cut s [10]).1).2 = 0 then ([], n, 4)
    else rdS f (Lib.cut s [10]).2.1 (n + 1) (rows ++ List.replicate (min (lineR (Lib.cut s [10]).1).2 (32 - rows.length)).toNat (lineR (Lib.cut s [10]).1).1)
theorem cut_star (l : List UInt8) : ((Lib.cut l [32, 42]).2.2 = true → 0 ≤ starI l ∧ (Lib.cut l [32, 42]).1 = l.take (starI l).toNat ∧ (Lib.cut l [32, 42]).2.1 = l.drop ((starI l).toNat + 2) ∧ starI l + 2 ≤ l.length) ∧ ((Lib.cut l [32, 42]).2.2 = false → ¬ 0 ≤ starI l ∧ (Lib.cut l [32, 42]).1 = l) := by
  unfold Lib.cut
  by_cases h : 0 ≤ Lib.index l [32, 42]
  · rw [if_pos h]
    exact ⟨fun _ => ⟨h, rfl, rfl, by have := Lib.index_room l [32, 42] h; simpa using this⟩, fun e => by cases e⟩
  · rw [if_neg h]
    exact ⟨fun e => by (cases e), fun _ => ⟨h, rfl⟩⟩
theorem line_marked {l : List UInt8} (h : 0 ≤ starI l) : lineX l = l.take (starI l).toNat ∧ lineT l = if (countS (l.drop ((starI l).toNat + 2)) 31).2 = (l.drop ((starI l).toNat + 2)).length then (countS (l.drop ((starI l).toNat + 2)) 31).1 else 0 := by
  unfold lineX lineT
  rw [if_pos h, if_pos h, number_whole (by omega)]; exact ⟨rfl, rfl⟩
theorem line_plain {l : List UInt8} (h : ¬ 0 ≤ starI l) : lineX l = l ∧ lineT l = 1 := by
  unfold lineX lineT
  rw [if_neg h, if_neg h]; exact ⟨rfl, rfl⟩
theorem cut_len (l m : List UInt8) : (Lib.cut l m).1.length ≤ l.length ∧ (Lib.cut l m).2.1.length ≤ l.length := by
  unfold Lib.cut
  split
  · simp; omega
  · simp
/-- The first k elements exchanged with the last. -/
def swapped {α : Type} (hs L : List α) (k : Nat) : Prop := L.length = hs.length ∧ ∀ m, m < hs.length → L[m]? = if m < k ∨ hs.length ≤ m + k then hs[hs.length - 1 - m]? else hs[m]?
theorem swapped_start {α : Type} (hs : List α) : swapped hs hs 0 := ⟨rfl, fun m hm => by rw [if_neg (by omega)]⟩
theorem swapped_next {α : Type} {hs L : List α} {k : Nat} (h : swapped hs L k) (hk : k < hs.length - 1 - k) {x y : α} (hx : L[k]? = some x) (hy : L[hs.length - 1 - k]? = some y) : swapped hs ((L.set k y).set (hs.length - 1 - k) x) (k + 1) := by
  obtain ⟨h1, h2⟩ := h
  refine ⟨by simp [h1], fun m hm => ?_⟩
  have hx' : hs[k]? = some x := by rw [← hx, h2 k (by omega), if_neg (by omega)]
  have hy' : hs[hs.length - 1 - k]? = some y := by rw [← hy, h2 _ (by omega), if_neg (by omega)]
  rw [List.getElem?_set, List.getElem?_set]
  by_cases e1 : hs.length - 1 - k = m
  · rw [if_pos e1, if_pos (by simp; omega), if_pos (by omega), ← e1, show hs.length - 1 - (hs.length - 1 - k) = k by omega, hx']
  · rw [if_neg e1]
    by_cases e2 : k = m
    · subst e2
      rw [if_pos rfl, if_pos (by omega), if_pos (by omega), hy']
    · rw [if_neg e2, h2 m hm]
      by_cases c : m < k ∨ hs.length ≤ m + k
      · rw [if_pos c, if_pos (by omega)]
      · rw [if_neg c, if_neg (by omega)]
theorem swapped_end {α : Type} {hs L : List α} {k : Nat} (h : swapped hs L k) (hk : ¬ k < hs.length - 1 - k) : L = hs.reverse := by
  obtain ⟨h1, h2⟩ := h
  apply List.ext_getElem?
  intro m
  rcases Nat.lt_or_ge m hs.length with hm | hm
  · rw [h2 m hm, List.getElem?_reverse hm]
    by_cases c : m < k ∨ hs.length ≤ m + k
    · rw [if_pos c]
    · rw [if_neg c, show hs.length - 1 - m = m by omega]
  · rw [List.getElem?_eq_none (by omega), List.getElem?_eq_none (by simp; omega)]
theorem line_t {l : List UInt8} (h : (expandS (lineX l)).2 = 0) : (lineR l).2 = lineT l ∧ (lineT l ≠ 0 → (lineR l).1 = (expandS (lineX l)).1) := by
  by_cases c : lineT l = 0
  · rw [line_bad (.inr c), c]; exact ⟨rfl, fun e => absurd rfl e⟩
  · rw [line_good (by rintro (e | e); exact e h; exact c e)]; exact ⟨rfl, fun _ => rfl⟩
theorem cut_ten {s : List UInt8} (h : (Lib.cut s [10]).2.2 = true) : s = (Lib.cut s [10]).1 ++ 10 :: (Lib.cut s [10]).2.1 := by
  unfold Lib.cut at h ⊢
  by_cases c : 0 ≤ Lib.index s [10]
  · rw [if_pos c]
    rcases Lib.index_spec s [10] with ⟨h1, _⟩ | ⟨i, h1, h2, h3, _⟩
    · omega
    · rw [h1, Int.toNat_natCast]
      have hr := Lib.index_room s [10] c
      rw [h1] at hr
      simp at hr
      have hi : i < s.length := by omega
      unfold Lib.occAt at h3
      rw [List.drop_eq_getElem_cons hi] at h3
      simp [List.isPrefixOf] at h3
      conv => lhs; rw [← List.take_append_drop i s, List.drop_eq_getElem_cons hi, ← h3]
      simp
  · rw [if_neg c] at h; cases h
theorem rd_done (f : Nat) (n : Int) (rows : List (List Stitch)) : rdS f [] n rows = (rows, 0, 0) := by
  cases f <;> simp [rdS]
theorem rd_bad {f : Nat} {s : List UInt8} {n : Int} {rows : List (List Stitch)} (hs : s ≠ []) (h : (Lib.cut s [10]).2.2 = false ∨ (lineR (Lib.cut s [10]).1).2 = 0) : rdS (f + 1) s n rows = ([], n, 4) := by rw [rdS, if_neg hs, if_pos h]
theorem rd_next {f : Nat} {s : List UInt8} {n : Int} {rows : List (List Stitch)} (hs : s ≠ []) (h : ¬ ((Lib.cut s [10]).2.2 = false ∨ (lineR (Lib.cut s [10]).1).2 = 0)) : rdS (f + 1) s n rows = rdS f (Lib.cut s [10]).2.1 (n + 1) (rows ++ List.replicate (min (lineR (Lib.cut s [10]).1).2 (32 - rows.length)).toNat (lineR (Lib.cut s [10]).1).1) := by rw [rdS, if_neg hs, if_neg h]
structure ReSt where
  f : Nat
  s : List UInt8
  n : Int
  OV : Value
  ps : List (SV × List Stitch)
structure CpSt where
  j : Nat
  OV : Value
  ps : List (SV × List Stitch)
end Go.G14
namespace Go.Lw
theorem Fr.drewN (S : List Nat) (w : World) (n : Nat) : Fr S w (w.drewN n) := ⟨rfl, rfl, rfl, Nat.le_refl _, fun _ _ _ => rfl⟩
/-- The cell of a package-level variable holds an int. -/
def IntAt (g : Nat) (w : World) : Prop := ∃ m : Int, w.cell? ⟨g, 0, none⟩ = some (.int .i64 m)
theorem IntAt.fr {g : Nat} {S : List Nat} {w w' : World} (h : IntAt g w) (hf : Fr S w w') (hn : g ∉ S) : IntAt g w' := let ⟨m, hm⟩ := h; ⟨m, hf.cell hm hn⟩
theorem IntAt.ext {g : Nat} {w w' : World} (h : IntAt g w) (hf : Fr [] w w') : IntAt g w' := h.fr hf (by simp)
theorem IntAt.lt {g : Nat} {w : World} (h : IntAt g w) : g < w.heap.size := let ⟨_, hm⟩ := h; block_lt_of_cell hm
end Go.Lw
namespace Go.Lw
section
variable {P : Program} {a : Act} {n : Nat} {L : List (Nat × Value)} {ds : List Nat} {w w' : World} {Q : Exit → Act → World → Prop} {ops : Array Oper} {rest : List Oper}
variable {d : Nat} {ty : TypeId} {pos : String} {after : Array Edge} {x y : Operand} {t t' T : TypeId} {A : Option Addr} {m c : Nat}
theorem ex_eqnil (h : AgM ds a n L) (hx : ev L x = some (.slice A m c)) (hu : P.underlying t = some (.slice T)) :
    (execOp a.eval ⟨some d, .binOp .eql t x (.const (.slice none 0 0)) t', ty, pos, after, none⟩).run P w = .ok (.value (.bool A.isNone)) w := by
  have h2 := run_eql_nil_slice (P := P) w t T A m c 0 0 hu
  have h3 : (binOp .eql t (.slice A m c) (.slice none 0 0)).run P w = .ok (.bool A.isNone) w := by
    simp only [binOp]
    simp [Op.equal, Op.maxDepth, Lib.run_equalIn_slice_nil w 9999 t T A m c 0 0 hu]
  have h4 : a.eval (.const (.slice none 0 0)) = .slice none 0 0 := rfl
  simp [execOp, h.eval hx, h4, eqGuard, h3]
theorem st_eqnil (h : AgM ds a n L) (hx : ev L x = some (.slice A m c)) (hu : P.underlying t = some (.slice T)) (hn : Nat.blt d n = true) (q : ∀ a, AgM ds a n ((d, .bool A.isNone) :: L) → wpList P ops Q rest a w) :
    wpList P ops Q (⟨some d, .binOp .eql t x (.const (.slice none 0 0)) t', ty, pos, after, none⟩ :: rest) a w :=
  st_ok h rfl rfl hn (ex_eqnil h hx hu) q
end
end Go.Lw
namespace Go.Proofs
open Go.Shelf
def Tryd.lays169_ren : Go.Shelf.Ren := ⟨fun | 169 => 48 | n => n, fun | 70 => 79 | 9 => 9 | 0 => 0 | 72 => 81 | 37 => 58 | 127 => 104 | 3 => 3 | 5 => 5 | n => n, fun | n => n⟩
theorem Tryd.lays169 : Go.Proofs.Lays.n169 Tryd.prog Tryd.lays169_ren := {
  mixed := by kernel_rfl
  f169 := Tryd.func48.trans (congrArg some (by kernel_rfl))
  t0 := Tryd.underlying0
  a0 := Tryd.isAgg0
  z0 := Tryd.sizeOf0
  v0 := Tryd.zeroValue0
  t3 := Tryd.underlying3
  a3 := Tryd.isAgg3
  z3 := Tryd.sizeOf3
  v3 := Tryd.zeroValue3
  t9 := Tryd.underlying9
  a9 := Tryd.isAgg9
  z9 := Tryd.sizeOf9
  v9 := Tryd.zeroValue9
  t37 := Tryd.underlying58
  a37 := Tryd.isAgg58
  z37 := Tryd.sizeOf58
  v37 := Tryd.zeroValue58
  t70 := Tryd.underlying79
  a70 := Tryd.isAgg79
  z70 := Tryd.sizeOf79
  v70 := Tryd.zeroValue79
  t72 := Tryd.underlying81
  a72 := Tryd.isAgg81
  z72 := Tryd.sizeOf81
  v72 := Tryd.zeroValue81
  t127 := Tryd.underlying104
  a127 := Tryd.isAgg104
  z127 := Tryd.sizeOf104
  v127 := Tryd.zeroValue104 }
theorem Tryd.Builder_Extra_169 : Builder.Extra Tryd.prog Tryd.lays169_ren := {
  sizeBuilder := by kernel_rfl
  liesBuilder := by kernel_rfl
  t5 := Tryd.underlying5
  a5 := Tryd.isAgg5
  z5 := Tryd.sizeOf5
  v5 := Tryd.zeroValue5
  infoByte := by kernel_rfl
  cellsByte := by kernel_rfl
  sizeByte := by kernel_rfl
  neB5 := by decide }
open Go.RowKit in
theorem Tryd.Builder_String_any (B b : Nat) (l : List UInt8) (w : World) (h : Lib.IsBuilder 81 5 B b (Lib.byteCells l) w) (hBw : B ≤ w.heap.size) :
    Calls Tryd.prog 48 #[.pointer (some ⟨b, 0, none⟩)] w fun e w' => e = .returned (.string ⟨l.toArray⟩) ∧ Below B w w' := Any.Builder_String_any Tryd.lays169 Tryd.Builder_Extra_169 B b l w h hBw
def Tryd.lays145_ren : Go.Shelf.Ren := ⟨fun | 145 => 33 | 220 => 58 | 219 => 66 | 217 => 74 | 225 => 75 | 224 => 76 | 267 => 77 | 266 => 85 | 314 => 86 | n => n, fun | 9 => 9 | 4 => 4 | 59 => 71 | 3 => 3 | 5 => 5 | 46 => 116 | 146 => 126 | 51 => 125 | n => n, fun | 1 => 1 | n => n⟩
theorem Tryd.lays145 : Go.Proofs.Lays.n145 Tryd.prog Tryd.lays145_ren := {
  mixed := by kernel_rfl
  f145 := Tryd.func33.trans (congrArg some (by kernel_rfl))
  f217 := Tryd.func74.trans (congrArg some (by kernel_rfl))
  f219 := Tryd.func66.trans (congrArg some (by kernel_rfl))
  f220 := Tryd.func58.trans (congrArg some (by kernel_rfl))
  f224 := Tryd.func76.trans (congrArg some (by kernel_rfl))
  f225 := Tryd.func75.trans (congrArg some (by kernel_rfl))
  f266 := Tryd.func85.trans (congrArg some (by kernel_rfl))
  f267 := Tryd.func77.trans (congrArg some (by kernel_rfl))
  f314 := Tryd.func86.trans (congrArg some (by kernel_rfl))
  t3 := Tryd.underlying3
  a3 := Tryd.isAgg3
  z3 := Tryd.sizeOf3
  v3 := Tryd.zeroValue3
  t4 := Tryd.underlying4
  a4 := Tryd.isAgg4
  z4 := Tryd.sizeOf4
  v4 := Tryd.zeroValue4
  t5 := Tryd.underlying5
  a5 := Tryd.isAgg5
  z5 := Tryd.sizeOf5
  v5 := Tryd.zeroValue5
  t9 := Tryd.underlying9
  a9 := Tryd.isAgg9
  z9 := Tryd.sizeOf9
  v9 := Tryd.zeroValue9
  t46 := Tryd.underlying116
  a46 := Tryd.isAgg116
  z46 := Tryd.sizeOf116
  v46 := Tryd.zeroValue116
  t51 := Tryd.underlying125
  a51 := Tryd.isAgg125
  z51 := Tryd.sizeOf125
  v51 := Tryd.zeroValue125
  t59 := Tryd.underlying71
  a59 := Tryd.isAgg71
  z59 := Tryd.sizeOf71
  v59 := Tryd.zeroValue71
  t146 := Tryd.underlying126
  a146 := Tryd.isAgg126
  z146 := Tryd.sizeOf126
  v146 := Tryd.zeroValue126
  g1 := by kernel_rfl }
open Go.RowKit Go.Lib in
theorem Tryd.strings_Cut (s sep : ByteArray) (m : Int) (w : World) (hs : s.size < 4294967281) (hm : w.cell? ⟨1, 0, none⟩ = some (.int .i64 m)) :
    Calls Tryd.prog 33 #[.string s, .string sep] w fun e w' => e = .returned (.tuple #[.string ⟨(Lib.cut s.data.toList sep.data.toList).1.toArray⟩, .string ⟨(Lib.cut s.data.toList sep.data.toList).2.1.toArray⟩, .bool (Lib.cut s.data.toList sep.data.toList).2.2]) ∧ ∃ n, w' = w.drewN n := Any.strings_Cut Tryd.lays145 s sep m w hs hm
end Go.Proofs
