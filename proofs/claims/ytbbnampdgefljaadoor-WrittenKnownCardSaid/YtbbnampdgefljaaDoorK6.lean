/- Texts of the proof, joined: W26 W27 W28 XReadLaw W29 XBuf W30 XWrite W31 W32 W33 XArr XIn XRange XS -/
import Derived.Test.YtbbnampdgefljaaDoorRows
import Derived.Lib.Builder
import Derived.Lib.AppendStr
import Derived.Laws.Pointers
import Derived.Laws.Externs
import Derived.Lib.ItoaNum
import Derived.RangeFuncNested
import Derived.RangeFuncBound
import Derived.RangeFuncCalls
import Derived.RangeFuncLeaves
import Derived.OrdersIn
import Derived.Lib.ConvBytes
import Derived.Laws.AppendOwn
import Derived.Test.YtbbnampdgefljaaDoorK5
set_option linter.unusedVariables false
set_option linter.unusedSimpArgs false
namespace Go.Proofs.YtbbnampdgefljaaDoor
open Go.Lw Go.G14
theorem co33 : CallOf Tryd.prog 33 := CallOf.mk' Tryd.func33 (by kernel_rfl) (by kernel_rfl)
theorem scut_ok (l m : List UInt8) (w0 : World) (hm : IntAt 1 w0) (hl : l.length < 4294967281) : Rets Tryd.prog 33 #[S l, S m] w0 fun v w' => v = .tuple #[S (Lib.cut l m).1, S (Lib.cut l m).2.1, .bool (Lib.cut l m).2.2] ∧ Fr [] w0 w' := by
 obtain ⟨k, hk⟩ := hm
 refine Calls.mono (Tryd.strings_Cut ⟨l.toArray⟩ ⟨m.toArray⟩ k w0 (by simpa [ByteArray.size] using hl) hk) ?_
 rintro e w' ⟨rfl, n, rfl⟩
 exact ⟨_, rfl, rfl, Fr.drewN _ _ _⟩
theorem refline_ok (l : List UInt8) (w0 : World) (hy : Sym w0) (hl : l.length < 4294967281) : Rets Tryd.prog 19 #[S l] w0 fun v w' => ∃ x, v = .tuple #[x, .int .i64 (lineR l).2] ∧ Sl encSt w' x (lineR l).1 ∧ Fr [] w0 w' := by
 refine enter [(0, S l)] Tryd.func19 rfl Tryd.ntmps19 rfl (.cons rfl .nil) ?_
 have hf := Fr.refl [] w0
 intro a h
 refine wp_seq ?_
 refine wR ?_
 refine st_assign h rfl rfl ?_; clear h a; intro a h
 refine st_assign h rfl rfl ?_; clear h a; intro a h
 replace h : Ag a 47 [(0, _)] := h.sub (.cons rfl .nil)
 refine wnt ?_
 refine wp_seq ?_
 refine wR ?_
 refine st_assign h rfl rfl ?_; clear h a; intro a h
 refine wnt ?_
 refine seq_cut (Cut (ι := Unit) 47 (fun u => [(0, S (lineX l)), (4, .int .i64 (lineT l))]) (fun u w' => Sym w' ∧ Fr [] w0 w')) ?_ ?_
 ·refine id ?_
  refine wp_seq ?_
  refine wR ?_
  refine st_assign h rfl rfl ?_; clear h a; intro a h
  refine wnt ?_
  refine wp_block ?_
  refine loop (ι := Nat) (fun i => [(0, S l), (4, .int .i64 1), (5, .int .i64 (i : Int))]) (fun i w' => i ≤ l.length ∧ (∀ j, j < i → Lib.occAt l [32, 42] j = false) ∧ Sym w' ∧ Fr [] w0 w') (fun i => l.length - i) 0 (h.sub (.cons rfl (.cons rfl (.cons rfl .nil)))) ⟨by omega, fun j h => by omega, hy, hf⟩ ?_
  clear h a hy hf
  rintro i w1 a h ⟨hi, hno, hy, hf⟩
  refine wp_seq ?_
  refine wp_seq ?_
  refine wR ?_
  refine st_move h rfl rfl ?_; clear h a; intro a h
  refine st_add h rfl rfl (by first | exact IntWalk.i64_in _ (by omega) | rfl) rfl ?_; clear h a; intro a h
  refine st_move h rfl rfl ?_; clear h a; intro a h
  refine st_len h rfl Tryd.underlying9 rfl ?_; clear h a; intro a h
  refine st_lt h rfl rfl rfl ?_; clear h a; intro a h
  replace h : Ag a 47 [(0, _), (4, _), (5, _), (12, _)] := h.sub (.cons rfl (.cons rfl (.cons rfl (.cons rfl .nil))))
  refine wnt ?_
  first | refine cond_dec h rfl (fun c0 => ?_) (fun c0 => ?_) | refine cond_ndec h rfl (fun c0 => ?_) (fun c0 => ?_) | refine cond_split h rfl (fun c0 => ?_) (fun c0 => ?_)
  ·refine id ?_
   refine wsn ?_
   refine wp_seq ?_
   refine wp_block ?_
   refine wp_seq ?_
   refine region_bool (r := 25) (L' := [(0, _), (4, _), (5, _)]) (((l.getD i 0).toNat : Int) = 32 ∧ ((l.getD (i + 1) 0).toNat : Int) = 42) h (.cons rfl (.cons rfl (.cons rfl .nil))) ?_ ?_
   ·refine id ?_
    refine st_move h rfl rfl ?_; clear h a; intro a h
    refine st_move h rfl rfl ?_; clear h a; intro a h
    refine st_index (p := i) h rfl rfl Tryd.underlying9 (by omega) (by omega) (by omega) rfl ?_; clear h a; intro hy17 a h
    refine st_eq h rfl rfl rfl ?_; clear h a; intro a h
    refine st_move h rfl rfl ?_; clear h a; intro a h
    first | refine guard_dec (D := 19) h rfl ?_ ?_ | refine guard_ndec (D := 19) h rfl ?_ ?_ | refine guard_any (D := 19) h rfl ?_ ?_
    ·clear h; intro g0 h
     refine gd_yes h rfl rfl rfl rfl rfl rfl ?_
     refine st_move h rfl rfl ?_; clear h a; intro a h
     refine gd_yes h rfl rfl rfl rfl rfl rfl ?_
     refine st_move h rfl rfl ?_; clear h a; intro a h
     refine gd_yes h rfl rfl rfl rfl rfl rfl ?_
     refine st_add h rfl rfl (by first | exact IntWalk.i64_in _ (by omega) | rfl) rfl ?_; clear h a; intro a h
     refine gd_yes h rfl rfl rfl rfl rfl rfl ?_
     refine st_index (p := i + 1) h rfl rfl Tryd.underlying9 (by omega) (by omega) (by omega) rfl ?_; clear h a; intro hy23 a h
     refine gd_yes h rfl rfl rfl rfl rfl rfl ?_
     refine st_eq h rfl rfl rfl ?_; clear h a; intro a h
     refine st_pick_t h rfl rfl rfl rfl ?_; clear h a; intro a h
     exact wpList_nil (bool_end h rfl (by first | exact bt (by omega) | exact bf (by omega) | exact bi (by omega) | exact bn (by omega)) (.cons rfl (.cons rfl (.cons rfl .nil))))
    ·clear h; intro g0 h
     refine gd_no h rfl rfl rfl rfl rfl rfl rfl rfl ?_; clear h a; intro a h
     refine gd_no h rfl rfl rfl rfl rfl rfl rfl rfl ?_; clear h a; intro a h
     refine gd_no h rfl rfl rfl rfl rfl rfl rfl rfl ?_; clear h a; intro a h
     refine gd_no h rfl rfl rfl rfl rfl rfl rfl rfl ?_; clear h a; intro a h
     refine gd_no h rfl rfl rfl rfl rfl rfl rfl rfl ?_; clear h a; intro a h
     refine st_pick_f h rfl rfl rfl rfl ?_; clear h a; intro a h
     exact wpList_nil (bool_end h rfl (by first | exact bt (by omega) | exact bf (by omega) | exact bi (by omega) | exact bn (by omega)) (.cons rfl (.cons rfl (.cons rfl .nil))))
   ·clear h a; intro a h
    refine (norm_then ?_)
    first | refine cond_dec h rfl (fun c1 => ?_) (fun c1 => ?_) | refine cond_ndec h rfl (fun c1 => ?_) (fun c1 => ?_) | refine cond_split h rfl (fun c1 => ?_) (fun c1 => ?_)
    ·have hst := star_at (by omega) hno ⟨byte_eq.1 (show ((l.getD i 0).toNat : Int) = ((32 : UInt8).toNat : Int) from c1.1), byte_eq.1 (show ((l.getD (i + 1) 0).toNat : Int) = ((42 : UInt8).toNat : Int) from c1.2)⟩
     refine wp_seq ?_
     refine wR ?_
     refine st_move h rfl rfl ?_; clear h a; intro a h
     refine st_move h rfl rfl ?_; clear h a; intro a h
     refine st_add h rfl rfl (by first | exact IntWalk.i64_in _ (by omega) | rfl) rfl ?_; clear h a; intro a h
     refine st_ss_l (p := i + 2) h rfl rfl Tryd.underlying9 (by omega) (by omega) (by omega) rfl ?_; clear h a; intro a h
     refine st_call h (evs_cons rfl (evs_cons rfl evs_nil)) co27 (number_ok _ _ _) rfl ?_; clear h a; rintro _ _ ⟨rfl, rfl⟩ a h
     refine st_assign h rfl rfl ?_; clear h a; intro a h
     replace h : Ag a 47 [(0, _), (4, _), (5, _)] := h.sub (.cons rfl (.cons rfl (.cons rfl .nil)))
     refine wnt ?_
     refine wp_seq ?_
     refine wR ?_
     refine st_move h rfl rfl ?_; clear h a; intro a h
     refine st_move h rfl rfl ?_; clear h a; intro a h
     refine st_ss_h (p := i) h rfl rfl Tryd.underlying9 (by omega) (by omega) (by omega) rfl ?_; clear h a; intro a h
     refine st_assign h rfl rfl ?_; clear h a; intro a h
     replace h : Ag a 47 [(0, _), (4, _)] := h.sub (.cons rfl (.cons rfl .nil))
     refine wnt ?_
     refine wp_exit (exit_out rfl (exit_then (exit_then (exit_here (norm_then ?_)))))
     exact ⟨(), h.sub (.cons (by first | (rw [(lineX_at hst).1]; rfl) | (rw [(lineX_no hst).1]; rfl)) (.cons (by first | (rw [(lineX_at hst).2]; rfl) | (rw [(lineX_no hst).2]; rfl)) .nil)), hy, hf⟩
    ·refine id ?_
     refine wp_skip (norm_blk (norm_then ?_))
     refine wR ?_
     refine st_move h rfl rfl ?_; clear h a; intro a h
     refine st_add h rfl rfl (by first | exact IntWalk.i64_in _ (by omega) | rfl) rfl ?_; clear h a; intro a h
     refine st_assign h rfl rfl ?_; clear h a; intro a h
     replace h : Ag a 47 [(0, _), (4, _), (5, _)] := h.sub (.cons rfl (.cons rfl (.cons rfl .nil)))
     refine wnt ?_
     exact ⟨i + 1, h.sub (.cons rfl (.cons rfl (.cons rfl .nil))), ⟨by omega, no_next (by omega) hno (fun e => c1 ⟨by rw [e.1]; rfl, by rw [e.2]; rfl⟩), hy, hf⟩, by omega⟩
  ·have hst := star_no (by omega) hno
   refine wp_exit (exit_then (exit_then (exit_here (norm_then ?_))))
   exact ⟨(), h.sub (.cons (by first | (rw [(lineX_at hst).1]; rfl) | (rw [(lineX_no hst).1]; rfl)) (.cons (by first | (rw [(lineX_at hst).2]; rfl) | (rw [(lineX_no hst).2]; rfl)) .nil)), hy, hf⟩
 ·clear h a hy hf
  rintro a w2 ⟨u, h, ⟨hy, hf⟩⟩
  refine wp_seq ?_
  refine wR ?_
  refine st_move h rfl rfl ?_; clear h a; intro a h
  refine st_call h (evs_cons rfl evs_nil) co11 (refexpand_ok _ _ hy) rfl ?_; clear h a; rintro _ w3 ⟨x2, R, rfl, hR1, hR2, hs2, hq⟩ a h
  replace hf := hf.next hq
  replace hy := hy.ext hq
  clear hq
  obtain rfl : R = expandS (lineX l) := mach_all hR1 hR2
  clear hR1 hR2
  refine st_move h rfl rfl ?_; clear h a; intro a h
  refine st_extract h rfl rfl rfl ?_; clear h a; intro a h
  refine st_extract h rfl rfl rfl ?_; clear h a; intro a h
  refine st_assign h rfl rfl ?_; clear h a; intro a h
  refine st_assign h rfl rfl ?_; clear h a; intro a h
  replace h : Ag a 47 [(4, _), (6, _), (7, _)] := h.sub (.cons rfl (.cons rfl (.cons rfl .nil)))
  refine wnt ?_
  refine wp_seq ?_
  refine wp_seq ?_
  refine region_bool (r := 44) (L' := [(4, _), (6, _)]) ((expandS (lineX l)).2 ≠ 0 ∨ lineT l = 0) h (.cons rfl (.cons rfl .nil)) ?_ ?_
  ·refine id ?_
   refine st_move h rfl rfl ?_; clear h a; intro a h
   refine st_ne h rfl rfl rfl ?_; clear h a; intro a h
   refine st_move h rfl rfl ?_; clear h a; intro a h
   first | refine guard_dec (D := 41) h rfl ?_ ?_ | refine guard_ndec (D := 41) h rfl ?_ ?_ | refine guard_any (D := 41) h rfl ?_ ?_
   ·clear h; intro g1 h
    refine gd_no h rfl rfl rfl rfl rfl rfl rfl rfl ?_; clear h a; intro a h
    refine gd_no h rfl rfl rfl rfl rfl rfl rfl rfl ?_; clear h a; intro a h
    refine st_pick_t h rfl rfl rfl rfl ?_; clear h a; intro a h
    exact wpList_nil (bool_end h rfl (by first | exact bt (.inl (by assumption)) | exact bi ⟨fun e => .inr e, fun e => e.resolve_left (by assumption)⟩) (.cons rfl (.cons rfl .nil)))
   ·clear h; intro g1 h
    refine gd_yes h rfl rfl rfl rfl rfl rfl ?_
    refine st_move h rfl rfl ?_; clear h a; intro a h
    refine gd_yes h rfl rfl rfl rfl rfl rfl ?_
    refine st_eq h rfl rfl rfl ?_; clear h a; intro a h
    refine st_pick_f h rfl rfl rfl rfl ?_; clear h a; intro a h
    exact wpList_nil (bool_end h rfl (by first | exact bt (.inl (by assumption)) | exact bi ⟨fun e => .inr e, fun e => e.resolve_left (by assumption)⟩) (.cons rfl (.cons rfl .nil)))
  ·clear h a; intro a h
   refine (norm_then ?_)
   first | refine cond_dec h rfl (fun c2 => ?_) (fun c2 => ?_) | refine cond_ndec h rfl (fun c2 => ?_) (fun c2 => ?_) | refine cond_split h rfl (fun c2 => ?_) (fun c2 => ?_)
   ·refine id ?_
    refine wp_seq ?_
    refine wR ?_
    refine st_assign h rfl rfl ?_; clear h a; intro a h
    refine st_assign h rfl rfl ?_; clear h a; intro a h
    replace h : Ag a 47 [(2, _), (3, _)] := h.sub (.cons rfl (.cons rfl .nil))
    refine wnt ?_
    refine wp_ret (ret_then ?_)
    refine ret2 h Tryd.results19 rfl rfl ?_
    rw [line_bad c2]; exact ⟨_, rfl, _, rfl, Sl.nil _, hf⟩
   ·refine id ?_
    refine wsn ?_
    refine wp_seq ?_
    refine wR ?_
    refine st_move h rfl rfl ?_; clear h a; intro a h
    refine st_move h rfl rfl ?_; clear h a; intro a h
    refine st_assign h rfl rfl ?_; clear h a; intro a h
    refine st_assign h rfl rfl ?_; clear h a; intro a h
    replace h : Ag a 47 [(2, _), (3, _)] := h.sub (.cons rfl (.cons rfl .nil))
    refine wnt ?_
    refine wp_ret ?_
    refine ret2 h Tryd.results19 rfl rfl ?_
    rw [line_good c2]; exact ⟨_, rfl, _, rfl, hs2, hf⟩
theorem readline_ok (l : List UInt8) (w0 : World) (hy : Sym w0) (hm : IntAt 1 w0) (hl : l.length < 4294967281) : Rets Tryd.prog 34 #[S l] w0 fun v w' => ∃ x t, v = .tuple #[x, .int .i64 t] ∧ t = (lineR l).2 ∧ (t ≠ 0 → Lw.Own encSt 36 w0.heap.size w' x (lineR l).1) ∧ Fr [] w0 w' := by
 obtain ⟨hct, hcf⟩ := cut_star l
 have hcl := cut_len l [32, 42]
 refine enter [(0, S l)] Tryd.func34 rfl Tryd.ntmps34 rfl (.cons rfl .nil) ?_
 have hf := Fr.refl [] w0
 intro a h
 refine wp_seq ?_
 refine wR ?_
 refine st_assign h rfl rfl ?_; clear h a; intro a h
 refine st_assign h rfl rfl ?_; clear h a; intro a h
 replace h : Ag a 38 [(0, _)] := h.sub (.cons rfl .nil)
 refine wnt ?_
 refine wp_seq ?_
 refine wR ?_
 refine st_move h rfl rfl ?_; clear h a; intro a h
 refine st_call h (evs_cons rfl (evs_cons rfl evs_nil)) co33 (scut_ok _ _ _ hm (by omega)) rfl ?_; clear h a; rintro _ w1 ⟨rfl, hq⟩ a h
 replace hf := hf.next hq
 replace hy := hy.ext hq
 replace hm := hm.ext hq
 clear hq
 refine st_move h rfl rfl ?_; clear h a; intro a h
 refine st_extract h rfl rfl rfl ?_; clear h a; intro a h
 refine st_extract h rfl rfl rfl ?_; clear h a; intro a h
 refine st_extract h rfl rfl rfl ?_; clear h a; intro a h
 refine st_assign h rfl rfl ?_; clear h a; intro a h
 refine st_assign h rfl rfl ?_; clear h a; intro a h
 refine st_assign h rfl rfl ?_; clear h a; intro a h
 replace h : Ag a 38 [(4, _), (5, _), (6, _)] := h.sub (.cons rfl (.cons rfl (.cons rfl .nil)))
 refine wnt ?_
 refine wp_seq ?_
 refine wR ?_
 refine st_assign h rfl rfl ?_; clear h a; intro a h
 refine wnt ?_
 refine wp_seq ?_
 refine wp_seq ?_
 refine wR ?_
 refine st_move h rfl rfl ?_; clear h a; intro a h
 replace h : Ag a 38 [(4, _), (5, _), (7, _), (18, _)] := h.sub (.cons rfl (.cons rfl (.cons rfl (.cons rfl .nil))))
 refine wnt ?_
 first | refine cond_dec h rfl (fun c0 => ?_) (fun c0 => ?_) | refine cond_ndec h rfl (fun c0 => ?_) (fun c0 => ?_) | refine cond_split h rfl (fun c0 => ?_) (fun c0 => ?_)
 ·obtain ⟨s0, s1, s2, s3⟩ := hct c0
  obtain ⟨x1, x2⟩ := line_marked s0
  rw [s1, s2] at h
  rw [s1, s2] at hcl
  refine wp_seq ?_
  refine wR ?_
  refine st_move h rfl rfl ?_; clear h a; intro a h
  refine st_call h (evs_cons rfl (evs_cons rfl evs_nil)) co53 (count_ok _ _ _ (by simp; omega)) rfl ?_; clear h a; rintro _ _ ⟨rfl, rfl⟩ a h
  refine st_move h rfl rfl ?_; clear h a; intro a h
  refine st_extract h rfl rfl rfl ?_; clear h a; intro a h
  refine st_extract h rfl rfl rfl ?_; clear h a; intro a h
  refine st_assign h rfl rfl ?_; clear h a; intro a h
  refine st_assign h rfl rfl ?_; clear h a; intro a h
  replace h : Ag a 38 [(4, _), (5, _), (8, _), (9, _)] := h.sub (.cons rfl (.cons rfl (.cons rfl (.cons rfl .nil))))
  refine wnt ?_
  refine wp_seq ?_
  refine wp_seq ?_
  refine wR ?_
  refine st_move h rfl rfl ?_; clear h a; intro a h
  refine st_move h rfl rfl ?_; clear h a; intro a h
  refine st_len h rfl Tryd.underlying9 rfl ?_; clear h a; intro a h
  refine st_ne h rfl rfl rfl ?_; clear h a; intro a h
  replace h : Ag a 38 [(4, _), (8, _), (27, _)] := h.sub (.cons rfl (.cons rfl (.cons rfl .nil)))
  refine wnt ?_
  first | refine cond_dec h rfl (fun c1 => ?_) (fun c1 => ?_) | refine cond_ndec h rfl (fun c1 => ?_) (fun c1 => ?_) | refine cond_split h rfl (fun c1 => ?_) (fun c1 => ?_)
  ·rw [if_neg c1] at x2
   refine wp_seq ?_
   refine wR ?_
   refine st_assign h rfl rfl ?_; clear h a; intro a h
   refine st_assign h rfl rfl ?_; clear h a; intro a h
   replace h : Ag a 38 [(2, _), (3, _)] := h.sub (.cons rfl (.cons rfl .nil))
   refine wnt ?_
   refine wp_ret (ret_then (ret_then ?_))
   refine ret2 h Tryd.results34 rfl rfl ?_
   exact ⟨_, rfl, _, _, rfl, by rw [line_bad (.inr x2)], fun e => absurd rfl e, hf⟩
  ·rw [if_pos (Decidable.not_not.1 c1)] at x2
   refine wsn ?_
   refine wR ?_
   refine st_move h rfl rfl ?_; clear h a; intro a h
   refine st_assign h rfl rfl ?_; clear h a; intro a h
   replace h : Ag a 38 [(4, _), (7, _)] := h.sub (.cons rfl (.cons rfl .nil))
   refine wnt ?_
   refine wp_seq ?_
   refine wR ?_
   refine st_move h rfl rfl ?_; clear h a; intro a h
   refine st_call h (evs_cons rfl evs_nil) co10 (expand_ok _ _ hy (by first | omega | (simp; omega))) rfl ?_; clear h a; rintro _ w2 ⟨x, c, rfl, hcc, ho, hq⟩ a h
   have hfs := hf.size
   replace hf := hf.next hq
   replace hy := hy.ext hq
   replace hm := hm.ext hq
   clear hq
   replace ho := ho.low hfs
   rw [← x1] at h ho
   refine st_move h rfl rfl ?_; clear h a; intro a h
   refine st_extract h rfl rfl rfl ?_; clear h a; intro a h
   refine st_extract h rfl rfl rfl ?_; clear h a; intro a h
   refine st_assign h rfl rfl ?_; clear h a; intro a h
   refine st_assign h rfl rfl ?_; clear h a; intro a h
   replace h : Ag a 38 [(7, _), (10, _), (11, _)] := h.sub (.cons rfl (.cons rfl (.cons rfl .nil)))
   refine wnt ?_
   refine wp_seq ?_
   refine wp_seq ?_
   refine wR ?_
   refine st_move h rfl rfl ?_; clear h a; intro a h
   refine st_ne h rfl rfl rfl ?_; clear h a; intro a h
   replace h : Ag a 38 [(7, _), (10, _), (35, _)] := h.sub (.cons rfl (.cons rfl (.cons rfl .nil)))
   refine wnt ?_
   first | refine cond_dec h rfl (fun c2 => ?_) (fun c2 => ?_) | refine cond_ndec h rfl (fun c2 => ?_) (fun c2 => ?_) | refine cond_split h rfl (fun c2 => ?_) (fun c2 => ?_)
   ·refine id ?_
    refine wp_seq ?_
    refine wR ?_
    refine st_assign h rfl rfl ?_; clear h a; intro a h
    refine st_assign h rfl rfl ?_; clear h a; intro a h
    replace h : Ag a 38 [(2, _), (3, _)] := h.sub (.cons rfl (.cons rfl .nil))
    refine wnt ?_
    refine wp_ret (ret_then ?_)
    refine ret2 h Tryd.results34 rfl rfl ?_
    exact ⟨_, rfl, _, _, rfl, by rw [line_bad (.inl c2)], fun e => absurd rfl e, hf⟩
   ·refine id ?_
    refine wsn ?_
    refine wp_seq ?_
    refine wR ?_
    refine st_move h rfl rfl ?_; clear h a; intro a h
    refine st_move h rfl rfl ?_; clear h a; intro a h
    refine st_assign h rfl rfl ?_; clear h a; intro a h
    refine st_assign h rfl rfl ?_; clear h a; intro a h
    replace h : Ag a 38 [(2, _), (3, _)] := h.sub (.cons rfl (.cons rfl .nil))
    refine wnt ?_
    refine wp_ret ?_
    refine ret2 h Tryd.results34 rfl rfl ?_
    obtain ⟨y1, y2⟩ := line_t (Decidable.not_not.1 c2)
    exact ⟨_, rfl, _, _, rfl, by rw [y1, x2], fun e => by rw [y2 (by rw [x2]; exact e)]; exact ho, hf⟩
 ·obtain ⟨s0, s1⟩ := hcf c0
  obtain ⟨x1, x2⟩ := line_plain s0
  rw [s1] at h
  rw [s1] at hcl
  refine wsn ?_
  refine wp_seq ?_
  refine wR ?_
  refine st_move h rfl rfl ?_; clear h a; intro a h
  refine st_call h (evs_cons rfl evs_nil) co10 (expand_ok _ _ hy (by first | omega | (simp; omega))) rfl ?_; clear h a; rintro _ w3 ⟨x, c, rfl, hcc, ho, hq⟩ a h
  have hfs := hf.size
  replace hf := hf.next hq
  replace hy := hy.ext hq
  replace hm := hm.ext hq
  clear hq
  replace ho := ho.low hfs
  rw [← x1] at h ho
  refine st_move h rfl rfl ?_; clear h a; intro a h
  refine st_extract h rfl rfl rfl ?_; clear h a; intro a h
  refine st_extract h rfl rfl rfl ?_; clear h a; intro a h
  refine st_assign h rfl rfl ?_; clear h a; intro a h
  refine st_assign h rfl rfl ?_; clear h a; intro a h
  replace h : Ag a 38 [(7, _), (10, _), (11, _)] := h.sub (.cons rfl (.cons rfl (.cons rfl .nil)))
  refine wnt ?_
  refine wp_seq ?_
  refine wp_seq ?_
  refine wR ?_
  refine st_move h rfl rfl ?_; clear h a; intro a h
  refine st_ne h rfl rfl rfl ?_; clear h a; intro a h
  replace h : Ag a 38 [(7, _), (10, _), (35, _)] := h.sub (.cons rfl (.cons rfl (.cons rfl .nil)))
  refine wnt ?_
  first | refine cond_dec h rfl (fun c2 => ?_) (fun c2 => ?_) | refine cond_ndec h rfl (fun c2 => ?_) (fun c2 => ?_) | refine cond_split h rfl (fun c2 => ?_) (fun c2 => ?_)
  ·refine id ?_
   refine wp_seq ?_
   refine wR ?_
   refine st_assign h rfl rfl ?_; clear h a; intro a h
   refine st_assign h rfl rfl ?_; clear h a; intro a h
   replace h : Ag a 38 [(2, _), (3, _)] := h.sub (.cons rfl (.cons rfl .nil))
   refine wnt ?_
   refine wp_ret (ret_then ?_)
   refine ret2 h Tryd.results34 rfl rfl ?_
   exact ⟨_, rfl, _, _, rfl, by rw [line_bad (.inl c2)], fun e => absurd rfl e, hf⟩
  ·refine id ?_
   refine wsn ?_
   refine wp_seq ?_
   refine wR ?_
   refine st_move h rfl rfl ?_; clear h a; intro a h
   refine st_move h rfl rfl ?_; clear h a; intro a h
   refine st_assign h rfl rfl ?_; clear h a; intro a h
   refine st_assign h rfl rfl ?_; clear h a; intro a h
   replace h : Ag a 38 [(2, _), (3, _)] := h.sub (.cons rfl (.cons rfl .nil))
   refine wnt ?_
   refine wp_ret ?_
   refine ret2 h Tryd.results34 rfl rfl ?_
   obtain ⟨y1, y2⟩ := line_t (Decidable.not_not.1 c2)
   exact ⟨_, rfl, _, _, rfl, by rw [y1, x2], fun e => by rw [y2 (by rw [x2]; exact e)]; exact ho, hf⟩
theorem clone_ok (u : Value) (xs : List Stitch) (w0 : World) (hu : Sl encSt w0 u xs) (hne : xs ≠ []) (h16 : xs.length ≤ 16) : Rets Tryd.prog 35 #[u] w0 fun v w' => Lw.Own encSt 36 w0.heap.size w' v xs ∧ Fr [] w0 w' := by
 obtain ⟨A, c, rfl, hcp⟩ := hu.form
 obtain ⟨-, -, hM, hA⟩ := Sl.open_ hu
 unfold maxLen at hM
 have hlx : 0 < xs.length := List.length_pos_iff.2 hne
 obtain ⟨x0, hx0⟩ : ∃ x, xs[0]? = some x := ⟨_, List.getElem?_eq_getElem hlx⟩
 obtain ⟨ad, rfl, -⟩ := hA 0 x0 hx0
 have hsb := hu.blk hne
 refine enter [(0, .slice (some ad) xs.length c)] Tryd.func35 rfl Tryd.ntmps35 rfl (.cons rfl .nil) ?_
 have hf := Fr.refl [] w0
 intro a h
 refine wp_seq ?_
 refine wR ?_
 refine st_assign h rfl rfl ?_; clear h a; intro a h
 replace h : Ag a 8 [(0, _)] := h.sub (.cons rfl .nil)
 refine wnt ?_
 refine wp_seq ?_
 refine wp_seq ?_
 refine wR ?_
 refine st_move h rfl rfl ?_; clear h a; intro a h
 refine st_eqnil h rfl Tryd.underlying22 rfl ?_; clear h a; intro a h
 replace h : Ag a 8 [(0, _), (4, _)] := h.sub (.cons rfl (.cons rfl .nil))
 refine wnt ?_
 refine cond_false h rfl ?_
 refine wsn ?_
 refine wp_seq ?_
 refine wR ?_
 refine st_bslice ([] : List Stitch) h evs_nil rfl rfl rfl el22 (by decide) rfl ?_; clear h a; intro gE w1 hg hoE hq hz a h
 have hgE : w0.heap.size ≤ gE := by have := hf.size; omega
 replace hf := hf.next hq
 have hfE := hf
 clear hq hz hg
 refine st_move h rfl rfl ?_; clear h a; intro a h
 have hbO := hoE.blk
 refine st_append h rfl rfl hoE (hu.fr hfE (fun k hk hb => by have := hsb k hb; simp at hk)) el22 (by unfold maxLen; simp; omega) (by simp; omega) (Nat.le_of_lt (hbO gE (by simp [blks])).2) rfl ?_; clear h a; intro v3 w2 ho3 hq hx3 a h
 replace hf := hf.step hq (fun k hk hlt => absurd (hbO k hk).1 (by omega))
 
 clear hoE hq hx3 hbO; have hoE := ho3; clear ho3
 refine st_assign h rfl rfl ?_; clear h a; intro a h
 replace h : Ag a 8 [(2, _)] := h.sub (.cons rfl .nil)
 refine wnt ?_
 refine wp_ret ?_
 refine ret1 h Tryd.results35 rfl ?_
 exact ⟨_, rfl, hoE.low hgE, hf⟩
theorem clipr_ok (A : Option Addr) (m c : Nat) (w0 : World) (hc : m ≤ c) : Rets Tryd.prog 37 #[.slice A m c] w0 fun v w' => v = .slice A m m ∧ w0 = w' := by
 refine enter [(0, .slice A m c)] Tryd.func37 rfl Tryd.ntmps37 rfl (.cons rfl .nil) ?_
 intro a h
 refine wp_seq ?_
 refine wR ?_
 refine st_assign h rfl rfl ?_; clear h a; intro a h
 replace h : Ag a 9 [(0, _)] := h.sub (.cons rfl .nil)
 refine wnt ?_
 refine wp_seq ?_
 refine wR ?_
 refine st_move h rfl rfl ?_; clear h a; intro a h
 refine st_move h rfl rfl ?_; clear h a; intro a h
 refine st_lenS h rfl Tryd.underlying43 rfl ?_; clear h a; intro a h
 refine st_move h rfl rfl ?_; clear h a; intro a h
 refine st_lenS h rfl Tryd.underlying43 rfl ?_; clear h a; intro a h
 refine st_sl_hm h rfl rfl rfl el43 (by omega) (by omega) (by omega) rfl rfl rfl ?_; clear h a; intro a h
 refine st_assign h rfl rfl ?_; clear h a; intro a h
 replace h : Ag a 9 [(2, _)] := h.sub (.cons rfl .nil)
 refine wnt ?_
 refine wp_ret ?_
 refine ret1 h Tryd.results37 rfl ?_
 exact ⟨_, rfl, rfl, rfl⟩
end Go.Proofs.YtbbnampdgefljaaDoor
namespace Go.Proofs.YtbbnampdgefljaaDoor
open Go.Lw Go.G14

theorem reverse_ok (v : Value) (hs : List SV) (base : Nat) (w0 : World) (ho : Lw.Own Enc.sl 22 base w0 v hs) : Rets Tryd.prog 36 #[v] w0 fun r w' => Lw.Own Enc.sl 22 base w' v hs.reverse ∧ Fr (blks v) w0 w' := by
 obtain ⟨A, c, rfl, hcp⟩ := ho.sl.form
 have hM := ho.sl.len_le
 unfold maxLen at hM
 refine enter [(0, .slice A hs.length c)] Tryd.func36 rfl Tryd.ntmps36 rfl (.cons rfl .nil) ?_
 have hf := Fr.refl (blks (.slice A hs.length c)) w0
 intro a h
 refine wp_seq ?_
 refine wR ?_
 refine st_move h rfl rfl ?_; clear h a; intro a h
 refine st_lenS h rfl Tryd.underlying43 rfl ?_; clear h a; intro a h
 refine st_sub h rfl rfl (by first | exact IntWalk.i64_in _ (by omega) | rfl) rfl ?_; clear h a; intro a h
 refine st_assign h rfl rfl ?_; clear h a; intro a h
 refine st_assign h rfl rfl ?_; clear h a; intro a h
 replace h : Ag a 28 [(0, _), (2, _), (3, _)] := h.sub (.cons rfl (.cons rfl (.cons rfl .nil)))
 refine wnt ?_
 refine wp_block ?_
 refine loop (ι := Nat × List SV) (fun z => [(0, .slice A hs.length c), (2, .int .i64 (z.1 : Int)), (3, .int .i64 ((hs.length : Int) - 1 - (z.1 : Int)))]) (fun z w' => z.1 ≤ hs.length ∧ swapped hs z.2 z.1 ∧ Lw.Own Enc.sl 22 base w' (.slice A hs.length c) z.2 ∧ Fr (blks (.slice A hs.length c)) w0 w') (fun z => hs.length - z.1) (0, hs) (h.sub (.cons rfl (.cons rfl (.cons (by show some (Value.int IntKind.i64 ((hs.length : Int) - 1)) = some (Value.int IntKind.i64 ((hs.length : Int) - 1 - ((0 : Nat) : Int))); congr 2; omega) .nil)))) ⟨Nat.zero_le _, swapped_start hs, ho, hf⟩ ?_
 clear h a hf
 rintro ⟨k, L⟩ w1 a h ⟨hk, hsw, hL, hf⟩
 simp only at hk hsw hL h
 have hLl := hsw.1
 refine wp_seq ?_
 refine wp_seq ?_
 refine wR ?_
 refine st_move h rfl rfl ?_; clear h a; intro a h
 refine st_move h rfl rfl ?_; clear h a; intro a h
 refine st_lt h rfl rfl rfl ?_; clear h a; intro a h
 replace h : Ag a 28 [(0, _), (2, _), (3, _), (9, _)] := h.sub (.cons rfl (.cons rfl (.cons rfl (.cons rfl .nil))))
 refine wnt ?_
 first | refine cond_dec h rfl (fun c0 => ?_) (fun c0 => ?_) | refine cond_ndec h rfl (fun c0 => ?_) (fun c0 => ?_) | refine cond_split h rfl (fun c0 => ?_) (fun c0 => ?_)
 ·obtain ⟨x, hx⟩ : ∃ x, L[k]? = some x := ⟨_, List.getElem?_eq_getElem (by omega)⟩
  obtain ⟨y, hy⟩ : ∃ y, L[hs.length - 1 - k]? = some y := ⟨_, List.getElem?_eq_getElem (by omega)⟩
  obtain ⟨g, cg, e, hgb, hcg, hgl⟩ := Own.at_ hL (by intro e; rw [e] at hx; simp at hx)
  rw [hLl] at e
  cases e
  obtain ⟨-, -, -, hE⟩ := Sl.open_ (hLl ▸ hL.sl)
  obtain ⟨xa, hxa, cx⟩ := hE k x hx
  obtain ⟨ya, hya, cy⟩ := hE _ y hy
  cases hxa; cases hya
  refine wsn ?_
  refine wp_seq ?_
  refine wp_block ?_
  refine region_held (fun wb w' => Fr [g] wb w') hmix ?_; intro w2 hq
  replace hf := hf.next hq
  replace hL := hL.ext hq
  replace cx := cx.fr hq (by simp)
  replace cy := cy.fr hq (by simp)
  clear hq; have hC : Fr [g] w2 w2 := Fr.refl _ _
  have hL_b := hL
  have cx_b := cx
  have cy_b := cy
  refine hd_move 0 (by kernel_rfl) (by kernel_rfl) (by kernel_rfl) hC h wn rfl rfl rfl ?_; clear h a; intro a h
  refine hd_move 1 (by kernel_rfl) (by kernel_rfl) (by kernel_rfl) hC h wn rfl rfl rfl ?_; clear h a; intro a h
  refine hd_move 2 (by kernel_rfl) (by kernel_rfl) (by kernel_rfl) hC h wn rfl rfl rfl ?_; clear h a; intro a h
  refine hd_move 3 (by kernel_rfl) (by kernel_rfl) (by kernel_rfl) hC h wn rfl rfl rfl ?_; clear h a; intro a h
  refine hd_move 4 (by kernel_rfl) (by kernel_rfl) (by kernel_rfl) hC h wn rfl rfl rfl ?_; clear h a; intro a h
  refine hd_move 5 (by kernel_rfl) (by kernel_rfl) (by kernel_rfl) hC h wn rfl rfl rfl ?_; clear h a; intro a h
  refine hd_idxS 6 (by kernel_rfl) (by kernel_rfl) (by kernel_rfl) hC (p := hs.length - 1 - k) h wn rfl rfl el43 (by omega) (by omega) (by omega) rfl rfl ?_; clear h a; intro a h
  refine hd_move 8 (by kernel_rfl) (by kernel_rfl) (by kernel_rfl) hC h wn rfl rfl rfl ?_; clear h a; intro a h
  refine hd_move 9 (by kernel_rfl) (by kernel_rfl) (by kernel_rfl) hC h wn rfl rfl rfl ?_; clear h a; intro a h
  refine hd_idxS 10 (by kernel_rfl) (by kernel_rfl) (by kernel_rfl) hC (p := k) h wn rfl rfl el43 (by omega) (by omega) (by omega) rfl rfl ?_; clear h a; intro a h
  refine hd_two 7 11 (by kernel_rfl) rfl rfl ?_ ?_
  ·refine id ?_
   refine st_loadC0 (v := slv y) h rfl cy na22 rfl ?_; clear h a; intro a h
   refine hd_next hC ?_
   refine hd_one 11 (by kernel_rfl) rfl ?_
   refine st_loadC0 (v := slv x) h rfl cx na22 rfl ?_; clear h a; intro a h
   refine hd_next hC ?_
   refine hd_idxS 12 (by kernel_rfl) (by kernel_rfl) (by kernel_rfl) hC (p := k) h wn rfl rfl el43 (by omega) (by omega) (by omega) rfl rfl ?_; clear h a; intro a h
   refine hd_one 13 (by kernel_rfl) rfl ?_
   refine st_storeO y h rfl rfl hL (by first | omega | (simp; omega)) rfl sz22 ?_; clear h a; intro w3 hO2 hq hz a h
   replace hf := hf.step hq (fun k hk _ => by simp at hk; subst hk; simp [blks])
   replace hC := hC.step hq (by simp)
   clear hL hq hz; have hL := hO2; clear hO2
   refine hd_next hC ?_
   refine hd_idxS 14 (by kernel_rfl) (by kernel_rfl) (by kernel_rfl) hC (p := hs.length - 1 - k) h wn rfl rfl el43 (by omega) (by omega) (by omega) rfl rfl ?_; clear h a; intro a h
   refine hd_one 15 (by kernel_rfl) rfl ?_
   refine st_storeO x h rfl rfl hL (by first | omega | (simp; omega)) rfl sz22 ?_; clear h a; intro w4 hO2 hq hz a h
   replace hf := hf.step hq (fun k hk _ => by simp at hk; subst hk; simp [blks])
   replace hC := hC.step hq (by simp)
   clear hL hq hz; have hL := hO2; clear hO2
   refine hd_next hC ?_
   refine hd_end (by kernel_rfl) ?_
   clear hC hL_b cx_b cy_b
   refine id ?_
   replace h : Ag a 28 [(0, _), (2, _), (3, _)] := h.sub (.cons rfl (.cons rfl (.cons rfl .nil)))
   refine (norm_blk (norm_then ?_))
   refine wR ?_
   refine st_move h rfl rfl ?_; clear h a; intro a h
   refine st_add h rfl rfl (by first | exact IntWalk.i64_in _ (by omega) | rfl) rfl ?_; clear h a; intro a h
   refine st_move h rfl rfl ?_; clear h a; intro a h
   refine st_sub h rfl rfl (by first | exact IntWalk.i64_in _ (by omega) | rfl) rfl ?_; clear h a; intro a h
   refine st_assign h rfl rfl ?_; clear h a; intro a h
   refine st_assign h rfl rfl ?_; clear h a; intro a h
   replace h : Ag a 28 [(0, _), (2, _), (3, _)] := h.sub (.cons rfl (.cons rfl (.cons rfl .nil)))
   refine wnt ?_
   exact ⟨(k + 1, _), h.sub (.cons rfl (.cons rfl (.cons (by show some (Value.int IntKind.i64 ((hs.length : Int) - 1 - (k : Int) - 1)) = some (Value.int IntKind.i64 ((hs.length : Int) - 1 - ((k + 1 : Nat) : Int))); congr 2; omega) .nil))), ⟨by simp only; omega, swapped_next hsw (by omega) hx hy, hL, hf⟩, by simp only; omega⟩
  ·refine id ?_
   refine st_loadC0 (v := slv x) h rfl cx na22 rfl ?_; clear h a; intro a h
   refine hd_next hC ?_
   refine hd_one 7 (by kernel_rfl) rfl ?_
   refine st_loadC0 (v := slv y) h rfl cy na22 rfl ?_; clear h a; intro a h
   refine hd_next hC ?_
   refine hd_idxS 12 (by kernel_rfl) (by kernel_rfl) (by kernel_rfl) hC (p := k) h wn rfl rfl el43 (by omega) (by omega) (by omega) rfl rfl ?_; clear h a; intro a h
   refine hd_one 13 (by kernel_rfl) rfl ?_
   refine st_storeO y h rfl rfl hL (by first | omega | (simp; omega)) rfl sz22 ?_; clear h a; intro w5 hO2 hq hz a h
   replace hf := hf.step hq (fun k hk _ => by simp at hk; subst hk; simp [blks])
   replace hC := hC.step hq (by simp)
   clear hL hq hz; have hL := hO2; clear hO2
   refine hd_next hC ?_
   refine hd_idxS 14 (by kernel_rfl) (by kernel_rfl) (by kernel_rfl) hC (p := hs.length - 1 - k) h wn rfl rfl el43 (by omega) (by omega) (by omega) rfl rfl ?_; clear h a; intro a h
   refine hd_one 15 (by kernel_rfl) rfl ?_
   refine st_storeO x h rfl rfl hL (by first | omega | (simp; omega)) rfl sz22 ?_; clear h a; intro w6 hO2 hq hz a h
   replace hf := hf.step hq (fun k hk _ => by simp at hk; subst hk; simp [blks])
   replace hC := hC.step hq (by simp)
   clear hL hq hz; have hL := hO2; clear hO2
   refine hd_next hC ?_
   refine hd_end (by kernel_rfl) ?_
   clear hC hL_b cx_b cy_b
   refine id ?_
   replace h : Ag a 28 [(0, _), (2, _), (3, _)] := h.sub (.cons rfl (.cons rfl (.cons rfl .nil)))
   refine (norm_blk (norm_then ?_))
   refine wR ?_
   refine st_move h rfl rfl ?_; clear h a; intro a h
   refine st_add h rfl rfl (by first | exact IntWalk.i64_in _ (by omega) | rfl) rfl ?_; clear h a; intro a h
   refine st_move h rfl rfl ?_; clear h a; intro a h
   refine st_sub h rfl rfl (by first | exact IntWalk.i64_in _ (by omega) | rfl) rfl ?_; clear h a; intro a h
   refine st_assign h rfl rfl ?_; clear h a; intro a h
   refine st_assign h rfl rfl ?_; clear h a; intro a h
   replace h : Ag a 28 [(0, _), (2, _), (3, _)] := h.sub (.cons rfl (.cons rfl (.cons rfl .nil)))
   refine wnt ?_
   exact ⟨(k + 1, _), h.sub (.cons rfl (.cons rfl (.cons (by show some (Value.int IntKind.i64 ((hs.length : Int) - 1 - (k : Int) - 1)) = some (Value.int IntKind.i64 ((hs.length : Int) - 1 - ((k + 1 : Nat) : Int))); congr 2; omega) .nil))), ⟨by simp only; omega, swapped_next hsw (by omega) hx hy, hL, hf⟩, by simp only; omega⟩
 ·refine id ?_
  refine wp_exit (exit_then (exit_then (exit_here ?_)))
  refine ret0n h Tryd.results36  ?_
  refine ⟨_, rfl, ?_, hf⟩
  rw [← swapped_end hsw (by omega)]; exact hL
end Go.Proofs.YtbbnampdgefljaaDoor
namespace Go.Proofs.YtbbnampdgefljaaDoor
open Go.Lw Go.G14
theorem co34 : CallOf Tryd.prog 34 := CallOf.mk' Tryd.func34 (by kernel_rfl) (by kernel_rfl)
theorem co35 : CallOf Tryd.prog 35 := CallOf.mk' Tryd.func35 (by kernel_rfl) (by kernel_rfl)
theorem co36 : CallOf Tryd.prog 36 := CallOf.mk' Tryd.func36 (by kernel_rfl) (by kernel_rfl)
theorem co37 : CallOf Tryd.prog 37 := CallOf.mk' Tryd.func37 (by kernel_rfl) (by kernel_rfl)
theorem co38 : CallOf Tryd.prog 38 := CallOf.mk' Tryd.func38 (by kernel_rfl) (by kernel_rfl)
set_option maxHeartbeats 1000000 in
theorem read_chart_ok (l : List UInt8) (w0 : World) (hy : Sym w0) (hm : IntAt 1 w0) (hl : l.length < 4294967281) : Rets Tryd.prog 20 #[S l] w0 fun v w' => ∃ A m c n e, v = .tuple #[.agg #[.slice A m c], .int .i64 n, .int .i64 e] ∧ ((rdS (l.length + 1) l 1 []).2.2 ≠ 0 → n = (rdS (l.length + 1) l 1 []).2.1 ∧ e = (rdS (l.length + 1) l 1 []).2.2 ∧ m = 0) ∧ ((rdS (l.length + 1) l 1 []).2.2 = 0 → n = 0 ∧ e = chartE (rdS (l.length + 1) l 1 []).1.reverse ∧ (e ≠ 0 → m = 0) ∧ (e = 0 → m = c ∧ Sll encSt w' (.slice A m c) (rdS (l.length + 1) l 1 []).1.reverse)) ∧ Fr [] w0 w' := by
 have h00 := hy.pos
 have h01 := hm.lt
 refine enter [(0, S l)] Tryd.func20 rfl Tryd.ntmps20 rfl (.cons rfl .nil) ?_
 have hf := Fr.refl [] w0
 intro a h
 refine wp_seq ?_
 refine wR ?_
 refine st_alloc h zv45 rfl rfl ?_; clear h a; intro w1 hb2 hq hz a h
 obtain ⟨g_2, hg⟩ : ∃ g, g = w0.heap.size := ⟨_, rfl⟩; rw [← hg] at hb2 h hz
 have hl2 : w0.heap.size ≤ g_2 := by have := hf.size; omega
 replace hf := hf.next hq
 replace hy := hy.ext hq
 replace hm := hm.ext hq
 clear hq hz hg
 refine st_assign h rfl rfl ?_; clear h a; intro a h
 refine st_assign h rfl rfl ?_; clear h a; intro a h
 replace h : Ag a 64 [(0, _), (2, _)] := h.sub (.cons rfl (.cons rfl .nil))
 refine wnt ?_
 refine wp_seq ?_
 refine wR ?_
 refine st_assign h rfl rfl ?_; clear h a; intro a h
 refine wnt ?_
 refine wp_seq ?_
 refine wp_seq ?_
 refine wR ?_
 refine st_assign h rfl rfl ?_; clear h a; intro a h
 refine wnt ?_
 refine wp_block ?_
 refine loop (ι := ReSt) (fun z => [(0, S z.s), (2, .pointer (some ⟨g_2, 0, none⟩)), (5, z.OV), (6, .int .i64 z.n)]) (fun z w' => rdS z.f z.s z.n (z.ps.map Prod.snd) = rdS (l.length + 1) l 1 [] ∧ z.s.length < z.f ∧ z.s.length ≤ l.length ∧ 1 ≤ z.n ∧ z.n + z.s.length ≤ l.length + 1 ∧ z.ps.length ≤ 32 ∧ Rws encSt 22 36 (g_2 + 1) w' z.OV z.ps ∧ Blk w' g_2 45 [.slice none 0 0] ∧ Sym w' ∧ IntAt 1 w' ∧ Fr [] w0 w') (fun z => z.s.length) ⟨l.length + 1, l, 1, .slice none 0 0, []⟩ (h.sub (.cons rfl (.cons rfl (.cons rfl (.cons rfl .nil))))) ⟨rfl, by simp, Nat.le_refl _, by simp, by simp only; omega, by simp, Rws.nil _, hb2, hy, hm, hf⟩ ?_
 clear h a hf hy hm hb2
 rintro ⟨f, s, n, OV, ps⟩ w2 a h ⟨hrd, hsf, hsl, hn1, hnl, hps, hR, hb2, hy, hm, hf⟩
 simp only at hrd hsf hsl hn1 hnl hps hR h
 obtain ⟨f', rfl⟩ : ∃ k, f = k + 1 := ⟨f - 1, by omega⟩
 refine wp_seq ?_
 refine wp_seq ?_
 refine wR ?_
 refine st_move h rfl rfl ?_; clear h a; intro a h
 refine st_nes h rfl rfl rfl ?_; clear h a; intro a h
 replace h : Ag a 64 [(0, _), (2, _), (5, _), (6, _), (15, _)] := h.sub (.cons rfl (.cons rfl (.cons rfl (.cons rfl (.cons rfl .nil)))))
 refine wnt ?_
 first | refine cond_dec h rfl (fun c0 => ?_) (fun c0 => ?_) | refine cond_ndec h rfl (fun c0 => ?_) (fun c0 => ?_) | refine cond_split h rfl (fun c0 => ?_) (fun c0 => ?_)
 ·have hcl := cut_len s [10]
  refine wsn ?_
  refine wp_seq ?_
  refine wp_block ?_
  refine wp_seq ?_
  refine wR ?_
  refine st_move h rfl rfl ?_; clear h a; intro a h
  refine st_call h (evs_cons rfl (evs_cons rfl evs_nil)) co33 (scut_ok _ _ _ hm (by omega)) rfl ?_; clear h a; rintro _ w3 ⟨rfl, hq⟩ a h
  replace hf := hf.next hq
  replace hy := hy.ext hq
  replace hm := hm.ext hq
  replace hb2 := hb2.ext hq
  replace hR := hR.ext hq
  clear hq
  refine st_move h rfl rfl ?_; clear h a; intro a h
  refine st_extract h rfl rfl rfl ?_; clear h a; intro a h
  refine st_extract h rfl rfl rfl ?_; clear h a; intro a h
  refine st_extract h rfl rfl rfl ?_; clear h a; intro a h
  refine st_assign h rfl rfl ?_; clear h a; intro a h
  refine st_assign h rfl rfl ?_; clear h a; intro a h
  refine st_assign h rfl rfl ?_; clear h a; intro a h
  replace h : Ag a 64 [(2, _), (5, _), (6, _), (7, _), (8, _), (9, _)] := h.sub (.cons rfl (.cons rfl (.cons rfl (.cons rfl (.cons rfl (.cons rfl .nil))))))
  refine wnt ?_
  refine wp_seq ?_
  refine wR ?_
  refine st_move h rfl rfl ?_; clear h a; intro a h
  refine st_call h (evs_cons rfl evs_nil) co34 (readline_ok _ _ hy hm (by omega)) rfl ?_; clear h a; rintro _ w4 ⟨x, t, rfl, rfl, hxo, hq⟩ a h
  have hOb := hR.bnd
  have hb2l := hb2.lt
  replace hf := hf.next hq
  replace hy := hy.ext hq
  replace hm := hm.ext hq
  replace hb2 := hb2.ext hq
  replace hR := hR.ext hq
  have hxO : (lineR (Lib.cut s [10]).1).2 ≠ 0 → ∀ k ∈ blks x, k ∉ blks OV := fun e k hk hk2 => by have := ((hxo e).blk k hk).1; have := hOb.1 k hk2; omega
  replace hxo : (lineR (Lib.cut s [10]).1).2 ≠ 0 → Lw.Own encSt 36 (g_2 + 1) w4 x (lineR (Lib.cut s [10]).1).1 := fun e => (hxo e).low (by omega)
  clear hq hOb hb2l
  refine st_move h rfl rfl ?_; clear h a; intro a h
  refine st_extract h rfl rfl rfl ?_; clear h a; intro a h
  refine st_extract h rfl rfl rfl ?_; clear h a; intro a h
  refine st_assign h rfl rfl ?_; clear h a; intro a h
  refine st_assign h rfl rfl ?_; clear h a; intro a h
  replace h : Ag a 64 [(2, _), (5, _), (6, _), (8, _), (9, _), (10, _), (11, _)] := h.sub (.cons rfl (.cons rfl (.cons rfl (.cons rfl (.cons rfl (.cons rfl (.cons rfl .nil)))))))
  refine wnt ?_
  refine wp_seq ?_
  refine wp_seq ?_
  refine region_bool (r := 34) (L' := [(2, _), (5, _), (6, _), (8, _), (10, _), (11, _)]) ((Lib.cut s [10]).2.2 = false ∨ (lineR (Lib.cut s [10]).1).2 = 0) h (.cons rfl (.cons rfl (.cons rfl (.cons rfl (.cons rfl (.cons rfl .nil)))))) ?_ ?_
  ·refine id ?_
   refine st_move h rfl rfl ?_; clear h a; intro a h
   refine st_not h rfl rfl ?_; clear h a; intro a h
   refine st_move h rfl rfl ?_; clear h a; intro a h
   first | refine guard_dec (D := 31) h rfl ?_ ?_ | refine guard_ndec (D := 31) h rfl ?_ ?_ | refine guard_any (D := 31) h rfl ?_ ?_
   ·clear h; intro g0 h
    refine gd_no h rfl rfl rfl rfl rfl rfl rfl rfl ?_; clear h a; intro a h
    refine gd_no h rfl rfl rfl rfl rfl rfl rfl rfl ?_; clear h a; intro a h
    refine st_pick_t h rfl rfl rfl rfl ?_; clear h a; intro a h
    exact wpList_nil (bool_end h rfl (by first | exact bt (.inl (by simpa using g0)) | exact bi ⟨fun e => .inr e, fun e => e.resolve_left (by simpa using g0)⟩) (.cons rfl (.cons rfl (.cons rfl (.cons rfl (.cons rfl (.cons rfl .nil)))))))
   ·clear h; intro g0 h
    refine gd_yes h rfl rfl rfl rfl rfl rfl ?_
    refine st_move h rfl rfl ?_; clear h a; intro a h
    refine gd_yes h rfl rfl rfl rfl rfl rfl ?_
    refine st_eq h rfl rfl rfl ?_; clear h a; intro a h
    refine st_pick_f h rfl rfl rfl rfl ?_; clear h a; intro a h
    exact wpList_nil (bool_end h rfl (by first | exact bt (.inl (by simpa using g0)) | exact bi ⟨fun e => .inr e, fun e => e.resolve_left (by simpa using g0)⟩) (.cons rfl (.cons rfl (.cons rfl (.cons rfl (.cons rfl (.cons rfl .nil)))))))
  ·clear h a; intro a h
   refine (norm_then ?_)
   first | refine cond_dec h rfl (fun c1 => ?_) (fun c1 => ?_) | refine cond_ndec h rfl (fun c1 => ?_) (fun c1 => ?_) | refine cond_split h rfl (fun c1 => ?_) (fun c1 => ?_)
   ·have hbadl : (Lib.cut s [10]).2.2 = false ∨ (lineR (Lib.cut s [10]).1).2 = 0 := c1
    rw [rd_bad c0 hbadl] at hrd
    refine wp_seq ?_
    refine wR ?_
    refine st_lit (cs := [_]) h evs_nil bo45 pok_nil rfl rfl ?_; clear h a; intro a h
    refine st_move h rfl rfl ?_; clear h a; intro a h
    refine st_storeBA h rfl rfl hb2 rfl (by first | (simp [Value.oneCell', S]; done) | exact Enc.one _ _) sz45 ?_; clear h a; intro w5 hbn hq hz a h
    replace hf := hf.step hq (by first | (simp; done) | (simp; omega))
    replace hy := hy.fr hq (by first | (simp; done) | (simp; omega) | (simp [blks]; done) | (simp [blks]; omega))
    replace hm := hm.fr hq (by first | (simp; done) | (simp; omega) | (simp [blks]; done) | (simp [blks]; omega))
    replace hR := hR.fr hq (by first | (simp; done) | (simp; omega) | (simp [blks]; done) | (simp [blks]; omega))
    clear hb2 hq hz; have hb2 : Blk w5 g_2 _ [_] := hbn; clear hbn
    refine st_assign h rfl rfl ?_; clear h a; intro a h
    refine st_assign h rfl rfl ?_; clear h a; intro a h
    replace h : Ag a 64 [(2, _), (3, _), (4, _)] := h.sub (.cons rfl (.cons rfl (.cons rfl .nil)))
    refine wnt ?_
    refine wp_ret (ret_then (ret_blk (ret_then (ret_then (ret_blk (ret_then ?_))))))
    refine retCTT h Tryd.results20 rfl hb2 ag45 rfl rfl ?_
    exact ⟨_, rfl, _, _, _, _, _, rfl, fun _ => by rw [← hrd]; exact ⟨rfl, rfl, rfl⟩, fun e => by rw [← hrd] at e; exact absurd e (by simp), hf⟩
   ·have hgood : ¬ ((Lib.cut s [10]).2.2 = false ∨ (lineR (Lib.cut s [10]).1).2 = 0) := c1
    have ht0 : (lineR (Lib.cut s [10]).1).2 ≠ 0 := fun e => hgood (.inr e)
    have htr := lineR_rng (Lib.cut s [10]).1
    have hx := hxo ht0
    obtain ⟨hrne, hrok, hr16⟩ := lineR_row ht0
    replace hxO := hxO ht0
    have hfound : (Lib.cut s [10]).2.2 = true := by cases e : (Lib.cut s [10]).2.2 with | true => rfl | false => exact absurd (.inl e) hgood
    have hcut := congrArg List.length (cut_ten hfound)
    simp only [List.length_append, List.length_cons] at hcut
    obtain ⟨row, hrow⟩ : ∃ r, r = (lineR (Lib.cut s [10]).1).1 := ⟨_, rfl⟩
    rw [← hrow] at hx hrne hrok hr16
    obtain ⟨OA, oc, e, hoc⟩ := hR.out.sl.form
    rw [List.length_map] at e hoc
    subst e
    refine wsn ?_
    refine wp_seq ?_
    refine wp_seq ?_
    refine wR ?_
    refine st_move h rfl rfl ?_; clear h a; intro a h
    refine st_move h rfl rfl ?_; clear h a; intro a h
    refine st_lenS h rfl Tryd.underlying43 rfl ?_; clear h a; intro a h
    refine st_sub h rfl rfl (by first | exact IntWalk.i64_in _ (by omega) | rfl) rfl ?_; clear h a; intro a h
    refine st_min h rfl rfl rfl ?_; clear h a; intro a h
    refine st_move h rfl rfl ?_; clear h a; intro a h
    replace h : Ag a 64 [(2, _), (5, _), (6, _), (8, _), (10, _), (41, _), (42, _)] := h.sub (.cons rfl (.cons rfl (.cons rfl (.cons rfl (.cons rfl (.cons rfl (.cons rfl .nil)))))))
    refine wnt ?_
    refine wp_block ?_
    refine loop (ι := CpSt) (fun z => [(2, .pointer (some ⟨g_2, 0, none⟩)), (5, z.OV), (6, .int .i64 n), (8, S (Lib.cut s [10]).2.1), (10, x), (41, .int .i64 (min (lineR (Lib.cut s [10]).1).2 (32 - (ps.length : Int)))), (42, .int .i64 (z.j : Int))]) (fun z w' => (z.j : Int) ≤ min (lineR (Lib.cut s [10]).1).2 (32 - (ps.length : Int)) ∧ (z.ps.map Prod.snd) = (ps.map Prod.snd) ++ List.replicate z.j row ∧ z.ps.length = ps.length + z.j ∧ Rws encSt 22 36 (g_2 + 1) w' z.OV z.ps ∧ Lw.Own encSt 36 (g_2 + 1) w' x row ∧ (∀ k ∈ blks x, k ∉ blks z.OV) ∧ Blk w' g_2 45 [.slice none 0 0] ∧ Sym w' ∧ IntAt 1 w' ∧ Fr [] w0 w') (fun z => (min (lineR (Lib.cut s [10]).1).2 (32 - (ps.length : Int))).toNat - z.j) ⟨0, _, ps⟩ (h.sub (.cons rfl (.cons rfl (.cons rfl (.cons rfl (.cons rfl (.cons rfl (.cons rfl .nil)))))))) ⟨by simp only; omega, by simp, rfl, hR, hx, hxO, hb2, hy, hm, hf⟩ ?_
    clear h a hf hy hm hb2 hR hx hxO
    rintro ⟨j, OV2, ps2⟩ w6 a h ⟨hj, hmp, hpl, hR, hx, hxO, hb2, hy, hm, hf⟩
    simp only at hj hmp hpl hR hxO h
    refine wp_seq ?_
    refine wR ?_
    refine st_lt h rfl rfl rfl ?_; clear h a; intro a h
    refine wnt ?_
    refine wp_seq ?_
    first | refine cond_dec h rfl (fun c2 => ?_) (fun c2 => ?_) | refine cond_ndec h rfl (fun c2 => ?_) (fun c2 => ?_) | refine cond_split h rfl (fun c2 => ?_) (fun c2 => ?_)
    ·refine id ?_
     refine wsn ?_
     refine wp_seq ?_
     refine wp_block ?_
     refine wR ?_
     refine st_move h rfl rfl ?_; clear h a; intro a h
     refine st_move h rfl rfl ?_; clear h a; intro a h
     have hOb := hR.bnd
     have hfsz := hf.size
     have hb2l := hb2.lt
     refine st_call h (evs_cons rfl evs_nil) co35 (clone_ok _ row _ hx.sl hrne hr16) rfl ?_; clear h a; rintro X w7 ⟨hX, hq⟩ a h
     have hXO : ∀ k ∈ blks X, k ∉ blks OV2 := fun k hk hk2 => by have := (hX.blk k hk).1; have := hOb.1 k hk2; omega
     replace hX := hX.low (show g_2 + 1 ≤ _ by omega)
     replace hf := hf.next hq
     replace hy := hy.ext hq
     replace hm := hm.ext hq
     replace hb2 := hb2.ext hq
     replace hR := hR.ext hq
     replace hx := hx.ext hq
     clear hq hOb hfsz hb2l
     obtain ⟨XA, xc, rfl, hxc⟩ := hX.sl.form
     refine st_call h (evs_cons rfl evs_nil) co26 (clip_ok _ _ _ _ hxc) rfl ?_; clear h a; rintro _ _ ⟨rfl, rfl⟩ a h
     replace hX := hX.take rfl (m := row.length) (Nat.le_refl _) hxc (Nat.le_refl _)
     rw [List.take_length] at hX
     refine st_bslice [((XA, row.length, row.length) : SV)] h (evs_cons rfl evs_nil) rfl rfl rfl el43 (by decide) rfl ?_; clear h a; intro gV w8 hg hoV hq hz a h
     replace hf := hf.next hq
     replace hy := hy.ext hq
     replace hm := hm.ext hq
     replace hb2 := hb2.ext hq
     replace hR := hR.ext hq
     replace hx := hx.ext hq
     replace hX := hX.ext hq
     clear hq hz hg
     have hbO := hR.out.blk
     refine st_append h rfl rfl hR.out hoV.sl el43 (by unfold maxLen; simp; omega) (by simp; omega) (by have := hb2.lt; omega) rfl ?_; clear h a; intro O3 w9 ho3 hq hx3 a h
     replace hR := hR.push (u := (XA, row.length, row.length)) hX (fun k hk hk2 => hXO k (by rw [blks_any XA _ _ row.length row.length]; exact hk) hk2) ho3 hq hx3
     have hxO3 : ∀ k ∈ blks x, k ∉ blks O3 := by
      intro k hk
      rcases hx3 with e | e | e
      ·rw [e]; exact hxO k hk
      ·rw [e]; exact hxO k hk
      ·rw [e]; have := (hx.blk k hk).2; simp; omega
     replace hx := hx.fr hq (fun k hk hb => hxO k hb hk)
     replace hb2 := hb2.fr hq (fun hb => by have := (hbO _ hb).1; omega)
     replace hy := hy.fr hq (fun hb => by have := (hbO _ hb).1; omega)
     replace hm := hm.fr hq (fun hb => by have := (hbO _ hb).1; omega)
     replace hf := hf.step hq (fun k hk hlt => absurd (hbO k hk).1 (by omega))
     clear hq hx3 hoV hbO ho3 hX hXO hxO; have hxO := hxO3; clear hxO3
     refine st_assign h rfl rfl ?_; clear h a; intro a h
     replace h : Ag a 64 [(2, _), (5, _), (6, _), (8, _), (10, _), (41, _), (42, _)] := h.sub (.cons rfl (.cons rfl (.cons rfl (.cons rfl (.cons rfl (.cons rfl (.cons rfl .nil)))))))
     refine wpList_nil (norm_blk (norm_then ?_))
     refine wR ?_
     refine st_add h rfl rfl (by first | exact IntWalk.i64_in _ (by omega) | rfl) rfl ?_; clear h a; intro a h
     refine st_move h rfl rfl ?_; clear h a; intro a h
     replace h : Ag a 64 [(2, _), (5, _), (6, _), (8, _), (10, _), (41, _), (42, _)] := h.sub (.cons rfl (.cons rfl (.cons rfl (.cons rfl (.cons rfl (.cons rfl (.cons rfl .nil)))))))
     refine wnt ?_
     exact ⟨⟨j + 1, O3, ps2 ++ [((XA, row.length, row.length), row)]⟩, h.sub (.cons rfl (.cons rfl (.cons rfl (.cons rfl (.cons rfl (.cons rfl (.cons rfl .nil))))))), ⟨by simp only; omega, by simp [hmp, List.replicate_succ'], by simp [hpl]; omega, hR, hx, hxO, hb2, hy, hm, hf⟩, by simp only; omega⟩
    ·have hjm : (j : Int) = min (lineR (Lib.cut s [10]).1).2 (32 - (ps.length : Int)) := by omega
     have hps2 : ps2.length ≤ 32 := by omega
     rw [show j = (min (lineR (Lib.cut s [10]).1).2 (32 - (ps.length : Int))).toNat by omega, hrow] at hmp
     refine wp_exit (exit_then (exit_then (exit_here (norm_then ?_))))
     refine wR ?_
     refine st_move h rfl rfl ?_; clear h a; intro a h
     refine st_assign h rfl rfl ?_; clear h a; intro a h
     replace h : Ag a 64 [(0, _), (2, _), (5, _), (6, _)] := h.sub (.cons rfl (.cons rfl (.cons rfl (.cons rfl .nil))))
     refine wpList_nil (norm_blk (norm_then ?_))
     refine wR ?_
     refine st_move h rfl rfl ?_; clear h a; intro a h
     refine st_add h rfl rfl (by first | exact IntWalk.i64_in _ (by omega) | rfl) rfl ?_; clear h a; intro a h
     refine st_assign h rfl rfl ?_; clear h a; intro a h
     replace h : Ag a 64 [(0, _), (2, _), (5, _), (6, _)] := h.sub (.cons rfl (.cons rfl (.cons rfl (.cons rfl .nil))))
     refine wnt ?_
     exact ⟨⟨f', (Lib.cut s [10]).2.1, n + 1, OV2, ps2⟩, h.sub (.cons rfl (.cons rfl (.cons rfl (.cons rfl .nil)))), ⟨by rw [← hrd, rd_next c0 hgood, hmp, List.length_map], by simp only; omega, by simp only; omega, by simp only; omega, by simp only; omega, hps2, hR, hb2, hy, hm, hf⟩, by simp only; omega⟩
 ·obtain rfl : s = [] := Decidable.not_not.1 c0
  rw [rd_done] at hrd
  refine wp_exit (exit_then (exit_then (exit_here (norm_then ?_))))
  refine wp_seq ?_
  refine wR ?_
  refine st_move h rfl rfl ?_; clear h a; intro a h
  have hbO := hR.out.blk
  refine st_call h (evs_cons rfl evs_nil) co36 (reverse_ok _ _ _ _ hR.out) rfl ?_; clear h a; rintro _ w10 ⟨ho3, hq⟩ a h
  replace hR := hR.rev ho3 hq
  replace hb2 := hb2.fr hq (fun hb => by have := (hbO _ hb).1; omega)
  replace hf := hf.step hq (fun k hk hlt => absurd (hbO k hk).1 (by omega))
  clear hq ho3 hbO hy hm
  obtain ⟨OA, oc, rfl, hoc⟩ := hR.out.sl.form
  rw [List.length_map] at hoc hR h
  replace h : Ag a 64 [(2, _), (5, _)] := h.sub (.cons rfl (.cons rfl .nil))
  refine wnt ?_
  refine wp_seq ?_
  refine wR ?_
  refine st_move h rfl rfl ?_; clear h a; intro a h
  refine st_call h (evs_cons rfl evs_nil) co37 (clipr_ok _ _ _ _ hoc) rfl ?_; clear h a; rintro _ _ ⟨rfl, rfl⟩ a h
  replace hR := hR.clip
  obtain ⟨gZ, hgz'⟩ : ∃ g, g = w10.heap.size := ⟨_, rfl⟩
  have hRA : RAll gZ (.slice OA ps.reverse.length ps.reverse.length) ps.reverse := by rw [hgz']; exact hR.bnd
  have hgz : gZ ≤ w10.heap.size := by omega
  refine st_lit (cs := [_]) h (evs_cons rfl evs_nil) bo45 (pok_cons rfl rfl rfl pok_nil) rfl rfl ?_; clear h a; intro a h
  refine st_alloc h zv45 rfl rfl ?_; clear h a; intro w11 hb12 hq hz a h
  obtain ⟨g_12, hg⟩ : ∃ g, g = w10.heap.size := ⟨_, rfl⟩; rw [← hg] at hb12 h hz
  have hl12 : w0.heap.size ≤ g_12 := by have := hf.size; omega
  have hn_2_12 : g_2 < g_12 := by have := hb2.lt; omega
  have hl_hgz_12 : gZ ≤ g_12 := by omega
  replace hf := hf.next hq
  replace hb2 := hb2.ext hq
  first | (replace hR := hR.up hq hRA (by first | (simp; done) | (simp; omega))) | (replace hR := hR.fr hq (by first | (simp; done) | (simp; omega)))
  replace hgz := Nat.le_trans hgz hq.size
  clear hq hz hg
  refine st_storeBA h rfl rfl hb12 rfl (by first | (simp [Value.oneCell', S]; done) | exact Enc.one _ _) sz45 ?_; clear h a; intro w12 hbn hq hz a h
  replace hf := hf.step hq (by first | (simp; done) | (simp; omega))
  replace hb2 := hb2.fr hq (by first | (simp; done) | (simp; omega) | (simp [blks]; done) | (simp [blks]; omega))
  first | (replace hR := hR.up hq hRA (by first | (simp; done) | (simp; omega))) | (replace hR := hR.fr hq (by first | (simp; done) | (simp; omega)))
  replace hgz := Nat.le_trans hgz hq.size
  clear hb12 hq hz; have hb12 : Blk w12 g_12 _ [_] := hbn; clear hbn
  replace h : Ag a 64 [(2, _), (12, _)] := h.sub (.cons rfl (.cons rfl .nil))
  refine wnt ?_
  refine wp_seq ?_
  refine wp_seq ?_
  refine wR ?_
  refine st_loadBA h rfl hb12 ag45 rfl ?_; clear h a; intro a h
  refine st_call h (evs_cons rfl evs_nil) co38 (check_chart_ok _ _ _ hR.sll) rfl ?_; clear h a; rintro _ w13 ⟨rfl, hq⟩ a h
  replace hf := hf.next hq
  replace hb2 := hb2.ext hq
  first | (replace hR := hR.up hq hRA (by first | (simp; done) | (simp; omega))) | (replace hR := hR.fr hq (by first | (simp; done) | (simp; omega)))
  replace hgz := Nat.le_trans hgz hq.size
  replace hb12 := hb12.ext hq
  clear hq
  refine st_assign h rfl rfl ?_; clear h a; intro a h
  replace h : Ag a 64 [(2, _), (12, _), (13, _)] := h.sub (.cons rfl (.cons rfl (.cons rfl .nil)))
  refine wnt ?_
  refine wp_seq ?_
  refine wR ?_
  refine st_move h rfl rfl ?_; clear h a; intro a h
  refine st_ne h rfl rfl rfl ?_; clear h a; intro a h
  replace h : Ag a 64 [(2, _), (12, _), (13, _), (60, _)] := h.sub (.cons rfl (.cons rfl (.cons rfl (.cons rfl .nil))))
  refine wnt ?_
  first | refine cond_dec h rfl (fun c3 => ?_) (fun c3 => ?_) | refine cond_ndec h rfl (fun c3 => ?_) (fun c3 => ?_) | refine cond_split h rfl (fun c3 => ?_) (fun c3 => ?_)
  ·refine id ?_
   refine wp_seq ?_
   refine wR ?_
   refine st_lit (cs := [_]) h evs_nil bo45 pok_nil rfl rfl ?_; clear h a; intro a h
   refine st_move h rfl rfl ?_; clear h a; intro a h
   refine st_storeBA h rfl rfl hb2 rfl (by first | (simp [Value.oneCell', S]; done) | exact Enc.one _ _) sz45 ?_; clear h a; intro w14 hbn hq hz a h
   replace hf := hf.step hq (by first | (simp; done) | (simp; omega))
   first | (replace hR := hR.up hq hRA (by first | (simp; done) | (simp; omega))) | (replace hR := hR.fr hq (by first | (simp; done) | (simp; omega)))
   replace hgz := Nat.le_trans hgz hq.size
   replace hb12 := hb12.fr hq (by first | (simp; done) | (simp; omega) | (simp [blks]; done) | (simp [blks]; omega))
   clear hb2 hq hz; have hb2 : Blk w14 g_2 _ [_] := hbn; clear hbn
   refine st_assign h rfl rfl ?_; clear h a; intro a h
   refine st_assign h rfl rfl ?_; clear h a; intro a h
   replace h : Ag a 64 [(2, _), (3, _), (4, _)] := h.sub (.cons rfl (.cons rfl (.cons rfl .nil)))
   refine wnt ?_
   refine wp_ret (ret_then ?_)
   refine retCTT h Tryd.results20 rfl hb2 ag45 rfl rfl ?_
   exact ⟨_, rfl, _, _, _, _, _, rfl, fun e => by rw [← hrd] at e; exact absurd rfl e, fun _ => by rw [← hrd]; exact ⟨rfl, by rw [← List.map_reverse], fun _ => rfl, fun e => absurd e c3⟩, hf⟩
  ·refine id ?_
   refine wsn ?_
   refine wp_seq ?_
   refine wR ?_
   refine st_loadBA h rfl hb12 ag45 rfl ?_; clear h a; intro a h
   refine st_storeBA h rfl rfl hb2 rfl (by first | (simp [Value.oneCell', S]; done) | exact Enc.one _ _) sz45 ?_; clear h a; intro w15 hbn hq hz a h
   replace hf := hf.step hq (by first | (simp; done) | (simp; omega))
   first | (replace hR := hR.up hq hRA (by first | (simp; done) | (simp; omega))) | (replace hR := hR.fr hq (by first | (simp; done) | (simp; omega)))
   replace hgz := Nat.le_trans hgz hq.size
   replace hb12 := hb12.fr hq (by first | (simp; done) | (simp; omega) | (simp [blks]; done) | (simp [blks]; omega))
   clear hb2 hq hz; have hb2 : Blk w15 g_2 _ [_] := hbn; clear hbn
   refine st_assign h rfl rfl ?_; clear h a; intro a h
   refine st_assign h rfl rfl ?_; clear h a; intro a h
   replace h : Ag a 64 [(2, _), (3, _), (4, _)] := h.sub (.cons rfl (.cons rfl (.cons rfl .nil)))
   refine wnt ?_
   refine wp_ret ?_
   refine retCTT h Tryd.results20 rfl hb2 ag45 rfl rfl ?_
   exact ⟨_, rfl, _, _, _, _, _, rfl, fun e => by rw [← hrd] at e; exact absurd rfl e, fun _ => by rw [← hrd]; exact ⟨rfl, by rw [← List.map_reverse]; exact (Decidable.not_not.1 c3).symm, fun e => absurd rfl e, fun _ => ⟨rfl, by rw [← List.map_reverse]; exact hR.sll⟩⟩, hf⟩
end Go.Proofs.YtbbnampdgefljaaDoor
namespace Go.G14
open Go.Lw

def textOf (ls : List (List UInt8)) : List UInt8 := ls.flatMap (· ++ [10])
def rowsOf (ls : List (List UInt8)) : List (List Stitch) := ls.flatMap fun x => List.replicate (lineR x).2.toNat (lineR x).1
/-- The number of the first line that is wrong, or 0. -/
def badS : List (List UInt8) → Int
  | [] => 0
  | x :: r => if (lineR x).2 = 0 then 1 else if badS r = 0 then 0 else badS r + 1
theorem badS_nonneg : ∀ ls, 0 ≤ badS ls ∧ badS ls ≤ ls.length
  | [] => by simp [badS]
  | x :: r => by
    have := badS_nonneg r
    unfold badS
    (repeat' split) <;> simp <;> omega
theorem badS_snoc : ∀ (ls : List (List UInt8)) (x : List UInt8), badS (ls ++ [x]) = if badS ls = 0 then (if (lineR x).2 = 0 then (ls.length : Int) + 1 else 0) else badS ls
  | [], x => by simp [badS]
  | y :: r, x => by
    rw [List.cons_append, badS, badS, badS_snoc r x]
    have hr := badS_nonneg r
    by_cases h1 : (lineR y).2 = 0
    · simp [h1]
    · rw [if_neg h1, if_neg h1]
      by_cases h2 : badS r = 0
      · rw [if_pos h2, if_pos h2]
        by_cases h3 : (lineR x).2 = 0
        · rw [if_pos h3, if_neg (by omega)]; simp [h3]
        · rw [if_neg h3]; simp [h3]
      · simp only [if_neg h2]
        rw [if_neg (show ¬ badS r + 1 = 0 by omega)]
theorem rowsOf_snoc (ls : List (List UInt8)) (x : List UInt8) : (rowsOf (ls ++ [x])).reverse = List.replicate (lineR x).2.toNat (lineR x).1 ++ (rowsOf ls).reverse := by
  simp [rowsOf]
theorem cut_line {x rest : List UInt8} (hx : ∀ c ∈ x, c ≠ 10) : Lib.cut (x ++ 10 :: rest) [10] = (x, rest, true) := by
  have hi : Lib.index (x ++ 10 :: rest) [10] = (x.length : Int) := by
    refine Lib.index_first (by simp) ?_ ?_
    · simp [Lib.occAt, List.isPrefixOf]
    · intro j hj
      unfold Lib.occAt
      have hne : ((10 : UInt8) == x[j]) = false := by rw [beq_eq_false_iff_ne]; exact fun e => hx _ (List.getElem_mem hj) e.symm
      rw [List.drop_append_of_le_length (by omega), List.drop_eq_getElem_cons hj, List.cons_append, List.isPrefixOf, hne, Bool.false_and]
  unfold Lib.cut
  rw [hi, if_pos (by omega)]
  simp
theorem cut_none {x : List UInt8} (hx : ∀ c ∈ x, c ≠ 10) : (Lib.cut x [10]).2.2 = false := by
  have hi : Lib.index x [10] = -1 := by
    refine Lib.index_none fun j _ => ?_
    unfold Lib.occAt
    rcases Nat.lt_or_ge j x.length with h | h
    · rw [List.drop_eq_getElem_cons h]
      have hne : (10 : UInt8) ≠ x[j] := fun e => hx _ (List.getElem_mem h) e.symm
      simp [List.isPrefixOf, hne]
    · rw [List.drop_eq_nil_iff.2 h]; rfl
  unfold Lib.cut
  rw [hi, if_neg (by omega)]
theorem text_cons (x : List UInt8) (ls : List (List UInt8)) (t : List UInt8) : textOf (x :: ls) ++ t = x ++ 10 :: (textOf ls ++ t) := by simp [textOf]
theorem take_add {α : Type} (rows : List α) (n k : Nat) (r : α) (rest : List α) (h : rows.length ≤ 32) (hk : k = min n (32 - rows.length)) : (rows ++ List.replicate k r ++ rest).take 32 = (rows ++ List.replicate n r ++ rest).take 32 := by
  rcases Nat.lt_or_ge (32 - rows.length) n with h1 | h1
  · have e : k = 32 - rows.length := by omega
    have hL : (rows ++ List.replicate k r ++ rest).take 32 = rows ++ List.replicate k r := by
      rw [show 32 = (rows ++ List.replicate k r).length by simp; omega]; exact List.take_left
    have hR : (rows ++ List.replicate n r ++ rest).take 32 = rows ++ List.replicate k r := by
      rw [List.append_assoc, List.take_append, List.take_of_length_le h, List.take_append_of_le_length (by simp; omega), List.take_replicate]
      congr 2; omega
    rw [hL, hR]
  · rw [show k = n by omega]
/-- Lines that are ended, and a rest. -/
theorem rd_text : ∀ (ls : List (List UInt8)) (t : List UInt8) (f : Nat) (n : Int) (rows : List (List Stitch)), (∀ x ∈ ls, ∀ c ∈ x, c ≠ 10) → (textOf ls ++ t).length < f → rows.length ≤ 32 →
    (badS ls ≠ 0 → rdS f (textOf ls ++ t) n rows = ([], n + badS ls - 1, 4)) ∧
    (badS ls = 0 → ∃ g rows', rdS f (textOf ls ++ t) n rows = rdS g t (n + ls.length) rows' ∧ t.length < g ∧ rows'.length ≤ 32 ∧ rows' = (rows ++ rowsOf ls).take 32)
  | [], t, f, n, rows, _, hf, hr => by
    refine ⟨fun h => absurd rfl h, fun _ => ⟨f, rows, by simp [textOf], by simpa [textOf] using hf, hr, by simp [rowsOf, List.take_of_length_le hr]⟩⟩
  | x :: ls, t, f, n, rows, hx, hf, hr => by
    rw [text_cons] at hf ⊢
    obtain ⟨g, rfl⟩ : ∃ g, f = g + 1 := ⟨f - 1, by omega⟩
    have hne : x ++ 10 :: (textOf ls ++ t) ≠ [] := by simp
    have hc := cut_line (rest := textOf ls ++ t) (hx x (by simp))
    have hlr := lineR_rng x
    by_cases hb : (lineR x).2 = 0
    · have e1 : badS (x :: ls) = 1 := by rw [badS, if_pos hb]
      refine ⟨fun _ => ?_, fun h => by rw [e1] at h; cases h⟩
      rw [rd_bad hne (.inr (by rw [hc]; exact hb)), e1]
      congr 2; omega
    · have e2 : badS (x :: ls) = if badS ls = 0 then 0 else badS ls + 1 := by rw [badS, if_neg hb]
      have hgood : ¬ ((Lib.cut (x ++ 10 :: (textOf ls ++ t)) [10]).2.2 = false ∨ (lineR (Lib.cut (x ++ 10 :: (textOf ls ++ t)) [10]).1).2 = 0) := by
        rw [hc]; rintro (e | e)
        · cases e
        · exact hb e
      have hstep := rd_next (f := g) (n := n) (rows := rows) hne hgood
      rw [hc] at hstep
      simp only at hstep
      have hk : (min (lineR x).2 (32 - (rows.length : Int))).toNat = min (lineR x).2.toNat (32 - rows.length) := by omega
      rw [hk] at hstep
      obtain ⟨ih1, ih2⟩ := rd_text ls t g (n + 1) (rows ++ List.replicate (min (lineR x).2.toNat (32 - rows.length)) (lineR x).1) (fun y hy => hx y (by simp [hy])) (by simp at hf ⊢; omega) (by simp; omega)
      rw [e2]
      constructor
      · intro h
        have hb2 : badS ls ≠ 0 := by intro e; rw [if_pos e] at h; exact h rfl
        rw [if_neg hb2, hstep, ih1 hb2]
        congr 2; omega
      · intro h
        have hb2 : badS ls = 0 := by
          by_cases e : badS ls = 0
          · exact e
          · rw [if_neg e] at h; have := badS_nonneg ls; omega
        obtain ⟨g', rows', h1, h2, h3, h4⟩ := ih2 hb2
        refine ⟨g', rows', by rw [hstep, h1]; congr 1; simp; omega, h2, h3, ?_⟩
        rw [h4, take_add rows (lineR x).2.toNat _ _ _ hr rfl]
        simp [rowsOf]
/-- The text and the number of the wrong line, where the last line may not be ended. -/
def finText (ls : List (List UInt8)) (op : Bool) : List UInt8 := if op = true ∧ 0 < ls.length then (textOf ls).take ((textOf ls).length - 1) else textOf ls
def finBad (ls : List (List UInt8)) (op : Bool) : Int :=
  if op = true ∧ 0 < ls.length then (if ls.getD (ls.length - 1) [] = [] ∧ badS ls = ls.length then 0 else if badS ls = 0 then ls.length else badS ls) else badS ls
theorem line_empty : (lineR []).2 = 0 := by decide +kernel
theorem chart_cut (rows : List (List Stitch)) : chartE ((rows.take 32).reverse) = chartE rows.reverse ∧ (chartE rows.reverse = 0 → (rows.take 32).reverse = rows.reverse) := by
  rcases Nat.lt_or_ge rows.length 33 with h | h
  · rw [List.take_of_length_le (by omega)]; exact ⟨rfl, fun _ => rfl⟩
  · have h1 : chartE rows.reverse = 3 := chart_bad (rows3 (by simp; omega)) (by decide)
    have h2 : chartE ((rows.take 32).reverse) = 3 := chart_bad (rows3 (by simp; omega)) (by decide)
    exact ⟨by rw [h1, h2], fun e => by rw [h1] at e; cases e⟩
theorem read_facts (ls : List (List UInt8)) (op : Bool) (hx : ∀ x ∈ ls, ∀ c ∈ x, c ≠ 10) :
    (0 < finBad ls op → (rdS ((finText ls op).length + 1) (finText ls op) 1 []).2.2 = 4 ∧ (rdS ((finText ls op).length + 1) (finText ls op) 1 []).2.1 = finBad ls op) ∧
    (¬ 0 < finBad ls op → (rdS ((finText ls op).length + 1) (finText ls op) 1 []).2.2 = 0 ∧ chartE (rdS ((finText ls op).length + 1) (finText ls op) 1 []).1.reverse = chartE (rowsOf ls).reverse ∧ (chartE (rowsOf ls).reverse = 0 → (rdS ((finText ls op).length + 1) (finText ls op) 1 []).1.reverse = (rowsOf ls).reverse)) := by
  have hbn := badS_nonneg ls
  have closed : ∀ (ms : List (List UInt8)), (∀ x ∈ ms, ∀ c ∈ x, c ≠ 10) → (badS ms ≠ 0 → rdS ((textOf ms).length + 1) (textOf ms) 1 [] = ([], badS ms, 4)) ∧ (badS ms = 0 → rdS ((textOf ms).length + 1) (textOf ms) 1 [] = ((rowsOf ms).take 32, 0, 0)) := by
    intro ms hm
    obtain ⟨h1, h2⟩ := rd_text ms [] ((textOf ms).length + 1) 1 [] hm (by simp) (by simp)
    rw [List.append_nil] at h1 h2
    refine ⟨fun h => by rw [h1 h]; congr 2; omega, fun h => ?_⟩
    obtain ⟨g, rows', e1, _, _, e4⟩ := h2 h
    rw [e1, rd_done, e4, List.nil_append]
  by_cases ho : op = true ∧ 0 < ls.length
  · have hT : finText ls op = (textOf ls).take ((textOf ls).length - 1) := if_pos ho
    have hB : finBad ls op = if ls.getD (ls.length - 1) [] = [] ∧ badS ls = ls.length then 0 else if badS ls = 0 then (ls.length : Int) else badS ls := if_pos ho
    obtain ⟨init, last, rfl⟩ : ∃ init last, ls = init ++ [last] := ⟨ls.dropLast, ls.getLast (List.length_pos_iff.1 ho.2), (List.dropLast_concat_getLast _).symm⟩
    have hl : (init ++ [last]).getD ((init ++ [last]).length - 1) [] = last := by simp [List.getD]
    have ht : (textOf (init ++ [last])).take ((textOf (init ++ [last])).length - 1) = textOf init ++ last := by
      have e : textOf (init ++ [last]) = (textOf init ++ last) ++ [10] := by simp [textOf]
      have e2 : ((textOf init ++ last) ++ [10]).length - 1 = (textOf init ++ last).length := by simp
      rw [e, e2]; exact List.take_left
    rw [hl] at hB
    rw [ht] at hT
    have hxi : ∀ x ∈ init, ∀ c ∈ x, c ≠ 10 := fun x h => hx x (by simp [h])
    have hxl : ∀ c ∈ last, c ≠ 10 := hx last (by simp)
    have hbi := badS_nonneg init
    have hsn := badS_snoc init last
    have hlen : (((init ++ [last]).length : Nat) : Int) = init.length + 1 := by simp
    rw [hT, hB]
    by_cases hlast : last = []
    · subst hlast
      rw [line_empty, if_pos rfl] at hsn
      rw [List.append_nil]
      obtain ⟨c1, c2⟩ := closed init hxi
      by_cases hb0 : badS init = 0
      · rw [if_pos hb0] at hsn
        rw [if_pos ⟨rfl, by omega⟩, c2 hb0]
        refine ⟨fun h => absurd h (by omega), fun _ => ⟨rfl, ?_⟩⟩
        have hrr : rowsOf (init ++ [[]]) = rowsOf init := by simp [rowsOf, line_empty]
        rw [hrr]; exact chart_cut _
      · rw [if_neg hb0] at hsn
        rw [if_neg (by omega), if_neg (by omega), c1 hb0]
        exact ⟨fun _ => ⟨rfl, by rw [hsn]⟩, fun h => absurd h (by omega)⟩
    · rw [if_neg (fun e => hlast e.1)]
      obtain ⟨h1, h2⟩ := rd_text init last ((textOf init ++ last).length + 1) 1 [] hxi (by omega) (by simp)
      by_cases hb0 : badS init = 0
      · obtain ⟨g, rows', e1, e2, _, _⟩ := h2 hb0
        obtain ⟨g', rfl⟩ : ∃ k, g = k + 1 := ⟨g - 1, by omega⟩
        rw [e1, rd_bad hlast (.inl (cut_none hxl))]
        rw [if_pos hb0] at hsn
        have hv : (if badS (init ++ [last]) = 0 then (((init ++ [last]).length : Nat) : Int) else badS (init ++ [last])) = init.length + 1 := by
          split
          · exact hlen
          · rename_i h; rw [hsn] at h ⊢; split at h
            · rename_i h5; rw [if_pos h5]
            · exact absurd rfl h
        rw [hv]
        exact ⟨fun _ => ⟨rfl, by simp only; omega⟩, fun h => absurd h (by omega)⟩
      · rw [if_neg hb0] at hsn
        rw [h1 hb0, if_neg (by omega), hsn]
        exact ⟨fun _ => ⟨rfl, by simp only; omega⟩, fun h => absurd h (by omega)⟩
  · have hT : finText ls op = textOf ls := if_neg ho
    have hB : finBad ls op = badS ls := if_neg ho
    rw [hT, hB]
    obtain ⟨c1, c2⟩ := closed ls hx
    refine ⟨fun h => by rw [c1 (by omega)]; exact ⟨rfl, rfl⟩, fun h => ?_⟩
    rw [c2 (by omega)]
    exact ⟨rfl, chart_cut _⟩
theorem text_snoc (ls : List (List UInt8)) (x : List UInt8) : textOf (ls ++ [x]) = textOf ls ++ (x ++ [10]) := by simp [textOf]
theorem textOf_len (ls : List (List UInt8)) (h : ∀ x ∈ ls, x.length ≤ 100) : (textOf ls).length ≤ 101 * ls.length := by
  induction ls with
  | nil => simp [textOf]
  | cons x r ih =>
    have := ih (fun y hy => h y (by simp [hy]))
    have := h x (by simp)
    simp only [textOf, List.flatMap_cons, List.length_append, List.length_cons, List.length_nil] at *
    omega
theorem sll_cons {w : World} {v : Value} {u : SV} {hs : List SV} {row : List Stitch} {rows : List (List Stitch)} (h : Sl Enc.sl w v ([u] ++ hs)) (hr : Sl encSt w (slv u) row) (hl : hs.length = rows.length) (hi : ∀ (i : Nat) (p : SV) (r : List Stitch), hs[i]? = some p → rows[i]? = some r → Sl encSt w (slv p) r) : Sll encSt w v (row :: rows) := by
  refine ⟨[u] ++ hs, h, by simp [hl], fun i p r hp hrr => ?_⟩
  match i with
  | 0 => simp at hp hrr; subst hp hrr; exact hr
  | i + 1 => exact hi i p r (by simpa using hp) (by simpa using hrr)
theorem sll_nil (w : World) : Sll encSt w (.slice none 0 0) [] := ⟨[], Sl.nil w, rfl, fun i p r h => by simp at h⟩
theorem rowsOf_len (ls : List (List UInt8)) : (rowsOf ls).length ≤ 31 * ls.length := by
  induction ls with
  | nil => simp [rowsOf]
  | cons x r ih =>
    have := lineR_rng x
    simp only [rowsOf, List.flatMap_cons, List.length_append, List.length_replicate, List.length_cons] at *
    omega
theorem rowsOf_ok (ls : List (List UInt8)) : ∀ r ∈ (rowsOf ls).reverse, ∀ x ∈ r, 0 ≤ x.k ∧ 0 ≤ x.y := by
  intro r hr x hx
  obtain ⟨y, hy, h⟩ := List.mem_flatMap.1 (List.mem_reverse.1 hr)
  obtain ⟨h1, rfl⟩ := List.mem_replicate.1 h
  have h2 : (lineR y).2 ≠ 0 := fun e => h1 (by rw [e]; rfl)
  exact okB_pos (List.all_eq_true.1 (lineR_row h2).2.1 x hx)
theorem take_snocL {α : Type} {l : List α} {k : Nat} {x : α} (h : l[k]? = some x) : l.take (k + 1) = l.take k ++ [x] := by rw [List.take_add_one, h]; rfl
theorem bad_next {ls : List (List UInt8)} {k : Nat} {x : List UInt8} (h : ls[k]? = some x) : badS (ls.take (k + 1)) = if badS (ls.take k) = 0 then (if (lineR x).2 = 0 then (k : Int) + 1 else 0) else badS (ls.take k) := by
  have hk : k < ls.length := (List.getElem?_eq_some_iff.1 h).1
  rw [take_snocL h, badS_snoc, List.length_take, Nat.min_eq_left (by omega)]
theorem bad_yes {ls : List (List UInt8)} {k : Nat} {x : List UInt8} (h : ls[k]? = some x) (c : (lineR x).2 = 0 ∧ badS (ls.take k) = 0) : badS (ls.take (k + 1)) = (k : Int) + 1 := by rw [bad_next h, if_pos c.2, if_pos c.1]
theorem bad_no {ls : List (List UInt8)} {k : Nat} {x : List UInt8} (h : ls[k]? = some x) (c : ¬ ((lineR x).2 = 0 ∧ badS (ls.take k) = 0)) : badS (ls.take (k + 1)) = badS (ls.take k) := by
  rw [bad_next h]
  split
  · rename_i e; rw [if_neg (fun e2 => c ⟨e2, e⟩), e]
  · rfl
theorem mem_next {ls : List (List UInt8)} {k : Nat} {x : List UInt8} {P : List UInt8 → Prop} (h : ls[k]? = some x) (ha : ∀ y ∈ ls.take k, P y) (hx : P x) : ∀ y ∈ ls.take (k + 1), P y := by
  rw [take_snocL h]
  intro y hy
  rcases List.mem_append.1 hy with hy | hy
  · exact ha y hy
  · simp at hy; subst hy; exact hx
theorem no_ten {x : List UInt8} (h : ∀ i, i < x.length → x.getD i 0 ≠ 10) : ∀ c ∈ x, c ≠ 10 := by
  intro c hc
  obtain ⟨i, hi⟩ := List.getElem?_of_mem hc
  have hl := (List.getElem?_eq_some_iff.1 hi).1
  have := h i hl
  rw [List.getD, hi] at this; exact this
end Go.G14
namespace Go.Proofs.YtbbnampdgefljaaDoor
open Go.Lw Go.G14
theorem co19 : CallOf Tryd.prog 19 := CallOf.mk' Tryd.func19 (by kernel_rfl) (by kernel_rfl)
theorem co20 : CallOf Tryd.prog 20 := CallOf.mk' Tryd.func20 (by kernel_rfl) (by kernel_rfl)
theorem co21 : CallOf Tryd.prog 21 := CallOf.mk' Tryd.func21 (by kernel_rfl) (by kernel_rfl)
set_option maxHeartbeats 2000000 in
theorem law_read (u : Value) (ls : List (List UInt8)) (op : Bool) (w0 : World) (hu : Sl Enc.str w0 u ls) (hy : Sym w0) (hm : IntAt 1 w0) : Rets Tryd.prog 7 #[u, .bool op] w0 fun v w' => v = .bool true ∧ Fr [] w0 w' := by
 have h00 := hy.pos
 have h01 := hm.lt
 obtain ⟨A, c, rfl, hcp⟩ := hu.form
 obtain ⟨-, -, hM, hA⟩ := Sl.open_ hu
 unfold maxLen at hM
 refine enter [(0, .slice A ls.length c), (1, .bool op)] Tryd.func7 rfl Tryd.ntmps7 rfl (.cons rfl (.cons rfl .nil)) ?_
 have hf := Fr.refl [] w0
 intro a h
 refine wp_seq ?_
 refine wR ?_
 refine st_assign h rfl rfl ?_; clear h a; intro a h
 replace h : Ag a 172 [(0, _), (1, _)] := h.sub (.cons rfl (.cons rfl .nil))
 refine wnt ?_
 refine wp_seq ?_
 refine wp_seq ?_
 refine wR ?_
 refine st_move h rfl rfl ?_; clear h a; intro a h
 refine st_lenS h rfl Tryd.underlying48 rfl ?_; clear h a; intro a h
 refine st_gt h rfl rfl rfl ?_; clear h a; intro a h
 replace h : Ag a 172 [(0, _), (1, _), (20, _)] := h.sub (.cons rfl (.cons rfl (.cons rfl .nil)))
 refine wnt ?_
 first | refine cond_dec h rfl (fun c0 => ?_) (fun c0 => ?_) | refine cond_ndec h rfl (fun c0 => ?_) (fun c0 => ?_) | refine cond_split h rfl (fun c0 => ?_) (fun c0 => ?_)
 ·refine id ?_
  refine wp_seq ?_
  refine wR ?_
  refine st_assign h rfl rfl ?_; clear h a; intro a h
  replace h : Ag a 172 [(4, _)] := h.sub (.cons rfl .nil)
  refine wnt ?_
  refine wp_ret (ret_then ?_)
  refine ret1 h Tryd.results7 rfl ?_
  first | exact ⟨_, rfl, rfl, hf⟩ | (exfalso; first | omega | simp_all)
 ·refine id ?_
  refine wsn ?_
  refine wp_seq ?_
  refine wR ?_
  refine st_assign h rfl rfl ?_; clear h a; intro a h
  replace h : Ag a 172 [(0, _), (1, _), (5, _)] := h.sub (.cons rfl (.cons rfl (.cons rfl .nil)))
  refine wnt ?_
  refine wp_seq ?_
  refine wR ?_
  refine st_assign h rfl rfl ?_; clear h a; intro a h
  refine wnt ?_
  refine wp_seq ?_
  refine wR ?_
  refine st_assign h rfl rfl ?_; clear h a; intro a h
  refine wnt ?_
  refine wp_seq ?_
  refine wp_seq ?_
  refine wR ?_
  refine st_assign h rfl rfl ?_; clear h a; intro a h
  refine wnt ?_
  refine wp_block ?_
  refine loop (ι := Nat × Value) (fun z => [(0, .slice A ls.length c), (1, .bool op), (5, S (textOf (ls.take z.1))), (6, .int .i64 (badS (ls.take z.1))), (7, z.2), (8, .int .i64 (z.1 : Int))]) (fun z w' => z.1 ≤ ls.length ∧ (∀ y ∈ ls.take z.1, y.length ≤ 100 ∧ ∀ c ∈ y, c ≠ 10) ∧ Sll encSt w' z.2 (rowsOf (ls.take z.1)).reverse ∧ Sym w' ∧ IntAt 1 w' ∧ Fr [] w0 w') (fun z => ls.length - z.1) (0, .slice none 0 0) (h.sub (.cons rfl (.cons rfl (.cons rfl (.cons rfl (.cons rfl (.cons rfl .nil))))))) ⟨Nat.zero_le _, by simp, sll_nil _, hy, hm, hf⟩ ?_
  clear h a hf hy hm
  rintro ⟨k, AV⟩ w1 a h ⟨hk, hgd, hAll, hy, hm, hf⟩
  simp only at hk hgd hAll h
  refine wp_seq ?_
  refine wp_seq ?_
  refine wR ?_
  refine st_move h rfl rfl ?_; clear h a; intro a h
  refine st_move h rfl rfl ?_; clear h a; intro a h
  refine st_lenS h rfl Tryd.underlying48 rfl ?_; clear h a; intro a h
  refine st_lt h rfl rfl rfl ?_; clear h a; intro a h
  replace h : Ag a 172 [(0, _), (1, _), (5, _), (6, _), (7, _), (8, _), (24, _)] := h.sub (.cons rfl (.cons rfl (.cons rfl (.cons rfl (.cons rfl (.cons rfl (.cons rfl .nil)))))))
  refine wnt ?_
  first | refine cond_dec h rfl (fun c1 => ?_) (fun c1 => ?_) | refine cond_ndec h rfl (fun c1 => ?_) (fun c1 => ?_) | refine cond_split h rfl (fun c1 => ?_) (fun c1 => ?_)
  ·obtain ⟨x, hxk⟩ : ∃ x, ls[k]? = some x := ⟨_, List.getElem?_eq_getElem (by omega)⟩
   obtain ⟨ad, hAd, ca⟩ := hA k x hxk
   have hbn := badS_nonneg (ls.take k)
   have htl := textOf_len (ls.take k) (fun y hy => (hgd y hy).1)
   have hrl := rowsOf_len (ls.take k)
   rw [List.length_take] at htl hrl
   refine wsn ?_
   refine wp_seq ?_
   refine wp_block ?_
   refine wp_seq ?_
   refine wp_seq ?_
   refine wR ?_
   refine st_move h rfl rfl ?_; clear h a; intro a h
   refine st_move h rfl rfl ?_; clear h a; intro a h
   refine st_idxS h (by rw [hAd]; rfl) rfl el48 (by omega) (by omega) rfl rfl ?_; clear h a; intro a h
   refine st_loadC0 h rfl (ca.fr hf (by simp)) na9 rfl ?_; clear h a; intro a h
   refine st_len h rfl Tryd.underlying9 rfl ?_; clear h a; intro a h
   refine st_gt h rfl rfl rfl ?_; clear h a; intro a h
   replace h : Ag a 172 [(0, _), (1, _), (5, _), (6, _), (7, _), (8, _), (32, _)] := h.sub (.cons rfl (.cons rfl (.cons rfl (.cons rfl (.cons rfl (.cons rfl (.cons rfl .nil)))))))
   refine wnt ?_
   first | refine cond_dec h rfl (fun c2 => ?_) (fun c2 => ?_) | refine cond_ndec h rfl (fun c2 => ?_) (fun c2 => ?_) | refine cond_split h rfl (fun c2 => ?_) (fun c2 => ?_)
   ·refine id ?_
    refine wp_seq ?_
    refine wR ?_
    refine st_assign h rfl rfl ?_; clear h a; intro a h
    replace h : Ag a 172 [(4, _)] := h.sub (.cons rfl .nil)
    refine wnt ?_
    refine wp_ret (ret_then (ret_blk (ret_then (ret_then (ret_blk (ret_then ?_))))))
    refine ret1 h Tryd.results7 rfl ?_
    first | exact ⟨_, rfl, rfl, hf⟩ | (exfalso; first | omega | simp_all)
   ·refine id ?_
    refine wsn ?_
    refine wp_seq ?_
    refine wp_seq ?_
    refine wR ?_
    refine st_assign h rfl rfl ?_; clear h a; intro a h
    replace h : Ag a 172 [(0, _), (1, _), (5, _), (6, _), (7, _), (8, _), (9, _)] := h.sub (.cons rfl (.cons rfl (.cons rfl (.cons rfl (.cons rfl (.cons rfl (.cons rfl .nil)))))))
    refine wnt ?_
    refine wp_block ?_
    refine loop (ι := Nat) (fun m => [(0, .slice A ls.length c), (1, .bool op), (5, S (textOf (ls.take k))), (6, .int .i64 (badS (ls.take k))), (7, AV), (8, .int .i64 (k : Int)), (9, .int .i64 (m : Int))]) (fun m w' => m ≤ x.length ∧ (∀ i, i < m → x.getD i 0 ≠ 10) ∧ Sll encSt w' AV (rowsOf (ls.take k)).reverse ∧ Sym w' ∧ IntAt 1 w' ∧ Fr [] w0 w') (fun m => x.length - m) 0 (h.sub (.cons rfl (.cons rfl (.cons rfl (.cons rfl (.cons rfl (.cons rfl (.cons rfl .nil)))))))) ⟨by omega, fun i h => by omega, hAll, hy, hm, hf⟩ ?_
    clear h a hf hy hm hAll
    rintro m w2 a h ⟨hmx, hno, hAll, hy, hm, hf⟩
    refine wp_seq ?_
    refine wp_seq ?_
    refine wR ?_
    refine st_move h rfl rfl ?_; clear h a; intro a h
    refine st_move h rfl rfl ?_; clear h a; intro a h
    refine st_move h rfl rfl ?_; clear h a; intro a h
    refine st_idxS h (by rw [hAd]; rfl) rfl el48 (by omega) (by omega) rfl rfl ?_; clear h a; intro a h
    refine st_loadC0 h rfl (ca.fr hf (by simp)) na9 rfl ?_; clear h a; intro a h
    refine st_len h rfl Tryd.underlying9 rfl ?_; clear h a; intro a h
    refine st_lt h rfl rfl rfl ?_; clear h a; intro a h
    replace h : Ag a 172 [(0, _), (1, _), (5, _), (6, _), (7, _), (8, _), (9, _), (39, _)] := h.sub (.cons rfl (.cons rfl (.cons rfl (.cons rfl (.cons rfl (.cons rfl (.cons rfl (.cons rfl .nil))))))))
    refine wnt ?_
    first | refine cond_dec h rfl (fun c3 => ?_) (fun c3 => ?_) | refine cond_ndec h rfl (fun c3 => ?_) (fun c3 => ?_) | refine cond_split h rfl (fun c3 => ?_) (fun c3 => ?_)
    ·refine id ?_
     refine wsn ?_
     refine wp_seq ?_
     refine wp_block ?_
     refine wp_seq ?_
     refine wR ?_
     refine st_move h rfl rfl ?_; clear h a; intro a h
     refine st_move h rfl rfl ?_; clear h a; intro a h
     refine st_idxS h (by rw [hAd]; rfl) rfl el48 (by omega) (by omega) rfl rfl ?_; clear h a; intro a h
     refine st_loadC0 h rfl (ca.fr hf (by simp)) na9 rfl ?_; clear h a; intro a h
     refine st_move h rfl rfl ?_; clear h a; intro a h
     refine st_index (p := m) h rfl rfl Tryd.underlying9 (by omega) (by omega) (by omega) rfl ?_; clear h a; intro hy47 a h
     refine st_eq h rfl rfl rfl ?_; clear h a; intro a h
     replace h : Ag a 172 [(0, _), (1, _), (5, _), (6, _), (7, _), (8, _), (9, _), (48, _)] := h.sub (.cons rfl (.cons rfl (.cons rfl (.cons rfl (.cons rfl (.cons rfl (.cons rfl (.cons rfl .nil))))))))
     refine wnt ?_
     first | refine cond_dec h rfl (fun c4 => ?_) (fun c4 => ?_) | refine cond_ndec h rfl (fun c4 => ?_) (fun c4 => ?_) | refine cond_split h rfl (fun c4 => ?_) (fun c4 => ?_)
     ·refine id ?_
      refine wp_seq ?_
      refine wR ?_
      refine st_assign h rfl rfl ?_; clear h a; intro a h
      replace h : Ag a 172 [(4, _)] := h.sub (.cons rfl .nil)
      refine wnt ?_
      refine wp_ret (ret_blk (ret_then (ret_then (ret_blk (ret_then (ret_blk (ret_then (ret_then (ret_blk (ret_then ?_))))))))))
      refine ret1 h Tryd.results7 rfl ?_
      first | exact ⟨_, rfl, rfl, hf⟩ | (exfalso; first | omega | simp_all)
     ·refine id ?_
      refine wp_skip (norm_blk (norm_then ?_))
      refine wR ?_
      refine st_move h rfl rfl ?_; clear h a; intro a h
      refine st_add h rfl rfl (by first | exact IntWalk.i64_in _ (by omega) | rfl) rfl ?_; clear h a; intro a h
      refine st_assign h rfl rfl ?_; clear h a; intro a h
      replace h : Ag a 172 [(0, _), (1, _), (5, _), (6, _), (7, _), (8, _), (9, _)] := h.sub (.cons rfl (.cons rfl (.cons rfl (.cons rfl (.cons rfl (.cons rfl (.cons rfl .nil)))))))
      refine wnt ?_
      exact ⟨m + 1, h.sub (.cons rfl (.cons rfl (.cons rfl (.cons rfl (.cons rfl (.cons rfl (.cons rfl .nil))))))), ⟨by omega, fun i hi => by rcases Nat.lt_or_ge i m with h | h; exact hno i h; rw [show i = m by omega]; exact fun e => c4 (by rw [e]; rfl), hAll, hy, hm, hf⟩, by omega⟩
    ·obtain rfl : m = x.length := by omega
     have hx10 := no_ten hno
     refine wp_exit (exit_then (exit_then (exit_here (norm_then ?_))))
     refine wp_seq ?_
     refine wR ?_
     refine st_move h rfl rfl ?_; clear h a; intro a h
     refine st_move h rfl rfl ?_; clear h a; intro a h
     refine st_idxS h (by rw [hAd]; rfl) rfl el48 (by omega) (by omega) rfl rfl ?_; clear h a; intro a h
     refine st_loadC0 h rfl (ca.fr hf (by simp)) na9 rfl ?_; clear h a; intro a h
     refine st_call h (evs_cons rfl evs_nil) co19 (refline_ok _ _ hy (by omega)) rfl ?_; clear h a; rintro _ w3 ⟨rv, rfl, hrv, hq⟩ a h
     replace hf := hf.next hq
     replace hy := hy.ext hq
     replace hm := hm.ext hq
     replace hAll := hAll.ext hq
     clear hq
     obtain ⟨RA, rc, rfl, hrc⟩ := hrv.form
     have hlr := lineR_rng x
     refine st_move h rfl rfl ?_; clear h a; intro a h
     refine st_extract h rfl rfl rfl ?_; clear h a; intro a h
     refine st_extract h rfl rfl rfl ?_; clear h a; intro a h
     refine st_assign h rfl rfl ?_; clear h a; intro a h
     refine st_assign h rfl rfl ?_; clear h a; intro a h
     replace h : Ag a 172 [(0, _), (1, _), (5, _), (6, _), (7, _), (8, _), (10, _), (11, _)] := h.sub (.cons rfl (.cons rfl (.cons rfl (.cons rfl (.cons rfl (.cons rfl (.cons rfl (.cons rfl .nil))))))))
     refine wnt ?_
     refine seq_cut (Cut (ι := Unit) 172 (fun u => [(0, .slice A ls.length c), (1, .bool op), (5, S (textOf (ls.take k))), (6, .int .i64 (badS (ls.take (k + 1)))), (7, AV), (8, .int .i64 (k : Int)), (10, .slice RA (lineR x).1.length rc), (11, .int .i64 (lineR x).2)]) (fun u w' => Sll encSt w' AV (rowsOf (ls.take k)).reverse ∧ Sl encSt w' (.slice RA (lineR x).1.length rc) (lineR x).1 ∧ Sym w' ∧ IntAt 1 w' ∧ Fr [] w0 w')) ?_ ?_
     ·refine id ?_
      refine wp_seq ?_
      refine region_bool (r := 62) (L' := [(0, _), (1, _), (5, _), (6, _), (7, _), (8, _), (10, _), (11, _)]) ((lineR x).2 = 0 ∧ badS (ls.take k) = 0) h (.cons rfl (.cons rfl (.cons rfl (.cons rfl (.cons rfl (.cons rfl (.cons rfl (.cons rfl .nil)))))))) ?_ ?_
      ·refine id ?_
       refine st_move h rfl rfl ?_; clear h a; intro a h
       refine st_eq h rfl rfl rfl ?_; clear h a; intro a h
       refine st_move h rfl rfl ?_; clear h a; intro a h
       first | refine guard_dec (D := 59) h rfl ?_ ?_ | refine guard_ndec (D := 59) h rfl ?_ ?_ | refine guard_any (D := 59) h rfl ?_ ?_
       ·clear h; intro g0 h
        refine gd_yes h rfl rfl rfl rfl rfl rfl ?_
        refine st_move h rfl rfl ?_; clear h a; intro a h
        refine gd_yes h rfl rfl rfl rfl rfl rfl ?_
        refine st_eq h rfl rfl rfl ?_; clear h a; intro a h
        refine st_pick_t h rfl rfl rfl rfl ?_; clear h a; intro a h
        exact wpList_nil (bool_end h rfl (by first | exact bt (by omega) | exact bf (by omega) | exact bi (by omega) | exact bn (by omega)) (.cons rfl (.cons rfl (.cons rfl (.cons rfl (.cons rfl (.cons rfl (.cons rfl (.cons rfl .nil)))))))))
       ·clear h; intro g0 h
        refine gd_no h rfl rfl rfl rfl rfl rfl rfl rfl ?_; clear h a; intro a h
        refine gd_no h rfl rfl rfl rfl rfl rfl rfl rfl ?_; clear h a; intro a h
        refine st_pick_f h rfl rfl rfl rfl ?_; clear h a; intro a h
        exact wpList_nil (bool_end h rfl (by first | exact bt (by omega) | exact bf (by omega) | exact bi (by omega) | exact bn (by omega)) (.cons rfl (.cons rfl (.cons rfl (.cons rfl (.cons rfl (.cons rfl (.cons rfl (.cons rfl .nil)))))))))
      ·clear h a; intro a h
       refine (norm_then ?_)
       first | refine cond_dec h rfl (fun c5 => ?_) (fun c5 => ?_) | refine cond_ndec h rfl (fun c5 => ?_) (fun c5 => ?_) | refine cond_split h rfl (fun c5 => ?_) (fun c5 => ?_)
       ·refine id ?_
        refine wR ?_
        refine st_move h rfl rfl ?_; clear h a; intro a h
        refine st_add h rfl rfl (by first | exact IntWalk.i64_in _ (by omega) | rfl) rfl ?_; clear h a; intro a h
        refine st_assign h rfl rfl ?_; clear h a; intro a h
        replace h : Ag a 172 [(0, _), (1, _), (5, _), (6, _), (7, _), (8, _), (10, _), (11, _)] := h.sub (.cons rfl (.cons rfl (.cons rfl (.cons rfl (.cons rfl (.cons rfl (.cons rfl (.cons rfl .nil))))))))
        refine wnt ?_
        exact ⟨(), h.sub (.cons rfl (.cons rfl (.cons rfl (.cons (by first | (rw [bad_yes hxk c5]; rfl) | (rw [bad_no hxk c5]; rfl)) (.cons rfl (.cons rfl (.cons rfl (.cons rfl .nil)))))))), hAll, hrv, hy, hm, hf⟩
       ·refine id ?_
        refine wsn ?_
        exact ⟨(), h.sub (.cons rfl (.cons rfl (.cons rfl (.cons (by first | (rw [bad_yes hxk c5]; rfl) | (rw [bad_no hxk c5]; rfl)) (.cons rfl (.cons rfl (.cons rfl (.cons rfl .nil)))))))), hAll, hrv, hy, hm, hf⟩
     ·clear h a hf hy hm hAll hrv
      rintro a w4 ⟨u, h, ⟨hAll, hrv, hy, hm, hf⟩⟩
      refine wp_seq ?_
      refine wp_seq ?_
      refine wR ?_
      refine st_assign h rfl rfl ?_; clear h a; intro a h
      refine wnt ?_
      refine wp_block ?_
      refine loop (ι := Nat × Value) (fun z => [(0, .slice A ls.length c), (1, .bool op), (5, S (textOf (ls.take k))), (6, .int .i64 (badS (ls.take (k + 1)))), (7, z.2), (8, .int .i64 (k : Int)), (10, .slice RA (lineR x).1.length rc), (11, .int .i64 (lineR x).2), (12, .int .i64 (z.1 : Int))]) (fun z w' => (z.1 : Int) ≤ (lineR x).2 ∧ Sll encSt w' z.2 (List.replicate z.1 (lineR x).1 ++ (rowsOf (ls.take k)).reverse) ∧ Sl encSt w' (.slice RA (lineR x).1.length rc) (lineR x).1 ∧ Sym w' ∧ IntAt 1 w' ∧ Fr [] w0 w') (fun z => (lineR x).2.toNat - z.1) (0, AV) (h.sub (.cons rfl (.cons rfl (.cons rfl (.cons rfl (.cons rfl (.cons rfl (.cons rfl (.cons rfl (.cons rfl .nil)))))))))) ⟨by simp only; omega, hAll, hrv, hy, hm, hf⟩ ?_
      clear h a hf hy hm hAll hrv
      rintro ⟨j, AV2⟩ w5 a h ⟨hj, hAll, hrv, hy, hm, hf⟩
      simp only at hj hAll h
      refine wp_seq ?_
      refine wp_seq ?_
      refine wR ?_
      refine st_move h rfl rfl ?_; clear h a; intro a h
      refine st_move h rfl rfl ?_; clear h a; intro a h
      refine st_lt h rfl rfl rfl ?_; clear h a; intro a h
      replace h : Ag a 172 [(0, _), (1, _), (5, _), (6, _), (7, _), (8, _), (10, _), (11, _), (12, _), (67, _)] := h.sub (.cons rfl (.cons rfl (.cons rfl (.cons rfl (.cons rfl (.cons rfl (.cons rfl (.cons rfl (.cons rfl (.cons rfl .nil))))))))))
      refine wnt ?_
      first | refine cond_dec h rfl (fun c6 => ?_) (fun c6 => ?_) | refine cond_ndec h rfl (fun c6 => ?_) (fun c6 => ?_) | refine cond_split h rfl (fun c6 => ?_) (fun c6 => ?_)
      ·refine id ?_
       refine wsn ?_
       refine wp_seq ?_
       refine wp_block ?_
       refine wR ?_
       refine st_move h rfl rfl ?_; clear h a; intro a h
       obtain ⟨hs, hsl, hsn, hsi⟩ := hAll
       have hfa := Fr.refl [] w5
       refine st_bslice [((RA, (lineR x).1.length, rc) : SV)] h (evs_cons rfl evs_nil) rfl rfl rfl el43 (by decide) rfl ?_; clear h a; intro gV w6 hg hoV hq hz a h
       replace hfa := hfa.next hq
       clear hq
       refine st_move h rfl rfl ?_; clear h a; intro a h
       refine st_append h rfl rfl hoV (hsl.ext hfa) el43 (by unfold maxLen; simp at hsn ⊢; omega) (by simp at hsn ⊢; omega) (by omega) rfl ?_; clear h a; intro AV3 w7 ho3 hq2 hx3 a h
       have hq := hfa.step hq2 (by simp [blks]; omega)
       have hAll := sll_cons ho3.sl (hrv.ext hq) hsn (fun i p r hp hr => (hsi i p r hp hr).ext hq)
       clear hfa hq2 hx3 hoV ho3 hsl hsi hg hz
       replace hf := hf.next hq
       replace hy := hy.ext hq
       replace hm := hm.ext hq
       replace hrv := hrv.ext hq
       clear hq hs hsn
       refine st_assign h rfl rfl ?_; clear h a; intro a h
       replace h : Ag a 172 [(0, _), (1, _), (5, _), (6, _), (7, _), (8, _), (10, _), (11, _), (12, _)] := h.sub (.cons rfl (.cons rfl (.cons rfl (.cons rfl (.cons rfl (.cons rfl (.cons rfl (.cons rfl (.cons rfl .nil)))))))))
       refine wpList_nil (norm_blk (norm_then ?_))
       refine wR ?_
       refine st_move h rfl rfl ?_; clear h a; intro a h
       refine st_add h rfl rfl (by first | exact IntWalk.i64_in _ (by omega) | rfl) rfl ?_; clear h a; intro a h
       refine st_assign h rfl rfl ?_; clear h a; intro a h
       replace h : Ag a 172 [(0, _), (1, _), (5, _), (6, _), (7, _), (8, _), (10, _), (11, _), (12, _)] := h.sub (.cons rfl (.cons rfl (.cons rfl (.cons rfl (.cons rfl (.cons rfl (.cons rfl (.cons rfl (.cons rfl .nil)))))))))
       refine wnt ?_
       exact ⟨(j + 1, AV3), h.sub (.cons rfl (.cons rfl (.cons rfl (.cons rfl (.cons rfl (.cons rfl (.cons rfl (.cons rfl (.cons rfl .nil))))))))), ⟨by simp only; omega, hAll, hrv, hy, hm, hf⟩, by simp only; omega⟩
      ·have hjt : j = (lineR x).2.toNat := by omega
       rw [hjt] at hAll
       refine wp_exit (exit_then (exit_then (exit_here (norm_then ?_))))
       refine wR ?_
       refine st_move h rfl rfl ?_; clear h a; intro a h
       refine st_move h rfl rfl ?_; clear h a; intro a h
       refine st_move h rfl rfl ?_; clear h a; intro a h
       refine st_idxS h (by rw [hAd]; rfl) rfl el48 (by omega) (by omega) rfl rfl ?_; clear h a; intro a h
       refine st_loadC0 h rfl (ca.fr hf (by simp)) na9 rfl ?_; clear h a; intro a h
       refine st_adds h rfl rfl (by first | (simp; done) | (simp; omega)) rfl ?_; clear h a; intro a h
       refine st_adds h rfl rfl (by first | (simp; done) | (simp; omega)) rfl ?_; clear h a; intro a h
       refine st_assign h rfl rfl ?_; clear h a; intro a h
       replace h : Ag a 172 [(0, _), (1, _), (5, _), (6, _), (7, _), (8, _)] := h.sub (.cons rfl (.cons rfl (.cons rfl (.cons rfl (.cons rfl (.cons rfl .nil))))))
       refine wpList_nil (norm_blk (norm_then ?_))
       refine wR ?_
       refine st_move h rfl rfl ?_; clear h a; intro a h
       refine st_add h rfl rfl (by first | exact IntWalk.i64_in _ (by omega) | rfl) rfl ?_; clear h a; intro a h
       refine st_assign h rfl rfl ?_; clear h a; intro a h
       replace h : Ag a 172 [(0, _), (1, _), (5, _), (6, _), (7, _), (8, _)] := h.sub (.cons rfl (.cons rfl (.cons rfl (.cons rfl (.cons rfl (.cons rfl .nil))))))
       refine wnt ?_
       exact ⟨(k + 1, _), h.sub (.cons rfl (.cons rfl (.cons (by rw [take_snocL hxk, text_snoc]; rfl) (.cons rfl (.cons rfl (.cons rfl .nil)))))), ⟨by simp only; omega, mem_next hxk hgd ⟨by omega, hx10⟩, by rw [take_snocL hxk, rowsOf_snoc]; exact hAll, hy, hm, hf⟩, by simp only; omega⟩
  ·obtain rfl : k = ls.length := by omega
   rw [List.take_length] at h hgd hAll
   have htl := textOf_len ls (fun y hy => (hgd y hy).1)
   refine wp_exit (exit_then (exit_then (exit_here (norm_then ?_))))
   refine seq_cut (Cut (ι := Unit) 172 (fun u => [(5, S (finText ls op)), (6, .int .i64 (finBad ls op)), (7, AV)]) (fun u w' => Sll encSt w' AV (rowsOf ls).reverse ∧ Sym w' ∧ IntAt 1 w' ∧ Fr [] w0 w')) ?_ ?_
   ·refine id ?_
    refine wp_seq ?_
    refine wR ?_
    refine st_move h rfl rfl ?_; clear h a; intro a h
    refine st_move h rfl rfl ?_; clear h a; intro a h
    first | refine guard_dec (D := 82) h rfl ?_ ?_ | refine guard_ndec (D := 82) h rfl ?_ ?_ | refine guard_any (D := 82) h rfl ?_ ?_
    ·clear h; intro g1 h
     refine gd_yes h rfl rfl rfl rfl rfl rfl ?_
     refine st_move h rfl rfl ?_; clear h a; intro a h
     refine gd_yes h rfl rfl rfl rfl rfl rfl ?_
     refine st_lenS h rfl Tryd.underlying48 rfl ?_; clear h a; intro a h
     refine gd_yes h rfl rfl rfl rfl rfl rfl ?_
     refine st_gt h rfl rfl rfl ?_; clear h a; intro a h
     refine st_pick_t h rfl rfl rfl rfl ?_; clear h a; intro a h
     replace h : Ag a 172 [(0, _), (5, _), (6, _), (7, _), (86, _)] := h.sub (.cons rfl (.cons rfl (.cons rfl (.cons rfl (.cons rfl .nil)))))
     refine wnt ?_
     first | refine cond_dec h rfl (fun c7 => ?_) (fun c7 => ?_) | refine cond_ndec h rfl (fun c7 => ?_) (fun c7 => ?_) | refine cond_split h rfl (fun c7 => ?_) (fun c7 => ?_)
     ·obtain ⟨x, hxk⟩ : ∃ x, ls[ls.length - 1]? = some x := ⟨_, List.getElem?_eq_getElem (by omega)⟩
      obtain ⟨ad, hAd, ca⟩ := hA _ x hxk
      have hlast : ls.getD (ls.length - 1) [] = x := by rw [List.getD, hxk]; rfl
      have htp : 1 ≤ (textOf ls).length := by obtain ⟨y, r, rfl⟩ := List.exists_cons_of_ne_nil (List.length_pos_iff.1 (show 0 < ls.length by omega)); simp [textOf]; omega
      refine wp_seq ?_
      refine wR ?_
      refine st_move h rfl rfl ?_; clear h a; intro a h
      refine st_move h rfl rfl ?_; clear h a; intro a h
      refine st_len h rfl Tryd.underlying9 rfl ?_; clear h a; intro a h
      refine st_sub h rfl rfl (by first | exact IntWalk.i64_in _ (by omega) | rfl) rfl ?_; clear h a; intro a h
      refine st_ss_h (p := (textOf ls).length - 1) h rfl rfl Tryd.underlying9 (by omega) (by omega) (by omega) rfl ?_; clear h a; intro a h
      refine st_assign h rfl rfl ?_; clear h a; intro a h
      replace h : Ag a 172 [(0, _), (5, _), (6, _), (7, _)] := h.sub (.cons rfl (.cons rfl (.cons rfl (.cons rfl .nil))))
      refine wnt ?_
      refine wp_seq ?_
      refine region_bool (r := 104) (L' := [(0, _), (5, _), (6, _), (7, _)]) (ls.getD (ls.length - 1) [] = [] ∧ badS ls = (ls.length : Int)) h (.cons rfl (.cons rfl (.cons rfl (.cons rfl .nil)))) ?_ ?_
      ·refine id ?_
       refine st_move h rfl rfl ?_; clear h a; intro a h
       refine st_move h rfl rfl ?_; clear h a; intro a h
       refine st_lenS h rfl Tryd.underlying48 rfl ?_; clear h a; intro a h
       refine st_sub h rfl rfl (by first | exact IntWalk.i64_in _ (by omega) | rfl) rfl ?_; clear h a; intro a h
       refine st_idxS (p := ls.length - 1) h (by rw [hAd]; rfl) rfl el48 (by omega) (by omega) (by omega) rfl ?_; clear h a; intro a h
       refine st_loadC0 h rfl (ca.fr hf (by simp)) na9 rfl ?_; clear h a; intro a h
       refine st_eqs h rfl rfl rfl ?_; clear h a; intro a h
       refine st_move h rfl rfl ?_; clear h a; intro a h
       first | refine guard_dec (D := 99) h rfl ?_ ?_ | refine guard_ndec (D := 99) h rfl ?_ ?_ | refine guard_any (D := 99) h rfl ?_ ?_
       ·clear h; intro g2 h
        refine gd_yes h rfl rfl rfl rfl rfl rfl ?_
        refine st_move h rfl rfl ?_; clear h a; intro a h
        refine gd_yes h rfl rfl rfl rfl rfl rfl ?_
        refine st_move h rfl rfl ?_; clear h a; intro a h
        refine gd_yes h rfl rfl rfl rfl rfl rfl ?_
        refine st_lenS h rfl Tryd.underlying48 rfl ?_; clear h a; intro a h
        refine gd_yes h rfl rfl rfl rfl rfl rfl ?_
        refine st_eq h rfl rfl rfl ?_; clear h a; intro a h
        refine st_pick_t h rfl rfl rfl rfl ?_; clear h a; intro a h
        exact wpList_nil (bool_end h rfl (by rw [hlast]; first | exact bi ⟨fun e => ⟨by assumption, e⟩, fun e => e.2⟩ | exact bf (fun e => absurd e.1 (by assumption))) (.cons rfl (.cons rfl (.cons rfl (.cons rfl .nil)))))
       ·clear h; intro g2 h
        refine gd_no h rfl rfl rfl rfl rfl rfl rfl rfl ?_; clear h a; intro a h
        refine gd_no h rfl rfl rfl rfl rfl rfl rfl rfl ?_; clear h a; intro a h
        refine gd_no h rfl rfl rfl rfl rfl rfl rfl rfl ?_; clear h a; intro a h
        refine gd_no h rfl rfl rfl rfl rfl rfl rfl rfl ?_; clear h a; intro a h
        refine st_pick_f h rfl rfl rfl rfl ?_; clear h a; intro a h
        exact wpList_nil (bool_end h rfl (by rw [hlast]; first | exact bi ⟨fun e => ⟨by assumption, e⟩, fun e => e.2⟩ | exact bf (fun e => absurd e.1 (by assumption))) (.cons rfl (.cons rfl (.cons rfl (.cons rfl .nil)))))
      ·clear h a; intro a h
       refine (norm_then ?_)
       first | refine cond_dec h rfl (fun c8 => ?_) (fun c8 => ?_) | refine cond_ndec h rfl (fun c8 => ?_) (fun c8 => ?_) | refine cond_split h rfl (fun c8 => ?_) (fun c8 => ?_)
       ·refine id ?_
        refine wR ?_
        refine st_assign h rfl rfl ?_; clear h a; intro a h
        replace h : Ag a 172 [(5, _), (6, _), (7, _)] := h.sub (.cons rfl (.cons rfl (.cons rfl .nil)))
        refine wnt ?_
        exact ⟨(), h.sub (.cons (by first | (rw [finText, if_pos ⟨by assumption, by omega⟩]; rfl) | (rw [finText, if_neg (fun e => by first | omega | simp_all)]; rfl)) (.cons (by first | (rw [finBad, if_pos ⟨by assumption, by omega⟩, if_pos c8]; rfl) | (rw [finBad, if_pos ⟨by assumption, by omega⟩, if_neg c8, if_pos c9]; rfl) | (rw [finBad, if_pos ⟨by assumption, by omega⟩, if_neg c8, if_neg c9]; rfl) | (rw [finBad, if_neg (fun e => by first | omega | simp_all)]; rfl)) (.cons rfl .nil))), hAll, hy, hm, hf⟩
       ·refine id ?_
        refine wp_seq ?_
        refine wR ?_
        refine st_move h rfl rfl ?_; clear h a; intro a h
        refine st_eq h rfl rfl rfl ?_; clear h a; intro a h
        replace h : Ag a 172 [(0, _), (5, _), (6, _), (7, _), (106, _)] := h.sub (.cons rfl (.cons rfl (.cons rfl (.cons rfl (.cons rfl .nil)))))
        refine wnt ?_
        first | refine cond_dec h rfl (fun c9 => ?_) (fun c9 => ?_) | refine cond_ndec h rfl (fun c9 => ?_) (fun c9 => ?_) | refine cond_split h rfl (fun c9 => ?_) (fun c9 => ?_)
        ·refine id ?_
         refine wR ?_
         refine st_move h rfl rfl ?_; clear h a; intro a h
         refine st_lenS h rfl Tryd.underlying48 rfl ?_; clear h a; intro a h
         refine st_assign h rfl rfl ?_; clear h a; intro a h
         replace h : Ag a 172 [(5, _), (6, _), (7, _)] := h.sub (.cons rfl (.cons rfl (.cons rfl .nil)))
         refine wnt ?_
         exact ⟨(), h.sub (.cons (by first | (rw [finText, if_pos ⟨by assumption, by omega⟩]; rfl) | (rw [finText, if_neg (fun e => by first | omega | simp_all)]; rfl)) (.cons (by first | (rw [finBad, if_pos ⟨by assumption, by omega⟩, if_pos c8]; rfl) | (rw [finBad, if_pos ⟨by assumption, by omega⟩, if_neg c8, if_pos c9]; rfl) | (rw [finBad, if_pos ⟨by assumption, by omega⟩, if_neg c8, if_neg c9]; rfl) | (rw [finBad, if_neg (fun e => by first | omega | simp_all)]; rfl)) (.cons rfl .nil))), hAll, hy, hm, hf⟩
        ·refine id ?_
         refine wsn ?_
         exact ⟨(), h.sub (.cons (by first | (rw [finText, if_pos ⟨by assumption, by omega⟩]; rfl) | (rw [finText, if_neg (fun e => by first | omega | simp_all)]; rfl)) (.cons (by first | (rw [finBad, if_pos ⟨by assumption, by omega⟩, if_pos c8]; rfl) | (rw [finBad, if_pos ⟨by assumption, by omega⟩, if_neg c8, if_pos c9]; rfl) | (rw [finBad, if_pos ⟨by assumption, by omega⟩, if_neg c8, if_neg c9]; rfl) | (rw [finBad, if_neg (fun e => by first | omega | simp_all)]; rfl)) (.cons rfl .nil))), hAll, hy, hm, hf⟩
     ·refine id ?_
      refine wsn ?_
      exact ⟨(), h.sub (.cons (by first | (rw [finText, if_pos ⟨by assumption, by omega⟩]; rfl) | (rw [finText, if_neg (fun e => by first | omega | simp_all)]; rfl)) (.cons (by first | (rw [finBad, if_pos ⟨by assumption, by omega⟩, if_pos c8]; rfl) | (rw [finBad, if_pos ⟨by assumption, by omega⟩, if_neg c8, if_pos c9]; rfl) | (rw [finBad, if_pos ⟨by assumption, by omega⟩, if_neg c8, if_neg c9]; rfl) | (rw [finBad, if_neg (fun e => by first | omega | simp_all)]; rfl)) (.cons rfl .nil))), hAll, hy, hm, hf⟩
    ·clear h; intro g1 h
     refine gd_no h rfl rfl rfl rfl rfl rfl rfl rfl ?_; clear h a; intro a h
     refine gd_no h rfl rfl rfl rfl rfl rfl rfl rfl ?_; clear h a; intro a h
     refine gd_no h rfl rfl rfl rfl rfl rfl rfl rfl ?_; clear h a; intro a h
     refine st_pick_f h rfl rfl rfl rfl ?_; clear h a; intro a h
     replace h : Ag a 172 [(0, _), (5, _), (6, _), (7, _), (86, _)] := h.sub (.cons rfl (.cons rfl (.cons rfl (.cons rfl (.cons rfl .nil)))))
     refine wnt ?_
     refine cond_false h rfl ?_
     refine wsn ?_
     exact ⟨(), h.sub (.cons (by first | (rw [finText, if_pos ⟨by assumption, by omega⟩]; rfl) | (rw [finText, if_neg (fun e => by first | omega | simp_all)]; rfl)) (.cons (by first | (rw [finBad, if_pos ⟨by assumption, by omega⟩, if_pos c8]; rfl) | (rw [finBad, if_pos ⟨by assumption, by omega⟩, if_neg c8, if_pos c9]; rfl) | (rw [finBad, if_pos ⟨by assumption, by omega⟩, if_neg c8, if_neg c9]; rfl) | (rw [finBad, if_neg (fun e => by first | omega | simp_all)]; rfl)) (.cons rfl .nil))), hAll, hy, hm, hf⟩
   ·clear h a hf hy hm hAll
    rintro a w8 ⟨u, h, ⟨hAll, hy, hm, hf⟩⟩
    refine wp_seq ?_
    refine wR ?_
    refine st_move h rfl rfl ?_; clear h a; intro a h
    refine st_call h (evs_cons rfl evs_nil) co20 (read_chart_ok _ _ hy hm (by rw [finText]; split <;> (try simp) <;> omega)) rfl ?_; clear h a; rintro _ w9 ⟨XA, xm, xc, rn, re, rfl, hb, hg, hq⟩ a h
    replace hf := hf.next hq
    replace hy := hy.ext hq
    replace hm := hm.ext hq
    replace hAll := hAll.ext hq
    clear hq
    have hfa := Fr.refl [] w9
    obtain ⟨f1, f2⟩ := read_facts ls op (fun y hy => (hgd y hy).2)
    refine st_move h rfl rfl ?_; clear h a; intro a h
    refine st_extract h rfl rfl rfl ?_; clear h a; intro a h
    refine st_extract h rfl rfl rfl ?_; clear h a; intro a h
    refine st_extract h rfl rfl rfl ?_; clear h a; intro a h
    refine st_alloc h zv45 rfl rfl ?_; clear h a; intro w10 hb13 hq hz a h
    obtain ⟨g_13, hg⟩ : ∃ g, g = w9.heap.size := ⟨_, rfl⟩; rw [← hg] at hb13 h hz
    have hl13 : w0.heap.size ≤ g_13 := by have := hf.size; omega
    have hl_hfa_13 : w9.heap.size ≤ g_13 := by have := hfa.size; omega
    replace hf := hf.next hq
    replace hy := hy.ext hq
    replace hm := hm.ext hq
    replace hfa := hfa.next hq
    clear hq hz hg
    refine st_storeBA h rfl rfl hb13 rfl (by first | (simp [Value.oneCell', S]; done) | exact Enc.one _ _) sz45 ?_; clear h a; intro w11 hbn hq hz a h
    replace hf := hf.step hq (by first | (simp; done) | (simp; omega))
    replace hy := hy.fr hq (by first | (simp; done) | (simp; omega) | (simp [blks]; done) | (simp [blks]; omega))
    replace hm := hm.fr hq (by first | (simp; done) | (simp; omega) | (simp [blks]; done) | (simp [blks]; omega))
    replace hfa := hfa.step hq (by first | (simp; done) | (simp; omega))
    clear hb13 hq hz; have hb13 : Blk w11 g_13 _ [_] := hbn; clear hbn
    refine st_assign h rfl rfl ?_; clear h a; intro a h
    refine st_assign h rfl rfl ?_; clear h a; intro a h
    replace h : Ag a 172 [(6, _), (7, _), (13, _), (14, _), (15, _)] := h.sub (.cons rfl (.cons rfl (.cons rfl (.cons rfl (.cons rfl .nil)))))
    refine wnt ?_
    refine wp_seq ?_
    refine wp_seq ?_
    refine wR ?_
    refine st_move h rfl rfl ?_; clear h a; intro a h
    refine st_gt h rfl rfl rfl ?_; clear h a; intro a h
    replace h : Ag a 172 [(6, _), (7, _), (13, _), (14, _), (15, _), (116, _)] := h.sub (.cons rfl (.cons rfl (.cons rfl (.cons rfl (.cons rfl (.cons rfl .nil))))))
    refine wnt ?_
    first | refine cond_dec h rfl (fun c10 => ?_) (fun c10 => ?_) | refine cond_ndec h rfl (fun c10 => ?_) (fun c10 => ?_) | refine cond_split h rfl (fun c10 => ?_) (fun c10 => ?_)
    ·obtain ⟨e1, e2⟩ := f1 c10
     obtain ⟨rfl, rfl, rfl⟩ := hb (by rw [e1]; decide)
     rw [e1, e2] at h
     refine wp_seq ?_
     refine wR ?_
     refine st_move h rfl rfl ?_; clear h a; intro a h
     refine st_eq h rfl rfl rfl ?_; clear h a; intro a h
     refine st_move h rfl rfl ?_; clear h a; intro a h
     first | refine guard_dec (D := 119) h rfl ?_ ?_ | refine guard_ndec (D := 119) h rfl ?_ ?_ | refine guard_any (D := 119) h rfl ?_ ?_
     ·clear h; intro g3 h
      refine gd_yes h rfl rfl rfl rfl rfl rfl ?_
      refine st_move h rfl rfl ?_; clear h a; intro a h
      refine gd_yes h rfl rfl rfl rfl rfl rfl ?_
      refine st_move h rfl rfl ?_; clear h a; intro a h
      refine gd_yes h rfl rfl rfl rfl rfl rfl ?_
      refine st_eq h rfl rfl rfl ?_; clear h a; intro a h
      refine st_pick_t h rfl rfl rfl rfl ?_; clear h a; intro a h
      refine st_move h rfl rfl ?_; clear h a; intro a h
      first | refine guard_dec (D := 124) h rfl ?_ ?_ | refine guard_ndec (D := 124) h rfl ?_ ?_ | refine guard_any (D := 124) h rfl ?_ ?_
      ·clear h; intro g4 h
       refine gd_yes h rfl rfl rfl rfl rfl rfl ?_
       refine st_fieldAddr h rfl fa45_0 rfl ?_; clear h a; intro a h
       refine gd_yes h rfl rfl rfl rfl rfl rfl ?_
       refine st_loadB h rfl hb13 rfl na43 rfl ?_; clear h a; intro a h
       refine gd_yes h rfl rfl rfl rfl rfl rfl ?_
       refine st_lenS h rfl Tryd.underlying43 rfl ?_; clear h a; intro a h
       refine gd_yes h rfl rfl rfl rfl rfl rfl ?_
       refine st_eq h rfl rfl rfl ?_; clear h a; intro a h
       refine st_pick_t h rfl rfl rfl rfl ?_; clear h a; intro a h
       refine st_move h rfl rfl ?_; clear h a; intro a h
       first | refine guard_dec (D := 130) h rfl ?_ ?_ | refine guard_ndec (D := 130) h rfl ?_ ?_ | refine guard_any (D := 130) h rfl ?_ ?_
       ·clear h; intro g5 h
        refine gd_yes h rfl rfl rfl rfl rfl rfl ?_
        refine st_call h evs_nil co12 (lives_ok _ hy) rfl ?_; clear h a; rintro _ w12 ⟨rfl, hq⟩ a h
        replace hf := hf.next hq
        replace hy := hy.ext hq
        replace hm := hm.ext hq
        replace hfa := hfa.next hq
        replace hb13 := hb13.ext hq
        clear hq
        refine st_pick_t h rfl rfl rfl rfl ?_; clear h a; intro a h
        refine st_assign h rfl rfl ?_; clear h a; intro a h
        replace h : Ag a 172 [(4, _)] := h.sub (.cons rfl .nil)
        refine wnt ?_
        refine wp_ret (ret_then ?_)
        refine ret1 h Tryd.results7 rfl ?_
        first | exact ⟨_, rfl, rfl, hf⟩ | (exfalso; first | omega | simp_all)
       ·clear h; intro g5 h
        refine gd_no h rfl rfl rfl rfl rfl rfl rfl rfl ?_; clear h a; intro a h
        refine st_pick_f h rfl rfl rfl rfl ?_; clear h a; intro a h
        refine st_assign h rfl rfl ?_; clear h a; intro a h
        replace h : Ag a 172 [(4, _)] := h.sub (.cons rfl .nil)
        refine wnt ?_
        refine wp_ret (ret_then ?_)
        refine ret1 h Tryd.results7 rfl ?_
        first | exact ⟨_, rfl, rfl, hf⟩ | (exfalso; first | omega | simp_all)
      ·clear h; intro g4 h
       refine gd_no h rfl rfl rfl rfl rfl rfl rfl rfl ?_; clear h a; intro a h
       refine gd_no h rfl rfl rfl rfl rfl rfl rfl rfl ?_; clear h a; intro a h
       refine gd_no h rfl rfl rfl rfl rfl rfl rfl rfl ?_; clear h a; intro a h
       refine gd_no h rfl rfl rfl rfl rfl rfl rfl rfl ?_; clear h a; intro a h
       refine st_pick_f h rfl rfl rfl rfl ?_; clear h a; intro a h
       refine st_move h rfl rfl ?_; clear h a; intro a h
       refine gd_no h rfl rfl rfl rfl rfl rfl rfl rfl ?_; clear h a; intro a h
       refine st_pick_f h rfl rfl rfl rfl ?_; clear h a; intro a h
       refine st_assign h rfl rfl ?_; clear h a; intro a h
       replace h : Ag a 172 [(4, _)] := h.sub (.cons rfl .nil)
       refine wnt ?_
       refine wp_ret (ret_then ?_)
       refine ret1 h Tryd.results7 rfl ?_
       first | exact ⟨_, rfl, rfl, hf⟩ | (exfalso; first | omega | simp_all)
     ·clear h; intro g3 h
      refine gd_no h rfl rfl rfl rfl rfl rfl rfl rfl ?_; clear h a; intro a h
      refine gd_no h rfl rfl rfl rfl rfl rfl rfl rfl ?_; clear h a; intro a h
      refine gd_no h rfl rfl rfl rfl rfl rfl rfl rfl ?_; clear h a; intro a h
      refine st_pick_f h rfl rfl rfl rfl ?_; clear h a; intro a h
      refine st_move h rfl rfl ?_; clear h a; intro a h
      refine gd_no h rfl rfl rfl rfl rfl rfl rfl rfl ?_; clear h a; intro a h
      refine gd_no h rfl rfl rfl rfl rfl rfl rfl rfl ?_; clear h a; intro a h
      refine gd_no h rfl rfl rfl rfl rfl rfl rfl rfl ?_; clear h a; intro a h
      refine gd_no h rfl rfl rfl rfl rfl rfl rfl rfl ?_; clear h a; intro a h
      refine st_pick_f h rfl rfl rfl rfl ?_; clear h a; intro a h
      refine st_move h rfl rfl ?_; clear h a; intro a h
      refine gd_no h rfl rfl rfl rfl rfl rfl rfl rfl ?_; clear h a; intro a h
      refine st_pick_f h rfl rfl rfl rfl ?_; clear h a; intro a h
      refine st_assign h rfl rfl ?_; clear h a; intro a h
      replace h : Ag a 172 [(4, _)] := h.sub (.cons rfl .nil)
      refine wnt ?_
      refine wp_ret (ret_then ?_)
      refine ret1 h Tryd.results7 rfl ?_
      first | exact ⟨_, rfl, rfl, hf⟩ | (exfalso; first | omega | simp_all)
    ·obtain ⟨e1, e2, e3⟩ := f2 c10
     obtain ⟨rfl, rfl, g3, g4⟩ := hg e1
     rw [e2] at h g3 g4
     obtain ⟨AA, ac, rfl, hac, hacm⟩ := hAll.form
     refine wsn ?_
     refine wp_seq ?_
     refine wR ?_
     refine st_move h rfl rfl ?_; clear h a; intro a h
     refine st_lit (cs := [_]) h (evs_cons rfl evs_nil) bo45 (pok_cons rfl rfl rfl pok_nil) rfl rfl ?_; clear h a; intro a h
     refine st_call h (evs_cons rfl evs_nil) co21 (refchart_ok _ _ _ (hAll.ext hfa) (rowsOf_ok ls)) rfl ?_; clear h a; rintro _ w13 ⟨LX, rfl, hq⟩ a h
     replace hf := hf.next hq
     replace hy := hy.ext hq
     replace hm := hm.ext hq
     replace hfa := hfa.next hq
     replace hb13 := hb13.ext hq
     clear hq
     refine st_move h rfl rfl ?_; clear h a; intro a h
     refine st_extract h rfl rfl rfl ?_; clear h a; intro a h
     refine st_extract h rfl rfl rfl ?_; clear h a; intro a h
     refine st_assign h rfl rfl ?_; clear h a; intro a h
     refine st_assign h rfl rfl ?_; clear h a; intro a h
     replace h : Ag a 172 [(7, _), (13, _), (14, _), (15, _), (17, _)] := h.sub (.cons rfl (.cons rfl (.cons rfl (.cons rfl (.cons rfl .nil)))))
     refine wnt ?_
     refine wp_seq ?_
     refine wp_seq ?_
     refine wR ?_
     refine st_move h rfl rfl ?_; clear h a; intro a h
     refine st_move h rfl rfl ?_; clear h a; intro a h
     refine st_ne h rfl rfl rfl ?_; clear h a; intro a h
     refine st_move h rfl rfl ?_; clear h a; intro a h
     first | refine guard_dec (D := 142) h rfl ?_ ?_ | refine guard_ndec (D := 142) h rfl ?_ ?_ | refine guard_any (D := 142) h rfl ?_ ?_
     ·clear h; intro g6 h
      refine gd_no h rfl rfl rfl rfl rfl rfl rfl rfl ?_; clear h a; intro a h
      refine gd_no h rfl rfl rfl rfl rfl rfl rfl rfl ?_; clear h a; intro a h
      refine st_pick_t h rfl rfl rfl rfl ?_; clear h a; intro a h
      replace h : Ag a 172 [(7, _), (13, _), (17, _), (145, _)] := h.sub (.cons rfl (.cons rfl (.cons rfl (.cons rfl .nil))))
      refine wnt ?_
      refine cond_true h rfl ?_
      refine wp_seq ?_
      refine wR ?_
      refine st_assign h rfl rfl ?_; clear h a; intro a h
      replace h : Ag a 172 [(4, _)] := h.sub (.cons rfl .nil)
      refine wnt ?_
      refine wp_ret (ret_then ?_)
      refine ret1 h Tryd.results7 rfl ?_
      first | exact ⟨_, rfl, rfl, hf⟩ | (exfalso; first | omega | simp_all)
     ·clear h; intro g6 h
      refine gd_yes h rfl rfl rfl rfl rfl rfl ?_
      refine st_move h rfl rfl ?_; clear h a; intro a h
      refine gd_yes h rfl rfl rfl rfl rfl rfl ?_
      refine st_ne h rfl rfl rfl ?_; clear h a; intro a h
      refine st_pick_f h rfl rfl rfl rfl ?_; clear h a; intro a h
      replace h : Ag a 172 [(7, _), (13, _), (17, _), (145, _)] := h.sub (.cons rfl (.cons rfl (.cons rfl (.cons rfl .nil))))
      refine wnt ?_
      first | refine cond_dec h rfl (fun c11 => ?_) (fun c11 => ?_) | refine cond_ndec h rfl (fun c11 => ?_) (fun c11 => ?_) | refine cond_split h rfl (fun c11 => ?_) (fun c11 => ?_)
      ·refine id ?_
       refine wp_seq ?_
       refine wR ?_
       refine st_assign h rfl rfl ?_; clear h a; intro a h
       replace h : Ag a 172 [(4, _)] := h.sub (.cons rfl .nil)
       refine wnt ?_
       refine wp_ret (ret_then ?_)
       refine ret1 h Tryd.results7 rfl ?_
       first | exact ⟨_, rfl, rfl, hf⟩ | (exfalso; first | omega | simp_all)
      ·refine id ?_
       refine wsn ?_
       refine wp_seq ?_
       refine wp_seq ?_
       refine wR ?_
       refine st_move h rfl rfl ?_; clear h a; intro a h
       refine st_ne h rfl rfl rfl ?_; clear h a; intro a h
       replace h : Ag a 172 [(7, _), (13, _), (147, _)] := h.sub (.cons rfl (.cons rfl (.cons rfl .nil)))
       refine wnt ?_
       first | refine cond_dec h rfl (fun c12 => ?_) (fun c12 => ?_) | refine cond_ndec h rfl (fun c12 => ?_) (fun c12 => ?_) | refine cond_split h rfl (fun c12 => ?_) (fun c12 => ?_)
       ·obtain rfl := g3 c12
        refine wp_seq ?_
        refine wR ?_
        refine st_fieldAddr h rfl fa45_0 rfl ?_; clear h a; intro a h
        refine st_loadB h rfl hb13 rfl na43 rfl ?_; clear h a; intro a h
        refine st_lenS h rfl Tryd.underlying43 rfl ?_; clear h a; intro a h
        refine st_eq h rfl rfl rfl ?_; clear h a; intro a h
        refine st_move h rfl rfl ?_; clear h a; intro a h
        first | refine guard_dec (D := 152) h rfl ?_ ?_ | refine guard_ndec (D := 152) h rfl ?_ ?_ | refine guard_any (D := 152) h rfl ?_ ?_
        ·clear h; intro g7 h
         refine gd_yes h rfl rfl rfl rfl rfl rfl ?_
         refine st_call h evs_nil co12 (lives_ok _ hy) rfl ?_; clear h a; rintro _ w14 ⟨rfl, hq⟩ a h
         replace hf := hf.next hq
         replace hy := hy.ext hq
         replace hm := hm.ext hq
         replace hfa := hfa.next hq
         replace hb13 := hb13.ext hq
         clear hq
         refine st_pick_t h rfl rfl rfl rfl ?_; clear h a; intro a h
         refine st_assign h rfl rfl ?_; clear h a; intro a h
         replace h : Ag a 172 [(4, _)] := h.sub (.cons rfl .nil)
         refine wnt ?_
         refine wp_ret (ret_then ?_)
         refine ret1 h Tryd.results7 rfl ?_
         first | exact ⟨_, rfl, rfl, hf⟩ | (exfalso; first | omega | simp_all)
        ·clear h; intro g7 h
         refine gd_no h rfl rfl rfl rfl rfl rfl rfl rfl ?_; clear h a; intro a h
         refine st_pick_f h rfl rfl rfl rfl ?_; clear h a; intro a h
         refine st_assign h rfl rfl ?_; clear h a; intro a h
         replace h : Ag a 172 [(4, _)] := h.sub (.cons rfl .nil)
         refine wnt ?_
         refine wp_ret (ret_then ?_)
         refine ret1 h Tryd.results7 rfl ?_
         first | exact ⟨_, rfl, rfl, hf⟩ | (exfalso; first | omega | simp_all)
       ·obtain ⟨rfl, hgs⟩ := g4 (Decidable.not_not.1 c12)
        rw [e3 (Decidable.not_not.1 c12)] at hgs
        replace hgs := hgs.ext hfa
        refine wsn ?_
        refine wp_seq ?_
        refine wR ?_
        refine st_loadBA h rfl hb13 ag45 rfl ?_; clear h a; intro a h
        refine st_move h rfl rfl ?_; clear h a; intro a h
        refine st_lit (cs := [_]) h (evs_cons rfl evs_nil) bo45 (pok_cons rfl rfl rfl pok_nil) rfl rfl ?_; clear h a; intro a h
        refine st_call h (evs_cons rfl (evs_cons rfl evs_nil)) co22 (differ2_ok _ _ _ _ _ hgs (hAll.ext hfa)) rfl ?_; clear h a; rintro _ w15 ⟨rfl, hq⟩ a h
        replace hf := hf.next hq
        replace hy := hy.ext hq
        replace hm := hm.ext hq
        replace hfa := hfa.next hq
        replace hb13 := hb13.ext hq
        clear hq
        rw [if_pos rfl] at h
        refine st_eq h rfl rfl rfl ?_; clear h a; intro a h
        refine st_move h rfl rfl ?_; clear h a; intro a h
        first | refine guard_dec (D := 160) h rfl ?_ ?_ | refine guard_ndec (D := 160) h rfl ?_ ?_ | refine guard_any (D := 160) h rfl ?_ ?_
        ·clear h; intro g8 h
         refine gd_yes h rfl rfl rfl rfl rfl rfl ?_
         refine st_fieldAddr h rfl fa45_0 rfl ?_; clear h a; intro a h
         refine gd_yes h rfl rfl rfl rfl rfl rfl ?_
         refine st_loadB h rfl hb13 rfl na43 rfl ?_; clear h a; intro a h
         refine gd_yes h rfl rfl rfl rfl rfl rfl ?_
         refine st_capS h rfl Tryd.underlying43 rfl ?_; clear h a; intro a h
         refine gd_yes h rfl rfl rfl rfl rfl rfl ?_
         refine st_fieldAddr h rfl fa45_0 rfl ?_; clear h a; intro a h
         refine gd_yes h rfl rfl rfl rfl rfl rfl ?_
         refine st_loadB h rfl hb13 rfl na43 rfl ?_; clear h a; intro a h
         refine gd_yes h rfl rfl rfl rfl rfl rfl ?_
         refine st_lenS h rfl Tryd.underlying43 rfl ?_; clear h a; intro a h
         refine gd_yes h rfl rfl rfl rfl rfl rfl ?_
         refine st_eq h rfl rfl rfl ?_; clear h a; intro a h
         refine st_pick_t h rfl rfl rfl rfl ?_; clear h a; intro a h
         refine st_move h rfl rfl ?_; clear h a; intro a h
         first | refine guard_dec (D := 169) h rfl ?_ ?_ | refine guard_ndec (D := 169) h rfl ?_ ?_ | refine guard_any (D := 169) h rfl ?_ ?_
         ·clear h; intro g9 h
          refine gd_yes h rfl rfl rfl rfl rfl rfl ?_
          refine st_call h evs_nil co12 (lives_ok _ hy) rfl ?_; clear h a; rintro _ w16 ⟨rfl, hq⟩ a h
          replace hf := hf.next hq
          replace hy := hy.ext hq
          replace hm := hm.ext hq
          replace hfa := hfa.next hq
          replace hb13 := hb13.ext hq
          clear hq
          refine st_pick_t h rfl rfl rfl rfl ?_; clear h a; intro a h
          refine st_assign h rfl rfl ?_; clear h a; intro a h
          replace h : Ag a 172 [(4, _)] := h.sub (.cons rfl .nil)
          refine wnt ?_
          refine wp_ret ?_
          refine ret1 h Tryd.results7 rfl ?_
          first | exact ⟨_, rfl, rfl, hf⟩ | (exfalso; first | omega | simp_all)
         ·clear h; intro g9 h
          refine gd_no h rfl rfl rfl rfl rfl rfl rfl rfl ?_; clear h a; intro a h
          refine st_pick_f h rfl rfl rfl rfl ?_; clear h a; intro a h
          refine st_assign h rfl rfl ?_; clear h a; intro a h
          replace h : Ag a 172 [(4, _)] := h.sub (.cons rfl .nil)
          refine wnt ?_
          refine wp_ret ?_
          refine ret1 h Tryd.results7 rfl ?_
          first | exact ⟨_, rfl, rfl, hf⟩ | (exfalso; first | omega | simp_all)
        ·clear h; intro g8 h
         refine gd_no h rfl rfl rfl rfl rfl rfl rfl rfl ?_; clear h a; intro a h
         refine gd_no h rfl rfl rfl rfl rfl rfl rfl rfl ?_; clear h a; intro a h
         refine gd_no h rfl rfl rfl rfl rfl rfl rfl rfl ?_; clear h a; intro a h
         refine gd_no h rfl rfl rfl rfl rfl rfl rfl rfl ?_; clear h a; intro a h
         refine gd_no h rfl rfl rfl rfl rfl rfl rfl rfl ?_; clear h a; intro a h
         refine gd_no h rfl rfl rfl rfl rfl rfl rfl rfl ?_; clear h a; intro a h
         refine gd_no h rfl rfl rfl rfl rfl rfl rfl rfl ?_; clear h a; intro a h
         refine st_pick_f h rfl rfl rfl rfl ?_; clear h a; intro a h
         refine st_move h rfl rfl ?_; clear h a; intro a h
         refine gd_no h rfl rfl rfl rfl rfl rfl rfl rfl ?_; clear h a; intro a h
         refine st_pick_f h rfl rfl rfl rfl ?_; clear h a; intro a h
         refine st_assign h rfl rfl ?_; clear h a; intro a h
         replace h : Ag a 172 [(4, _)] := h.sub (.cons rfl .nil)
         refine wnt ?_
         refine wp_ret ?_
         refine ret1 h Tryd.results7 rfl ?_
         first | exact ⟨_, rfl, rfl, hf⟩ | (exfalso; first | omega | simp_all)
end Go.Proofs.YtbbnampdgefljaaDoor
namespace Go.Lw
open Go.RowKit
theorem Blk.of_below {w w' : World} {g B : Nat} {T : TypeId} {cs : List Value} (h : Blk w g T cs) (hb : Below B w w') (hg : g < B) : Blk w' g T cs := by
  unfold Blk at h ⊢; rw [hb.block g hg]; exact h
theorem Fr.then_below {w0 w w' : World} {B : Nat} (hf : Fr [] w0 w) (hb : Below B w w') (hB : w0.heap.size ≤ B) : Fr [] w0 w' :=
  ⟨hb.os.trans hf.os, hb.tape.trans hf.tape, hb.output.trans hf.output, Nat.le_trans hf.size hb.size, fun k hk hn => (hb.block k (by omega)).trans (hf.block k hk hn)⟩
theorem below_of_fr {w w' : World} {B : Nat} {S : List Nat} (hf : Fr S w w') (hS : ∀ k ∈ S, B ≤ k) (hB : B ≤ w.heap.size) : Below B w w' :=
  ⟨hf.os, hf.tape, hf.output, hf.size, fun k hk => hf.block k (by omega) (fun e => by have := hS k e; omega)⟩
theorem bAt_fr {T e : TypeId} {B b : Nat} {p : Value} {bs : List Value} {w w' : World} (h : Lib.BuilderAt T e B b p bs w) (hf : Fr [] w w') : Lib.BuilderAt T e B b p bs w' := by
  obtain ⟨hB, v, hb, ⟨hl, hown⟩, hne⟩ := h
  have hblk : ∀ k o, w.heap[k]? = some o → w'.heap[k]? = some o := fun k o hk => by
    rw [hf.block k (Array.getElem?_eq_some_iff.1 hk).1 (by simp)]; exact hk
  refine ⟨hB, v, hblk _ _ hb, ⟨hl, ?_⟩, hne⟩
  rcases hown with h1 | ⟨g, cap, cur, h1, h2, h3, r⟩
  · exact .inl h1
  · exact .inr ⟨g, cap, cur, h1, h2, hblk _ _ h3, r⟩
theorem isB_fr {T e : TypeId} {B b : Nat} {bs : List Value} {w w' : World} (h : Lib.IsBuilder T e B b bs w) (hf : Fr [] w w') : Lib.IsBuilder T e B b bs w' := h.imp (bAt_fr · hf) (bAt_fr · hf)
theorem own_fr {w w' : World} {S : List Nat} {B : Nat} {e : TypeId} {v : Value} {n : Nat} {xs : List Value} (h : w.ownsRow B e 1 v n xs) (hf : Fr S w w') (hS : ∀ g ∈ S, v.ownBlock ≠ some g) : w'.ownsRow B e 1 v n xs := by
  obtain ⟨hl, hown⟩ := h
  refine ⟨hl, ?_⟩
  rcases hown with h1 | ⟨g, cap, cur, rfl, h2, h3, r⟩
  · exact .inl h1
  · exact .inr ⟨g, cap, cur, rfl, h2, by rw [hf.block g (Array.getElem?_eq_some_iff.1 h3).1 (fun e => hS g e rfl)]; exact h3, r⟩
theorem fr_grown {w w' : World} {r : Option Nat} (h : w.grownBy w' r) : Fr r.toList w w' :=
  ⟨h.os, h.tape, h.output, h.size, fun k hk hn => h.block k hk (fun e => hn (by simp [← e]))⟩
theorem own_ge {w : World} {B : Nat} {e : TypeId} {v : Value} {n : Nat} {xs : List Value} (h : w.ownsRow B e 1 v n xs) : ∀ k ∈ v.ownBlock.toList, B ≤ k := by
  obtain ⟨-, ⟨rfl, -⟩ | ⟨g, cap, cur, rfl, h2, -⟩⟩ := h
  · simp [Value.ownBlock]
  · simpa [Value.ownBlock] using h2
theorem own_one {w : World} {B : Nat} {e : TypeId} {v : Value} {n : Nat} {xs : List Value} (h : w.ownsRow B e 1 v n xs) : v.oneCell' = true ∧ v.cells = #[v] := by
  obtain ⟨-, ⟨rfl, -⟩ | ⟨g, cap, cur, rfl, -⟩⟩ := h <;> exact ⟨rfl, rfl⟩
/-- The builder's fact after a store into its block. -/
theorem bAt_mk {T e : TypeId} {B b : Nat} {p v : Value} {bs : List Value} {w w' : World} (hB : B ≤ b) (hb : Blk w' b T [p, v]) (ho : w.ownsRow B e 1 v bs.length bs) (hf : Fr [b] w w') (hne : v.ownBlock ≠ some b) : Lib.BuilderAt T e B b p bs w' :=
  ⟨hB, v, hb, own_fr ho hf (fun g hg => by rw [List.mem_singleton.1 hg]; exact hne), hne⟩
theorem row_str {w : World} {B : Nat} {e : TypeId} {v : Value} {l s : List UInt8} (h : w.ownsRow B e 1 v (l.length + s.length) (Lib.byteCells l ++ Lib.strCells ⟨s.toArray⟩)) : w.ownsRow B e 1 v (Lib.byteCells (l ++ s)).length (Lib.byteCells (l ++ s)) := by
  have e : Lib.byteCells l ++ Lib.strCells ⟨s.toArray⟩ = Lib.byteCells (l ++ s) := by simp [Lib.byteCells, Lib.strCells]
  rw [Lib.byteCells_length, List.length_append, ← e]; exact h
theorem cell_one {w : World} {B g k : Nat} {T : TypeId} {c : UInt8} (h : Own Enc.b T B w (.slice (some ⟨g, 0, none⟩) 1 k) [c]) : ∀ j u, (Lib.strCells ⟨[c].toArray⟩)[j]? = some u → w.cell? ((⟨g, 0, none⟩ : Addr).add j) = some u := by
  obtain ⟨A, cc, e, -, -, h3⟩ := h.sl
  obtain ⟨ad, rfl, hc⟩ := h3 0 c rfl
  cases e
  intro j u hu
  have := hc j u hu
  rw [Nat.zero_mul, lit_add, lit_add, Nat.zero_add] at this
  rw [lit_add, Nat.zero_add]; exact this
section
variable {P : Program} {a : Act} {n : Nat} {L : List (Nat × Value)} {ds : List Nat} {w w' : World} {Q : Exit → Act → World → Prop} {ops : Array Oper} {rest : List Oper}
variable {d : Nat} {ty : TypeId} {pos : String} {after : Array Edge} {x y : Operand} {t t' T T' : TypeId} {v : Value} {ad : Addr} {po : Option Addr}
theorem st_eqnilP (h : AgM ds a n L) (hx : ev L x = some (.pointer po)) (hu : P.underlying t = some (.pointer T)) (hn : Nat.blt d n = true) (q : ∀ a, AgM ds a n ((d, .bool po.isNone) :: L) → wpList P ops Q rest a w) :
    wpList P ops Q (⟨some d, .binOp .eql t x (.const (.pointer none)) t', ty, pos, after, none⟩ :: rest) a w :=
  st_ok h rfl rfl hn (by
    have hp : P.pointee t = T := by simp [Program.pointee, hu]
    have h3 := run_eql_pointer_nil (P := P) (w := w) t po (by rw [hp]; exact hu)
    have h4 : a.eval (.const (.pointer none)) = .pointer none := rfl
    simp [execOp, h.eval hx, h4, eqGuard, h3]) q
theorem st_neSameP {j : TypeInfo} (h : AgM ds a n L) (hx : ev L x = some (.pointer (some ad))) (hy : ev L y = some (.pointer (some ad))) (hu : P.underlying t = some (.pointer T)) (hi : P.info? T = some j) (hn : Nat.blt d n = true)
    (q : ∀ a, AgM ds a n ((d, .bool false) :: L) → wpList P ops Q rest a w) : wpList P ops Q (⟨some d, .binOp .neq t x y t', ty, pos, after, none⟩ :: rest) a w :=
  st_ok h rfl rfl hn (by
    have h3 := Lib.run_neq_ptr_same (P := P) (w := w) ad hu hi
    simp [execOp, h.eval hx, h.eval hy, eqGuard, h3]) q
theorem st_toUnsafe {j : TypeInfo} {E cells : Nat} (h : AgM ds a n L) (hx : ev L x = some (.pointer (some ad))) (hs : P.underlying t = some (.pointer T)) (hd : P.underlying t' = some .unsafePointer) (hi : P.info? T = some j) (hj : j.size ≠ 0) (hsh : w.shape? ad.block = some (E, cells)) (ho : ad.off < cells) (hn : Nat.blt d n = true)
    (q : ∀ a, AgM ds a n ((d, .pointer (some ad)) :: L) → wpList P ops Q rest a w) : wpList P ops Q (⟨some d, .convert t t' x, ty, pos, after, none⟩ :: rest) a w :=
  st_ok h rfl rfl hn (by
    have h3 := Lib.run_to_unsafe (P := P) (w := w) ad hs hd hi hj hsh ho
    simp [execOp, h.eval hx, h3]) q
theorem st_fromUnsafe {j : TypeInfo} {E cells : Nat} (h : AgM ds a n L) (hx : ev L x = some (.pointer (some ad))) (hs : P.underlying t = some .unsafePointer) (hd : P.underlying t' = some (.pointer T)) (hi : P.info? T = some j) (hsh : w.shape? ad.block = some (E, cells)) (hl : liesAt P P.depth E (cells / P.cellsOf E) ad.off T 1 = true) (hn : Nat.blt d n = true)
    (q : ∀ a, AgM ds a n ((d, .pointer (some ad)) :: L) → wpList P ops Q rest a w) : wpList P ops Q (⟨some d, .convert t t' x, ty, pos, after, none⟩ :: rest) a w :=
  st_ok h rfl rfl hn (by
    have h3 := Lib.run_from_unsafe (P := P) (w := w) ad hs hd hi hsh hl
    simp [execOp, h.eval hx, h3]) q
/-- A call of a function without a body that returns its argument. -/
theorem st_same {f : FuncId} {ts : Array TypeId} (h : AgM ds a n L) (hx : ev L x = some v) (hf : ∀ (u : Value) (w : World), (callFunc f #[u]).run P w = .ok (.value u) w) (hn : Nat.blt d n = true)
    (q : ∀ a, AgM ds a n ((d, v) :: L) → wpList P ops Q rest a w) : wpList P ops Q (⟨some d, .call ⟨.value (.func f), #[x], ts⟩, ty, pos, after, none⟩ :: rest) a w :=
  st_ok h rfl rfl hn (by
    rw [execOp_call_go]
    simp only [List.map_toArray, List.map_cons, List.map_nil, h.eval hx]
    exact hf v w) q
/-- append of a string onto bytes of the call's own. -/
theorem st_appendStr {u : Value} {m B : Nat} {xs : List Value} {l : List UInt8} (h : AgM ds a n L) (hx : ev L x = some u) (hy : ev L y = some (S l)) (ht : P.underlying t = some (.slice T)) (hs : P.underlying t' = some .string) (hi : (P.info? T).map (fun i => (i.zero, i.size, i.bytes)) = some (some (.int .u8 0), 1, 1))
    (ho : w.ownsRow B T 1 u m xs) (hM : m + l.length ≤ maxLen) (hb : m + l.length ≤ 140737488355328) (hB : B ≤ w.heap.size) (hn : Nat.blt d n = true)
    (q : ∀ v' w', w'.ownsRow B T 1 v' (m + l.length) (xs ++ Lib.strCells ⟨l.toArray⟩) → w.grownBy w' u.ownBlock → ∀ a, AgM ds a n ((d, v') :: L) → wpList P ops Q rest a w') :
    wpList P ops Q (⟨some d, .call ⟨.builtin .append, #[x, y], #[t, t']⟩, ty, pos, after, none⟩ :: rest) a w := by
  obtain ⟨i, h1, h2, h3, h4⟩ := info_parts hi
  have hsz : (ByteArray.mk l.toArray).size = l.length := by simp [ByteArray.size]
  obtain ⟨v', w', hr, r1, r2, _⟩ := Lib.run_append_own_string (P := P) (w := w) B t t' ty T i ht hs h1 h2 h3 h4 u m xs ho ⟨l.toArray⟩ (by rw [hsz]; exact hM) (by rw [hsz]; exact hb) hB
  rw [hsz] at r1
  refine st_ok h rfl rfl hn (w' := w') ?_ (q v' w' r1 r2)
  rw [exec_builtin]; unfold builtin
  simp only [List.map_toArray, List.map_cons, List.map_nil, h.eval hx, h.eval hy, S, Sem.run_bind, hr, Result.andThen_ok, Sem.run_pure]
/-- append of a row of cells of another block onto bytes of the call's own. -/
theorem st_appendRow {u : Value} {m B k c : Nat} {xs news : List Value} {ad : Addr} (h : AgM ds a n L) (hx : ev L x = some u) (hy : ev L y = some (.slice (some ad) k c)) (ht : P.underlying t = some (.slice T)) (hi : (P.info? T).map (fun i => (i.zero, i.size, i.bytes)) = some (some (.int .u8 0), 1, 1))
    (ho : w.ownsRow B T 1 u m xs) (hl : news.length = k) (hc : ∀ j u, news[j]? = some u → w.cell? (ad.add j) = some u) (h1 : ∀ u ∈ news, u.oneCell' = true) (hM : m + k ≤ maxLen) (hb : m + k ≤ 140737488355328) (hB : B ≤ w.heap.size) (hn : Nat.blt d n = true)
    (q : ∀ v' w', w'.ownsRow B T 1 v' (m + k) (xs ++ news) → w.grownBy w' u.ownBlock → ∀ a, AgM ds a n ((d, v') :: L) → wpList P ops Q rest a w') :
    wpList P ops Q (⟨some d, .call ⟨.builtin .append, #[x, y], #[t, t]⟩, ty, pos, after, none⟩ :: rest) a w := by
  obtain ⟨i, i1, i2, i3, i4⟩ := info_parts hi
  obtain ⟨v', w', hr, r1, r2, _⟩ := run_append_own (P := P) (w := w) B t ty T i _ 1 1 ht i1 i2 i3 i4 rfl (by decide) u m xs ho ad k c news (by omega) hc h1 hM (by omega) hB
  refine st_ok h rfl rfl hn (w' := w') ?_ (q v' w' r1 r2)
  rw [exec_builtin]; unfold builtin
  simp only [List.map_toArray, List.map_cons, List.map_nil, h.eval hx, h.eval hy, Sem.run_bind, hr, Result.andThen_ok, Sem.run_pure]
end
end Go.Lw
namespace Go.Proofs.YtbbnampdgefljaaDoor
open Go.Lw Go.G14
theorem co61 : CallOf Tryd.prog 61 := CallOf.mk' Tryd.func61 (by kernel_rfl) (by kernel_rfl)
theorem fa81_0 : FieldAt Tryd.prog 81 0 0 := fun _ _ => by kernel_rfl
theorem fa81_1 : FieldAt Tryd.prog 81 1 1 := fun _ _ => by kernel_rfl
theorem na79 : NotAgg Tryd.prog 79 := fun _ => by kernel_rfl
theorem sz58 : SizeOf Tryd.prog 58 1 := fun _ => by kernel_rfl
theorem sz79 : SizeOf Tryd.prog 79 1 := fun _ => by kernel_rfl
theorem infoBd : ∃ j, Tryd.prog.info? 81 = some j ∧ j.size = 2 := Option.map_eq_some_iff.1 (show (Tryd.prog.info? 81).map (·.size) = some 2 by kernel_rfl)
theorem infoBy : (Tryd.prog.info? 5).map (fun i => (i.zero, i.size, i.bytes)) = some (some (.int .u8 0), 1, 1) := by kernel_rfl
theorem liesBd : liesAt Tryd.prog Tryd.prog.depth 81 (2 / Tryd.prog.cellsOf 81) 0 81 1 = true := by kernel_rfl
theorem noEscape (u : Value) (w : World) : (callFunc 72 #[u]).run Tryd.prog w = .ok (.value u) w := by
 rw [run_callFunc_extern Tryd.func72 (by kernel_rfl) (by kernel_rfl) (by kernel_rfl) (e := Extern.AbiNoEscape.same) (by kernel_rfl), Lib.run_noEscape]; rfl
theorem copycheck_ok (B b : Nat) (bs : List Value) (w0 : World) (hI : Lib.IsBuilder 81 5 B b bs w0) : Rets Tryd.prog 61 #[.pointer (some ⟨b, 0, none⟩)] w0 fun v w' => Lib.BuilderAt 81 5 B b (.pointer (some ⟨b, 0, none⟩)) bs w' ∧ RowKit.Below B w0 w' := by
 obtain ⟨po, hpo, hAt⟩ : ∃ po, (po = none ∨ po = some ⟨b, 0, none⟩) ∧ Lib.BuilderAt 81 5 B b (.pointer po) bs w0 := hI.elim (fun h => ⟨none, .inl rfl, h⟩) (fun h => ⟨_, .inr rfl, h⟩)
 have hsh := hAt.shape
 obtain ⟨j, hj, hj2⟩ := infoBd
 obtain ⟨hB, v, hbk, hown, hne⟩ := hAt
 have hbl : Blk w0 b 81 [.pointer po, v] := hbk
 refine enter [(0, .pointer (some ⟨b, 0, none⟩))] Tryd.func61 rfl Tryd.ntmps61 rfl (.cons rfl .nil) ?_
 intro a h
 refine wp_seq ?_
 refine wR ?_
 refine st_move h rfl rfl ?_; clear h a; intro a h
 refine st_nilCheck h rfl rfl ?_; clear h a; intro a h
 refine st_fieldAddr h rfl fa81_0 rfl ?_; clear h a; intro a h
 refine st_loadB h rfl hbl rfl na79 rfl ?_; clear h a; intro a h
 refine st_eqnilP h rfl Tryd.underlying79 rfl ?_; clear h a; intro a h
 replace h : Ag a 20 [(0, _), (6, _)] := h.sub (.cons rfl (.cons rfl .nil))
 refine wnt ?_
 first | refine cond_dec h rfl (fun c0 => ?_) (fun c0 => ?_) | refine cond_ndec h rfl (fun c0 => ?_) (fun c0 => ?_) | refine cond_split h rfl (fun c0 => ?_) (fun c0 => ?_)
 ·obtain rfl : po = none := by cases po with | none => rfl | some x => cases c0
  refine wR ?_
  refine st_move h rfl rfl ?_; clear h a; intro a h
  refine st_move h rfl rfl ?_; clear h a; intro a h
  refine st_toUnsafe h rfl Tryd.underlying79 Tryd.underlying111 hj (by omega) hsh Nat.zero_lt_two rfl ?_; clear h a; intro a h
  refine st_same h rfl noEscape rfl ?_; clear h a; intro a h
  refine st_fromUnsafe h rfl Tryd.underlying111 Tryd.underlying79 hj hsh liesBd rfl ?_; clear h a; intro a h
  refine st_nilCheck h rfl rfl ?_; clear h a; intro a h
  refine st_fieldAddr h rfl fa81_0 rfl ?_; clear h a; intro a h
  refine st_storeB h rfl rfl hbl rfl rfl rfl sz79 ?_; clear h a; intro w1 hbn hq hz a h
  replace h : Ag a 20 [] := h.sub .nil
  refine wpList_nil ?_
  refine ret0n h Tryd.results61  ?_
  exact ⟨_, rfl, bAt_mk hB hbn hown hq hne, below_of_fr hq (by simpa using hB) (Nat.le_trans hB (Nat.le_of_lt hbl.lt))⟩
 ·obtain rfl : po = some ⟨b, 0, none⟩ := hpo.resolve_left (fun e => by rw [e] at c0; cases c0)
  refine wp_seq ?_
  refine wR ?_
  refine st_move h rfl rfl ?_; clear h a; intro a h
  refine st_nilCheck h rfl rfl ?_; clear h a; intro a h
  refine st_fieldAddr h rfl fa81_0 rfl ?_; clear h a; intro a h
  refine st_loadB h rfl hbl rfl na79 rfl ?_; clear h a; intro a h
  refine st_move h rfl rfl ?_; clear h a; intro a h
  refine st_neSameP h rfl rfl Tryd.underlying79 hj rfl ?_; clear h a; intro a h
  replace h : Ag a 20 [(19, _)] := h.sub (.cons rfl .nil)
  refine wnt ?_
  refine cond_false h rfl ?_
  refine wp_skip ?_
  refine ret0n h Tryd.results61  ?_
  exact ⟨_, rfl, ⟨hB, v, hbk, hown, hne⟩, RowKit.Below.refl _ _⟩
theorem writestring_ok (B b : Nat) (l s : List UInt8) (w0 : World) (hI : Lib.IsBuilder 81 5 B b (Lib.byteCells l) w0) (hM : l.length + s.length ≤ 16777216) : Rets Tryd.prog 45 #[.pointer (some ⟨b, 0, none⟩), S s] w0 fun v w' => Lib.IsBuilder 81 5 B b (Lib.byteCells (l ++ s)) w' ∧ RowKit.Below B w0 w' := by
 refine enter [(0, .pointer (some ⟨b, 0, none⟩)), (1, S s)] Tryd.func45 rfl Tryd.ntmps45 rfl (.cons rfl (.cons rfl .nil)) ?_
 intro a h
 refine wp_seq ?_
 refine wR ?_
 refine st_assign h rfl rfl ?_; clear h a; intro a h
 refine st_assign h rfl rfl ?_; clear h a; intro a h
 replace h : Ag a 19 [(0, _), (1, _)] := h.sub (.cons rfl (.cons rfl .nil))
 refine wnt ?_
 refine wp_seq ?_
 refine wR ?_
 refine st_move h rfl rfl ?_; clear h a; intro a h
 refine st_call h (evs_cons rfl evs_nil) co61 (copycheck_ok _ _ _ _ hI) rfl ?_; clear h a; rintro _ w1 ⟨hAt, hq1⟩ a h
 obtain ⟨hB, v, hbk, hown, hne⟩ := hAt
 have hbl : Blk w1 b 81 [.pointer (some ⟨b, 0, none⟩), v] := hbk
 have hbz := hbl.lt
 rw [Lib.byteCells_length] at hown
 replace h : Ag a 19 [(0, _), (1, _)] := h.sub (.cons rfl (.cons rfl .nil))
 refine wnt ?_
 refine wp_seq ?_
 refine wR ?_
 refine st_move h rfl rfl ?_; clear h a; intro a h
 refine st_move h rfl rfl ?_; clear h a; intro a h
 refine st_nilCheck h rfl rfl ?_; clear h a; intro a h
 refine st_fieldAddr h rfl fa81_1 rfl ?_; clear h a; intro a h
 refine st_loadB h rfl hbl rfl na58 rfl ?_; clear h a; intro a h
 refine st_move h rfl rfl ?_; clear h a; intro a h
 refine st_appendStr h rfl rfl Tryd.underlying58 Tryd.underlying9 infoBy hown (by unfold maxLen; omega) (by omega) (by omega) rfl ?_; clear h a; intro v2 w2 hown2 hgr a h
 have hfg := fr_grown hgr
 have hbl2 := hbl.fr hfg (by simpa using hne)
 have hgz := hfg.size
 refine st_nilCheck h rfl rfl ?_; clear h a; intro a h
 refine st_fieldAddr h rfl fa81_1 rfl ?_; clear h a; intro a h
 refine st_storeB h rfl rfl hbl2 rfl (own_one hown2).1 (own_one hown2).2 sz58 ?_; clear h a; intro w3 hbn hq hz a h
 replace h : Ag a 19 [(1, _)] := h.sub (.cons rfl .nil)
 refine wnt ?_
 refine wp_seq ?_
 refine wR ?_
 refine st_move h rfl rfl ?_; clear h a; intro a h
 refine st_len h rfl Tryd.underlying9 rfl ?_; clear h a; intro a h
 refine st_assign h rfl rfl ?_; clear h a; intro a h
 refine st_assign h rfl rfl ?_; clear h a; intro a h
 replace h : Ag a 19 [(4, _), (5, _)] := h.sub (.cons rfl (.cons rfl .nil))
 refine wnt ?_
 refine wp_ret ?_
 refine ret2 h Tryd.results45 rfl rfl ?_
 exact ⟨_, rfl, .inr (bAt_mk hB hbn (row_str hown2) hq (Lib.ownBlock_ne hown2 hbl2 (by decide))), hq1.trans ((below_of_fr hfg (own_ge hown) (by omega)).trans (below_of_fr hq (by simpa using hB) (by omega)))⟩
theorem writebyte_ok (B b : Nat) (l : List UInt8) (c : UInt8) (w0 : World) (hI : Lib.IsBuilder 81 5 B b (Lib.byteCells l) w0) (hM : l.length + 1 ≤ 16777216) : Rets Tryd.prog 47 #[.pointer (some ⟨b, 0, none⟩), .int .u8 (c.toNat : Int)] w0 fun v w' => Lib.IsBuilder 81 5 B b (Lib.byteCells (l ++ [c])) w' ∧ RowKit.Below B w0 w' := by
 refine enter [(0, .pointer (some ⟨b, 0, none⟩)), (1, .int .u8 (c.toNat : Int))] Tryd.func47 rfl Tryd.ntmps47 rfl (.cons rfl (.cons rfl .nil)) ?_
 intro a h
 refine wp_seq ?_
 refine wR ?_
 refine st_assign h rfl rfl ?_; clear h a; intro a h
 replace h : Ag a 17 [(0, _), (1, _)] := h.sub (.cons rfl (.cons rfl .nil))
 refine wnt ?_
 refine wp_seq ?_
 refine wR ?_
 refine st_move h rfl rfl ?_; clear h a; intro a h
 refine st_call h (evs_cons rfl evs_nil) co61 (copycheck_ok _ _ _ _ hI) rfl ?_; clear h a; rintro _ w1 ⟨hAt, hq1⟩ a h
 obtain ⟨hB, v, hbk, hown, hne⟩ := hAt
 have hbl : Blk w1 b 81 [.pointer (some ⟨b, 0, none⟩), v] := hbk
 have hbz := hbl.lt
 rw [Lib.byteCells_length] at hown
 replace h : Ag a 17 [(0, _), (1, _)] := h.sub (.cons rfl (.cons rfl .nil))
 refine wnt ?_
 refine wp_seq ?_
 refine wR ?_
 refine st_move h rfl rfl ?_; clear h a; intro a h
 refine st_move h rfl rfl ?_; clear h a; intro a h
 refine st_nilCheck h rfl rfl ?_; clear h a; intro a h
 refine st_fieldAddr h rfl fa81_1 rfl ?_; clear h a; intro a h
 refine st_loadB h rfl hbl rfl na58 rfl ?_; clear h a; intro a h
 refine st_move h rfl rfl ?_; clear h a; intro a h
 refine st_bslice [c] h (evs_cons rfl evs_nil) rfl rfl rfl el58 (by decide) rfl ?_; clear h a; intro gV w2 hg hoV hqb hzb a h
 replace hown := own_fr hown hqb (by simp)
 replace hbl := hbl.ext hqb
 have hqz := hqb.size
 refine st_appendRow h rfl rfl Tryd.underlying58 infoBy hown rfl (cell_one hoV) (by simp [Lib.strCells, Value.oneCell']) (by unfold maxLen; omega) (by omega) (by omega) rfl ?_; clear h a; intro v2 w3 hown2 hgr a h
 have hfg := fr_grown hgr
 have hbl2 := hbl.fr hfg (by simpa using hne)
 have hgz := hfg.size
 refine st_nilCheck h rfl rfl ?_; clear h a; intro a h
 refine st_fieldAddr h rfl fa81_1 rfl ?_; clear h a; intro a h
 refine st_storeB h rfl rfl hbl2 rfl (own_one hown2).1 (own_one hown2).2 sz58 ?_; clear h a; intro w4 hbn hq hz a h
 replace h : Ag a 17 [] := h.sub .nil
 refine wnt ?_
 refine wp_seq ?_
 refine wR ?_
 refine st_assign h rfl rfl ?_; clear h a; intro a h
 refine wnt ?_
 refine wp_ret ?_
 refine ret1 h Tryd.results47 rfl ?_
 exact ⟨_, rfl, .inr (bAt_mk hB hbn (row_str hown2) hq (Lib.ownBlock_ne hown2 hbl2 (by decide))), hq1.trans ((below_of_fr hqb (by simp) (by omega)).trans ((below_of_fr hfg (own_ge hown) (by omega)).trans (below_of_fr hq (by simpa using hB) (by omega))))⟩
end Go.Proofs.YtbbnampdgefljaaDoor
namespace Go.G14
open Go.Lw

/-- The line of a row that stands n times, without its end. -/
def lnW (r : List Stitch) (n : Nat) : List UInt8 := shortS r ++ (if 1 < n then [32, 42] ++ itoaS n else [])
/-- The lines of rows, the top one first. -/
def wrL : List (List Stitch) → List (List UInt8)
  | [] => []
  | r :: q => lnW r ((q.takeWhile (· == r)).length + 1) :: wrL (q.dropWhile (· == r))
termination_by l => l.length
decreasing_by
  have := (List.dropWhile_suffix (l := q) (· == r)).length_le
  simp; omega
def wrS (q : List (List Stitch)) : List UInt8 := textOf (wrL q)
theorem wrS_nil : wrS [] = [] := by rw [wrS, wrL]; rfl
theorem tw_rep {r : List Stitch} {q : List (List Stitch)} : ∀ (n : Nat), q.head? ≠ some r → (List.replicate n r ++ q).takeWhile (· == r) = List.replicate n r ∧ (List.replicate n r ++ q).dropWhile (· == r) = q
  | 0, h => by
    cases q with
    | nil => exact ⟨rfl, rfl⟩
    | cons x q =>
      have hx : (x == r) = false := by simp; intro e; exact h (by rw [e]; rfl)
      simp [List.takeWhile, List.dropWhile, hx]
  | n + 1, h => by
    have := tw_rep n h
    simp [List.replicate_succ, List.takeWhile, List.dropWhile, this]
theorem wrL_rep {r : List Stitch} {q : List (List Stitch)} {n : Nat} (hn : 1 ≤ n) (h : q.head? ≠ some r) : wrL (List.replicate n r ++ q) = lnW r n :: wrL q := by
  obtain ⟨m, rfl⟩ : ∃ m, n = m + 1 := ⟨n - 1, by omega⟩
  rw [List.replicate_succ, List.cons_append, wrL, (tw_rep m h).1, (tw_rep m h).2, List.length_replicate]
theorem wrS_rep {r : List Stitch} {q : List (List Stitch)} {n : Nat} (hn : 1 ≤ n) (h : q.head? ≠ some r) : wrS (List.replicate n r ++ q) = lnW r n ++ [10] ++ wrS q := by
  rw [wrS, wrL_rep hn h, wrS]; simp [textOf]
/-- The rows below a group of like rows. -/
theorem rev_group {rs : List (List Stitch)} {left : Nat} {r : List Stitch} : ∀ (t : Nat), t ≤ left → left ≤ rs.length → (∀ j, j < t → rs[left - 1 - j]? = some r) → (rs.take left).reverse = List.replicate t r ++ (rs.take (left - t)).reverse
  | 0, _, _, _ => by simp
  | t + 1, h1, h2, h3 => by
    rw [rev_group t (by omega) h2 (fun j hj => h3 j (by omega)), List.replicate_succ', List.append_assoc]
    congr 1
    have e := h3 t (by omega)
    rw [show left - t = (left - (t + 1)) + 1 by omega, List.take_add_one, show left - (t + 1) = left - 1 - t by omega, e]
    simp
theorem wr_step {rs : List (List Stitch)} {left t : Nat} {r : List Stitch} (h0 : 1 ≤ t) (h1 : t ≤ left) (h2 : left ≤ rs.length) (h3 : ∀ j, j < t → rs[left - 1 - j]? = some r) (h4 : ¬ (t < left ∧ rs[left - 1 - t]? = some r)) :
    wrS (rs.take left).reverse = lnW r t ++ [10] ++ wrS (rs.take (left - t)).reverse := by
  rw [rev_group t h1 h2 h3, wrS_rep h0]
  intro e
  rw [List.head?_reverse, List.getLast?_eq_getElem?, List.length_take, Nat.min_eq_left (by omega), List.getElem?_take] at e
  by_cases c : left - t - 1 < left - t
  · rw [if_pos c] at e
    exact h4 ⟨by omega, by rw [show left - 1 - t = left - t - 1 by omega]; exact e⟩
  · rw [if_neg c] at e; cases e
theorem like_next {rs : List (List Stitch)} {left t : Nat} {r : List Stitch} (h3 : ∀ j, j < t → rs[left - 1 - j]? = some r) (h : rs[left - 1 - t]? = some r) : ∀ j, j < t + 1 → rs[left - 1 - j]? = some r := fun j hj => by
  rcases Nat.lt_or_ge j t with c | c
  · exact h3 j c
  · rw [show j = t by omega]; exact h
def plainC (c : UInt8) : Bool := decide (c ≠ 42 ∧ c ≠ 10)
def textP (x : Stitch) : Bool := decide (checkS x = 0 → (textS x).all plainC = true)
theorem plain_facts : ∀ k, k < 9 → ∀ y, y < 7 → ∀ a, a < 4 → ∀ b, b < 4 → textP ⟨((k : Nat) : Int), ((y : Nat) : Int), ((a : Nat) : Int), ((b : Nat) : Int), false⟩ = true ∧ textP ⟨((k : Nat) : Int), ((y : Nat) : Int), ((a : Nat) : Int), ((b : Nat) : Int), true⟩ = true := by
  decide +kernel
theorem plain_text {x : Stitch} (h : checkS x = 0) : (textS x).all plainC = true := by
  obtain ⟨k, y, a, b, f⟩ := x
  have hr := check_rng h
  simp only at hr
  have ha : 0 ≤ a ∧ a < 4 ∧ 0 ≤ b ∧ b < 4 := by
    by_cases c : k = 8
    · have := hr.2.2.2.2.2 c; omega
    · have := hr.2.2.2.2.1 c; omega
  obtain ⟨k', rfl⟩ : ∃ n : Nat, k = (n : Int) := ⟨k.toNat, by omega⟩
  obtain ⟨y', rfl⟩ : ∃ n : Nat, y = (n : Int) := ⟨y.toNat, by omega⟩
  obtain ⟨a', rfl⟩ : ∃ n : Nat, a = (n : Int) := ⟨a.toNat, by omega⟩
  obtain ⟨b', rfl⟩ : ∃ n : Nat, b = (n : Int) := ⟨b.toNat, by omega⟩
  have hb := plain_facts k' (by omega) y' (by omega) a' (by omega) b' (by omega)
  cases f with
  | false => exact of_decide_eq_true hb.1 h
  | true => exact of_decide_eq_true hb.2 h
theorem plain_itoa : ∀ n, n < 32 → (itoaS n).all plainC = true := by decide +kernel
theorem plain_txt {tg : Bool} {t : List UInt8} {xs : List Stitch} (h : Txt tg t xs) : t.all plainC = true := by
  induction h with
  | leaf h => exact plain_text h
  | @rep t xs n _ h2 h16 ih => rw [repT]; simp [ih, plain_itoa n (by omega), plainC]
  | one _ ih => exact ih
  | cons _ _ ih1 ih2 => simp [ih1, ih2, plainC]
theorem num_itoa : ∀ n, n < 32 → 2 ≤ n → numberS (itoaS n) 31 = n ∧ (itoaS n).length ≤ 2 := by decide +kernel
/-- A row of a good chart. -/
def goodR (r : List Stitch) : Prop := r.all okB = true ∧ 1 ≤ r.length ∧ r.length ≤ 16
theorem short_plain {r : List Stitch} (h : goodR r) : ∀ c ∈ shortS r, c ≠ 42 ∧ c ≠ 10 := fun c hc => by
  have := List.all_eq_true.1 (plain_txt (short_ok h.1 h.2.1 h.2.2).1) c hc
  simpa [plainC] using this
theorem ln_plain {r : List Stitch} {n : Nat} (h : goodR r) (hn : n < 32) : ∀ c ∈ lnW r n, c ≠ 10 := fun c hc => by
  rw [lnW, List.mem_append] at hc
  rcases hc with hc | hc
  · exact (short_plain h c hc).2
  · split at hc
    · rcases List.mem_append.1 hc with hc | hc
      · simp at hc; rcases hc with rfl | rfl <;> decide
      · have := List.all_eq_true.1 (plain_itoa n hn) c hc
        simp [plainC] at this; exact this.2
    · cases hc
theorem getD_mem {l : List UInt8} {i : Nat} (h : i < l.length) : l.getD i 0 ∈ l := by
  rw [List.getD, List.getElem?_eq_getElem h]; exact List.getElem_mem h
theorem ln_back {r : List Stitch} {n : Nat} (h : goodR r) (h1 : 1 ≤ n) (hn : n < 32) : lineR (lnW r n) = (r, (n : Int)) := by
  have hb := short_back h.1 h.2.1 h.2.2
  have hp := short_plain h
  by_cases c : 1 < n
  · obtain ⟨hnum, -⟩ := num_itoa n hn (by omega)
    have e : lnW r n = shortS r ++ 32 :: 42 :: itoaS n := by rw [lnW, if_pos c]; rfl
    have hs : starI (lnW r n) = (shortS r).length := by
      rw [e]
      refine star_at (by simp) (fun j hj => ?_) (by simp [List.getD])
      cases ho : Lib.occAt (shortS r ++ 32 :: 42 :: itoaS n) [32, 42] j with
      | false => rfl
      | true =>
        have := ((occ_iff (by simp; omega)).1 ho).2
        rcases Nat.lt_or_ge (j + 1) (shortS r).length with c2 | c2
        · rw [List.getD, List.getElem?_append_left c2, ← List.getD] at this
          exact absurd this (hp _ (getD_mem c2)).1
        · rw [List.getD, List.getElem?_append_right c2, show j + 1 - (shortS r).length = 0 by omega] at this
          simp at this
    obtain ⟨e1, e2⟩ := lineX_at hs
    rw [e, List.take_left' rfl] at e1
    rw [e, show shortS r ++ 32 :: 42 :: itoaS n = (shortS r ++ [32, 42]) ++ itoaS n by simp, List.drop_left' (by simp), hnum] at e2
    rw [e, show shortS r ++ 32 :: 42 :: itoaS n = (shortS r ++ [32, 42]) ++ itoaS n by simp] at *
    rw [line_good (by rw [e1, e2, hb]; simp; omega), e1, e2, hb]
  · have e : lnW r n = shortS r := by rw [lnW, if_neg c, List.append_nil]
    rw [e]
    have hs : starI (shortS r) = -1 := star_no (i := (shortS r).length) (by omega) (fun j hj => by
      cases ho : Lib.occAt (shortS r) [32, 42] j with
      | false => rfl
      | true =>
        by_cases c2 : j + 1 < (shortS r).length
        · exact absurd ((occ_iff c2).1 ho).2 (hp _ (getD_mem c2)).1
        · rw [occ_no c2] at ho; cases ho)
    obtain ⟨e1, e2⟩ := lineX_no hs
    rw [line_good (by rw [e1, e2, hb]; simp), e1, e2, hb, show n = 1 by omega]; rfl
theorem ln_len {r : List Stitch} {n : Nat} (hr : goodR r) (hn : n < 32) : (lnW r n).length ≤ 199 := by
  have hsl := short_len hr.2.1 hr.2.2
  have h16 := hr.2.2
  rw [lnW]
  split
  · have := (num_itoa n hn (by omega)).2
    simp; omega
  · simp; omega
theorem tw_split (r : List Stitch) : ∀ (q : List (List Stitch)), q = List.replicate (q.takeWhile (· == r)).length r ++ q.dropWhile (· == r)
  | [] => rfl
  | x :: q => by
    by_cases c : x = r
    · have := tw_split r q
      simp only [List.takeWhile, List.dropWhile, c, beq_self_eq_true, List.length_cons, List.replicate_succ, List.cons_append]
      rw [← this]
    · have hx : (x == r) = false := by simpa using c
      simp [List.takeWhile, List.dropWhile, hx]
theorem wr_back : ∀ (m : Nat) (q : List (List Stitch)), q.length ≤ m → (∀ r ∈ q, goodR r) → q.length < 32 → rowsOf (wrL q) = q ∧ badS (wrL q) = 0 ∧ (∀ x ∈ wrL q, ∀ c ∈ x, c ≠ 10) ∧ (wrS q).length ≤ 200 * q.length
  | _, [], _, _, _ => by rw [wrS, wrL]; simp [rowsOf, badS, textOf]
  | 0, _ :: _, h, _, _ => by simp at h
  | m + 1, r :: q, hm, hg, hl => by
    have hs := tw_split r q
    have hlen := congrArg List.length hs
    simp only [List.length_append, List.length_replicate] at hlen
    simp only [List.length_cons] at hm hl
    obtain ⟨i1, i2, i3, i4⟩ := wr_back m (q.dropWhile (· == r)) (by omega) (fun x hx => hg x (by rw [hs]; simp [hx])) (by omega)
    have hr := hg r (by simp)
    have hb := ln_back hr (n := (q.takeWhile (· == r)).length + 1) (by omega) (by omega)
    have hll := ln_len hr (n := (q.takeWhile (· == r)).length + 1) (by omega)
    rw [wrS, wrL]
    refine ⟨?_, ?_, ?_, ?_⟩
    · simp only [rowsOf, List.flatMap_cons, hb]
      have e : List.flatMap (fun x => List.replicate (lineR x).2.toNat (lineR x).1) (wrL (q.dropWhile (· == r))) = q.dropWhile (· == r) := i1
      rw [e, Int.toNat_natCast, List.replicate_succ, List.cons_append, ← hs]
    · simp only [badS, hb]
      rw [if_neg (by simp; omega), i2]; rfl
    · intro x hx
      rcases List.mem_cons.1 hx with rfl | hx
      · exact ln_plain hr (by omega)
      · exact i3 x hx
    · rw [wrS, textOf] at i4
      rw [textOf, List.flatMap_cons]
      simp only [List.length_append, List.length_cons, List.length_nil]
      omega
theorem sll_one {w : World} {A : Option Addr} {n c p : Nat} {rows : List (List Stitch)} {q : List Stitch} (h : Sll encSt w (.slice A n c) rows) (hr : rows[p]? = some q) (hc : rows.length ≤ c) (hM : c ≤ maxLen) : Sl2 w (.slice (if c = p then A else A.map (·.add (p * Enc.sl.sz))) (p + 1 - p) (c - p)) [q] := by
  obtain ⟨hs, h1, h2, h3⟩ := h
  have hp := (List.getElem?_eq_some_iff.1 hr).1
  have hpe := List.getElem?_eq_getElem (show p < hs.length by omega)
  have hd := Sl.drop h1 rfl (m := p) (by omega) (B := if c = p then A else A.map (·.add (p * Enc.sl.sz))) (c' := c - p) (by omega) (by omega) (fun _ => by rw [if_neg (by omega)])
  have ht := Sl.take hd rfl (m := 1) (by rw [List.length_drop]; omega) (B := if c = p then A else A.map (·.add (p * Enc.sl.sz))) (c' := c - p) (by omega) (by omega) (fun _ => rfl)
  have e : (hs.drop p).take 1 = [hs[p]] := by
    rw [List.drop_eq_getElem_cons (by omega)]; rfl
  rw [e] at ht
  refine ⟨[hs[p]], by rw [show p + 1 - p = 1 by omega]; exact ht, rfl, fun i x r hx hr2 => ?_⟩
  cases i with
  | zero =>
    simp at hx hr2
    subst hx hr2
    exact h3 p _ q hpe hr
  | succ i => simp at hx
theorem one_eq {q r : List Stitch} : (if [q] = [r] then (0 : Int) else 1) = 0 ↔ q = r := by
  split <;> simp_all
theorem itoa_two {t : Nat} (h : 9 < t) : itoaS t = [dg ((t / 10 : Nat) : Int), dg ((t % 10 : Nat) : Int)] := by rw [itoaS, if_neg (by omega)]
theorem itoa_one {t : Nat} (h : ¬ 9 < t) : itoaS t = [dg ((t : Nat) : Int)] := by rw [itoaS, if_pos (by omega)]
theorem ln_two {l : List UInt8} {r : List Stitch} {t : Nat} (h : 9 < t) : l ++ shortS r ++ ([32, 42] ++ [dg ((t / 10 : Nat) : Int), dg ((t % 10 : Nat) : Int)]) = l ++ lnW r t := by rw [lnW, if_pos (by omega), itoa_two h, List.append_assoc]
theorem ln_one {l : List UInt8} {r : List Stitch} {t : Nat} (h : ¬ 9 < t) (h1 : 1 < t) : l ++ shortS r ++ ([32, 42] ++ [dg ((t : Nat) : Int)]) = l ++ lnW r t := by rw [lnW, if_pos h1, itoa_one h, List.append_assoc]
theorem ln_no {l : List UInt8} {r : List Stitch} {t : Nat} (h1 : ¬ 1 < t) : l ++ shortS r = l ++ lnW r t := by rw [lnW, if_neg h1, List.append_nil]
theorem chart_rows {rs : List (List Stitch)} (h : chartE rs = 0) : rs.length ≤ 31 ∧ ∀ r ∈ rs, goodR r := by
  have h0 : rowsE rs = 0 := by
    by_cases c : rowsE rs = 0
    · exact c
    · rw [chart_bad rfl c] at h; exact h
  obtain ⟨a, -, b, -⟩ := rows_of h0
  refine ⟨a, fun r hr => ?_⟩
  obtain ⟨i, hi⟩ := List.getElem?_of_mem hr
  have := row_ok_of (b i r hi)
  exact ⟨this.2.2.1, this.2.1, this.1⟩
/-- What Read makes of the text of a good chart. -/
theorem write_back {rs : List (List Stitch)} (h : chartE rs = 0) : (wrS rs.reverse).length ≤ 6200 ∧ (rdS ((wrS rs.reverse).length + 1) (wrS rs.reverse) 1 []).2.2 = 0 ∧ (rdS ((wrS rs.reverse).length + 1) (wrS rs.reverse) 1 []).1.reverse = rs := by
  obtain ⟨h31, hg⟩ := chart_rows h
  obtain ⟨e1, e2, e3, e4⟩ := wr_back _ rs.reverse (Nat.le_refl _) (fun r hr => hg r (List.mem_reverse.1 hr)) (by simp; omega)
  have hf := (read_facts (wrL rs.reverse) false e3).2 (by rw [finBad, if_neg (by simp), e2]; omega)
  rw [show finText (wrL rs.reverse) false = wrS rs.reverse by rw [finText, if_neg (by simp)]; rfl, e1, List.reverse_reverse] at hf
  rw [List.length_reverse] at e4
  exact ⟨by omega, hf.1, hf.2.2 h⟩
end Go.G14
namespace Go.Proofs.YtbbnampdgefljaaDoor
open Go.Lw Go.G14
theorem co45 : CallOf Tryd.prog 45 := CallOf.mk' Tryd.func45 (by kernel_rfl) (by kernel_rfl)
theorem co47 : CallOf Tryd.prog 47 := CallOf.mk' Tryd.func47 (by kernel_rfl) (by kernel_rfl)
theorem co48 : CallOf Tryd.prog 48 := CallOf.mk' Tryd.func48 (by kernel_rfl) (by kernel_rfl)
theorem zv81 (w : World) : (zeroValue 81).run Tryd.prog w = .ok (.agg #[(.pointer none), (.slice none 0 0)]) w := by kernel_rfl
theorem bstring_ok (B b : Nat) (l : List UInt8) (w0 : World) (hI : Lib.IsBuilder 81 5 B b (Lib.byteCells l) w0) (hB : B ≤ w0.heap.size) : Rets Tryd.prog 48 #[.pointer (some ⟨b, 0, none⟩)] w0 fun v w' => v = S l ∧ RowKit.Below B w0 w' := by
 refine Calls.mono (Tryd.Builder_String_any B b l w0 hI hB) ?_
 rintro e w' ⟨rfl, hb⟩
 exact ⟨_, rfl, rfl, hb⟩
set_option maxHeartbeats 1000000 in
theorem write_ok (u : Value) (rows : List (List Stitch)) (w0 : World) (hS : Sll encSt w0 u rows) (hy : Sym w0) : Rets Tryd.prog 23 #[.agg #[u]] w0 fun v w' => v = S (if chartE rows = 0 then wrS rows.reverse else []) ∧ Fr [] w0 w' := by
 obtain ⟨A, c, rfl, hcp, hM⟩ := hS.form
 unfold maxLen at hM
 refine enter [(0, .agg #[.slice A rows.length c])] Tryd.func23 rfl Tryd.ntmps23 rfl (.cons rfl .nil) ?_
 have hf := Fr.refl [] w0
 intro a h
 refine wp_seq ?_
 refine wR ?_
 refine st_box h rfl rfl rfl ?_; clear h a; intro w1 hb1 hq hz a h
 obtain ⟨g_1, hg⟩ : ∃ g, g = w0.heap.size := ⟨_, rfl⟩; rw [← hg] at hb1 h hz
 have hl1 : w0.heap.size ≤ g_1 := by have := hf.size; omega
 replace hf := hf.next hq
 clear hq hz hg
 refine st_assign h rfl rfl ?_; clear h a; intro a h
 replace h : Ag a 52 [(1, _)] := h.sub (.cons rfl .nil)
 refine wnt ?_
 refine wp_seq ?_
 refine wp_seq ?_
 refine wR ?_
 refine st_loadBA h rfl hb1 ag45 rfl ?_; clear h a; intro a h
 refine st_call h (evs_cons rfl evs_nil) co38 (check_chart_ok _ rows _ (hS.ext hf)) rfl ?_; clear h a; rintro _ w2 ⟨rfl, hq⟩ a h
 replace hf := hf.next hq
 replace hb1 := hb1.ext hq
 clear hq
 refine st_ne h rfl rfl rfl ?_; clear h a; intro a h
 replace h : Ag a 52 [(1, _), (9, _)] := h.sub (.cons rfl (.cons rfl .nil))
 refine wnt ?_
 first | refine cond_dec h rfl (fun c0 => ?_) (fun c0 => ?_) | refine cond_ndec h rfl (fun c0 => ?_) (fun c0 => ?_) | refine cond_split h rfl (fun c0 => ?_) (fun c0 => ?_)
 ·refine id ?_
  refine wp_seq ?_
  refine wR ?_
  refine st_assign h rfl rfl ?_; clear h a; intro a h
  replace h : Ag a 52 [(2, _)] := h.sub (.cons rfl .nil)
  refine wnt ?_
  refine wp_ret (ret_then ?_)
  refine ret1 h Tryd.results23 rfl ?_
  exact ⟨_, rfl, by rw [if_neg c0]; rfl, hf⟩
 ·have hE : chartE rows = 0 := Decidable.not_not.1 c0
  have hwl := (write_back hE).1
  refine wsn ?_
  refine wp_seq ?_
  refine wR ?_
  refine st_alloc h zv81 rfl rfl ?_; clear h a; intro w3 hb3 hq hz a h
  obtain ⟨g_3, hg⟩ : ∃ g, g = w2.heap.size := ⟨_, rfl⟩; rw [← hg] at hb3 h hz
  have hl3 : w0.heap.size ≤ g_3 := by have := hf.size; omega
  have hn_1_3 : g_1 < g_3 := by have := hb1.lt; omega
  replace hf := hf.next hq
  replace hb1 := hb1.ext hq
  clear hq hz hg
  replace h : Ag a 52 [(1, _), (3, _)] := h.sub (.cons rfl (.cons rfl .nil))
  refine wnt ?_
  refine wp_seq ?_
  refine wp_seq ?_
  refine wR ?_
  refine st_fieldAddr h rfl fa45_0 rfl ?_; clear h a; intro a h
  refine st_loadB h rfl hb1 rfl na43 rfl ?_; clear h a; intro a h
  refine st_lenS h rfl Tryd.underlying43 rfl ?_; clear h a; intro a h
  refine st_assign h rfl rfl ?_; clear h a; intro a h
  replace h : Ag a 52 [(1, _), (3, _), (4, _)] := h.sub (.cons rfl (.cons rfl (.cons rfl .nil)))
  refine wnt ?_
  refine wp_block ?_
  refine loop (ι := Nat × List UInt8) (fun z => [(1, .pointer (some ⟨g_1, 0, none⟩)), (3, .pointer (some ⟨g_3, 0, none⟩)), (4, .int .i64 (z.1 : Int))]) (fun z w' => z.1 ≤ rows.length ∧ z.2 ++ wrS (rows.take z.1).reverse = wrS rows.reverse ∧ Lib.IsBuilder 81 5 g_3 g_3 (Lib.byteCells (z.2)) w' ∧ Blk w' g_1 45 [.slice A rows.length c] ∧ Fr [] w0 w') (fun z => z.1) (rows.length, []) (h.sub (.cons rfl (.cons rfl (.cons rfl .nil)))) ⟨Nat.le_refl _, by rw [List.take_length]; rfl, .inl ⟨Nat.le_refl _, _, hb3, World.ownsRow_nil _ _ _ _, by simp [Value.ownBlock]⟩, hb1, hf⟩ ?_
  clear h a hf hb1 hb3
  rintro ⟨left, l⟩ w4 a h ⟨hk, hw, hI, hb1, hf⟩
  simp only at hk hw hI h
  refine wp_seq ?_
  refine wp_seq ?_
  refine wR ?_
  refine st_move h rfl rfl ?_; clear h a; intro a h
  refine st_gt h rfl rfl rfl ?_; clear h a; intro a h
  replace h : Ag a 52 [(1, _), (3, _), (4, _), (14, _)] := h.sub (.cons rfl (.cons rfl (.cons rfl (.cons rfl .nil))))
  refine wnt ?_
  first | refine cond_dec h rfl (fun c1 => ?_) (fun c1 => ?_) | refine cond_ndec h rfl (fun c1 => ?_) (fun c1 => ?_) | refine cond_split h rfl (fun c1 => ?_) (fun c1 => ?_)
  ·obtain ⟨r, hrk⟩ : ∃ r, rows[left - 1]? = some r := ⟨_, List.getElem?_eq_getElem (by omega)⟩
   obtain ⟨RA, rc, ad, hAd, cz, hr, hrc, hrm⟩ := hS.row hrk
   unfold maxLen at hrm
   have cc := cz.fr hf (by simp)
   have hlen := congrArg List.length hw
   rw [List.length_append] at hlen
   have h31 := (chart_rows hE).1
   have hgr := (chart_rows hE).2 r (List.mem_of_getElem? hrk)
   have h16 := hgr.2.2
   have h1r := hgr.2.1
   refine wsn ?_
   refine wp_block ?_
   refine wp_seq ?_
   refine wR ?_
   refine st_fieldAddr h rfl fa45_0 rfl ?_; clear h a; intro a h
   refine st_loadB h rfl hb1 rfl na43 rfl ?_; clear h a; intro a h
   refine st_move h rfl rfl ?_; clear h a; intro a h
   refine st_sub h rfl rfl (by first | exact IntWalk.i64_in _ (by omega) | rfl) rfl ?_; clear h a; intro a h
   refine st_idxS (p := left - 1) h (by rw [hAd]; rfl) rfl el43 (by omega) (by omega) (by omega) rfl ?_; clear h a; intro a h
   refine st_loadC0 h rfl cc na22 rfl ?_; clear h a; intro a h
   refine st_assign h rfl rfl ?_; clear h a; intro a h
   replace h : Ag a 52 [(1, _), (3, _), (4, _), (5, _)] := h.sub (.cons rfl (.cons rfl (.cons rfl (.cons rfl .nil))))
   refine wnt ?_
   refine wp_seq ?_
   refine wR ?_
   refine st_assign h rfl rfl ?_; clear h a; intro a h
   refine wnt ?_
   refine seq_cut (Cut (ι := Nat) 52 (fun t => [(1, .pointer (some ⟨g_1, 0, none⟩)), (3, .pointer (some ⟨g_3, 0, none⟩)), (4, .int .i64 (left : Int)), (5, .slice RA r.length rc), (6, .int .i64 (t : Int))]) (fun t w' => 1 ≤ t ∧ t ≤ left ∧ (∀ j, j < t → rows[left - 1 - j]? = some r) ∧ ¬ (t < left ∧ rows[left - 1 - t]? = some r) ∧ Lib.IsBuilder 81 5 g_3 g_3 (Lib.byteCells (l)) w' ∧ Blk w' g_1 45 [.slice A rows.length c] ∧ Fr [] w0 w')) ?_ ?_
   ·refine id ?_
    refine wp_block ?_
    refine loop (ι := Nat) (fun t => [(1, .pointer (some ⟨g_1, 0, none⟩)), (3, .pointer (some ⟨g_3, 0, none⟩)), (4, .int .i64 (left : Int)), (5, .slice RA r.length rc), (6, .int .i64 (t : Int))]) (fun t w' => 1 ≤ t ∧ t ≤ left ∧ (∀ j, j < t → rows[left - 1 - j]? = some r) ∧ Lib.IsBuilder 81 5 g_3 g_3 (Lib.byteCells (l)) w' ∧ Blk w' g_1 45 [.slice A rows.length c] ∧ Fr [] w0 w') (fun t => left - t) 1 (h.sub (.cons rfl (.cons rfl (.cons rfl (.cons rfl (.cons rfl .nil)))))) ⟨by omega, by omega, fun j hj => by rw [show j = 0 by omega]; exact hrk, hI, hb1, hf⟩ ?_
    clear h a hf hb1 hI
    rintro t w5 a h ⟨h1, htl, hlike, hI, hb1, hf⟩
    refine wp_seq ?_
    refine wp_seq ?_
    refine wR ?_
    refine st_move h rfl rfl ?_; clear h a; intro a h
    refine st_move h rfl rfl ?_; clear h a; intro a h
    refine st_lt h rfl rfl rfl ?_; clear h a; intro a h
    refine st_move h rfl rfl ?_; clear h a; intro a h
    first | refine guard_dec (D := 24) h rfl ?_ ?_ | refine guard_ndec (D := 24) h rfl ?_ ?_ | refine guard_any (D := 24) h rfl ?_ ?_
    ·clear h; intro g0 h
     refine gd_yes h rfl rfl rfl rfl rfl rfl ?_
     refine st_fieldAddr h rfl fa45_0 rfl ?_; clear h a; intro a h
     refine gd_yes h rfl rfl rfl rfl rfl rfl ?_
     refine st_loadB h rfl hb1 rfl na43 rfl ?_; clear h a; intro a h
     refine gd_yes h rfl rfl rfl rfl rfl rfl ?_
     refine st_move h rfl rfl ?_; clear h a; intro a h
     refine gd_yes h rfl rfl rfl rfl rfl rfl ?_
     refine st_sub h rfl rfl (by first | exact IntWalk.i64_in _ (by omega) | rfl) rfl ?_; clear h a; intro a h
     refine gd_yes h rfl rfl rfl rfl rfl rfl ?_
     refine st_move h rfl rfl ?_; clear h a; intro a h
     refine gd_yes h rfl rfl rfl rfl rfl rfl ?_
     refine st_sub h rfl rfl (by first | exact IntWalk.i64_in _ (by omega) | rfl) rfl ?_; clear h a; intro a h
     refine gd_yes h rfl rfl rfl rfl rfl rfl ?_
     obtain ⟨q, hqk⟩ : ∃ r, rows[left - 1 - t]? = some r := ⟨_, List.getElem?_eq_getElem (by omega)⟩
     obtain ⟨RA2, rc2, ad2, hAd2, cz2, hr2, hrc2, hrm2⟩ := hS.row hqk
     unfold maxLen at hrm2
     have cc2 := cz2.fr hf (by simp)
     refine st_idxS (p := left - 1 - t) h (by rw [hAd2]; rfl) rfl el43 (by omega) (by omega) (by omega) rfl ?_; clear h a; intro a h
     refine gd_yes h rfl rfl rfl rfl rfl rfl ?_
     refine st_loadC0 h rfl cc2 na22 rfl ?_; clear h a; intro a h
     refine gd_yes h rfl rfl rfl rfl rfl rfl ?_
     refine st_move h rfl rfl ?_; clear h a; intro a h
     refine gd_yes h rfl rfl rfl rfl rfl rfl ?_
     refine st_call h (evs_cons rfl (evs_cons rfl evs_nil)) co44 (equal_ok _ _ _ _ _ (hr2.ext hf) (hr.ext hf)) rfl ?_; clear h a; rintro _ w6 ⟨rfl, hq⟩ a h
     replace hf := hf.next hq
     replace hb1 := hb1.ext hq
     replace hI := isB_fr hI hq
     clear hq
     refine st_pick_t h rfl rfl rfl rfl ?_; clear h a; intro a h
     replace h : Ag a 52 [(1, _), (3, _), (4, _), (5, _), (6, _), (35, _)] := h.sub (.cons rfl (.cons rfl (.cons rfl (.cons rfl (.cons rfl (.cons rfl .nil))))))
     refine wnt ?_
     first | refine cond_dec h rfl (fun c2 => ?_) (fun c2 => ?_) | refine cond_ndec h rfl (fun c2 => ?_) (fun c2 => ?_) | refine cond_split h rfl (fun c2 => ?_) (fun c2 => ?_)
     ·refine id ?_
      refine wsn ?_
      refine wp_block ?_
      refine wR ?_
      refine st_move h rfl rfl ?_; clear h a; intro a h
      refine st_add h rfl rfl (by first | exact IntWalk.i64_in _ (by omega) | rfl) rfl ?_; clear h a; intro a h
      refine st_assign h rfl rfl ?_; clear h a; intro a h
      replace h : Ag a 52 [(1, _), (3, _), (4, _), (5, _), (6, _)] := h.sub (.cons rfl (.cons rfl (.cons rfl (.cons rfl (.cons rfl .nil)))))
      refine wpList_nil (norm_blk (norm_then ?_))
      exact ⟨t + 1, h.sub (.cons rfl (.cons rfl (.cons rfl (.cons rfl (.cons rfl .nil))))), ⟨by omega, by omega, like_next hlike (by rw [hqk, c2]), hI, hb1, hf⟩, by omega⟩
     ·refine id ?_
      refine wp_exit (exit_then (exit_then (exit_here (norm_then ?_))))
      exact ⟨t, h.sub (.cons rfl (.cons rfl (.cons rfl (.cons rfl (.cons rfl .nil))))), h1, htl, hlike, by first | exact fun e => c2 (Option.some.inj (hqk.symm.trans e.2)) | (intro e; omega), hI, hb1, hf⟩
    ·clear h; intro g0 h
     refine gd_no h rfl rfl rfl rfl rfl rfl rfl rfl ?_; clear h a; intro a h
     refine gd_no h rfl rfl rfl rfl rfl rfl rfl rfl ?_; clear h a; intro a h
     refine gd_no h rfl rfl rfl rfl rfl rfl rfl rfl ?_; clear h a; intro a h
     refine gd_no h rfl rfl rfl rfl rfl rfl rfl rfl ?_; clear h a; intro a h
     refine gd_no h rfl rfl rfl rfl rfl rfl rfl rfl ?_; clear h a; intro a h
     refine gd_no h rfl rfl rfl rfl rfl rfl rfl rfl ?_; clear h a; intro a h
     refine gd_no h rfl rfl rfl rfl rfl rfl rfl rfl ?_; clear h a; intro a h
     refine gd_no h rfl rfl rfl rfl rfl rfl rfl rfl ?_; clear h a; intro a h
     refine gd_no h rfl rfl rfl rfl rfl rfl rfl rfl ?_; clear h a; intro a h
     refine gd_no h rfl rfl rfl rfl rfl rfl rfl rfl ?_; clear h a; intro a h
     refine st_pick_f h rfl rfl rfl rfl ?_; clear h a; intro a h
     replace h : Ag a 52 [(1, _), (3, _), (4, _), (5, _), (6, _), (35, _)] := h.sub (.cons rfl (.cons rfl (.cons rfl (.cons rfl (.cons rfl (.cons rfl .nil))))))
     refine wnt ?_
     refine cond_false h rfl ?_
     refine wp_exit (exit_then (exit_then (exit_here (norm_then ?_))))
     exact ⟨t, h.sub (.cons rfl (.cons rfl (.cons rfl (.cons rfl (.cons rfl .nil))))), h1, htl, hlike, by first | exact fun e => c2 (Option.some.inj (hqk.symm.trans e.2)) | (intro e; omega), hI, hb1, hf⟩
   ·clear h a hf hb1 hI
    rintro a w7 ⟨t, h, ⟨h1, htl, hlike, hend, hI, hb1, hf⟩⟩
    refine wp_seq ?_
    refine wR ?_
    refine st_move h rfl rfl ?_; clear h a; intro a h
    refine st_call h (evs_cons rfl evs_nil) co31 (shortest_ok _ r _ (hr.ext hf) (by omega) (by omega) (hy.ext hf)) rfl ?_; clear h a; rintro _ w8 ⟨rfl, hq⟩ a h
    replace hf := hf.next hq
    replace hb1 := hb1.ext hq
    replace hI := isB_fr hI hq
    clear hq
    refine st_call h (evs_cons rfl (evs_cons rfl evs_nil)) co45 (writestring_ok _ _ l (shortS r) _ hI (by have := short_len h1r h16; omega)) rfl ?_; clear h a; rintro _ w9 ⟨hI2, hbw⟩ a h
    replace hf := hf.then_below hbw hl3
    replace hb1 := hb1.of_below hbw hn_1_3
    replace hI := hI2
    clear hI2 hbw
    replace h : Ag a 52 [(1, _), (3, _), (4, _), (6, _)] := h.sub (.cons rfl (.cons rfl (.cons rfl (.cons rfl .nil))))
    refine wnt ?_
    refine seq_cut (Cut (ι := Unit) 52 (fun u => [(1, .pointer (some ⟨g_1, 0, none⟩)), (3, .pointer (some ⟨g_3, 0, none⟩)), (4, .int .i64 (left : Int)), (6, .int .i64 (t : Int))]) (fun u w' => Lib.IsBuilder 81 5 g_3 g_3 (Lib.byteCells (l ++ lnW r t)) w' ∧ Blk w' g_1 45 [.slice A rows.length c] ∧ Fr [] w0 w')) ?_ ?_
    ·refine id ?_
     refine wp_seq ?_
     refine wR ?_
     refine st_move h rfl rfl ?_; clear h a; intro a h
     refine st_gt h rfl rfl rfl ?_; clear h a; intro a h
     replace h : Ag a 52 [(1, _), (3, _), (4, _), (6, _), (42, _)] := h.sub (.cons rfl (.cons rfl (.cons rfl (.cons rfl (.cons rfl .nil)))))
     refine wnt ?_
     first | refine cond_dec h rfl (fun c3 => ?_) (fun c3 => ?_) | refine cond_ndec h rfl (fun c3 => ?_) (fun c3 => ?_) | refine cond_split h rfl (fun c3 => ?_) (fun c3 => ?_)
     ·refine id ?_
      refine wR ?_
      refine st_move h rfl rfl ?_; clear h a; intro a h
      refine st_call h (evs_cons rfl evs_nil) co46 (itoa_ok t _ (by omega)) rfl ?_; clear h a; rintro _ _ ⟨rfl, rfl⟩ a h
      refine st_adds h rfl rfl (by have := (num_itoa t (by omega) (by omega)).2; simp; omega) rfl ?_; clear h a; intro a h
      refine st_call h (evs_cons rfl (evs_cons rfl evs_nil)) co45 (writestring_ok _ _ _ ([32, 42] ++ itoaS t) _ hI (by have := short_len h1r h16; have := (num_itoa t (by omega) (by omega)).2; simp; omega)) rfl ?_; clear h a; rintro _ w10 ⟨hI2, hbw⟩ a h
      replace hf := hf.then_below hbw hl3
      replace hb1 := hb1.of_below hbw hn_1_3
      replace hI := hI2
      clear hI2 hbw
      replace h : Ag a 52 [(1, _), (3, _), (4, _), (6, _)] := h.sub (.cons rfl (.cons rfl (.cons rfl (.cons rfl .nil))))
      refine wnt ?_
      exact ⟨(), h.sub (.cons rfl (.cons rfl (.cons rfl (.cons rfl .nil)))), by first | (rw [lnW, if_pos (by omega), ← List.append_assoc]; exact hI) | (rw [lnW, if_neg (by omega), List.append_nil]; exact hI), hb1, hf⟩
     ·refine id ?_
      refine wsn ?_
      exact ⟨(), h.sub (.cons rfl (.cons rfl (.cons rfl (.cons rfl .nil)))), by first | (rw [lnW, if_pos (by omega), ← List.append_assoc]; exact hI) | (rw [lnW, if_neg (by omega), List.append_nil]; exact hI), hb1, hf⟩
    ·clear h a hf hb1 hI
     rintro a w11 ⟨u, h, ⟨hI, hb1, hf⟩⟩
     refine wp_seq ?_
     refine wR ?_
     refine st_call h (evs_cons rfl (evs_cons rfl evs_nil)) co47 (writebyte_ok _ _ _ 10 _ hI (by have := ln_len hgr (n := t) (by omega); simp; omega)) rfl ?_; clear h a; rintro _ w12 ⟨hI2, hbw⟩ a h
     replace hf := hf.then_below hbw hl3
     replace hb1 := hb1.of_below hbw hn_1_3
     replace hI := hI2
     clear hI2 hbw
     replace h : Ag a 52 [(1, _), (3, _), (4, _), (6, _)] := h.sub (.cons rfl (.cons rfl (.cons rfl (.cons rfl .nil))))
     refine wnt ?_
     refine wR ?_
     refine st_move h rfl rfl ?_; clear h a; intro a h
     refine st_move h rfl rfl ?_; clear h a; intro a h
     refine st_sub h rfl rfl (by first | exact IntWalk.i64_in _ (by omega) | rfl) rfl ?_; clear h a; intro a h
     refine st_assign h rfl rfl ?_; clear h a; intro a h
     replace h : Ag a 52 [(1, _), (3, _), (4, _)] := h.sub (.cons rfl (.cons rfl (.cons rfl .nil)))
     refine wpList_nil (norm_blk (norm_then ?_))
     exact ⟨(left - t, l ++ lnW r t ++ [10]), h.sub (.cons rfl (.cons rfl (.cons (by show some (Value.int .i64 ((left : Int) - (t : Int))) = some (Value.int .i64 ((left - t : Nat) : Int)); rw [Int.ofNat_sub htl]) .nil))), ⟨by simp only; omega, by rw [← hw, wr_step h1 htl hk hlike hend]; simp, hI, hb1, hf⟩, by simp only; omega⟩
  ·obtain rfl : left = 0 := by omega
   refine wp_exit (exit_then (exit_then (exit_here (norm_then ?_))))
   refine wp_seq ?_
   refine wR ?_
   refine st_call h (evs_cons rfl evs_nil) co48 (bstring_ok _ _ _ _ hI (Nat.le_of_lt (hI.elim Lib.BuilderAt.lt Lib.BuilderAt.lt))) rfl ?_; clear h a; rintro _ w13 ⟨rfl, hbw⟩ a h
   replace hf := hf.then_below hbw hl3
   refine st_assign h rfl rfl ?_; clear h a; intro a h
   replace h : Ag a 52 [(2, _)] := h.sub (.cons rfl .nil)
   refine wnt ?_
   refine wp_ret ?_
   refine ret1 h Tryd.results23 rfl ?_
   exact ⟨_, rfl, by rw [if_pos hE, ← hw]; simp [wrS_nil], hf⟩
end Go.Proofs.YtbbnampdgefljaaDoor
namespace Go.Proofs.YtbbnampdgefljaaDoor
open Go.Lw Go.G14

set_option maxHeartbeats 1000000 in
theorem refwrite_ok (u : Value) (rows : List (List Stitch)) (w0 : World) (hS : Sll encSt w0 u rows) (hE : chartE rows = 0) : Rets Tryd.prog 24 #[.agg #[u]] w0 fun v w' => v = S (wrS rows.reverse) ∧ Fr [] w0 w' := by
 obtain ⟨A, c, rfl, hcp, hM0⟩ := hS.form
 have hM := hM0
 unfold maxLen at hM
 obtain ⟨h31, hgd⟩ := chart_rows hE
 have hwl := (write_back hE).1
 refine enter [(0, .agg #[.slice A rows.length c])] Tryd.func24 rfl Tryd.ntmps24 rfl (.cons rfl .nil) ?_
 have hf := Fr.refl [] w0
 intro a h
 refine wp_seq ?_
 refine wR ?_
 refine st_box h rfl rfl rfl ?_; clear h a; intro w1 hb1 hq hz a h
 obtain ⟨g_1, hg⟩ : ∃ g, g = w0.heap.size := ⟨_, rfl⟩; rw [← hg] at hb1 h hz
 have hl1 : w0.heap.size ≤ g_1 := by have := hf.size; omega
 replace hf := hf.next hq
 clear hq hz hg
 refine st_assign h rfl rfl ?_; clear h a; intro a h
 replace h : Ag a 76 [(1, _)] := h.sub (.cons rfl .nil)
 refine wnt ?_
 refine wp_seq ?_
 refine wR ?_
 refine st_assign h rfl rfl ?_; clear h a; intro a h
 refine wnt ?_
 refine wp_seq ?_
 refine wp_seq ?_
 refine wR ?_
 refine st_fieldAddr h rfl fa45_0 rfl ?_; clear h a; intro a h
 refine st_loadB h rfl hb1 rfl na43 rfl ?_; clear h a; intro a h
 refine st_lenS h rfl Tryd.underlying43 rfl ?_; clear h a; intro a h
 refine st_sub h rfl rfl (by first | exact IntWalk.i64_in _ (by omega) | rfl) rfl ?_; clear h a; intro a h
 refine st_assign h rfl rfl ?_; clear h a; intro a h
 replace h : Ag a 76 [(1, _), (3, _), (4, _)] := h.sub (.cons rfl (.cons rfl (.cons rfl .nil)))
 refine wnt ?_
 refine wp_block ?_
 refine loop (ι := Nat × List UInt8) (fun z => [(1, .pointer (some ⟨g_1, 0, none⟩)), (3, S z.2), (4, .int .i64 ((z.1 : Int) - 1))]) (fun z w' => z.1 ≤ rows.length ∧ z.2 ++ wrS (rows.take z.1).reverse = wrS rows.reverse ∧ Blk w' g_1 45 [.slice A rows.length c] ∧ Fr [] w0 w') (fun z => z.1) (rows.length, []) (h.sub (.cons rfl (.cons rfl (.cons rfl .nil)))) ⟨Nat.le_refl _, by rw [List.take_length]; rfl, hb1, hf⟩ ?_
 clear h a hf hb1
 rintro ⟨left, l⟩ w2 a h ⟨hk, hw, hb1, hf⟩
 simp only at hk hw h
 refine wp_seq ?_
 refine wp_seq ?_
 refine wR ?_
 refine st_move h rfl rfl ?_; clear h a; intro a h
 refine st_ge h rfl rfl rfl ?_; clear h a; intro a h
 replace h : Ag a 76 [(1, _), (3, _), (4, _), (12, _)] := h.sub (.cons rfl (.cons rfl (.cons rfl (.cons rfl .nil))))
 refine wnt ?_
 first | refine cond_dec h rfl (fun c0 => ?_) (fun c0 => ?_) | refine cond_ndec h rfl (fun c0 => ?_) (fun c0 => ?_) | refine cond_split h rfl (fun c0 => ?_) (fun c0 => ?_)
 ·obtain ⟨r, hrk⟩ : ∃ r, rows[left - 1]? = some r := ⟨_, List.getElem?_eq_getElem (by omega)⟩
  obtain ⟨RA, rc, ad, hAd, cz, hr, hrc, hrm⟩ := hS.row hrk
  unfold maxLen at hrm
  have cc := cz.fr hf (by simp)
  have hlen := congrArg List.length hw
  rw [List.length_append] at hlen
  have hgr := hgd r (List.mem_of_getElem? hrk)
  have h16 := hgr.2.2
  have h1r := hgr.2.1
  have hsl := short_len h1r h16
  refine wsn ?_
  refine wp_block ?_
  refine wp_seq ?_
  refine wR ?_
  refine st_move h rfl rfl ?_; clear h a; intro a h
  refine st_assign h rfl rfl ?_; clear h a; intro a h
  replace h : Ag a 76 [(1, _), (3, _), (4, _), (5, _)] := h.sub (.cons rfl (.cons rfl (.cons rfl (.cons rfl .nil))))
  refine wnt ?_
  refine seq_cut (Cut (ι := Nat) 76 (fun t => [(1, .pointer (some ⟨g_1, 0, none⟩)), (3, S l), (4, .int .i64 ((left : Int) - 1)), (5, .int .i64 ((left : Int) - 1 - (t : Int)))]) (fun t w' => 1 ≤ t ∧ t ≤ left ∧ (∀ j, j < t → rows[left - 1 - j]? = some r) ∧ ¬ (t < left ∧ rows[left - 1 - t]? = some r) ∧ Blk w' g_1 45 [.slice A rows.length c] ∧ Fr [] w0 w')) ?_ ?_
  ·refine id ?_
   refine wp_block ?_
   refine loop (ι := Nat) (fun t => [(1, .pointer (some ⟨g_1, 0, none⟩)), (3, S l), (4, .int .i64 ((left : Int) - 1)), (5, .int .i64 ((left : Int) - 1 - (t : Int)))]) (fun t w' => t ≤ left ∧ (∀ j, j < t → rows[left - 1 - j]? = some r) ∧ Blk w' g_1 45 [.slice A rows.length c] ∧ Fr [] w0 w') (fun t => left - t) 0 (h.sub (.cons rfl (.cons rfl (.cons rfl (.cons (by show some (Value.int .i64 ((left : Int) - 1)) = some (Value.int .i64 ((left : Int) - 1 - ((0 : Nat) : Int))); congr 2; omega) .nil))))) ⟨by omega, fun j hj => by omega, hb1, hf⟩ ?_
   clear h a hf hb1
   rintro t w3 a h ⟨htl, hlike, hb1, hf⟩
   refine wp_seq ?_
   refine wp_seq ?_
   refine region_quiet hmix (by kernel_rfl) ?_
   refine qt_move h rfl rfl ?_; clear h a; intro a h
   refine qt_ge h rfl rfl rfl ?_; clear h a; intro a h
   refine qt_move h rfl rfl ?_; clear h a; intro a h
   first | refine guard_dec (D := 16) h rfl ?_ ?_ | refine guard_ndec (D := 16) h rfl ?_ ?_ | refine guard_any (D := 16) h rfl ?_ ?_
   ·clear h; intro g0 h
    refine qd_yes h rfl rfl rfl rfl rfl rfl ?_
    refine qt_fieldAddr h rfl fa45_0 rfl ?_; clear h a; intro a h
    refine qd_yes h rfl rfl rfl rfl rfl rfl ?_
    refine qt_loadB h rfl (fun _ hw => hb1.ext hw) rfl na43 rfl ?_; clear h a; intro a h
    refine qd_yes h rfl rfl rfl rfl rfl rfl ?_
    refine qt_move h rfl rfl ?_; clear h a; intro a h
    refine qd_yes h rfl rfl rfl rfl rfl rfl ?_
    refine qt_move h rfl rfl ?_; clear h a; intro a h
    refine qd_yes h rfl rfl rfl rfl rfl rfl ?_
    refine qt_add h rfl rfl (by first | exact IntWalk.i64_in _ (by omega) | rfl) rfl ?_; clear h a; intro a h
    refine qd_yes h rfl rfl rfl rfl rfl rfl ?_
    obtain ⟨q, hqk⟩ : ∃ r, rows[left - 1 - t]? = some r := ⟨_, List.getElem?_eq_getElem (by omega)⟩
    obtain ⟨RA2, rc2, ad2, hAd2, cz2, hr2, hrc2, hrm2⟩ := hS.row hqk
    unfold maxLen at hrm2
    have cc2 := cz2.fr hf (by simp)
    refine qt_sl_lh (p := left - 1 - t) (p' := left - 1 - t + 1) h rfl rfl rfl el43 (by omega) (by omega) (by omega) (by omega) (by omega) rfl ?_; clear h a; intro a h
    refine qd_yes h rfl rfl rfl rfl rfl rfl ?_
    refine qt_lit (cs := [_]) h (evs_cons rfl evs_nil) bo45 (pok_cons rfl rfl rfl pok_nil) rfl rfl ?_; clear h a; intro a h
    refine qd_yes h rfl rfl rfl rfl rfl rfl ?_
    refine qt_fieldAddr h rfl fa45_0 rfl ?_; clear h a; intro a h
    refine qd_yes h rfl rfl rfl rfl rfl rfl ?_
    refine qt_loadB h rfl (fun _ hw => hb1.ext hw) rfl na43 rfl ?_; clear h a; intro a h
    refine qd_yes h rfl rfl rfl rfl rfl rfl ?_
    refine qt_move h rfl rfl ?_; clear h a; intro a h
    refine qd_yes h rfl rfl rfl rfl rfl rfl ?_
    refine qt_move h rfl rfl ?_; clear h a; intro a h
    refine qd_yes h rfl rfl rfl rfl rfl rfl ?_
    refine qt_add h rfl rfl (by first | exact IntWalk.i64_in _ (by omega) | rfl) rfl ?_; clear h a; intro a h
    refine qd_yes h rfl rfl rfl rfl rfl rfl ?_
    refine qt_sl_lh (p := left - 1) (p' := left - 1 + 1) h rfl rfl rfl el43 (by omega) (by omega) (by omega) (by omega) (by omega) rfl ?_; clear h a; intro a h
    refine qd_yes h rfl rfl rfl rfl rfl rfl ?_
    refine qt_lit (cs := [_]) h (evs_cons rfl evs_nil) bo45 (pok_cons rfl rfl rfl pok_nil) rfl rfl ?_; clear h a; intro a h
    refine qd_yes h rfl rfl rfl rfl rfl rfl ?_
    refine qt_call h (evs_cons rfl (evs_cons rfl evs_nil)) co22 (fun w hw => (differ2_ok _ _ _ _ w (sll_one ((hS.ext hf).ext hw) hqk hcp hM0) (sll_one ((hS.ext hf).ext hw) hrk hcp hM0)).mono fun u w' ⟨e, f⟩ => ⟨e, hw.next f⟩) rfl ?_; clear h a; intro a h
    refine qd_yes h rfl rfl rfl rfl rfl rfl ?_
    refine qt_eq h rfl rfl rfl ?_; clear h a; intro a h
    refine qt_pick_t h rfl rfl rfl rfl ?_; clear h a; intro a h
    refine wpQuiet_nil ?_
    intro w4 hq
    replace hf := hf.next hq
    replace hb1 := hb1.ext hq
    clear hq
    replace h : Ag a 76 [(1, _), (3, _), (4, _), (5, _), (33, _)] := h.sub (.cons rfl (.cons rfl (.cons rfl (.cons rfl (.cons rfl .nil)))))
    refine (norm_then ?_)
    first | refine cond_dec h rfl (fun c1 => ?_) (fun c1 => ?_) | refine cond_ndec h rfl (fun c1 => ?_) (fun c1 => ?_) | refine cond_split h rfl (fun c1 => ?_) (fun c1 => ?_)
    ·refine id ?_
     refine wsn ?_
     refine wp_block ?_
     refine wR ?_
     refine st_move h rfl rfl ?_; clear h a; intro a h
     refine st_sub h rfl rfl (by first | exact IntWalk.i64_in _ (by omega) | rfl) rfl ?_; clear h a; intro a h
     refine st_assign h rfl rfl ?_; clear h a; intro a h
     replace h : Ag a 76 [(1, _), (3, _), (4, _), (5, _)] := h.sub (.cons rfl (.cons rfl (.cons rfl (.cons rfl .nil))))
     refine wpList_nil (norm_blk (norm_then ?_))
     exact ⟨t + 1, h.sub (.cons rfl (.cons rfl (.cons rfl (.cons (by show some (Value.int .i64 ((left : Int) - 1 - (t : Int) - 1)) = some (Value.int .i64 ((left : Int) - 1 - ((t + 1 : Nat) : Int))); congr 2; omega) .nil)))), ⟨by omega, like_next hlike (by rw [hqk, one_eq.1 c1]), hb1, hf⟩, by omega⟩
    ·refine id ?_
     refine wp_exit (exit_then (exit_then (exit_here (norm_then ?_))))
     exact ⟨t, h.sub (.cons rfl (.cons rfl (.cons rfl (.cons rfl .nil)))), by first | omega | exact Nat.one_le_iff_ne_zero.2 (fun e => c1 (one_eq.2 (Option.some.inj (hqk.symm.trans (by rw [e]; exact hrk))))), htl, hlike, by first | exact fun e => c1 (one_eq.2 (Option.some.inj (hqk.symm.trans e.2))) | (intro e; omega), hb1, hf⟩
   ·clear h; intro g0 h
    refine qd_no h rfl rfl rfl rfl rfl rfl rfl rfl ?_; clear h a; intro a h
    refine qd_no h rfl rfl rfl rfl rfl rfl rfl rfl ?_; clear h a; intro a h
    refine qd_no h rfl rfl rfl rfl rfl rfl rfl rfl ?_; clear h a; intro a h
    refine qd_no h rfl rfl rfl rfl rfl rfl rfl rfl ?_; clear h a; intro a h
    refine qd_no h rfl rfl rfl rfl rfl rfl rfl rfl ?_; clear h a; intro a h
    refine qd_no h rfl rfl rfl rfl rfl rfl rfl rfl ?_; clear h a; intro a h
    refine qd_no h rfl rfl rfl rfl rfl rfl rfl rfl ?_; clear h a; intro a h
    refine qd_no h rfl rfl rfl rfl rfl rfl rfl rfl ?_; clear h a; intro a h
    refine qd_no h rfl rfl rfl rfl rfl rfl rfl rfl ?_; clear h a; intro a h
    refine qd_no h rfl rfl rfl rfl rfl rfl rfl rfl ?_; clear h a; intro a h
    refine qd_no h rfl rfl rfl rfl rfl rfl rfl rfl ?_; clear h a; intro a h
    refine qd_no h rfl rfl rfl rfl rfl rfl rfl rfl ?_; clear h a; intro a h
    refine qd_no h rfl rfl rfl rfl rfl rfl rfl rfl ?_; clear h a; intro a h
    refine qd_no h rfl rfl rfl rfl rfl rfl rfl rfl ?_; clear h a; intro a h
    refine qd_no h rfl rfl rfl rfl rfl rfl rfl rfl ?_; clear h a; intro a h
    refine qd_no h rfl rfl rfl rfl rfl rfl rfl rfl ?_; clear h a; intro a h
    refine qt_pick_f h rfl rfl rfl rfl ?_; clear h a; intro a h
    refine wpQuiet_nil ?_
    intro w5 hq
    replace hf := hf.next hq
    replace hb1 := hb1.ext hq
    clear hq
    replace h : Ag a 76 [(1, _), (3, _), (4, _), (5, _), (33, _)] := h.sub (.cons rfl (.cons rfl (.cons rfl (.cons rfl (.cons rfl .nil)))))
    refine (norm_then ?_)
    refine cond_false h rfl ?_
    refine wp_exit (exit_then (exit_then (exit_here (norm_then ?_))))
    exact ⟨t, h.sub (.cons rfl (.cons rfl (.cons rfl (.cons rfl .nil)))), by first | omega | exact Nat.one_le_iff_ne_zero.2 (fun e => c1 (one_eq.2 (Option.some.inj (hqk.symm.trans (by rw [e]; exact hrk))))), htl, hlike, by first | exact fun e => c1 (one_eq.2 (Option.some.inj (hqk.symm.trans e.2))) | (intro e; omega), hb1, hf⟩
  ·clear h a hf hb1
   rintro a w6 ⟨t, h, ⟨h1, htl, hlike, hend, hb1, hf⟩⟩
   refine wp_seq ?_
   refine wR ?_
   refine st_move h rfl rfl ?_; clear h a; intro a h
   refine st_fieldAddr h rfl fa45_0 rfl ?_; clear h a; intro a h
   refine st_loadB h rfl hb1 rfl na43 rfl ?_; clear h a; intro a h
   refine st_move h rfl rfl ?_; clear h a; intro a h
   refine st_idxS (p := left - 1) h (by rw [hAd]; rfl) rfl el43 (by omega) (by omega) (by omega) rfl ?_; clear h a; intro a h
   refine st_loadC0 h rfl (cz.fr hf (by simp)) na22 rfl ?_; clear h a; intro a h
   refine st_call h (evs_cons rfl evs_nil) co16 (refshort_ok _ r _ (hr.ext hf) hgr.1 h1r h16) rfl ?_; clear h a; rintro _ w7 ⟨rfl, hq⟩ a h
   replace hf := hf.next hq
   replace hb1 := hb1.ext hq
   clear hq
   refine st_adds h rfl rfl (by first | omega | (simp; omega)) rfl ?_; clear h a; intro a h
   refine st_assign h rfl rfl ?_; clear h a; intro a h
   replace h : Ag a 76 [(1, _), (3, _), (4, _), (5, _)] := h.sub (.cons rfl (.cons rfl (.cons rfl (.cons rfl .nil))))
   refine wnt ?_
   refine seq_cut (Cut (ι := Unit) 76 (fun u => [(1, .pointer (some ⟨g_1, 0, none⟩)), (3, S (l ++ lnW r t)), (5, .int .i64 ((left : Int) - 1 - (t : Int)))]) (fun u w' => Blk w' g_1 45 [.slice A rows.length c] ∧ Fr [] w0 w')) ?_ ?_
   ·refine id ?_
    refine wp_seq ?_
    refine wR ?_
    refine st_move h rfl rfl ?_; clear h a; intro a h
    refine st_move h rfl rfl ?_; clear h a; intro a h
    refine st_sub h rfl rfl (by first | exact IntWalk.i64_in _ (by omega) | rfl) rfl ?_; clear h a; intro a h
    refine st_assign h rfl rfl ?_; clear h a; intro a h
    rw [show ((left : Int) - 1) - ((left : Int) - 1 - (t : Int)) = (t : Int) by omega] at h
    replace h : Ag a 76 [(1, _), (3, _), (5, _), (6, _)] := h.sub (.cons rfl (.cons rfl (.cons rfl (.cons rfl .nil))))
    refine wnt ?_
    refine wp_seq ?_
    refine wR ?_
    refine st_move h rfl rfl ?_; clear h a; intro a h
    refine st_gt h rfl rfl rfl ?_; clear h a; intro a h
    replace h : Ag a 76 [(1, _), (3, _), (5, _), (6, _), (48, _)] := h.sub (.cons rfl (.cons rfl (.cons rfl (.cons rfl (.cons rfl .nil)))))
    refine wnt ?_
    first | refine cond_dec h rfl (fun c2 => ?_) (fun c2 => ?_) | refine cond_ndec h rfl (fun c2 => ?_) (fun c2 => ?_) | refine cond_split h rfl (fun c2 => ?_) (fun c2 => ?_)
    ·refine id ?_
     refine wR ?_
     refine st_move h rfl rfl ?_; clear h a; intro a h
     refine st_move h rfl rfl ?_; clear h a; intro a h
     refine st_quo (z := ((t / 10 : Nat) : Int)) h rfl rfl (by omega) (by rw [IntWalk.i64_quo _ _ (by omega)]; omega) rfl ?_; clear h a; intro a h
     refine st_add h rfl rfl (by first | exact IntWalk.i64_in _ (by omega) | rfl) rfl ?_; clear h a; intro a h
     refine st_conv h rfl (by rw [Tryd.underlying3]; rfl) Tryd.underlying5 (by first | exact IntWalk.u8_in _ (by omega) | rfl) rfl ?_; clear h a; intro a h
     refine st_move h rfl rfl ?_; clear h a; intro a h
     refine st_rem (z := ((t % 10 : Nat) : Int)) h rfl rfl (by omega) (by rw [IntWalk.rem_in _ _ (by omega)]; omega) rfl ?_; clear h a; intro a h
     refine st_add h rfl rfl (by first | exact IntWalk.i64_in _ (by omega) | rfl) rfl ?_; clear h a; intro a h
     refine st_conv h rfl (by rw [Tryd.underlying3]; rfl) Tryd.underlying5 (by first | exact IntWalk.u8_in _ (by omega) | rfl) rfl ?_; clear h a; intro a h
     refine st_bslice ([dg ((t / 10 : Nat) : Int), dg ((t % 10 : Nat) : Int)]) h (evs_cons rfl (evs_cons rfl evs_nil)) rfl (by rw [show (48 : Int) + (((t / 10 : Nat) : Int)) = ((dg (((t / 10 : Nat) : Int))).toNat : Int) from (dg_val _ (by omega) (by omega)).symm]; rw [show (48 : Int) + (((t % 10 : Nat) : Int)) = ((dg (((t % 10 : Nat) : Int))).toNat : Int) from (dg_val _ (by omega) (by omega)).symm]; rfl) rfl el58 (Nat.le_of_ble_eq_true rfl) rfl ?_; clear h a; intro g_58 w8 hg ho58 hq hz a h
     have hn_1_58 : g_1 < g_58 := by have := hb1.lt; omega
     have hl58 : w0.heap.size ≤ g_58 := by have := hf.size; omega
     replace hf := hf.next hq
     replace hb1 := hb1.ext hq
     clear hq hz hg
     refine st_b2s h rfl ho58.sl el58 Tryd.underlying5 Tryd.underlying9 rfl ?_; clear h a; intro a h
     refine st_adds h rfl rfl (by first | (simp; done) | (simp; omega)) rfl ?_; clear h a; intro a h
     refine st_adds h rfl rfl (by simp; omega) rfl ?_; clear h a; intro a h
     refine st_assign h rfl rfl ?_; clear h a; intro a h
     replace h : Ag a 76 [(1, _), (3, _), (5, _)] := h.sub (.cons rfl (.cons rfl (.cons rfl .nil)))
     refine wnt ?_
     exact ⟨(), h.sub (.cons rfl (.cons (by first | exact congrArg (fun x => some (S x)) (ln_two (by omega)) | exact congrArg (fun x => some (S x)) (ln_one (by omega) (by omega)) | exact congrArg (fun x => some (S x)) (ln_no (by omega))) (.cons rfl .nil))), hb1, hf⟩
    ·refine id ?_
     refine wp_seq ?_
     refine wR ?_
     refine st_move h rfl rfl ?_; clear h a; intro a h
     refine st_gt h rfl rfl rfl ?_; clear h a; intro a h
     replace h : Ag a 76 [(1, _), (3, _), (5, _), (6, _), (63, _)] := h.sub (.cons rfl (.cons rfl (.cons rfl (.cons rfl (.cons rfl .nil)))))
     refine wnt ?_
     first | refine cond_dec h rfl (fun c3 => ?_) (fun c3 => ?_) | refine cond_ndec h rfl (fun c3 => ?_) (fun c3 => ?_) | refine cond_split h rfl (fun c3 => ?_) (fun c3 => ?_)
     ·refine id ?_
      refine wR ?_
      refine st_move h rfl rfl ?_; clear h a; intro a h
      refine st_move h rfl rfl ?_; clear h a; intro a h
      refine st_add h rfl rfl (by first | exact IntWalk.i64_in _ (by omega) | rfl) rfl ?_; clear h a; intro a h
      refine st_conv h rfl (by rw [Tryd.underlying3]; rfl) Tryd.underlying5 (by first | exact IntWalk.u8_in _ (by omega) | rfl) rfl ?_; clear h a; intro a h
      refine st_bslice ([dg ((t : Nat) : Int)]) h (evs_cons rfl evs_nil) rfl (by rw [show (48 : Int) + (((t : Nat) : Int)) = ((dg (((t : Nat) : Int))).toNat : Int) from (dg_val _ (by omega) (by omega)).symm]; rfl) rfl el58 (Nat.le_of_ble_eq_true rfl) rfl ?_; clear h a; intro g_68 w9 hg ho68 hq hz a h
      have hn_1_68 : g_1 < g_68 := by have := hb1.lt; omega
      have hl68 : w0.heap.size ≤ g_68 := by have := hf.size; omega
      replace hf := hf.next hq
      replace hb1 := hb1.ext hq
      clear hq hz hg
      refine st_b2s h rfl ho68.sl el58 Tryd.underlying5 Tryd.underlying9 rfl ?_; clear h a; intro a h
      refine st_adds h rfl rfl (by first | (simp; done) | (simp; omega)) rfl ?_; clear h a; intro a h
      refine st_adds h rfl rfl (by simp; omega) rfl ?_; clear h a; intro a h
      refine st_assign h rfl rfl ?_; clear h a; intro a h
      replace h : Ag a 76 [(1, _), (3, _), (5, _)] := h.sub (.cons rfl (.cons rfl (.cons rfl .nil)))
      refine wnt ?_
      exact ⟨(), h.sub (.cons rfl (.cons (by first | exact congrArg (fun x => some (S x)) (ln_two (by omega)) | exact congrArg (fun x => some (S x)) (ln_one (by omega) (by omega)) | exact congrArg (fun x => some (S x)) (ln_no (by omega))) (.cons rfl .nil))), hb1, hf⟩
     ·refine id ?_
      refine wsn ?_
      exact ⟨(), h.sub (.cons rfl (.cons (by first | exact congrArg (fun x => some (S x)) (ln_two (by omega)) | exact congrArg (fun x => some (S x)) (ln_one (by omega) (by omega)) | exact congrArg (fun x => some (S x)) (ln_no (by omega))) (.cons rfl .nil))), hb1, hf⟩
   ·clear h a hf hb1
    rintro a w10 ⟨u, h, ⟨hb1, hf⟩⟩
    refine wp_seq ?_
    refine wR ?_
    refine st_move h rfl rfl ?_; clear h a; intro a h
    have hll := ln_len hgr (n := t) (by omega)
    refine st_adds h rfl rfl (by simp; omega) rfl ?_; clear h a; intro a h
    refine st_assign h rfl rfl ?_; clear h a; intro a h
    replace h : Ag a 76 [(1, _), (3, _), (5, _)] := h.sub (.cons rfl (.cons rfl (.cons rfl .nil)))
    refine wnt ?_
    refine wR ?_
    refine st_move h rfl rfl ?_; clear h a; intro a h
    refine st_assign h rfl rfl ?_; clear h a; intro a h
    replace h : Ag a 76 [(1, _), (3, _), (4, _)] := h.sub (.cons rfl (.cons rfl (.cons rfl .nil)))
    refine wpList_nil (norm_blk (norm_then ?_))
    exact ⟨(left - t, l ++ lnW r t ++ [10]), h.sub (.cons rfl (.cons rfl (.cons (by show some (Value.int .i64 ((left : Int) - 1 - (t : Int))) = some (Value.int .i64 (((left - t : Nat) : Int) - 1)); congr 2; omega) .nil))), ⟨by simp only; omega, by rw [← hw, wr_step h1 htl hk hlike hend]; simp, hb1, hf⟩, by simp only; omega⟩
 ·obtain rfl : left = 0 := by omega
  refine wp_exit (exit_then (exit_then (exit_here (norm_then ?_))))
  refine wp_seq ?_
  refine wR ?_
  refine st_move h rfl rfl ?_; clear h a; intro a h
  refine st_assign h rfl rfl ?_; clear h a; intro a h
  replace h : Ag a 76 [(2, _)] := h.sub (.cons rfl .nil)
  refine wnt ?_
  refine wp_ret ?_
  refine ret1 h Tryd.results24 rfl ?_
  exact ⟨_, rfl, by rw [← hw]; simp [wrS_nil], hf⟩
end Go.Proofs.YtbbnampdgefljaaDoor
namespace Go.Proofs.YtbbnampdgefljaaDoor
open Go.Lw Go.G14
theorem co23 : CallOf Tryd.prog 23 := CallOf.mk' Tryd.func23 (by kernel_rfl) (by kernel_rfl)
theorem co24 : CallOf Tryd.prog 24 := CallOf.mk' Tryd.func24 (by kernel_rfl) (by kernel_rfl)
set_option maxHeartbeats 1000000 in
theorem law_chart (u : Value) (rows : List (List Stitch)) (w0 : World) (hS : Sll encSt w0 u rows) (hR : ∀ r ∈ rows, ∀ x ∈ r, 0 ≤ x.k ∧ 0 ≤ x.y) (hy0 : Sym w0) (hm0 : IntAt 1 w0) : Rets Tryd.prog 8 #[.agg #[u]] w0 fun v w' => v = .bool true ∧ Fr [] w0 w' := by
 obtain ⟨A, c, rfl, hcp, hM⟩ := hS.form
 unfold maxLen at hM
 have hy := hy0
 have hm := hm0
 refine enter [(0, .agg #[.slice A rows.length c])] Tryd.func8 rfl Tryd.ntmps8 rfl (.cons rfl .nil) ?_
 have hf := Fr.refl [] w0
 intro a h
 refine wp_seq ?_
 refine wR ?_
 refine st_box h rfl rfl rfl ?_; clear h a; intro w1 hb1 hq hz a h
 obtain ⟨g_1, hg⟩ : ∃ g, g = w0.heap.size := ⟨_, rfl⟩; rw [← hg] at hb1 h hz
 have hl1 : w0.heap.size ≤ g_1 := by have := hf.size; omega
 replace hf := hf.next hq
 replace hy := hy.ext hq
 replace hm := hm.ext hq
 clear hq hz hg
 refine st_assign h rfl rfl ?_; clear h a; intro a h
 replace h : Ag a 69 [(1, _)] := h.sub (.cons rfl .nil)
 refine wnt ?_
 refine wp_seq ?_
 refine wp_seq ?_
 refine wR ?_
 refine st_fieldAddr h rfl fa45_0 rfl ?_; clear h a; intro a h
 refine st_loadB h rfl hb1 rfl na43 rfl ?_; clear h a; intro a h
 refine st_lenS h rfl Tryd.underlying43 rfl ?_; clear h a; intro a h
 refine st_gt h rfl rfl rfl ?_; clear h a; intro a h
 replace h : Ag a 69 [(1, _), (13, _)] := h.sub (.cons rfl (.cons rfl .nil))
 refine wnt ?_
 first | refine cond_dec h rfl (fun c0 => ?_) (fun c0 => ?_) | refine cond_ndec h rfl (fun c0 => ?_) (fun c0 => ?_) | refine cond_split h rfl (fun c0 => ?_) (fun c0 => ?_)
 ·refine id ?_
  refine wp_seq ?_
  refine wR ?_
  refine st_assign h rfl rfl ?_; clear h a; intro a h
  replace h : Ag a 69 [(2, _)] := h.sub (.cons rfl .nil)
  refine wnt ?_
  refine wp_ret (ret_then ?_)
  refine ret1 h Tryd.results8 rfl ?_
  first | exact ⟨_, rfl, rfl, hf⟩ | (exfalso; first | omega | simp_all)
 ·refine id ?_
  refine wsn ?_
  refine wp_seq ?_
  refine wp_seq ?_
  refine wR ?_
  refine st_assign h rfl rfl ?_; clear h a; intro a h
  replace h : Ag a 69 [(1, _), (3, _)] := h.sub (.cons rfl (.cons rfl .nil))
  refine wnt ?_
  refine wp_block ?_
  refine loop (ι := Nat) (fun k => [(1, .pointer (some ⟨g_1, 0, none⟩)), (3, .int .i64 (k : Int))]) (fun k w' => k ≤ rows.length ∧ Sym w' ∧ IntAt 1 w' ∧ Blk w' g_1 45 [.slice A rows.length c] ∧ Fr [] w0 w') (fun k => rows.length - k) 0 (h.sub (.cons rfl (.cons rfl .nil))) ⟨by omega, hy, hm, hb1, hf⟩ ?_
  clear h a hf hb1 hy hm
  rintro k w2 a h ⟨hk, hy, hm, hb1, hf⟩
  refine wp_seq ?_
  refine wp_seq ?_
  refine wR ?_
  refine st_move h rfl rfl ?_; clear h a; intro a h
  refine st_fieldAddr h rfl fa45_0 rfl ?_; clear h a; intro a h
  refine st_loadB h rfl hb1 rfl na43 rfl ?_; clear h a; intro a h
  refine st_lenS h rfl Tryd.underlying43 rfl ?_; clear h a; intro a h
  refine st_lt h rfl rfl rfl ?_; clear h a; intro a h
  replace h : Ag a 69 [(1, _), (3, _), (18, _)] := h.sub (.cons rfl (.cons rfl (.cons rfl .nil)))
  refine wnt ?_
  first | refine cond_dec h rfl (fun c1 => ?_) (fun c1 => ?_) | refine cond_ndec h rfl (fun c1 => ?_) (fun c1 => ?_) | refine cond_split h rfl (fun c1 => ?_) (fun c1 => ?_)
  ·obtain ⟨r, hrk⟩ : ∃ r, rows[k]? = some r := ⟨_, List.getElem?_eq_getElem (by omega)⟩
   obtain ⟨RA, rc, ad, hAd, cz, hr, hrc, hrm⟩ := hS.row hrk
   unfold maxLen at hrm
   have cc := cz.fr hf (by simp)
   refine wsn ?_
   refine wp_seq ?_
   refine wp_block ?_
   refine wp_seq ?_
   refine wR ?_
   refine st_fieldAddr h rfl fa45_0 rfl ?_; clear h a; intro a h
   refine st_loadB h rfl hb1 rfl na43 rfl ?_; clear h a; intro a h
   refine st_move h rfl rfl ?_; clear h a; intro a h
   refine st_idxS h (by rw [hAd]; rfl) rfl el43 (by omega) (by omega) rfl rfl ?_; clear h a; intro a h
   refine st_loadC0 h rfl cc na22 rfl ?_; clear h a; intro a h
   refine st_lenS h rfl Tryd.underlying22 rfl ?_; clear h a; intro a h
   refine st_gt h rfl rfl rfl ?_; clear h a; intro a h
   replace h : Ag a 69 [(1, _), (3, _), (27, _)] := h.sub (.cons rfl (.cons rfl (.cons rfl .nil)))
   refine wnt ?_
   first | refine cond_dec h rfl (fun c2 => ?_) (fun c2 => ?_) | refine cond_ndec h rfl (fun c2 => ?_) (fun c2 => ?_) | refine cond_split h rfl (fun c2 => ?_) (fun c2 => ?_)
   ·refine id ?_
    refine wp_seq ?_
    refine wR ?_
    refine st_assign h rfl rfl ?_; clear h a; intro a h
    replace h : Ag a 69 [(2, _)] := h.sub (.cons rfl .nil)
    refine wnt ?_
    refine wp_ret (ret_blk (ret_then (ret_then (ret_blk (ret_then ?_)))))
    refine ret1 h Tryd.results8 rfl ?_
    first | exact ⟨_, rfl, rfl, hf⟩ | (exfalso; first | omega | simp_all)
   ·refine id ?_
    refine wp_skip (norm_blk (norm_then ?_))
    refine wR ?_
    refine st_move h rfl rfl ?_; clear h a; intro a h
    refine st_add h rfl rfl (by first | exact IntWalk.i64_in _ (by omega) | rfl) rfl ?_; clear h a; intro a h
    refine st_assign h rfl rfl ?_; clear h a; intro a h
    replace h : Ag a 69 [(1, _), (3, _)] := h.sub (.cons rfl (.cons rfl .nil))
    refine wnt ?_
    exact ⟨k + 1, h.sub (.cons rfl (.cons rfl .nil)), ⟨by omega, hy, hm, hb1, hf⟩, by omega⟩
  ·refine id ?_
   refine wp_exit (exit_then (exit_then (exit_here (norm_then ?_))))
   refine wp_seq ?_
   refine wR ?_
   refine st_loadBA h rfl hb1 ag45 rfl ?_; clear h a; intro a h
   refine st_call h (evs_cons rfl evs_nil) co23 (write_ok _ rows _ (hS.ext hf) hy) rfl ?_; clear h a; rintro _ w3 ⟨rfl, hq⟩ a h
   replace hf := hf.next hq
   replace hb1 := hb1.ext hq
   replace hy := hy.ext hq
   replace hm := hm.ext hq
   clear hq
   refine st_assign h rfl rfl ?_; clear h a; intro a h
   replace h : Ag a 69 [(1, _), (4, _)] := h.sub (.cons rfl (.cons rfl .nil))
   refine wnt ?_
   refine wp_seq ?_
   refine wR ?_
   refine st_loadBA h rfl hb1 ag45 rfl ?_; clear h a; intro a h
   refine st_call h (evs_cons rfl evs_nil) co21 (refchart_ok _ rows _ (hS.ext hf) hR) rfl ?_; clear h a; rintro _ w4 ⟨LX, rfl, hq⟩ a h
   replace hf := hf.next hq
   replace hb1 := hb1.ext hq
   replace hy := hy.ext hq
   replace hm := hm.ext hq
   clear hq
   refine st_move h rfl rfl ?_; clear h a; intro a h
   refine st_extract h rfl rfl rfl ?_; clear h a; intro a h
   refine st_extract h rfl rfl rfl ?_; clear h a; intro a h
   refine st_assign h rfl rfl ?_; clear h a; intro a h
   refine st_assign h rfl rfl ?_; clear h a; intro a h
   replace h : Ag a 69 [(1, _), (4, _), (6, _)] := h.sub (.cons rfl (.cons rfl (.cons rfl .nil)))
   refine wnt ?_
   refine wp_seq ?_
   refine wp_seq ?_
   refine wR ?_
   refine st_move h rfl rfl ?_; clear h a; intro a h
   refine st_ne h rfl rfl rfl ?_; clear h a; intro a h
   replace h : Ag a 69 [(1, _), (4, _), (36, _)] := h.sub (.cons rfl (.cons rfl (.cons rfl .nil)))
   refine wnt ?_
   first | refine cond_dec h rfl (fun c3 => ?_) (fun c3 => ?_) | refine cond_ndec h rfl (fun c3 => ?_) (fun c3 => ?_) | refine cond_split h rfl (fun c3 => ?_) (fun c3 => ?_)
   ·rw [if_neg c3] at h
    refine wp_seq ?_
    refine wR ?_
    refine st_move h rfl rfl ?_; clear h a; intro a h
    refine st_eqs h rfl rfl rfl ?_; clear h a; intro a h
    refine st_move h rfl rfl ?_; clear h a; intro a h
    first | refine guard_dec (D := 39) h rfl ?_ ?_ | refine guard_ndec (D := 39) h rfl ?_ ?_ | refine guard_any (D := 39) h rfl ?_ ?_
    ·clear h; intro g0 h
     refine gd_yes h rfl rfl rfl rfl rfl rfl ?_
     refine st_call h evs_nil co12 (lives_ok _ (hy0.ext hf)) rfl ?_; clear h a; rintro _ w5 ⟨rfl, hq⟩ a h
     replace hf := hf.next hq
     replace hb1 := hb1.ext hq
     replace hy := hy.ext hq
     replace hm := hm.ext hq
     clear hq
     refine st_pick_t h rfl rfl rfl rfl ?_; clear h a; intro a h
     refine st_assign h rfl rfl ?_; clear h a; intro a h
     replace h : Ag a 69 [(2, _)] := h.sub (.cons rfl .nil)
     refine wnt ?_
     refine wp_ret (ret_then ?_)
     refine ret1 h Tryd.results8 rfl ?_
     first | exact ⟨_, rfl, rfl, hf⟩ | (exfalso; first | omega | simp_all)
    ·clear h; intro g0 h
     refine gd_no h rfl rfl rfl rfl rfl rfl rfl rfl ?_; clear h a; intro a h
     refine st_pick_f h rfl rfl rfl rfl ?_; clear h a; intro a h
     refine st_assign h rfl rfl ?_; clear h a; intro a h
     replace h : Ag a 69 [(2, _)] := h.sub (.cons rfl .nil)
     refine wnt ?_
     refine wp_ret (ret_then ?_)
     refine ret1 h Tryd.results8 rfl ?_
     first | exact ⟨_, rfl, rfl, hf⟩ | (exfalso; first | omega | simp_all)
   ·have hE : chartE rows = 0 := Decidable.not_not.1 c3
    rw [if_pos hE] at h
    obtain ⟨hwl, hr0, hr1⟩ := write_back hE
    refine wsn ?_
    refine wp_seq ?_
    refine wR ?_
    refine st_move h rfl rfl ?_; clear h a; intro a h
    refine st_call h (evs_cons rfl evs_nil) co20 (read_chart_ok _ _ hy hm (by omega)) rfl ?_; clear h a; rintro _ w6 ⟨XA, xm, xc, rn, re, rfl, hb, hg, hq⟩ a h
    replace hf := hf.next hq
    replace hb1 := hb1.ext hq
    replace hy := hy.ext hq
    replace hm := hm.ext hq
    clear hq
    have hfa := Fr.refl [] w6
    obtain ⟨rfl, e2, -, g4⟩ := hg hr0
    rw [hr1] at e2 g4
    rw [hE] at e2
    subst e2
    obtain ⟨rfl, hgs⟩ := g4 rfl
    clear hb hg g4
    refine st_move h rfl rfl ?_; clear h a; intro a h
    refine st_extract h rfl rfl rfl ?_; clear h a; intro a h
    refine st_extract h rfl rfl rfl ?_; clear h a; intro a h
    refine st_extract h rfl rfl rfl ?_; clear h a; intro a h
    refine st_alloc h zv45 rfl rfl ?_; clear h a; intro w7 hb7 hq hz a h
    obtain ⟨g_7, hg⟩ : ∃ g, g = w6.heap.size := ⟨_, rfl⟩; rw [← hg] at hb7 h hz
    have hl7 : w0.heap.size ≤ g_7 := by have := hf.size; omega
    have hn_1_7 : g_1 < g_7 := by have := hb1.lt; omega
    have hl_hfa_7 : w6.heap.size ≤ g_7 := by have := hfa.size; omega
    replace hf := hf.next hq
    replace hb1 := hb1.ext hq
    replace hfa := hfa.next hq
    clear hq hz hg
    refine st_storeBA h rfl rfl hb7 rfl (by first | (simp [Value.oneCell', S]; done) | exact Enc.one _ _) sz45 ?_; clear h a; intro w8 hbn hq hz a h
    replace hf := hf.step hq (by first | (simp; done) | (simp; omega))
    replace hb1 := hb1.fr hq (by first | (simp; done) | (simp; omega) | (simp [blks]; done) | (simp [blks]; omega))
    replace hfa := hfa.step hq (by first | (simp; done) | (simp; omega))
    clear hb7 hq hz; have hb7 : Blk w8 g_7 _ [_] := hbn; clear hbn
    refine st_assign h rfl rfl ?_; clear h a; intro a h
    refine st_assign h rfl rfl ?_; clear h a; intro a h
    replace h : Ag a 69 [(1, _), (4, _), (7, _), (8, _), (9, _)] := h.sub (.cons rfl (.cons rfl (.cons rfl (.cons rfl (.cons rfl .nil)))))
    refine wnt ?_
    refine wp_seq ?_
    refine wR ?_
    refine st_move h rfl rfl ?_; clear h a; intro a h
    refine st_loadBA h rfl hb1 ag45 rfl ?_; clear h a; intro a h
    refine st_call h (evs_cons rfl evs_nil) co24 (refwrite_ok _ rows _ (hS.ext hf) hE) rfl ?_; clear h a; rintro _ w9 ⟨rfl, hq⟩ a h
    replace hf := hf.next hq
    replace hb1 := hb1.ext hq
    replace hfa := hfa.next hq
    replace hb7 := hb7.ext hq
    clear hq
    refine st_eqs h rfl rfl rfl ?_; clear h a; intro a h
    refine st_move h rfl rfl ?_; clear h a; intro a h
    first | refine guard_dec (D := 52) h rfl ?_ ?_ | refine guard_ndec (D := 52) h rfl ?_ ?_ | refine guard_any (D := 52) h rfl ?_ ?_
    ·clear h; intro g1 h
     refine gd_yes h rfl rfl rfl rfl rfl rfl ?_
     refine st_move h rfl rfl ?_; clear h a; intro a h
     refine gd_yes h rfl rfl rfl rfl rfl rfl ?_
     refine st_eq h rfl rfl rfl ?_; clear h a; intro a h
     refine st_pick_t h rfl rfl rfl rfl ?_; clear h a; intro a h
     refine st_move h rfl rfl ?_; clear h a; intro a h
     first | refine guard_dec (D := 56) h rfl ?_ ?_ | refine guard_ndec (D := 56) h rfl ?_ ?_ | refine guard_any (D := 56) h rfl ?_ ?_
     ·clear h; intro g2 h
      refine gd_yes h rfl rfl rfl rfl rfl rfl ?_
      refine st_move h rfl rfl ?_; clear h a; intro a h
      refine gd_yes h rfl rfl rfl rfl rfl rfl ?_
      refine st_eq h rfl rfl rfl ?_; clear h a; intro a h
      refine st_pick_t h rfl rfl rfl rfl ?_; clear h a; intro a h
      refine st_move h rfl rfl ?_; clear h a; intro a h
      first | refine guard_dec (D := 60) h rfl ?_ ?_ | refine guard_ndec (D := 60) h rfl ?_ ?_ | refine guard_any (D := 60) h rfl ?_ ?_
      ·clear h; intro g3 h
       refine gd_yes h rfl rfl rfl rfl rfl rfl ?_
       refine st_loadBA h rfl hb7 ag45 rfl ?_; clear h a; intro a h
       refine gd_yes h rfl rfl rfl rfl rfl rfl ?_
       refine st_loadBA h rfl hb1 ag45 rfl ?_; clear h a; intro a h
       refine gd_yes h rfl rfl rfl rfl rfl rfl ?_
       refine st_call h (evs_cons rfl (evs_cons rfl evs_nil)) co22 (differ2_ok _ _ _ _ _ (hgs.ext hfa) (hS.ext hf)) rfl ?_; clear h a; rintro _ w10 ⟨rfl, hq⟩ a h
       replace hf := hf.next hq
       replace hb1 := hb1.ext hq
       replace hfa := hfa.next hq
       replace hb7 := hb7.ext hq
       clear hq
       rw [if_pos rfl] at h
       refine gd_yes h rfl rfl rfl rfl rfl rfl ?_
       refine st_eq h rfl rfl rfl ?_; clear h a; intro a h
       refine st_pick_t h rfl rfl rfl rfl ?_; clear h a; intro a h
       refine st_move h rfl rfl ?_; clear h a; intro a h
       first | refine guard_dec (D := 66) h rfl ?_ ?_ | refine guard_ndec (D := 66) h rfl ?_ ?_ | refine guard_any (D := 66) h rfl ?_ ?_
       ·clear h; intro g4 h
        refine gd_yes h rfl rfl rfl rfl rfl rfl ?_
        refine st_call h evs_nil co12 (lives_ok _ (hy0.ext hf)) rfl ?_; clear h a; rintro _ w11 ⟨rfl, hq⟩ a h
        replace hf := hf.next hq
        replace hb1 := hb1.ext hq
        replace hfa := hfa.next hq
        replace hb7 := hb7.ext hq
        clear hq
        refine st_pick_t h rfl rfl rfl rfl ?_; clear h a; intro a h
        refine st_assign h rfl rfl ?_; clear h a; intro a h
        replace h : Ag a 69 [(2, _)] := h.sub (.cons rfl .nil)
        refine wnt ?_
        refine wp_ret ?_
        refine ret1 h Tryd.results8 rfl ?_
        first | exact ⟨_, rfl, rfl, hf⟩ | (exfalso; first | omega | simp_all)
       ·clear h; intro g4 h
        refine gd_no h rfl rfl rfl rfl rfl rfl rfl rfl ?_; clear h a; intro a h
        refine st_pick_f h rfl rfl rfl rfl ?_; clear h a; intro a h
        refine st_assign h rfl rfl ?_; clear h a; intro a h
        replace h : Ag a 69 [(2, _)] := h.sub (.cons rfl .nil)
        refine wnt ?_
        refine wp_ret ?_
        refine ret1 h Tryd.results8 rfl ?_
        first | exact ⟨_, rfl, rfl, hf⟩ | (exfalso; first | omega | simp_all)
      ·clear h; intro g3 h
       refine gd_no h rfl rfl rfl rfl rfl rfl rfl rfl ?_; clear h a; intro a h
       refine gd_no h rfl rfl rfl rfl rfl rfl rfl rfl ?_; clear h a; intro a h
       refine gd_no h rfl rfl rfl rfl rfl rfl rfl rfl ?_; clear h a; intro a h
       refine gd_no h rfl rfl rfl rfl rfl rfl rfl rfl ?_; clear h a; intro a h
       refine st_pick_f h rfl rfl rfl rfl ?_; clear h a; intro a h
       refine st_move h rfl rfl ?_; clear h a; intro a h
       refine gd_no h rfl rfl rfl rfl rfl rfl rfl rfl ?_; clear h a; intro a h
       refine st_pick_f h rfl rfl rfl rfl ?_; clear h a; intro a h
       refine st_assign h rfl rfl ?_; clear h a; intro a h
       replace h : Ag a 69 [(2, _)] := h.sub (.cons rfl .nil)
       refine wnt ?_
       refine wp_ret ?_
       refine ret1 h Tryd.results8 rfl ?_
       first | exact ⟨_, rfl, rfl, hf⟩ | (exfalso; first | omega | simp_all)
     ·clear h; intro g2 h
      refine gd_no h rfl rfl rfl rfl rfl rfl rfl rfl ?_; clear h a; intro a h
      refine gd_no h rfl rfl rfl rfl rfl rfl rfl rfl ?_; clear h a; intro a h
      refine st_pick_f h rfl rfl rfl rfl ?_; clear h a; intro a h
      refine st_move h rfl rfl ?_; clear h a; intro a h
      refine gd_no h rfl rfl rfl rfl rfl rfl rfl rfl ?_; clear h a; intro a h
      refine gd_no h rfl rfl rfl rfl rfl rfl rfl rfl ?_; clear h a; intro a h
      refine gd_no h rfl rfl rfl rfl rfl rfl rfl rfl ?_; clear h a; intro a h
      refine gd_no h rfl rfl rfl rfl rfl rfl rfl rfl ?_; clear h a; intro a h
      refine st_pick_f h rfl rfl rfl rfl ?_; clear h a; intro a h
      refine st_move h rfl rfl ?_; clear h a; intro a h
      refine gd_no h rfl rfl rfl rfl rfl rfl rfl rfl ?_; clear h a; intro a h
      refine st_pick_f h rfl rfl rfl rfl ?_; clear h a; intro a h
      refine st_assign h rfl rfl ?_; clear h a; intro a h
      replace h : Ag a 69 [(2, _)] := h.sub (.cons rfl .nil)
      refine wnt ?_
      refine wp_ret ?_
      refine ret1 h Tryd.results8 rfl ?_
      first | exact ⟨_, rfl, rfl, hf⟩ | (exfalso; first | omega | simp_all)
    ·clear h; intro g1 h
     refine gd_no h rfl rfl rfl rfl rfl rfl rfl rfl ?_; clear h a; intro a h
     refine gd_no h rfl rfl rfl rfl rfl rfl rfl rfl ?_; clear h a; intro a h
     refine st_pick_f h rfl rfl rfl rfl ?_; clear h a; intro a h
     refine st_move h rfl rfl ?_; clear h a; intro a h
     refine gd_no h rfl rfl rfl rfl rfl rfl rfl rfl ?_; clear h a; intro a h
     refine gd_no h rfl rfl rfl rfl rfl rfl rfl rfl ?_; clear h a; intro a h
     refine st_pick_f h rfl rfl rfl rfl ?_; clear h a; intro a h
     refine st_move h rfl rfl ?_; clear h a; intro a h
     refine gd_no h rfl rfl rfl rfl rfl rfl rfl rfl ?_; clear h a; intro a h
     refine gd_no h rfl rfl rfl rfl rfl rfl rfl rfl ?_; clear h a; intro a h
     refine gd_no h rfl rfl rfl rfl rfl rfl rfl rfl ?_; clear h a; intro a h
     refine gd_no h rfl rfl rfl rfl rfl rfl rfl rfl ?_; clear h a; intro a h
     refine st_pick_f h rfl rfl rfl rfl ?_; clear h a; intro a h
     refine st_move h rfl rfl ?_; clear h a; intro a h
     refine gd_no h rfl rfl rfl rfl rfl rfl rfl rfl ?_; clear h a; intro a h
     refine st_pick_f h rfl rfl rfl rfl ?_; clear h a; intro a h
     refine st_assign h rfl rfl ?_; clear h a; intro a h
     replace h : Ag a 69 [(2, _)] := h.sub (.cons rfl .nil)
     refine wnt ?_
     refine wp_ret ?_
     refine ret1 h Tryd.results8 rfl ?_
     first | exact ⟨_, rfl, rfl, hf⟩ | (exfalso; first | omega | simp_all)
end Go.Proofs.YtbbnampdgefljaaDoor
namespace Go.Lw
open Go.RowKit
section
variable {P : Program} {a : Act} {n : Nat} {L : List (Nat × Value)} {ds : List Nat} {w w' : World} {Q : Exit → Act → World → Prop} {C : World → Prop} {Qa : Act → Prop} {ops : Array Oper} {rest : List Oper} {d d2 : Nat} {ty ty2 : TypeId} {pos pos2 : String} {after after2 : Array Edge} {v u : Value} {x y z : Operand} {t T : TypeId} {k k' k'' : IntKind} {i j : Int}
theorem Sl.at {α : Type} {E : Enc α} {ys : List α} (hs : Sl E w v ys) {p : Nat} (hp : p < ys.length) : ∃ ad c, v = .slice (some ad) ys.length c ∧ ∀ W, Sl E W v ys → Cells W (ad.add (p * E.sz)) (E.enc ys[p]) := by
  obtain ⟨A, c, rfl, h1, h2, h3⟩ := hs
  obtain ⟨ad, rfl, _⟩ := h3 p _ (List.getElem?_eq_getElem hp)
  refine ⟨ad, c, rfl, fun W hW => ?_⟩
  obtain ⟨A', c', e, _, _, h3'⟩ := hW
  cases e
  obtain ⟨ad', e, hc⟩ := h3' p _ (List.getElem?_eq_getElem hp)
  cases e; exact hc
theorem getD_at {α : Type} (ys : List α) (p : Nat) (hp : p < ys.length) (z : α) : ys[p] = ys.getD p z := by simp [List.getD, hp]
/-- The address of an element of a slice that reads as a list. -/
theorem Sl.at' {α : Type} {E : Enc α} {ys : List α} (hs : Sl E w v ys) {p : Nat} (hp : p < ys.length) (y0 : α) : ∃ ad c, v = .slice (some ad) ys.length c ∧ ∀ W, Sl E W v ys → Cells W (ad.add (p * E.sz)) (E.enc (ys.getD p y0)) := by
  obtain ⟨ad, c, h1, h2⟩ := hs.at hp
  exact ⟨ad, c, h1, by rw [← getD_at ys p hp y0]; exact h2⟩
theorem st_idxL {α : Type} {E : Enc α} {bytes : Nat} {ys : List α} {p : Nat} (y0 : α) (h : AgM ds a n L) (hx : ev L x = some v) (hs : Sl E w' v ys) (hy : ev L y = some (.int k i)) (he : ElemOf P t T E bytes) (h0 : 0 ≤ i) (h1 : i < ys.length) (hp : i.toNat = p) (hn : Nat.blt d n = true)
    (q : ∀ ad, (∀ W, Sl E W v ys → Cells W ad (E.enc (ys.getD p y0))) → ∀ a, AgM ds a n ((d, .pointer (some ad)) :: L) → wpList P ops Q rest a w) : wpList P ops Q (⟨some d, .indexAddr t x y, ty, pos, after, none⟩ :: rest) a w := by
  subst hp
  obtain ⟨ad, c, rfl, hc⟩ := hs.at' (p := i.toNat) (by omega) y0
  exact st_idxS h hx hy he h0 h1 rfl hn (q _ hc)
theorem s_idxL {α : Type} {E : Enc α} {bytes : Nat} {ys : List α} {p : Nat} (y0 : α) (hx : ev L x = some v) (hs : Sl E w' v ys) (hy : ev L y = some (.int k i)) (he : ElemOf P t T E bytes) (h0 : 0 ≤ i) (h1 : i < ys.length) (hp : i.toNat = p) (hn : Nat.blt d n = true) (q : ∀ ad, (∀ W, Sl E W v ys → Cells W ad (E.enc (ys.getD p y0))) → WL P ops Q rest n ds w ((d, .pointer (some ad)) :: L)) : WL P ops Q (⟨some d, .indexAddr t x y, ty, pos, after, none⟩ :: rest) n ds w L := fun a h => st_idxL y0 h hx hs hy he h0 h1 hp hn q -- short
theorem Blk.part {w : World} {g T off : Nat} {cs vs : List Value} (hb : Blk w g T cs) (hv : (cs.drop off).take vs.length = vs) : Cells w ((⟨g, 0, none⟩ : Addr).add off) vs := fun j u hu => by
    rw [← hv] at hu
    have hj : (cs.drop off)[j]? = some u := by
      rw [List.getElem?_take] at hu; split at hu
      · exact hu
      · cases hu
    rw [List.getElem?_drop] at hj
    rw [add_add]; exact hb.cellAdd hj
end
end Go.Lw
namespace Go.Lw
open Go.RowKit

section
variable {P : Program} {a : Act} {n N : Nat} {L : List (Nat × Value)} {ds : List Nat} {w w' : World} {Q : Exit → Act → World → Prop} {ops : Array Oper} {rest : List Oper} {o : Oper} {r : Option Nat}

end
end Go.Lw
namespace Go.Lw
open Go.RowKit

/-- Behind it the blocks of K are as they were. -/
structure FrK (K : Nat → Prop) (w w' : World) : Prop where
  os : w'.os = w.os
  tape : w'.tape = w.tape
  output : w'.output = w.output
  size : w.heap.size ≤ w'.heap.size
  block : ∀ k, k < w.heap.size → K k → w'.heap[k]? = w.heap[k]?
theorem FrK.refl (K : Nat → Prop) (w : World) : FrK K w w := ⟨rfl, rfl, rfl, Nat.le_refl _, fun _ _ _ => rfl⟩
theorem FrK.trans {K K' : Nat → Prop} {x y z : World} (h : FrK K x y) (h' : FrK K' y z) (hk : ∀ k, k < x.heap.size → K k → K' k) : FrK K x z :=
  ⟨h'.os.trans h.os, h'.tape.trans h.tape, h'.output.trans h.output, Nat.le_trans h.size h'.size, fun k hl hK =>
    (h'.block k (Nat.lt_of_lt_of_le hl h.size) (hk k hl hK)).trans (h.block k hl hK)⟩
theorem FrK.weak {K K' : Nat → Prop} {x y : World} (h : FrK K x y) (hk : ∀ k, k < x.heap.size → K' k → K k) : FrK K' x y := ⟨h.os, h.tape, h.output, h.size, fun k hl hK => h.block k hl (hk k hl hK)⟩
theorem Fr.toK {S : List Nat} {w w' : World} (h : Fr S w w') : FrK (· ∉ S) w w' := ⟨h.os, h.tape, h.output, h.size, h.block⟩
theorem FrK.step {K : Nat → Prop} {S : List Nat} {x y z : World} (h : FrK K x y) (h' : Fr S y z) (hS : ∀ k ∈ S, k < x.heap.size → ¬ K k) : FrK K x z :=
  h.trans h'.toK fun k hl hK e => hS k e hl hK
theorem FrK.next {K : Nat → Prop} {x y z : World} (h : FrK K x y) (h' : Fr [] y z) : FrK K x z := h.step h' (by simp)

section
variable {α : Type} {E : Enc α} {T : TypeId} {base g : Nat} {w w' : World} {v : Value} {ys : List α} {K : Nat → Prop} {cs : List Value} {ad : Addr}
theorem FrK.cell (h : FrK K w w') {p : Addr} {u : Value} (hc : w.cell? p = some u) (hn : K p.block) : w'.cell? p = some u :=
  (World.cell?_of_block (w := w) (h.block p.block (block_lt_of_cell hc) hn)).trans hc
end

/-- A step of the loop's book-keeping: new blocks, and at most one block that holds no cells is another. -/
def Turn (n0 : Nat) (W W' : World) : Prop := ∃ row, W.grownBy W' row ∧ ∀ r, row = some r → n0 ≤ r ∧ ∃ o : Obj, W.heap[r]? = some o ∧ o.isCells = false
section
variable {α : Type} {E : Enc α} {T : TypeId} {base g n0 : Nat} {w W W' : World} {v : Value} {ys : List α} {K : Nat → Prop} {cs : List Value} {ad : Addr} {S : List Nat}
theorem Turn.at (h : Turn n0 W W') {k : Nat} {o : Obj} (hk : W.heap[k]? = some o) (hc : o.isCells = true ∨ k < n0) : W'.heap[k]? = some o := by
  obtain ⟨row, hg, hr⟩ := h
  refine (hg.block k (Array.getElem?_eq_some_iff.1 hk).1 fun e => ?_).trans hk
  obtain ⟨h1, o', h2, h3⟩ := hr k e.symm
  rw [hk] at h2; cases h2
  rcases hc with hc | hc
  · rw [hc] at h3; cases h3
  · omega
theorem cells_of_cell {p : Addr} {u : Value} (h : W.cell? p = some u) : ∃ o, W.heap[p.block]? = some o ∧ o.isCells = true := by
  unfold World.cell? at h
  split at h
  · rename_i e; exact ⟨_, e, rfl⟩
  · cases h
theorem Turn.cell (h : Turn n0 W W') {p : Addr} {u : Value} (hc : W.cell? p = some u) : W'.cell? p = some u := by
  obtain ⟨o, h1, h2⟩ := cells_of_cell hc
  exact (World.cell?_of_block (w := W) ((h.at h1 (.inl h2)).trans h1.symm)).trans hc
theorem Cells.turn (h : Cells W ad cs) (ht : Turn n0 W W') : Cells W' ad cs := fun j u hu => ht.cell (h j u hu)
theorem Sl.turn (h : Sl E W v ys) (ht : Turn n0 W W') : Sl E W' v ys := by
  obtain ⟨A, c, rfl, h1, h2, h3⟩ := h
  exact ⟨A, c, rfl, h1, h2, fun i y hy => by obtain ⟨ad, rfl, hc⟩ := h3 i y hy; exact ⟨ad, rfl, hc.turn ht⟩⟩
theorem Own.turn (h : Own E T base W v ys) (ht : Turn n0 W W') : Own E T base W' v ys := by
  rcases h with ⟨rfl, rfl⟩ | ⟨g, cap, cur, rfl, hb, hg, r⟩
  · exact .inl ⟨rfl, rfl⟩
  · exact .inr ⟨g, cap, cur, rfl, hb, ht.at hg (.inl rfl), r⟩
theorem Blk.turn (h : Blk W g T cs) (ht : Turn n0 W W') : Blk W' g T cs := ht.at h (.inl rfl)
theorem Fr.turn (h : Fr S w W) (ht : Turn n0 W W') (hn : w.heap.size ≤ n0) : Fr S w W' := by
  obtain ⟨row, hg, hr⟩ := ht
  exact ⟨hg.os.trans h.os, hg.tape.trans h.tape, hg.output.trans h.output, Nat.le_trans h.size hg.size, fun k hk hS =>
    (hg.block k (Nat.lt_of_lt_of_le hk h.size) (fun e => by have := (hr k e.symm).1; omega)).trans (h.block k hk hS)⟩
theorem FrK.turn (h : FrK K w W) (ht : Turn n0 W W') (hn : w.heap.size ≤ n0) : FrK K w W' := by
  obtain ⟨row, hg, hr⟩ := ht
  exact ⟨hg.os.trans h.os, hg.tape.trans h.tape, hg.output.trans h.output, Nat.le_trans h.size hg.size, fun k hk hS =>
    (hg.block k (Nat.lt_of_lt_of_le hk h.size) (fun e => by have := (hr k e.symm).1; omega)).trans (h.block k hk hS)⟩
end

section
variable {P : Program} {a : Act} {n N : Nat} {L : List (Nat × Value)} {ds : List Nat} {w w' : World} {Q : Exit → Act → World → Prop} {ops : Array Oper} {rest : List Oper} {o : Oper} {r : Option Nat}

end
end Go.Lw
namespace Go.Lw
open Go.RowKit
section
variable {P : Program} {n : Nat} {L : List (Nat × Value)} {ds : List Nat} {w w' : World} {Q : Exit → Act → World → Prop} {ops : Array Oper} {rest : List Oper} {a : Act} {x y c : Code} {id : Nat}
/-- What a truth value says. -/
class Says (b : Bool) (p : outParam Prop) : Prop where
  iff : b = true ↔ p
instance (priority := 100) says_b (b : Bool) : Says b (b = true) := ⟨Iff.rfl⟩
instance (priority := 1000) says_d (p : Prop) {hp : Decidable p} : Says (@decide p hp) p := ⟨decide_eq_true_iff⟩
instance (priority := 1100) says_n (p : Prop) {hp : Decidable p} : Says (!(@decide p hp)) (¬ p) := ⟨by simp⟩
theorem Says.no {b : Bool} {p : Prop} [h : Says b p] (e : b = false) : ¬ p := fun hp => by rw [h.iff.2 hp] at e; cases e
/-! plain -/
theorem sq (h : CW P (Exit.then (y.wp P Q) Q) x n ds w L) : CW P Q (.seq x y) n ds w L := fun a ha => wp_seq (h a ha)
theorem rg {l : List Oper} (h : WL P l.toArray Q l n ds w L) : CW P Q (.region id l.toArray false) n ds w L := fun a ha => wp_region_lit (h a ha)
theorem sr {l : List Oper} (h : WL P l.toArray (Exit.then (y.wp P Q) Q) l n ds w L) : CW P Q (.seq (.region id l.toArray false) y) n ds w L := sq (rg h)
theorem bl (h : CW P (Exit.inBlock id Q) x n ds w L) : CW P Q (.block id x) n ds w L := fun a ha => wp_block (h a ha)
theorem sk (h : EW Q .normal n ds w L) : CW P Q .skip n ds w L := fun a ha => wp_skip (h a ha)
theorem rt (h : EW Q .ret n ds w L) : CW P Q .ret n ds w L := fun a ha => wp_ret (h a ha)
theorem ex (h : EW Q (.exit id) n ds w L) : CW P Q (.exit id) n ds w L := fun a ha => wp_exit (h a ha)
theorem nl (h : EW Q .normal n ds w L) : WL P ops Q [] n ds w L := fun a ha => wpList_nil (h a ha)
theorem tn (h : CW P Q y n ds w L) {Q' : Exit → Act → World → Prop} : EW (Exit.then (y.wp P Q) Q') .normal n ds w L := h
theorem nn (h : CW P Q y n ds w L) {Q' : Exit → Act → World → Prop} : WL P ops (Exit.then (y.wp P Q) Q') [] n ds w L := nl (tn h)
theorem bn' (h : EW Q .normal n ds w L) : EW (Exit.inBlock id Q) .normal n ds w L := h
theorem te {K : Act → World → Prop} (h : EW Q (.exit id) n ds w L) : EW (Exit.then K Q) (.exit id) n ds w L := h
theorem xh (h : EW Q .normal n ds w L) : EW (Exit.inBlock id Q) (.exit id) n ds w L := fun a ha => exit_here (h a ha)
theorem ct {C : Operand} (hc : ev L C = some (.bool true)) (k : CW P Q x n ds w L) : CW P Q (.cond C x y) n ds w L := fun a h => cond_true h hc (k a h)
theorem cd {C : Operand} {b : Bool} {p : Prop} (hc : ev L C = some (.bool b)) [s : Says b p] (ht : p → CW P Q x n ds w L) (hf : ¬ p → CW P Q y n ds w L) : CW P Q (.cond C x y) n ds w L :=
  fun a h => cond_split h hc (fun e => ht (s.iff.1 e) a h) (fun e => hf (s.no e) a h)
/-- A truth value in a slot, known from here on. -/
theorem gs {l : List Oper} (D : Nat) {b : Bool} {p : Prop} (hb : look L D = some (.bool b)) [s : Says b p] (ht : p → WL P ops Q l n ds w ((D, .bool true) :: L)) (hf : ¬ p → WL P ops Q l n ds w ((D, .bool false) :: L)) : WL P ops Q l n ds w L :=
  fun a h => guard_any h hb (fun e h' => ht (s.iff.1 e) a h') (fun e h' => hf (s.no e) a h')
theorem kpL {l : List Oper} (L' : List (Nat × Value)) (hs : Sub L' L) (k : WL P ops Q l n ds w L') : WL P ops Q l n ds w L := fun a h => k a (h.sub hs)
theorem kpC (L' : List (Nat × Value)) (hs : Sub L' L) (k : CW P Q c n ds w L') : CW P Q c n ds w L := fun a h => k a (h.sub hs)
/-- What a guard asks for. -/
def gAskG (ops : Array Oper) (G : Option (Nat × Bool)) (n : Nat) (L : List (Nat × Value)) : Option (Value × Bool) :=
  match G with
  | none => none
  | some (j, want) =>
    match ops[j]? with
    | none => none
    | some oj =>
      match oj.dst with
      | none => none
      | some dj => bif Nat.blt dj n then (look L dj).map (fun v => (v, want)) else none
def gAsk (ops : Array Oper) (o : Oper) (n : Nat) (L : List (Nat × Value)) : Option (Value × Bool) := gAskG ops o.guard n L
theorem gAsk_spec {o : Oper} {v : Value} {want : Bool} (h : gAsk ops o n L = some (v, want)) : ∃ j dj oj, o.guard = some (j, want) ∧ ops[j]? = some oj ∧ oj.dst = some dj ∧ Nat.blt dj n = true ∧ look L dj = some v := by
  unfold gAsk gAskG at h
  split at h
  · cases h
  · rename_i j want' hg
    split at h
    · cases h
    · rename_i oj hj
      split at h
      · cases h
      · rename_i dj hd
        cases hb : Nat.blt dj n with
        | false => rw [hb] at h; cases h
        | true =>
          rw [hb] at h
          cases hl : look L dj with
          | none => rw [hl] at h; cases h
          | some u => rw [hl] at h; cases h; exact ⟨j, dj, oj, hg, hj, hd, hb, hl⟩
theorem gY {o : Oper} {b : Bool} (hg : gAsk ops o n L = some (.bool b, b)) (k : WL P ops Q ({ o with guard := none } :: rest) n ds w L) : WL P ops Q (o :: rest) n ds w L := by
  obtain ⟨j, dj, oj, h1, h2, h3, h4, h5⟩ := gAsk_spec hg
  exact fun a h => gd_yes h h1 h2 h3 h4 h5 (by cases b <;> rfl) (k a h)
theorem gN {o : Oper} {b : Bool} {d : Nat} (hg : gAsk ops o n L = some (.bool b, !b)) (hd : o.dst = some d) (hn : Nat.blt d n = true) (k : WL P ops Q rest n ds w ((d, undef) :: L)) : WL P ops Q (o :: rest) n ds w L := by
  obtain ⟨j, dj, oj, h1, h2, h3, h4, h5⟩ := gAsk_spec hg
  exact fun a h => gd_no h h1 h2 h3 h4 h5 (by cases b <;> rfl) hd hn k
/-- A loop: the slots K stay, the slots M turn. -/
theorem lpK {ι : Type} (K : List (Nat × Value)) (M : ι → List (Nat × Value)) (I : ι → World → Prop) (μ : ι → Nat) (i : ι) (hs : Sub (K ++ M i) L) (hI : I i w)
    (round : ∀ i w, I i w → CW P (Exit.then (fun a' w' => ∃ j, AgM ds a' n (K ++ M j) ∧ I j w' ∧ μ j < μ i) Q) c n ds w (K ++ M i)) : CW P Q (.loop c) n ds w L :=
  fun a h => loop (fun i => K ++ M i) I μ i (h.sub hs) hI (fun i w a h hI => round i w hI a h)
theorem lpE {ι : Type} {K : List (Nat × Value)} {M : ι → List (Nat × Value)} {I : ι → World → Prop} {μ : ι → Nat} {m : Nat} (j : ι) (hs : Sub (K ++ M j) L) (hI : I j w) (hm : μ j < m) : EW (Exit.then (fun a' w' => ∃ j, AgM ds a' n (K ++ M j) ∧ I j w' ∧ μ j < m) Q) .normal n ds w L :=
  fun a h => ⟨j, h.sub hs, hI, hm⟩
/-- The same, with a world that may have grown. -/
def BoolEndF (ds : List Nat) (n r : Nat) (C : Prop) [Decidable C] (L' : List (Nat × Value)) (w0 : World) : Exit → Act → World → Prop := fun e a w => e = .normal ∧ Fr [] w0 w ∧ AgM ds a n ((r, .bool (decide C)) :: L')
theorem rboF {ol : List Oper} {r : Nat} {L' : List (Nat × Value)} (C : Prop) [Decidable C] (_hs : Sub L' L) (h1 : WL P ol.toArray (BoolEndF ds n r C L' w) ol n ds w L) (h2 : ∀ w', Fr [] w w' → EW Q .normal n ds w' ((r, .bool (decide C)) :: L')) : CW P Q (.region id ol.toArray false) n ds w L :=
  fun a h => wp_mono (wp_region_lit (h1 a h)) (fun e a w h => by obtain ⟨rfl, hf, ha⟩ := h; exact h2 w hf a ha)
theorem rbeF {r : Nat} {L' : List (Nat × Value)} {C : Prop} [Decidable C] {b : Bool} {w0 : World} (hr : look L r = some (.bool b)) (hb : b = decide C) (hs : Sub L' L) (hf : Fr [] w0 w) : WL P ops (BoolEndF ds n r C L' w0) [] n ds w L :=
  fun a h => wpList_nil ⟨rfl, hf, (bool_end (w := w) h hr hb hs).2.2⟩
theorem we {f : FuncId} {fn : Func} {c : Code} {args : Array Value} {R : Ending → World → Prop} (L : List (Nat × Value)) (hf : P.funcs[f]? = some fn) (hc : fn.body = some c) (hn : fn.ntmps = n) (hl : Nat.ble args.size n = true) (hL : argsOk args L)
    (h : CW P (bodyPost P fn R) c n [] w L) : Calls P f args w R := enter L hf hc hn hl hL h
section
variable {R : Ending → World → Prop} {fn : Func} {t u s : Nat} {v z : Value}
theorem r0 (hr : fn.results = #[]) (k : R (.returned (.tuple #[])) w) : EW (bodyPost P fn R) .ret n [] w L := fun _ h => ret0 h hr k
theorem r1 (hr : fn.results = #[.tmp t]) (hv : look L t = some v) (k : R (.returned v) w) : EW (bodyPost P fn R) .ret n [] w L := fun _ h => ret1 h hr hv k
theorem r2 (hr : fn.results = #[.tmp t, .tmp u]) (hv : look L t = some v) (hx : look L u = some z) (k : R (.returned (.tuple #[v, z])) w) : EW (bodyPost P fn R) .ret n [] w L := fun _ h => ret2 h hr hv hx k
theorem r3 {z' : Value} (hr : fn.results = #[.tmp t, .tmp u, .tmp s]) (hv : look L t = some v) (hx : look L u = some z) (hy : look L s = some z') (k : R (.returned (.tuple #[v, z, z'])) w) : EW (bodyPost P fn R) .ret n [] w L := fun _ h => ret3 h hr hv hx hy k
variable {p pt q r g T : Nat} {cs : List Value}
end
theorem wi6 {z : Int} (h : -9223372036854775808 ≤ z ∧ z ≤ 9223372036854775807) : IntKind.i64.wrap z = z := IntWalk.i64_in z (by omega)
theorem wi8 {z : Int} (h : 0 ≤ z ∧ z ≤ 255) : IntKind.u8.wrap z = z := IntWalk.u8_in z (by omega)
theorem ev1 {x : Operand} {v : Value} (h : ev L x = some v) : evs L [x] [v] := ⟨h, trivial⟩
theorem ev2 {x y : Operand} {v u : Value} (h : ev L x = some v) (h2 : ev L y = some u) : evs L [x, y] [v, u] := ⟨h, h2, trivial⟩
theorem ev3 {x y z : Operand} {v u t : Value} (h : ev L x = some v) (h2 : ev L y = some u) (h3 : ev L z = some t) : evs L [x, y, z] [v, u, t] := ⟨h, h2, h3, trivial⟩
theorem ev4 {x y z o : Operand} {v u t s : Value} (h : ev L x = some v) (h2 : ev L y = some u) (h3 : ev L z = some t) (h4 : ev L o = some s) : evs L [x, y, z, o] [v, u, t, s] := ⟨h, h2, h3, h4, trivial⟩
end
theorem us {P : Program} {t : TypeId} {u} (h : P.underlying t = some u) : (P.underlying t).isSome = true := by rw [h]; rfl
section
variable {P : Program} {n : Nat} {L : List (Nat × Value)} {ds : List Nat} {w w' : World} {Q : Exit → Act → World → Prop} {ops : Array Oper} {rest : List Oper} {d : Nat} {ty T : TypeId} {pos : String} {after : Array Edge} {v : Value} {x : Operand}
theorem bx {cs : List Value} (hx : ev L x = some v) (hc : v.cells = cs.toArray) (hn : Nat.blt d n = true) (q : ∀ g w', g = w.heap.size → Blk w' g T cs → Fr [] w w' → w'.heap.size = g + 1 → WL P ops Q rest n ds w' ((d, .pointer (some ⟨g, 0, none⟩)) :: L)) : WL P ops Q (⟨some d, .box T x, ty, pos, after, none⟩ :: rest) n ds w L :=
  s_box hx hc hn (fun w' h1 h2 h3 => q _ w' rfl h1 h2 h3)
theorem al {cs : List Value} (hz : ∀ w : World, (zeroValue T).run P w = .ok v w) (hc : v.cells = cs.toArray) (hn : Nat.blt d n = true) (q : ∀ g w', g = w.heap.size → Blk w' g T cs → Fr [] w w' → w'.heap.size = g + 1 → WL P ops Q rest n ds w' ((d, .pointer (some ⟨g, 0, none⟩)) :: L)) : WL P ops Q (⟨some d, .alloc T, ty, pos, after, none⟩ :: rest) n ds w L :=
  s_alloc hz hc hn (fun w' h1 h2 h3 => q _ w' rfl h1 h2 h3)
section
variable {C : World → Prop} {K : Act → World → Prop} {fu : Nat} {listed : Array Bool} {pq : Option Nat} {o : Oper} {a : Act} {G : Option (Nat × Bool)} {t t' : TypeId} {y : Operand} {k : IntKind} {i j : Int} {l l' : List UInt8}
end
end
end Go.Lw
