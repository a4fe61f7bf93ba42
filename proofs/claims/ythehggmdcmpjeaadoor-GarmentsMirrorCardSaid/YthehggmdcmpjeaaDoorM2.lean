/- Texts of the proof, joined: W1 XCard CBase XOpen XMot XCnt XGar XRl XStk XOf Opens W3 W4 W5 W8 W9 W14 -/
import Derived.Test.YthehggmdcmpjeaaDoorRows
import Derived.ProofKit
import Derived.OpenShut
import Derived.Carry
import Derived.ChangeOld
import Derived.Deep.DeepHandedRow
import Derived.Lib.LaidTab
import Derived.Test.YthehggmdcmpjeaaDoorCards
import Derived.Test.YthehggmdcmpjeaaDoorTie
import Derived.ChangeMaps5
import Derived.Test.YthehggmdcmpjeaaDoorM1
set_option linter.unusedVariables false
set_option linter.unusedSimpArgs false
namespace Go.Proofs.YthehggmdcmpjeaaDoor
open Go.Lw Go.G14
theorem ag100 : AggOf Tryd.prog 100 5 := ⟨fun _ => by kernel_rfl, fun _ => by kernel_rfl⟩
theorem co68 : CallOf Tryd.prog 68 := CallOf.mk' Tryd.func68 (by kernel_rfl) (by kernel_rfl)
theorem co101 : CallOf Tryd.prog 101 := CallOf.mk' Tryd.func101 (by kernel_rfl) (by kernel_rfl)
theorem co102 : CallOf Tryd.prog 102 := CallOf.mk' Tryd.func102 (by kernel_rfl) (by kernel_rfl)
theorem el76 : ElemOf Tryd.prog 76 5 Enc.b 1 := ElemOf.mk' (z := (.int .u8 0)) Tryd.underlying76 (by kernel_rfl) rfl
theorem fa100_0 : FieldAt Tryd.prog 100 0 0 := fun _ _ => by kernel_rfl
theorem fa100_1 : FieldAt Tryd.prog 100 1 1 := fun _ _ => by kernel_rfl
theorem fa100_2 : FieldAt Tryd.prog 100 2 2 := fun _ _ => by kernel_rfl
theorem fa100_3 : FieldAt Tryd.prog 100 3 3 := fun _ _ => by kernel_rfl
theorem fa100_4 : FieldAt Tryd.prog 100 4 4 := fun _ _ => by kernel_rfl
theorem hmix : Tryd.prog.follows .mixedOrders = true := by kernel_rfl
theorem na3 : NotAgg Tryd.prog 3 := fun _ => by kernel_rfl
theorem na4 : NotAgg Tryd.prog 4 := fun _ => by kernel_rfl
theorem na5 : NotAgg Tryd.prog 5 := fun _ => by kernel_rfl
theorem na87 : NotAgg Tryd.prog 87 := fun _ => by kernel_rfl
theorem sz5 : SizeOf Tryd.prog 5 1 := fun _ => by kernel_rfl
theorem digit_ok (n : Int) (w0 : World) (h0 : 0 ≤ n) (h1 : n ≤ 9) : Rets Tryd.prog 102 #[.int .i64 n] w0 fun v w' => v = .int .u8 ((dg n).toNat : Int) ∧ w0 = w' := by
 refine enter [(0, .int .i64 n)] Tryd.func102 rfl Tryd.ntmps102 rfl (.cons rfl .nil) ?_
 intro a h
 refine wp_seq ?_
 refine wR ?_
 refine st_assign h rfl rfl ?_; clear h a; intro a h
 replace h : Ag a 6 [(0, _)] := h.sub (.cons rfl .nil)
 refine wnt ?_
 refine wp_seq ?_
 refine wR ?_
 refine st_move h rfl rfl ?_; clear h a; intro a h
 refine st_add h rfl rfl (by first | exact IntWalk.i64_in _ (by omega) | rfl) rfl ?_; clear h a; intro a h
 refine st_conv h rfl (by rw [Tryd.underlying3]; rfl) Tryd.underlying5 (by first | exact IntWalk.u8_in _ (by omega) | rfl) rfl ?_; clear h a; intro a h
 refine st_assign h rfl rfl ?_; clear h a; intro a h
 replace h : Ag a 6 [(2, _)] := h.sub (.cons rfl .nil)
 refine wnt ?_
 refine wp_ret ?_
 refine ret1 h Tryd.results102 rfl ?_
 exact ⟨_, rfl, by rw [dg_val n h0 h1], rfl⟩
theorem put_ok (l m : List UInt8) (x : Value) (w0 : World) (hx : Sl Enc.b w0 x m) (hb : l.length + m.length ≤ 9223372036854775807) : Rets Tryd.prog 101 #[S l, x] w0 fun v w' => v = S (l ++ m) ∧ w0 = w' := by
 refine enter [(0, S l), (1, x)] Tryd.func101 rfl Tryd.ntmps101 rfl (.cons rfl (.cons rfl .nil)) ?_
 intro a h
 refine wp_seq ?_
 refine wR ?_
 refine st_assign h rfl rfl ?_; clear h a; intro a h
 replace h : Ag a 9 [(0, _), (1, _)] := h.sub (.cons rfl (.cons rfl .nil))
 refine wnt ?_
 refine wp_seq ?_
 refine wR ?_
 refine st_move h rfl rfl ?_; clear h a; intro a h
 refine st_move h rfl rfl ?_; clear h a; intro a h
 refine st_b2s h rfl (by assumption) el76 Tryd.underlying5 Tryd.underlying9 rfl ?_; clear h a; intro a h
 refine st_adds h rfl rfl (by exact hb) rfl ?_; clear h a; intro a h
 refine st_assign h rfl rfl ?_; clear h a; intro a h
 replace h : Ag a 9 [(4, _)] := h.sub (.cons rfl .nil)
 refine wnt ?_
 refine wp_ret ?_
 refine ret1 h Tryd.results101 rfl ?_
 exact ⟨_, rfl, rfl, rfl⟩
theorem check_ok (s : Stitch) (w0 : World) : Rets Tryd.prog 68 #[stV s] w0 fun v w' => v = .int .i64 (checkS s) ∧ Fr [] w0 w' := by
 refine enter [(0, stV s)] Tryd.func68 rfl Tryd.ntmps68 rfl (.cons rfl .nil) ?_
 have hf := Fr.refl [] w0
 intro a h
 refine wp_seq ?_
 refine wR ?_
 refine st_box h rfl rfl rfl ?_; clear h a; intro w1 hb1 hq hz a h
 obtain ⟨g_1, hg⟩ : ∃ g, g = w0.heap.size := ⟨_, rfl⟩; rw [← hg] at hb1 h hz
 have hl1 : w0.heap.size ≤ g_1 := by have := hf.size; omega
 replace hf := hf.next hq
 clear hq hz hg
 refine st_assign h rfl rfl ?_; clear h a; intro a h
 replace h : Ag a 57 [(1, _)] := h.sub (.cons rfl .nil)
 refine wnt ?_
 refine wp_seq ?_
 refine wp_seq ?_
 refine region_bool (r := 20) (L' := [(1, _)]) (s.k < 1 ∨ 8 < s.k ∨ s.y < 1 ∨ 6 < s.y) h (.cons rfl .nil) ?_ ?_
 ·refine id ?_
  refine st_fieldAddr h rfl fa100_0 rfl ?_; clear h a; intro a h
  refine st_loadB h rfl hb1 rfl na87 rfl ?_; clear h a; intro a h
  refine st_lt h rfl rfl rfl ?_; clear h a; intro a h
  refine st_move h rfl rfl ?_; clear h a; intro a h
  first | refine guard_dec (D := 6) h rfl ?_ ?_ | refine guard_ndec (D := 6) h rfl ?_ ?_ | refine guard_any (D := 6) h rfl ?_ ?_
  ·clear h; intro g0 h
   refine gd_no h rfl rfl rfl rfl rfl rfl rfl rfl ?_; clear h a; intro a h
   refine gd_no h rfl rfl rfl rfl rfl rfl rfl rfl ?_; clear h a; intro a h
   refine gd_no h rfl rfl rfl rfl rfl rfl rfl rfl ?_; clear h a; intro a h
   refine st_pick_t h rfl rfl rfl rfl ?_; clear h a; intro a h
   refine st_move h rfl rfl ?_; clear h a; intro a h
   refine gd_no h rfl rfl rfl rfl rfl rfl rfl rfl ?_; clear h a; intro a h
   refine gd_no h rfl rfl rfl rfl rfl rfl rfl rfl ?_; clear h a; intro a h
   refine gd_no h rfl rfl rfl rfl rfl rfl rfl rfl ?_; clear h a; intro a h
   refine st_pick_t h rfl rfl rfl rfl ?_; clear h a; intro a h
   refine st_move h rfl rfl ?_; clear h a; intro a h
   refine gd_no h rfl rfl rfl rfl rfl rfl rfl rfl ?_; clear h a; intro a h
   refine gd_no h rfl rfl rfl rfl rfl rfl rfl rfl ?_; clear h a; intro a h
   refine gd_no h rfl rfl rfl rfl rfl rfl rfl rfl ?_; clear h a; intro a h
   refine st_pick_t h rfl rfl rfl rfl ?_; clear h a; intro a h
   exact wpList_nil (bool_end h rfl (by first | exact bt (by omega) | exact bf (by omega) | exact bi (by omega) | exact bn (by omega)) (.cons rfl .nil))
  ·clear h; intro g0 h
   refine gd_yes h rfl rfl rfl rfl rfl rfl ?_
   refine st_fieldAddr h rfl fa100_0 rfl ?_; clear h a; intro a h
   refine gd_yes h rfl rfl rfl rfl rfl rfl ?_
   refine st_loadB h rfl hb1 rfl na87 rfl ?_; clear h a; intro a h
   refine gd_yes h rfl rfl rfl rfl rfl rfl ?_
   refine st_gt h rfl rfl rfl ?_; clear h a; intro a h
   refine st_pick_f h rfl rfl rfl rfl ?_; clear h a; intro a h
   refine st_move h rfl rfl ?_; clear h a; intro a h
   first | refine guard_dec (D := 11) h rfl ?_ ?_ | refine guard_ndec (D := 11) h rfl ?_ ?_ | refine guard_any (D := 11) h rfl ?_ ?_
   ·clear h; intro g1 h
    refine gd_no h rfl rfl rfl rfl rfl rfl rfl rfl ?_; clear h a; intro a h
    refine gd_no h rfl rfl rfl rfl rfl rfl rfl rfl ?_; clear h a; intro a h
    refine gd_no h rfl rfl rfl rfl rfl rfl rfl rfl ?_; clear h a; intro a h
    refine st_pick_t h rfl rfl rfl rfl ?_; clear h a; intro a h
    refine st_move h rfl rfl ?_; clear h a; intro a h
    refine gd_no h rfl rfl rfl rfl rfl rfl rfl rfl ?_; clear h a; intro a h
    refine gd_no h rfl rfl rfl rfl rfl rfl rfl rfl ?_; clear h a; intro a h
    refine gd_no h rfl rfl rfl rfl rfl rfl rfl rfl ?_; clear h a; intro a h
    refine st_pick_t h rfl rfl rfl rfl ?_; clear h a; intro a h
    exact wpList_nil (bool_end h rfl (by first | exact bt (by omega) | exact bf (by omega) | exact bi (by omega) | exact bn (by omega)) (.cons rfl .nil))
   ·clear h; intro g1 h
    refine gd_yes h rfl rfl rfl rfl rfl rfl ?_
    refine st_fieldAddr h rfl fa100_1 rfl ?_; clear h a; intro a h
    refine gd_yes h rfl rfl rfl rfl rfl rfl ?_
    refine st_loadB h rfl hb1 rfl na5 rfl ?_; clear h a; intro a h
    refine gd_yes h rfl rfl rfl rfl rfl rfl ?_
    refine st_lt h rfl rfl rfl ?_; clear h a; intro a h
    refine st_pick_f h rfl rfl rfl rfl ?_; clear h a; intro a h
    refine st_move h rfl rfl ?_; clear h a; intro a h
    first | refine guard_dec (D := 16) h rfl ?_ ?_ | refine guard_ndec (D := 16) h rfl ?_ ?_ | refine guard_any (D := 16) h rfl ?_ ?_
    ·clear h; intro g2 h
     refine gd_no h rfl rfl rfl rfl rfl rfl rfl rfl ?_; clear h a; intro a h
     refine gd_no h rfl rfl rfl rfl rfl rfl rfl rfl ?_; clear h a; intro a h
     refine gd_no h rfl rfl rfl rfl rfl rfl rfl rfl ?_; clear h a; intro a h
     refine st_pick_t h rfl rfl rfl rfl ?_; clear h a; intro a h
     exact wpList_nil (bool_end h rfl (by first | exact bt (by omega) | exact bf (by omega) | exact bi (by omega) | exact bn (by omega)) (.cons rfl .nil))
    ·clear h; intro g2 h
     refine gd_yes h rfl rfl rfl rfl rfl rfl ?_
     refine st_fieldAddr h rfl fa100_1 rfl ?_; clear h a; intro a h
     refine gd_yes h rfl rfl rfl rfl rfl rfl ?_
     refine st_loadB h rfl hb1 rfl na5 rfl ?_; clear h a; intro a h
     refine gd_yes h rfl rfl rfl rfl rfl rfl ?_
     refine st_gt h rfl rfl rfl ?_; clear h a; intro a h
     refine st_pick_f h rfl rfl rfl rfl ?_; clear h a; intro a h
     exact wpList_nil (bool_end h rfl (by first | exact bt (by omega) | exact bf (by omega) | exact bi (by omega) | exact bn (by omega)) (.cons rfl .nil))
 ·clear h a; intro a h
  refine (norm_then ?_)
  first | refine cond_dec h rfl (fun c0 => ?_) (fun c0 => ?_) | refine cond_ndec h rfl (fun c0 => ?_) (fun c0 => ?_) | refine cond_split h rfl (fun c0 => ?_) (fun c0 => ?_)
  ·refine id ?_
   refine wp_seq ?_
   refine wR ?_
   refine st_assign h rfl rfl ?_; clear h a; intro a h
   replace h : Ag a 57 [(2, _)] := h.sub (.cons rfl .nil)
   refine wnt ?_
   refine wp_ret (ret_then ?_)
   refine ret1 h Tryd.results68 rfl ?_
   exact ⟨_, rfl, by unfold checkS; (repeat' split) <;> first | rfl | (exfalso; first | omega | (simp_all; done) | (simp_all; omega)), hf⟩
  ·refine id ?_
   refine wsn ?_
   refine wp_seq ?_
   refine wp_seq ?_
   refine wR ?_
   refine st_fieldAddr h rfl fa100_0 rfl ?_; clear h a; intro a h
   refine st_loadB h rfl hb1 rfl na87 rfl ?_; clear h a; intro a h
   refine st_ne h rfl rfl rfl ?_; clear h a; intro a h
   replace h : Ag a 57 [(1, _), (23, _)] := h.sub (.cons rfl (.cons rfl .nil))
   refine wnt ?_
   first | refine cond_dec h rfl (fun c1 => ?_) (fun c1 => ?_) | refine cond_ndec h rfl (fun c1 => ?_) (fun c1 => ?_) | refine cond_split h rfl (fun c1 => ?_) (fun c1 => ?_)
   ·refine id ?_
    refine wp_seq ?_
    refine wp_seq ?_
    refine region_bool (r := 35) (L' := []) (s.a ≠ 0 ∨ s.b ≠ 0 ∨ s.f = true) h .nil ?_ ?_
    ·refine id ?_
     refine st_fieldAddr h rfl fa100_2 rfl ?_; clear h a; intro a h
     refine st_loadB h rfl hb1 rfl na3 rfl ?_; clear h a; intro a h
     refine st_ne h rfl rfl rfl ?_; clear h a; intro a h
     refine st_move h rfl rfl ?_; clear h a; intro a h
     first | refine guard_dec (D := 27) h rfl ?_ ?_ | refine guard_ndec (D := 27) h rfl ?_ ?_ | refine guard_any (D := 27) h rfl ?_ ?_
     ·clear h; intro g3 h
      refine gd_no h rfl rfl rfl rfl rfl rfl rfl rfl ?_; clear h a; intro a h
      refine gd_no h rfl rfl rfl rfl rfl rfl rfl rfl ?_; clear h a; intro a h
      refine gd_no h rfl rfl rfl rfl rfl rfl rfl rfl ?_; clear h a; intro a h
      refine st_pick_t h rfl rfl rfl rfl ?_; clear h a; intro a h
      refine st_move h rfl rfl ?_; clear h a; intro a h
      refine gd_no h rfl rfl rfl rfl rfl rfl rfl rfl ?_; clear h a; intro a h
      refine gd_no h rfl rfl rfl rfl rfl rfl rfl rfl ?_; clear h a; intro a h
      refine st_pick_t h rfl rfl rfl rfl ?_; clear h a; intro a h
      exact wpList_nil (bool_end h rfl (by simp_all) .nil)
     ·clear h; intro g3 h
      refine gd_yes h rfl rfl rfl rfl rfl rfl ?_
      refine st_fieldAddr h rfl fa100_3 rfl ?_; clear h a; intro a h
      refine gd_yes h rfl rfl rfl rfl rfl rfl ?_
      refine st_loadB h rfl hb1 rfl na3 rfl ?_; clear h a; intro a h
      refine gd_yes h rfl rfl rfl rfl rfl rfl ?_
      refine st_ne h rfl rfl rfl ?_; clear h a; intro a h
      refine st_pick_f h rfl rfl rfl rfl ?_; clear h a; intro a h
      refine st_move h rfl rfl ?_; clear h a; intro a h
      first | refine guard_dec (D := 32) h rfl ?_ ?_ | refine guard_ndec (D := 32) h rfl ?_ ?_ | refine guard_any (D := 32) h rfl ?_ ?_
      ·clear h; intro g4 h
       refine gd_no h rfl rfl rfl rfl rfl rfl rfl rfl ?_; clear h a; intro a h
       refine gd_no h rfl rfl rfl rfl rfl rfl rfl rfl ?_; clear h a; intro a h
       refine st_pick_t h rfl rfl rfl rfl ?_; clear h a; intro a h
       exact wpList_nil (bool_end h rfl (by simp_all) .nil)
      ·clear h; intro g4 h
       refine gd_yes h rfl rfl rfl rfl rfl rfl ?_
       refine st_fieldAddr h rfl fa100_4 rfl ?_; clear h a; intro a h
       refine gd_yes h rfl rfl rfl rfl rfl rfl ?_
       refine st_loadB h rfl hb1 rfl na4 rfl ?_; clear h a; intro a h
       refine st_pick_f h rfl rfl rfl rfl ?_; clear h a; intro a h
       exact wpList_nil (bool_end h rfl (by simp_all) .nil)
    ·clear h a; intro a h
     refine (norm_then ?_)
     first | refine cond_dec h rfl (fun c2 => ?_) (fun c2 => ?_) | refine cond_ndec h rfl (fun c2 => ?_) (fun c2 => ?_) | refine cond_split h rfl (fun c2 => ?_) (fun c2 => ?_)
     ·refine id ?_
      refine wp_seq ?_
      refine wR ?_
      refine st_assign h rfl rfl ?_; clear h a; intro a h
      replace h : Ag a 57 [(2, _)] := h.sub (.cons rfl .nil)
      refine wnt ?_
      refine wp_ret (ret_then (ret_then ?_))
      refine ret1 h Tryd.results68 rfl ?_
      exact ⟨_, rfl, by unfold checkS; (repeat' split) <;> first | rfl | (exfalso; first | omega | (simp_all; done) | (simp_all; omega)), hf⟩
     ·refine id ?_
      refine wsn ?_
      refine wp_seq ?_
      refine wR ?_
      refine st_assign h rfl rfl ?_; clear h a; intro a h
      replace h : Ag a 57 [(2, _)] := h.sub (.cons rfl .nil)
      refine wnt ?_
      refine wp_ret (ret_then ?_)
      refine ret1 h Tryd.results68 rfl ?_
      exact ⟨_, rfl, by unfold checkS; (repeat' split) <;> first | rfl | (exfalso; first | omega | (simp_all; done) | (simp_all; omega)), hf⟩
   ·refine id ?_
    refine wsn ?_
    refine wp_seq ?_
    refine wp_seq ?_
    refine region_bool (r := 56) (L' := []) (s.a < 1 ∨ 4 < s.a ∨ s.b < 1 ∨ 4 - s.a < s.b) h .nil ?_ ?_
    ·refine id ?_
     refine st_fieldAddr h rfl fa100_2 rfl ?_; clear h a; intro a h
     refine st_loadB h rfl hb1 rfl na3 rfl ?_; clear h a; intro a h
     refine st_lt h rfl rfl rfl ?_; clear h a; intro a h
     refine st_move h rfl rfl ?_; clear h a; intro a h
     first | refine guard_dec (D := 39) h rfl ?_ ?_ | refine guard_ndec (D := 39) h rfl ?_ ?_ | refine guard_any (D := 39) h rfl ?_ ?_
     ·clear h; intro g5 h
      refine gd_no h rfl rfl rfl rfl rfl rfl rfl rfl ?_; clear h a; intro a h
      refine gd_no h rfl rfl rfl rfl rfl rfl rfl rfl ?_; clear h a; intro a h
      refine gd_no h rfl rfl rfl rfl rfl rfl rfl rfl ?_; clear h a; intro a h
      refine st_pick_t h rfl rfl rfl rfl ?_; clear h a; intro a h
      refine st_move h rfl rfl ?_; clear h a; intro a h
      refine gd_no h rfl rfl rfl rfl rfl rfl rfl rfl ?_; clear h a; intro a h
      refine gd_no h rfl rfl rfl rfl rfl rfl rfl rfl ?_; clear h a; intro a h
      refine gd_no h rfl rfl rfl rfl rfl rfl rfl rfl ?_; clear h a; intro a h
      refine st_pick_t h rfl rfl rfl rfl ?_; clear h a; intro a h
      refine st_move h rfl rfl ?_; clear h a; intro a h
      refine gd_no h rfl rfl rfl rfl rfl rfl rfl rfl ?_; clear h a; intro a h
      refine gd_no h rfl rfl rfl rfl rfl rfl rfl rfl ?_; clear h a; intro a h
      refine gd_no h rfl rfl rfl rfl rfl rfl rfl rfl ?_; clear h a; intro a h
      refine gd_no h rfl rfl rfl rfl rfl rfl rfl rfl ?_; clear h a; intro a h
      refine gd_no h rfl rfl rfl rfl rfl rfl rfl rfl ?_; clear h a; intro a h
      refine gd_no h rfl rfl rfl rfl rfl rfl rfl rfl ?_; clear h a; intro a h
      refine st_pick_t h rfl rfl rfl rfl ?_; clear h a; intro a h
      exact wpList_nil (bool_end h rfl (by first | exact bt (by omega) | exact bf (by omega) | exact bi (by omega) | exact bn (by omega)) .nil)
     ·clear h; intro g5 h
      refine gd_yes h rfl rfl rfl rfl rfl rfl ?_
      refine st_fieldAddr h rfl fa100_2 rfl ?_; clear h a; intro a h
      refine gd_yes h rfl rfl rfl rfl rfl rfl ?_
      refine st_loadB h rfl hb1 rfl na3 rfl ?_; clear h a; intro a h
      refine gd_yes h rfl rfl rfl rfl rfl rfl ?_
      refine st_gt h rfl rfl rfl ?_; clear h a; intro a h
      refine st_pick_f h rfl rfl rfl rfl ?_; clear h a; intro a h
      refine st_move h rfl rfl ?_; clear h a; intro a h
      first | refine guard_dec (D := 44) h rfl ?_ ?_ | refine guard_ndec (D := 44) h rfl ?_ ?_ | refine guard_any (D := 44) h rfl ?_ ?_
      ·clear h; intro g6 h
       refine gd_no h rfl rfl rfl rfl rfl rfl rfl rfl ?_; clear h a; intro a h
       refine gd_no h rfl rfl rfl rfl rfl rfl rfl rfl ?_; clear h a; intro a h
       refine gd_no h rfl rfl rfl rfl rfl rfl rfl rfl ?_; clear h a; intro a h
       refine st_pick_t h rfl rfl rfl rfl ?_; clear h a; intro a h
       refine st_move h rfl rfl ?_; clear h a; intro a h
       refine gd_no h rfl rfl rfl rfl rfl rfl rfl rfl ?_; clear h a; intro a h
       refine gd_no h rfl rfl rfl rfl rfl rfl rfl rfl ?_; clear h a; intro a h
       refine gd_no h rfl rfl rfl rfl rfl rfl rfl rfl ?_; clear h a; intro a h
       refine gd_no h rfl rfl rfl rfl rfl rfl rfl rfl ?_; clear h a; intro a h
       refine gd_no h rfl rfl rfl rfl rfl rfl rfl rfl ?_; clear h a; intro a h
       refine gd_no h rfl rfl rfl rfl rfl rfl rfl rfl ?_; clear h a; intro a h
       refine st_pick_t h rfl rfl rfl rfl ?_; clear h a; intro a h
       exact wpList_nil (bool_end h rfl (by first | exact bt (by omega) | exact bf (by omega) | exact bi (by omega) | exact bn (by omega)) .nil)
      ·clear h; intro g6 h
       refine gd_yes h rfl rfl rfl rfl rfl rfl ?_
       refine st_fieldAddr h rfl fa100_3 rfl ?_; clear h a; intro a h
       refine gd_yes h rfl rfl rfl rfl rfl rfl ?_
       refine st_loadB h rfl hb1 rfl na3 rfl ?_; clear h a; intro a h
       refine gd_yes h rfl rfl rfl rfl rfl rfl ?_
       refine st_lt h rfl rfl rfl ?_; clear h a; intro a h
       refine st_pick_f h rfl rfl rfl rfl ?_; clear h a; intro a h
       refine st_move h rfl rfl ?_; clear h a; intro a h
       first | refine guard_dec (D := 49) h rfl ?_ ?_ | refine guard_ndec (D := 49) h rfl ?_ ?_ | refine guard_any (D := 49) h rfl ?_ ?_
       ·clear h; intro g7 h
        refine gd_no h rfl rfl rfl rfl rfl rfl rfl rfl ?_; clear h a; intro a h
        refine gd_no h rfl rfl rfl rfl rfl rfl rfl rfl ?_; clear h a; intro a h
        refine gd_no h rfl rfl rfl rfl rfl rfl rfl rfl ?_; clear h a; intro a h
        refine gd_no h rfl rfl rfl rfl rfl rfl rfl rfl ?_; clear h a; intro a h
        refine gd_no h rfl rfl rfl rfl rfl rfl rfl rfl ?_; clear h a; intro a h
        refine gd_no h rfl rfl rfl rfl rfl rfl rfl rfl ?_; clear h a; intro a h
        refine st_pick_t h rfl rfl rfl rfl ?_; clear h a; intro a h
        exact wpList_nil (bool_end h rfl (by first | exact bt (by omega) | exact bf (by omega) | exact bi (by omega) | exact bn (by omega)) .nil)
       ·clear h; intro g7 h
        refine gd_yes h rfl rfl rfl rfl rfl rfl ?_
        refine st_fieldAddr h rfl fa100_3 rfl ?_; clear h a; intro a h
        refine gd_yes h rfl rfl rfl rfl rfl rfl ?_
        refine st_loadB h rfl hb1 rfl na3 rfl ?_; clear h a; intro a h
        refine gd_yes h rfl rfl rfl rfl rfl rfl ?_
        refine st_fieldAddr h rfl fa100_2 rfl ?_; clear h a; intro a h
        refine gd_yes h rfl rfl rfl rfl rfl rfl ?_
        refine st_loadB h rfl hb1 rfl na3 rfl ?_; clear h a; intro a h
        refine gd_yes h rfl rfl rfl rfl rfl rfl ?_
        refine st_sub h rfl rfl (by first | exact IntWalk.i64_in _ (by omega) | rfl) rfl ?_; clear h a; intro a h
        refine gd_yes h rfl rfl rfl rfl rfl rfl ?_
        refine st_gt h rfl rfl rfl ?_; clear h a; intro a h
        refine st_pick_f h rfl rfl rfl rfl ?_; clear h a; intro a h
        exact wpList_nil (bool_end h rfl (by first | exact bt (by omega) | exact bf (by omega) | exact bi (by omega) | exact bn (by omega)) .nil)
    ·clear h a; intro a h
     refine (norm_then ?_)
     first | refine cond_dec h rfl (fun c3 => ?_) (fun c3 => ?_) | refine cond_ndec h rfl (fun c3 => ?_) (fun c3 => ?_) | refine cond_split h rfl (fun c3 => ?_) (fun c3 => ?_)
     ·refine id ?_
      refine wp_seq ?_
      refine wR ?_
      refine st_assign h rfl rfl ?_; clear h a; intro a h
      replace h : Ag a 57 [(2, _)] := h.sub (.cons rfl .nil)
      refine wnt ?_
      refine wp_ret (ret_then ?_)
      refine ret1 h Tryd.results68 rfl ?_
      exact ⟨_, rfl, by unfold checkS; (repeat' split) <;> first | rfl | (exfalso; first | omega | (simp_all; done) | (simp_all; omega)), hf⟩
     ·refine id ?_
      refine wsn ?_
      refine wp_seq ?_
      refine wR ?_
      refine st_assign h rfl rfl ?_; clear h a; intro a h
      replace h : Ag a 57 [(2, _)] := h.sub (.cons rfl .nil)
      refine wnt ?_
      refine wp_ret ?_
      refine ret1 h Tryd.results68 rfl ?_
      exact ⟨_, rfl, by unfold checkS; (repeat' split) <;> first | rfl | (exfalso; first | omega | (simp_all; done) | (simp_all; omega)), hf⟩
theorem text_ok (s : Stitch) (w0 : World) (hy : Sym w0) : Rets Tryd.prog 90 #[stV s] w0 fun v w' => v = S (textS s) ∧ Fr [] w0 w' := by
 refine enter [(0, stV s)] Tryd.func90 rfl Tryd.ntmps90 rfl (.cons rfl .nil) ?_
 have hf := Fr.refl [] w0
 intro a h
 refine wp_seq ?_
 refine wR ?_
 refine st_box h rfl rfl rfl ?_; clear h a; intro w1 hb1 hq hz a h
 obtain ⟨g_1, hg⟩ : ∃ g, g = w0.heap.size := ⟨_, rfl⟩; rw [← hg] at hb1 h hz
 have hl1 : w0.heap.size ≤ g_1 := by have := hf.size; omega
 replace hf := hf.next hq
 replace hy := hy.ext hq
 clear hq hz hg
 refine st_assign h rfl rfl ?_; clear h a; intro a h
 replace h : Ag a 41 [(1, _)] := h.sub (.cons rfl .nil)
 refine wnt ?_
 refine wp_seq ?_
 refine wp_seq ?_
 refine wR ?_
 refine st_loadBA h rfl hb1 ag100 rfl ?_; clear h a; intro a h
 refine st_call h (evs_cons rfl evs_nil) co68 (check_ok _ _) rfl ?_; clear h a; rintro _ w2 ⟨rfl, hq⟩ a h
 replace hf := hf.next hq
 replace hy := hy.ext hq
 replace hb1 := hb1.ext hq
 clear hq
 refine st_ne h rfl rfl rfl ?_; clear h a; intro a h
 replace h : Ag a 41 [(1, _), (7, _)] := h.sub (.cons rfl (.cons rfl .nil))
 refine wnt ?_
 first | refine cond_dec h rfl (fun c0 => ?_) (fun c0 => ?_) | refine cond_ndec h rfl (fun c0 => ?_) (fun c0 => ?_) | refine cond_split h rfl (fun c0 => ?_) (fun c0 => ?_)
 ·refine id ?_
  refine wp_seq ?_
  refine wR ?_
  refine st_assign h rfl rfl ?_; clear h a; intro a h
  replace h : Ag a 41 [(2, _)] := h.sub (.cons rfl .nil)
  refine wnt ?_
  refine wp_ret (ret_then ?_)
  refine ret1 h Tryd.results90 rfl ?_
  exact ⟨_, rfl, by rw [textS, if_pos (by assumption)]; rfl, hf⟩
 ·have hc : checkS s = 0 := by omega
  obtain ⟨k1, k8, y1, y6, kn, ky⟩ := check_rng hc
  refine wsn ?_
  refine wp_seq ?_
  refine wR ?_
  refine st_fieldAddr h rfl fa100_0 rfl ?_; clear h a; intro a h
  refine st_loadB h rfl hb1 rfl na87 rfl ?_; clear h a; intro a h
  refine st_sub h rfl rfl (by first | exact IntWalk.u8_in _ (by omega) | rfl) rfl ?_; clear h a; intro a h
  refine st_idxA h rfl rfl Tryd.underlying168 sz5 (by omega) (by omega) rfl ?_; clear h a; intro a h
  refine st_load h rfl (hy.at _ (by omega)) na5 rfl ?_; clear h a; intro a h
  refine st_bslice ([symbols.getD (s.k - 1).toNat 0]) h (evs_cons rfl evs_nil) rfl rfl rfl el76 (Nat.le_of_ble_eq_true rfl) rfl ?_; clear h a; intro g_13 w3 hg ho13 hq hz a h
  have hn_1_13 : g_1 < g_13 := by have := hb1.lt; omega
  have hl13 : w0.heap.size ≤ g_13 := by have := hf.size; omega
  replace hf := hf.next hq
  replace hy := hy.ext hq
  replace hb1 := hb1.ext hq
  clear hq hz hg
  refine st_call h (evs_cons rfl (evs_cons rfl evs_nil)) co101 (put_ok _ _ _ _ ho13.sl (by simp)) rfl ?_; clear h a; rintro _ _ ⟨rfl, rfl⟩ a h
  refine st_assign h rfl rfl ?_; clear h a; intro a h
  replace h : Ag a 41 [(1, _), (3, _)] := h.sub (.cons rfl (.cons rfl .nil))
  refine wnt ?_
  refine wp_seq ?_
  refine wp_seq ?_
  refine wR ?_
  refine st_fieldAddr h rfl fa100_0 rfl ?_; clear h a; intro a h
  refine st_loadB h rfl hb1 rfl na87 rfl ?_; clear h a; intro a h
  refine st_eq h rfl rfl rfl ?_; clear h a; intro a h
  replace h : Ag a 41 [(1, _), (3, _), (17, _)] := h.sub (.cons rfl (.cons rfl (.cons rfl .nil)))
  refine wnt ?_
  first | refine cond_dec h rfl (fun c1 => ?_) (fun c1 => ?_) | refine cond_ndec h rfl (fun c1 => ?_) (fun c1 => ?_) | refine cond_split h rfl (fun c1 => ?_) (fun c1 => ?_)
  ·refine id ?_
   refine wp_seq ?_
   refine wR ?_
   refine st_assign h rfl rfl ?_; clear h a; intro a h
   replace h : Ag a 41 [(1, _), (3, _), (4, _)] := h.sub (.cons rfl (.cons rfl (.cons rfl .nil)))
   refine wnt ?_
   refine wp_seq ?_
   refine wp_seq ?_
   refine wR ?_
   refine st_fieldAddr h rfl fa100_4 rfl ?_; clear h a; intro a h
   refine st_loadB h rfl hb1 rfl na4 rfl ?_; clear h a; intro a h
   replace h : Ag a 41 [(1, _), (3, _), (4, _), (19, _)] := h.sub (.cons rfl (.cons rfl (.cons rfl (.cons rfl .nil))))
   refine wnt ?_
   first | refine cond_dec h rfl (fun c2 => ?_) (fun c2 => ?_) | refine cond_ndec h rfl (fun c2 => ?_) (fun c2 => ?_) | refine cond_split h rfl (fun c2 => ?_) (fun c2 => ?_)
   ·refine id ?_
    refine wR ?_
    refine st_assign h rfl rfl ?_; clear h a; intro a h
    replace h : Ag a 41 [(1, _), (3, _), (4, _)] := h.sub (.cons rfl (.cons rfl (.cons rfl .nil)))
    refine wnt ?_
    refine region_held (fun wb w' => Fr [] wb w') hmix ?_; intro w4 hq
    replace hf := hf.next hq
    replace hy := hy.ext hq
    replace hb1 := hb1.ext hq
    replace ho13 := ho13.ext hq
    clear hq; have hC : Fr [] w4 w4 := Fr.refl _ _
    have hy_b := hy
    have hb1_b := hb1
    have ho13_b := ho13
    refine hd_move 0 (by kernel_rfl) (by kernel_rfl) (by kernel_rfl) hC h wn rfl rfl rfl ?_; clear h a; intro a h
    refine hd_fieldAddr 1 (by kernel_rfl) (by kernel_rfl) (by kernel_rfl) hC h wn rfl fa100_2 rfl rfl ?_; clear h a; intro a h
    refine hd_loadB 2 (by kernel_rfl) (by kernel_rfl) (by kernel_rfl) hC h wn rfl (fun _ hw => hb1_b.ext hw) rfl na3 rfl rfl ?_; clear h a; intro a h
    refine hd_fieldAddr 4 (by kernel_rfl) (by kernel_rfl) (by kernel_rfl) hC h wn rfl fa100_3 rfl rfl ?_; clear h a; intro a h
    refine hd_loadB 5 (by kernel_rfl) (by kernel_rfl) (by kernel_rfl) hC h wn rfl (fun _ hw => hb1_b.ext hw) rfl na3 rfl rfl ?_; clear h a; intro a h
    refine hd_move 7 (by kernel_rfl) (by kernel_rfl) (by kernel_rfl) hC h wn rfl rfl rfl ?_; clear h a; intro a h
    refine hd_one 3 (by kernel_rfl) rfl ?_
    refine st_call h (evs_cons rfl evs_nil) co102 (digit_ok _ _ (by omega) (by omega)) rfl ?_; clear h a; rintro _ _ ⟨rfl, rfl⟩ a h
    refine hd_next hC ?_
    refine hd_one 6 (by kernel_rfl) rfl ?_
    refine st_call h (evs_cons rfl evs_nil) co102 (digit_ok _ _ (by omega) (by omega)) rfl ?_; clear h a; rintro _ _ ⟨rfl, rfl⟩ a h
    refine hd_next hC ?_
    refine hd_one 8 (by kernel_rfl) rfl ?_
    refine st_bslice ([dg s.a, dg s.b, if s.f then 70 else 66]) h (evs_cons rfl (evs_cons rfl (evs_cons rfl evs_nil))) rfl (by rw [c2]; rfl) rfl el76 (Nat.le_of_ble_eq_true rfl) rfl ?_; clear h a; intro g_28 w5 hg ho28 hq hz a h
    have hn_1_28 : g_1 < g_28 := by have := hb1.lt; omega
    have hl28 : w0.heap.size ≤ g_28 := by have := hf.size; omega
    replace hf := hf.next hq
    replace hy := hy.ext hq
    replace hb1 := hb1.ext hq
    replace ho13 := ho13.ext hq
    replace hC := hC.next hq
    clear hq hz hg
    refine hd_next hC ?_
    refine hd_one 9 (by kernel_rfl) rfl ?_
    refine st_call h (evs_cons rfl (evs_cons rfl evs_nil)) co101 (put_ok _ _ _ _ ho28.sl (by simp)) rfl ?_; clear h a; rintro _ _ ⟨rfl, rfl⟩ a h
    refine hd_next hC ?_
    refine hd_one 10 (by kernel_rfl) rfl ?_
    refine st_assign h rfl rfl ?_; clear h a; intro a h
    refine hd_next hC ?_
    refine hd_end (by kernel_rfl) ?_
    clear hC hy_b hb1_b ho13_b
    replace h : Ag a 41 [(1, _), (3, _)] := h.sub (.cons rfl (.cons rfl .nil))
    refine (norm_then ?_)
    refine wp_seq ?_
    refine wp_seq ?_
    refine wR ?_
    refine st_fieldAddr h rfl fa100_1 rfl ?_; clear h a; intro a h
    refine st_loadB h rfl hb1 rfl na5 rfl ?_; clear h a; intro a h
    refine st_ne h rfl rfl rfl ?_; clear h a; intro a h
    replace h : Ag a 41 [(1, _), (3, _), (32, _)] := h.sub (.cons rfl (.cons rfl (.cons rfl .nil)))
    refine wnt ?_
    first | refine cond_dec h rfl (fun c3 => ?_) (fun c3 => ?_) | refine cond_ndec h rfl (fun c3 => ?_) (fun c3 => ?_) | refine cond_split h rfl (fun c3 => ?_) (fun c3 => ?_)
    ·refine id ?_
     refine wR ?_
     refine st_move h rfl rfl ?_; clear h a; intro a h
     refine st_fieldAddr h rfl fa100_1 rfl ?_; clear h a; intro a h
     refine st_loadB h rfl hb1 rfl na5 rfl ?_; clear h a; intro a h
     refine st_conv h rfl (by rw [Tryd.underlying5]; rfl) Tryd.underlying3 (by first | exact IntWalk.i64_in _ (by omega) | rfl) rfl ?_; clear h a; intro a h
     refine st_call h (evs_cons rfl evs_nil) co102 (digit_ok _ _ (by omega) (by omega)) rfl ?_; clear h a; rintro _ _ ⟨rfl, rfl⟩ a h
     refine st_bslice ([dg s.y]) h (evs_cons rfl evs_nil) rfl rfl rfl el76 (Nat.le_of_ble_eq_true rfl) rfl ?_; clear h a; intro g_38 w6 hg ho38 hq hz a h
     have hn_1_38 : g_1 < g_38 := by have := hb1.lt; omega
     have hl38 : w0.heap.size ≤ g_38 := by have := hf.size; omega
     replace hf := hf.next hq
     replace hy := hy.ext hq
     replace hb1 := hb1.ext hq
     replace ho13 := ho13.ext hq
     replace ho28 := ho28.ext hq
     clear hq hz hg
     refine st_call h (evs_cons rfl (evs_cons rfl evs_nil)) co101 (put_ok _ _ _ _ ho38.sl (by simp)) rfl ?_; clear h a; rintro _ _ ⟨rfl, rfl⟩ a h
     refine st_assign h rfl rfl ?_; clear h a; intro a h
     replace h : Ag a 41 [(3, _)] := h.sub (.cons rfl .nil)
     refine wnt ?_
     refine wp_seq ?_
     refine wR ?_
     refine st_move h rfl rfl ?_; clear h a; intro a h
     refine st_assign h rfl rfl ?_; clear h a; intro a h
     replace h : Ag a 41 [(2, _)] := h.sub (.cons rfl .nil)
     refine wnt ?_
     refine wp_ret ?_
     refine ret1 h Tryd.results90 rfl ?_
     exact ⟨_, rfl, by simp_all [textS], hf⟩
    ·refine id ?_
     refine wsn ?_
     refine wp_seq ?_
     refine wR ?_
     refine st_move h rfl rfl ?_; clear h a; intro a h
     refine st_assign h rfl rfl ?_; clear h a; intro a h
     replace h : Ag a 41 [(2, _)] := h.sub (.cons rfl .nil)
     refine wnt ?_
     refine wp_ret ?_
     refine ret1 h Tryd.results90 rfl ?_
     exact ⟨_, rfl, by simp_all [textS], hf⟩
   ·refine id ?_
    refine wsn ?_
    refine region_held (fun wb w' => Fr [] wb w') hmix ?_; intro w7 hq
    replace hf := hf.next hq
    replace hy := hy.ext hq
    replace hb1 := hb1.ext hq
    replace ho13 := ho13.ext hq
    clear hq; have hC : Fr [] w7 w7 := Fr.refl _ _
    have hy_b := hy
    have hb1_b := hb1
    have ho13_b := ho13
    refine hd_move 0 (by kernel_rfl) (by kernel_rfl) (by kernel_rfl) hC h wn rfl rfl rfl ?_; clear h a; intro a h
    refine hd_fieldAddr 1 (by kernel_rfl) (by kernel_rfl) (by kernel_rfl) hC h wn rfl fa100_2 rfl rfl ?_; clear h a; intro a h
    refine hd_loadB 2 (by kernel_rfl) (by kernel_rfl) (by kernel_rfl) hC h wn rfl (fun _ hw => hb1_b.ext hw) rfl na3 rfl rfl ?_; clear h a; intro a h
    refine hd_fieldAddr 4 (by kernel_rfl) (by kernel_rfl) (by kernel_rfl) hC h wn rfl fa100_3 rfl rfl ?_; clear h a; intro a h
    refine hd_loadB 5 (by kernel_rfl) (by kernel_rfl) (by kernel_rfl) hC h wn rfl (fun _ hw => hb1_b.ext hw) rfl na3 rfl rfl ?_; clear h a; intro a h
    refine hd_move 7 (by kernel_rfl) (by kernel_rfl) (by kernel_rfl) hC h wn rfl rfl rfl ?_; clear h a; intro a h
    refine hd_one 3 (by kernel_rfl) rfl ?_
    refine st_call h (evs_cons rfl evs_nil) co102 (digit_ok _ _ (by omega) (by omega)) rfl ?_; clear h a; rintro _ _ ⟨rfl, rfl⟩ a h
    refine hd_next hC ?_
    refine hd_one 6 (by kernel_rfl) rfl ?_
    refine st_call h (evs_cons rfl evs_nil) co102 (digit_ok _ _ (by omega) (by omega)) rfl ?_; clear h a; rintro _ _ ⟨rfl, rfl⟩ a h
    refine hd_next hC ?_
    refine hd_one 8 (by kernel_rfl) rfl ?_
    refine st_bslice ([dg s.a, dg s.b, if s.f then 70 else 66]) h (evs_cons rfl (evs_cons rfl (evs_cons rfl evs_nil))) rfl (by rw [c2]; rfl) rfl el76 (Nat.le_of_ble_eq_true rfl) rfl ?_; clear h a; intro g_28 w8 hg ho28 hq hz a h
    have hn_1_28 : g_1 < g_28 := by have := hb1.lt; omega
    have hl28 : w0.heap.size ≤ g_28 := by have := hf.size; omega
    replace hf := hf.next hq
    replace hy := hy.ext hq
    replace hb1 := hb1.ext hq
    replace ho13 := ho13.ext hq
    replace hC := hC.next hq
    clear hq hz hg
    refine hd_next hC ?_
    refine hd_one 9 (by kernel_rfl) rfl ?_
    refine st_call h (evs_cons rfl (evs_cons rfl evs_nil)) co101 (put_ok _ _ _ _ ho28.sl (by simp)) rfl ?_; clear h a; rintro _ _ ⟨rfl, rfl⟩ a h
    refine hd_next hC ?_
    refine hd_one 10 (by kernel_rfl) rfl ?_
    refine st_assign h rfl rfl ?_; clear h a; intro a h
    refine hd_next hC ?_
    refine hd_end (by kernel_rfl) ?_
    clear hC hy_b hb1_b ho13_b
    replace h : Ag a 41 [(1, _), (3, _)] := h.sub (.cons rfl (.cons rfl .nil))
    refine (norm_then ?_)
    refine wp_seq ?_
    refine wp_seq ?_
    refine wR ?_
    refine st_fieldAddr h rfl fa100_1 rfl ?_; clear h a; intro a h
    refine st_loadB h rfl hb1 rfl na5 rfl ?_; clear h a; intro a h
    refine st_ne h rfl rfl rfl ?_; clear h a; intro a h
    replace h : Ag a 41 [(1, _), (3, _), (32, _)] := h.sub (.cons rfl (.cons rfl (.cons rfl .nil)))
    refine wnt ?_
    first | refine cond_dec h rfl (fun c3 => ?_) (fun c3 => ?_) | refine cond_ndec h rfl (fun c3 => ?_) (fun c3 => ?_) | refine cond_split h rfl (fun c3 => ?_) (fun c3 => ?_)
    ·refine id ?_
     refine wR ?_
     refine st_move h rfl rfl ?_; clear h a; intro a h
     refine st_fieldAddr h rfl fa100_1 rfl ?_; clear h a; intro a h
     refine st_loadB h rfl hb1 rfl na5 rfl ?_; clear h a; intro a h
     refine st_conv h rfl (by rw [Tryd.underlying5]; rfl) Tryd.underlying3 (by first | exact IntWalk.i64_in _ (by omega) | rfl) rfl ?_; clear h a; intro a h
     refine st_call h (evs_cons rfl evs_nil) co102 (digit_ok _ _ (by omega) (by omega)) rfl ?_; clear h a; rintro _ _ ⟨rfl, rfl⟩ a h
     refine st_bslice ([dg s.y]) h (evs_cons rfl evs_nil) rfl rfl rfl el76 (Nat.le_of_ble_eq_true rfl) rfl ?_; clear h a; intro g_38 w9 hg ho38 hq hz a h
     have hn_1_38 : g_1 < g_38 := by have := hb1.lt; omega
     have hl38 : w0.heap.size ≤ g_38 := by have := hf.size; omega
     replace hf := hf.next hq
     replace hy := hy.ext hq
     replace hb1 := hb1.ext hq
     replace ho13 := ho13.ext hq
     replace ho28 := ho28.ext hq
     clear hq hz hg
     refine st_call h (evs_cons rfl (evs_cons rfl evs_nil)) co101 (put_ok _ _ _ _ ho38.sl (by simp)) rfl ?_; clear h a; rintro _ _ ⟨rfl, rfl⟩ a h
     refine st_assign h rfl rfl ?_; clear h a; intro a h
     replace h : Ag a 41 [(3, _)] := h.sub (.cons rfl .nil)
     refine wnt ?_
     refine wp_seq ?_
     refine wR ?_
     refine st_move h rfl rfl ?_; clear h a; intro a h
     refine st_assign h rfl rfl ?_; clear h a; intro a h
     replace h : Ag a 41 [(2, _)] := h.sub (.cons rfl .nil)
     refine wnt ?_
     refine wp_ret ?_
     refine ret1 h Tryd.results90 rfl ?_
     exact ⟨_, rfl, by simp_all [textS], hf⟩
    ·refine id ?_
     refine wsn ?_
     refine wp_seq ?_
     refine wR ?_
     refine st_move h rfl rfl ?_; clear h a; intro a h
     refine st_assign h rfl rfl ?_; clear h a; intro a h
     replace h : Ag a 41 [(2, _)] := h.sub (.cons rfl .nil)
     refine wnt ?_
     refine wp_ret ?_
     refine ret1 h Tryd.results90 rfl ?_
     exact ⟨_, rfl, by simp_all [textS], hf⟩
  ·refine id ?_
   refine wsn ?_
   refine wp_seq ?_
   refine wp_seq ?_
   refine wR ?_
   refine st_fieldAddr h rfl fa100_1 rfl ?_; clear h a; intro a h
   refine st_loadB h rfl hb1 rfl na5 rfl ?_; clear h a; intro a h
   refine st_ne h rfl rfl rfl ?_; clear h a; intro a h
   replace h : Ag a 41 [(1, _), (3, _), (32, _)] := h.sub (.cons rfl (.cons rfl (.cons rfl .nil)))
   refine wnt ?_
   first | refine cond_dec h rfl (fun c3 => ?_) (fun c3 => ?_) | refine cond_ndec h rfl (fun c3 => ?_) (fun c3 => ?_) | refine cond_split h rfl (fun c3 => ?_) (fun c3 => ?_)
   ·refine id ?_
    refine wR ?_
    refine st_move h rfl rfl ?_; clear h a; intro a h
    refine st_fieldAddr h rfl fa100_1 rfl ?_; clear h a; intro a h
    refine st_loadB h rfl hb1 rfl na5 rfl ?_; clear h a; intro a h
    refine st_conv h rfl (by rw [Tryd.underlying5]; rfl) Tryd.underlying3 (by first | exact IntWalk.i64_in _ (by omega) | rfl) rfl ?_; clear h a; intro a h
    refine st_call h (evs_cons rfl evs_nil) co102 (digit_ok _ _ (by omega) (by omega)) rfl ?_; clear h a; rintro _ _ ⟨rfl, rfl⟩ a h
    refine st_bslice ([dg s.y]) h (evs_cons rfl evs_nil) rfl rfl rfl el76 (Nat.le_of_ble_eq_true rfl) rfl ?_; clear h a; intro g_38 w10 hg ho38 hq hz a h
    have hn_1_38 : g_1 < g_38 := by have := hb1.lt; omega
    have hl38 : w0.heap.size ≤ g_38 := by have := hf.size; omega
    replace hf := hf.next hq
    replace hy := hy.ext hq
    replace hb1 := hb1.ext hq
    replace ho13 := ho13.ext hq
    clear hq hz hg
    refine st_call h (evs_cons rfl (evs_cons rfl evs_nil)) co101 (put_ok _ _ _ _ ho38.sl (by simp)) rfl ?_; clear h a; rintro _ _ ⟨rfl, rfl⟩ a h
    refine st_assign h rfl rfl ?_; clear h a; intro a h
    replace h : Ag a 41 [(3, _)] := h.sub (.cons rfl .nil)
    refine wnt ?_
    refine wp_seq ?_
    refine wR ?_
    refine st_move h rfl rfl ?_; clear h a; intro a h
    refine st_assign h rfl rfl ?_; clear h a; intro a h
    replace h : Ag a 41 [(2, _)] := h.sub (.cons rfl .nil)
    refine wnt ?_
    refine wp_ret ?_
    refine ret1 h Tryd.results90 rfl ?_
    exact ⟨_, rfl, by simp_all [textS], hf⟩
   ·refine id ?_
    refine wsn ?_
    refine wp_seq ?_
    refine wR ?_
    refine st_move h rfl rfl ?_; clear h a; intro a h
    refine st_assign h rfl rfl ?_; clear h a; intro a h
    replace h : Ag a 41 [(2, _)] := h.sub (.cons rfl .nil)
    refine wnt ?_
    refine wp_ret ?_
    refine ret1 h Tryd.results90 rfl ?_
    exact ⟨_, rfl, by simp_all [textS], hf⟩
end Go.Proofs.YthehggmdcmpjeaaDoor
namespace Go.Lw
open Go.ChangeShapes Go.WideShapes Go.ChangeAt Go.RowKit

section
variable {H : Type} {enc : TypeId × Value → H} {P : Program}
theorem trodAll_stays (hl : laidOutB P = true) {W W' : World} (hb : Below W.heap.size W W') {sp : Nat → Bool} : ∀ {ts : List TypeId} {vs : List Value} {ds : List (DataW H)} {ps : List MemPlace},
    (∀ t ∈ ts, P.readableRec t = true ∧ t < P.types.size) → (∀ p ∈ ps, sp p.block = true) → (∀ p ∈ ps, p.block < W.heap.size) → DataW.TrodAll enc P W 0 (fun _ => true) true ts vs ds ps → DataW.TrodAll enc P W' 0 sp true ts vs ds ps
  | [], vs, ds, ps, _, _, _, h => by
    obtain ⟨rfl, rfl, rfl⟩ := trodAll_nil h
    exact trodAll_mk0
  | t :: ts, vs, ds, ps, ht, hs, hlt, h => by
    obtain ⟨v, vs', d, ds', p, q, rfl, rfl, rfl, h1, h2⟩ := trodAll_cons h
    refine trodAll_cons_mk (WideElems.Trod_stays hl (ht t (by simp)).1 (ht t (by simp)).2 h1 (fun x hx => hb.same (hlt x (by simp [hx]))) (fun x hx => hs x (by simp [hx]))) ?_
    exact trodAll_stays hl hb (fun t' h' => ht t' (by simp [h'])) (fun x hx => hs x (by simp [hx])) (fun x hx => hlt x (by simp [hx])) h2

/-- A law that returned true and turned nothing old. -/
theorem post_true {f : Func} {s : ChangeSpec} {apart fresh handsOn again : Bool} {W W' : World} {args : Array Value} {ds : List (DataW H)} {before : List MemPlace} {tb : TypeId}
    (hW : DataW.Whole enc P f.params.toList s.vars apart W args.toList ds [] before) (hv : s.vars = []) (hfn : s.fn H ds = { results := [.lit (.bool true)], args := ds }) (hf : Fr [] W W')
    (hl : laidOutB P = true) (hr : ∀ t ∈ f.params.toList, P.readableRec t = true ∧ t < P.types.size) (hrt : f.resultTypes = #[tb]) (hbt : P.underlying tb = some .bool) : s.post enc P f apart fresh handsOn again W args (.bool true) W' := by
  have hb := hf.below
  have hlt := hW.lt
  have hW' := hW
  obtain ⟨pa, pv, hA, hV, rfl, hz, hn⟩ := hW
  rw [hv] at hV
  obtain ⟨-, rfl⟩ := trodVars_none hV
  rw [List.append_nil] at hW' hlt hz hn
  have hargs : ∀ sp : Nat → Bool, (∀ p ∈ pa, sp p.block = true) → DataW.TrodAll enc P W' 0 sp true f.params.toList args.toList (s.fn H (ds ++ [])).args pa := by
    intro sp hsp
    rw [List.append_nil, hfn]
    exact trodAll_stays hl hb hr hsp hlt hA
  have hres : ∀ (b : Nat) (sp : Nat → Bool) (hd : Bool), DataW.TrodAll enc P W' b sp hd f.resultTypes.toList ((Value.bool true).resultList f.resultTypes.size) (s.fn H (ds ++ [])).results [] := by
    intro b sp hd
    rw [List.append_nil, hfn, hrt]
    exact trodAll_cons_mk (shut_bool hbt true) trodAll_mk0
  have hvars : ∀ sp : Nat → Bool, DataW.TrodVars enc P W' sp s.vars (s.fn H (ds ++ [])).vars [] := by
    intro sp
    rw [hv, List.append_nil, hfn]
    rfl
  have hold : ∀ p ∈ pa, (fun b => decide (b < W.heap.size)) p.block = true := fun p hp => by simpa using hlt p hp
  refine ⟨ds, [], pa, [], pa, [], hW', hres _ _ _, hargs _ hold, hvars _, World.keptBut_mono (fun p hp => ⟨hp, by simp [hp]⟩) (hb.frame _), fun _ => ⟨ok_one hrt rfl (okWide_bool_mk hbt true), _, _, ([] ++ pa) ++ [], ⟨[] ++ pa, [], trodAll_append (hargs _ (fun _ _ => rfl)) (hres _ _ _), hvars _, rfl, ?_, ?_⟩, ?_⟩⟩
  · intro b off hp
    have hp' : MemPlace.cell b off ∈ pa := by simpa using hp
    rw [hb.frozen (hlt _ hp')]
    exact hz b off hp'
  · intro ha
    simpa using hn ha
  · intro p hp _
    simpa using hp
/-- The walk's contract, as the row asks it. -/
theorem calls_true {f : FuncId} {fn : Func} {s : ChangeSpec} {apart fresh handsOn again : Bool} {W : World} {args : Array Value} {ds : List (DataW H)} {before : List MemPlace} {tb : TypeId}
    (hw : Rets P f args W fun v w' => v = .bool true ∧ Fr [] W w')
    (hW : DataW.Whole enc P fn.params.toList s.vars apart W args.toList ds [] before) (hv : s.vars = []) (hfn : s.fn H ds = { results := [.lit (.bool true)], args := ds })
    (hl : laidOutB P = true) (hr : ∀ t ∈ fn.params.toList, P.readableRec t = true ∧ t < P.types.size) (hrt : fn.resultTypes = #[tb]) (hbt : P.underlying tb = some .bool) :
    Calls P f args W fun e W' => ∃ v, e = .returned v ∧ s.post enc P fn apart fresh handsOn again W args v W' :=
  Calls.mono hw fun e w' ⟨v, he, hv', hf⟩ => ⟨v, he, by subst hv'; exact post_true hW hv hfn hf hl hr hrt hbt⟩
end

def litV {H : Type} : DataW H → Value
  | .lit (.int k z) => .int k z
  | .lit (.string s) => .string ⟨s.toArray⟩
  | _ => .bool false
def itemV {H : Type} : DataW H → List Value
  | .agg es => es.map litV
  | d => [litV d]
def tabV {H : Type} : DataW H → Array Value
  | .agg ds => (ds.flatMap itemV).toArray
  | _ => #[]
def layW (w : World) (g : Nat) (cs : Array Value) : World :=
  { w with heap := w.heap.modify g fun
      | .cells _ t fr => .cells cs t fr
      | o => o }
noncomputable def laidW (P : Program) (os : Os) (laid : List (String × DataW Unit)) : World :=
  laid.foldl (fun w p => match P.globalNamed p.1 with
    | some g => layW w g (tabV p.2)
    | none => w) (World.holding P os ⟨#[], #[], []⟩)
end Go.Lw
namespace Go.Proofs.YthehggmdcmpjeaaDoor
open Go.ChangeShapes Go.WideShapes Go.ChangeAt Go.RowKit Go.Lw

open Go.G14
theorem own : ownKnob Tryd.prog.godebug = none := by kernel_rfl
theorem laidOut : laidOutB Tryd.prog = true := by kernel_rfl
theorem gSym : Tryd.prog.globalNamed "gansey/stitches.symbols" = some 1 := by kernel_rfl
theorem gSymT : (Tryd.prog.globals[1]?).map (·.type) = some 168 := by kernel_rfl
theorem cellsA : Tryd.prog.cellsOf 168 = 8 := by kernel_rfl
theorem cells1 : Tryd.prog.cellsOf 5 = 1 := by kernel_rfl
/-- What the rows list. -/
def laidL : List (String × DataW Unit) := [("gansey/stitches.symbols", Rows.laid_gansey_stitches_symbols), ("math/bits.deBruijn32tab", Rows.laid_math_bits_deBruijn32tab), ("math/bits.deBruijn64tab", Rows.laid_math_bits_deBruijn64tab), ("internal/strconv.uint64pow10", Rows.laid_internal_strconv_uint64pow10)]
theorem sym_of {W : World} (h : laidMetH Tryd.prog laidL W) : Sym W := by
  have ht : Lib.TabIs Tryd.prog W "gansey/stitches.symbols" .u8 [107, 112, 111, 47, 118, 116, 115, 99] :=
    Lib.tabIs_of_head (rest := laidL.drop 1) gSym gSymT Tryd.underlying168 Tryd.underlying5 cells1 cellsA h
  intro j u hu
  have hj : j < 8 := by
    have := (List.getElem?_eq_some_iff.1 hu).1
    rwa [show (symbols.flatMap Enc.b.enc).length = 8 from rfl] at this
  have hc := ht.cell gSym j hj
  rw [lit_add, Nat.zero_add, hc]
  match j, hj, hu with
  | 0, _, hu => exact hu
  | 1, _, hu => exact hu
  | 2, _, hu => exact hu
  | 3, _, hu => exact hu
  | 4, _, hu => exact hu
  | 5, _, hu => exact hu
  | 6, _, hu => exact hu
  | 7, _, hu => exact hu
noncomputable def witW (os : Os) : World := laidW Tryd.prog os laidL

end Go.Proofs.YthehggmdcmpjeaaDoor
namespace Go.Lw
open Go.ChangeShapes Go.WideShapes Go.ChangeAt Go.RowKit

/-- What is read at a type lies in cells as E says, and R is known of it. -/
def Opens (P : Program) (t : TypeId) {α : Type} (E : Enc α) (R : World → α → Prop) : Prop :=
  ∀ (H : Type) (enc : TypeId × Value → H) (w : World) (base : Nat) (sp : Nat → Bool) (held : Bool) (fuel : Nat) (cs : List Value) (x : DataW H × List MemPlace),
    DataW.trod enc P w base sp held fuel t cs = some x → ∃ y, cs = E.enc y ∧ R w y
def Enc.int (k : IntKind) : Enc Int := ⟨fun n => [.int k n], 1, fun _ => rfl, fun _ u h => by simp at h; subst h; rfl, by decide⟩
def Enc.bool : Enc Bool := ⟨fun n => [.bool n], 1, fun _ => rfl, fun _ u h => by simp at h; subst h; rfl, by decide⟩
def SlR {α : Type} (E : Enc α) (R : World → α → Prop) (w : World) (v : SV) : Prop := ∃ ys, Sl E w (slv v) ys ∧ ∀ y ∈ ys, R w y
section
variable {P : Program} {t e : TypeId}
theorem opens_int {k : IntKind} (hu : P.underlying t = some (.int k)) : Opens P t (Enc.int k) (fun _ n => k.min ≤ n ∧ n ≤ k.max) := by
  intro H enc w base sp held fuel cs x h
  obtain ⟨n, rfl, _, hw⟩ := DataW.trod_int hu h
  refine ⟨n, rfl, ?_⟩
  simpa [Lit.wf] using hw
theorem opens_u8 (hu : P.underlying t = some (.int .u8)) : Opens P t Enc.u8 (fun _ n => 0 ≤ n ∧ n ≤ 255) := by
  intro H enc w base sp held fuel cs x h
  obtain ⟨n, rfl, r⟩ := opens_int hu H enc w base sp held fuel cs x h
  exact ⟨n, rfl, r⟩
theorem opens_b (hu : P.underlying t = some (.int .u8)) : Opens P t Enc.b (fun _ _ => True) := by
  intro H enc w base sp held fuel cs x h
  obtain ⟨n, rfl, r⟩ := opens_u8 hu H enc w base sp held fuel cs x h
  refine ⟨UInt8.ofNat n.toNat, ?_, trivial⟩
  show [Value.int .u8 n] = [Value.int .u8 (((UInt8.ofNat n.toNat).toNat : Nat) : Int)]
  rw [UInt8.toNat_ofNat', Nat.mod_eq_of_lt (by omega)]
  congr 2
  omega
theorem opens_slice {α : Type} {E : Enc α} {R : World → α → Prop} (hu : P.underlying t = some (.slice e)) (hc : P.cellsOf e = E.sz) (ho : Opens P e E R) : Opens P t Enc.sl (SlR E R) := by
  intro H enc w base sp held fuel cs x h
  rcases DataW.trod_slice hu h with ⟨rfl, _⟩ | ⟨ad, len, cap, elems, rest, n, _, rfl, _, hb, hl, hm, hlen, hel, _⟩
  · exact ⟨(none, 0, 0), rfl, [], Sl.nil w, by simp⟩
  have each : ∀ i, i < len → ∃ y, Cells w (ad.add (i * E.sz)) (E.enc y) ∧ R w y := by
    intro i hi
    have h1 := hel i hi
    rw [List.getElem?_eq_getElem (by omega), Option.bind_eq_some_iff, hc] at h1
    obtain ⟨cs', h2, h3⟩ := h1
    obtain ⟨y, rfl, hR⟩ := ho H enc w base sp held n cs' _ h3
    obtain ⟨_, h5, h6⟩ := World.cells?_some h2
    refine ⟨y, fun j u hj => ?_, hR⟩
    have hjl : j < E.sz := by rw [← E.len y]; exact (List.getElem?_eq_some_iff.1 hj).1
    rw [h6 j hjl, hj]
  have all : ∀ m, m ≤ len → ∃ ys : List α, ys.length = m ∧ ∀ i y, ys[i]? = some y → Cells w (ad.add (i * E.sz)) (E.enc y) ∧ R w y := by
    intro m
    induction m with
    | zero => exact fun _ => ⟨[], rfl, fun i y h => by simp at h⟩
    | succ m ih =>
      intro hm
      obtain ⟨ys, h1, h2⟩ := ih (by omega)
      obtain ⟨y, h3⟩ := each m (by omega)
      refine ⟨ys ++ [y], by simp [h1], fun i z hz => ?_⟩
      rcases Nat.lt_or_ge i m with hi | hi
      · rw [List.getElem?_append_left (by omega)] at hz
        exact h2 i z hz
      · have hi' : i = m := by
          have := (List.getElem?_eq_some_iff.1 hz).1
          simp [h1] at this; omega
        subst hi'
        rw [List.getElem?_append_right (by omega), h1, Nat.sub_self] at hz
        simp at hz; subst hz
        exact h3
  obtain ⟨ys, h1, h2⟩ := all len (Nat.le_refl _)
  refine ⟨(some ad, len, cap), rfl, ys, ⟨some ad, cap, by simp [slv, h1], by omega, hm, fun i y hy => ⟨ad, rfl, (h2 i y hy).1⟩⟩, fun y hy => ?_⟩
  obtain ⟨i, hi⟩ := List.getElem?_of_mem hy
  exact (h2 i y hi).2
/-- A field of a struct. -/
theorem opens_field {H : Type} {enc : TypeId × Value → H} {w : World} {base : Nat} {sp : Nat → Bool} {held : Bool} {n : Nat} {cs : List Value} {xs : List (DataW H × List MemPlace)} {f : TypeId} {α : Type} {E : Enc α} {R : World → α → Prop} {i m : Nat}
    (h : DataW.trod enc P w base sp held n f cs = xs[i]?) (hl : xs.length = m) (hi : i < m) (ho : Opens P f E R) : ∃ y, cs = E.enc y ∧ R w y := by
  rw [List.getElem?_eq_getElem (by omega)] at h
  exact ho H enc w base sp held n cs _ h
theorem arg_struct {H : Type} {enc : TypeId × Value → H} {w : World} {base b0 : Nat} {r : Reach} {sp : Nat → Bool} {held : Bool} {v : Value} {d : DataW H} {ps : List MemPlace} {α : Type} {E : Enc α} {R : World → α → Prop} {fs : Array Field}
    (hu : P.underlying t = some (.struct fs)) (ho : Opens P t E R) (hv : Value.okWide P w r b0 t v) (hd : DataW.Trod enc P w base sp held t v d ps) : ∃ y, v = .agg (E.enc y).toArray ∧ R w y := by
  simp only [Value.okWide, hu] at hv
  obtain ⟨cs, rfl, _⟩ := hv
  obtain ⟨fuel, hf⟩ := hd
  obtain ⟨y, h1, h2⟩ := ho H enc w base sp held fuel _ _ hf
  refine ⟨y, ?_, h2⟩
  have h1' : cs.toList = E.enc y := h1
  rw [← h1']
end
end Go.Lw
namespace Go.G14
open Go.Lw

abbrev RowL := List (List Stitch)
structure Mot where
  L : RowL
  T : RowL
  R : RowL
def largeB (c : RowL) : Bool := decide (31 < c.length) || c.any fun r => decide (16 < r.length)
def goodB (c : RowL) : Bool := c.all fun r => r.all okB
def motE (m : Mot) : Int :=
  if largeB m.L = true ∨ largeB m.T = true ∨ largeB m.R = true then 3
  else if (m.L.length ≠ 0 ∧ m.L.length ≠ m.T.length) ∨ (m.R.length ≠ 0 ∧ m.R.length ≠ m.T.length) then 5
  else if m.T.length = 0 ∨ goodB m.L = false ∨ goodB m.T = false ∨ goodB m.R = false then 1
  else if m.T.all (fun r => decide (r.length ≠ 0)) = true then 0 else 1
def sideR (m : Mot) (n i : Nat) : List Stitch := m.L.getD i [] ++ ((List.replicate n (m.T.getD i [])).flatten ++ m.R.getD i [])
def sideM (m : Mot) (n : Nat) : RowL := (List.range m.T.length).map (sideR m n)
def stackM (m : Mot) (n up : Nat) : RowL := (List.replicate up (sideM m n)).flatten
def stackE (m : Mot) (n up : Int) : Int :=
  if motE m ≠ 0 then motE m else if n < 1 ∨ up < 1 then 1 else if largeB (stackM m n.toNat up.toNat) = true then 3 else chartE (stackM m n.toNat up.toNat)
def stackS (m : Mot) (n up : Int) : RowL := if stackE m n up = 0 then stackM m n.toNat up.toNat else []

/-! The mirror image. -/
def mirS (s : Stitch) : Stitch := if s.k = 8 then ⟨s.k, s.y, s.b, s.a, !s.f⟩ else s
def mirR (r : List Stitch) : List Stitch := (r.map mirS).reverse
def mirC (c : RowL) : RowL := c.map mirR
def mirM (m : Mot) : Mot := ⟨mirC m.R, mirC m.T, mirC m.L⟩
theorem mirS_k (s : Stitch) : (mirS s).k = s.k := by unfold mirS; split <;> rfl
theorem mirS_y (s : Stitch) : (mirS s).y = s.y := by unfold mirS; split <;> rfl
theorem mirS_mir (s : Stitch) : mirS (mirS s) = s := by
  unfold mirS
  by_cases h : s.k = 8
  · rw [if_pos h, if_pos h]; simp
  · rw [if_neg h, if_neg h]
theorem mirR_mir (r : List Stitch) : mirR (mirR r) = r := by
  unfold mirR
  rw [List.map_reverse, List.reverse_reverse, List.map_map]
  conv => rhs; rw [← List.map_id r]
  exact List.map_congr_left fun s _ => mirS_mir s
theorem mirC_mir (c : RowL) : mirC (mirC c) = c := by
  unfold mirC
  rw [List.map_map]
  conv => rhs; rw [← List.map_id c]
  exact List.map_congr_left fun s _ => mirR_mir s
theorem mirM_mir (m : Mot) : mirM (mirM m) = m := by simp [mirM, mirC_mir]
theorem mirR_len (r : List Stitch) : (mirR r).length = r.length := by simp [mirR]
theorem mirC_len (c : RowL) : (mirC c).length = c.length := by simp [mirC]
theorem mir_check (s : Stitch) : checkS (mirS s) = checkS s := by
  unfold mirS
  by_cases h : s.k = 8
  · rw [if_pos h]
    unfold checkS
    simp only
    by_cases c : s.k < 1 ∨ 8 < s.k ∨ s.y < 1 ∨ 6 < s.y
    · rw [if_pos c, if_pos c]
    rw [if_neg c, if_neg c, if_neg (show ¬ s.k ≠ 8 by omega), if_neg (show ¬ s.k ≠ 8 by omega)]
    by_cases d : s.a < 1 ∨ 4 < s.a ∨ s.b < 1 ∨ 4 - s.a < s.b
    · rw [if_pos d, if_pos (by omega)]
    · rw [if_neg d, if_neg (by omega)]
  · rw [if_neg h]
theorem mir_okB (s : Stitch) : okB (mirS s) = okB s := by
  rw [Bool.eq_iff_iff, okB_iff, okB_iff, mir_check]
theorem mir_needs (s : Stitch) : needsS (mirS s) = needsS s := by
  unfold needsS
  rw [mir_check, mirS_k]
  by_cases h : s.k = 8
  · have e : (mirS s).a + (mirS s).b = s.a + s.b := by unfold mirS; rw [if_pos h]; simp only; omega
    rw [e]
  · simp [h]
theorem mir_makes (s : Stitch) : makesS (mirS s) = makesS s := by
  unfold makesS
  rw [mir_check, mirS_k]
  by_cases h : s.k = 8
  · have e : (mirS s).a + (mirS s).b = s.a + s.b := by unfold mirS; rw [if_pos h]; simp only; omega
    rw [e]
  · simp [h]
theorem sum_rev (l : List Int) : l.reverse.sum = l.sum := by
  induction l with
  | nil => rfl
  | cons x l ih => rw [List.reverse_cons, List.sum_append, ih]; simp; omega
theorem mirR_map {f : Stitch → Int} (hf : ∀ s, f (mirS s) = f s) (r : List Stitch) : ((mirR r).map f).sum = (r.map f).sum := by
  unfold mirR
  rw [List.map_reverse, sum_rev, List.map_map]
  exact congrArg List.sum (List.map_congr_left fun s _ => hf s)
theorem mir_needsR (r : List Stitch) : needsR (mirR r) = needsR r := mirR_map mir_needs r
theorem mir_makesR (r : List Stitch) : makesR (mirR r) = makesR r := mirR_map mir_makes r
theorem mir_all (r : List Stitch) : (mirR r).all okB = r.all okB := by
  unfold mirR
  rw [List.all_reverse, List.all_map]
  exact congrArg (List.all r) (funext fun s => mir_okB s)
theorem mir_rowE (r : List Stitch) : rowE (mirR r) = rowE r := by
  unfold rowE; rw [mirR_len, mir_all, mir_needsR, mir_makesR]
theorem mir_firstE : ∀ c : RowL, firstE (mirC c) = firstE c
  | [] => rfl
  | r :: c => by
    show firstE (mirR r :: mirC c) = _
    rw [firstE, firstE, mir_rowE, mir_firstE c]
theorem mirC_getD (c : RowL) (i : Nat) : (mirC c).getD i [] = mirR (c.getD i []) := by
  unfold mirC
  rw [List.getD, List.getD, List.getElem?_map]
  cases c[i]? <;> rfl
theorem mir_adjB (c : RowL) : adjB (mirC c) = adjB c := by
  unfold adjB
  rw [mirC_len]
  congr 1
  funext i
  rw [mirC_getD, mirC_getD, mir_needsR, mir_makesR]
theorem mir_rowsE (c : RowL) : rowsE (mirC c) = rowsE c := by
  unfold rowsE; rw [mirC_len, mir_firstE, mir_adjB]
/-! What a row does with its loops, from the other side. -/
theorem all_rev {l : List Int} (h : l.all few = true) : l.reverse.all few = true := by rwa [List.all_reverse]
theorem mir_loads {s : Stitch} {l : List Int} (h : checkS s = 0) (hn : (l.length : Int) = needsS s) (hf : l.all few = true) : loadsS (mirS s) l.reverse = ((loadsS s l).1.reverse, (loadsS s l).2) := by
  have h' : checkS (mirS s) = 0 := by rw [mir_check]; exact h
  have hn' : (l.reverse.length : Int) = needsS (mirS s) := by rw [mir_needs, List.length_reverse]; exact hn
  have hf' := all_rev hf
  have k' := mirS_k s
  by_cases h4 : s.k = 4 ∨ s.k = 5
  · have e2 := needs_2 h h4
    obtain ⟨x, y, rfl⟩ : ∃ x y, l = [x, y] := by
      match l, hn with
      | [], hn => simp at hn; omega
      | [x], hn => simp at hn; omega
      | [x, y], _ => exact ⟨x, y, rfl⟩
      | _ :: _ :: _ :: _, hn => simp at hn; omega
    by_cases c : 4 < x + y
    · rw [loads_2f h hn hf h4 rfl rfl c, loads_2f h' hn' hf' (by omega) (x := y) (y := x) rfl rfl (by omega)]; rfl
    · rw [loads_2 h hn hf h4 rfl rfl c, loads_2 h' hn' hf' (by omega) (x := y) (y := x) rfl rfl (by omega)]; rfl
  · by_cases h6 : s.k = 6
    · obtain ⟨x, rfl⟩ : ∃ x, l = [x] := by
        have e := needs_1 h (by omega) (by omega) h4
        match l, hn with
        | [], hn => simp at hn; omega
        | [x], _ => exact ⟨x, rfl⟩
        | _ :: _ :: _, hn => simp at hn; omega
      by_cases c : x = 3
      · rw [loads_6f h hn hf h6 rfl c, loads_6f h' hn' hf' (by omega) (x := x) rfl c]; rfl
      · rw [loads_6 h hn hf h6 rfl c, loads_6 h' hn' hf' (by omega) (x := x) rfl c]; rfl
    · by_cases h7 : s.k = 7
      · obtain ⟨x, rfl⟩ : ∃ x, l = [x] := by
          have e := needs_1 h (by omega) (by omega) h4
          match l, hn with
          | [], hn => simp at hn; omega
          | [x], _ => exact ⟨x, rfl⟩
          | _ :: _ :: _, hn => simp at hn; omega
        rw [loads_7 h hn hf h7 rfl, loads_7 h' hn' hf' (by omega) (x := x) rfl]; rfl
      · rw [loads_o h hn hf h4 h6 h7, loads_o h' hn' hf' (by omega) (by omega) (by omega), mir_makes]; simp
theorem run_acc : ∀ (xs : List Stitch) (ls acc : List Int), runRow xs ls acc = if (runRow xs ls []).2 ≠ 0 then ([], (runRow xs ls []).2) else (acc ++ (runRow xs ls []).1, 0)
  | [], ls, acc => by simp [runRow]
  | s :: xs, ls, acc => by
    rw [runRow, runRow]
    by_cases h : (loadsS s (ls.take (needsS s).toNat)).2 ≠ 0
    · rw [if_pos h, if_pos h, if_pos h]
    · rw [if_neg h, if_neg h, run_acc xs _ (acc ++ _), run_acc xs _ ([] ++ _)]
      by_cases h2 : (runRow xs (ls.drop (needsS s).toNat) []).2 ≠ 0
      · simp only [if_pos h2]
      · simp only [if_neg h2]
        rw [if_neg (by simp)]; simp
theorem run_snoc : ∀ (xs : List Stitch) (s : Stitch) (ls : List Int), ((runRow (xs ++ [s]) ls []) : List Int × Int) =
    if (runRow xs ls []).2 ≠ 0 then ([], (runRow xs ls []).2) else
      (let l := (ls.drop (needsR xs).toNat).take (needsS s).toNat
       if (loadsS s l).2 ≠ 0 then ([], (loadsS s l).2) else ((runRow xs ls []).1 ++ (loadsS s l).1, 0))
  | [], s, ls => by
    simp only [List.nil_append, runRow, needsR, List.map_nil, List.sum_nil, Int.toNat_zero, List.drop_zero]
    simp
  | x :: xs, s, ls => by
    rw [List.cons_append, runRow, runRow]
    have hx := needs_rng x
    have hxs := sum_rng needs_rng xs
    by_cases h : (loadsS x (ls.take (needsS x).toNat)).2 ≠ 0
    · rw [if_pos h, if_pos h, if_pos h]
    · rw [if_neg h, if_neg h, List.nil_append, run_acc (xs ++ [s]), run_acc xs _ (loadsS x _).1, run_snoc xs s]
      have e : (needsR (x :: xs)).toNat = (needsS x).toNat + (needsR xs).toNat := by
        unfold needsR; simp only [List.map_cons, List.sum_cons]; omega
      by_cases h2 : (runRow xs (ls.drop (needsS x).toNat) []).2 ≠ 0
      · simp only [if_pos h2]
      · simp only [if_neg h2, List.drop_drop, e]
        by_cases h3 : (loadsS s ((ls.drop ((needsS x).toNat + (needsR xs).toNat)).take (needsS s).toNat)).2 ≠ 0
        · simp only [if_pos h3]
          rw [if_neg (by simp)]
        · simp only [if_neg h3]
          simp
theorem run_out : ∀ (xs : List Stitch) (ls : List Int), xs.all okB = true → ls.all few = true → (ls.length : Int) = needsR xs → (runRow xs ls []).2 = 0 → (runRow xs ls []).1.all few = true ∧ ((runRow xs ls []).1.length : Int) = makesR xs
  | [], ls, _, _, _, _ => ⟨rfl, rfl⟩
  | s :: xs, ls, hk, hf, hl, h0 => by
    simp only [List.all_cons, Bool.and_eq_true] at hk
    have hx := needs_rng s
    have hxs := sum_rng needs_rng xs
    have e : needsR (s :: xs) = needsS s + needsR xs := by unfold needsR; simp
    have e2 : makesR (s :: xs) = makesS s + makesR xs := by unfold makesR; simp
    have hr : 0 ≤ needsR xs := hxs.1
    rw [runRow] at h0 ⊢
    by_cases h : (loadsS s (ls.take (needsS s).toNat)).2 ≠ 0
    · rw [if_pos h] at h0; exact absurd h0 h
    rw [if_neg h] at h0 ⊢
    rw [List.nil_append] at h0 ⊢
    rw [run_acc] at h0 ⊢
    by_cases h2 : (runRow xs (ls.drop (needsS s).toNat) []).2 ≠ 0
    · rw [if_pos h2] at h0; exact absurd h0 h2
    rw [if_neg h2]
    have hfa : ∀ z ∈ ls, few z = true := List.all_eq_true.1 hf
    obtain ⟨i1, i2⟩ := run_out xs (ls.drop (needsS s).toNat) hk.2 (List.all_eq_true.2 fun z hz => hfa z (List.mem_of_mem_drop hz)) (by rw [List.length_drop]; omega) (by simpa using h2)
    obtain ⟨j1, j2, _⟩ := loads_few (s := s) (l := ls.take (needsS s).toNat) (by simpa using h)
    exact ⟨by rw [List.all_append, j1, i1]; rfl, by rw [List.length_append]; omega⟩
theorem loads_09 {s : Stitch} {l : List Int} (h : checkS s = 0) (hn : (l.length : Int) = needsS s) (hf : l.all few = true) : (loadsS s l).2 = 0 ∨ (loadsS s l).2 = 9 := by
  have g := loads_g h hn hf
  rw [g]
  repeat' split
  all_goals first | exact .inl rfl | exact .inr rfl
theorem run_09 : ∀ (xs : List Stitch) (ls : List Int), xs.all okB = true → ls.all few = true → (ls.length : Int) = needsR xs → (runRow xs ls []).2 = 0 ∨ (runRow xs ls []).2 = 9
  | [], ls, _, _, _ => .inl rfl
  | s :: xs, ls, hk, hf, hl => by
    simp only [List.all_cons, Bool.and_eq_true] at hk
    have hx := needs_rng s
    have hxs := sum_rng needs_rng xs
    have e : needsR (s :: xs) = needsS s + needsR xs := by unfold needsR; simp
    have hr : 0 ≤ needsR xs := hxs.1
    have hfa : ∀ z ∈ ls, few z = true := List.all_eq_true.1 hf
    rw [runRow]
    by_cases h : (loadsS s (ls.take (needsS s).toNat)).2 ≠ 0
    · rw [if_pos h]; exact loads_09 ((okB_iff s).1 hk.1) (by rw [List.length_take]; omega) (List.all_eq_true.2 fun z hz => hfa z (List.mem_of_mem_take hz))
    rw [if_neg h, List.nil_append, run_acc]
    have i := run_09 xs (ls.drop (needsS s).toNat) hk.2 (List.all_eq_true.2 fun z hz => hfa z (List.mem_of_mem_drop hz)) (by rw [List.length_drop]; omega)
    by_cases h2 : (runRow xs (ls.drop (needsS s).toNat) []).2 ≠ 0
    · rw [if_pos h2]; exact i
    · rw [if_neg h2]; exact .inl rfl
theorem run_mir : ∀ (xs : List Stitch) (ls : List Int), xs.all okB = true → ls.all few = true → (ls.length : Int) = needsR xs → runRow (mirR xs) ls.reverse [] = ((runRow xs ls []).1.reverse, (runRow xs ls []).2)
  | [], ls, _, _, _ => rfl
  | s :: xs, ls, hk, hf, hl => by
    simp only [List.all_cons, Bool.and_eq_true] at hk
    have hx := needs_rng s
    have hxs := sum_rng needs_rng xs
    have e : needsR (s :: xs) = needsS s + needsR xs := by unfold needsR; simp
    have hr : 0 ≤ needsR xs := hxs.1
    have hfa : ∀ z ∈ ls, few z = true := List.all_eq_true.1 hf
    have hm : mirR (s :: xs) = mirR xs ++ [mirS s] := by simp [mirR]
    have hsp : ls.reverse = (ls.drop (needsS s).toNat).reverse ++ (ls.take (needsS s).toNat).reverse := by rw [← List.reverse_append, List.take_append_drop]
    have hld : ((ls.drop (needsS s).toNat).length : Int) = needsR xs := by rw [List.length_drop]; omega
    have hlt : ((ls.take (needsS s).toNat).length : Int) = needsS s := by rw [List.length_take]; omega
    have hfd : (ls.drop (needsS s).toNat).all few = true := List.all_eq_true.2 fun z hz => hfa z (List.mem_of_mem_drop hz)
    have hft : (ls.take (needsS s).toNat).all few = true := List.all_eq_true.2 fun z hz => hfa z (List.mem_of_mem_take hz)
    have ih := run_mir xs (ls.drop (needsS s).toNat) hk.2 hfd hld
    have hc := (okB_iff s).1 hk.1
    have hml := mir_loads hc hlt hft
    -- the loops of the row behind
    have hpre : ∀ (ys : List Stitch) (a b acc : List Int), needsR ys = a.length → runRow ys (a ++ b) acc = runRow ys a acc := by
      intro ys
      induction ys with
      | nil => intros; rfl
      | cons y ys iy =>
        intro a b acc hab
        have hy := needs_rng y
        have hys := (sum_rng needs_rng ys).1
        have ey : needsR (y :: ys) = needsS y + needsR ys := by unfold needsR; simp
        have hr' : 0 ≤ needsR ys := hys
        rw [runRow, runRow, List.take_append_of_le_length (by omega), List.drop_append_of_le_length (by omega), iy _ b _ (by rw [List.length_drop]; omega)]
    rw [hm, run_snoc, hsp, hpre _ _ _ _ (by rw [mir_needsR, List.length_reverse]; omega), ih, runRow]
    have hdl : ((ls.drop (needsS s).toNat).reverse ++ (ls.take (needsS s).toNat).reverse).drop (needsR (mirR xs)).toNat = (ls.take (needsS s).toNat).reverse := by
      rw [List.drop_append_of_le_length (by rw [List.length_reverse, mir_needsR]; omega), List.drop_of_length_le (by rw [List.length_reverse, mir_needsR]; omega), List.nil_append]
    have htl : (ls.take (needsS s).toNat).reverse.take (needsS (mirS s)).toNat = (ls.take (needsS s).toNat).reverse := List.take_of_length_le (by rw [List.length_reverse, mir_needs]; omega)
    simp only [hdl, htl, hml]
    have a1 := loads_09 hc hlt hft
    have a2 := run_09 xs (ls.drop (needsS s).toNat) hk.2 hfd hld
    rw [List.nil_append, run_acc xs _ (loadsS s _).1]
    by_cases c1 : (runRow xs (ls.drop (needsS s).toNat) []).2 ≠ 0
    · rw [if_pos c1, if_pos c1]
      by_cases c2 : (loadsS s (ls.take (needsS s).toNat)).2 ≠ 0
      · rw [if_pos c2]; simp only [List.reverse_nil, Prod.mk.injEq, true_and]; omega
      · rw [if_neg c2]; rfl
    · rw [if_neg c1, if_neg c1]
      by_cases c2 : (loadsS s (ls.take (needsS s).toNat)).2 ≠ 0
      · rw [if_pos c2, if_pos c2]; rfl
      · rw [if_neg c2, if_neg c2]; simp
/-- Rows that fit each other run the same from the other side. -/
def chain : List (List Stitch) → Prop
  | [] => True
  | [_] => True
  | r :: q :: rs => needsR q = makesR r ∧ chain (q :: rs)
theorem runs_mir : ∀ (rs : RowL) (ls : List Int), (∀ r ∈ rs, r.all okB = true) → chain rs → ls.all few = true → (∀ r, rs[0]? = some r → (ls.length : Int) = needsR r) → runRows (mirC rs) ls.reverse = runRows rs ls
  | [], ls, _, _, _, _ => rfl
  | r :: rs, ls, hk, hc, hf, hl => by
    have h0 := hl r rfl
    have hr := hk r (by simp)
    show runRows (mirR r :: mirC rs) ls.reverse = _
    rw [runRows, runRows, run_mir r ls hr hf h0]
    by_cases h : (runRow r ls []).2 ≠ 0
    · rw [if_pos h, if_pos h]
    rw [if_neg h, if_neg h]
    obtain ⟨o1, o2⟩ := run_out r ls hr hf h0 (by simpa using h)
    refine runs_mir rs _ (fun q hq => hk q (by simp [hq])) ?_ o1 ?_
    · match rs, hc with
      | [], _ => trivial
      | q :: rs, hc => exact hc.2
    · intro q hq
      match rs, hc, hq with
      | q' :: rs, hc, hq =>
        simp at hq; subst hq
        rw [hc.1]; exact o2
theorem chain_of : ∀ (rs : RowL), (∀ (k : Nat) (r q : List Stitch), rs[k]? = some r → rs[k + 1]? = some q → needsR q = makesR r) → chain rs
  | [], _ => trivial
  | [_], _ => trivial
  | r :: q :: rs, h => ⟨h 0 r q rfl rfl, chain_of (q :: rs) fun k a b ha hb => h (k + 1) a b ha hb⟩
theorem mir_chartE (rs : RowL) : chartE (mirC rs) = chartE rs := by
  unfold chartE
  rw [mir_rowsE]
  by_cases h : rowsE rs ≠ 0
  · rw [if_pos h, if_pos h]
  rw [if_neg h, if_neg h]
  obtain ⟨h1, h2, h3, h4⟩ := rows_of (by simpa using h)
  have e : startL (mirC rs) = (startL rs).reverse := by unfold startL; rw [mirC_getD, mir_needsR, List.reverse_replicate]
  rw [e]
  refine runs_mir rs _ (fun r hr => by obtain ⟨i, hi⟩ := List.getElem?_of_mem hr; exact (row_ok_of (h3 i r hi)).2.2.1) (chain_of rs h4) ?_ ?_
  · unfold startL; rw [List.all_replicate]; simp [few]
  · intro r hr
    have e2 : rs.getD 0 [] = r := by simp [List.getD, hr]
    have := (row_ok_of (h3 0 r hr))
    unfold startL; rw [List.length_replicate, e2]; omega
/-! Motifs. -/
theorem mir_large (c : RowL) : largeB (mirC c) = largeB c := by
  unfold largeB
  rw [mirC_len]
  congr 1
  unfold mirC
  rw [List.any_map]
  congr 1
  funext r
  simp [mirR_len]
theorem mir_good (c : RowL) : goodB (mirC c) = goodB c := by
  unfold goodB mirC
  rw [List.all_map]
  congr 1
  funext r
  exact mir_all r
theorem mir_motE (m : Mot) : motE (mirM m) = motE m := by
  unfold motE mirM
  simp only [mir_large, mir_good, mirC_len]
  have e : ((mirC m.T).all fun r => decide (r.length ≠ 0)) = m.T.all fun r => decide (r.length ≠ 0) := by
    unfold mirC
    rw [List.all_map]
    congr 1
    funext r
    show decide ((mirR r).length ≠ 0) = _
    rw [mirR_len]
  rw [e]
  by_cases c1 : largeB m.L = true ∨ largeB m.T = true ∨ largeB m.R = true
  · rw [if_pos c1, if_pos (by rcases c1 with c | c | c; exact .inr (.inr c); exact .inr (.inl c); exact .inl c)]
  rw [if_neg c1, if_neg (fun c => c1 (by rcases c with c | c | c; exact .inr (.inr c); exact .inr (.inl c); exact .inl c))]
  by_cases c2 : (m.L.length ≠ 0 ∧ m.L.length ≠ m.T.length) ∨ (m.R.length ≠ 0 ∧ m.R.length ≠ m.T.length)
  · rw [if_pos c2, if_pos (Or.symm c2)]
  rw [if_neg c2, if_neg (fun c => c2 (Or.symm c))]
  by_cases c3 : m.T.length = 0 ∨ goodB m.L = false ∨ goodB m.T = false ∨ goodB m.R = false
  · rw [if_pos c3, if_pos (by rcases c3 with c | c | c | c; exact .inl c; exact .inr (.inr (.inr c)); exact .inr (.inr (.inl c)); exact .inr (.inl c))]
  · rw [if_neg c3, if_neg (fun d => c3 (by rcases d with c | c | c | c; exact .inl c; exact .inr (.inr (.inr c)); exact .inr (.inr (.inl c)); exact .inr (.inl c)))]
theorem mirR_app (a b : List Stitch) : mirR (a ++ b) = mirR b ++ mirR a := by simp [mirR]
theorem mirR_rep (a : List Stitch) : ∀ n, mirR (List.replicate n a).flatten = (List.replicate n (mirR a)).flatten
  | 0 => rfl
  | n + 1 => by
    rw [List.replicate_succ, List.flatten_cons, mirR_app, mirR_rep a n, List.replicate_succ', List.flatten_append]; simp
theorem mir_side (m : Mot) (n i : Nat) : sideR (mirM m) n i = mirR (sideR m n i) := by
  unfold sideR mirM
  simp only [mirC_getD, mirR_app, mirR_rep, List.append_assoc]
theorem mir_sideM (m : Mot) (n : Nat) : sideM (mirM m) n = mirC (sideM m n) := by
  unfold sideM
  show (List.range (mirC m.T).length).map _ = _
  rw [mirC_len]
  unfold mirC
  rw [List.map_map]
  exact List.map_congr_left fun i _ => mir_side m n i
theorem mir_stackM (m : Mot) (n up : Nat) : stackM (mirM m) n up = mirC (stackM m n up) := by
  unfold stackM
  rw [mir_sideM]
  unfold mirC
  rw [List.map_flatten, List.map_replicate]
theorem mir_stackE (m : Mot) (n up : Int) : stackE (mirM m) n up = stackE m n up := by
  unfold stackE; rw [mir_motE, mir_stackM, mir_large, mir_chartE]
end Go.G14
namespace Go.G14
open Go.Lw

def firstY : List Stitch → Int
  | [] => 0
  | s :: xs => xs.foldl (fun y x => min y x.y) s.y
def rowC (y : Int) (r : List Stitch) : Int := (r.map fun s => if s.k ≠ 7 ∧ s.y = y then makesS s else 0).sum
def cntY (c : RowL) (y : Int) : Int :=
  (if firstY (c.getD 0 []) = y then needsR (c.getD 0 []) else 0) + (if firstY (c.getD (c.length - 1) []) = y then makesR (c.getD (c.length - 1) []) else 0) + (c.map (rowC y)).sum
theorem fold_min : ∀ (xs : List Stitch) (a : Int), xs.foldl (fun y x => min y x.y) a ≤ a ∧ (∀ s ∈ xs, xs.foldl (fun y x => min y x.y) a ≤ s.y) ∧ (xs.foldl (fun y x => min y x.y) a = a ∨ ∃ s ∈ xs, xs.foldl (fun y x => min y x.y) a = s.y)
  | [], a => ⟨Int.le_refl _, by simp, .inl rfl⟩
  | x :: xs, a => by
    obtain ⟨h1, h2, h3⟩ := fold_min xs (min a x.y)
    rw [List.foldl_cons]
    refine ⟨by omega, fun s hs => ?_, ?_⟩
    · rcases List.mem_cons.1 hs with rfl | hs
      · omega
      · exact h2 s hs
    · rcases h3 with h3 | ⟨s, hs, h3⟩
      · rcases Int.le_total a x.y with h | h
        · left; omega
        · right; exact ⟨x, by simp, by omega⟩
      · right; exact ⟨s, by simp [hs], h3⟩
theorem first_spec {r : List Stitch} (h : r ≠ []) : (∃ s ∈ r, s.y = firstY r) ∧ ∀ s ∈ r, firstY r ≤ s.y := by
  match r, h with
  | x :: xs, _ =>
    obtain ⟨h1, h2, h3⟩ := fold_min xs x.y
    refine ⟨?_, fun s hs => ?_⟩
    · rcases h3 with h3 | ⟨s, hs, h3⟩
      · exact ⟨x, by simp, h3.symm⟩
      · exact ⟨s, by simp [hs], h3.symm⟩
    · rcases List.mem_cons.1 hs with rfl | hs
      · exact h1
      · exact h2 s hs
/-- The least yarn hangs on which yarns there are, alone. -/
theorem first_congr {r q : List Stitch} (hr : r ≠ []) (hq : q ≠ []) (h1 : ∀ s ∈ r, ∃ t ∈ q, t.y = s.y) (h2 : ∀ s ∈ q, ∃ t ∈ r, t.y = s.y) : firstY r = firstY q := by
  obtain ⟨⟨a, ha, ea⟩, la⟩ := first_spec hr
  obtain ⟨⟨b, hb, eb⟩, lb⟩ := first_spec hq
  obtain ⟨a', ha', ea'⟩ := h1 a ha
  obtain ⟨b', hb', eb'⟩ := h2 b hb
  have := la b' hb'
  have := lb a' ha'
  omega
theorem mir_first (r : List Stitch) : firstY (mirR r) = firstY r := by
  by_cases h : r = []
  · subst h; rfl
  refine first_congr (fun e => h (by have := congrArg List.length e; rw [mirR_len] at this; simpa using this)) h ?_ ?_
  · intro s hs
    unfold mirR at hs
    obtain ⟨t, ht, rfl⟩ := List.mem_map.1 (List.mem_reverse.1 hs)
    exact ⟨t, ht, (mirS_y t).symm⟩
  · intro s hs
    exact ⟨mirS s, by unfold mirR; exact List.mem_reverse.2 (List.mem_map.2 ⟨s, hs, rfl⟩), mirS_y s⟩
theorem mir_rowC (y : Int) (r : List Stitch) : rowC y (mirR r) = rowC y r := by
  unfold rowC
  exact mirR_map (f := fun s => if s.k ≠ 7 ∧ s.y = y then makesS s else 0) (fun s => by simp only [mirS_k, mirS_y, mir_makes]) r
theorem mir_cntY (c : RowL) (y : Int) : cntY (mirC c) y = cntY c y := by
  unfold cntY
  rw [mirC_len, mirC_getD, mirC_getD, mir_first, mir_first, mir_needsR, mir_makesR]
  congr 2
  unfold mirC
  rw [List.map_map]
  exact List.map_congr_left fun r _ => mir_rowC y r
theorem rowC_pos (y : Int) (r : List Stitch) : 0 ≤ rowC y r ∧ rowC y r ≤ 4 * r.length :=
  sum_rng (f := fun s => if s.k ≠ 7 ∧ s.y = y then makesS s else 0) (fun s => by have := makes_rng s; split <;> omega) r
/-! More tiles. -/
theorem sideM_len (m : Mot) (n : Nat) : (sideM m n).length = m.T.length := by simp [sideM]
theorem stackM_succ (m : Mot) (n up : Nat) : stackM m n (up + 1) = sideM m n ++ stackM m n up := by simp [stackM, List.replicate_succ]
theorem stackM_len (m : Mot) (n up : Nat) : (stackM m n up).length = up * m.T.length := by
  induction up with
  | zero => simp [stackM]
  | succ up ih => rw [stackM_succ, List.length_append, ih, sideM_len, Nat.add_mul]; omega
theorem mot_tile {m : Mot} (h : motE m = 0) : 1 ≤ m.T.length ∧ (∀ i, i < m.T.length → m.T.getD i [] ≠ []) ∧ m.T.length ≤ 31 := by
  unfold motE at h
  split at h
  · omega
  split at h
  · omega
  split at h
  · omega
  split at h
  · rename_i h1 h2 h3 h4
    refine ⟨by omega, fun i hi e => ?_, ?_⟩
    · have := List.all_eq_true.1 h4 (m.T.getD i []) (by rw [List.getD, List.getElem?_eq_getElem hi]; exact List.getElem_mem hi)
      rw [e] at this; simp at this
    · have : ¬ largeB m.T = true := fun e => h1 (.inr (.inl e))
      unfold largeB at this
      simp only [Bool.or_eq_true, decide_eq_true_eq, not_or] at this
      omega
  · omega
end Go.G14
namespace Go.G14
open Go.Lw

structure Pc where
  nm : List UInt8
  mot : Mot
  ba : Int
  st : Int
  up : Int
  ct : Int
def pc0 : Pc := ⟨[], ⟨[], [], []⟩, 0, 0, 0, 0⟩
def lower (c : UInt8) : Bool := decide (97 ≤ c.toNat ∧ c.toNat ≤ 122)
def nameB (s : List UInt8) : Bool := decide (1 ≤ s.length ∧ s.length ≤ 16) && s.all lower
def rightB (p : Pc) : Bool := nameB p.nm && decide (1 ≤ p.ba ∧ p.ba ≤ 16 ∧ 0 ≤ p.st ∧ p.st ≤ 4 ∧ 1 ≤ p.up ∧ p.up ≤ 31 ∧ 1 ≤ p.ct ∧ p.ct ≤ 9)
def dupB (ps : List Pc) : Bool := (List.range ps.length).any fun i => (List.range i).any fun k => decide ((ps.getD i pc0).nm = (ps.getD k pc0).nm)
def motsE : List Pc → Int
  | [] => 0
  | p :: ps => if motE p.mot ≠ 0 then motE p.mot else motsE ps
def garE (nm : List UInt8) (ps : List Pc) : Int :=
  if 8 < ps.length then 3 else if ps.length = 0 ∨ nameB nm = false then 1 else if ps.all rightB = false then 1 else if dupB ps = true then 8 else motsE ps
def tiles (p : Pc) (size : Int) : Int := p.ba + size * p.st
def chartsE (size : Int) : List Pc → Int
  | [] => 0
  | p :: ps => if stackE p.mot (tiles p size) p.up ≠ 0 then stackE p.mot (tiles p size) p.up else chartsE size ps
def makeE (nm : List UInt8) (ps : List Pc) (size : Int) : Int :=
  if garE nm ps ≠ 0 then garE nm ps else if size < 0 ∨ 9 < size then 1 else chartsE size ps
def chartP (size : Int) (p : Pc) : RowL := stackM p.mot (tiles p size).toNat p.up.toNat
def needY (ps : List Pc) (size y : Int) : Int := (ps.map fun p => p.ct * cntY (chartP size p) y).sum
def needL (ps : List Pc) (size : Int) : List Int := (List.range 6).map fun y => needY ps size (y + 1 : Nat)
theorem mots_of : ∀ {ps : List Pc}, motsE ps = 0 → ∀ p ∈ ps, motE p.mot = 0
  | [], _, p, h => by cases h
  | q :: ps, h0, p, h => by
    rw [motsE] at h0
    by_cases c : motE q.mot ≠ 0
    · rw [if_pos c] at h0; exact absurd h0 c
    rw [if_neg c] at h0
    rcases List.mem_cons.1 h with rfl | h
    · simpa using c
    · exact mots_of h0 p h
theorem gar_of {nm : List UInt8} {ps : List Pc} (h : garE nm ps = 0) : ps.length ≤ 8 ∧ 1 ≤ ps.length ∧ nameB nm = true ∧ (∀ p ∈ ps, rightB p = true) ∧ (∀ p ∈ ps, motE p.mot = 0) ∧ dupB ps = false := by
  unfold garE at h
  split at h
  · omega
  split at h
  · omega
  split at h
  · omega
  split at h
  · omega
  · rename_i h1 h2 h3 h4
    refine ⟨by omega, by omega, ?_, ?_, mots_of h, by simpa using h4⟩
    · cases e : nameB nm
      · exact absurd (.inr e) h2
      · rfl
    · have : ps.all rightB = true := by simpa using h3
      exact List.all_eq_true.1 this
theorem right_of {p : Pc} (h : rightB p = true) : nameB p.nm = true ∧ 1 ≤ p.ba ∧ p.ba ≤ 16 ∧ 0 ≤ p.st ∧ p.st ≤ 4 ∧ 1 ≤ p.up ∧ p.up ≤ 31 ∧ 1 ≤ p.ct ∧ p.ct ≤ 9 := by
  unfold rightB at h
  rw [Bool.and_eq_true, decide_eq_true_eq] at h
  exact ⟨h.1, h.2⟩
theorem charts_of {size : Int} : ∀ {ps : List Pc}, chartsE size ps = 0 → ∀ p ∈ ps, stackE p.mot (tiles p size) p.up = 0
  | [], _, p, h => by cases h
  | q :: ps, h0, p, h => by
    rw [chartsE] at h0
    by_cases c : stackE q.mot (tiles q size) q.up ≠ 0
    · rw [if_pos c] at h0; exact absurd h0 c
    rw [if_neg c] at h0
    rcases List.mem_cons.1 h with rfl | h
    · simpa using c
    · exact charts_of h0 p h
theorem make_of {nm : List UInt8} {ps : List Pc} {size : Int} (h : makeE nm ps size = 0) : garE nm ps = 0 ∧ 0 ≤ size ∧ size ≤ 9 ∧ chartsE size ps = 0 := by
  unfold makeE at h
  split at h
  · exact absurd h (by assumption)
  split at h
  · omega
  · rename_i h1 h2
    exact ⟨by simpa using h1, by omega, by omega, h⟩
theorem stack_of {m : Mot} {n up : Int} (h : stackE m n up = 0) : motE m = 0 ∧ 1 ≤ n ∧ 1 ≤ up ∧ largeB (stackM m n.toNat up.toNat) = false ∧ chartE (stackM m n.toNat up.toNat) = 0 := by
  unfold stackE at h
  split at h
  · exact absurd h (by assumption)
  split at h
  · omega
  split at h
  · omega
  · rename_i h1 h2 h3
    exact ⟨by simpa using h1, by omega, by omega, by simpa using h3, h⟩
/-! In a greater size at least as many loops are needed. -/
def mirP (p : Pc) : Pc := ⟨p.nm, mirM p.mot, p.ba, p.st, p.up, p.ct⟩
theorem mirP_mir (p : Pc) : mirP (mirP p) = p := by simp [mirP, mirM_mir]
theorem mir_motsE : ∀ ps : List Pc, motsE (ps.map mirP) = motsE ps
  | [] => rfl
  | p :: ps => by
    rw [List.map_cons, motsE, motsE, mir_motsE ps]
    show (if motE (mirM p.mot) ≠ 0 then motE (mirM p.mot) else _) = _
    rw [mir_motE]
theorem mir_nm (ps : List Pc) (i : Nat) : ((ps.map mirP).getD i pc0).nm = (ps.getD i pc0).nm := by
  rw [List.getD, List.getD, List.getElem?_map]
  cases ps[i]? <;> rfl
theorem mir_dup (ps : List Pc) : dupB (ps.map mirP) = dupB ps := by
  unfold dupB
  rw [List.length_map]
  simp only [mir_nm]
theorem mir_garE (nm : List UInt8) (ps : List Pc) : garE nm (ps.map mirP) = garE nm ps := by
  unfold garE
  rw [List.length_map, mir_motsE, mir_dup, List.all_map]
  rfl
theorem mir_chartsE (size : Int) : ∀ ps : List Pc, chartsE size (ps.map mirP) = chartsE size ps
  | [] => rfl
  | p :: ps => by
    rw [List.map_cons, chartsE, chartsE, mir_chartsE size ps]
    show (if stackE (mirM p.mot) (tiles p size) p.up ≠ 0 then stackE (mirM p.mot) (tiles p size) p.up else _) = _
    rw [mir_stackE]
theorem mir_makeE (nm : List UInt8) (ps : List Pc) (size : Int) : makeE nm (ps.map mirP) size = makeE nm ps size := by
  unfold makeE; rw [mir_garE, mir_chartsE]
theorem mir_chartP (size : Int) (p : Pc) : chartP size (mirP p) = mirC (chartP size p) := by
  unfold chartP
  show stackM (mirM p.mot) (tiles p size).toNat p.up.toNat = _
  rw [mir_stackM]
theorem mir_needY (ps : List Pc) (size y : Int) : needY (ps.map mirP) size y = needY ps size y := by
  unfold needY
  rw [List.map_map]
  congr 1
  refine List.map_congr_left fun p _ => ?_
  show p.ct * cntY (chartP size (mirP p)) y = _
  rw [mir_chartP, mir_cntY]
theorem mir_needL (ps : List Pc) (size : Int) : needL (ps.map mirP) size = needL ps size := by
  unfold needL; simp only [mir_needY]
end Go.G14
namespace Go.G14
open Go.Lw

abbrev RQ := SV × List Stitch
abbrev CQ := SV × RowL
def sv0 : SV := (none, 0, 0)
abbrev rq0 : RQ := (sv0, [])
abbrev cq0 : CQ := (sv0, [])
def encRq : Enc RQ := ⟨fun p => [.slice p.1.1 p.1.2.1 p.1.2.2], 1, fun _ => rfl, fun _ u h => by simp at h; subst h; rfl, by decide⟩
def encCq : Enc CQ := ⟨fun p => [.slice p.1.1 p.1.2.1 p.1.2.2], 1, fun _ => rfl, fun _ u h => by simp at h; subst h; rfl, by decide⟩
/-- The rows read as the lists. -/
def RowsQ (w : World) (qs : List RQ) : Prop := ∀ q ∈ qs, Sl encSt w (slv q.1) q.2
def ChsQ (w : World) (qs : List CQ) : Prop := ∀ q ∈ qs, Sll encSt w (slv q.1) q.2
theorem RowsQ.ext {w w' : World} {qs : List RQ} (h : RowsQ w qs) (hf : Fr [] w w') : RowsQ w' qs := fun q hq => (h q hq).ext hf
theorem ChsQ.ext {w w' : World} {qs : List CQ} (h : ChsQ w qs) (hf : Fr [] w w') : ChsQ w' qs := fun q hq => (h q hq).ext hf
theorem getD_memS {α : Type} {l : List α} {i : Nat} {d : α} (h : i < l.length) : l.getD i d ∈ l := by
  rw [List.getD, List.getElem?_eq_getElem h]; exact List.getElem_mem h
theorem sl_len {α : Type} {E : Enc α} {w : World} {p : SV} {l : List α} (h : Sl E w (slv p) l) : p.2.1 = l.length := by
  obtain ⟨A, c, e, _⟩ := h; simp only [slv, Value.slice.injEq] at e; exact e.2.1
theorem sll_len {α : Type} {E : Enc α} {w : World} {p : SV} {l : List (List α)} (h : Sll E w (slv p) l) : p.2.1 = l.length := by
  obtain ⟨A, c, e, _⟩ := h.form; simp only [slv, Value.slice.injEq] at e; exact e.2.1
theorem RowsQ.at {w : World} {qs : List RQ} (h : RowsQ w qs) {i : Nat} (hi : i < qs.length) : Sl encSt w (slv (qs.getD i rq0).1) (qs.getD i rq0).2 ∧ (qs.getD i rq0).1.2.1 = (qs.getD i rq0).2.length :=
  have h1 := h _ (getD_memS hi); ⟨h1, sl_len h1⟩
theorem ChsQ.at {w : World} {qs : List CQ} (h : ChsQ w qs) {i : Nat} (hi : i < qs.length) : Sll encSt w (slv (qs.getD i cq0).1) (qs.getD i cq0).2 ∧ (qs.getD i cq0).1.2.1 = (qs.getD i cq0).2.length :=
  have h1 := h _ (getD_memS hi); ⟨h1, sll_len h1⟩
theorem Sll.opn {w : World} {v : Value} {rows : RowL} (h : Sll encSt w v rows) : ∃ qs : List RQ, Sl encRq w v qs ∧ RowsQ w qs ∧ qs.map Prod.snd = rows := by
  obtain ⟨hs, h1, h2, h3⟩ := h
  refine ⟨hs.zip rows, ?_, ?_, ?_⟩
  · obtain ⟨A, c, e, r1, r2, r3⟩ := h1
    have hl : (hs.zip rows).length = hs.length := by rw [List.length_zip]; omega
    refine ⟨A, c, by rw [hl]; exact e, by omega, r2, fun i y hy => ?_⟩
    rw [List.getElem?_zip_eq_some] at hy
    exact r3 i y.1 hy.1
  · intro q hq
    obtain ⟨i, hi⟩ := List.getElem?_of_mem hq
    rw [List.getElem?_zip_eq_some] at hi
    exact h3 i q.1 q.2 hi.1 hi.2
  · exact List.map_snd_zip (by omega)
theorem sll_of {w : World} {v : Value} {qs : List RQ} (h : Sl encRq w v qs) (hr : RowsQ w qs) : Sll encSt w v (qs.map Prod.snd) := by
  refine ⟨qs.map Prod.fst, ?_, by simp, ?_⟩
  · obtain ⟨A, c, e, r1, r2, r3⟩ := h
    refine ⟨A, c, by rw [List.length_map]; exact e, by rw [List.length_map]; exact r1, r2, fun i y hy => ?_⟩
    rw [List.getElem?_map, Option.map_eq_some_iff] at hy
    obtain ⟨q, hq, rfl⟩ := hy
    exact r3 i q hq
  · intro i p r hp hx
    rw [List.getElem?_map, Option.map_eq_some_iff] at hp hx
    obtain ⟨q, hq, rfl⟩ := hp
    obtain ⟨q', hq', rfl⟩ := hx
    rw [hq] at hq'; cases hq'
    exact hr q (List.mem_of_getElem? hq)
theorem map_getD {α β : Type} (f : α → β) (l : List α) (i : Nat) (d : α) (e : β) (h : i < l.length) : (l.map f).getD i e = f (l.getD i d) := by
  rw [List.getD, List.getD, List.getElem?_map, List.getElem?_eq_getElem h]; rfl
/-- Rows of the call's own, from a block on. -/
def RwO (T N : Nat) (w : World) (qs : List RQ) : Prop := ∀ q ∈ qs, Lw.Own encSt T N w (slv q.1) q.2
theorem RwO.fr {T N : Nat} {w w' : World} {qs : List RQ} {S : List Nat} (h : RwO T N w qs) (hf : Fr S w w') (hS : ∀ k ∈ S, k < N) : RwO T N w' qs :=
  fun q hq => (h q hq).fr hf fun k hk hb => by have := ((h q hq).blk k hb).1; have := hS k hk; omega
theorem RwO.ext {T N : Nat} {w w' : World} {qs : List RQ} (h : RwO T N w qs) (hf : Fr [] w w') : RwO T N w' qs := h.fr hf (by simp)
theorem RwO.q {T N : Nat} {w : World} {qs : List RQ} (h : RwO T N w qs) : RowsQ w qs := fun q hq => (h q hq).sl
theorem RwO.nil {T N : Nat} {w : World} : RwO T N w [] := fun q hq => by cases hq
theorem RwO.snoc {T N : Nat} {w : World} {qs : List RQ} {q : RQ} (h : RwO T N w qs) (hq : Lw.Own encSt T N w (slv q.1) q.2) : RwO T N w (qs ++ [q]) := fun x hx => by
  rcases List.mem_append.1 hx with hx | hx
  · exact h x hx
  · rw [List.mem_singleton.1 hx]; exact hq
theorem set_at {α : Type} (l : List α) (m : Nat) (z e : α) : (l ++ List.replicate (m + 1) z).set l.length e = (l ++ [e]) ++ List.replicate m z := by
  rw [List.set_append_right _ _ (Nat.le_refl _), Nat.sub_self, List.replicate_succ, List.set_cons_zero, List.append_assoc]; rfl
abbrev KQ := SV × List CQ
abbrev kq0 : KQ := (sv0, [])
def encKq : Enc KQ := ⟨fun p => [.slice p.1.1 p.1.2.1 p.1.2.2], 1, fun _ => rfl, fun _ u h => by simp at h; subst h; rfl, by decide⟩
def KsQ (w : World) (ks : List KQ) : Prop := ∀ q ∈ ks, Sl encCq w (slv q.1) q.2
theorem KsQ.ext {w w' : World} {qs : List KQ} (h : KsQ w qs) (hf : Fr [] w w') : KsQ w' qs := fun q hq => (h q hq).ext hf
theorem flat_succ {α β : Type} (f : α → List β) (l : List α) (i : Nat) (d : α) (h : i < l.length) : (l.take (i + 1)).flatMap f = (l.take i).flatMap f ++ f (l.getD i d) := by
  rw [List.take_add_one, List.getElem?_eq_getElem h, List.flatMap_append, List.getD, List.getElem?_eq_getElem h]; simp
theorem flat_le {α β : Type} (f : α → List β) (l : List α) (i : Nat) : ((l.take i).flatMap f).length ≤ (l.flatMap f).length := by
  conv => rhs; rw [← List.take_append_drop i l, List.flatMap_append, List.length_append]
  omega
theorem rep_copy {α : Type} (q z : α) {n m k : Nat} (hk : k = min (n - m) m) (h : m ≤ n) : (List.replicate m q ++ List.replicate (n - m) z).take m ++ (List.replicate m q).take k ++ (List.replicate m q ++ List.replicate (n - m) z).drop (m + k) = List.replicate (m + k) q ++ List.replicate (n - (m + k)) z := by
  have e1 : (List.replicate m q ++ List.replicate (n - m) z).take m = List.replicate m q := by
    rw [List.take_append_of_le_length (by simp), List.take_of_length_le (by simp)]
  have e2 : (List.replicate m q ++ List.replicate (n - m) z).drop (m + k) = List.replicate (n - (m + k)) z := by
    rw [List.drop_append, List.drop_of_length_le (by simp), List.nil_append, List.length_replicate, List.drop_replicate]
    congr 1; omega
  rw [e1, e2, List.take_replicate, Nat.min_eq_left (by omega), List.replicate_append_replicate]
def edgeL (q : CQ) : List CQ := if q.2.length = 0 then [] else [q]
/-! Pieces. -/
structure PQ where
  p : Pc
  l : SV
  t : SV
  r : SV
def pq0 : PQ := ⟨pc0, sv0, sv0, sv0⟩
def encPq : Enc PQ := ⟨fun q => [S q.p.nm, .slice q.l.1 q.l.2.1 q.l.2.2, .slice q.t.1 q.t.2.1 q.t.2.2, .slice q.r.1 q.r.2.1 q.r.2.2, .int .i64 q.p.ba, .int .i64 q.p.st, .int .i64 q.p.up, .int .i64 q.p.ct], 8, fun _ => rfl, fun _ u h => by simp at h; rcases h with rfl | rfl | rfl | rfl | rfl | rfl | rfl | rfl <;> rfl, by decide⟩
/-- A motif in memory: the headers of its blocks read as the blocks. -/
def rowsR (c : RowL) : Prop := ∀ r ∈ c, ∀ x ∈ r, 0 ≤ x.k ∧ 0 ≤ x.y
structure MotAt (w : World) (m : Mot) (l t r : SV) : Prop where
  L : Sll encSt w (slv l) m.L
  T : Sll encSt w (slv t) m.T
  R : Sll encSt w (slv r) m.R
  gL : rowsR m.L
  gT : rowsR m.T
  gR : rowsR m.R
theorem MotAt.ext {w w' : World} {m : Mot} {l t r : SV} (h : MotAt w m l t r) (hf : Fr [] w w') : MotAt w' m l t r := ⟨h.L.ext hf, h.T.ext hf, h.R.ext hf, h.gL, h.gT, h.gR⟩
def bl3 (m : Mot) (l t r : SV) : List CQ := [(l, m.L), (t, m.T), (r, m.R)]
def bl2 (m : Mot) (l r : SV) : List CQ := [(l, m.L), (r, m.R)]
theorem MotAt.chs3 {w : World} {m : Mot} {l t r : SV} (h : MotAt w m l t r) : ChsQ w (bl3 m l t r) := fun q hq => by
  simp only [bl3, List.mem_cons, List.not_mem_nil, or_false] at hq
  rcases hq with rfl | rfl | rfl
  · exact h.L
  · exact h.T
  · exact h.R
theorem MotAt.chs2 {w : World} {m : Mot} {l t r : SV} (h : MotAt w m l t r) : ChsQ w (bl2 m l r) := fun q hq => by
  simp only [bl2, List.mem_cons, List.not_mem_nil, or_false] at hq
  rcases hq with rfl | rfl
  · exact h.L
  · exact h.R
section
variable {m : Mot} {l t r : SV}
abbrev NoL (m : Mot) (l t r : SV) : Prop := ∀ q ∈ bl3 m l t r, largeB q.2 = false
abbrev Edg (m : Mot) : Prop := (m.L.length ≠ 0 ∧ m.L.length ≠ m.T.length) ∨ (m.R.length ≠ 0 ∧ m.R.length ≠ m.T.length)
theorem nol_iff : NoL m l t r ↔ largeB m.L = false ∧ largeB m.T = false ∧ largeB m.R = false := by simp [NoL, bl3]
theorem mot3 (h : ¬ NoL m l t r) : motE m = 3 := by
  unfold motE
  rw [if_pos]
  rw [nol_iff] at h
  cases e1 : largeB m.L
  · cases e2 : largeB m.T
    · cases e3 : largeB m.R
      · exact absurd ⟨e1, e2, e3⟩ h
      · exact .inr (.inr rfl)
    · exact .inr (.inl rfl)
  · exact .inl rfl
theorem nol_if (h : NoL m l t r) : ¬ (largeB m.L = true ∨ largeB m.T = true ∨ largeB m.R = true) := by
  obtain ⟨a, b, c⟩ := nol_iff.1 h
  rintro (e | e | e) <;> simp_all
theorem mot5 (h : NoL m l t r) (he : Edg m) : motE m = 5 := by unfold motE; rw [if_neg (nol_if h), if_pos he]
theorem mot1 (h : NoL m l t r) (he : ¬ Edg m) (h1 : m.T.length = 0 ∨ ¬ ∀ q ∈ bl3 m l t r, goodB q.2 = true) : motE m = 1 := by
  unfold motE; rw [if_neg (nol_if h), if_neg he, if_pos]
  rcases h1 with h1 | h1
  · exact .inl h1
  · right
    simp only [bl3, List.mem_cons, List.not_mem_nil, or_false, forall_eq_or_imp, forall_eq] at h1
    cases e1 : goodB m.L
    · exact .inl rfl
    · cases e2 : goodB m.T
      · exact .inr (.inl rfl)
      · cases e3 : goodB m.R
        · exact .inr (.inr rfl)
        · exact absurd ⟨e1, e2, e3⟩ h1
theorem good_if (h0 : ¬ m.T.length = 0) (h : ∀ q ∈ bl3 m l t r, goodB q.2 = true) : ¬ (m.T.length = 0 ∨ goodB m.L = false ∨ goodB m.T = false ∨ goodB m.R = false) := by
  simp only [bl3, List.mem_cons, List.not_mem_nil, or_false, forall_eq_or_imp, forall_eq] at h
  rintro (e | e | e | e)
  · exact h0 e
  · rw [h.1] at e; cases e
  · rw [h.2.1] at e; cases e
  · rw [h.2.2] at e; cases e
theorem mot1r (h : NoL m l t r) (he : ¬ Edg m) (hr : ∃ r ∈ m.T, r.length = 0) : motE m = 1 := by
  unfold motE; rw [if_neg (nol_if h), if_neg he]
  split
  · rfl
  · rw [if_neg]
    intro e
    obtain ⟨r, hr, e0⟩ := hr
    have := List.all_eq_true.1 e r hr
    simp [e0] at this
theorem mot0 (h : NoL m l t r) (he : ¬ Edg m) (h0 : ¬ m.T.length = 0) (hg : ∀ q ∈ bl3 m l t r, goodB q.2 = true) (hr : ∀ r ∈ m.T, ¬ r.length = 0) : motE m = 0 := by
  unfold motE; rw [if_neg (nol_if h), if_neg he, if_neg (good_if h0 hg), if_pos]
  exact List.all_eq_true.2 fun r h => by simpa using hr r h
theorem edg_at {i : Nat} (hi : i < 2) (h : 0 < ((bl2 m l r).getD i cq0).2.length ∧ ((bl2 m l r).getD i cq0).2.length ≠ m.T.length) : Edg m := by
  match i, hi, h with
  | 0, _, h => exact .inl ⟨by have := h.1; simp only [bl2, List.getD, List.getElem?_cons_zero, Option.getD_some] at this; omega, h.2⟩
  | 1, _, h => exact .inr ⟨by have := h.1; simp only [bl2, List.getD, List.getElem?_cons_succ, List.getElem?_cons_zero, Option.getD_some] at this; omega, h.2⟩
theorem edg_no (h : ∀ i, i < 2 → ¬ (0 < ((bl2 m l r).getD i cq0).2.length ∧ ((bl2 m l r).getD i cq0).2.length ≠ m.T.length)) : ¬ Edg m := by
  rintro (e | e)
  · exact h 0 (by omega) ⟨Nat.pos_of_ne_zero e.1, e.2⟩
  · exact h 1 (by omega) ⟨Nat.pos_of_ne_zero e.1, e.2⟩
end
theorem MotAt.len {w : World} {m : Mot} {l t r : SV} (h : MotAt w m l t r) : l.2.1 = m.L.length ∧ t.2.1 = m.T.length ∧ r.2.1 = m.R.length := ⟨sll_len h.L, sll_len h.T, sll_len h.R⟩
def PcsQ (w : World) (qs : List PQ) : Prop := ∀ q ∈ qs, MotAt w q.p.mot q.l q.t q.r
theorem PcsQ.ext {w w' : World} {qs : List PQ} (h : PcsQ w qs) (hf : Fr [] w w') : PcsQ w' qs := fun q hq => (h q hq).ext hf
theorem PcsQ.at {w : World} {qs : List PQ} (h : PcsQ w qs) {i : Nat} (hi : i < qs.length) : MotAt w (qs.getD i pq0).p.mot (qs.getD i pq0).l (qs.getD i pq0).t (qs.getD i pq0).r := h _ (getD_memS hi)
abbrev pcs (qs : List PQ) : List Pc := qs.map PQ.p
theorem pcs_get (qs : List PQ) (i : Nat) : (pcs qs).getD i pc0 = (qs.getD i pq0).p := by
  rw [List.getD, List.getD, List.getElem?_map]
  cases qs[i]? <;> rfl
/-! Items: a name, a chart, a number. -/
structure IQ where
  nm : List UInt8
  c : SV
  ct : Int
  rows : RowL
def iq0 : IQ := ⟨[], sv0, 0, []⟩
def encIq : Enc IQ := ⟨fun q => [S q.nm, .slice q.c.1 q.c.2.1 q.c.2.2, .int .i64 q.ct], 3, fun _ => rfl, fun _ u h => by simp at h; rcases h with rfl | rfl | rfl <;> rfl, by decide⟩
def ItmQ (w : World) (qs : List IQ) : Prop := ∀ q ∈ qs, Sll encSt w (slv q.c) q.rows
theorem ItmQ.ext {w w' : World} {qs : List IQ} (h : ItmQ w qs) (hf : Fr [] w w') : ItmQ w' qs := fun q hq => (h q hq).ext hf
theorem ItmQ.at {w : World} {qs : List IQ} (h : ItmQ w qs) {i : Nat} (hi : i < qs.length) : Sll encSt w (slv (qs.getD i iq0).c) (qs.getD i iq0).rows := h _ (getD_memS hi)
end Go.G14
namespace Go.G14
open Go.Lw
def wide (c : RowL) : Bool := c.any fun r => decide (16 < r.length)
theorem wide_iff (c : RowL) : wide c = true ↔ ∃ r ∈ c, 16 < r.length := by unfold wide; simp
theorem wide_no {c : RowL} (h : ¬ wide c = true) : ∀ r ∈ c, r.length ≤ 16 := fun r hr => by
  rcases Nat.lt_or_ge 16 r.length with h1 | h1
  · exact absurd ((wide_iff c).2 ⟨r, hr, h1⟩) h
  · exact h1
theorem large_wide (c : RowL) : largeB c = (decide (31 < c.length) || wide c) := rfl
def besR (qs : List CQ) (i : Nat) : List Stitch := qs.flatMap fun q => q.2.getD i []
def besS (qs : List CQ) (h : Nat) : RowL := (List.range h).map (besR qs)
def besE (qs : List CQ) (h : Nat) : Int := if wide (besS qs h) = true then 3 else 0
theorem bes_bad {qs : List CQ} {h i : Nat} (hi : i < h) (hw : 16 < (besR qs i).length) : besE qs h = 3 := by
  rw [besE, if_pos]; exact (wide_iff _).2 ⟨_, List.mem_map.2 ⟨i, List.mem_range.2 hi, rfl⟩, hw⟩
theorem bes_good {qs : List CQ} {h : Nat} (hw : ∀ i, i < h → ¬ 16 < (besR qs i).length) : besE qs h = 0 := by
  rw [besE, if_neg]
  rw [wide_iff]; rintro ⟨r, hr, h2⟩
  obtain ⟨i, hi, rfl⟩ := List.mem_map.1 hr
  exact hw i (List.mem_range.1 hi) h2
theorem flat_snd {ps : List RQ} {l : List (List Stitch)} (h : ps.map Prod.snd = l) : ps.flatMap Prod.snd = l.flatten := by
  rw [List.flatMap_def, h]
theorem bes_flat {qs : List CQ} {ps : List RQ} {i : Nat} (h : ps.map Prod.snd = qs.map fun q => q.2.getD i []) : ps.flatMap Prod.snd = besR qs i := by
  rw [flat_snd h, besR, List.flatMap_def]
theorem take_map {α β : Type} (f : α → β) (l : List α) (i : Nat) (d : α) (h : i < l.length) : (l.take (i + 1)).map f = (l.take i).map f ++ [f (l.getD i d)] := by
  rw [List.take_add_one, List.getElem?_eq_getElem h, List.map_append, List.getD, List.getElem?_eq_getElem h]; rfl
theorem range_map_succ {β : Type} (f : Nat → β) (i : Nat) : (List.range (i + 1)).map f = (List.range i).map f ++ [f i] := by
  rw [List.range_succ, List.map_append]; rfl
theorem part_le {qs : List CQ} {i j : Nat} (hw : ∀ q ∈ qs, ∀ r ∈ q.2, r.length ≤ 16) : (((qs.take j).map fun q => q.2.getD i []).flatten).length ≤ 16 * j := by
  induction j with
  | zero => simp
  | succ j ih =>
    by_cases h : j < qs.length
    · rw [take_map _ qs j cq0 h, List.flatten_append, List.length_append]
      have : ((qs.getD j cq0).2.getD i []).length ≤ 16 := by
        rcases Nat.lt_or_ge i (qs.getD j cq0).2.length with h1 | h1
        · exact hw _ (getD_memS h) _ (getD_memS h1)
        · rw [List.getD, List.getElem?_eq_none h1]; simp
      simp only [List.flatten_cons, List.flatten_nil, List.append_nil]; omega
    · rw [List.take_of_length_le (by omega)] at ih ⊢; omega
/-! The block of a motif. -/
def tilesL (m : Mot) (l t r : SV) (n : Nat) : List CQ := edgeL (l, m.L) ++ (List.replicate n (t, m.T) ++ edgeL (r, m.R))
def blkE (m : Mot) (n : Nat) : Int := if 16 < n then 3 else if wide (sideM m n) = true then 3 else 0
theorem edge_flat (q : CQ) (i : Nat) : ((edgeL q).flatMap fun q => q.2.getD i []) = q.2.getD i [] := by
  unfold edgeL
  split
  · rename_i h; rw [List.length_eq_zero_iff.1 h]; rfl
  · simp
theorem tiles_row (m : Mot) (l t r : SV) (n i : Nat) : besR (tilesL m l t r n) i = sideR m n i := by
  unfold besR tilesL sideR
  rw [List.flatMap_append, List.flatMap_append, edge_flat, edge_flat]
  congr 2
  induction n with
  | zero => rfl
  | succ n ih => rw [List.replicate_succ, List.flatMap_cons, ih, List.replicate_succ, List.flatten_cons]
theorem tiles_bes (m : Mot) (l t r : SV) (n : Nat) : besS (tilesL m l t r n) m.T.length = sideM m n := by
  unfold besS sideM; exact List.map_congr_left fun i _ => tiles_row m l t r n i
theorem edge_len (q : CQ) : (edgeL q).length ≤ 1 := by unfold edgeL; split <;> simp
theorem tiles_len (m : Mot) (l t r : SV) (n : Nat) : n ≤ (tilesL m l t r n).length ∧ (tilesL m l t r n).length ≤ n + 2 := by
  have h1 := edge_len (l, m.L)
  have h2 := edge_len (r, m.R)
  unfold tilesL
  simp only [List.length_append, List.length_replicate]; omega
theorem large_len {c : RowL} (h : largeB c = false) : c.length ≤ 31 ∧ ∀ r ∈ c, r.length ≤ 16 := by
  rw [large_wide, Bool.or_eq_false_iff, decide_eq_false_iff_not] at h
  exact ⟨by omega, wide_no (by rw [h.2]; decide)⟩
theorem mot_all {m : Mot} (h : motE m = 0) : largeB m.L = false ∧ largeB m.T = false ∧ largeB m.R = false ∧ (m.L.length = 0 ∨ m.L.length = m.T.length) ∧ (m.R.length = 0 ∨ m.R.length = m.T.length) ∧ 1 ≤ m.T.length ∧ (∀ i, i < m.T.length → m.T.getD i [] ≠ []) := by
  have ht := mot_tile h
  unfold motE at h
  split at h
  · omega
  split at h
  · omega
  · rename_i h1 h2
    refine ⟨?_, ?_, ?_, by omega, by omega, ht.1, ht.2.1⟩
    · cases e : largeB m.L; rfl; exact absurd (.inl e) h1
    · cases e : largeB m.T; rfl; exact absurd (.inr (.inl e)) h1
    · cases e : largeB m.R; rfl; exact absurd (.inr (.inr e)) h1
theorem tiles_mem {m : Mot} {l t r : SV} {n : Nat} {q : CQ} (hq : q ∈ tilesL m l t r n) : (q = (l, m.L) ∧ m.L.length ≠ 0) ∨ q = (t, m.T) ∨ (q = (r, m.R) ∧ m.R.length ≠ 0) := by
  unfold tilesL at hq
  rw [List.mem_append, List.mem_append] at hq
  have he : ∀ z : CQ, q ∈ edgeL z → q = z ∧ z.2.length ≠ 0 := by
    intro z hz
    unfold edgeL at hz
    split at hz
    · cases hz
    · exact ⟨List.mem_singleton.1 hz, by assumption⟩
  rcases hq with hq | hq | hq
  · exact .inl (he _ hq)
  · exact .inr (.inl (List.eq_of_mem_replicate hq))
  · exact .inr (.inr (he _ hq))
theorem tiles_ok {m : Mot} {l t r : SV} {n : Nat} (h : motE m = 0) : (∀ q ∈ tilesL m l t r n, q.2.length = m.T.length) ∧ ∀ q ∈ tilesL m l t r n, ∀ x ∈ q.2, x.length ≤ 16 := by
  obtain ⟨a1, a2, a3, a4, a5, _⟩ := mot_all h
  refine ⟨fun q hq => ?_, fun q hq => ?_⟩
  · rcases tiles_mem hq with ⟨rfl, h1⟩ | rfl | ⟨rfl, h1⟩
    · exact a4.resolve_left h1
    · rfl
    · exact a5.resolve_left h1
  · rcases tiles_mem hq with ⟨rfl, _⟩ | rfl | ⟨rfl, _⟩
    · exact (large_len a1).2
    · exact (large_len a2).2
    · exact (large_len a3).2
theorem tiles_chs {w : World} {m : Mot} {l t r : SV} {n : Nat} (hm : MotAt w m l t r) : ChsQ w (tilesL m l t r n) := fun q hq => by
  rcases tiles_mem hq with ⟨rfl, _⟩ | rfl | ⟨rfl, _⟩
  · exact hm.L
  · exact hm.T
  · exact hm.R
/-! Blocks above each other. -/
def abvE (qs : List CQ) : Int := if ¬ (∀ q ∈ qs, largeB q.2 = false) then 3 else if 31 < (qs.flatMap Prod.snd).length then 3 else 0
theorem rep_flat (q : CQ) : ∀ n, (List.replicate n q).flatMap Prod.snd = (List.replicate n q.2).flatten
  | 0 => rfl
  | n + 1 => by rw [List.replicate_succ, List.flatMap_cons, rep_flat q n, List.replicate_succ, List.flatten_cons]
theorem side_wide {m : Mot} {n up : Nat} (hu : 1 ≤ up) : wide (stackM m n up) = wide (sideM m n) := by
  rw [Bool.eq_iff_iff, wide_iff, wide_iff]
  constructor
  · rintro ⟨r, hr, h⟩
    obtain ⟨c, hc, hr⟩ := List.mem_flatten.1 hr
    rw [List.eq_of_mem_replicate hc] at hr
    exact ⟨r, hr, h⟩
  · rintro ⟨r, hr, h⟩
    exact ⟨r, List.mem_flatten.2 ⟨_, List.mem_replicate.2 ⟨by omega, rfl⟩, hr⟩, h⟩
theorem flat_rep_len {α : Type} (a : List α) : ∀ n : Nat, (List.replicate n a).flatten.length = n * a.length
  | 0 => by simp
  | n + 1 => by rw [List.replicate_succ, List.flatten_cons, List.length_append, flat_rep_len a n, Nat.add_mul]; omega
theorem side_long {m : Mot} {n : Nat} (h : motE m = 0) (hn : 16 < n) : wide (sideM m n) = true := by
  obtain ⟨_, _, _, _, _, t1, t2⟩ := mot_all h
  refine (wide_iff _).2 ⟨sideR m n 0, List.mem_map.2 ⟨0, List.mem_range.2 (by omega), rfl⟩, ?_⟩
  unfold sideR
  rw [List.length_append, List.length_append, flat_rep_len]
  have : 1 ≤ (m.T.getD 0 []).length := List.length_pos_iff.2 (t2 0 (by omega))
  have : n * 1 ≤ n * (m.T.getD 0 []).length := Nat.mul_le_mul_left _ this
  omega
theorem stk_mot {m : Mot} {n up : Int} (h : motE m ≠ 0) : stackE m n up = motE m := if_pos h
theorem stk_arg {m : Mot} {n up : Int} (h : motE m = 0) (h1 : n < 1 ∨ up < 1) : stackE m n up = 1 := by
  unfold stackE; rw [if_neg (by omega), if_pos h1]
theorem stk_up {m : Mot} {n up : Int} (h : motE m = 0) (h1 : ¬ (n < 1 ∨ up < 1)) (h2 : 31 < up) : stackE m n up = 3 := by
  unfold stackE; rw [if_neg (by omega), if_neg h1, if_pos]
  rw [large_wide, Bool.or_eq_true, decide_eq_true_eq, stackM_len]
  left
  have t1 := (mot_all h).2.2.2.2.2.1
  have : up.toNat * 1 ≤ up.toNat * m.T.length := Nat.mul_le_mul_left _ t1
  omega
theorem stk_blk {m : Mot} {n up : Int} (h : motE m = 0) (h1 : ¬ (n < 1 ∨ up < 1)) (h2 : blkE m n.toNat ≠ 0) : stackE m n up = 3 ∧ blkE m n.toNat = 3 := by
  have hb : blkE m n.toNat = 3 ∧ wide (sideM m n.toNat) = true := by
    unfold blkE at h2 ⊢
    split
    · rename_i hh; exact ⟨rfl, side_long h hh⟩
    · rename_i hh
      rw [if_neg hh] at h2
      split
      · exact ⟨rfl, by assumption⟩
      · rename_i h3; rw [if_neg h3] at h2; exact absurd rfl h2
  refine ⟨?_, hb.1⟩
  unfold stackE; rw [if_neg (by omega), if_neg h1, if_pos]
  rw [large_wide, side_wide (by omega), hb.2]; simp
theorem blk_of {m : Mot} {n : Nat} (h2 : blkE m n = 0) : n ≤ 16 ∧ ¬ wide (sideM m n) = true := by
  unfold blkE at h2
  split at h2
  · omega
  · split at h2
    · omega
    · exact ⟨by omega, by assumption⟩
theorem stk_abv {m : Mot} {n up : Int} {s : SV} (h : motE m = 0) (h1 : ¬ (n < 1 ∨ up < 1)) (h2 : blkE m n.toNat = 0) : abvE (List.replicate up.toNat (s, sideM m n.toNat)) = (if 31 < (stackM m n.toNat up.toNat).length then 3 else 0) ∧ (abvE (List.replicate up.toNat (s, sideM m n.toNat)) ≠ 0 → stackE m n up = 3) ∧ (abvE (List.replicate up.toNat (s, sideM m n.toNat)) = 0 → stackE m n up = chartE (stackM m n.toNat up.toNat)) := by
  obtain ⟨b1, b2⟩ := blk_of h2
  have t3 := (mot_tile h).2.2
  have hl : largeB (sideM m n.toNat) = false := by
    rw [large_wide, Bool.or_eq_false_iff, decide_eq_false_iff_not, sideM_len]
    exact ⟨by omega, by simpa using b2⟩
  have e1 : abvE (List.replicate up.toNat (s, sideM m n.toNat)) = if 31 < (stackM m n.toNat up.toNat).length then 3 else 0 := by
    unfold abvE
    rw [if_neg (fun hh => hh fun q hq => by rw [List.eq_of_mem_replicate hq]; exact hl), rep_flat]; rfl
  refine ⟨e1, fun e => ?_, fun e => ?_⟩
  · rw [e1] at e
    unfold stackE; rw [if_neg (by omega), if_neg h1, if_pos]
    rw [large_wide, Bool.or_eq_true, decide_eq_true_eq]
    left
    split at e
    · assumption
    · exact absurd rfl e
  · rw [e1] at e
    unfold stackE; rw [if_neg (by omega), if_neg h1, if_neg]
    rw [large_wide, side_wide (by omega), Bool.or_eq_true, decide_eq_true_eq]
    rintro (hh | hh)
    · rw [if_pos hh] at e; omega
    · exact b2 hh
theorem slln {α : Type} {E : Enc α} (w : World) : Sll E w (.slice none 0 0) [] := ⟨[], Sl.nil w, rfl, fun i p r hp => by simp at hp⟩
theorem tks_flat (m : Mot) (l t r p q s : SV) (n : Nat) : ([(p, edgeL (l, m.L)), (q, List.replicate n (t, m.T)), (s, edgeL (r, m.R))] : List KQ).flatMap Prod.snd = tilesL m l t r n := by simp [tilesL]
theorem blk_bes {m : Mot} {l t r : SV} {n : Nat} (h : ¬ 16 < n) : besE (tilesL m l t r n) m.T.length = blkE m n := by
  unfold besE blkE; rw [tiles_bes, if_neg h]
theorem take_one {α : Type} (l : List α) (j : Nat) (d : α) (h : j < l.length) : l.take (j + 1) = l.take j ++ [l.getD j d] := by
  rw [List.take_add_one, List.getElem?_eq_getElem h, List.getD, List.getElem?_eq_getElem h]; rfl
/-! Slices of the call's own of different types lie in different blocks. -/
theorem ownT_dis {α β : Type} {E : Enc α} {E' : Enc β} {T T' b b' : Nat} {w : World} {v v' : Value} {xs : List α} {ys : List β} (h : Lw.Own E T b w v xs) (h' : Lw.Own E' T' b' w v' ys) (hT : T ≠ T') : ∀ k ∈ blks v, k ∉ blks v' := by
  intro k hk hk'
  rcases h with ⟨rfl, rfl⟩ | ⟨g, c, cur, rfl, _, hg, _⟩
  · cases hk
  rcases h' with ⟨rfl, rfl⟩ | ⟨g', c', cur', rfl, _, hg', _⟩
  · cases hk'
  simp only [blks, List.mem_singleton] at hk hk'
  subst hk; subst hk'
  rw [hg] at hg'; cases hg'; exact hT rfl
theorem RwO.frT {T N Ro b : Nat} {w w' : World} {qs : List RQ} {α : Type} {E : Enc α} {v : Value} {xs : List α} (h : RwO T N w qs) (hf : Fr (blks v) w w') (ho : Lw.Own E Ro b w v xs) (hT : Ro ≠ T) : RwO T N w' qs :=
  fun q hq => (h q hq).fr hf fun k hk hb => ownT_dis ho (h q hq) hT k hk hb
theorem RwO.low {T N M : Nat} {w : World} {qs : List RQ} (h : RwO T N w qs) (hM : M ≤ N) : RwO T M w qs := fun q hq => (h q hq).low hM
/-- Rows of the call's own: the outer slice and the rows. -/
def OwR (R T N : Nat) (w : World) (X : Value) (rows : RowL) : Prop := ∃ qs : List RQ, Lw.Own encRq R N w X qs ∧ RwO T N w qs ∧ qs.map Prod.snd = rows
section
variable {R T N : Nat} {w w' : World} {X : Value} {rows : RowL}
theorem OwR.fr {S : List Nat} (h : OwR R T N w X rows) (hf : Fr S w w') (hS : ∀ k ∈ S, k < N) : OwR R T N w' X rows := by
  obtain ⟨qs, h1, h2, h3⟩ := h
  exact ⟨qs, h1.fr hf (fun k hk hb => by have := (h1.blk k hb).1; have := hS k hk; omega), h2.fr hf hS, h3⟩
theorem OwR.ext (h : OwR R T N w X rows) (hf : Fr [] w w') : OwR R T N w' X rows := h.fr hf (by simp)
theorem OwR.sll (h : OwR R T N w X rows) : Sll encSt w X rows := by
  obtain ⟨qs, h1, h2, h3⟩ := h
  rw [← h3]; exact sll_of h1.sl h2.q
theorem OwR.low {M : Nat} (h : OwR R T N w X rows) (hM : M ≤ N) : OwR R T M w X rows := by
  obtain ⟨qs, h1, h2, h3⟩ := h
  exact ⟨qs, h1.low hM, h2.low hM, h3⟩
theorem OwR.form (h : OwR R T N w X rows) : ∃ A c, X = .slice A rows.length c ∧ rows.length ≤ c := by
  obtain ⟨A, c, e, h1, _⟩ := h.sll.form
  exact ⟨A, c, e, h1⟩
theorem OwR.nil (w : World) : OwR R T N w (.slice none 0 0) [] := ⟨[], Own.nil w, RwO.nil, rfl⟩
end
theorem stk_large {m : Mot} {n up : Int} (h : motE m = 0) (h1 : ¬ (n < 1 ∨ up < 1)) (h2 : largeB (stackM m n.toNat up.toNat) = true) : stackE m n up = 3 := by
  unfold stackE; rw [if_neg (by omega), if_neg h1, if_pos h2]
def ItmO (R T N : Nat) (w : World) (its : List IQ) : Prop := ∀ q ∈ its, OwR R T N w (slv q.c) q.rows
theorem ItmO.fr {R T N : Nat} {w w' : World} {its : List IQ} {S : List Nat} (h : ItmO R T N w its) (hf : Fr S w w') (hS : ∀ k ∈ S, k < N) : ItmO R T N w' its := fun q hq => (h q hq).fr hf hS
theorem ItmO.ext {R T N : Nat} {w w' : World} {its : List IQ} (h : ItmO R T N w its) (hf : Fr [] w w') : ItmO R T N w' its := h.fr hf (by simp)
theorem ItmO.nil {R T N : Nat} {w : World} : ItmO R T N w [] := fun q hq => by cases hq
theorem ItmO.snoc {R T N : Nat} {w : World} {its : List IQ} {q : IQ} (h : ItmO R T N w its) (hq : OwR R T N w (slv q.c) q.rows) : ItmO R T N w (its ++ [q]) := fun x hx => by
  rcases List.mem_append.1 hx with hx | hx
  · exact h x hx
  · rw [List.mem_singleton.1 hx]; exact hq
theorem ItmO.low {R T N M : Nat} {w : World} {its : List IQ} (h : ItmO R T N w its) (hM : M ≤ N) : ItmO R T M w its := fun q hq => (h q hq).low hM
theorem ItmO.q {R T N : Nat} {w : World} {its : List IQ} (h : ItmO R T N w its) : ItmQ w its := fun q hq => (h q hq).sll
/-- What an item says of a piece in a size. -/
def itmOf (size : Int) (p : Pc) (q : IQ) : Prop := q.nm = p.nm ∧ q.ct = p.ct ∧ q.rows = chartP size p
theorem charts_at {size : Int} : ∀ {qs : List PQ} {i : Nat}, i < qs.length → (∀ j, j < i → stackE (qs.getD j pq0).p.mot (tiles (qs.getD j pq0).p size) (qs.getD j pq0).p.up = 0) → stackE (qs.getD i pq0).p.mot (tiles (qs.getD i pq0).p size) (qs.getD i pq0).p.up ≠ 0 → chartsE size (pcs qs) = stackE (qs.getD i pq0).p.mot (tiles (qs.getD i pq0).p size) (qs.getD i pq0).p.up
  | [], i, h, _, _ => by simp at h
  | q :: qs, 0, _, _, h => by
    show (if stackE q.p.mot (tiles q.p size) q.p.up ≠ 0 then _ else _) = _
    rw [if_pos (show stackE q.p.mot (tiles q.p size) q.p.up ≠ 0 from h)]; rfl
  | q :: qs, i + 1, hl, hb, h => by
    have h0 : stackE q.p.mot (tiles q.p size) q.p.up = 0 := hb 0 (by omega)
    show (if stackE q.p.mot (tiles q.p size) q.p.up ≠ 0 then _ else chartsE size (pcs qs)) = _
    rw [if_neg (by omega)]
    exact charts_at (qs := qs) (i := i) (by simp at hl; omega) (fun j hj => hb (j + 1) (by omega)) h
theorem charts_no {size : Int} : ∀ {qs : List PQ}, (∀ j, j < qs.length → stackE (qs.getD j pq0).p.mot (tiles (qs.getD j pq0).p size) (qs.getD j pq0).p.up = 0) → chartsE size (pcs qs) = 0
  | [], _ => rfl
  | q :: qs, hb => by
    have h0 : stackE q.p.mot (tiles q.p size) q.p.up = 0 := hb 0 (by simp)
    show (if stackE q.p.mot (tiles q.p size) q.p.up ≠ 0 then _ else chartsE size (pcs qs)) = _
    rw [if_neg (by omega)]
    exact charts_no (qs := qs) fun j hj => hb (j + 1) (by simp; omega)
theorem make_a {nm : List UInt8} {ps : List Pc} {size : Int} (h : garE nm ps ≠ 0) : makeE nm ps size = garE nm ps := if_pos h
theorem make_b {nm : List UInt8} {ps : List Pc} {size : Int} (h : garE nm ps = 0) (h2 : size < 0 ∨ 9 < size) : makeE nm ps size = 1 := by unfold makeE; rw [if_neg (by omega), if_pos h2]
theorem make_c {nm : List UInt8} {ps : List Pc} {size : Int} (h : garE nm ps = 0) (h2 : ¬ (size < 0 ∨ 9 < size)) : makeE nm ps size = chartsE size ps := by unfold makeE; rw [if_neg (by omega), if_neg h2]
theorem tiles_rng {p : Pc} {size : Int} (h : rightB p = true) (h0 : 0 ≤ size) (h9 : size ≤ 9) : 0 ≤ size * p.st ∧ size * p.st ≤ 36 ∧ 1 ≤ tiles p size ∧ tiles p size ≤ 52 := by
  obtain ⟨_, r1, r2, r3, r4, _⟩ := right_of h
  have e1 := Int.mul_nonneg h0 r3
  have e2 : size * p.st ≤ 9 * 4 := Int.mul_le_mul h9 r4 r3 (by omega)
  unfold tiles; omega
/-! Charts of the call's own. -/
def ChO (R T N : Nat) (w : World) (cs : List CQ) : Prop := ∀ q ∈ cs, OwR R T N w (slv q.1) q.2
section
variable {R T N : Nat} {w w' : World} {cs : List CQ}
theorem ChO.fr {S : List Nat} (h : ChO R T N w cs) (hf : Fr S w w') (hS : ∀ k ∈ S, k < N) : ChO R T N w' cs := fun q hq => (h q hq).fr hf hS
theorem ChO.ext (h : ChO R T N w cs) (hf : Fr [] w w') : ChO R T N w' cs := h.fr hf (by simp)
theorem ChO.nil : ChO R T N w [] := fun q hq => by cases hq
theorem ChO.snoc {q : CQ} (h : ChO R T N w cs) (hq : OwR R T N w (slv q.1) q.2) : ChO R T N w (cs ++ [q]) := fun x hx => by
  rcases List.mem_append.1 hx with hx | hx
  · exact h x hx
  · rw [List.mem_singleton.1 hx]; exact hq
theorem ChO.low {M : Nat} (h : ChO R T N w cs) (hM : M ≤ N) : ChO R T M w cs := fun q hq => (h q hq).low hM
theorem ChO.q (h : ChO R T N w cs) : ChsQ w cs := fun q hq => (h q hq).sll
theorem OwR.frT {α : Type} {E : Enc α} {Ro b : Nat} {v X : Value} {xs : List α} {rows : RowL} (h : OwR R T N w X rows) (hf : Fr (blks v) w w') (ho : Lw.Own E Ro b w v xs) (h1 : Ro ≠ R) (h2 : Ro ≠ T) : OwR R T N w' X rows := by
  obtain ⟨qs, a1, a2, a3⟩ := h
  exact ⟨qs, a1.fr hf fun k hk hb => ownT_dis ho a1 h1 k hk hb, a2.frT hf ho h2, a3⟩
theorem ChO.frT {α : Type} {E : Enc α} {Ro b : Nat} {v : Value} {xs : List α} (h : ChO R T N w cs) (hf : Fr (blks v) w w') (ho : Lw.Own E Ro b w v xs) (h1 : Ro ≠ R) (h2 : Ro ≠ T) : ChO R T N w' cs := fun q hq => (h q hq).frT hf ho h1 h2
end
def sizesTo (nm : List UInt8) (ps : List Pc) (i : Nat) : List Int := ((List.range i).filter fun s : Nat => decide (makeE nm ps (s : Int) = 0)).map fun s : Nat => (s : Int)
theorem sizes_yes {nm : List UInt8} {ps : List Pc} {i : Nat} (h : makeE nm ps (i : Int) = 0) : sizesTo nm ps (i + 1) = sizesTo nm ps i ++ [(i : Int)] := by
  unfold sizesTo; rw [List.range_succ, List.filter_append, List.map_append]; simp [h]
theorem sizes_no {nm : List UInt8} {ps : List Pc} {i : Nat} (h : ¬ makeE nm ps (i : Int) = 0) : sizesTo nm ps (i + 1) = sizesTo nm ps i := by
  unfold sizesTo; rw [List.range_succ, List.filter_append, List.map_append]; simp [h]
theorem sizes_len (nm : List UInt8) (ps : List Pc) (i : Nat) : (sizesTo nm ps i).length ≤ i := by
  unfold sizesTo; rw [List.length_map]
  exact Nat.le_trans (List.length_filter_le _ _) (by simp)
end Go.G14
namespace Go.G14
open Go.Lw
theorem own_rq {R N : Nat} {w : World} {v : Value} {ps : List RQ} (h : Lw.Own Enc.sl R N w v (ps.map Prod.fst)) : Lw.Own encRq R N w v ps := by
  rcases h with ⟨e, h⟩ | ⟨g, cap, cur, e, h1, h2, h3, h4, h5, h6⟩
  · exact .inl ⟨e, by simpa using h⟩
  · rw [List.length_map] at e h3 h6
    refine .inr ⟨g, cap, cur, e, h1, h2, h3, h4, h5, ?_⟩
    have e1 : (ps.map Prod.fst).flatMap Enc.sl.enc = ps.flatMap encRq.enc := by
      rw [List.flatMap_map]; rfl
    rw [← e1]; exact h6
theorem owr_of {R T N : Nat} {w : World} {X : Value} {ps : List RQ} (h : RowsO R T N w X ps) : OwR R T N w X (ps.map Prod.snd) := ⟨ps, own_rq h.out, h.ins, rfl⟩
/-- Lists of bytes, each of which can be read. -/
def BytesAt (w : World) (hs : List SV) : Prop := ∀ p ∈ hs, ∃ cs, Sl Enc.b w (slv p) cs
theorem BytesAt.ext {w w' : World} {hs : List SV} (h : BytesAt w hs) (hf : Fr [] w w') : BytesAt w' hs := fun p hp => (h p hp).imp fun _ x => x.ext hf
def goodM (c : RowL) : Prop := ∀ r ∈ c, goodRow r
theorem good_rng {c : RowL} (h : goodM c) : rowsR c := fun r hr s hs => by
  have := check_rng ((okB_iff s).1 (List.all_eq_true.1 (h r hr).2.1 s hs))
  omega
theorem good_nil : goodM [] := fun r hr => by cases hr
/-- A motif of the call's own. -/
structure MotO (R0 T0 N : Nat) (w : World) (X Y Z : Value) (m : Mot) : Prop where
  L : OwR R0 T0 N w X m.L
  T : OwR R0 T0 N w Y m.T
  R : OwR R0 T0 N w Z m.R
  gL : goodM m.L
  gT : goodM m.T
  gR : goodM m.R
theorem MotO.fr {R0 T0 N : Nat} {w w' : World} {X Y Z : Value} {m : Mot} {S : List Nat} (h : MotO R0 T0 N w X Y Z m) (hf : Fr S w w') (hS : ∀ k ∈ S, k < N) : MotO R0 T0 N w' X Y Z m := ⟨h.L.fr hf hS, h.T.fr hf hS, h.R.fr hf hS, h.gL, h.gT, h.gR⟩
theorem MotO.ext {R0 T0 N : Nat} {w w' : World} {X Y Z : Value} {m : Mot} (h : MotO R0 T0 N w X Y Z m) (hf : Fr [] w w') : MotO R0 T0 N w' X Y Z m := h.fr hf (by simp)
theorem MotO.low {R0 T0 N M : Nat} {w : World} {X Y Z : Value} {m : Mot} (h : MotO R0 T0 N w X Y Z m) (hM : M ≤ N) : MotO R0 T0 M w X Y Z m := ⟨h.L.low hM, h.T.low hM, h.R.low hM, h.gL, h.gT, h.gR⟩
theorem MotO.at {R0 T0 N : Nat} {w : World} {l t r : SV} {m : Mot} (h : MotO R0 T0 N w (slv l) (slv t) (slv r) m) : MotAt w m l t r := ⟨h.L.sll, h.T.sll, h.R.sll, good_rng h.gL, good_rng h.gT, good_rng h.gR⟩
/-- A piece as plain data of the law. -/
structure QD where
  ht : Int
  ed : Int
  lw : Int
  l : SV
  tw : Int
  t : SV
  rw : Int
  r : SV
  ba : Int
  st : Int
  up : Int
  ct : Int
def qd0 : QD := ⟨0, 0, 0, (none, 0, 0), 0, (none, 0, 0), 0, (none, 0, 0), 0, 0, 0, 0⟩
def encQd : Enc QD := ⟨fun q => [.int .u8 q.ht, .int .u8 q.ed, .int .u8 q.lw, .slice q.l.1 q.l.2.1 q.l.2.2, .int .u8 q.tw, .slice q.t.1 q.t.2.1 q.t.2.2, .int .u8 q.rw, .slice q.r.1 q.r.2.1 q.r.2.2, .int .u8 q.ba, .int .u8 q.st, .int .u8 q.up, .int .u8 q.ct], 12, fun _ => rfl, fun _ u h => by simp at h; rcases h with rfl | rfl | rfl | rfl | rfl | rfl | rfl | rfl | rfl | rfl | rfl | rfl <;> rfl, by decide⟩
def CAt (w : World) (v : SV) : Prop := ∃ hs, Sl Enc.sl w (slv v) hs ∧ BytesAt w hs
theorem CAt.ext {w w' : World} {v : SV} (h : CAt w v) (hf : Fr [] w w') : CAt w' v := by obtain ⟨hs, a, b⟩ := h; exact ⟨hs, a.ext hf, b.ext hf⟩
theorem CAt.nil (w : World) : CAt w (none, 0, 0) := ⟨[], Sl.nil w, fun p hp => by cases hp⟩
structure QAt (w : World) (q : QD) : Prop where
  l : CAt w q.l
  t : CAt w q.t
  r : CAt w q.r
  rg : (0 ≤ q.ht ∧ q.ht ≤ 255) ∧ (0 ≤ q.ed ∧ q.ed ≤ 255) ∧ (0 ≤ q.lw ∧ q.lw ≤ 255) ∧ (0 ≤ q.tw ∧ q.tw ≤ 255) ∧ (0 ≤ q.rw ∧ q.rw ≤ 255) ∧ (0 ≤ q.ba ∧ q.ba ≤ 255) ∧ (0 ≤ q.st ∧ q.st ≤ 255) ∧ (0 ≤ q.up ∧ q.up ≤ 255) ∧ (0 ≤ q.ct ∧ q.ct ≤ 255)
theorem QAt.ext {w w' : World} {q : QD} (h : QAt w q) (hf : Fr [] w w') : QAt w' q := ⟨h.l.ext hf, h.t.ext hf, h.r.ext hf, h.rg⟩
theorem QAt.zero (w : World) : QAt w qd0 := ⟨CAt.nil w, CAt.nil w, CAt.nil w, by simp [qd0]⟩
/-- Pieces of the call's own. -/
def PcsO (R0 T0 N : Nat) (w : World) (qs : List PQ) : Prop := ∀ q ∈ qs, MotO R0 T0 N w (slv q.l) (slv q.t) (slv q.r) q.p.mot
theorem own_ty {α : Type} {E : Enc α} {R0 N T : Nat} {w : World} {v : Value} {ys : List α} {cs : List Value} (h : Lw.Own E R0 N w v ys) {k : Nat} (hk : k ∈ blks v) (hb : Blk w k T cs) : T = R0 := by
  rcases h with ⟨rfl, -⟩ | ⟨g, cap, cur, rfl, _, hg, _⟩
  · cases hk
  · obtain rfl : k = g := by simpa [blks] using hk
    have hb2 : w.heap[k]? = some (.cells cs.toArray T (0, 0)) := hb
    rw [hg] at hb2
    cases hb2; rfl
def Apart (R0 T0 N : Nat) (w : World) (S : List Nat) : Prop := ∀ k ∈ S, k < N ∨ ∃ (T : Nat) (cs : List Value), Blk w k T cs ∧ T ≠ R0 ∧ T ≠ T0
theorem own_apart {α : Type} {E : Enc α} {R0 T0 R1 N M : Nat} {w : World} {v : Value} {ys : List α} (h : Lw.Own E R1 M w v ys) (h1 : R1 ≠ R0) (h2 : R1 ≠ T0) : Apart R0 T0 N w (blks v) := fun k hk => by
  rcases h with ⟨rfl, -⟩ | ⟨g, cap, cur, rfl, _, hg, _⟩
  · cases hk
  · obtain rfl : k = g := by simpa [blks] using hk
    exact .inr ⟨_, cur.toList, hg, h1, h2⟩
theorem own_ap {α : Type} {E : Enc α} {R0 R1 T0 N : Nat} {w w' : World} {v : Value} {ys : List α} {S : List Nat} (h : Lw.Own E R1 N w v ys) (hf : Fr S w w') (hS : Apart R0 T0 N w S) (hR : R1 = R0 ∨ R1 = T0) : Lw.Own E R1 N w' v ys := h.fr hf fun k hk hb => by
  rcases hS k hk with h1 | ⟨T, cs, h1, h2, h3⟩
  · have := (h.blk k hb).1; omega
  · have := own_ty h hb h1; rcases hR with e | e <;> omega
theorem OwR.fap {R0 T0 N : Nat} {w w' : World} {X : Value} {rows : RowL} {S : List Nat} (h : OwR R0 T0 N w X rows) (hf : Fr S w w') (hS : Apart R0 T0 N w S) : OwR R0 T0 N w' X rows := by
  obtain ⟨qs, h1, h2, h3⟩ := h
  exact ⟨qs, own_ap h1 hf hS (.inl rfl), fun q hq => own_ap (h2 q hq) hf hS (.inr rfl), h3⟩
theorem PcsO.fr {R0 T0 N : Nat} {w w' : World} {qs : List PQ} {S : List Nat} (h : PcsO R0 T0 N w qs) (hf : Fr S w w') (hS : Apart R0 T0 N w S) : PcsO R0 T0 N w' qs := fun q hq =>
  ⟨(h q hq).L.fap hf hS, (h q hq).T.fap hf hS, (h q hq).R.fap hf hS, (h q hq).gL, (h q hq).gT, (h q hq).gR⟩
theorem PcsO.ext {R0 T0 N : Nat} {w w' : World} {qs : List PQ} (h : PcsO R0 T0 N w qs) (hf : Fr [] w w') : PcsO R0 T0 N w' qs := h.fr hf (fun k hk => by cases hk)
theorem PcsO.low {R0 T0 N M : Nat} {w : World} {qs : List PQ} (h : PcsO R0 T0 N w qs) (hM : M ≤ N) : PcsO R0 T0 M w qs := fun q hq => (h q hq).low hM
theorem PcsO.nil {R0 T0 N : Nat} {w : World} : PcsO R0 T0 N w [] := fun q hq => by cases hq
theorem PcsO.snoc {R0 T0 N : Nat} {w : World} {qs : List PQ} {q : PQ} (h : PcsO R0 T0 N w qs) (hq : MotO R0 T0 N w (slv q.l) (slv q.t) (slv q.r) q.p.mot) : PcsO R0 T0 N w (qs ++ [q]) := fun x hx => by
  rcases List.mem_append.1 hx with hx | hx
  · exact h x hx
  · rw [List.mem_singleton.1 hx]; exact hq
theorem PcsO.q {R0 T0 N : Nat} {w : World} {qs : List PQ} (h : PcsO R0 T0 N w qs) : PcsQ w qs := fun q hq => (h q hq).at
theorem MotO.frT {α : Type} {E : Enc α} {R0 T0 N Ro b : Nat} {w w' : World} {v X Y Z : Value} {xs : List α} {m : Mot} (h : MotO R0 T0 N w X Y Z m) (hf : Fr (blks v) w w') (ho : Lw.Own E Ro b w v xs) (h1 : Ro ≠ R0) (h2 : Ro ≠ T0) : MotO R0 T0 N w' X Y Z m :=
  ⟨h.L.frT hf ho h1 h2, h.T.frT hf ho h1 h2, h.R.frT hf ho h1 h2, h.gL, h.gT, h.gR⟩
theorem PcsO.frT {α : Type} {E : Enc α} {R0 T0 N Ro b : Nat} {w w' : World} {v : Value} {xs : List α} {qs : List PQ} (h : PcsO R0 T0 N w qs) (hf : Fr (blks v) w w') (ho : Lw.Own E Ro b w v xs) (h1 : Ro ≠ R0) (h2 : Ro ≠ T0) : PcsO R0 T0 N w' qs := fun q hq => (h q hq).frT hf ho h1 h2
def QsAt (w : World) (ys : List QD) : Prop := ∀ q ∈ ys, QAt w q
theorem QsAt.ext {w w' : World} {ys : List QD} (h : QsAt w ys) (hf : Fr [] w w') : QsAt w' ys := fun q hq => (h q hq).ext hf
def ofN : List (List UInt8) := [[102, 114, 111, 110, 116], [98, 97, 99, 107], [97], [122, 122, 122, 122, 122, 122, 122, 122, 122, 122, 122, 122, 122, 122, 122, 122]]
end Go.G14
namespace Go.Proofs.YthehggmdcmpjeaaDoor
open Go.Lw Go.G14
def encC : Enc (Int × SV) := ⟨fun p => [.int .u8 p.1, slv p.2], 2, fun _ => rfl, fun _ u h => by simp [slv] at h; rcases h with rfl | rfl <;> rfl, by decide⟩
def encM : Enc (Int × Int × (Int × SV) × (Int × SV) × (Int × SV)) := ⟨fun p => [.int .u8 p.1, .int .u8 p.2.1, .int .u8 p.2.2.1.1, slv p.2.2.1.2, .int .u8 p.2.2.2.1.1, slv p.2.2.2.1.2, .int .u8 p.2.2.2.2.1, slv p.2.2.2.2.2], 8, fun _ => rfl, fun _ u h => by simp [slv] at h; rcases h with rfl | rfl | rfl | rfl | rfl | rfl | rfl | rfl <;> rfl, by decide⟩
def encGq : Enc (Int × SV) := encC
theorem opC0_len {cs : List Value} (h : cs.length = 2) : ∃ c0 c1, cs = [c0, c1] := match cs, h with | [c0, c1], _ => ⟨c0, c1, rfl⟩
theorem opC0 : Opens Tryd.prog 91 encC (fun w y => (0 ≤ y.1 ∧ y.1 ≤ 255) ∧ SlR Enc.sl (SlR Enc.b (fun _ _ => True)) w y.2) := by
  intro H enc w base sp held fuel cs x h
  obtain ⟨xs, n, _, _, hl, hlen, hf⟩ := DataW.trod_struct Tryd.underlying91 h
  rw [show Tryd.prog.cellsOf 91 = 2 by kernel_rfl] at hl
  obtain ⟨c0, c1, rfl⟩ := opC0_len hl
  have h0 : DataW.trod enc Tryd.prog w base sp held n 5 (([c0, c1].drop 0).take (Tryd.prog.cellsOf 5)) = xs[0]? := hf 0 _ rfl
  rw [show Tryd.prog.cellsOf 5 = 1 by kernel_rfl] at h0
  obtain ⟨y0, e0, r0⟩ := opens_field (cs := [c0]) h0 hlen (by decide) (opens_u8 Tryd.underlying5)
  have h1 : DataW.trod enc Tryd.prog w base sp held n 89 (([c0, c1].drop 1).take (Tryd.prog.cellsOf 89)) = xs[1]? := hf 1 _ rfl
  rw [show Tryd.prog.cellsOf 89 = 1 by kernel_rfl] at h1
  obtain ⟨y1, e1, r1⟩ := opens_field (cs := [c1]) h1 hlen (by decide) (opens_slice Tryd.underlying89 (by kernel_rfl) (opens_slice Tryd.underlying76 (by kernel_rfl) (opens_b Tryd.underlying5)))
  cases e0
  cases e1
  exact ⟨(y0, y1), rfl, ⟨r0, r1⟩⟩
theorem opCd : Opens Tryd.prog 91 encC (fun w y => (0 ≤ y.1 ∧ y.1 ≤ 255) ∧ CAt w y.2) := by
  intro H enc w base sp held fuel cs x h
  obtain ⟨y, rfl, h1, hs, h2, h3⟩ := opC0 H enc w base sp held fuel cs x h
  exact ⟨y, rfl, h1, hs, h2, fun p hp => (h3 p hp).imp fun _ z => z.1⟩
theorem opM_len {cs : List Value} (h : cs.length = 8) : ∃ c0 c1 c2 c3 c4 c5 c6 c7, cs = [c0, c1, c2, c3, c4, c5, c6, c7] := match cs, h with | [c0, c1, c2, c3, c4, c5, c6, c7], _ => ⟨c0, c1, c2, c3, c4, c5, c6, c7, rfl⟩
theorem opM : Opens Tryd.prog 93 encM (fun w m => (0 ≤ m.1 ∧ m.1 ≤ 255) ∧ (0 ≤ m.2.1 ∧ m.2.1 ≤ 255) ∧ ((0 ≤ m.2.2.1.1 ∧ m.2.2.1.1 ≤ 255) ∧ CAt w m.2.2.1.2) ∧ ((0 ≤ m.2.2.2.1.1 ∧ m.2.2.2.1.1 ≤ 255) ∧ CAt w m.2.2.2.1.2) ∧ ((0 ≤ m.2.2.2.2.1 ∧ m.2.2.2.2.1 ≤ 255) ∧ CAt w m.2.2.2.2.2)) := by
  intro H enc w base sp held fuel cs x h
  obtain ⟨xs, n, _, _, hl, hlen, hf⟩ := DataW.trod_struct Tryd.underlying93 h
  rw [show Tryd.prog.cellsOf 93 = 8 by kernel_rfl] at hl
  obtain ⟨c0, c1, c2, c3, c4, c5, c6, c7, rfl⟩ := opM_len hl
  have h0 : DataW.trod enc Tryd.prog w base sp held n 5 (([c0, c1, c2, c3, c4, c5, c6, c7].drop 0).take (Tryd.prog.cellsOf 5)) = xs[0]? := hf 0 _ rfl
  rw [show Tryd.prog.cellsOf 5 = 1 by kernel_rfl] at h0
  obtain ⟨y0, e0, r0⟩ := opens_field (cs := [c0]) h0 hlen (by decide) (opens_u8 Tryd.underlying5)
  have h1 : DataW.trod enc Tryd.prog w base sp held n 5 (([c0, c1, c2, c3, c4, c5, c6, c7].drop 1).take (Tryd.prog.cellsOf 5)) = xs[1]? := hf 1 _ rfl
  rw [show Tryd.prog.cellsOf 5 = 1 by kernel_rfl] at h1
  obtain ⟨y1, e1, r1⟩ := opens_field (cs := [c1]) h1 hlen (by decide) (opens_u8 Tryd.underlying5)
  have h2 : DataW.trod enc Tryd.prog w base sp held n 91 (([c0, c1, c2, c3, c4, c5, c6, c7].drop 2).take (Tryd.prog.cellsOf 91)) = xs[2]? := hf 2 _ rfl
  rw [show Tryd.prog.cellsOf 91 = 2 by kernel_rfl] at h2
  obtain ⟨y2, e2, r2⟩ := opens_field (cs := [c2, c3]) h2 hlen (by decide) opCd
  have h3 : DataW.trod enc Tryd.prog w base sp held n 91 (([c0, c1, c2, c3, c4, c5, c6, c7].drop 4).take (Tryd.prog.cellsOf 91)) = xs[3]? := hf 3 _ rfl
  rw [show Tryd.prog.cellsOf 91 = 2 by kernel_rfl] at h3
  obtain ⟨y3, e3, r3⟩ := opens_field (cs := [c4, c5]) h3 hlen (by decide) opCd
  have h4 : DataW.trod enc Tryd.prog w base sp held n 91 (([c0, c1, c2, c3, c4, c5, c6, c7].drop 6).take (Tryd.prog.cellsOf 91)) = xs[4]? := hf 4 _ rfl
  rw [show Tryd.prog.cellsOf 91 = 2 by kernel_rfl] at h4
  obtain ⟨y4, e4, r4⟩ := opens_field (cs := [c6, c7]) h4 hlen (by decide) opCd
  cases e0
  cases e1
  cases e2
  cases e3
  cases e4
  exact ⟨(y0, y1, y2, y3, y4), rfl, ⟨r0, r1, r2, r3, r4⟩⟩
theorem opQ_len {cs : List Value} (h : cs.length = 12) : ∃ c0 c1 c2 c3 c4 c5 c6 c7 c8 c9 c10 c11, cs = [c0, c1, c2, c3, c4, c5, c6, c7, c8, c9, c10, c11] := match cs, h with | [c0, c1, c2, c3, c4, c5, c6, c7, c8, c9, c10, c11], _ => ⟨c0, c1, c2, c3, c4, c5, c6, c7, c8, c9, c10, c11, rfl⟩
theorem opQ : Opens Tryd.prog 95 encQd (fun w q => QAt w q) := by
  intro H enc w base sp held fuel cs x h
  obtain ⟨xs, n, _, _, hl, hlen, hf⟩ := DataW.trod_struct Tryd.underlying95 h
  rw [show Tryd.prog.cellsOf 95 = 12 by kernel_rfl] at hl
  obtain ⟨c0, c1, c2, c3, c4, c5, c6, c7, c8, c9, c10, c11, rfl⟩ := opQ_len hl
  have h0 : DataW.trod enc Tryd.prog w base sp held n 93 (([c0, c1, c2, c3, c4, c5, c6, c7, c8, c9, c10, c11].drop 0).take (Tryd.prog.cellsOf 93)) = xs[0]? := hf 0 _ rfl
  rw [show Tryd.prog.cellsOf 93 = 8 by kernel_rfl] at h0
  obtain ⟨y0, e0, r0⟩ := opens_field (cs := [c0, c1, c2, c3, c4, c5, c6, c7]) h0 hlen (by decide) opM
  have h1 : DataW.trod enc Tryd.prog w base sp held n 5 (([c0, c1, c2, c3, c4, c5, c6, c7, c8, c9, c10, c11].drop 8).take (Tryd.prog.cellsOf 5)) = xs[1]? := hf 1 _ rfl
  rw [show Tryd.prog.cellsOf 5 = 1 by kernel_rfl] at h1
  obtain ⟨y1, e1, r1⟩ := opens_field (cs := [c8]) h1 hlen (by decide) (opens_u8 Tryd.underlying5)
  have h2 : DataW.trod enc Tryd.prog w base sp held n 5 (([c0, c1, c2, c3, c4, c5, c6, c7, c8, c9, c10, c11].drop 9).take (Tryd.prog.cellsOf 5)) = xs[2]? := hf 2 _ rfl
  rw [show Tryd.prog.cellsOf 5 = 1 by kernel_rfl] at h2
  obtain ⟨y2, e2, r2⟩ := opens_field (cs := [c9]) h2 hlen (by decide) (opens_u8 Tryd.underlying5)
  have h3 : DataW.trod enc Tryd.prog w base sp held n 5 (([c0, c1, c2, c3, c4, c5, c6, c7, c8, c9, c10, c11].drop 10).take (Tryd.prog.cellsOf 5)) = xs[3]? := hf 3 _ rfl
  rw [show Tryd.prog.cellsOf 5 = 1 by kernel_rfl] at h3
  obtain ⟨y3, e3, r3⟩ := opens_field (cs := [c10]) h3 hlen (by decide) (opens_u8 Tryd.underlying5)
  have h4 : DataW.trod enc Tryd.prog w base sp held n 5 (([c0, c1, c2, c3, c4, c5, c6, c7, c8, c9, c10, c11].drop 11).take (Tryd.prog.cellsOf 5)) = xs[4]? := hf 4 _ rfl
  rw [show Tryd.prog.cellsOf 5 = 1 by kernel_rfl] at h4
  obtain ⟨y4, e4, r4⟩ := opens_field (cs := [c11]) h4 hlen (by decide) (opens_u8 Tryd.underlying5)
  cases e0
  cases e1
  cases e2
  cases e3
  cases e4
  exact ⟨⟨y0.1, y0.2.1, y0.2.2.1.1, y0.2.2.1.2, y0.2.2.2.1.1, y0.2.2.2.1.2, y0.2.2.2.2.1, y0.2.2.2.2.2, y1, y2, y3, y4⟩, rfl, ⟨r0.2.2.1.2, r0.2.2.2.1.2, r0.2.2.2.2.2, r0.1, r0.2.1, r0.2.2.1.1, r0.2.2.2.1.1, r0.2.2.2.2.1, r1, r2, r3, r4⟩⟩
theorem opG_len {cs : List Value} (h : cs.length = 2) : ∃ c0 c1, cs = [c0, c1] := match cs, h with | [c0, c1], _ => ⟨c0, c1, rfl⟩
theorem opG : Opens Tryd.prog 43 encGq (fun w g => (0 ≤ g.1 ∧ g.1 ≤ 255) ∧ SlR encQd QAt w g.2) := by
  intro H enc w base sp held fuel cs x h
  obtain ⟨xs, n, _, _, hl, hlen, hf⟩ := DataW.trod_struct Tryd.underlying43 h
  rw [show Tryd.prog.cellsOf 43 = 2 by kernel_rfl] at hl
  obtain ⟨c0, c1, rfl⟩ := opG_len hl
  have h0 : DataW.trod enc Tryd.prog w base sp held n 5 (([c0, c1].drop 0).take (Tryd.prog.cellsOf 5)) = xs[0]? := hf 0 _ rfl
  rw [show Tryd.prog.cellsOf 5 = 1 by kernel_rfl] at h0
  obtain ⟨y0, e0, r0⟩ := opens_field (cs := [c0]) h0 hlen (by decide) (opens_u8 Tryd.underlying5)
  have h1 : DataW.trod enc Tryd.prog w base sp held n 41 (([c0, c1].drop 1).take (Tryd.prog.cellsOf 41)) = xs[1]? := hf 1 _ rfl
  rw [show Tryd.prog.cellsOf 41 = 1 by kernel_rfl] at h1
  obtain ⟨y1, e1, r1⟩ := opens_field (cs := [c1]) h1 hlen (by decide) (opens_slice Tryd.underlying41 (by kernel_rfl) opQ)
  cases e0
  cases e1
  exact ⟨(y0, y1), rfl, ⟨r0, r1⟩⟩
end Go.Proofs.YthehggmdcmpjeaaDoor
namespace Go.Proofs.YthehggmdcmpjeaaDoor
open Go.Lw Go.G14

theorem better_ok (l m : List UInt8) (w0 : World) : Rets Tryd.prog 92 #[S l, S m] w0 fun v w' => v = S (betterS l m) ∧ w0 = w' := by
 refine enter [(0, S l), (1, S m)] Tryd.func92 rfl Tryd.ntmps92 rfl (.cons rfl (.cons rfl .nil)) ?_
 intro a h
 refine wp_seq ?_
 refine wR ?_
 refine st_assign h rfl rfl ?_; clear h a; intro a h
 replace h : Ag a 32 [(0, _), (1, _)] := h.sub (.cons rfl (.cons rfl .nil))
 refine wnt ?_
 refine wp_seq ?_
 refine wp_seq ?_
 refine region_bool (r := 29) (L' := [(0, _), (1, _)]) (l = [] ∨ (m ≠ [] ∧ lessP m l)) h (.cons rfl (.cons rfl .nil)) ?_ ?_
 ·refine id ?_
  refine st_move h rfl rfl ?_; clear h a; intro a h
  refine st_eqs h rfl rfl rfl ?_; clear h a; intro a h
  refine st_move h rfl rfl ?_; clear h a; intro a h
  first | refine guard_dec (D := 7) h rfl ?_ ?_ | refine guard_ndec (D := 7) h rfl ?_ ?_ | refine guard_any (D := 7) h rfl ?_ ?_
  ·clear h; intro g0 h
   refine gd_no h rfl rfl rfl rfl rfl rfl rfl rfl ?_; clear h a; intro a h
   refine gd_no h rfl rfl rfl rfl rfl rfl rfl rfl ?_; clear h a; intro a h
   refine gd_no h rfl rfl rfl rfl rfl rfl rfl rfl ?_; clear h a; intro a h
   refine gd_skip h rfl rfl rfl rfl rfl rfl rfl ?_; clear h a; intro a h
   refine gd_skip h rfl rfl rfl rfl rfl rfl rfl ?_; clear h a; intro a h
   refine gd_skip h rfl rfl rfl rfl rfl rfl rfl ?_; clear h a; intro a h
   refine gd_skip h rfl rfl rfl rfl rfl rfl rfl ?_; clear h a; intro a h
   refine gd_skip h rfl rfl rfl rfl rfl rfl rfl ?_; clear h a; intro a h
   refine gd_skip h rfl rfl rfl rfl rfl rfl rfl ?_; clear h a; intro a h
   refine gd_skip h rfl rfl rfl rfl rfl rfl rfl ?_; clear h a; intro a h
   refine gd_skip h rfl rfl rfl rfl rfl rfl rfl ?_; clear h a; intro a h
   refine gd_skip h rfl rfl rfl rfl rfl rfl rfl ?_; clear h a; intro a h
   refine gd_skip h rfl rfl rfl rfl rfl rfl rfl ?_; clear h a; intro a h
   refine gd_skip h rfl rfl rfl rfl rfl rfl rfl ?_; clear h a; intro a h
   refine gd_skip h rfl rfl rfl rfl rfl rfl rfl ?_; clear h a; intro a h
   refine gd_skip h rfl rfl rfl rfl rfl rfl rfl ?_; clear h a; intro a h
   refine gd_skip h rfl rfl rfl rfl rfl rfl rfl ?_; clear h a; intro a h
   refine gd_skip h rfl rfl rfl rfl rfl rfl rfl ?_; clear h a; intro a h
   refine gd_skip h rfl rfl rfl rfl rfl rfl rfl ?_; clear h a; intro a h
   refine gd_skip h rfl rfl rfl rfl rfl rfl rfl ?_; clear h a; intro a h
   refine gd_no h rfl rfl rfl rfl rfl rfl rfl rfl ?_; clear h a; intro a h
   refine st_pick_t h rfl rfl rfl rfl ?_; clear h a; intro a h
   exact wpList_nil (bool_end h rfl (by first | exact bt (Or.inl ‹l = []›) | exact bf (by rintro (h | ⟨h, _⟩); exact absurd h ‹¬ l = []›; exact absurd h ‹¬ m ≠ []›) | exact bt (.inr ⟨‹m ≠ []›, .inl (by omega)⟩) | exact bf (by rintro (h | ⟨_, h | h⟩); exact absurd h ‹¬ l = []›; omega; omega) | exact bb ⟨fun e => .inr ⟨‹m ≠ []›, .inr ⟨by omega, e⟩⟩, by rintro (h | ⟨_, h | h⟩); exact absurd h ‹¬ l = []›; omega; exact h.2⟩) (.cons rfl (.cons rfl .nil)))
  ·clear h; intro g0 h
   refine gd_yes h rfl rfl rfl rfl rfl rfl ?_
   refine st_move h rfl rfl ?_; clear h a; intro a h
   refine gd_yes h rfl rfl rfl rfl rfl rfl ?_
   refine st_nes h rfl rfl rfl ?_; clear h a; intro a h
   refine gd_yes h rfl rfl rfl rfl rfl rfl ?_
   refine st_move h rfl rfl ?_; clear h a; intro a h
   first | refine guard_dec (D := 10) h rfl ?_ ?_ | refine guard_ndec (D := 10) h rfl ?_ ?_ | refine guard_any (D := 10) h rfl ?_ ?_
   ·clear h; intro g1 h
    refine gd_yes h rfl rfl rfl rfl rfl rfl ?_
    refine st_move h rfl rfl ?_; clear h a; intro a h
    refine gd_yes h rfl rfl rfl rfl rfl rfl ?_
    refine st_len h rfl Tryd.underlying9 rfl ?_; clear h a; intro a h
    refine gd_yes h rfl rfl rfl rfl rfl rfl ?_
    refine st_move h rfl rfl ?_; clear h a; intro a h
    refine gd_yes h rfl rfl rfl rfl rfl rfl ?_
    refine st_len h rfl Tryd.underlying9 rfl ?_; clear h a; intro a h
    refine gd_yes h rfl rfl rfl rfl rfl rfl ?_
    refine st_lt h rfl rfl rfl ?_; clear h a; intro a h
    refine gd_yes h rfl rfl rfl rfl rfl rfl ?_
    refine st_move h rfl rfl ?_; clear h a; intro a h
    first | refine guard_dec (D := 16) h rfl ?_ ?_ | refine guard_ndec (D := 16) h rfl ?_ ?_ | refine guard_any (D := 16) h rfl ?_ ?_
    ·clear h; intro g2 h
     refine gd_no h rfl rfl rfl rfl rfl rfl rfl rfl ?_; clear h a; intro a h
     refine gd_no h rfl rfl rfl rfl rfl rfl rfl rfl ?_; clear h a; intro a h
     refine gd_no h rfl rfl rfl rfl rfl rfl rfl rfl ?_; clear h a; intro a h
     refine gd_no h rfl rfl rfl rfl rfl rfl rfl rfl ?_; clear h a; intro a h
     refine gd_no h rfl rfl rfl rfl rfl rfl rfl rfl ?_; clear h a; intro a h
     refine gd_no h rfl rfl rfl rfl rfl rfl rfl rfl ?_; clear h a; intro a h
     refine gd_skip h rfl rfl rfl rfl rfl rfl rfl ?_; clear h a; intro a h
     refine gd_skip h rfl rfl rfl rfl rfl rfl rfl ?_; clear h a; intro a h
     refine gd_skip h rfl rfl rfl rfl rfl rfl rfl ?_; clear h a; intro a h
     refine gd_no h rfl rfl rfl rfl rfl rfl rfl rfl ?_; clear h a; intro a h
     refine gd_yes h rfl rfl rfl rfl rfl rfl ?_
     refine st_pick_t h rfl rfl rfl rfl ?_; clear h a; intro a h
     refine gd_yes h rfl rfl rfl rfl rfl rfl ?_
     refine st_pick_t h rfl rfl rfl rfl ?_; clear h a; intro a h
     refine st_pick_f h rfl rfl rfl rfl ?_; clear h a; intro a h
     exact wpList_nil (bool_end h rfl (by first | exact bt (Or.inl ‹l = []›) | exact bf (by rintro (h | ⟨h, _⟩); exact absurd h ‹¬ l = []›; exact absurd h ‹¬ m ≠ []›) | exact bt (.inr ⟨‹m ≠ []›, .inl (by omega)⟩) | exact bf (by rintro (h | ⟨_, h | h⟩); exact absurd h ‹¬ l = []›; omega; omega) | exact bb ⟨fun e => .inr ⟨‹m ≠ []›, .inr ⟨by omega, e⟩⟩, by rintro (h | ⟨_, h | h⟩); exact absurd h ‹¬ l = []›; omega; exact h.2⟩) (.cons rfl (.cons rfl .nil)))
    ·clear h; intro g2 h
     refine gd_yes h rfl rfl rfl rfl rfl rfl ?_
     refine st_move h rfl rfl ?_; clear h a; intro a h
     refine gd_yes h rfl rfl rfl rfl rfl rfl ?_
     refine st_len h rfl Tryd.underlying9 rfl ?_; clear h a; intro a h
     refine gd_yes h rfl rfl rfl rfl rfl rfl ?_
     refine st_move h rfl rfl ?_; clear h a; intro a h
     refine gd_yes h rfl rfl rfl rfl rfl rfl ?_
     refine st_len h rfl Tryd.underlying9 rfl ?_; clear h a; intro a h
     refine gd_yes h rfl rfl rfl rfl rfl rfl ?_
     refine st_eq h rfl rfl rfl ?_; clear h a; intro a h
     refine gd_yes h rfl rfl rfl rfl rfl rfl ?_
     refine st_move h rfl rfl ?_; clear h a; intro a h
     first | refine guard_dec (D := 22) h rfl ?_ ?_ | refine guard_ndec (D := 22) h rfl ?_ ?_ | refine guard_any (D := 22) h rfl ?_ ?_
     ·clear h; intro g3 h
      refine gd_yes h rfl rfl rfl rfl rfl rfl ?_
      refine st_move h rfl rfl ?_; clear h a; intro a h
      refine gd_yes h rfl rfl rfl rfl rfl rfl ?_
      refine st_move h rfl rfl ?_; clear h a; intro a h
      refine gd_yes h rfl rfl rfl rfl rfl rfl ?_
      refine st_lts h rfl rfl rfl ?_; clear h a; intro a h
      refine gd_yes h rfl rfl rfl rfl rfl rfl ?_
      refine st_pick_t h rfl rfl rfl rfl ?_; clear h a; intro a h
      refine gd_yes h rfl rfl rfl rfl rfl rfl ?_
      refine st_pick_f h rfl rfl rfl rfl ?_; clear h a; intro a h
      refine gd_yes h rfl rfl rfl rfl rfl rfl ?_
      refine st_pick_t h rfl rfl rfl rfl ?_; clear h a; intro a h
      refine st_pick_f h rfl rfl rfl rfl ?_; clear h a; intro a h
      exact wpList_nil (bool_end h rfl (by first | exact bt (Or.inl ‹l = []›) | exact bf (by rintro (h | ⟨h, _⟩); exact absurd h ‹¬ l = []›; exact absurd h ‹¬ m ≠ []›) | exact bt (.inr ⟨‹m ≠ []›, .inl (by omega)⟩) | exact bf (by rintro (h | ⟨_, h | h⟩); exact absurd h ‹¬ l = []›; omega; omega) | exact bb ⟨fun e => .inr ⟨‹m ≠ []›, .inr ⟨by omega, e⟩⟩, by rintro (h | ⟨_, h | h⟩); exact absurd h ‹¬ l = []›; omega; exact h.2⟩) (.cons rfl (.cons rfl .nil)))
     ·clear h; intro g3 h
      refine gd_no h rfl rfl rfl rfl rfl rfl rfl rfl ?_; clear h a; intro a h
      refine gd_no h rfl rfl rfl rfl rfl rfl rfl rfl ?_; clear h a; intro a h
      refine gd_no h rfl rfl rfl rfl rfl rfl rfl rfl ?_; clear h a; intro a h
      refine gd_yes h rfl rfl rfl rfl rfl rfl ?_
      refine st_pick_f h rfl rfl rfl rfl ?_; clear h a; intro a h
      refine gd_yes h rfl rfl rfl rfl rfl rfl ?_
      refine st_pick_f h rfl rfl rfl rfl ?_; clear h a; intro a h
      refine gd_yes h rfl rfl rfl rfl rfl rfl ?_
      refine st_pick_t h rfl rfl rfl rfl ?_; clear h a; intro a h
      refine st_pick_f h rfl rfl rfl rfl ?_; clear h a; intro a h
      exact wpList_nil (bool_end h rfl (by first | exact bt (Or.inl ‹l = []›) | exact bf (by rintro (h | ⟨h, _⟩); exact absurd h ‹¬ l = []›; exact absurd h ‹¬ m ≠ []›) | exact bt (.inr ⟨‹m ≠ []›, .inl (by omega)⟩) | exact bf (by rintro (h | ⟨_, h | h⟩); exact absurd h ‹¬ l = []›; omega; omega) | exact bb ⟨fun e => .inr ⟨‹m ≠ []›, .inr ⟨by omega, e⟩⟩, by rintro (h | ⟨_, h | h⟩); exact absurd h ‹¬ l = []›; omega; exact h.2⟩) (.cons rfl (.cons rfl .nil)))
   ·clear h; intro g1 h
    refine gd_no h rfl rfl rfl rfl rfl rfl rfl rfl ?_; clear h a; intro a h
    refine gd_no h rfl rfl rfl rfl rfl rfl rfl rfl ?_; clear h a; intro a h
    refine gd_no h rfl rfl rfl rfl rfl rfl rfl rfl ?_; clear h a; intro a h
    refine gd_no h rfl rfl rfl rfl rfl rfl rfl rfl ?_; clear h a; intro a h
    refine gd_no h rfl rfl rfl rfl rfl rfl rfl rfl ?_; clear h a; intro a h
    refine gd_no h rfl rfl rfl rfl rfl rfl rfl rfl ?_; clear h a; intro a h
    refine gd_skip h rfl rfl rfl rfl rfl rfl rfl ?_; clear h a; intro a h
    refine gd_skip h rfl rfl rfl rfl rfl rfl rfl ?_; clear h a; intro a h
    refine gd_skip h rfl rfl rfl rfl rfl rfl rfl ?_; clear h a; intro a h
    refine gd_skip h rfl rfl rfl rfl rfl rfl rfl ?_; clear h a; intro a h
    refine gd_skip h rfl rfl rfl rfl rfl rfl rfl ?_; clear h a; intro a h
    refine gd_skip h rfl rfl rfl rfl rfl rfl rfl ?_; clear h a; intro a h
    refine gd_skip h rfl rfl rfl rfl rfl rfl rfl ?_; clear h a; intro a h
    refine gd_skip h rfl rfl rfl rfl rfl rfl rfl ?_; clear h a; intro a h
    refine gd_skip h rfl rfl rfl rfl rfl rfl rfl ?_; clear h a; intro a h
    refine gd_skip h rfl rfl rfl rfl rfl rfl rfl ?_; clear h a; intro a h
    refine gd_no h rfl rfl rfl rfl rfl rfl rfl rfl ?_; clear h a; intro a h
    refine gd_yes h rfl rfl rfl rfl rfl rfl ?_
    refine st_pick_f h rfl rfl rfl rfl ?_; clear h a; intro a h
    refine st_pick_f h rfl rfl rfl rfl ?_; clear h a; intro a h
    exact wpList_nil (bool_end h rfl (by first | exact bt (Or.inl ‹l = []›) | exact bf (by rintro (h | ⟨h, _⟩); exact absurd h ‹¬ l = []›; exact absurd h ‹¬ m ≠ []›) | exact bt (.inr ⟨‹m ≠ []›, .inl (by omega)⟩) | exact bf (by rintro (h | ⟨_, h | h⟩); exact absurd h ‹¬ l = []›; omega; omega) | exact bb ⟨fun e => .inr ⟨‹m ≠ []›, .inr ⟨by omega, e⟩⟩, by rintro (h | ⟨_, h | h⟩); exact absurd h ‹¬ l = []›; omega; exact h.2⟩) (.cons rfl (.cons rfl .nil)))
 ·clear h a; intro a h
  refine (norm_then ?_)
  first | refine cond_dec h rfl (fun c0 => ?_) (fun c0 => ?_) | refine cond_ndec h rfl (fun c0 => ?_) (fun c0 => ?_) | refine cond_split h rfl (fun c0 => ?_) (fun c0 => ?_)
  ·refine id ?_
   refine wp_seq ?_
   refine wR ?_
   refine st_move h rfl rfl ?_; clear h a; intro a h
   refine st_assign h rfl rfl ?_; clear h a; intro a h
   replace h : Ag a 32 [(4, _)] := h.sub (.cons rfl .nil)
   refine wnt ?_
   refine wp_ret (ret_then ?_)
   refine ret1 h Tryd.results92 rfl ?_
   exact ⟨_, rfl, by first | rw [betterS, if_pos c0] | rw [betterS, if_neg c0], rfl⟩
  ·refine id ?_
   refine wsn ?_
   refine wp_seq ?_
   refine wR ?_
   refine st_move h rfl rfl ?_; clear h a; intro a h
   refine st_assign h rfl rfl ?_; clear h a; intro a h
   replace h : Ag a 32 [(4, _)] := h.sub (.cons rfl .nil)
   refine wnt ?_
   refine wp_ret ?_
   refine ret1 h Tryd.results92 rfl ?_
   exact ⟨_, rfl, by first | rw [betterS, if_pos c0] | rw [betterS, if_neg c0], rfl⟩
end Go.Proofs.YthehggmdcmpjeaaDoor
namespace Go.Proofs.YthehggmdcmpjeaaDoor
open Go.Lw Go.G14
theorem co55 : CallOf Tryd.prog 55 := CallOf.mk' Tryd.func55 (by kernel_rfl) (by kernel_rfl)
theorem co75 : CallOf Tryd.prog 75 := CallOf.mk' Tryd.func75 (by kernel_rfl) (by kernel_rfl)
theorem co86 : CallOf Tryd.prog 86 := CallOf.mk' Tryd.func86 (by kernel_rfl) (by kernel_rfl)
theorem el61 : ElemOf Tryd.prog 61 100 encSt 32 := ElemOf.mk' (z := (.agg #[.int .u8 0, .int .u8 0, .int .i64 0, .int .i64 0, .bool false])) Tryd.underlying61 (by kernel_rfl) rfl
theorem eqv36 : EqOf Tryd.prog 100 stV := by
 intro e f ox oy w
 have hg : ∀ op, (eqGuard op 100 ox oy (stV e) (stV f)).run Tryd.prog w = .ok () w := fun op => run_eqGuard_agg w op 100 ox oy _ _ (by kernel_rfl)
 have h1 : Tryd.prog.stoodInHeld 100 = false := by kernel_rfl
 obtain ⟨k, y, a, b, c⟩ := e
 obtain ⟨k', y', a', b', c'⟩ := f
 refine ⟨hg _, hg _, ?_, ?_⟩
 ·unfold stV
  simp [go_sem, h1, Tryd.underlying100]
  (repeat' split) <;> simp_all
 ·unfold stV
  simp [go_sem, h1, Tryd.underlying100]
  (repeat' split) <;> simp_all
theorem equal_ok (u v : Value) (xs ys : List Stitch) (w0 : World) (hu : Sl encSt w0 u xs) (hv : Sl encSt w0 v ys) : Rets Tryd.prog 103 #[u, v] w0 fun r w' => r = .bool (decide (xs = ys)) ∧ Fr [] w0 w' := by
 obtain ⟨A, c, rfl, hc, hM, hA⟩ := hu
 obtain ⟨B, d, rfl, hd, hN, hB⟩ := hv
 unfold maxLen at hM hN
 refine enter [(0, .slice A xs.length c), (1, .slice B ys.length d)] Tryd.func103 rfl Tryd.ntmps103 rfl (.cons rfl (.cons rfl .nil)) ?_
 have hf := Fr.refl [] w0
 intro a h
 refine wp_seq ?_
 refine wR ?_
 refine st_assign h rfl rfl ?_; clear h a; intro a h
 replace h : Ag a 26 [(0, _), (1, _)] := h.sub (.cons rfl (.cons rfl .nil))
 refine wnt ?_
 refine wp_seq ?_
 refine wp_seq ?_
 refine wR ?_
 refine st_move h rfl rfl ?_; clear h a; intro a h
 refine st_lenS h rfl Tryd.underlying61 rfl ?_; clear h a; intro a h
 refine st_move h rfl rfl ?_; clear h a; intro a h
 refine st_lenS h rfl Tryd.underlying61 rfl ?_; clear h a; intro a h
 refine st_ne h rfl rfl rfl ?_; clear h a; intro a h
 replace h : Ag a 26 [(0, _), (1, _), (10, _)] := h.sub (.cons rfl (.cons rfl (.cons rfl .nil)))
 refine wnt ?_
 first | refine cond_dec h rfl (fun c0 => ?_) (fun c0 => ?_) | refine cond_ndec h rfl (fun c0 => ?_) (fun c0 => ?_) | refine cond_split h rfl (fun c0 => ?_) (fun c0 => ?_)
 ·refine id ?_
  refine wp_seq ?_
  refine wR ?_
  refine st_assign h rfl rfl ?_; clear h a; intro a h
  replace h : Ag a 26 [(4, _)] := h.sub (.cons rfl .nil)
  refine wnt ?_
  refine wp_ret (ret_then ?_)
  refine ret1 h Tryd.results103 rfl ?_
  exact ⟨_, rfl, by first | (rw [decide_eq_false]; intro e; subst e; omega) | (rw [decide_eq_false]; intro e; subst e; rw [hxk] at hyk; cases hyk; exact c2 rfl) | rw [decide_eq_true ht], hf⟩
 ·refine id ?_
  refine wsn ?_
  refine wp_seq ?_
  refine wp_seq ?_
  refine wR ?_
  refine st_move h rfl rfl ?_; clear h a; intro a h
  refine st_lenS h rfl Tryd.underlying61 rfl ?_; clear h a; intro a h
  refine st_move h rfl rfl ?_; clear h a; intro a h
  replace h : Ag a 26 [(0, _), (1, _), (12, _), (13, _)] := h.sub (.cons rfl (.cons rfl (.cons rfl (.cons rfl .nil))))
  refine wnt ?_
  refine wp_block ?_
  refine loop (ι := Nat) (fun k => [(0, .slice A xs.length c), (1, .slice B ys.length d), (12, .int .i64 (xs.length : Int)), (13, .int .i64 (k : Int))]) (fun k w' => k ≤ xs.length ∧ xs.take k = ys.take k ∧ Fr [] w0 w') (fun k => xs.length - k) 0 (h.sub (.cons rfl (.cons rfl (.cons rfl (.cons rfl .nil))))) ⟨by omega, by simp, hf⟩ ?_
  clear h a hf
  rintro k w1 a h ⟨hk, ht, hf⟩
  refine wp_seq ?_
  refine wR ?_
  refine st_lt h rfl rfl rfl ?_; clear h a; intro a h
  refine wnt ?_
  refine wp_seq ?_
  first | refine cond_dec h rfl (fun c1 => ?_) (fun c1 => ?_) | refine cond_ndec h rfl (fun c1 => ?_) (fun c1 => ?_) | refine cond_split h rfl (fun c1 => ?_) (fun c1 => ?_)
  ·obtain ⟨x, hxk⟩ : ∃ x, xs[k]? = some x := ⟨_, List.getElem?_eq_getElem (by omega)⟩
   obtain ⟨y, hyk⟩ : ∃ y, ys[k]? = some y := ⟨_, List.getElem?_eq_getElem (by omega)⟩
   obtain ⟨ad, rfl, ca⟩ := hA k x hxk
   obtain ⟨bd, rfl, cb⟩ := hB k y hyk
   refine wsn ?_
   refine wp_seq ?_
   refine wp_block ?_
   refine wp_seq ?_
   refine wR ?_
   refine st_move h rfl rfl ?_; clear h a; intro a h
   refine st_assign h rfl rfl ?_; clear h a; intro a h
   replace h : Ag a 26 [(0, _), (1, _), (5, _), (12, _), (13, _)] := h.sub (.cons rfl (.cons rfl (.cons rfl (.cons rfl (.cons rfl .nil)))))
   refine wnt ?_
   refine wp_seq ?_
   refine region_quiet hmix (by kernel_rfl) ?_
   refine qt_move h rfl rfl ?_; clear h a; intro a h
   refine qt_move h rfl rfl ?_; clear h a; intro a h
   refine qt_idx h rfl rfl rfl el61 (by omega) (by omega) rfl ?_; clear h a; intro a h
   refine qt_loadA h rfl (fun _ hw => (ca.fr hf (by simp)).fr hw (by simp)) ag100 rfl ?_; clear h a; intro a h
   refine qt_move h rfl rfl ?_; clear h a; intro a h
   refine qt_move h rfl rfl ?_; clear h a; intro a h
   refine qt_idx h rfl rfl rfl el61 (by omega) (by omega) rfl ?_; clear h a; intro a h
   refine qt_loadA h rfl (fun _ hw => (cb.fr hf (by simp)).fr hw (by simp)) ag100 rfl ?_; clear h a; intro a h
   refine qt_neV (e := x) (f := y) h rfl rfl eqv36 rfl ?_; clear h a; intro a h
   refine wpQuiet_nil ?_
   intro w2 hq
   replace hf := hf.next hq
   clear hq
   replace h : Ag a 26 [(0, _), (1, _), (12, _), (13, _), (24, _)] := h.sub (.cons rfl (.cons rfl (.cons rfl (.cons rfl (.cons rfl .nil)))))
   refine (norm_then ?_)
   first | refine cond_dec h rfl (fun c2 => ?_) (fun c2 => ?_) | refine cond_ndec h rfl (fun c2 => ?_) (fun c2 => ?_) | refine cond_split h rfl (fun c2 => ?_) (fun c2 => ?_)
   ·refine id ?_
    refine wp_seq ?_
    refine wR ?_
    refine st_assign h rfl rfl ?_; clear h a; intro a h
    replace h : Ag a 26 [(4, _)] := h.sub (.cons rfl .nil)
    refine wnt ?_
    refine wp_ret (ret_blk (ret_then (ret_then (ret_blk (ret_then ?_)))))
    refine ret1 h Tryd.results103 rfl ?_
    exact ⟨_, rfl, by first | (rw [decide_eq_false]; intro e; subst e; omega) | (rw [decide_eq_false]; intro e; subst e; rw [hxk] at hyk; cases hyk; exact c2 rfl) | rw [decide_eq_true ht], hf⟩
   ·refine id ?_
    refine wp_skip (norm_blk (norm_then ?_))
    refine wR ?_
    refine st_add h rfl rfl (by first | exact IntWalk.i64_in _ (by omega) | rfl) rfl ?_; clear h a; intro a h
    refine st_move h rfl rfl ?_; clear h a; intro a h
    replace h : Ag a 26 [(0, _), (1, _), (12, _), (13, _)] := h.sub (.cons rfl (.cons rfl (.cons rfl (.cons rfl .nil))))
    refine wnt ?_
    exact ⟨k + 1, h.sub (.cons rfl (.cons rfl (.cons rfl (.cons rfl .nil)))), ⟨by omega, by rw [List.take_add_one, List.take_add_one, ht, hxk, hyk, Decidable.not_not.1 c2], hf⟩, by omega⟩
  ·obtain rfl : k = xs.length := by omega
   rw [List.take_length, show xs.length = ys.length by omega, List.take_length] at ht
   refine wp_exit (exit_then (exit_then (exit_here (norm_then ?_))))
   refine wp_seq ?_
   refine wR ?_
   refine st_assign h rfl rfl ?_; clear h a; intro a h
   replace h : Ag a 26 [(4, _)] := h.sub (.cons rfl .nil)
   refine wnt ?_
   refine wp_ret ?_
   refine ret1 h Tryd.results103 rfl ?_
   exact ⟨_, rfl, by first | (rw [decide_eq_false]; intro e; subst e; omega) | (rw [decide_eq_false]; intro e; subst e; rw [hxk] at hyk; cases hyk; exact c2 rfl) | rw [decide_eq_true ht], hf⟩
theorem small_ok (n : Nat) (w0 : World) (hn : n < 100) : Rets Tryd.prog 86 #[.int .i64 (n : Int)] w0 fun v w' => v = S (itoaS n) ∧ w0 = w' := by
 refine enter [(0, .int .i64 (n : Int))] Tryd.func86 rfl Tryd.ntmps86 rfl (.cons rfl .nil) ?_
 intro a h
 refine wp_seq ?_
 refine wR ?_
 refine st_assign h rfl rfl ?_; clear h a; intro a h
 replace h : Ag a 15 [(0, _)] := h.sub (.cons rfl .nil)
 refine wnt ?_
 refine wp_seq ?_
 refine wp_seq ?_
 refine wR ?_
 refine st_move h rfl rfl ?_; clear h a; intro a h
 refine st_lt h rfl rfl rfl ?_; clear h a; intro a h
 replace h : Ag a 15 [(0, _), (4, _)] := h.sub (.cons rfl (.cons rfl .nil))
 refine wnt ?_
 first | refine cond_dec h rfl (fun c0 => ?_) (fun c0 => ?_) | refine cond_ndec h rfl (fun c0 => ?_) (fun c0 => ?_) | refine cond_split h rfl (fun c0 => ?_) (fun c0 => ?_)
 ·refine id ?_
  refine wp_seq ?_
  refine wR ?_
  refine st_move h rfl rfl ?_; clear h a; intro a h
  refine st_move h rfl rfl ?_; clear h a; intro a h
  refine st_add h rfl rfl (by first | exact IntWalk.i64_in _ (by omega) | rfl) rfl ?_; clear h a; intro a h
  refine st_ss_lh (p := n) (p' := n + 1) h rfl rfl rfl Tryd.underlying9 (by omega) (by omega) (by simp; omega) (by omega) (by omega) rfl ?_; clear h a; intro a h
  refine st_assign h rfl rfl ?_; clear h a; intro a h
  replace h : Ag a 15 [(2, _)] := h.sub (.cons rfl .nil)
  refine wnt ?_
  refine wp_ret (ret_then ?_)
  refine ret1 h Tryd.results86 rfl ?_
  refine ⟨_, rfl, ?_, rfl⟩
  clear h
  have e : n < 10 := by omega
  clear c0 hn; refine congrArg S ?_; revert n; decide +kernel
 ·refine id ?_
  refine wsn ?_
  refine wp_seq ?_
  refine wR ?_
  refine st_move h rfl rfl ?_; clear h a; intro a h
  refine st_mul h rfl rfl (by first | exact IntWalk.i64_in _ (by omega) | rfl) rfl ?_; clear h a; intro a h
  refine st_move h rfl rfl ?_; clear h a; intro a h
  refine st_mul h rfl rfl (by first | exact IntWalk.i64_in _ (by omega) | rfl) rfl ?_; clear h a; intro a h
  refine st_add h rfl rfl (by first | exact IntWalk.i64_in _ (by omega) | rfl) rfl ?_; clear h a; intro a h
  refine st_ss_lh (p := 2 * n) (p' := 2 * n + 2) h rfl rfl rfl Tryd.underlying9 (by omega) (by omega) (Int.le_trans (b := 200) (by omega) (by decide +kernel)) (by omega) (by omega) rfl ?_; clear h a; intro a h
  refine st_assign h rfl rfl ?_; clear h a; intro a h
  replace h : Ag a 15 [(2, _)] := h.sub (.cons rfl .nil)
  refine wnt ?_
  refine wp_ret ?_
  refine ret1 h Tryd.results86 rfl ?_
  refine ⟨_, rfl, ?_, rfl⟩
  clear h
  have e : 10 ≤ n := by omega
  clear c0; refine congrArg S ?_; revert n; decide +kernel
theorem formatInt_ok (n : Nat) (w0 : World) (hn : n < 100) : Rets Tryd.prog 75 #[.int .i64 (n : Int), .int .i64 10] w0 fun v w' => v = S (itoaS n) ∧ w0 = w' := by
 refine enter [(0, .int .i64 (n : Int)), (1, .int .i64 10)] Tryd.func75 rfl Tryd.ntmps75 rfl (.cons rfl (.cons rfl .nil)) ?_
 intro a h
 refine wp_seq ?_
 refine wR ?_
 refine st_assign h rfl rfl ?_; clear h a; intro a h
 replace h : Ag a 54 [(0, _), (1, _)] := h.sub (.cons rfl (.cons rfl .nil))
 refine wnt ?_
 refine wp_seq ?_
 refine wp_seq ?_
 refine wR ?_
 refine st_move h rfl rfl ?_; clear h a; intro a h
 refine st_eq h rfl rfl rfl ?_; clear h a; intro a h
 replace h : Ag a 54 [(0, _), (1, _), (11, _)] := h.sub (.cons rfl (.cons rfl (.cons rfl .nil)))
 refine wnt ?_
 first | refine cond_dec h rfl (fun c0 => ?_) (fun c0 => ?_) | refine cond_ndec h rfl (fun c0 => ?_) (fun c0 => ?_) | refine cond_split h rfl (fun c0 => ?_) (fun c0 => ?_)
 ·refine id ?_
  refine wp_seq ?_
  refine wp_seq ?_
  refine region_bool (r := 17) (L' := [(0, _)]) (True) h (.cons rfl .nil) ?_ ?_
  ·refine id ?_
   refine st_move h rfl rfl ?_; clear h a; intro a h
   refine st_le h rfl rfl rfl ?_; clear h a; intro a h
   refine st_move h rfl rfl ?_; clear h a; intro a h
   first | refine guard_dec (D := 14) h rfl ?_ ?_ | refine guard_ndec (D := 14) h rfl ?_ ?_ | refine guard_any (D := 14) h rfl ?_ ?_
   ·clear h; intro g0 h
    refine gd_yes h rfl rfl rfl rfl rfl rfl ?_
    refine st_move h rfl rfl ?_; clear h a; intro a h
    refine gd_yes h rfl rfl rfl rfl rfl rfl ?_
    refine st_lt h rfl rfl rfl ?_; clear h a; intro a h
    refine st_pick_t h rfl rfl rfl rfl ?_; clear h a; intro a h
    exact wpList_nil (bool_end h rfl (by first | exact bi (iff_true_intro (by omega)) | (exfalso; omega)) (.cons rfl .nil))
   ·clear h; intro g0 h
    refine gd_no h rfl rfl rfl rfl rfl rfl rfl rfl ?_; clear h a; intro a h
    refine gd_no h rfl rfl rfl rfl rfl rfl rfl rfl ?_; clear h a; intro a h
    refine st_pick_f h rfl rfl rfl rfl ?_; clear h a; intro a h
    exact wpList_nil (bool_end h rfl (by first | exact bi (iff_true_intro (by omega)) | (exfalso; omega)) (.cons rfl .nil))
  ·clear h a; intro a h
   refine (norm_then ?_)
   first | refine cond_dec h rfl (fun c1 => ?_) (fun c1 => ?_) | refine cond_ndec h rfl (fun c1 => ?_) (fun c1 => ?_) | refine cond_split h rfl (fun c1 => ?_) (fun c1 => ?_)
   ·refine id ?_
    refine wp_seq ?_
    refine wR ?_
    refine st_move h rfl rfl ?_; clear h a; intro a h
    refine st_call h (evs_cons rfl evs_nil) co86 (small_ok _ _ (by omega)) rfl ?_; clear h a; rintro _ _ ⟨rfl, rfl⟩ a h
    refine st_assign h rfl rfl ?_; clear h a; intro a h
    replace h : Ag a 54 [(4, _)] := h.sub (.cons rfl .nil)
    refine wnt ?_
    refine wp_ret (ret_then (ret_then ?_))
    refine ret1 h Tryd.results75 rfl ?_
    exact ⟨_, rfl, rfl, rfl⟩
   ·exact absurd trivial c1
 ·exact absurd rfl c0
theorem itoa0_ok (n : Nat) (w0 : World) (hn : n < 100) : Rets Tryd.prog 55 #[.int .i64 (n : Int)] w0 fun v w' => v = S (itoaS n) ∧ w0 = w' := by
 refine enter [(0, .int .i64 (n : Int))] Tryd.func55 rfl Tryd.ntmps55 rfl (.cons rfl .nil) ?_
 intro a h
 refine wp_seq ?_
 refine wR ?_
 refine st_assign h rfl rfl ?_; clear h a; intro a h
 replace h : Ag a 5 [(0, _)] := h.sub (.cons rfl .nil)
 refine wnt ?_
 refine wp_seq ?_
 refine wR ?_
 refine st_move h rfl rfl ?_; clear h a; intro a h
 refine st_call h (evs_cons rfl (evs_cons rfl evs_nil)) co75 (formatInt_ok _ _ (by omega)) rfl ?_; clear h a; rintro _ _ ⟨rfl, rfl⟩ a h
 refine st_assign h rfl rfl ?_; clear h a; intro a h
 replace h : Ag a 5 [(2, _)] := h.sub (.cons rfl .nil)
 refine wnt ?_
 refine wp_ret ?_
 refine ret1 h Tryd.results55 rfl ?_
 exact ⟨_, rfl, rfl, rfl⟩
theorem itoa_ok (n : Nat) (w0 : World) (hn : n < 100) : Rets Tryd.prog 32 #[.int .i64 (n : Int)] w0 fun v w' => v = S (itoaS n) ∧ w0 = w' := by
 refine enter [(0, .int .i64 (n : Int))] Tryd.func32 rfl Tryd.ntmps32 rfl (.cons rfl .nil) ?_
 intro a h
 refine wp_seq ?_
 refine wR ?_
 refine st_assign h rfl rfl ?_; clear h a; intro a h
 replace h : Ag a 5 [(0, _)] := h.sub (.cons rfl .nil)
 refine wnt ?_
 refine wp_seq ?_
 refine wR ?_
 refine st_move h rfl rfl ?_; clear h a; intro a h
 refine st_call h (evs_cons rfl evs_nil) co55 (itoa0_ok _ _ (by omega)) rfl ?_; clear h a; rintro _ _ ⟨rfl, rfl⟩ a h
 refine st_assign h rfl rfl ?_; clear h a; intro a h
 replace h : Ag a 5 [(2, _)] := h.sub (.cons rfl .nil)
 refine wnt ?_
 refine wp_ret ?_
 refine ret1 h Tryd.results32 rfl ?_
 exact ⟨_, rfl, rfl, rfl⟩
end Go.Proofs.YthehggmdcmpjeaaDoor
namespace Go.Proofs.YthehggmdcmpjeaaDoor
open Go.Lw Go.G14
theorem co103 : CallOf Tryd.prog 103 := CallOf.mk' Tryd.func103 (by kernel_rfl) (by kernel_rfl)
theorem el45 : ElemOf Tryd.prog 45 61 Enc.sl 24 := ElemOf.mk' (z := (.slice none 0 0)) Tryd.underlying45 (by kernel_rfl) rfl
theorem fa47_0 : FieldAt Tryd.prog 47 0 0 := fun _ _ => by kernel_rfl
theorem na45 : NotAgg Tryd.prog 45 := fun _ => by kernel_rfl
theorem na61 : NotAgg Tryd.prog 61 := fun _ => by kernel_rfl
theorem ne_rows {xs ys : List (List Stitch)} {i k : Nat} {x y : List Stitch} {s t : Stitch} (hx : xs[i]? = some x) (hy : ys[i]? = some y) (hs : x[k]? = some s) (ht : y[k]? = some t) (h : s ≠ t) : xs ≠ ys := take_ne hx hy (take_ne hs ht h)
set_option maxHeartbeats 1000000 in
theorem differ2_ok (u v : Value) (xs ys : List (List Stitch)) (w0 : World) (hu : Sl2 w0 u xs) (hv : Sl2 w0 v ys) : Rets Tryd.prog 19 #[.agg #[u], .agg #[v]] w0 fun r w' => r = .int .i64 (if xs = ys then 0 else 1) ∧ Fr [] w0 w' := by
 obtain ⟨hs, hsl, hl, hr⟩ := hu
 obtain ⟨gs, gsl, gl, gr⟩ := hv
 obtain ⟨A, c, rfl, hc, hM, hA⟩ := hsl
 obtain ⟨B, d, rfl, hd, hN, hB⟩ := gsl
 unfold maxLen at hM hN
 refine enter [(0, .agg #[.slice A hs.length c]), (1, .agg #[.slice B gs.length d])] Tryd.func19 rfl Tryd.ntmps19 rfl (.cons rfl (.cons rfl .nil)) ?_
 have hf := Fr.refl [] w0
 intro a h
 refine wp_seq ?_
 refine wR ?_
 refine st_box h rfl rfl rfl ?_; clear h a; intro w1 hb2 hq hz a h
 obtain ⟨g_2, hg⟩ : ∃ g, g = w0.heap.size := ⟨_, rfl⟩; rw [← hg] at hb2 h hz
 have hl2 : w0.heap.size ≤ g_2 := by have := hf.size; omega
 replace hf := hf.next hq
 clear hq hz hg
 refine st_box h rfl rfl rfl ?_; clear h a; intro w2 hb3 hq hz a h
 obtain ⟨g_3, hg⟩ : ∃ g, g = w1.heap.size := ⟨_, rfl⟩; rw [← hg] at hb3 h hz
 have hl3 : w0.heap.size ≤ g_3 := by have := hf.size; omega
 have hn_2_3 : g_2 < g_3 := by have := hb2.lt; omega
 replace hf := hf.next hq
 replace hb2 := hb2.ext hq
 clear hq hz hg
 refine st_assign h rfl rfl ?_; clear h a; intro a h
 replace h : Ag a 61 [(2, _), (3, _)] := h.sub (.cons rfl (.cons rfl .nil))
 refine wnt ?_
 refine wp_seq ?_
 refine wp_seq ?_
 refine wR ?_
 refine st_fieldAddr h rfl fa47_0 rfl ?_; clear h a; intro a h
 refine st_loadB h rfl hb2 rfl na45 rfl ?_; clear h a; intro a h
 refine st_lenS h rfl Tryd.underlying45 rfl ?_; clear h a; intro a h
 refine st_fieldAddr h rfl fa47_0 rfl ?_; clear h a; intro a h
 refine st_loadB h rfl hb3 rfl na45 rfl ?_; clear h a; intro a h
 refine st_lenS h rfl Tryd.underlying45 rfl ?_; clear h a; intro a h
 refine st_ne h rfl rfl rfl ?_; clear h a; intro a h
 replace h : Ag a 61 [(2, _), (3, _), (13, _)] := h.sub (.cons rfl (.cons rfl (.cons rfl .nil)))
 refine wnt ?_
 first | refine cond_dec h rfl (fun c0 => ?_) (fun c0 => ?_) | refine cond_ndec h rfl (fun c0 => ?_) (fun c0 => ?_) | refine cond_split h rfl (fun c0 => ?_) (fun c0 => ?_)
 ·refine id ?_
  refine wp_seq ?_
  refine wR ?_
  refine st_assign h rfl rfl ?_; clear h a; intro a h
  replace h : Ag a 61 [(4, _)] := h.sub (.cons rfl .nil)
  refine wnt ?_
  refine wp_ret (ret_then ?_)
  refine ret1 h Tryd.results19 rfl ?_
  exact ⟨_, rfl, by rw [if_neg (by rintro rfl; omega)], hf⟩
 ·refine id ?_
  refine wsn ?_
  refine wp_seq ?_
  refine wp_seq ?_
  refine wR ?_
  refine st_assign h rfl rfl ?_; clear h a; intro a h
  replace h : Ag a 61 [(2, _), (3, _), (5, _)] := h.sub (.cons rfl (.cons rfl (.cons rfl .nil)))
  refine wnt ?_
  refine wp_block ?_
  refine loop (ι := Nat) (fun i => [(2, .pointer (some ⟨g_2, 0, none⟩)), (3, .pointer (some ⟨g_3, 0, none⟩)), (5, .int .i64 (i : Int))]) (fun i w' => i ≤ hs.length ∧ xs.take i = ys.take i ∧ Blk w' g_2 47 [.slice A hs.length c] ∧ Blk w' g_3 47 [.slice B gs.length d] ∧ Fr [] w0 w') (fun i => hs.length - i) 0 (h.sub (.cons rfl (.cons rfl (.cons rfl .nil)))) ⟨by omega, by simp, hb2, hb3, hf⟩ ?_
  clear h a hf hb2 hb3
  rintro i w3 a h ⟨hi, ht, hb2, hb3, hf⟩
  refine wp_seq ?_
  refine wp_seq ?_
  refine wR ?_
  refine st_move h rfl rfl ?_; clear h a; intro a h
  refine st_fieldAddr h rfl fa47_0 rfl ?_; clear h a; intro a h
  refine st_loadB h rfl hb2 rfl na45 rfl ?_; clear h a; intro a h
  refine st_lenS h rfl Tryd.underlying45 rfl ?_; clear h a; intro a h
  refine st_lt h rfl rfl rfl ?_; clear h a; intro a h
  replace h : Ag a 61 [(2, _), (3, _), (5, _), (18, _)] := h.sub (.cons rfl (.cons rfl (.cons rfl (.cons rfl .nil))))
  refine wnt ?_
  first | refine cond_dec h rfl (fun c1 => ?_) (fun c1 => ?_) | refine cond_ndec h rfl (fun c1 => ?_) (fun c1 => ?_) | refine cond_split h rfl (fun c1 => ?_) (fun c1 => ?_)
  ·obtain ⟨p, hp⟩ : ∃ p, hs[i]? = some p := ⟨_, List.getElem?_eq_getElem (by omega)⟩
   obtain ⟨q, hq'⟩ : ∃ p, gs[i]? = some p := ⟨_, List.getElem?_eq_getElem (by omega)⟩
   obtain ⟨x, hx⟩ : ∃ x, xs[i]? = some x := ⟨_, List.getElem?_eq_getElem (by omega)⟩
   obtain ⟨y, hy⟩ : ∃ y, ys[i]? = some y := ⟨_, List.getElem?_eq_getElem (by omega)⟩
   obtain ⟨ad, rfl, ca⟩ := hA i p hp
   obtain ⟨bd, rfl, cb⟩ := hB i q hq'
   obtain ⟨pl, pc, pM, pA⟩ := Sl.open_ (hr i p x hp hx)
   obtain ⟨ql, qc, qM, qB⟩ := Sl.open_ (gr i q y hq' hy)
   unfold maxLen at pM qM
   refine wsn ?_
   refine wp_seq ?_
   refine wp_block ?_
   refine wp_seq ?_
   refine wp_seq ?_
   refine region_quiet hmix (by kernel_rfl) ?_
   refine qt_fieldAddr h rfl fa47_0 rfl ?_; clear h a; intro a h
   refine qt_loadB h rfl (fun _ hw => hb2.ext hw) rfl na45 rfl ?_; clear h a; intro a h
   refine qt_move h rfl rfl ?_; clear h a; intro a h
   refine qt_idxS h rfl rfl el45 (by omega) (by omega) rfl rfl ?_; clear h a; intro a h
   refine qt_loadC0 h rfl (fun _ hw => (ca.fr hf (by simp)).fr hw (by simp)) na61 rfl ?_; clear h a; intro a h
   refine qt_lenS h rfl Tryd.underlying61 rfl ?_; clear h a; intro a h
   refine qt_fieldAddr h rfl fa47_0 rfl ?_; clear h a; intro a h
   refine qt_loadB h rfl (fun _ hw => hb3.ext hw) rfl na45 rfl ?_; clear h a; intro a h
   refine qt_move h rfl rfl ?_; clear h a; intro a h
   refine qt_idxS h rfl rfl el45 (by omega) (by omega) rfl rfl ?_; clear h a; intro a h
   refine qt_loadC0 h rfl (fun _ hw => (cb.fr hf (by simp)).fr hw (by simp)) na61 rfl ?_; clear h a; intro a h
   refine qt_lenS h rfl Tryd.underlying61 rfl ?_; clear h a; intro a h
   refine qt_ne h rfl rfl rfl ?_; clear h a; intro a h
   refine wpQuiet_nil ?_
   intro w4 hq
   replace hf := hf.next hq
   replace hb2 := hb2.ext hq
   replace hb3 := hb3.ext hq
   clear hq
   replace h : Ag a 61 [(2, _), (3, _), (5, _), (33, _)] := h.sub (.cons rfl (.cons rfl (.cons rfl (.cons rfl .nil))))
   refine (norm_then ?_)
   first | refine cond_dec h rfl (fun c2 => ?_) (fun c2 => ?_) | refine cond_ndec h rfl (fun c2 => ?_) (fun c2 => ?_) | refine cond_split h rfl (fun c2 => ?_) (fun c2 => ?_)
   ·refine id ?_
    refine wp_seq ?_
    refine wR ?_
    refine st_assign h rfl rfl ?_; clear h a; intro a h
    replace h : Ag a 61 [(4, _)] := h.sub (.cons rfl .nil)
    refine wnt ?_
    refine wp_ret (ret_then (ret_blk (ret_then (ret_then (ret_blk (ret_then ?_))))))
    refine ret1 h Tryd.results19 rfl ?_
    exact ⟨_, rfl, by rw [if_neg (take_ne hx hy (by rintro rfl; omega))], hf⟩
   ·refine id ?_
    refine wsn ?_
    refine wp_seq ?_
    refine wR ?_
    refine st_assign h rfl rfl ?_; clear h a; intro a h
    replace h : Ag a 61 [(2, _), (3, _), (5, _), (6, _)] := h.sub (.cons rfl (.cons rfl (.cons rfl (.cons rfl .nil))))
    refine wnt ?_
    refine wp_block ?_
    refine loop (ι := Nat) (fun k => [(2, .pointer (some ⟨g_2, 0, none⟩)), (3, .pointer (some ⟨g_3, 0, none⟩)), (5, .int .i64 (i : Int)), (6, .int .i64 (k : Int))]) (fun k w' => k ≤ p.2.1 ∧ x.take k = y.take k ∧ Blk w' g_2 47 [.slice (some ad) hs.length c] ∧ Blk w' g_3 47 [.slice (some bd) gs.length d] ∧ Fr [] w0 w') (fun k => p.2.1 - k) 0 (h.sub (.cons rfl (.cons rfl (.cons rfl (.cons rfl .nil))))) ⟨by omega, by simp, hb2, hb3, hf⟩ ?_
    clear h a hf hb2 hb3
    rintro k w5 a h ⟨hk, hkt, hb2, hb3, hf⟩
    refine wp_seq ?_
    refine wp_seq ?_
    refine wR ?_
    refine st_move h rfl rfl ?_; clear h a; intro a h
    refine st_fieldAddr h rfl fa47_0 rfl ?_; clear h a; intro a h
    refine st_loadB h rfl hb2 rfl na45 rfl ?_; clear h a; intro a h
    refine st_move h rfl rfl ?_; clear h a; intro a h
    refine st_idxS h rfl rfl el45 (by omega) (by omega) rfl rfl ?_; clear h a; intro a h
    refine st_loadC0 h rfl (ca.fr hf (by simp)) na61 rfl ?_; clear h a; intro a h
    refine st_lenS h rfl Tryd.underlying61 rfl ?_; clear h a; intro a h
    refine st_lt h rfl rfl rfl ?_; clear h a; intro a h
    replace h : Ag a 61 [(2, _), (3, _), (5, _), (6, _), (41, _)] := h.sub (.cons rfl (.cons rfl (.cons rfl (.cons rfl (.cons rfl .nil)))))
    refine wnt ?_
    first | refine cond_dec h rfl (fun c3 => ?_) (fun c3 => ?_) | refine cond_ndec h rfl (fun c3 => ?_) (fun c3 => ?_) | refine cond_split h rfl (fun c3 => ?_) (fun c3 => ?_)
    ·obtain ⟨s, hs'⟩ : ∃ s, x[k]? = some s := ⟨_, List.getElem?_eq_getElem (by omega)⟩
     obtain ⟨t, ht'⟩ : ∃ t, y[k]? = some t := ⟨_, List.getElem?_eq_getElem (by omega)⟩
     obtain ⟨pa, hpa, cs⟩ := pA k s hs'
     obtain ⟨qa, hqa, ct⟩ := qB k t ht'
     refine wsn ?_
     refine wp_seq ?_
     refine wp_block ?_
     refine wp_seq ?_
     refine region_quiet hmix (by kernel_rfl) ?_
     refine qt_fieldAddr h rfl fa47_0 rfl ?_; clear h a; intro a h
     refine qt_loadB h rfl (fun _ hw => hb2.ext hw) rfl na45 rfl ?_; clear h a; intro a h
     refine qt_move h rfl rfl ?_; clear h a; intro a h
     refine qt_idxS h rfl rfl el45 (by omega) (by omega) rfl rfl ?_; clear h a; intro a h
     refine qt_loadC0 h rfl (fun _ hw => (ca.fr hf (by simp)).fr hw (by simp)) na61 rfl ?_; clear h a; intro a h
     refine qt_move h rfl rfl ?_; clear h a; intro a h
     refine qt_idx h rfl rfl hpa el61 (by omega) (by omega) rfl ?_; clear h a; intro a h
     refine qt_loadA h rfl (fun _ hw => (cs.fr hf (by simp)).fr hw (by simp)) ag100 rfl ?_; clear h a; intro a h
     refine qt_fieldAddr h rfl fa47_0 rfl ?_; clear h a; intro a h
     refine qt_loadB h rfl (fun _ hw => hb3.ext hw) rfl na45 rfl ?_; clear h a; intro a h
     refine qt_move h rfl rfl ?_; clear h a; intro a h
     refine qt_idxS h rfl rfl el45 (by omega) (by omega) rfl rfl ?_; clear h a; intro a h
     refine qt_loadC0 h rfl (fun _ hw => (cb.fr hf (by simp)).fr hw (by simp)) na61 rfl ?_; clear h a; intro a h
     refine qt_move h rfl rfl ?_; clear h a; intro a h
     refine qt_idx h rfl rfl hqa el61 (by omega) (by omega) rfl ?_; clear h a; intro a h
     refine qt_loadA h rfl (fun _ hw => (ct.fr hf (by simp)).fr hw (by simp)) ag100 rfl ?_; clear h a; intro a h
     refine qt_neV (e := s) (f := t) h rfl rfl eqv36 rfl ?_; clear h a; intro a h
     refine wpQuiet_nil ?_
     intro w6 hq
     replace hf := hf.next hq
     replace hb2 := hb2.ext hq
     replace hb3 := hb3.ext hq
     clear hq
     replace h : Ag a 61 [(2, _), (3, _), (5, _), (6, _), (60, _)] := h.sub (.cons rfl (.cons rfl (.cons rfl (.cons rfl (.cons rfl .nil)))))
     refine (norm_then ?_)
     first | refine cond_dec h rfl (fun c4 => ?_) (fun c4 => ?_) | refine cond_ndec h rfl (fun c4 => ?_) (fun c4 => ?_) | refine cond_split h rfl (fun c4 => ?_) (fun c4 => ?_)
     ·refine id ?_
      refine wp_seq ?_
      refine wR ?_
      refine st_assign h rfl rfl ?_; clear h a; intro a h
      replace h : Ag a 61 [(4, _)] := h.sub (.cons rfl .nil)
      refine wnt ?_
      refine wp_ret (ret_blk (ret_then (ret_then (ret_blk (ret_blk (ret_then (ret_then (ret_blk (ret_then ?_)))))))))
      refine ret1 h Tryd.results19 rfl ?_
      exact ⟨_, rfl, by rw [if_neg (ne_rows hx hy hs' ht' c4)], hf⟩
     ·refine id ?_
      refine wp_skip (norm_blk (norm_then ?_))
      refine wR ?_
      refine st_move h rfl rfl ?_; clear h a; intro a h
      refine st_add h rfl rfl (by first | exact IntWalk.i64_in _ (by omega) | rfl) rfl ?_; clear h a; intro a h
      refine st_assign h rfl rfl ?_; clear h a; intro a h
      replace h : Ag a 61 [(2, _), (3, _), (5, _), (6, _)] := h.sub (.cons rfl (.cons rfl (.cons rfl (.cons rfl .nil))))
      refine wnt ?_
      exact ⟨k + 1, h.sub (.cons rfl (.cons rfl (.cons rfl (.cons rfl .nil)))), ⟨by omega, by rw [List.take_add_one, List.take_add_one, hkt, hs', ht', Decidable.not_not.1 c4], hb2, hb3, hf⟩, by omega⟩
    ·have hxy : x = y := by
      have e : k = x.length := by omega
      rwa [e, List.take_length, show x.length = y.length by omega, List.take_length] at hkt
     refine wp_exit (exit_then (exit_then (exit_here (norm_blk (norm_then ?_)))))
     refine wR ?_
     refine st_move h rfl rfl ?_; clear h a; intro a h
     refine st_add h rfl rfl (by first | exact IntWalk.i64_in _ (by omega) | rfl) rfl ?_; clear h a; intro a h
     refine st_assign h rfl rfl ?_; clear h a; intro a h
     replace h : Ag a 61 [(2, _), (3, _), (5, _)] := h.sub (.cons rfl (.cons rfl (.cons rfl .nil)))
     refine wnt ?_
     exact ⟨i + 1, h.sub (.cons rfl (.cons rfl (.cons rfl .nil))), ⟨by omega, by rw [List.take_add_one, List.take_add_one, ht, hx, hy, hxy], hb2, hb3, hf⟩, by omega⟩
  ·obtain rfl : i = hs.length := by omega
   have hxy : xs = ys := by
    rwa [hl, List.take_length, show xs.length = ys.length by omega, List.take_length] at ht
   refine wp_exit (exit_then (exit_then (exit_here (norm_then ?_))))
   refine wp_seq ?_
   refine wR ?_
   refine st_assign h rfl rfl ?_; clear h a; intro a h
   replace h : Ag a 61 [(4, _)] := h.sub (.cons rfl .nil)
   refine wnt ?_
   refine wp_ret ?_
   refine ret1 h Tryd.results19 rfl ?_
   exact ⟨_, rfl, by rw [if_pos hxy], hf⟩
theorem repeats_ok (u : Value) (xs : List Stitch) (m : Nat) (w0 : World) (hu : Sl encSt w0 u xs) (hm : m ≤ xs.length) : Rets Tryd.prog 91 #[u, .int .i64 (m : Int)] w0 fun r w' => r = .bool (decide (xs.drop m = xs.take (xs.length - m))) ∧ Fr [] w0 w' := by
 have hu' := hu
 obtain ⟨A, c, rfl, hc, hM, hA⟩ := hu
 unfold maxLen at hM
 have ha := hu'.drop rfl hm (B := if c = m then A else A.map (·.add (m * encSt.sz))) (c' := c - m) (by omega) (by unfold maxLen; omega) (fun hlt => by rw [if_neg (by omega)])
 have hb := hu'.take rfl (m := xs.length - m) (by omega) (B := A) (c' := c) (by omega) (by unfold maxLen; omega) (fun _ => rfl)
 refine enter [(0, .slice A xs.length c), (1, .int .i64 (m : Int))] Tryd.func91 rfl Tryd.ntmps91 rfl (.cons rfl (.cons rfl .nil)) ?_
 have hf := Fr.refl [] w0
 intro a h
 refine wp_seq ?_
 refine wR ?_
 refine st_assign h rfl rfl ?_; clear h a; intro a h
 replace h : Ag a 15 [(0, _), (1, _)] := h.sub (.cons rfl (.cons rfl .nil))
 refine wnt ?_
 refine wp_seq ?_
 refine region_quiet hmix (by kernel_rfl) ?_
 refine qt_move h rfl rfl ?_; clear h a; intro a h
 refine qt_move h rfl rfl ?_; clear h a; intro a h
 refine qt_sl_l (p := m) h rfl rfl el61 (by omega) (by omega) (by omega) rfl ?_; clear h a; intro a h
 refine qt_move h rfl rfl ?_; clear h a; intro a h
 refine qt_move h rfl rfl ?_; clear h a; intro a h
 refine qt_lenS h rfl Tryd.underlying61 rfl ?_; clear h a; intro a h
 refine qt_move h rfl rfl ?_; clear h a; intro a h
 refine qt_sub h rfl rfl (by first | exact IntWalk.i64_in _ (by omega) | rfl) rfl ?_; clear h a; intro a h
 refine qt_sl_h (p := xs.length - m) h rfl rfl el61 (by omega) (by omega) (by omega) rfl ?_; clear h a; intro a h
 refine qt_call h (evs_cons rfl (evs_cons rfl evs_nil)) co103 (fun w hw => (equal_ok _ _ _ _ w (ha.ext hw) (hb.ext hw)).mono fun u w' ⟨e, f⟩ => ⟨e, hw.next f⟩) rfl ?_; clear h a; intro a h
 refine qt_assign h rfl rfl ?_; clear h a; intro a h
 refine wpQuiet_nil ?_
 intro w1 hq
 replace hf := hf.next hq
 clear hq
 replace h : Ag a 15 [(4, _)] := h.sub (.cons rfl .nil)
 refine (norm_then ?_)
 refine wp_ret ?_
 refine ret1 h Tryd.results91 rfl ?_
 exact ⟨_, rfl, rfl, hf⟩
end Go.Proofs.YthehggmdcmpjeaaDoor
namespace Go.Proofs.YthehggmdcmpjeaaDoor
open Go.Lw Go.G14
theorem bo157 : BuildAt Tryd.prog 157 [(0, 1), (1, 1)] [(.int .i64 0), (.int .i64 0)] := BuildAt.array (sz := 1) Tryd.underlying157 (fun _ => by kernel_rfl) (fun _ => by kernel_rfl) (fun i q h => by match i, h with | 0, h => simpa using h.symm | 1, h => simpa using h.symm | (k + 2), h => simp at h)
theorem co32 : CallOf Tryd.prog 32 := CallOf.mk' Tryd.func32 (by kernel_rfl) (by kernel_rfl)
theorem co90 : CallOf Tryd.prog 90 := CallOf.mk' Tryd.func90 (by kernel_rfl) (by kernel_rfl)
theorem co91 : CallOf Tryd.prog 91 := CallOf.mk' Tryd.func91 (by kernel_rfl) (by kernel_rfl)
theorem co92 : CallOf Tryd.prog 92 := CallOf.mk' Tryd.func92 (by kernel_rfl) (by kernel_rfl)
theorem zv9 (w : World) : (zeroValue 9).run Tryd.prog w = .ok (S []) w := by kernel_rfl
def kV (p : Int × Int) : Value := .agg #[.int .i64 p.1, .int .i64 p.2]
theorem eq98 (p q : Int × Int) (w : World) : (Op.equal 157 (kV p) (kV q)).run Tryd.prog w = .ok (decide (p = q)) w := by
 obtain ⟨a, b⟩ := p
 obtain ⟨c, d⟩ := q
 have hp0 : ∀ (x y : Value) w, (part 3 #[x, y] (0 * 1)).run Tryd.prog w = .ok x w := fun _ _ _ => by kernel_rfl
 have hp1 : ∀ (x y : Value) w, (part 3 #[x, y] 1).run Tryd.prog w = .ok y w := fun _ _ _ => by kernel_rfl
 have hs : ∀ w : World, (sizeOf 3).run Tryd.prog w = .ok 1 w := fun _ => by kernel_rfl
 show (Op.equalIn (9998 + 1 + 1) 157 (kV (a, b)) (kV (c, d))).run Tryd.prog w = _
 unfold Op.equalIn
 simp only [kV, Sem.run_bind, run_underlying Tryd.underlying157, Result.andThen_ok, hs]
 simp only [Std.Legacy.Range.forIn_eq_forIn_range', Std.Legacy.Range.size]
 have hI : ∀ (x y : Int) (w : World), (Op.equalIn 9999 3 (.int .i64 x) (.int .i64 y)).run Tryd.prog w = .ok (x == y) w := fun x y w => run_equalIn_int w 9998 3 _ _ x y Tryd.underlying3
 rw [show List.range' 0 ((2 - 0 + 1 - 1) / 1) = [0, 1] from rfl]
 simp only [List.forIn_cons, List.forIn_nil, Sem.run_bind, hp0, hI, Result.andThen_ok]
 by_cases e : a = c
 ·subst e
  by_cases f : b = d
  ·subst f; simp [hp1, hI]
  ·simp [f, hp1, hI]
 ·simp [e]
theorem key98 : KeyLaw Tryd.prog 157 kV := KeyLaw.asking Tryd.underlying157 (fun _ _ => rfl) (fun _ _ _ => by kernel_rfl) eq98 (fun _ => by simp [kV, Instr.sameBits])
set_option maxHeartbeats 4000000 in
theorem shortest_ok (u : Value) (xs : List Stitch) (w0 : World) (hu : Sl encSt w0 u xs) (hn : 1 ≤ xs.length) (hm : xs.length ≤ 16) (hy : Sym w0) : Rets Tryd.prog 76 #[u] w0 fun v w' => v = S (shortS xs) ∧ Fr [] w0 w' := by
 have h00 := hy.pos
 have hrb := hu.blk (by intro e; subst e; simp at hn)
 obtain ⟨A, c, rfl, hc⟩ := hu.form
 have hs := hu
 obtain ⟨-, -, hM, hA⟩ := Sl.open_ hu
 unfold maxLen at hM
 refine enter [(0, .slice A xs.length c)] Tryd.func76 rfl Tryd.ntmps76 rfl (.cons rfl .nil) ?_
 have hf := Fr.refl [] w0
 intro a h
 refine wp_seq ?_
 refine wR ?_
 refine st_assign h rfl rfl ?_; clear h a; intro a h
 replace h : Ag a 115 [(0, _)] := h.sub (.cons rfl .nil)
 refine wnt ?_
 refine wp_seq ?_
 refine wR ?_
 refine st_makeMap kV h rfl ?_; clear h a; intro gt w1 hg hmt hq hz a h
 have hlgt : w0.heap.size ≤ gt := by have := hf.size; omega
 replace hf := hf.next hq
 replace hs := hs.ext hq
 replace hy := hy.ext hq
 clear hq hz hg
 refine st_assign h rfl rfl ?_; clear h a; intro a h
 replace h : Ag a 115 [(0, _), (3, _)] := h.sub (.cons rfl (.cons rfl .nil))
 refine wnt ?_
 refine wp_seq ?_
 refine wR ?_
 refine st_makeMap kV h rfl ?_; clear h a; intro gi w2 hg hmi hq hz a h
 have hlgi : w0.heap.size ≤ gi := by have := hf.size; omega
 have hti : gt < gi := by have := hmt.lt; omega
 replace hf := hf.next hq
 replace hs := hs.ext hq
 replace hy := hy.ext hq
 replace hmt := hmt.ext hq
 clear hq hz hg
 refine st_assign h rfl rfl ?_; clear h a; intro a h
 replace h : Ag a 115 [(0, _), (3, _), (4, _)] := h.sub (.cons rfl (.cons rfl (.cons rfl .nil)))
 refine wnt ?_
 refine wp_seq ?_
 refine wp_seq ?_
 refine wR ?_
 refine st_assign h rfl rfl ?_; clear h a; intro a h
 refine wnt ?_
 refine wp_block ?_
 refine loop (ι := Nat) (fun L => [(0, .slice A xs.length c), (3, .map (some gt)), (4, .map (some gi)), (5, .int .i64 (L : Int))]) (fun L w' => 1 ≤ L ∧ L ≤ xs.length + 1 ∧ MapF kV w' gt (mfun xs.length (fun a m => (T xs a m).2) L 0) ∧ MapF kV w' gi (mfun xs.length (fun a m => (T xs a m).1) L 0) ∧ Sl encSt w' (.slice A xs.length c) xs ∧ Sym w' ∧ Fr [] w0 w') (fun L => xs.length + 1 - L) 1 (h.sub (.cons rfl (.cons rfl (.cons rfl (.cons rfl .nil))))) ⟨by omega, by omega, by rw [mfun_zero]; exact hmt, by rw [mfun_zero]; exact hmi, hs, hy, hf⟩ ?_
 clear h a hmt hmi hs hy hf
 rintro L w3 a h ⟨hL1, hL2, hmt, hmi, hs, hy, hf⟩
 refine wp_seq ?_
 refine wp_seq ?_
 refine wR ?_
 refine st_move h rfl rfl ?_; clear h a; intro a h
 refine st_move h rfl rfl ?_; clear h a; intro a h
 refine st_lenS h rfl Tryd.underlying61 rfl ?_; clear h a; intro a h
 refine st_le h rfl rfl rfl ?_; clear h a; intro a h
 replace h : Ag a 115 [(0, _), (3, _), (4, _), (5, _), (19, _)] := h.sub (.cons rfl (.cons rfl (.cons rfl (.cons rfl (.cons rfl .nil)))))
 refine wnt ?_
 first | refine cond_dec h rfl (fun c0 => ?_) (fun c0 => ?_) | refine cond_ndec h rfl (fun c0 => ?_) (fun c0 => ?_) | refine cond_split h rfl (fun c0 => ?_) (fun c0 => ?_)
 ·refine id ?_
  refine wsn ?_
  refine wp_seq ?_
  refine wp_block ?_
  refine wp_seq ?_
  refine wR ?_
  refine st_assign h rfl rfl ?_; clear h a; intro a h
  replace h : Ag a 115 [(0, _), (3, _), (4, _), (5, _), (6, _)] := h.sub (.cons rfl (.cons rfl (.cons rfl (.cons rfl (.cons rfl .nil)))))
  refine wnt ?_
  refine wp_block ?_
  refine loop (ι := Nat) (fun i => [(0, .slice A xs.length c), (3, .map (some gt)), (4, .map (some gi)), (5, .int .i64 (L : Int)), (6, .int .i64 (i : Int))]) (fun i w' => i ≤ xs.length + 1 - L ∧ MapF kV w' gt (mfun xs.length (fun a m => (T xs a m).2) L i) ∧ MapF kV w' gi (mfun xs.length (fun a m => (T xs a m).1) L i) ∧ Sl encSt w' (.slice A xs.length c) xs ∧ Sym w' ∧ Fr [] w0 w') (fun i => xs.length + 1 - i) 0 (h.sub (.cons rfl (.cons rfl (.cons rfl (.cons rfl (.cons rfl .nil)))))) ⟨by omega, hmt, hmi, hs, hy, hf⟩ ?_
  clear h a hmt hmi hs hy hf
  rintro i w4 a h ⟨hiL, hmt, hmi, hs, hy, hf⟩
  refine wp_seq ?_
  refine wp_seq ?_
  refine wR ?_
  refine st_move h rfl rfl ?_; clear h a; intro a h
  refine st_move h rfl rfl ?_; clear h a; intro a h
  refine st_add h rfl rfl (by first | exact IntWalk.i64_in _ (by omega) | rfl) rfl ?_; clear h a; intro a h
  refine st_move h rfl rfl ?_; clear h a; intro a h
  refine st_lenS h rfl Tryd.underlying61 rfl ?_; clear h a; intro a h
  refine st_le h rfl rfl rfl ?_; clear h a; intro a h
  replace h : Ag a 115 [(0, _), (3, _), (4, _), (5, _), (6, _), (27, _)] := h.sub (.cons rfl (.cons rfl (.cons rfl (.cons rfl (.cons rfl (.cons rfl .nil))))))
  refine wnt ?_
  first | refine cond_dec h rfl (fun c1 => ?_) (fun c1 => ?_) | refine cond_ndec h rfl (fun c1 => ?_) (fun c1 => ?_) | refine cond_split h rfl (fun c1 => ?_) (fun c1 => ?_)
  ·refine id ?_
   refine wsn ?_
   refine wp_seq ?_
   refine wp_block ?_
   refine wp_seq ?_
   refine wR ?_
   refine st_move h rfl rfl ?_; clear h a; intro a h
   refine st_move h rfl rfl ?_; clear h a; intro a h
   refine st_add h rfl rfl (by first | exact IntWalk.i64_in _ (by omega) | rfl) rfl ?_; clear h a; intro a h
   refine st_assign h rfl rfl ?_; clear h a; intro a h
   replace h : Ag a 115 [(0, _), (3, _), (4, _), (5, _), (6, _), (7, _)] := h.sub (.cons rfl (.cons rfl (.cons rfl (.cons rfl (.cons rfl (.cons rfl .nil))))))
   refine wnt ?_
   refine wp_seq ?_
   refine wR ?_
   refine st_assign h rfl rfl ?_; clear h a; intro a h
   refine wnt ?_
   refine seq_cut (Cut (ι := Unit) 115 (fun u => [(0, .slice A xs.length c), (3, .map (some gt)), (4, .map (some gi)), (5, .int .i64 (L : Int)), (6, .int .i64 (i : Int)), (7, .int .i64 ((i : Int) + (L : Int))), (8, S (itemTo (T xs) xs i L 0))]) (fun u w' => MapF kV w' gt (mfun xs.length (fun a m => (T xs a m).2) L i) ∧ MapF kV w' gi (mfun xs.length (fun a m => (T xs a m).1) L i) ∧ Sl encSt w' (.slice A xs.length c) xs ∧ Sym w' ∧ Fr [] w0 w')) ?_ ?_
   ·refine id ?_
    refine wp_seq ?_
    refine wR ?_
    refine st_move h rfl rfl ?_; clear h a; intro a h
    refine st_eq h rfl rfl rfl ?_; clear h a; intro a h
    replace h : Ag a 115 [(0, _), (3, _), (4, _), (5, _), (6, _), (7, _), (8, _), (34, _)] := h.sub (.cons rfl (.cons rfl (.cons rfl (.cons rfl (.cons rfl (.cons rfl (.cons rfl (.cons rfl .nil))))))))
    refine wnt ?_
    first | refine cond_dec h rfl (fun c2 => ?_) (fun c2 => ?_) | refine cond_ndec h rfl (fun c2 => ?_) (fun c2 => ?_) | refine cond_split h rfl (fun c2 => ?_) (fun c2 => ?_)
    ·obtain ⟨x, hxi⟩ : ∃ x, xs[i]? = some x := ⟨_, List.getElem?_eq_getElem (by omega)⟩
     obtain ⟨ad, hAd, ca⟩ := hA i x hxi
     refine wR ?_
     refine st_move h rfl rfl ?_; clear h a; intro a h
     refine st_move h rfl rfl ?_; clear h a; intro a h
     refine st_idxS h (by rw [hAd]; rfl) rfl el61 (by omega) (by omega) rfl rfl ?_; clear h a; intro a h
     refine st_loadA h rfl (ca.fr hf (by simp)) ag100 rfl ?_; clear h a; intro a h
     refine st_call h (evs_cons rfl evs_nil) co90 (text_ok _ _ hy) rfl ?_; clear h a; rintro _ w5 ⟨rfl, hq⟩ a h
     replace hf := hf.next hq
     replace hmt := hmt.ext hq
     replace hmi := hmi.ext hq
     replace hs := hs.ext hq
     replace hy := hy.ext hq
     clear hq
     refine st_assign h rfl rfl ?_; clear h a; intro a h
     replace h : Ag a 115 [(0, _), (3, _), (4, _), (5, _), (6, _), (7, _), (8, _)] := h.sub (.cons rfl (.cons rfl (.cons rfl (.cons rfl (.cons rfl (.cons rfl (.cons rfl .nil)))))))
     refine wnt ?_
     exact ⟨(), h.sub (.cons rfl (.cons rfl (.cons rfl (.cons rfl (.cons rfl (.cons rfl (.cons (by first | (rw [itemTo, if_pos (by omega), List.getD, hxi]; rfl) | (rw [itemTo, if_neg (by omega)]; rfl)) .nil))))))), hmt, hmi, hs, hy, hf⟩
    ·refine id ?_
     refine wsn ?_
     exact ⟨(), h.sub (.cons rfl (.cons rfl (.cons rfl (.cons rfl (.cons rfl (.cons rfl (.cons (by first | (rw [itemTo, if_pos (by omega), List.getD, hxi]; rfl) | (rw [itemTo, if_neg (by omega)]; rfl)) .nil))))))), hmt, hmi, hs, hy, hf⟩
   ·clear h a hmt hmi hs hy hf
    rintro a w6 ⟨u, h, ⟨hmt, hmi, hs, hy, hf⟩⟩
    refine wp_seq ?_
    refine wp_seq ?_
    refine wR ?_
    refine st_assign h rfl rfl ?_; clear h a; intro a h
    refine wnt ?_
    refine wp_block ?_
    refine loop (ι := Nat) (fun k => [(0, .slice A xs.length c), (3, .map (some gt)), (4, .map (some gi)), (5, .int .i64 (L : Int)), (6, .int .i64 (i : Int)), (7, .int .i64 ((i : Int) + (L : Int))), (8, S (itemTo (T xs) xs i L k)), (9, .int .i64 ((k : Int) + 2))]) (fun k w' => k ≤ L - 1 ∧ MapF kV w' gt (mfun xs.length (fun a m => (T xs a m).2) L i) ∧ MapF kV w' gi (mfun xs.length (fun a m => (T xs a m).1) L i) ∧ Sl encSt w' (.slice A xs.length c) xs ∧ Sym w' ∧ Fr [] w0 w') (fun k => L - k) 0 (h.sub (.cons rfl (.cons rfl (.cons rfl (.cons rfl (.cons rfl (.cons rfl (.cons rfl (.cons rfl .nil))))))))) ⟨by omega, hmt, hmi, hs, hy, hf⟩ ?_
    clear h a hmt hmi hs hy hf
    rintro k w7 a h ⟨hk, hmt, hmi, hs, hy, hf⟩
    have hdl : L / (k + 2) * (k + 2) ≤ L := Nat.div_mul_le_self _ _
    have hil := itemT_len xs i L k hL1
    refine wp_seq ?_
    refine wp_seq ?_
    refine wR ?_
    refine st_move h rfl rfl ?_; clear h a; intro a h
    refine st_move h rfl rfl ?_; clear h a; intro a h
    refine st_le h rfl rfl rfl ?_; clear h a; intro a h
    replace h : Ag a 115 [(0, _), (3, _), (4, _), (5, _), (6, _), (7, _), (8, _), (9, _), (42, _)] := h.sub (.cons rfl (.cons rfl (.cons rfl (.cons rfl (.cons rfl (.cons rfl (.cons rfl (.cons rfl (.cons rfl .nil)))))))))
    refine wnt ?_
    first | refine cond_dec h rfl (fun c3 => ?_) (fun c3 => ?_) | refine cond_ndec h rfl (fun c3 => ?_) (fun c3 => ?_) | refine cond_split h rfl (fun c3 => ?_) (fun c3 => ?_)
    ·have hk2 : 2 ≤ k + 2 := by omega
     refine wsn ?_
     refine wp_seq ?_
     refine wp_block ?_
     refine wp_seq ?_
     refine wR ?_
     refine st_move h rfl rfl ?_; clear h a; intro a h
     refine st_move h rfl rfl ?_; clear h a; intro a h
     refine st_quo (z := ((L / (k + 2) : Nat) : Int)) h rfl rfl (by omega) (by rw [IntWalk.i64_quo _ _ (by omega)]; exact (Int.natCast_ediv L (k + 2)).symm) rfl ?_; clear h a; intro a h
     refine st_assign h rfl rfl ?_; clear h a; intro a h
     replace h : Ag a 115 [(0, _), (3, _), (4, _), (5, _), (6, _), (7, _), (8, _), (9, _), (10, _)] := h.sub (.cons rfl (.cons rfl (.cons rfl (.cons rfl (.cons rfl (.cons rfl (.cons rfl (.cons rfl (.cons rfl .nil)))))))))
     refine wnt ?_
     refine wp_seq ?_
     refine wR ?_
     refine st_move h rfl rfl ?_; clear h a; intro a h
     refine st_move h rfl rfl ?_; clear h a; intro a h
     refine st_mul (z := ((L / (k + 2) * (k + 2) : Nat) : Int)) h rfl rfl (by rw [show ((L / (k + 2) : Nat) : Int) * ((k : Int) + 2) = ((L / (k + 2) * (k + 2) : Nat) : Int) from rfl]; exact IntWalk.i64_in _ (by omega)) rfl ?_; clear h a; intro a h
     refine st_move h rfl rfl ?_; clear h a; intro a h
     refine st_eq h rfl rfl rfl ?_; clear h a; intro a h
     refine st_move h rfl rfl ?_; clear h a; intro a h
     first | refine guard_dec (D := 53) h rfl ?_ ?_ | refine guard_ndec (D := 53) h rfl ?_ ?_ | refine guard_any (D := 53) h rfl ?_ ?_
     ·clear h; intro g0 h
      refine gd_yes h rfl rfl rfl rfl rfl rfl ?_
      refine st_move h rfl rfl ?_; clear h a; intro a h
      refine gd_yes h rfl rfl rfl rfl rfl rfl ?_
      refine st_move h rfl rfl ?_; clear h a; intro a h
      refine gd_yes h rfl rfl rfl rfl rfl rfl ?_
      refine st_move h rfl rfl ?_; clear h a; intro a h
      refine gd_yes h rfl rfl rfl rfl rfl rfl ?_
      refine st_sl_lh (p := i) (p' := i + L) h rfl rfl rfl el61 (by omega) (by omega) (by omega) (by omega) (by omega) rfl ?_; clear h a; intro a h
      refine gd_yes h rfl rfl rfl rfl rfl rfl ?_
      refine st_move h rfl rfl ?_; clear h a; intro a h
      refine gd_yes h rfl rfl rfl rfl rfl rfl ?_
      refine st_call h (evs_cons rfl (evs_cons rfl evs_nil)) co91 (repeats_ok _ (partS xs i L) _ _ (part_sl hs (by omega)) (by rw [part_len (show i + L ≤ xs.length by omega)]; have := Nat.div_le_self L (k + 2); omega)) rfl ?_; clear h a; rintro _ w8 ⟨rfl, hq⟩ a h
      replace hf := hf.next hq
      replace hmt := hmt.ext hq
      replace hmi := hmi.ext hq
      replace hs := hs.ext hq
      replace hy := hy.ext hq
      clear hq
      refine st_pick_t h rfl rfl rfl rfl ?_; clear h a; intro a h
      replace h : Ag a 115 [(0, _), (3, _), (4, _), (5, _), (6, _), (7, _), (8, _), (9, _), (10, _), (60, _)] := h.sub (.cons rfl (.cons rfl (.cons rfl (.cons rfl (.cons rfl (.cons rfl (.cons rfl (.cons rfl (.cons rfl (.cons rfl .nil))))))))))
      refine wnt ?_
      first | refine cond_dec h rfl (fun c4 => ?_) (fun c4 => ?_) | refine cond_ndec h rfl (fun c4 => ?_) (fun c4 => ?_) | refine cond_split h rfl (fun c4 => ?_) (fun c4 => ?_)
      ·have hone : 1 ≤ L / (k + 2) := by
        rcases Nat.eq_zero_or_pos (L / (k + 2)) with e | e
        ·rw [e] at hdl; have hz : L / (k + 2) * (k + 2) = L := by omega
         rw [e] at hz; omega
        ·exact e
       have hlt1 : L / (k + 2) < L := Nat.div_lt_self (by omega) (by omega)
       have hTl := (T_len xs i (L / (k + 2)) hone).2
       refine region_quiet hmix (by kernel_rfl) ?_
       refine qt_move h rfl rfl ?_; clear h a; intro a h
       refine qt_move h rfl rfl ?_; clear h a; intro a h
       refine qt_move h rfl rfl ?_; clear h a; intro a h
       refine qt_move h rfl rfl ?_; clear h a; intro a h
       refine qt_move h rfl rfl ?_; clear h a; intro a h
       refine qt_add h rfl rfl (by first | exact IntWalk.i64_in _ (by omega) | rfl) rfl ?_; clear h a; intro a h
       refine qt_lit (cs := [_, _]) h (evs_cons rfl (evs_cons rfl evs_nil)) bo157 (pok_cons rfl rfl rfl (pok_cons rfl rfl rfl pok_nil)) rfl rfl ?_; clear h a; intro a h
       refine qt_lookup (V := kV) (k := ((i : Int), (i : Int) + ((L / (k + 2) : Nat) : Int))) h rfl rfl (fun _ hw => hmt.ext hw) key98 Tryd.underlying154 zv9 (mfun_hit _ (i) (L / (k + 2)) _ _ (by omega) (by omega) (by omega) (by omega) (by omega) _) rfl ?_; clear h a; intro a h
       refine qt_adds h rfl rfl (by first | (simp; done) | (simp; omega)) rfl ?_; clear h a; intro a h
       refine qt_adds h rfl rfl (by first | (simp; done) | (simp; omega)) rfl ?_; clear h a; intro a h
       refine qt_move h rfl rfl ?_; clear h a; intro a h
       refine qt_call h (evs_cons rfl evs_nil) co32 (fun w hw => (itoa_ok (k + 2) w (by omega)).mono fun u w' ⟨e, f⟩ => ⟨e, f ▸ hw⟩) rfl ?_; clear h a; intro a h
       have hit := itoa_len (k + 2)
       refine qt_adds h rfl rfl (by simp; omega) rfl ?_; clear h a; intro a h
       refine qt_call h (evs_cons rfl (evs_cons rfl evs_nil)) co92 (fun w hw => (better_ok _ _ w).mono fun u w' ⟨e, f⟩ => ⟨e, f ▸ hw⟩) rfl ?_; clear h a; intro a h
       refine qt_assign h rfl rfl ?_; clear h a; intro a h
       refine wpQuiet_nil ?_
       intro w9 hq
       replace hf := hf.next hq
       replace hmt := hmt.ext hq
       replace hmi := hmi.ext hq
       replace hs := hs.ext hq
       replace hy := hy.ext hq
       clear hq
       replace h : Ag a 115 [(0, _), (3, _), (4, _), (5, _), (6, _), (7, _), (8, _), (9, _)] := h.sub (.cons rfl (.cons rfl (.cons rfl (.cons rfl (.cons rfl (.cons rfl (.cons rfl (.cons rfl .nil))))))))
       refine (norm_blk (norm_then ?_))
       refine wR ?_
       refine st_move h rfl rfl ?_; clear h a; intro a h
       refine st_add h rfl rfl (by first | exact IntWalk.i64_in _ (by omega) | rfl) rfl ?_; clear h a; intro a h
       refine st_assign h rfl rfl ?_; clear h a; intro a h
       replace h : Ag a 115 [(0, _), (3, _), (4, _), (5, _), (6, _), (7, _), (8, _), (9, _)] := h.sub (.cons rfl (.cons rfl (.cons rfl (.cons rfl (.cons rfl (.cons rfl (.cons rfl (.cons rfl .nil))))))))
       refine wnt ?_
       exact ⟨k + 1, h.sub (.cons rfl (.cons rfl (.cons rfl (.cons rfl (.cons rfl (.cons rfl (.cons (by first | rfl | exact congrArg (fun x => some (S x)) (itemTo_no (fun e => absurd e.1 (by omega))) | exact congrArg (fun x => some (S x)) (itemTo_no (fun e => c4 ((repsB_iff (by omega)).1 e.2))) | exact congrArg (fun x => some (S x)) (itemTo_yes (by omega) ((repsB_iff (by omega)).2 c4))) (.cons (by first | rfl | (congr 2; omega)) .nil)))))))), ⟨by omega, hmt, hmi, hs, hy, hf⟩, by omega⟩
      ·refine id ?_
       refine wp_skip (norm_blk (norm_then ?_))
       refine wR ?_
       refine st_move h rfl rfl ?_; clear h a; intro a h
       refine st_add h rfl rfl (by first | exact IntWalk.i64_in _ (by omega) | rfl) rfl ?_; clear h a; intro a h
       refine st_assign h rfl rfl ?_; clear h a; intro a h
       replace h : Ag a 115 [(0, _), (3, _), (4, _), (5, _), (6, _), (7, _), (8, _), (9, _)] := h.sub (.cons rfl (.cons rfl (.cons rfl (.cons rfl (.cons rfl (.cons rfl (.cons rfl (.cons rfl .nil))))))))
       refine wnt ?_
       exact ⟨k + 1, h.sub (.cons rfl (.cons rfl (.cons rfl (.cons rfl (.cons rfl (.cons rfl (.cons (by first | rfl | exact congrArg (fun x => some (S x)) (itemTo_no (fun e => absurd e.1 (by omega))) | exact congrArg (fun x => some (S x)) (itemTo_no (fun e => c4 ((repsB_iff (by omega)).1 e.2))) | exact congrArg (fun x => some (S x)) (itemTo_yes (by omega) ((repsB_iff (by omega)).2 c4))) (.cons (by first | rfl | (congr 2; omega)) .nil)))))))), ⟨by omega, hmt, hmi, hs, hy, hf⟩, by omega⟩
     ·clear h; intro g0 h
      refine gd_no h rfl rfl rfl rfl rfl rfl rfl rfl ?_; clear h a; intro a h
      refine gd_no h rfl rfl rfl rfl rfl rfl rfl rfl ?_; clear h a; intro a h
      refine gd_no h rfl rfl rfl rfl rfl rfl rfl rfl ?_; clear h a; intro a h
      refine gd_no h rfl rfl rfl rfl rfl rfl rfl rfl ?_; clear h a; intro a h
      refine gd_no h rfl rfl rfl rfl rfl rfl rfl rfl ?_; clear h a; intro a h
      refine gd_no h rfl rfl rfl rfl rfl rfl rfl rfl ?_; clear h a; intro a h
      refine st_pick_f h rfl rfl rfl rfl ?_; clear h a; intro a h
      replace h : Ag a 115 [(0, _), (3, _), (4, _), (5, _), (6, _), (7, _), (8, _), (9, _), (10, _), (60, _)] := h.sub (.cons rfl (.cons rfl (.cons rfl (.cons rfl (.cons rfl (.cons rfl (.cons rfl (.cons rfl (.cons rfl (.cons rfl .nil))))))))))
      refine wnt ?_
      refine cond_false h rfl ?_
      refine wp_skip (norm_blk (norm_then ?_))
      refine wR ?_
      refine st_move h rfl rfl ?_; clear h a; intro a h
      refine st_add h rfl rfl (by first | exact IntWalk.i64_in _ (by omega) | rfl) rfl ?_; clear h a; intro a h
      refine st_assign h rfl rfl ?_; clear h a; intro a h
      replace h : Ag a 115 [(0, _), (3, _), (4, _), (5, _), (6, _), (7, _), (8, _), (9, _)] := h.sub (.cons rfl (.cons rfl (.cons rfl (.cons rfl (.cons rfl (.cons rfl (.cons rfl (.cons rfl .nil))))))))
      refine wnt ?_
      exact ⟨k + 1, h.sub (.cons rfl (.cons rfl (.cons rfl (.cons rfl (.cons rfl (.cons rfl (.cons (by first | rfl | exact congrArg (fun x => some (S x)) (itemTo_no (fun e => absurd e.1 (by omega))) | exact congrArg (fun x => some (S x)) (itemTo_no (fun e => c4 ((repsB_iff (by omega)).1 e.2))) | exact congrArg (fun x => some (S x)) (itemTo_yes (by omega) ((repsB_iff (by omega)).2 c4))) (.cons (by first | rfl | (congr 2; omega)) .nil)))))))), ⟨by omega, hmt, hmi, hs, hy, hf⟩, by omega⟩
    ·obtain rfl : k = L - 1 := by omega
     refine wp_exit (exit_then (exit_then (exit_here (norm_then ?_))))
     refine wp_seq ?_
     refine wR ?_
     refine st_move h rfl rfl ?_; clear h a; intro a h
     refine st_assign h rfl rfl ?_; clear h a; intro a h
     replace h : Ag a 115 [(0, _), (3, _), (4, _), (5, _), (6, _), (7, _), (8, _), (11, _)] := h.sub (.cons rfl (.cons rfl (.cons rfl (.cons rfl (.cons rfl (.cons rfl (.cons rfl (.cons rfl .nil))))))))
     refine wnt ?_
     refine wp_seq ?_
     refine wp_seq ?_
     refine wR ?_
     refine st_move h rfl rfl ?_; clear h a; intro a h
     refine st_add h rfl rfl (by first | exact IntWalk.i64_in _ (by omega) | rfl) rfl ?_; clear h a; intro a h
     refine st_assign h rfl rfl ?_; clear h a; intro a h
     replace h : Ag a 115 [(0, _), (3, _), (4, _), (5, _), (6, _), (7, _), (8, _), (11, _), (12, _)] := h.sub (.cons rfl (.cons rfl (.cons rfl (.cons rfl (.cons rfl (.cons rfl (.cons rfl (.cons rfl (.cons rfl .nil)))))))))
     refine wnt ?_
     refine wp_block ?_
     refine loop (ι := Nat) (fun m => [(0, .slice A xs.length c), (3, .map (some gt)), (4, .map (some gi)), (5, .int .i64 (L : Int)), (6, .int .i64 (i : Int)), (7, .int .i64 ((i : Int) + (L : Int))), (8, S (itemTo (T xs) xs i L (L - 1))), (11, S (textTo (T xs) i L (itemTo (T xs) xs i L (L - 1)) m)), (12, .int .i64 ((i : Int) + 1 + (m : Int)))]) (fun m w' => m ≤ L - 1 ∧ MapF kV w' gt (mfun xs.length (fun a m => (T xs a m).2) L i) ∧ MapF kV w' gi (mfun xs.length (fun a m => (T xs a m).1) L i) ∧ Sl encSt w' (.slice A xs.length c) xs ∧ Sym w' ∧ Fr [] w0 w') (fun m => L - m) 0 (h.sub (.cons rfl (.cons rfl (.cons rfl (.cons rfl (.cons rfl (.cons rfl (.cons rfl (.cons rfl (.cons (by first | rfl | (congr 2; omega)) .nil)))))))))) ⟨by omega, hmt, hmi, hs, hy, hf⟩ ?_
     clear h a hmt hmi hs hy hf
     rintro m w10 a h ⟨hml, hmt, hmi, hs, hy, hf⟩
     have hil := itemT_len xs i L (L - 1) hL1
     have htl := textT_len xs i L m _ hil (by omega)
     refine wp_seq ?_
     refine wp_seq ?_
     refine wR ?_
     refine st_move h rfl rfl ?_; clear h a; intro a h
     refine st_move h rfl rfl ?_; clear h a; intro a h
     refine st_lt h rfl rfl rfl ?_; clear h a; intro a h
     replace h : Ag a 115 [(0, _), (3, _), (4, _), (5, _), (6, _), (7, _), (8, _), (11, _), (12, _), (80, _)] := h.sub (.cons rfl (.cons rfl (.cons rfl (.cons rfl (.cons rfl (.cons rfl (.cons rfl (.cons rfl (.cons rfl (.cons rfl .nil))))))))))
     refine wnt ?_
     first | refine cond_dec h rfl (fun c5 => ?_) (fun c5 => ?_) | refine cond_ndec h rfl (fun c5 => ?_) (fun c5 => ?_) | refine cond_split h rfl (fun c5 => ?_) (fun c5 => ?_)
     ·refine id ?_
      refine wsn ?_
      refine wp_seq ?_
      refine wp_block ?_
      refine wp_seq ?_
      refine wR ?_
      refine st_move h rfl rfl ?_; clear h a; intro a h
      refine st_move h rfl rfl ?_; clear h a; intro a h
      refine st_move h rfl rfl ?_; clear h a; intro a h
      refine st_lit (cs := [_, _]) h (evs_cons rfl (evs_cons rfl evs_nil)) bo157 (pok_cons rfl rfl rfl (pok_cons rfl rfl rfl pok_nil)) rfl rfl ?_; clear h a; intro a h
      have hTi := T_len xs i (m + 1) (by omega)
      refine st_lookup (V := kV) (k := ((i : Int), (i : Int) + 1 + (m : Int))) h rfl rfl hmi key98 Tryd.underlying154 zv9 (mfun_hit _ (i) (m + 1) _ _ (by omega) (by omega) (by omega) (by omega) (by omega) _) rfl ?_; clear h a; intro a h
      refine st_assign h rfl rfl ?_; clear h a; intro a h
      replace h : Ag a 115 [(0, _), (3, _), (4, _), (5, _), (6, _), (7, _), (8, _), (11, _), (12, _), (13, _)] := h.sub (.cons rfl (.cons rfl (.cons rfl (.cons rfl (.cons rfl (.cons rfl (.cons rfl (.cons rfl (.cons rfl (.cons rfl .nil))))))))))
      refine wnt ?_
      refine wp_seq ?_
      refine wR ?_
      refine st_move h rfl rfl ?_; clear h a; intro a h
      refine st_nes h rfl rfl rfl ?_; clear h a; intro a h
      replace h : Ag a 115 [(0, _), (3, _), (4, _), (5, _), (6, _), (7, _), (8, _), (11, _), (12, _), (13, _), (89, _)] := h.sub (.cons rfl (.cons rfl (.cons rfl (.cons rfl (.cons rfl (.cons rfl (.cons rfl (.cons rfl (.cons rfl (.cons rfl (.cons rfl .nil)))))))))))
      refine wnt ?_
      first | refine cond_dec h rfl (fun c6 => ?_) (fun c6 => ?_) | refine cond_ndec h rfl (fun c6 => ?_) (fun c6 => ?_) | refine cond_split h rfl (fun c6 => ?_) (fun c6 => ?_)
      ·refine id ?_
       refine wR ?_
       refine st_move h rfl rfl ?_; clear h a; intro a h
       refine st_move h rfl rfl ?_; clear h a; intro a h
       refine st_adds h rfl rfl (by first | (simp; done) | (simp; omega)) rfl ?_; clear h a; intro a h
       refine st_move h rfl rfl ?_; clear h a; intro a h
       refine st_move h rfl rfl ?_; clear h a; intro a h
       refine st_move h rfl rfl ?_; clear h a; intro a h
       refine st_lit (cs := [_, _]) h (evs_cons rfl (evs_cons rfl evs_nil)) bo157 (pok_cons rfl rfl rfl (pok_cons rfl rfl rfl pok_nil)) rfl rfl ?_; clear h a; intro a h
       have hTr := (T_len xs (i + (m + 1)) (L - (m + 1)) (by omega)).2
       refine st_lookup (V := kV) (k := ((i : Int) + 1 + (m : Int), (i : Int) + (L : Int))) h rfl rfl hmt key98 Tryd.underlying154 zv9 (mfun_hit _ (i + (m + 1)) (L - (m + 1)) _ _ (by omega) (by omega) (by omega) (by omega) (by omega) _) rfl ?_; clear h a; intro a h
       refine st_adds h rfl rfl (by first | (simp; done) | (simp; omega)) rfl ?_; clear h a; intro a h
       refine st_call h (evs_cons rfl (evs_cons rfl evs_nil)) co92 (better_ok _ _ _) rfl ?_; clear h a; rintro _ _ ⟨rfl, rfl⟩ a h
       refine st_assign h rfl rfl ?_; clear h a; intro a h
       replace h : Ag a 115 [(0, _), (3, _), (4, _), (5, _), (6, _), (7, _), (8, _), (11, _), (12, _)] := h.sub (.cons rfl (.cons rfl (.cons rfl (.cons rfl (.cons rfl (.cons rfl (.cons rfl (.cons rfl (.cons rfl .nil)))))))))
       refine wpList_nil (norm_blk (norm_then ?_))
       refine wR ?_
       refine st_move h rfl rfl ?_; clear h a; intro a h
       refine st_add h rfl rfl (by first | exact IntWalk.i64_in _ (by omega) | rfl) rfl ?_; clear h a; intro a h
       refine st_assign h rfl rfl ?_; clear h a; intro a h
       replace h : Ag a 115 [(0, _), (3, _), (4, _), (5, _), (6, _), (7, _), (8, _), (11, _), (12, _)] := h.sub (.cons rfl (.cons rfl (.cons rfl (.cons rfl (.cons rfl (.cons rfl (.cons rfl (.cons rfl (.cons rfl .nil)))))))))
       refine wnt ?_
       exact ⟨m + 1, h.sub (.cons rfl (.cons rfl (.cons rfl (.cons rfl (.cons rfl (.cons rfl (.cons rfl (.cons (by first | exact congrArg (fun x => some (S x)) (textTo_yes c6) | exact congrArg (fun x => some (S x)) (textTo_no c6)) (.cons (by first | rfl | (congr 2; omega)) .nil))))))))), ⟨by omega, hmt, hmi, hs, hy, hf⟩, by omega⟩
      ·refine id ?_
       refine wp_skip (norm_blk (norm_then ?_))
       refine wR ?_
       refine st_move h rfl rfl ?_; clear h a; intro a h
       refine st_add h rfl rfl (by first | exact IntWalk.i64_in _ (by omega) | rfl) rfl ?_; clear h a; intro a h
       refine st_assign h rfl rfl ?_; clear h a; intro a h
       replace h : Ag a 115 [(0, _), (3, _), (4, _), (5, _), (6, _), (7, _), (8, _), (11, _), (12, _)] := h.sub (.cons rfl (.cons rfl (.cons rfl (.cons rfl (.cons rfl (.cons rfl (.cons rfl (.cons rfl (.cons rfl .nil)))))))))
       refine wnt ?_
       exact ⟨m + 1, h.sub (.cons rfl (.cons rfl (.cons rfl (.cons rfl (.cons rfl (.cons rfl (.cons rfl (.cons (by first | exact congrArg (fun x => some (S x)) (textTo_yes c6) | exact congrArg (fun x => some (S x)) (textTo_no c6)) (.cons (by first | rfl | (congr 2; omega)) .nil))))))))), ⟨by omega, hmt, hmi, hs, hy, hf⟩, by omega⟩
     ·obtain rfl : m = L - 1 := by omega
      rw [show itemTo (T xs) xs i L (L - 1) = (T xs i L).1 from (T_item xs i L hL1 (by omega)).symm, ← T_text xs i L hL1 (by omega), T_item xs i L hL1 (by omega)] at h
      refine wp_exit (exit_then (exit_then (exit_here (norm_then ?_))))
      refine wp_seq ?_
      refine wR ?_
      refine st_move h rfl rfl ?_; clear h a; intro a h
      refine st_move h rfl rfl ?_; clear h a; intro a h
      refine st_move h rfl rfl ?_; clear h a; intro a h
      refine st_lit (cs := [_, _]) h (evs_cons rfl (evs_cons rfl evs_nil)) bo157 (pok_cons rfl rfl rfl (pok_cons rfl rfl rfl pok_nil)) rfl rfl ?_; clear h a; intro a h
      refine st_move h rfl rfl ?_; clear h a; intro a h
      refine st_mapSet (k := ((i : Int), (i : Int) + (L : Int))) h rfl rfl rfl hmi key98 Tryd.underlying154 ?_; clear h a; intro w11 hmn hq hz a h
      replace hf := hf.step hq (by simp; omega)
      replace hs := hs.fr hq (by intro k hk hb; have := hrb k hb; simp at hk; omega)
      replace hy := hy.fr hq (by simp; omega)
      replace hmt := hmt.fr hq (by simp; omega)
      rw [show itemTo (T xs) xs i L (L - 1) = (T xs i L).1 from (T_item xs i L hL1 (by omega)).symm] at hmn
      rw [mfun_set (fun a m => (T xs a m).1) hL1 (by omega)] at hmn
      clear hq hz hmi; have hmi := hmn; clear hmn
      replace h : Ag a 115 [(0, _), (3, _), (4, _), (5, _), (6, _), (7, _), (11, _)] := h.sub (.cons rfl (.cons rfl (.cons rfl (.cons rfl (.cons rfl (.cons rfl (.cons rfl .nil)))))))
      refine wnt ?_
      refine wR ?_
      refine st_move h rfl rfl ?_; clear h a; intro a h
      refine st_move h rfl rfl ?_; clear h a; intro a h
      refine st_move h rfl rfl ?_; clear h a; intro a h
      refine st_lit (cs := [_, _]) h (evs_cons rfl (evs_cons rfl evs_nil)) bo157 (pok_cons rfl rfl rfl (pok_cons rfl rfl rfl pok_nil)) rfl rfl ?_; clear h a; intro a h
      refine st_move h rfl rfl ?_; clear h a; intro a h
      refine st_mapSet (k := ((i : Int), (i : Int) + (L : Int))) h rfl rfl rfl hmt key98 Tryd.underlying154 ?_; clear h a; intro w12 hmn hq hz a h
      replace hf := hf.step hq (by simp; omega)
      replace hs := hs.fr hq (by intro k hk hb; have := hrb k hb; simp at hk; omega)
      replace hy := hy.fr hq (by simp; omega)
      replace hmi := hmi.fr hq (by simp; omega)
      rw [mfun_set (fun a m => (T xs a m).2) hL1 (by omega)] at hmn
      clear hq hz hmt; have hmt := hmn; clear hmn
      replace h : Ag a 115 [(0, _), (3, _), (4, _), (5, _), (6, _)] := h.sub (.cons rfl (.cons rfl (.cons rfl (.cons rfl (.cons rfl .nil)))))
      refine wpList_nil (norm_blk (norm_then ?_))
      refine wR ?_
      refine st_move h rfl rfl ?_; clear h a; intro a h
      refine st_add h rfl rfl (by first | exact IntWalk.i64_in _ (by omega) | rfl) rfl ?_; clear h a; intro a h
      refine st_assign h rfl rfl ?_; clear h a; intro a h
      replace h : Ag a 115 [(0, _), (3, _), (4, _), (5, _), (6, _)] := h.sub (.cons rfl (.cons rfl (.cons rfl (.cons rfl (.cons rfl .nil)))))
      refine wnt ?_
      exact ⟨i + 1, h.sub (.cons rfl (.cons rfl (.cons rfl (.cons rfl (.cons rfl .nil))))), ⟨by omega, hmt, hmi, hs, hy, hf⟩, by omega⟩
  ·refine id ?_
   refine wp_exit (exit_then (exit_then (exit_here (norm_blk (norm_then ?_)))))
   refine wR ?_
   refine st_move h rfl rfl ?_; clear h a; intro a h
   refine st_add h rfl rfl (by first | exact IntWalk.i64_in _ (by omega) | rfl) rfl ?_; clear h a; intro a h
   refine st_assign h rfl rfl ?_; clear h a; intro a h
   replace h : Ag a 115 [(0, _), (3, _), (4, _), (5, _)] := h.sub (.cons rfl (.cons rfl (.cons rfl (.cons rfl .nil))))
   refine wnt ?_
   exact ⟨L + 1, h.sub (.cons rfl (.cons rfl (.cons rfl (.cons rfl .nil)))), ⟨by omega, by omega, by rw [← mfun_next _ (show xs.length < i + L by omega)]; exact hmt, by rw [← mfun_next _ (show xs.length < i + L by omega)]; exact hmi, hs, hy, hf⟩, by omega⟩
 ·obtain rfl : L = xs.length + 1 := by omega
  refine wp_exit (exit_then (exit_then (exit_here (norm_then ?_))))
  refine wp_seq ?_
  refine wR ?_
  refine st_move h rfl rfl ?_; clear h a; intro a h
  refine st_move h rfl rfl ?_; clear h a; intro a h
  refine st_lenS h rfl Tryd.underlying61 rfl ?_; clear h a; intro a h
  refine st_lit (cs := [_, _]) h (evs_cons rfl (evs_cons rfl evs_nil)) bo157 (pok_cons rfl rfl rfl (pok_cons rfl rfl rfl pok_nil)) rfl rfl ?_; clear h a; intro a h
  refine st_lookup (V := kV) (k := (0, (xs.length : Int))) h rfl rfl hmt key98 Tryd.underlying154 zv9 (mfun_hit _ 0 xs.length _ _ (by omega) (by omega) (by omega) (by omega) (by omega) _) rfl ?_; clear h a; intro a h
  refine st_assign h rfl rfl ?_; clear h a; intro a h
  replace h : Ag a 115 [(2, _)] := h.sub (.cons rfl .nil)
  refine wnt ?_
  refine wp_ret ?_
  refine ret1 h Tryd.results76 rfl ?_
  exact ⟨_, rfl, rfl, hf⟩
end Go.Proofs.YthehggmdcmpjeaaDoor
namespace Go.Proofs.YthehggmdcmpjeaaDoor
open Go.Lw Go.G14
theorem co42 : CallOf Tryd.prog 42 := CallOf.mk' Tryd.func42 (by kernel_rfl) (by kernel_rfl)
theorem co76 : CallOf Tryd.prog 76 := CallOf.mk' Tryd.func76 (by kernel_rfl) (by kernel_rfl)
theorem sz100 : SizeOf Tryd.prog 100 5 := fun _ => by kernel_rfl
theorem zv100 (w : World) : (zeroValue 100).run Tryd.prog w = .ok (.agg #[(.int .u8 0), (.int .u8 0), (.int .i64 0), (.int .i64 0), (.bool false)]) w := by kernel_rfl
theorem shorten_ok (u : Value) (xs : List Stitch) (w0 : World) (hu : Sl encSt w0 u xs) (hy : Sym w0) : Rets Tryd.prog 56 #[u] w0 fun v w' => v = .tuple #[S (shortenS xs).1, .int .i64 (shortenS xs).2] ∧ Fr [] w0 w' := by
 have h00 := hy.pos
 obtain ⟨A, c, rfl, hc⟩ := hu.form
 have hs := hu
 obtain ⟨-, -, hM, hA⟩ := Sl.open_ hu
 unfold maxLen at hM
 refine enter [(0, .slice A xs.length c)] Tryd.func56 rfl Tryd.ntmps56 rfl (.cons rfl .nil) ?_
 have hf := Fr.refl [] w0
 intro a h
 refine wp_seq ?_
 refine wR ?_
 refine st_assign h rfl rfl ?_; clear h a; intro a h
 refine st_assign h rfl rfl ?_; clear h a; intro a h
 replace h : Ag a 24 [(0, _)] := h.sub (.cons rfl .nil)
 refine wnt ?_
 refine wp_seq ?_
 refine wp_seq ?_
 refine wR ?_
 refine st_move h rfl rfl ?_; clear h a; intro a h
 refine st_lenS h rfl Tryd.underlying61 rfl ?_; clear h a; intro a h
 refine st_gt h rfl rfl rfl ?_; clear h a; intro a h
 replace h : Ag a 24 [(0, _), (8, _)] := h.sub (.cons rfl (.cons rfl .nil))
 refine wnt ?_
 first | refine cond_dec h rfl (fun c0 => ?_) (fun c0 => ?_) | refine cond_ndec h rfl (fun c0 => ?_) (fun c0 => ?_) | refine cond_split h rfl (fun c0 => ?_) (fun c0 => ?_)
 ·refine id ?_
  refine wp_seq ?_
  refine wR ?_
  refine st_assign h rfl rfl ?_; clear h a; intro a h
  refine st_assign h rfl rfl ?_; clear h a; intro a h
  replace h : Ag a 24 [(2, _), (3, _)] := h.sub (.cons rfl (.cons rfl .nil))
  refine wnt ?_
  refine wp_ret (ret_then ?_)
  refine ret2 h Tryd.results56 rfl rfl ?_
  exact ⟨_, rfl, by rw [shortenS, if_pos (by omega)]; rfl, hf⟩
 ·refine id ?_
  refine wsn ?_
  refine wp_seq ?_
  refine wp_seq ?_
  refine wR ?_
  refine st_move h rfl rfl ?_; clear h a; intro a h
  refine st_lenS h rfl Tryd.underlying61 rfl ?_; clear h a; intro a h
  refine st_eq h rfl rfl rfl ?_; clear h a; intro a h
  replace h : Ag a 24 [(0, _), (11, _)] := h.sub (.cons rfl (.cons rfl .nil))
  refine wnt ?_
  first | refine cond_dec h rfl (fun c1 => ?_) (fun c1 => ?_) | refine cond_ndec h rfl (fun c1 => ?_) (fun c1 => ?_) | refine cond_split h rfl (fun c1 => ?_) (fun c1 => ?_)
  ·refine id ?_
   refine wp_seq ?_
   refine wR ?_
   refine st_assign h rfl rfl ?_; clear h a; intro a h
   refine st_assign h rfl rfl ?_; clear h a; intro a h
   replace h : Ag a 24 [(2, _), (3, _)] := h.sub (.cons rfl (.cons rfl .nil))
   refine wnt ?_
   refine wp_ret (ret_then ?_)
   refine ret2 h Tryd.results56 rfl rfl ?_
   exact ⟨_, rfl, by rw [shortenS, if_neg (by omega), if_pos (by omega)]; rfl, hf⟩
  ·refine id ?_
   refine wsn ?_
   refine wp_seq ?_
   refine wp_seq ?_
   refine wR ?_
   refine st_move h rfl rfl ?_; clear h a; intro a h
   refine st_lenS h rfl Tryd.underlying61 rfl ?_; clear h a; intro a h
   refine st_move h rfl rfl ?_; clear h a; intro a h
   replace h : Ag a 24 [(0, _), (12, _), (13, _), (14, _)] := h.sub (.cons rfl (.cons rfl (.cons rfl (.cons rfl .nil))))
   refine wnt ?_
   refine wp_block ?_
   refine loop (ι := Nat) (fun k => [(0, .slice A xs.length c), (12, .slice A xs.length c), (13, .int .i64 (xs.length : Int)), (14, .int .i64 (k : Int))]) (fun k w' => k ≤ xs.length ∧ (xs.take k).all okB = true ∧ Sl encSt w' (.slice A xs.length c) xs ∧ Sym w' ∧ Fr [] w0 w') (fun k => xs.length - k) 0 (h.sub (.cons rfl (.cons rfl (.cons rfl (.cons rfl .nil))))) ⟨by omega, rfl, hs, hy, hf⟩ ?_
   clear h a hs hy hf
   rintro k w1 a h ⟨hk, ha, hs, hy, hf⟩
   refine wp_seq ?_
   refine wR ?_
   refine st_lt h rfl rfl rfl ?_; clear h a; intro a h
   refine wnt ?_
   refine wp_seq ?_
   first | refine cond_dec h rfl (fun c2 => ?_) (fun c2 => ?_) | refine cond_ndec h rfl (fun c2 => ?_) (fun c2 => ?_) | refine cond_split h rfl (fun c2 => ?_) (fun c2 => ?_)
   ·have hrb := hu.blk (by intro e; subst e; simp at c1)
    obtain ⟨x, hxk⟩ : ∃ x, xs[k]? = some x := ⟨_, List.getElem?_eq_getElem (by omega)⟩
    obtain ⟨ad, hAd, ca⟩ := hA k x hxk
    refine wsn ?_
    refine wp_seq ?_
    refine wp_block ?_
    refine wp_seq ?_
    refine wR ?_
    refine st_idxS h (by rw [hAd]; rfl) rfl el61 (by omega) (by omega) rfl rfl ?_; clear h a; intro a h
    refine st_loadA h rfl (ca.fr hf (by simp)) ag100 rfl ?_; clear h a; intro a h
    refine st_alloc h zv100 rfl rfl ?_; clear h a; intro w2 hb5 hq hz a h
    obtain ⟨g_5, hg⟩ : ∃ g, g = w1.heap.size := ⟨_, rfl⟩; rw [← hg] at hb5 h hz
    have hl5 : w0.heap.size ≤ g_5 := by have := hf.size; omega
    replace hf := hf.next hq
    replace hs := hs.ext hq
    replace hy := hy.ext hq
    clear hq hz hg
    refine st_storeBA h rfl rfl hb5 rfl (by first | (simp [Value.oneCell', S]; done) | exact Enc.one _ _) sz100 ?_; clear h a; intro w3 hbn hq hz a h
    replace hf := hf.step hq (by first | (simp; done) | (simp; omega))
    replace hs := hs.fr hq (by intro k hk hb; have := hrb k hb; simp at hk; omega)
    replace hy := hy.fr hq (by first | (simp; done) | (simp; omega) | (simp [blks]; done) | (simp [blks]; omega))
    clear hb5 hq hz; have hb5 : Blk w3 g_5 _ [_, _, _, _, _] := hbn; clear hbn
    replace h : Ag a 24 [(0, _), (5, _), (12, _), (13, _), (14, _)] := h.sub (.cons rfl (.cons rfl (.cons rfl (.cons rfl (.cons rfl .nil)))))
    refine wnt ?_
    refine wp_seq ?_
    refine wR ?_
    refine st_loadBA h rfl hb5 ag100 rfl ?_; clear h a; intro a h
    refine st_call h (evs_cons rfl evs_nil) co68 (check_ok x _) rfl ?_; clear h a; rintro _ w4 ⟨rfl, hq⟩ a h
    replace hf := hf.next hq
    replace hs := hs.ext hq
    replace hy := hy.ext hq
    replace hb5 := hb5.ext hq
    clear hq
    refine st_ne h rfl rfl rfl ?_; clear h a; intro a h
    replace h : Ag a 24 [(0, _), (12, _), (13, _), (14, _), (20, _)] := h.sub (.cons rfl (.cons rfl (.cons rfl (.cons rfl (.cons rfl .nil)))))
    refine wnt ?_
    first | refine cond_dec h rfl (fun c3 => ?_) (fun c3 => ?_) | refine cond_ndec h rfl (fun c3 => ?_) (fun c3 => ?_) | refine cond_split h rfl (fun c3 => ?_) (fun c3 => ?_)
    ·refine id ?_
     refine wp_seq ?_
     refine wR ?_
     refine st_assign h rfl rfl ?_; clear h a; intro a h
     refine st_assign h rfl rfl ?_; clear h a; intro a h
     replace h : Ag a 24 [(2, _), (3, _)] := h.sub (.cons rfl (.cons rfl .nil))
     refine wnt ?_
     refine wp_ret (ret_blk (ret_then (ret_then (ret_blk (ret_then ?_)))))
     refine ret2 h Tryd.results56 rfl rfl ?_
     exact ⟨_, rfl, by rw [shortenS, if_neg (by omega), if_neg (by omega), if_neg (fun e => c3 ((okB_iff _).1 (List.all_eq_true.1 e x (List.mem_of_getElem? hxk))))]; rfl, hf⟩
    ·refine id ?_
     refine wp_skip (norm_blk (norm_then ?_))
     refine wR ?_
     refine st_add h rfl rfl (by first | exact IntWalk.i64_in _ (by omega) | rfl) rfl ?_; clear h a; intro a h
     refine st_move h rfl rfl ?_; clear h a; intro a h
     replace h : Ag a 24 [(0, _), (12, _), (13, _), (14, _)] := h.sub (.cons rfl (.cons rfl (.cons rfl (.cons rfl .nil))))
     refine wnt ?_
     exact ⟨k + 1, h.sub (.cons rfl (.cons rfl (.cons rfl (.cons rfl .nil)))), ⟨by omega, by rw [List.take_add_one, hxk]; exact all_snocS _ _ ha ((okB_iff _).2 (by omega)), hs, hy, hf⟩, by omega⟩
   ·obtain rfl : k = xs.length := by omega
    rw [List.take_length] at ha
    refine wp_exit (exit_then (exit_then (exit_here (norm_then ?_))))
    refine wp_seq ?_
    refine wR ?_
    refine st_move h rfl rfl ?_; clear h a; intro a h
    refine st_call h (evs_cons rfl evs_nil) co76 (shortest_ok _ xs _ hs (by omega) (by omega) hy) rfl ?_; clear h a; rintro _ w5 ⟨rfl, hq⟩ a h
    replace hf := hf.next hq
    replace hs := hs.ext hq
    replace hy := hy.ext hq
    clear hq
    refine st_assign h rfl rfl ?_; clear h a; intro a h
    refine st_assign h rfl rfl ?_; clear h a; intro a h
    replace h : Ag a 24 [(2, _), (3, _)] := h.sub (.cons rfl (.cons rfl .nil))
    refine wnt ?_
    refine wp_ret ?_
    refine ret2 h Tryd.results56 rfl rfl ?_
    exact ⟨_, rfl, by rw [shortenS, if_neg (by omega), if_neg (by omega), if_pos ha], hf⟩
theorem valid_ok (s : Stitch) (w0 : World) (hk : 0 ≤ s.k) (hy : 0 ≤ s.y) : Rets Tryd.prog 42 #[stV s] w0 fun v w' => v = .int .i64 (if checkS s = 0 then 1 else 0) ∧ Fr [] w0 w' := by
 refine enter [(0, stV s)] Tryd.func42 rfl Tryd.ntmps42 rfl (.cons rfl .nil) ?_
 have hf := Fr.refl [] w0
 intro a h
 refine wp_seq ?_
 refine wR ?_
 refine st_box h rfl rfl rfl ?_; clear h a; intro w1 hb1 hq hz a h
 obtain ⟨g_1, hg⟩ : ∃ g, g = w0.heap.size := ⟨_, rfl⟩; rw [← hg] at hb1 h hz
 have hl1 : w0.heap.size ≤ g_1 := by have := hf.size; omega
 replace hf := hf.next hq
 clear hq hz hg
 refine st_assign h rfl rfl ?_; clear h a; intro a h
 replace h : Ag a 58 [(1, _)] := h.sub (.cons rfl .nil)
 refine wnt ?_
 refine wp_seq ?_
 refine wp_seq ?_
 refine region_bool (r := 22) (L' := [(1, _)]) (s.y = 0 ∨ 6 < s.y ∨ s.k = 0 ∨ 8 < s.k) h (.cons rfl .nil) ?_ ?_
 ·refine id ?_
  refine st_fieldAddr h rfl fa100_1 rfl ?_; clear h a; intro a h
  refine st_loadB h rfl hb1 rfl na5 rfl ?_; clear h a; intro a h
  refine st_eq h rfl rfl rfl ?_; clear h a; intro a h
  refine st_move h rfl rfl ?_; clear h a; intro a h
  first | refine guard_dec (D := 8) h rfl ?_ ?_ | refine guard_ndec (D := 8) h rfl ?_ ?_ | refine guard_any (D := 8) h rfl ?_ ?_
  ·clear h; intro g0 h
   refine gd_no h rfl rfl rfl rfl rfl rfl rfl rfl ?_; clear h a; intro a h
   refine gd_no h rfl rfl rfl rfl rfl rfl rfl rfl ?_; clear h a; intro a h
   refine gd_no h rfl rfl rfl rfl rfl rfl rfl rfl ?_; clear h a; intro a h
   refine st_pick_t h rfl rfl rfl rfl ?_; clear h a; intro a h
   refine st_move h rfl rfl ?_; clear h a; intro a h
   refine gd_no h rfl rfl rfl rfl rfl rfl rfl rfl ?_; clear h a; intro a h
   refine gd_no h rfl rfl rfl rfl rfl rfl rfl rfl ?_; clear h a; intro a h
   refine gd_no h rfl rfl rfl rfl rfl rfl rfl rfl ?_; clear h a; intro a h
   refine st_pick_t h rfl rfl rfl rfl ?_; clear h a; intro a h
   refine st_move h rfl rfl ?_; clear h a; intro a h
   refine gd_no h rfl rfl rfl rfl rfl rfl rfl rfl ?_; clear h a; intro a h
   refine gd_no h rfl rfl rfl rfl rfl rfl rfl rfl ?_; clear h a; intro a h
   refine gd_no h rfl rfl rfl rfl rfl rfl rfl rfl ?_; clear h a; intro a h
   refine st_pick_t h rfl rfl rfl rfl ?_; clear h a; intro a h
   exact wpList_nil (bool_end h rfl (by first | exact bt (by omega) | exact bf (by omega) | exact bi (by omega) | exact bn (by omega)) (.cons rfl .nil))
  ·clear h; intro g0 h
   refine gd_yes h rfl rfl rfl rfl rfl rfl ?_
   refine st_fieldAddr h rfl fa100_1 rfl ?_; clear h a; intro a h
   refine gd_yes h rfl rfl rfl rfl rfl rfl ?_
   refine st_loadB h rfl hb1 rfl na5 rfl ?_; clear h a; intro a h
   refine gd_yes h rfl rfl rfl rfl rfl rfl ?_
   refine st_gt h rfl rfl rfl ?_; clear h a; intro a h
   refine st_pick_f h rfl rfl rfl rfl ?_; clear h a; intro a h
   refine st_move h rfl rfl ?_; clear h a; intro a h
   first | refine guard_dec (D := 13) h rfl ?_ ?_ | refine guard_ndec (D := 13) h rfl ?_ ?_ | refine guard_any (D := 13) h rfl ?_ ?_
   ·clear h; intro g1 h
    refine gd_no h rfl rfl rfl rfl rfl rfl rfl rfl ?_; clear h a; intro a h
    refine gd_no h rfl rfl rfl rfl rfl rfl rfl rfl ?_; clear h a; intro a h
    refine gd_no h rfl rfl rfl rfl rfl rfl rfl rfl ?_; clear h a; intro a h
    refine st_pick_t h rfl rfl rfl rfl ?_; clear h a; intro a h
    refine st_move h rfl rfl ?_; clear h a; intro a h
    refine gd_no h rfl rfl rfl rfl rfl rfl rfl rfl ?_; clear h a; intro a h
    refine gd_no h rfl rfl rfl rfl rfl rfl rfl rfl ?_; clear h a; intro a h
    refine gd_no h rfl rfl rfl rfl rfl rfl rfl rfl ?_; clear h a; intro a h
    refine st_pick_t h rfl rfl rfl rfl ?_; clear h a; intro a h
    exact wpList_nil (bool_end h rfl (by first | exact bt (by omega) | exact bf (by omega) | exact bi (by omega) | exact bn (by omega)) (.cons rfl .nil))
   ·clear h; intro g1 h
    refine gd_yes h rfl rfl rfl rfl rfl rfl ?_
    refine st_fieldAddr h rfl fa100_0 rfl ?_; clear h a; intro a h
    refine gd_yes h rfl rfl rfl rfl rfl rfl ?_
    refine st_loadB h rfl hb1 rfl na87 rfl ?_; clear h a; intro a h
    refine gd_yes h rfl rfl rfl rfl rfl rfl ?_
    refine st_eq h rfl rfl rfl ?_; clear h a; intro a h
    refine st_pick_f h rfl rfl rfl rfl ?_; clear h a; intro a h
    refine st_move h rfl rfl ?_; clear h a; intro a h
    first | refine guard_dec (D := 18) h rfl ?_ ?_ | refine guard_ndec (D := 18) h rfl ?_ ?_ | refine guard_any (D := 18) h rfl ?_ ?_
    ·clear h; intro g2 h
     refine gd_no h rfl rfl rfl rfl rfl rfl rfl rfl ?_; clear h a; intro a h
     refine gd_no h rfl rfl rfl rfl rfl rfl rfl rfl ?_; clear h a; intro a h
     refine gd_no h rfl rfl rfl rfl rfl rfl rfl rfl ?_; clear h a; intro a h
     refine st_pick_t h rfl rfl rfl rfl ?_; clear h a; intro a h
     exact wpList_nil (bool_end h rfl (by first | exact bt (by omega) | exact bf (by omega) | exact bi (by omega) | exact bn (by omega)) (.cons rfl .nil))
    ·clear h; intro g2 h
     refine gd_yes h rfl rfl rfl rfl rfl rfl ?_
     refine st_fieldAddr h rfl fa100_0 rfl ?_; clear h a; intro a h
     refine gd_yes h rfl rfl rfl rfl rfl rfl ?_
     refine st_loadB h rfl hb1 rfl na87 rfl ?_; clear h a; intro a h
     refine gd_yes h rfl rfl rfl rfl rfl rfl ?_
     refine st_gt h rfl rfl rfl ?_; clear h a; intro a h
     refine st_pick_f h rfl rfl rfl rfl ?_; clear h a; intro a h
     exact wpList_nil (bool_end h rfl (by first | exact bt (by omega) | exact bf (by omega) | exact bi (by omega) | exact bn (by omega)) (.cons rfl .nil))
 ·clear h a; intro a h
  refine (norm_then ?_)
  first | refine cond_dec h rfl (fun c0 => ?_) (fun c0 => ?_) | refine cond_ndec h rfl (fun c0 => ?_) (fun c0 => ?_) | refine cond_split h rfl (fun c0 => ?_) (fun c0 => ?_)
  ·refine id ?_
   refine wp_seq ?_
   refine wR ?_
   refine st_assign h rfl rfl ?_; clear h a; intro a h
   replace h : Ag a 58 [(2, _)] := h.sub (.cons rfl .nil)
   refine wnt ?_
   refine wp_ret (ret_then ?_)
   refine ret1 h Tryd.results42 rfl ?_
   exact ⟨_, rfl, by rw [if_neg (fun e => by have := check_rng e; omega)], hf⟩
  ·refine id ?_
   refine wsn ?_
   refine wp_seq ?_
   refine wp_seq ?_
   refine wR ?_
   refine st_fieldAddr h rfl fa100_0 rfl ?_; clear h a; intro a h
   refine st_loadB h rfl hb1 rfl na87 rfl ?_; clear h a; intro a h
   refine st_eq h rfl rfl rfl ?_; clear h a; intro a h
   replace h : Ag a 58 [(1, _), (25, _)] := h.sub (.cons rfl (.cons rfl .nil))
   refine wnt ?_
   first | refine cond_dec h rfl (fun c1 => ?_) (fun c1 => ?_) | refine cond_ndec h rfl (fun c1 => ?_) (fun c1 => ?_) | refine cond_split h rfl (fun c1 => ?_) (fun c1 => ?_)
   ·refine id ?_
    refine wp_seq ?_
    refine wp_seq ?_
    refine wR ?_
    refine st_assign h rfl rfl ?_; clear h a; intro a h
    replace h : Ag a 58 [(1, _), (3, _)] := h.sub (.cons rfl (.cons rfl .nil))
    refine wnt ?_
    refine wp_block ?_
    refine loop (ι := Nat) (fun i => [(1, .pointer (some ⟨g_1, 0, none⟩)), (3, .int .i64 (i : Int))]) (fun i w' => 1 ≤ i ∧ i ≤ 4 ∧ ¬ (1 ≤ s.a ∧ s.a < i ∧ 1 ≤ s.b ∧ s.a + s.b ≤ 4) ∧ Blk w' g_1 100 [.int .u8 s.k, .int .u8 s.y, .int .i64 s.a, .int .i64 s.b, .bool s.f] ∧ Fr [] w0 w') (fun i => 4 - i) 1 (h.sub (.cons rfl (.cons rfl .nil))) ⟨by omega, by omega, by omega, hb1, hf⟩ ?_
    clear h a hb1 hf
    rintro i w2 a h ⟨hi1, hi4, hno, hb1, hf⟩
    refine wp_seq ?_
    refine wp_seq ?_
    refine wR ?_
    refine st_move h rfl rfl ?_; clear h a; intro a h
    refine st_lt h rfl rfl rfl ?_; clear h a; intro a h
    replace h : Ag a 58 [(1, _), (3, _), (27, _)] := h.sub (.cons rfl (.cons rfl (.cons rfl .nil)))
    refine wnt ?_
    first | refine cond_dec h rfl (fun c2 => ?_) (fun c2 => ?_) | refine cond_ndec h rfl (fun c2 => ?_) (fun c2 => ?_) | refine cond_split h rfl (fun c2 => ?_) (fun c2 => ?_)
    ·refine id ?_
     refine wsn ?_
     refine wp_seq ?_
     refine wp_block ?_
     refine wp_seq ?_
     refine wR ?_
     refine st_assign h rfl rfl ?_; clear h a; intro a h
     replace h : Ag a 58 [(1, _), (3, _), (4, _)] := h.sub (.cons rfl (.cons rfl (.cons rfl .nil)))
     refine wnt ?_
     refine wp_block ?_
     refine loop (ι := Nat) (fun j => [(1, .pointer (some ⟨g_1, 0, none⟩)), (3, .int .i64 (i : Int)), (4, .int .i64 (j : Int))]) (fun j w' => 1 ≤ j ∧ i + j ≤ 5 ∧ ¬ (s.a = i ∧ 1 ≤ s.b ∧ s.b < j) ∧ Blk w' g_1 100 [.int .u8 s.k, .int .u8 s.y, .int .i64 s.a, .int .i64 s.b, .bool s.f] ∧ Fr [] w0 w') (fun j => 5 - j) 1 (h.sub (.cons rfl (.cons rfl (.cons rfl .nil)))) ⟨by omega, by omega, by omega, hb1, hf⟩ ?_
     clear h a hb1 hf
     rintro j w3 a h ⟨hj1, hj4, hnj, hb1, hf⟩
     refine wp_seq ?_
     refine wp_seq ?_
     refine wR ?_
     refine st_move h rfl rfl ?_; clear h a; intro a h
     refine st_move h rfl rfl ?_; clear h a; intro a h
     refine st_add h rfl rfl (by first | exact IntWalk.i64_in _ (by omega) | rfl) rfl ?_; clear h a; intro a h
     refine st_le h rfl rfl rfl ?_; clear h a; intro a h
     replace h : Ag a 58 [(1, _), (3, _), (4, _), (33, _)] := h.sub (.cons rfl (.cons rfl (.cons rfl (.cons rfl .nil))))
     refine wnt ?_
     first | refine cond_dec h rfl (fun c3 => ?_) (fun c3 => ?_) | refine cond_ndec h rfl (fun c3 => ?_) (fun c3 => ?_) | refine cond_split h rfl (fun c3 => ?_) (fun c3 => ?_)
     ·refine id ?_
      refine wsn ?_
      refine wp_seq ?_
      refine wp_block ?_
      refine wp_seq ?_
      refine region_bool (r := 45) (L' := [(1, _), (3, _), (4, _)]) (s.a = i ∧ s.b = j) h (.cons rfl (.cons rfl (.cons rfl .nil))) ?_ ?_
      ·refine id ?_
       refine st_fieldAddr h rfl fa100_2 rfl ?_; clear h a; intro a h
       refine st_loadB h rfl hb1 rfl na3 rfl ?_; clear h a; intro a h
       refine st_move h rfl rfl ?_; clear h a; intro a h
       refine st_eq h rfl rfl rfl ?_; clear h a; intro a h
       refine st_move h rfl rfl ?_; clear h a; intro a h
       first | refine guard_dec (D := 40) h rfl ?_ ?_ | refine guard_ndec (D := 40) h rfl ?_ ?_ | refine guard_any (D := 40) h rfl ?_ ?_
       ·clear h; intro g3 h
        refine gd_yes h rfl rfl rfl rfl rfl rfl ?_
        refine st_fieldAddr h rfl fa100_3 rfl ?_; clear h a; intro a h
        refine gd_yes h rfl rfl rfl rfl rfl rfl ?_
        refine st_loadB h rfl hb1 rfl na3 rfl ?_; clear h a; intro a h
        refine gd_yes h rfl rfl rfl rfl rfl rfl ?_
        refine st_move h rfl rfl ?_; clear h a; intro a h
        refine gd_yes h rfl rfl rfl rfl rfl rfl ?_
        refine st_eq h rfl rfl rfl ?_; clear h a; intro a h
        refine st_pick_t h rfl rfl rfl rfl ?_; clear h a; intro a h
        exact wpList_nil (bool_end h rfl (by first | exact bt (by omega) | exact bf (by omega) | exact bi (by omega) | exact bn (by omega)) (.cons rfl (.cons rfl (.cons rfl .nil))))
       ·clear h; intro g3 h
        refine gd_no h rfl rfl rfl rfl rfl rfl rfl rfl ?_; clear h a; intro a h
        refine gd_no h rfl rfl rfl rfl rfl rfl rfl rfl ?_; clear h a; intro a h
        refine gd_no h rfl rfl rfl rfl rfl rfl rfl rfl ?_; clear h a; intro a h
        refine gd_no h rfl rfl rfl rfl rfl rfl rfl rfl ?_; clear h a; intro a h
        refine st_pick_f h rfl rfl rfl rfl ?_; clear h a; intro a h
        exact wpList_nil (bool_end h rfl (by first | exact bt (by omega) | exact bf (by omega) | exact bi (by omega) | exact bn (by omega)) (.cons rfl (.cons rfl (.cons rfl .nil))))
      ·clear h a; intro a h
       refine (norm_then ?_)
       first | refine cond_dec h rfl (fun c4 => ?_) (fun c4 => ?_) | refine cond_ndec h rfl (fun c4 => ?_) (fun c4 => ?_) | refine cond_split h rfl (fun c4 => ?_) (fun c4 => ?_)
       ·refine id ?_
        refine wp_seq ?_
        refine wR ?_
        refine st_assign h rfl rfl ?_; clear h a; intro a h
        replace h : Ag a 58 [(2, _)] := h.sub (.cons rfl .nil)
        refine wnt ?_
        refine wp_ret (ret_blk (ret_then (ret_then (ret_blk (ret_blk (ret_then (ret_then (ret_blk (ret_then (ret_then ?_))))))))))
        refine ret1 h Tryd.results42 rfl ?_
        exact ⟨_, rfl, by rw [if_pos (check_zero hk hy (by omega) (.inl (by omega)))], hf⟩
       ·refine id ?_
        refine wp_skip (norm_blk (norm_then ?_))
        refine wR ?_
        refine st_move h rfl rfl ?_; clear h a; intro a h
        refine st_add h rfl rfl (by first | exact IntWalk.i64_in _ (by omega) | rfl) rfl ?_; clear h a; intro a h
        refine st_assign h rfl rfl ?_; clear h a; intro a h
        replace h : Ag a 58 [(1, _), (3, _), (4, _)] := h.sub (.cons rfl (.cons rfl (.cons rfl .nil)))
        refine wnt ?_
        exact ⟨j + 1, h.sub (.cons rfl (.cons rfl (.cons rfl .nil))), ⟨by omega, by omega, by omega, hb1, hf⟩, by omega⟩
     ·refine id ?_
      refine wp_exit (exit_then (exit_then (exit_here (norm_blk (norm_then ?_)))))
      refine wR ?_
      refine st_move h rfl rfl ?_; clear h a; intro a h
      refine st_add h rfl rfl (by first | exact IntWalk.i64_in _ (by omega) | rfl) rfl ?_; clear h a; intro a h
      refine st_assign h rfl rfl ?_; clear h a; intro a h
      replace h : Ag a 58 [(1, _), (3, _)] := h.sub (.cons rfl (.cons rfl .nil))
      refine wnt ?_
      exact ⟨i + 1, h.sub (.cons rfl (.cons rfl .nil)), ⟨by omega, by omega, by omega, hb1, hf⟩, by omega⟩
    ·refine id ?_
     refine wp_exit (exit_then (exit_then (exit_here (norm_then ?_))))
     refine wp_seq ?_
     refine wR ?_
     refine st_assign h rfl rfl ?_; clear h a; intro a h
     replace h : Ag a 58 [(2, _)] := h.sub (.cons rfl .nil)
     refine wnt ?_
     refine wp_ret (ret_then ?_)
     refine ret1 h Tryd.results42 rfl ?_
     exact ⟨_, rfl, by rw [if_neg (fun e => by have := check_rng e; omega)], hf⟩
   ·refine id ?_
    refine wsn ?_
    refine wp_seq ?_
    refine wp_seq ?_
    refine region_bool (r := 57) (L' := []) (s.a ≠ 0 ∨ s.b ≠ 0 ∨ s.f = true) h .nil ?_ ?_
    ·refine id ?_
     refine st_fieldAddr h rfl fa100_2 rfl ?_; clear h a; intro a h
     refine st_loadB h rfl hb1 rfl na3 rfl ?_; clear h a; intro a h
     refine st_ne h rfl rfl rfl ?_; clear h a; intro a h
     refine st_move h rfl rfl ?_; clear h a; intro a h
     first | refine guard_dec (D := 49) h rfl ?_ ?_ | refine guard_ndec (D := 49) h rfl ?_ ?_ | refine guard_any (D := 49) h rfl ?_ ?_
     ·clear h; intro g4 h
      refine gd_no h rfl rfl rfl rfl rfl rfl rfl rfl ?_; clear h a; intro a h
      refine gd_no h rfl rfl rfl rfl rfl rfl rfl rfl ?_; clear h a; intro a h
      refine gd_no h rfl rfl rfl rfl rfl rfl rfl rfl ?_; clear h a; intro a h
      refine st_pick_t h rfl rfl rfl rfl ?_; clear h a; intro a h
      refine st_move h rfl rfl ?_; clear h a; intro a h
      refine gd_no h rfl rfl rfl rfl rfl rfl rfl rfl ?_; clear h a; intro a h
      refine gd_no h rfl rfl rfl rfl rfl rfl rfl rfl ?_; clear h a; intro a h
      refine st_pick_t h rfl rfl rfl rfl ?_; clear h a; intro a h
      exact wpList_nil (bool_end h rfl (by simp_all) .nil)
     ·clear h; intro g4 h
      refine gd_yes h rfl rfl rfl rfl rfl rfl ?_
      refine st_fieldAddr h rfl fa100_3 rfl ?_; clear h a; intro a h
      refine gd_yes h rfl rfl rfl rfl rfl rfl ?_
      refine st_loadB h rfl hb1 rfl na3 rfl ?_; clear h a; intro a h
      refine gd_yes h rfl rfl rfl rfl rfl rfl ?_
      refine st_ne h rfl rfl rfl ?_; clear h a; intro a h
      refine st_pick_f h rfl rfl rfl rfl ?_; clear h a; intro a h
      refine st_move h rfl rfl ?_; clear h a; intro a h
      first | refine guard_dec (D := 54) h rfl ?_ ?_ | refine guard_ndec (D := 54) h rfl ?_ ?_ | refine guard_any (D := 54) h rfl ?_ ?_
      ·clear h; intro g5 h
       refine gd_no h rfl rfl rfl rfl rfl rfl rfl rfl ?_; clear h a; intro a h
       refine gd_no h rfl rfl rfl rfl rfl rfl rfl rfl ?_; clear h a; intro a h
       refine st_pick_t h rfl rfl rfl rfl ?_; clear h a; intro a h
       exact wpList_nil (bool_end h rfl (by simp_all) .nil)
      ·clear h; intro g5 h
       refine gd_yes h rfl rfl rfl rfl rfl rfl ?_
       refine st_fieldAddr h rfl fa100_4 rfl ?_; clear h a; intro a h
       refine gd_yes h rfl rfl rfl rfl rfl rfl ?_
       refine st_loadB h rfl hb1 rfl na4 rfl ?_; clear h a; intro a h
       refine st_pick_f h rfl rfl rfl rfl ?_; clear h a; intro a h
       exact wpList_nil (bool_end h rfl (by simp_all) .nil)
    ·clear h a; intro a h
     refine (norm_then ?_)
     first | refine cond_dec h rfl (fun c5 => ?_) (fun c5 => ?_) | refine cond_ndec h rfl (fun c5 => ?_) (fun c5 => ?_) | refine cond_split h rfl (fun c5 => ?_) (fun c5 => ?_)
     ·refine id ?_
      refine wp_seq ?_
      refine wR ?_
      refine st_assign h rfl rfl ?_; clear h a; intro a h
      replace h : Ag a 58 [(2, _)] := h.sub (.cons rfl .nil)
      refine wnt ?_
      refine wp_ret (ret_then ?_)
      refine ret1 h Tryd.results42 rfl ?_
      exact ⟨_, rfl, by rw [if_neg (fun e => by obtain ⟨p, q, r⟩ := (check_rng e).2.2.2.2.1 c1; rcases c5 with x | x | x; exact x p; exact x q; rw [r] at x; cases x)], hf⟩
     ·refine id ?_
      refine wsn ?_
      refine wp_seq ?_
      refine wR ?_
      refine st_assign h rfl rfl ?_; clear h a; intro a h
      replace h : Ag a 58 [(2, _)] := h.sub (.cons rfl .nil)
      refine wnt ?_
      refine wp_ret ?_
      refine ret1 h Tryd.results42 rfl ?_
      exact ⟨_, rfl, by rw [if_pos (check_zero hk hy (by omega) (.inr ⟨c1, by omega, by omega, by cases hsf : s.f with | false => rfl | true => exact absurd (.inr (.inr hsf)) c5⟩))], hf⟩
end Go.Proofs.YthehggmdcmpjeaaDoor
namespace Go.Proofs.YthehggmdcmpjeaaDoor
open Go.Lw Go.G14
theorem el96 : ElemOf Tryd.prog 96 9 Enc.str 16 := ElemOf.mk' (z := (.string ⟨#[]⟩)) Tryd.underlying96 (by kernel_rfl) rfl
theorem na9 : NotAgg Tryd.prog 9 := fun _ => by kernel_rfl
theorem sz9 : SizeOf Tryd.prog 9 1 := fun _ => by kernel_rfl
end Go.Proofs.YthehggmdcmpjeaaDoor
