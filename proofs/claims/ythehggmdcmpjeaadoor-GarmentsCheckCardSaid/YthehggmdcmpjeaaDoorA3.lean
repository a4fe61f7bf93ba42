/- Texts of the proof, joined: W14 W16 W17 W18 W19 W21 W22 W23 W24 W25 -/
import Derived.Test.YthehggmdcmpjeaaDoorRows
import Derived.Test.YthehggmdcmpjeaaDoorA2
set_option linter.unusedVariables false
set_option linter.unusedSimpArgs false
namespace Go.Proofs.YthehggmdcmpjeaaDoor
open Go.Lw Go.G14
theorem co78 : CallOf Tryd.prog 78 := CallOf.mk' Tryd.func78 (by kernel_rfl) (by kernel_rfl)
theorem co79 : CallOf Tryd.prog 79 := CallOf.mk' Tryd.func79 (by kernel_rfl) (by kernel_rfl)
theorem el96 : ElemOf Tryd.prog 96 9 Enc.str 16 := ElemOf.mk' (z := (.string ⟨#[]⟩)) Tryd.underlying96 (by kernel_rfl) rfl
theorem na9 : NotAgg Tryd.prog 9 := fun _ => by kernel_rfl
theorem sz9 : SizeOf Tryd.prog 9 1 := fun _ => by kernel_rfl
set_option maxHeartbeats 4000000 in
theorem refshort_ok (u : Value) (xs : List Stitch) (w0 : World) (hu : Sl encSt w0 u xs) (hok : xs.all okB = true) (hn : 1 ≤ xs.length) (hm : xs.length ≤ 16) : Rets Tryd.prog 58 #[u] w0 fun v w' => v = S (shortS xs) ∧ Fr [] w0 w' := by
 have hrb := hu.blk (by intro e; subst e; simp at hn)
 obtain ⟨A, c, rfl, hc⟩ := hu.form
 have hs := hu
 obtain ⟨-, -, hM, hA⟩ := Sl.open_ hu
 unfold maxLen at hM
 obtain ⟨N, hN⟩ : ∃ N, N = (xs.length + 1) * (xs.length + 1) := ⟨_, rfl⟩
 have hN2 : N ≤ 289 := by rw [hN]; exact Nat.mul_le_mul (show xs.length + 1 ≤ 17 by omega) (show xs.length + 1 ≤ 17 by omega)
 refine enter [(0, .slice A xs.length c)] Tryd.func58 rfl Tryd.ntmps58 rfl (.cons rfl .nil) ?_
 have hf := Fr.refl [] w0
 intro a h
 refine wp_seq ?_
 refine wR ?_
 refine st_assign h rfl rfl ?_; clear h a; intro a h
 replace h : Ag a 151 [(0, _)] := h.sub (.cons rfl .nil)
 refine wnt ?_
 refine wp_seq ?_
 refine wR ?_
 refine st_move h rfl rfl ?_; clear h a; intro a h
 refine st_lenS h rfl Tryd.underlying61 rfl ?_; clear h a; intro a h
 refine st_assign h rfl rfl ?_; clear h a; intro a h
 replace h : Ag a 151 [(0, _), (3, _)] := h.sub (.cons rfl (.cons rfl .nil))
 refine wnt ?_
 refine wp_seq ?_
 refine wR ?_
 refine st_move h rfl rfl ?_; clear h a; intro a h
 refine st_add h rfl rfl (by first | exact IntWalk.i64_in _ (by omega) | rfl) rfl ?_; clear h a; intro a h
 refine st_move h rfl rfl ?_; clear h a; intro a h
 refine st_add h rfl rfl (by first | exact IntWalk.i64_in _ (by omega) | rfl) rfl ?_; clear h a; intro a h
 refine st_mul (z := (N : Int)) h rfl rfl (by rw [show ((xs.length : Int) + 1) * ((xs.length : Int) + 1) = (N : Int) by rw [hN]; push_cast; rfl]; exact IntWalk.i64_in _ (by omega)) rfl ?_; clear h a; intro a h
 refine st_makeSlice ([] : List UInt8) h rfl rfl el96 zv9 rfl (Nat.le_refl _) (by omega) (by unfold maxLen; omega) rfl ?_; clear h a; intro gT w1 hg hO hq hz a h
 have hgT : w0.heap.size ≤ gT := by have := hf.size; omega
 replace hO := hO.low hgT
 replace hf := hf.next hq
 replace hs := hs.ext hq
 clear hq hz hg
 refine st_assign h rfl rfl ?_; clear h a; intro a h
 replace h : Ag a 151 [(0, _), (3, _), (4, _)] := h.sub (.cons rfl (.cons rfl (.cons rfl .nil)))
 refine wnt ?_
 refine wp_seq ?_
 refine wp_seq ?_
 refine wR ?_
 refine st_assign h rfl rfl ?_; clear h a; intro a h
 refine wnt ?_
 refine wp_block ?_
 refine loop (ι := Nat × List (List UInt8)) (fun z => [(0, .slice A xs.length c), (3, .int .i64 (xs.length : Int)), (4, .slice (some ⟨gT, 0, none⟩) N N), (5, .int .i64 (z.1 : Int))]) (fun z w' => 1 ≤ z.1 ∧ z.1 ≤ xs.length + 1 ∧ Lw.Own Enc.str 9 w0.heap.size w' (.slice (some ⟨gT, 0, none⟩) N N) z.2 ∧ Filled xs z.1 0 z.2 ∧ Sl encSt w' (.slice A xs.length c) xs ∧ Fr [] w0 w') (fun z => xs.length + 1 - z.1) (1, List.replicate N []) (h.sub (.cons rfl (.cons rfl (.cons rfl (.cons rfl .nil))))) ⟨by simp, by simp only; omega, hO, by rw [hN]; exact fill_start xs, hs, hf⟩ ?_
 clear h a hO hs hf
 rintro ⟨L, tab⟩ w2 a h ⟨hL1, hL2, hO, hfl, hs, hf⟩
 simp only at hL1 hL2 hO hfl h
 refine wp_seq ?_
 refine wp_seq ?_
 refine wR ?_
 refine st_move h rfl rfl ?_; clear h a; intro a h
 refine st_move h rfl rfl ?_; clear h a; intro a h
 refine st_le h rfl rfl rfl ?_; clear h a; intro a h
 replace h : Ag a 151 [(0, _), (3, _), (4, _), (5, _), (26, _)] := h.sub (.cons rfl (.cons rfl (.cons rfl (.cons rfl (.cons rfl .nil)))))
 refine wnt ?_
 first | refine cond_dec h rfl (fun c0 => ?_) (fun c0 => ?_) | refine cond_ndec h rfl (fun c0 => ?_) (fun c0 => ?_) | refine cond_split h rfl (fun c0 => ?_) (fun c0 => ?_)
 ·refine id ?_
  refine wsn ?_
  refine wp_seq ?_
  refine wp_block ?_
  refine wp_seq ?_
  refine wR ?_
  refine st_assign h rfl rfl ?_; clear h a; intro a h
  replace h : Ag a 151 [(0, _), (3, _), (4, _), (5, _), (6, _)] := h.sub (.cons rfl (.cons rfl (.cons rfl (.cons rfl (.cons rfl .nil)))))
  refine wnt ?_
  refine wp_block ?_
  refine loop (ι := Nat × List (List UInt8)) (fun z => [(0, .slice A xs.length c), (3, .int .i64 (xs.length : Int)), (4, .slice (some ⟨gT, 0, none⟩) N N), (5, .int .i64 (L : Int)), (6, .int .i64 (z.1 : Int))]) (fun z w' => z.1 ≤ xs.length + 1 - L ∧ Lw.Own Enc.str 9 w0.heap.size w' (.slice (some ⟨gT, 0, none⟩) N N) z.2 ∧ Filled xs L z.1 z.2 ∧ Sl encSt w' (.slice A xs.length c) xs ∧ Fr [] w0 w') (fun z => xs.length + 1 - z.1) (0, tab) (h.sub (.cons rfl (.cons rfl (.cons rfl (.cons rfl (.cons rfl .nil)))))) ⟨by simp, hO, hfl, hs, hf⟩ ?_
  clear h a hO hs hf hfl
  rintro ⟨i, tab⟩ w3 a h ⟨hiL, hO, hfl, hs, hf⟩
  simp only at hiL hO hfl h
  refine wp_seq ?_
  refine wp_seq ?_
  refine wR ?_
  refine st_move h rfl rfl ?_; clear h a; intro a h
  refine st_move h rfl rfl ?_; clear h a; intro a h
  refine st_add h rfl rfl (by first | exact IntWalk.i64_in _ (by omega) | rfl) rfl ?_; clear h a; intro a h
  refine st_move h rfl rfl ?_; clear h a; intro a h
  refine st_le h rfl rfl rfl ?_; clear h a; intro a h
  replace h : Ag a 151 [(0, _), (3, _), (4, _), (5, _), (6, _), (33, _)] := h.sub (.cons rfl (.cons rfl (.cons rfl (.cons rfl (.cons rfl (.cons rfl .nil))))))
  refine wnt ?_
  first | refine cond_dec h rfl (fun c1 => ?_) (fun c1 => ?_) | refine cond_ndec h rfl (fun c1 => ?_) (fun c1 => ?_) | refine cond_split h rfl (fun c1 => ?_) (fun c1 => ?_)
  ·refine id ?_
   refine wsn ?_
   refine wp_seq ?_
   refine wp_block ?_
   refine wp_seq ?_
   refine wR ?_
   refine st_assign h rfl rfl ?_; clear h a; intro a h
   replace h : Ag a 151 [(0, _), (3, _), (4, _), (5, _), (6, _), (7, _)] := h.sub (.cons rfl (.cons rfl (.cons rfl (.cons rfl (.cons rfl (.cons rfl .nil))))))
   refine wnt ?_
   refine seq_cut (Cut (ι := Unit) 151 (fun u => [(0, .slice A xs.length c), (3, .int .i64 (xs.length : Int)), (4, .slice (some ⟨gT, 0, none⟩) N N), (5, .int .i64 (L : Int)), (6, .int .i64 (i : Int)), (7, S (refTo xs i L 0))]) (fun u w' => Lw.Own Enc.str 9 w0.heap.size w' (.slice (some ⟨gT, 0, none⟩) N N) tab ∧ Filled xs L i tab ∧ Sl encSt w' (.slice A xs.length c) xs ∧ Fr [] w0 w')) ?_ ?_
   ·refine id ?_
    refine wp_seq ?_
    refine wR ?_
    refine st_move h rfl rfl ?_; clear h a; intro a h
    refine st_eq h rfl rfl rfl ?_; clear h a; intro a h
    replace h : Ag a 151 [(0, _), (3, _), (4, _), (5, _), (6, _), (7, _), (37, _)] := h.sub (.cons rfl (.cons rfl (.cons rfl (.cons rfl (.cons rfl (.cons rfl (.cons rfl .nil)))))))
    refine wnt ?_
    first | refine cond_dec h rfl (fun c2 => ?_) (fun c2 => ?_) | refine cond_ndec h rfl (fun c2 => ?_) (fun c2 => ?_) | refine cond_split h rfl (fun c2 => ?_) (fun c2 => ?_)
    ·obtain ⟨x, hxi⟩ : ∃ x, xs[i]? = some x := ⟨_, List.getElem?_eq_getElem (by omega)⟩
     obtain ⟨ad, hAd, ca⟩ := hA i x hxi
     obtain ⟨p1, p2⟩ := okB_pos (List.all_eq_true.1 hok x (List.mem_of_getElem? hxi))
     refine wR ?_
     refine st_move h rfl rfl ?_; clear h a; intro a h
     refine st_move h rfl rfl ?_; clear h a; intro a h
     refine st_idxS h (by rw [hAd]; rfl) rfl el61 (by omega) (by omega) rfl rfl ?_; clear h a; intro a h
     refine st_loadA h rfl (ca.fr hf (by simp)) ag100 rfl ?_; clear h a; intro a h
     refine st_call h (evs_cons rfl evs_nil) co78 (reftext_ok x _ p1 p2) rfl ?_; clear h a; rintro _ w4 ⟨rfl, hq⟩ a h
     replace hf := hf.next hq
     replace hO := hO.ext hq
     replace hs := hs.ext hq
     clear hq
     refine st_assign h rfl rfl ?_; clear h a; intro a h
     replace h : Ag a 151 [(0, _), (3, _), (4, _), (5, _), (6, _), (7, _)] := h.sub (.cons rfl (.cons rfl (.cons rfl (.cons rfl (.cons rfl (.cons rfl .nil))))))
     refine wnt ?_
     exact ⟨(), h.sub (.cons rfl (.cons rfl (.cons rfl (.cons rfl (.cons rfl (.cons (by first | (rw [refTo, if_pos (by omega), List.getD, hxi]; rfl) | (rw [refTo, if_neg (by omega)]; rfl)) .nil)))))), hO, hfl, hs, hf⟩
    ·refine id ?_
     refine wsn ?_
     exact ⟨(), h.sub (.cons rfl (.cons rfl (.cons rfl (.cons rfl (.cons rfl (.cons (by first | (rw [refTo, if_pos (by omega), List.getD, hxi]; rfl) | (rw [refTo, if_neg (by omega)]; rfl)) .nil)))))), hO, hfl, hs, hf⟩
   ·clear h a hO hs hf hfl
    rintro a w5 ⟨u, h, ⟨hO, hfl, hs, hf⟩⟩
    refine wp_seq ?_
    refine wp_seq ?_
    refine wR ?_
    refine st_assign h rfl rfl ?_; clear h a; intro a h
    refine wnt ?_
    refine wp_block ?_
    refine loop (ι := Nat) (fun k => [(0, .slice A xs.length c), (3, .int .i64 (xs.length : Int)), (4, .slice (some ⟨gT, 0, none⟩) N N), (5, .int .i64 (L : Int)), (6, .int .i64 (i : Int)), (7, S (refTo xs i L k)), (8, .int .i64 ((k : Int) + 1))]) (fun k w' => k ≤ L - 1 ∧ Lw.Own Enc.str 9 w0.heap.size w' (.slice (some ⟨gT, 0, none⟩) N N) tab ∧ Filled xs L i tab ∧ Sl encSt w' (.slice A xs.length c) xs ∧ Fr [] w0 w') (fun k => L - k) 0 (h.sub (.cons rfl (.cons rfl (.cons rfl (.cons rfl (.cons rfl (.cons rfl (.cons rfl .nil)))))))) ⟨by omega, hO, hfl, hs, hf⟩ ?_
    clear h a hO hs hf hfl
    rintro k w6 a h ⟨hk, hO, hfl, hs, hf⟩
    have hix1 : i * (xs.length + 1) ≤ 16 * 17 := Nat.mul_le_mul (show i ≤ 16 by omega) (show xs.length + 1 ≤ 17 by omega)
    have hix := idx_lt (n := xs.length) (a := i) (m := L) (by omega)
    rw [← hN] at hix
    refine wp_seq ?_
    refine wp_seq ?_
    refine wR ?_
    refine st_move h rfl rfl ?_; clear h a; intro a h
    refine st_move h rfl rfl ?_; clear h a; intro a h
    refine st_lt h rfl rfl rfl ?_; clear h a; intro a h
    replace h : Ag a 151 [(0, _), (3, _), (4, _), (5, _), (6, _), (7, _), (8, _), (45, _)] := h.sub (.cons rfl (.cons rfl (.cons rfl (.cons rfl (.cons rfl (.cons rfl (.cons rfl (.cons rfl .nil))))))))
    refine wnt ?_
    first | refine cond_dec h rfl (fun c3 => ?_) (fun c3 => ?_) | refine cond_ndec h rfl (fun c3 => ?_) (fun c3 => ?_) | refine cond_split h rfl (fun c3 => ?_) (fun c3 => ?_)
    ·have hTi : (bT xs i (k + 1)).length ≤ _ := (T_len xs i (k + 1) (by omega)).2
     have hTr : (bT xs (i + (k + 1)) (L - (k + 1))).length ≤ _ := (T_len xs (i + (k + 1)) (L - (k + 1)) (by omega)).2
     have hix2 : (i + (k + 1)) * (xs.length + 1) ≤ 16 * 17 := Nat.mul_le_mul (show i + (k + 1) ≤ 16 by omega) (show xs.length + 1 ≤ 17 by omega)
     have hix3 := idx_lt (n := xs.length) (a := i + (k + 1)) (m := L - (k + 1)) (by omega)
     rw [← hN] at hix3
     refine wsn ?_
     refine wp_seq ?_
     refine wp_block ?_
     refine wp_seq ?_
     refine wR ?_
     refine st_move h rfl rfl ?_; clear h a; intro a h
     refine st_move h rfl rfl ?_; clear h a; intro a h
     refine st_move h rfl rfl ?_; clear h a; intro a h
     refine st_add h rfl rfl (by first | exact IntWalk.i64_in _ (by omega) | rfl) rfl ?_; clear h a; intro a h
     refine st_mul (z := ((i * (xs.length + 1) : Nat) : Int)) h rfl rfl (by rw [show ((i : Int)) * ((xs.length : Int) + 1) = ((i * (xs.length + 1) : Nat) : Int) by push_cast; rfl]; exact IntWalk.i64_in _ (by have : i * (xs.length + 1) ≤ 16 * 17 := Nat.mul_le_mul (show i ≤ 16 by omega) (show xs.length + 1 ≤ 17 by omega); omega)) rfl ?_; clear h a; intro a h
     refine st_move h rfl rfl ?_; clear h a; intro a h
     refine st_add h rfl rfl (by first | exact IntWalk.i64_in _ (by omega) | rfl) rfl ?_; clear h a; intro a h
     refine st_move h rfl rfl ?_; clear h a; intro a h
     refine st_add h rfl rfl (by first | exact IntWalk.i64_in _ (by omega) | rfl) rfl ?_; clear h a; intro a h
     refine st_idx (p := i * (xs.length + 1) + i + (k + 1)) h rfl rfl hO.sl el96 (by omega) (by omega) (hfl.2 (i) ((k + 1)) (by omega) (by omega) (by omega)) rfl ?_; clear h a; intro ad cc a h
     refine st_loadC0 h rfl cc na9 rfl ?_; clear h a; intro a h
     refine st_assign h rfl rfl ?_; clear h a; intro a h
     replace h : Ag a 151 [(0, _), (3, _), (4, _), (5, _), (6, _), (7, _), (8, _), (9, _)] := h.sub (.cons rfl (.cons rfl (.cons rfl (.cons rfl (.cons rfl (.cons rfl (.cons rfl (.cons rfl .nil))))))))
     refine wnt ?_
     refine wp_seq ?_
     refine wR ?_
     refine st_move h rfl rfl ?_; clear h a; intro a h
     refine st_adds h rfl rfl (by first | (simp; done) | (simp; omega)) rfl ?_; clear h a; intro a h
     refine st_move h rfl rfl ?_; clear h a; intro a h
     refine st_move h rfl rfl ?_; clear h a; intro a h
     refine st_move h rfl rfl ?_; clear h a; intro a h
     refine st_add h rfl rfl (by first | exact IntWalk.i64_in _ (by omega) | rfl) rfl ?_; clear h a; intro a h
     refine st_move h rfl rfl ?_; clear h a; intro a h
     refine st_add h rfl rfl (by first | exact IntWalk.i64_in _ (by omega) | rfl) rfl ?_; clear h a; intro a h
     refine st_mul (z := (((i + (k + 1)) * (xs.length + 1) : Nat) : Int)) h rfl rfl (by rw [show ((i : Int) + ((k : Int) + 1)) * ((xs.length : Int) + 1) = (((i + (k + 1)) * (xs.length + 1) : Nat) : Int) by push_cast; rfl]; exact IntWalk.i64_in _ (by have : (i + (k + 1)) * (xs.length + 1) ≤ 16 * 17 := Nat.mul_le_mul (show (i + (k + 1)) ≤ 16 by omega) (show xs.length + 1 ≤ 17 by omega); omega)) rfl ?_; clear h a; intro a h
     refine st_move h rfl rfl ?_; clear h a; intro a h
     refine st_add h rfl rfl (by first | exact IntWalk.i64_in _ (by omega) | rfl) rfl ?_; clear h a; intro a h
     refine st_move h rfl rfl ?_; clear h a; intro a h
     refine st_add h rfl rfl (by first | exact IntWalk.i64_in _ (by omega) | rfl) rfl ?_; clear h a; intro a h
     refine st_idx (p := (i + (k + 1)) * (xs.length + 1) + (i + (k + 1)) + (L - (k + 1))) h rfl rfl hO.sl el96 (by omega) (by omega) (hfl.2 (i + (k + 1)) (L - (k + 1)) (by omega) (by omega) (by omega)) rfl ?_; clear h a; intro ad cc a h
     refine st_loadC0 h rfl cc na9 rfl ?_; clear h a; intro a h
     refine st_adds h rfl rfl (by first | (simp; done) | (simp; omega)) rfl ?_; clear h a; intro a h
     refine st_assign h rfl rfl ?_; clear h a; intro a h
     replace h : Ag a 151 [(0, _), (3, _), (4, _), (5, _), (6, _), (7, _), (8, _), (9, _), (10, _)] := h.sub (.cons rfl (.cons rfl (.cons rfl (.cons rfl (.cons rfl (.cons rfl (.cons rfl (.cons rfl (.cons rfl .nil)))))))))
     refine wnt ?_
     refine seq_cut (Cut (ι := Unit) 151 (fun u => [(0, .slice A xs.length c), (3, .int .i64 (xs.length : Int)), (4, .slice (some ⟨gT, 0, none⟩) N N), (5, .int .i64 (L : Int)), (6, .int .i64 (i : Int)), (7, S (betterS (refTo xs i L k) (bothT xs i L (k + 1)))), (8, .int .i64 ((k : Int) + 1)), (9, S (bT xs i (k + 1)))]) (fun u w' => Lw.Own Enc.str 9 w0.heap.size w' (.slice (some ⟨gT, 0, none⟩) N N) tab ∧ Filled xs L i tab ∧ Sl encSt w' (.slice A xs.length c) xs ∧ Fr [] w0 w')) ?_ ?_
     ·refine id ?_
      refine wp_seq ?_
      refine region_bool (r := 82) (L' := [(0, _), (3, _), (4, _), (5, _), (6, _), (7, _), (8, _), (9, _), (10, _)]) (refTo xs i L k = [] ∨ lessP (bothT xs i L (k + 1)) (refTo xs i L k)) h (.cons rfl (.cons rfl (.cons rfl (.cons rfl (.cons rfl (.cons rfl (.cons rfl (.cons rfl (.cons rfl .nil))))))))) ?_ ?_
      ·refine id ?_
       refine st_move h rfl rfl ?_; clear h a; intro a h
       refine st_eqs h rfl rfl rfl ?_; clear h a; intro a h
       refine st_move h rfl rfl ?_; clear h a; intro a h
       first | refine guard_dec (D := 77) h rfl ?_ ?_ | refine guard_ndec (D := 77) h rfl ?_ ?_ | refine guard_any (D := 77) h rfl ?_ ?_
       ·clear h; intro g0 h
        refine gd_no h rfl rfl rfl rfl rfl rfl rfl rfl ?_; clear h a; intro a h
        refine gd_no h rfl rfl rfl rfl rfl rfl rfl rfl ?_; clear h a; intro a h
        refine gd_no h rfl rfl rfl rfl rfl rfl rfl rfl ?_; clear h a; intro a h
        refine gd_no h rfl rfl rfl rfl rfl rfl rfl rfl ?_; clear h a; intro a h
        refine st_pick_t h rfl rfl rfl rfl ?_; clear h a; intro a h
        exact wpList_nil (bool_end h rfl (by first | exact bt (.inl (by assumption)) | exact bi (by constructor; intro e; split at e; exact .inr (by assumption); omega; rintro (e | e); exact absurd e (by assumption); rw [if_pos e])) (.cons rfl (.cons rfl (.cons rfl (.cons rfl (.cons rfl (.cons rfl (.cons rfl (.cons rfl (.cons rfl .nil))))))))))
       ·clear h; intro g0 h
        refine gd_yes h rfl rfl rfl rfl rfl rfl ?_
        refine st_move h rfl rfl ?_; clear h a; intro a h
        refine gd_yes h rfl rfl rfl rfl rfl rfl ?_
        refine st_move h rfl rfl ?_; clear h a; intro a h
        refine gd_yes h rfl rfl rfl rfl rfl rfl ?_
        refine st_call h (evs_cons rfl (evs_cons rfl evs_nil)) co79 (less_ok _ _ _) rfl ?_; clear h a; rintro _ _ ⟨rfl, rfl⟩ a h
        refine gd_yes h rfl rfl rfl rfl rfl rfl ?_
        refine st_eq h rfl rfl rfl ?_; clear h a; intro a h
        refine st_pick_f h rfl rfl rfl rfl ?_; clear h a; intro a h
        exact wpList_nil (bool_end h rfl (by first | exact bt (.inl (by assumption)) | exact bi (by constructor; intro e; split at e; exact .inr (by assumption); omega; rintro (e | e); exact absurd e (by assumption); rw [if_pos e])) (.cons rfl (.cons rfl (.cons rfl (.cons rfl (.cons rfl (.cons rfl (.cons rfl (.cons rfl (.cons rfl .nil))))))))))
      ·clear h a; intro a h
       refine (norm_then ?_)
       first | refine cond_dec h rfl (fun c4 => ?_) (fun c4 => ?_) | refine cond_ndec h rfl (fun c4 => ?_) (fun c4 => ?_) | refine cond_split h rfl (fun c4 => ?_) (fun c4 => ?_)
       ·refine id ?_
        refine wR ?_
        refine st_move h rfl rfl ?_; clear h a; intro a h
        refine st_assign h rfl rfl ?_; clear h a; intro a h
        replace h : Ag a 151 [(0, _), (3, _), (4, _), (5, _), (6, _), (7, _), (8, _), (9, _)] := h.sub (.cons rfl (.cons rfl (.cons rfl (.cons rfl (.cons rfl (.cons rfl (.cons rfl (.cons rfl .nil))))))))
        refine wnt ?_
        exact ⟨(), h.sub (.cons rfl (.cons rfl (.cons rfl (.cons rfl (.cons rfl (.cons (by first | exact congrArg (fun x => some (S x)) (better_pos (cons_ne _ _) c4).symm | exact congrArg (fun x => some (S x)) (better_neg c4).symm) (.cons rfl (.cons rfl .nil)))))))), hO, hfl, hs, hf⟩
       ·refine id ?_
        refine wsn ?_
        exact ⟨(), h.sub (.cons rfl (.cons rfl (.cons rfl (.cons rfl (.cons rfl (.cons (by first | exact congrArg (fun x => some (S x)) (better_pos (cons_ne _ _) c4).symm | exact congrArg (fun x => some (S x)) (better_neg c4).symm) (.cons rfl (.cons rfl .nil)))))))), hO, hfl, hs, hf⟩
     ·clear h a hO hs hf hfl
      rintro a w7 ⟨u, h, ⟨hO, hfl, hs, hf⟩⟩
      refine wp_seq ?_
      refine wp_seq ?_
      refine wR ?_
      refine st_move h rfl rfl ?_; clear h a; intro a h
      refine st_move h rfl rfl ?_; clear h a; intro a h
      refine st_rem (z := ((L % (k + 1) : Nat) : Int)) h rfl rfl (by omega) (by rw [IntWalk.rem_in _ _ (by omega)]; exact (Int.natCast_emod L (k + 1)).symm) rfl ?_; clear h a; intro a h
      refine st_ne h rfl rfl rfl ?_; clear h a; intro a h
      replace h : Ag a 151 [(0, _), (3, _), (4, _), (5, _), (6, _), (7, _), (8, _), (9, _), (87, _)] := h.sub (.cons rfl (.cons rfl (.cons rfl (.cons rfl (.cons rfl (.cons rfl (.cons rfl (.cons rfl (.cons rfl .nil)))))))))
      refine wnt ?_
      first | refine cond_dec h rfl (fun c5 => ?_) (fun c5 => ?_) | refine cond_ndec h rfl (fun c5 => ?_) (fun c5 => ?_) | refine cond_split h rfl (fun c5 => ?_) (fun c5 => ?_)
      ·refine id ?_
       refine wp_exit (exit_then (exit_here (norm_then ?_)))
       refine wR ?_
       refine st_move h rfl rfl ?_; clear h a; intro a h
       refine st_add h rfl rfl (by first | exact IntWalk.i64_in _ (by omega) | rfl) rfl ?_; clear h a; intro a h
       refine st_assign h rfl rfl ?_; clear h a; intro a h
       replace h : Ag a 151 [(0, _), (3, _), (4, _), (5, _), (6, _), (7, _), (8, _)] := h.sub (.cons rfl (.cons rfl (.cons rfl (.cons rfl (.cons rfl (.cons rfl (.cons rfl .nil)))))))
       refine wnt ?_
       exact ⟨k + 1, h.sub (.cons rfl (.cons rfl (.cons rfl (.cons rfl (.cons rfl (.cons (by first | exact congrArg (fun x => some (S x)) (ref_no (fun e => absurd e.1 (by omega))) | exact congrArg (fun x => some (S x)) hres) (.cons (by first | rfl | (congr 2; omega)) .nil))))))), ⟨by omega, hO, hfl, hs, hf⟩, by omega⟩
      ·have hmod : L % (k + 1) = 0 := by omega
       obtain ⟨tm, htmE⟩ : ∃ q, q = L / (k + 1) := ⟨_, rfl⟩
       have htm : tm ≤ L := by rw [htmE]; exact Nat.div_le_self _ _
       refine wsn ?_
       refine wp_seq ?_
       refine wR ?_
       refine st_assign h rfl rfl ?_; clear h a; intro a h
       replace h : Ag a 151 [(0, _), (3, _), (4, _), (5, _), (6, _), (7, _), (8, _), (9, _), (11, _)] := h.sub (.cons rfl (.cons rfl (.cons rfl (.cons rfl (.cons rfl (.cons rfl (.cons rfl (.cons rfl (.cons rfl .nil)))))))))
       refine wnt ?_
       refine wp_seq ?_
       refine wp_seq ?_
       refine wR ?_
       refine st_move h rfl rfl ?_; clear h a; intro a h
       refine st_move h rfl rfl ?_; clear h a; intro a h
       refine st_add h rfl rfl (by first | exact IntWalk.i64_in _ (by omega) | rfl) rfl ?_; clear h a; intro a h
       refine st_assign h rfl rfl ?_; clear h a; intro a h
       replace h : Ag a 151 [(0, _), (3, _), (4, _), (5, _), (6, _), (7, _), (8, _), (9, _), (11, _), (12, _)] := h.sub (.cons rfl (.cons rfl (.cons rfl (.cons rfl (.cons rfl (.cons rfl (.cons rfl (.cons rfl (.cons rfl (.cons rfl .nil))))))))))
       refine wnt ?_
       refine wp_block ?_
       refine loop (ι := Nat) (fun e => [(0, .slice A xs.length c), (3, .int .i64 (xs.length : Int)), (4, .slice (some ⟨gT, 0, none⟩) N N), (5, .int .i64 (L : Int)), (6, .int .i64 (i : Int)), (7, S (betterS (refTo xs i L k) (bothT xs i L (k + 1)))), (8, .int .i64 ((k : Int) + 1)), (9, S (bT xs i (k + 1))), (11, .int .i64 (if sameB xs i (k + 1) e then 1 else 0)), (12, .int .i64 ((i : Int) + ((k : Int) + 1) + (e : Int)))]) (fun e w' => e ≤ L - (k + 1) ∧ Lw.Own Enc.str 9 w0.heap.size w' (.slice (some ⟨gT, 0, none⟩) N N) tab ∧ Filled xs L i tab ∧ Sl encSt w' (.slice A xs.length c) xs ∧ Fr [] w0 w') (fun e => L - e) 0 (h.sub (.cons rfl (.cons rfl (.cons rfl (.cons rfl (.cons rfl (.cons rfl (.cons rfl (.cons rfl (.cons rfl (.cons (by first | rfl | (congr 2; omega) | congr 2) .nil))))))))))) ⟨by omega, hO, hfl, hs, hf⟩ ?_
       clear h a hO hs hf hfl
       rintro e w8 a h ⟨he, hO, hfl, hs, hf⟩
       refine wp_seq ?_
       refine wp_seq ?_
       refine wR ?_
       refine st_move h rfl rfl ?_; clear h a; intro a h
       refine st_move h rfl rfl ?_; clear h a; intro a h
       refine st_move h rfl rfl ?_; clear h a; intro a h
       refine st_add h rfl rfl (by first | exact IntWalk.i64_in _ (by omega) | rfl) rfl ?_; clear h a; intro a h
       refine st_lt h rfl rfl rfl ?_; clear h a; intro a h
       replace h : Ag a 151 [(0, _), (3, _), (4, _), (5, _), (6, _), (7, _), (8, _), (9, _), (11, _), (12, _), (95, _)] := h.sub (.cons rfl (.cons rfl (.cons rfl (.cons rfl (.cons rfl (.cons rfl (.cons rfl (.cons rfl (.cons rfl (.cons rfl (.cons rfl .nil)))))))))))
       refine wnt ?_
       first | refine cond_dec h rfl (fun c6 => ?_) (fun c6 => ?_) | refine cond_ndec h rfl (fun c6 => ?_) (fun c6 => ?_) | refine cond_split h rfl (fun c6 => ?_) (fun c6 => ?_)
       ·obtain ⟨x, hx⟩ : ∃ x, xs[i + (k + 1) + e]? = some x := ⟨_, List.getElem?_eq_getElem (by omega)⟩
        obtain ⟨y, hy⟩ : ∃ y, xs[i + e]? = some y := ⟨_, List.getElem?_eq_getElem (by omega)⟩
        obtain ⟨xa, hxa, cx⟩ := hA _ x hx
        obtain ⟨ya, hya, cy⟩ := hA _ y hy
        refine wsn ?_
        refine wp_seq ?_
        refine wp_block ?_
        refine wp_seq ?_
        refine region_quiet hmix (by kernel_rfl) ?_
        refine qt_move h rfl rfl ?_; clear h a; intro a h
        refine qt_move h rfl rfl ?_; clear h a; intro a h
        refine qt_idxS (p := i + (k + 1) + e) h (by rw [hxa]; rfl) rfl el61 (by omega) (by omega) (by omega) rfl ?_; clear h a; intro a h
        refine qt_loadA h rfl (fun _ hw => (cx.fr hf (by simp)).fr hw (by simp)) ag100 rfl ?_; clear h a; intro a h
        refine qt_move h rfl rfl ?_; clear h a; intro a h
        refine qt_move h rfl rfl ?_; clear h a; intro a h
        refine qt_move h rfl rfl ?_; clear h a; intro a h
        refine qt_sub h rfl rfl (by first | exact IntWalk.i64_in _ (by omega) | rfl) rfl ?_; clear h a; intro a h
        refine qt_idxS (p := i + e) h (by rw [hya]; rfl) rfl el61 (by omega) (by omega) (by omega) rfl ?_; clear h a; intro a h
        refine qt_loadA h rfl (fun _ hw => (cy.fr hf (by simp)).fr hw (by simp)) ag100 rfl ?_; clear h a; intro a h
        refine qt_neV (e := x) (f := y) h rfl rfl eqv36 rfl ?_; clear h a; intro a h
        refine wpQuiet_nil ?_
        intro w9 hq
        replace hf := hf.next hq
        replace hO := hO.ext hq
        replace hs := hs.ext hq
        clear hq
        replace h : Ag a 151 [(0, _), (3, _), (4, _), (5, _), (6, _), (7, _), (8, _), (9, _), (11, _), (12, _), (108, _)] := h.sub (.cons rfl (.cons rfl (.cons rfl (.cons rfl (.cons rfl (.cons rfl (.cons rfl (.cons rfl (.cons rfl (.cons rfl (.cons rfl .nil)))))))))))
        refine (norm_then ?_)
        first | refine cond_dec h rfl (fun c7 => ?_) (fun c7 => ?_) | refine cond_ndec h rfl (fun c7 => ?_) (fun c7 => ?_) | refine cond_split h rfl (fun c7 => ?_) (fun c7 => ?_)
        ·refine id ?_
         refine wR ?_
         refine st_assign h rfl rfl ?_; clear h a; intro a h
         replace h : Ag a 151 [(0, _), (3, _), (4, _), (5, _), (6, _), (7, _), (8, _), (9, _), (11, _), (12, _)] := h.sub (.cons rfl (.cons rfl (.cons rfl (.cons rfl (.cons rfl (.cons rfl (.cons rfl (.cons rfl (.cons rfl (.cons rfl .nil))))))))))
         refine wpList_nil (norm_blk (norm_then ?_))
         refine wR ?_
         refine st_move h rfl rfl ?_; clear h a; intro a h
         refine st_add h rfl rfl (by first | exact IntWalk.i64_in _ (by omega) | rfl) rfl ?_; clear h a; intro a h
         refine st_assign h rfl rfl ?_; clear h a; intro a h
         replace h : Ag a 151 [(0, _), (3, _), (4, _), (5, _), (6, _), (7, _), (8, _), (9, _), (11, _), (12, _)] := h.sub (.cons rfl (.cons rfl (.cons rfl (.cons rfl (.cons rfl (.cons rfl (.cons rfl (.cons rfl (.cons rfl (.cons rfl .nil))))))))))
         refine wnt ?_
         exact ⟨e + 1, h.sub (.cons rfl (.cons rfl (.cons rfl (.cons rfl (.cons rfl (.cons rfl (.cons rfl (.cons rfl (.cons (by first | (rw [same_yes hx hy (Decidable.not_not.1 c7)]; rfl) | (rw [same_no hx hy c7]; rfl)) (.cons (by first | rfl | (congr 2; omega) | congr 2) .nil)))))))))), ⟨by omega, hO, hfl, hs, hf⟩, by omega⟩
        ·refine id ?_
         refine wp_skip (norm_blk (norm_then ?_))
         refine wR ?_
         refine st_move h rfl rfl ?_; clear h a; intro a h
         refine st_add h rfl rfl (by first | exact IntWalk.i64_in _ (by omega) | rfl) rfl ?_; clear h a; intro a h
         refine st_assign h rfl rfl ?_; clear h a; intro a h
         replace h : Ag a 151 [(0, _), (3, _), (4, _), (5, _), (6, _), (7, _), (8, _), (9, _), (11, _), (12, _)] := h.sub (.cons rfl (.cons rfl (.cons rfl (.cons rfl (.cons rfl (.cons rfl (.cons rfl (.cons rfl (.cons rfl (.cons rfl .nil))))))))))
         refine wnt ?_
         exact ⟨e + 1, h.sub (.cons rfl (.cons rfl (.cons rfl (.cons rfl (.cons rfl (.cons rfl (.cons rfl (.cons rfl (.cons (by first | (rw [same_yes hx hy (Decidable.not_not.1 c7)]; rfl) | (rw [same_no hx hy c7]; rfl)) (.cons (by first | rfl | (congr 2; omega) | congr 2) .nil)))))))))), ⟨by omega, hO, hfl, hs, hf⟩, by omega⟩
       ·obtain rfl : e = L - (k + 1) := by omega
        rw [same_reps (by omega) (by omega)] at h
        refine wp_exit (exit_then (exit_then (exit_here (norm_then ?_))))
        refine wp_seq ?_
        refine wR ?_
        refine st_move h rfl rfl ?_; clear h a; intro a h
        refine st_move h rfl rfl ?_; clear h a; intro a h
        refine st_quo (z := ((tm : Nat) : Int)) h rfl rfl (by omega) (by rw [IntWalk.i64_quo _ _ (by omega)]; rw [htmE]; exact (Int.natCast_ediv L (k + 1)).symm) rfl ?_; clear h a; intro a h
        refine st_assign h rfl rfl ?_; clear h a; intro a h
        replace h : Ag a 151 [(0, _), (3, _), (4, _), (5, _), (6, _), (7, _), (8, _), (9, _), (11, _), (13, _)] := h.sub (.cons rfl (.cons rfl (.cons rfl (.cons rfl (.cons rfl (.cons rfl (.cons rfl (.cons rfl (.cons rfl (.cons rfl .nil))))))))))
        refine wnt ?_
        refine wp_seq ?_
        refine wR ?_
        refine st_move h rfl rfl ?_; clear h a; intro a h
        refine st_rem (z := ((tm % 10 : Nat) : Int)) h rfl rfl (by omega) (by rw [IntWalk.rem_in _ _ (by omega)]; omega) rfl ?_; clear h a; intro a h
        refine st_add h rfl rfl (by first | exact IntWalk.i64_in _ (by omega) | rfl) rfl ?_; clear h a; intro a h
        refine st_conv h rfl (by rw [Tryd.underlying3]; rfl) Tryd.underlying5 (by first | exact IntWalk.u8_in _ (by omega) | rfl) rfl ?_; clear h a; intro a h
        refine st_bslice ([dg ((tm % 10 : Nat) : Int)]) h (evs_cons rfl evs_nil) rfl (by rw [show (48 : Int) + ((tm % 10 : Nat) : Int) = ((dg ((tm % 10 : Nat) : Int)).toNat : Int) from (dg_val _ (by omega) (by omega)).symm]; rfl) rfl el76 (Nat.le_of_ble_eq_true rfl) rfl ?_; clear h a; intro g_116 w10 hg ho116 hq hz a h
        have hl116 : w0.heap.size ≤ g_116 := by have := hf.size; omega
        replace hf := hf.next hq
        replace hO := hO.ext hq
        replace hs := hs.ext hq
        clear hq hz hg
        refine st_b2s h rfl ho116.sl el76 Tryd.underlying5 Tryd.underlying9 rfl ?_; clear h a; intro a h
        refine st_assign h rfl rfl ?_; clear h a; intro a h
        replace h : Ag a 151 [(0, _), (3, _), (4, _), (5, _), (6, _), (7, _), (8, _), (9, _), (11, _), (13, _), (14, _)] := h.sub (.cons rfl (.cons rfl (.cons rfl (.cons rfl (.cons rfl (.cons rfl (.cons rfl (.cons rfl (.cons rfl (.cons rfl (.cons rfl .nil)))))))))))
        refine wnt ?_
        refine seq_cut (Cut (ι := Unit) 151 (fun u => [(0, .slice A xs.length c), (3, .int .i64 (xs.length : Int)), (4, .slice (some ⟨gT, 0, none⟩) N N), (5, .int .i64 (L : Int)), (6, .int .i64 (i : Int)), (7, S (betterS (refTo xs i L k) (bothT xs i L (k + 1)))), (8, .int .i64 ((k : Int) + 1)), (9, S (bT xs i (k + 1))), (11, .int .i64 (if repsB xs i L (k + 1) then 1 else 0)), (14, S (itoaS (tm)))]) (fun u w' => Lw.Own Enc.str 9 w0.heap.size w' (.slice (some ⟨gT, 0, none⟩) N N) tab ∧ Filled xs L i tab ∧ Sl encSt w' (.slice A xs.length c) xs ∧ Fr [] w0 w')) ?_ ?_
        ·refine id ?_
         refine wp_seq ?_
         refine wR ?_
         refine st_move h rfl rfl ?_; clear h a; intro a h
         refine st_gt h rfl rfl rfl ?_; clear h a; intro a h
         replace h : Ag a 151 [(0, _), (3, _), (4, _), (5, _), (6, _), (7, _), (8, _), (9, _), (11, _), (14, _), (119, _)] := h.sub (.cons rfl (.cons rfl (.cons rfl (.cons rfl (.cons rfl (.cons rfl (.cons rfl (.cons rfl (.cons rfl (.cons rfl (.cons rfl .nil)))))))))))
         refine wnt ?_
         first | refine cond_dec h rfl (fun c8 => ?_) (fun c8 => ?_) | refine cond_ndec h rfl (fun c8 => ?_) (fun c8 => ?_) | refine cond_split h rfl (fun c8 => ?_) (fun c8 => ?_)
         ·refine id ?_
          refine wR ?_
          refine st_move h rfl rfl ?_; clear h a; intro a h
          refine st_adds h rfl rfl (by first | (simp; done) | (simp; omega)) rfl ?_; clear h a; intro a h
          refine st_assign h rfl rfl ?_; clear h a; intro a h
          replace h : Ag a 151 [(0, _), (3, _), (4, _), (5, _), (6, _), (7, _), (8, _), (9, _), (11, _), (14, _)] := h.sub (.cons rfl (.cons rfl (.cons rfl (.cons rfl (.cons rfl (.cons rfl (.cons rfl (.cons rfl (.cons rfl (.cons rfl .nil))))))))))
          refine wnt ?_
          exact ⟨(), h.sub (.cons rfl (.cons rfl (.cons rfl (.cons rfl (.cons rfl (.cons rfl (.cons rfl (.cons rfl (.cons rfl (.cons (by first | exact congrArg (fun x => some (S x)) (itoa_hi _ (by omega) (by omega)) | exact congrArg (fun x => some (S x)) (itoa_lo _ (by omega) (by omega))) .nil)))))))))), hO, hfl, hs, hf⟩
         ·refine id ?_
          refine wsn ?_
          exact ⟨(), h.sub (.cons rfl (.cons rfl (.cons rfl (.cons rfl (.cons rfl (.cons rfl (.cons rfl (.cons rfl (.cons rfl (.cons (by first | exact congrArg (fun x => some (S x)) (itoa_hi _ (by omega) (by omega)) | exact congrArg (fun x => some (S x)) (itoa_lo _ (by omega) (by omega))) .nil)))))))))), hO, hfl, hs, hf⟩
        ·clear h a hO hs hf hfl
         rintro a w11 ⟨u, h, ⟨hO, hfl, hs, hf⟩⟩
         refine wp_seq ?_
         refine wR ?_
         refine st_move h rfl rfl ?_; clear h a; intro a h
         refine st_adds h rfl rfl (by first | (simp; done) | (simp; omega)) rfl ?_; clear h a; intro a h
         refine st_adds h rfl rfl (by simp; omega) rfl ?_; clear h a; intro a h
         refine st_move h rfl rfl ?_; clear h a; intro a h
         have hit := itoa_len (tm)
         refine st_adds h rfl rfl (by simp; omega) rfl ?_; clear h a; intro a h
         rw [rep_eq] at h
         refine st_assign h rfl rfl ?_; clear h a; intro a h
         replace h : Ag a 151 [(0, _), (3, _), (4, _), (5, _), (6, _), (7, _), (8, _), (11, _), (15, _)] := h.sub (.cons rfl (.cons rfl (.cons rfl (.cons rfl (.cons rfl (.cons rfl (.cons rfl (.cons rfl (.cons rfl .nil)))))))))
         refine wnt ?_
         refine wp_seq ?_
         refine region_bool (r := 134) (L' := [(0, _), (3, _), (4, _), (5, _), (6, _), (7, _), (8, _), (15, _)]) (repsB xs i L (k + 1) = true ∧ lessP (repT (bT xs i (k + 1)) (tm)) (betterS (refTo xs i L k) (bothT xs i L (k + 1)))) h (.cons rfl (.cons rfl (.cons rfl (.cons rfl (.cons rfl (.cons rfl (.cons rfl (.cons rfl .nil)))))))) ?_ ?_
         ·refine id ?_
          refine st_move h rfl rfl ?_; clear h a; intro a h
          refine st_eq h rfl rfl rfl ?_; clear h a; intro a h
          refine st_move h rfl rfl ?_; clear h a; intro a h
          first | refine guard_dec (D := 129) h rfl ?_ ?_ | refine guard_ndec (D := 129) h rfl ?_ ?_ | refine guard_any (D := 129) h rfl ?_ ?_
          ·clear h; intro g1 h
           refine gd_yes h rfl rfl rfl rfl rfl rfl ?_
           refine st_move h rfl rfl ?_; clear h a; intro a h
           refine gd_yes h rfl rfl rfl rfl rfl rfl ?_
           refine st_move h rfl rfl ?_; clear h a; intro a h
           refine gd_yes h rfl rfl rfl rfl rfl rfl ?_
           refine st_call h (evs_cons rfl (evs_cons rfl evs_nil)) co79 (less_ok _ _ _) rfl ?_; clear h a; rintro _ _ ⟨rfl, rfl⟩ a h
           refine gd_yes h rfl rfl rfl rfl rfl rfl ?_
           refine st_eq h rfl rfl rfl ?_; clear h a; intro a h
           refine st_pick_t h rfl rfl rfl rfl ?_; clear h a; intro a h
           exact wpList_nil (bool_end h rfl (by first | exact bi (by constructor; intro e; split at e; exact ⟨by split at g1; assumption; omega, by assumption⟩; omega; rintro ⟨_, e⟩; rw [if_pos e]) | exact bf (fun e => by rw [if_pos e.1] at g1; exact g1 rfl)) (.cons rfl (.cons rfl (.cons rfl (.cons rfl (.cons rfl (.cons rfl (.cons rfl (.cons rfl .nil)))))))))
          ·clear h; intro g1 h
           refine gd_no h rfl rfl rfl rfl rfl rfl rfl rfl ?_; clear h a; intro a h
           refine gd_no h rfl rfl rfl rfl rfl rfl rfl rfl ?_; clear h a; intro a h
           refine gd_no h rfl rfl rfl rfl rfl rfl rfl rfl ?_; clear h a; intro a h
           refine gd_no h rfl rfl rfl rfl rfl rfl rfl rfl ?_; clear h a; intro a h
           refine st_pick_f h rfl rfl rfl rfl ?_; clear h a; intro a h
           exact wpList_nil (bool_end h rfl (by first | exact bi (by constructor; intro e; split at e; exact ⟨by split at g1; assumption; omega, by assumption⟩; omega; rintro ⟨_, e⟩; rw [if_pos e]) | exact bf (fun e => by rw [if_pos e.1] at g1; exact g1 rfl)) (.cons rfl (.cons rfl (.cons rfl (.cons rfl (.cons rfl (.cons rfl (.cons rfl (.cons rfl .nil)))))))))
         ·clear h a; intro a h
          refine (norm_then ?_)
          first | refine cond_dec h rfl (fun c9 => ?_) (fun c9 => ?_) | refine cond_ndec h rfl (fun c9 => ?_) (fun c9 => ?_) | refine cond_split h rfl (fun c9 => ?_) (fun c9 => ?_)
          ·have hres := ref_yes (i := i) hmod c9.1
           rw [← htmE] at hres
           rw [better_pos (rep_ne _ _) (.inr c9.2)] at hres
           refine wR ?_
           refine st_move h rfl rfl ?_; clear h a; intro a h
           refine st_assign h rfl rfl ?_; clear h a; intro a h
           replace h : Ag a 151 [(0, _), (3, _), (4, _), (5, _), (6, _), (7, _), (8, _)] := h.sub (.cons rfl (.cons rfl (.cons rfl (.cons rfl (.cons rfl (.cons rfl (.cons rfl .nil)))))))
           refine wpList_nil (norm_blk (norm_then ?_))
           refine wR ?_
           refine st_move h rfl rfl ?_; clear h a; intro a h
           refine st_add h rfl rfl (by first | exact IntWalk.i64_in _ (by omega) | rfl) rfl ?_; clear h a; intro a h
           refine st_assign h rfl rfl ?_; clear h a; intro a h
           replace h : Ag a 151 [(0, _), (3, _), (4, _), (5, _), (6, _), (7, _), (8, _)] := h.sub (.cons rfl (.cons rfl (.cons rfl (.cons rfl (.cons rfl (.cons rfl (.cons rfl .nil)))))))
           refine wnt ?_
           exact ⟨k + 1, h.sub (.cons rfl (.cons rfl (.cons rfl (.cons rfl (.cons rfl (.cons (by first | exact congrArg (fun x => some (S x)) (ref_no (fun e => absurd e.1 (by omega))) | exact congrArg (fun x => some (S x)) hres) (.cons (by first | rfl | (congr 2; omega)) .nil))))))), ⟨by omega, hO, hfl, hs, hf⟩, by omega⟩
          ·have hres : betterS (refTo xs i L k) (bothT xs i L (k + 1)) = refTo xs i L (k + 1) := by
            by_cases hr : repsB xs i L (k + 1) = true
            ·rw [← ref_yes hmod hr, ← htmE, better_neg (fun e => e.elim (both_ne _ _ _ _ _) (fun e => c9 ⟨hr, e⟩))]
            ·exact ref_no (fun e => hr e.2)
           refine wp_skip (norm_blk (norm_then ?_))
           refine wR ?_
           refine st_move h rfl rfl ?_; clear h a; intro a h
           refine st_add h rfl rfl (by first | exact IntWalk.i64_in _ (by omega) | rfl) rfl ?_; clear h a; intro a h
           refine st_assign h rfl rfl ?_; clear h a; intro a h
           replace h : Ag a 151 [(0, _), (3, _), (4, _), (5, _), (6, _), (7, _), (8, _)] := h.sub (.cons rfl (.cons rfl (.cons rfl (.cons rfl (.cons rfl (.cons rfl (.cons rfl .nil)))))))
           refine wnt ?_
           exact ⟨k + 1, h.sub (.cons rfl (.cons rfl (.cons rfl (.cons rfl (.cons rfl (.cons (by first | exact congrArg (fun x => some (S x)) (ref_no (fun e => absurd e.1 (by omega))) | exact congrArg (fun x => some (S x)) hres) (.cons (by first | rfl | (congr 2; omega)) .nil))))))), ⟨by omega, hO, hfl, hs, hf⟩, by omega⟩
    ·obtain rfl : k = L - 1 := by omega
     rw [ref_done hok hm (by omega) hL1] at h
     refine wp_exit (exit_then (exit_then (exit_here (norm_then ?_))))
     refine wR ?_
     refine st_move h rfl rfl ?_; clear h a; intro a h
     refine st_move h rfl rfl ?_; clear h a; intro a h
     refine st_move h rfl rfl ?_; clear h a; intro a h
     refine st_add h rfl rfl (by first | exact IntWalk.i64_in _ (by omega) | rfl) rfl ?_; clear h a; intro a h
     refine st_mul (z := ((i * (xs.length + 1) : Nat) : Int)) h rfl rfl (by rw [show ((i : Int)) * ((xs.length : Int) + 1) = ((i * (xs.length + 1) : Nat) : Int) by push_cast; rfl]; exact IntWalk.i64_in _ (by have : i * (xs.length + 1) ≤ 16 * 17 := Nat.mul_le_mul (show i ≤ 16 by omega) (show xs.length + 1 ≤ 17 by omega); omega)) rfl ?_; clear h a; intro a h
     refine st_move h rfl rfl ?_; clear h a; intro a h
     refine st_add h rfl rfl (by first | exact IntWalk.i64_in _ (by omega) | rfl) rfl ?_; clear h a; intro a h
     refine st_move h rfl rfl ?_; clear h a; intro a h
     refine st_add h rfl rfl (by first | exact IntWalk.i64_in _ (by omega) | rfl) rfl ?_; clear h a; intro a h
     refine st_move h rfl rfl ?_; clear h a; intro a h
     refine st_idxS (p := i * (xs.length + 1) + i + L) h rfl rfl el96 (by omega) (by omega) (by omega) rfl ?_; clear h a; intro a h
     refine st_storeO (bT xs i L) h rfl rfl hO (by have := hfl.1; have := idx_lt (n := xs.length) (a := i) (m := L) (by omega); omega) rfl sz9 ?_; clear h a; intro w12 hO2 hq hz a h
     replace hO := hO2
     replace hfl := fill_set (by omega) hfl
     replace hs := hs.fr hq (by intro k hk hb; have := hrb k hb; simp at hk; omega)
     replace hf := hf.step hq (by simp; omega)
     clear hq hz hO2
     replace h : Ag a 151 [(0, _), (3, _), (4, _), (5, _), (6, _)] := h.sub (.cons rfl (.cons rfl (.cons rfl (.cons rfl (.cons rfl .nil)))))
     refine wpList_nil (norm_blk (norm_then ?_))
     refine wR ?_
     refine st_move h rfl rfl ?_; clear h a; intro a h
     refine st_add h rfl rfl (by first | exact IntWalk.i64_in _ (by omega) | rfl) rfl ?_; clear h a; intro a h
     refine st_assign h rfl rfl ?_; clear h a; intro a h
     replace h : Ag a 151 [(0, _), (3, _), (4, _), (5, _), (6, _)] := h.sub (.cons rfl (.cons rfl (.cons rfl (.cons rfl (.cons rfl .nil)))))
     refine wnt ?_
     exact ⟨(i + 1, _), h.sub (.cons rfl (.cons rfl (.cons rfl (.cons rfl (.cons rfl .nil))))), ⟨by simp only; omega, hO, hfl, hs, hf⟩, by simp only; omega⟩
  ·refine id ?_
   refine wp_exit (exit_then (exit_then (exit_here (norm_blk (norm_then ?_)))))
   refine wR ?_
   refine st_move h rfl rfl ?_; clear h a; intro a h
   refine st_add h rfl rfl (by first | exact IntWalk.i64_in _ (by omega) | rfl) rfl ?_; clear h a; intro a h
   refine st_assign h rfl rfl ?_; clear h a; intro a h
   replace h : Ag a 151 [(0, _), (3, _), (4, _), (5, _)] := h.sub (.cons rfl (.cons rfl (.cons rfl (.cons rfl .nil))))
   refine wnt ?_
   exact ⟨(L + 1, tab), h.sub (.cons rfl (.cons rfl (.cons rfl (.cons rfl .nil)))), ⟨by simp only; omega, by simp only; omega, hO, fill_next (by omega) hfl, hs, hf⟩, by simp only; omega⟩
 ·obtain rfl : L = xs.length + 1 := by omega
  refine wp_exit (exit_then (exit_then (exit_here (norm_then ?_))))
  refine wp_seq ?_
  refine wR ?_
  refine st_move h rfl rfl ?_; clear h a; intro a h
  refine st_move h rfl rfl ?_; clear h a; intro a h
  refine st_idx (p := 0 * (xs.length + 1) + 0 + xs.length) h rfl rfl hO.sl el96 (by omega) (by omega) (hfl.2 0 xs.length (by omega) (by omega) (by omega)) rfl ?_; clear h a; intro ad cc a h
  refine st_loadC0 h rfl cc na9 rfl ?_; clear h a; intro a h
  refine st_assign h rfl rfl ?_; clear h a; intro a h
  replace h : Ag a 151 [(2, _)] := h.sub (.cons rfl .nil)
  refine wnt ?_
  refine wp_ret ?_
  refine ret1 h Tryd.results58 rfl ?_
  exact ⟨_, rfl, rfl, hf⟩
end Go.Proofs.YthehggmdcmpjeaaDoor
namespace Go.Proofs.YthehggmdcmpjeaaDoor
open Go.Lw Go.G14
theorem co72 : CallOf Tryd.prog 72 := CallOf.mk' Tryd.func72 (by kernel_rfl) (by kernel_rfl)
theorem co85 : CallOf Tryd.prog 85 := CallOf.mk' Tryd.func85 (by kernel_rfl) (by kernel_rfl)
theorem el30 : ElemOf Tryd.prog 30 3 Enc.i64 8 := ElemOf.mk' (z := (.int .i64 0)) Tryd.underlying30 (by kernel_rfl) rfl
theorem refneeds_ok (s : Stitch) (w0 : World) (hk : 0 ≤ s.k) (hy : 0 ≤ s.y) : Rets Tryd.prog 72 #[stV s] w0 fun v w' => v = .int .i64 (needsS s) ∧ Fr [] w0 w' := by
 refine enter [(0, stV s)] Tryd.func72 rfl Tryd.ntmps72 rfl (.cons rfl .nil) ?_
 have hf := Fr.refl [] w0
 intro a h
 refine wp_seq ?_
 refine wR ?_
 refine st_box h rfl rfl rfl ?_; clear h a; intro w1 hb1 hq hz a h
 obtain ⟨g_1, hg⟩ : ∃ g, g = w0.heap.size := ⟨_, rfl⟩; rw [← hg] at hb1 h hz
 have hl1 : w0.heap.size ≤ g_1 := by have := hf.size; omega
 replace hf := hf.next hq
 clear hq hz hg
 refine st_assign h rfl rfl ?_; clear h a; intro a h
 replace h : Ag a 27 [(1, _)] := h.sub (.cons rfl .nil)
 refine wnt ?_
 refine wp_seq ?_
 refine wp_seq ?_
 refine wR ?_
 refine st_loadBA h rfl hb1 ag100 rfl ?_; clear h a; intro a h
 refine st_call h (evs_cons rfl evs_nil) co42 (valid_ok s _ hk hy) rfl ?_; clear h a; rintro _ w2 ⟨rfl, hq⟩ a h
 replace hf := hf.next hq
 replace hb1 := hb1.ext hq
 clear hq
 refine st_eq h rfl rfl rfl ?_; clear h a; intro a h
 refine st_move h rfl rfl ?_; clear h a; intro a h
 first | refine guard_dec (D := 6) h rfl ?_ ?_ | refine guard_ndec (D := 6) h rfl ?_ ?_ | refine guard_any (D := 6) h rfl ?_ ?_
 ·clear h; intro g0 h
  refine gd_no h rfl rfl rfl rfl rfl rfl rfl rfl ?_; clear h a; intro a h
  refine gd_no h rfl rfl rfl rfl rfl rfl rfl rfl ?_; clear h a; intro a h
  refine gd_no h rfl rfl rfl rfl rfl rfl rfl rfl ?_; clear h a; intro a h
  refine st_pick_t h rfl rfl rfl rfl ?_; clear h a; intro a h
  replace h : Ag a 27 [(1, _), (10, _)] := h.sub (.cons rfl (.cons rfl .nil))
  refine wnt ?_
  refine cond_true h rfl ?_
  refine wp_seq ?_
  refine wR ?_
  refine st_assign h rfl rfl ?_; clear h a; intro a h
  replace h : Ag a 27 [(2, _)] := h.sub (.cons rfl .nil)
  refine wnt ?_
  refine wp_ret (ret_then ?_)
  refine ret1 h Tryd.results72 rfl ?_
  exact ⟨_, rfl, by first | rw [needs_0 (.inl (fun e => by rw [if_pos e] at g0; omega))] | rw [needs_0 (.inr c0)] | rw [needs_8 hc c1] | rw [needs_2 hc (by omega)] | rw [needs_1 hc (by omega) (by omega) (by omega)], hf⟩
 ·clear h; intro g0 h
  refine gd_yes h rfl rfl rfl rfl rfl rfl ?_
  refine st_fieldAddr h rfl fa100_0 rfl ?_; clear h a; intro a h
  refine gd_yes h rfl rfl rfl rfl rfl rfl ?_
  refine st_loadB h rfl hb1 rfl na87 rfl ?_; clear h a; intro a h
  refine gd_yes h rfl rfl rfl rfl rfl rfl ?_
  refine st_eq h rfl rfl rfl ?_; clear h a; intro a h
  refine st_pick_f h rfl rfl rfl rfl ?_; clear h a; intro a h
  replace h : Ag a 27 [(1, _), (10, _)] := h.sub (.cons rfl (.cons rfl .nil))
  refine wnt ?_
  first | refine cond_dec h rfl (fun c0 => ?_) (fun c0 => ?_) | refine cond_ndec h rfl (fun c0 => ?_) (fun c0 => ?_) | refine cond_split h rfl (fun c0 => ?_) (fun c0 => ?_)
  ·refine id ?_
   refine wp_seq ?_
   refine wR ?_
   refine st_assign h rfl rfl ?_; clear h a; intro a h
   replace h : Ag a 27 [(2, _)] := h.sub (.cons rfl .nil)
   refine wnt ?_
   refine wp_ret (ret_then ?_)
   refine ret1 h Tryd.results72 rfl ?_
   exact ⟨_, rfl, by first | rw [needs_0 (.inl (fun e => by rw [if_pos e] at g0; omega))] | rw [needs_0 (.inr c0)] | rw [needs_8 hc c1] | rw [needs_2 hc (by omega)] | rw [needs_1 hc (by omega) (by omega) (by omega)], hf⟩
  ·have hc : checkS s = 0 := Decidable.not_not.1 fun e => g0 (if_neg e)
   refine wsn ?_
   refine wp_seq ?_
   refine wp_seq ?_
   refine wR ?_
   refine st_fieldAddr h rfl fa100_0 rfl ?_; clear h a; intro a h
   refine st_loadB h rfl hb1 rfl na87 rfl ?_; clear h a; intro a h
   refine st_eq h rfl rfl rfl ?_; clear h a; intro a h
   replace h : Ag a 27 [(1, _), (13, _)] := h.sub (.cons rfl (.cons rfl .nil))
   refine wnt ?_
   first | refine cond_dec h rfl (fun c1 => ?_) (fun c1 => ?_) | refine cond_ndec h rfl (fun c1 => ?_) (fun c1 => ?_) | refine cond_split h rfl (fun c1 => ?_) (fun c1 => ?_)
   ·have h8 := (check_rng hc).2.2.2.2.2 c1
    refine wp_seq ?_
    refine wR ?_
    refine st_fieldAddr h rfl fa100_2 rfl ?_; clear h a; intro a h
    refine st_loadB h rfl hb1 rfl na3 rfl ?_; clear h a; intro a h
    refine st_fieldAddr h rfl fa100_3 rfl ?_; clear h a; intro a h
    refine st_loadB h rfl hb1 rfl na3 rfl ?_; clear h a; intro a h
    refine st_add h rfl rfl (by first | exact IntWalk.i64_in _ (by omega) | rfl) rfl ?_; clear h a; intro a h
    refine st_assign h rfl rfl ?_; clear h a; intro a h
    replace h : Ag a 27 [(2, _)] := h.sub (.cons rfl .nil)
    refine wnt ?_
    refine wp_ret (ret_then ?_)
    refine ret1 h Tryd.results72 rfl ?_
    exact ⟨_, rfl, by first | rw [needs_0 (.inl (fun e => by rw [if_pos e] at g0; omega))] | rw [needs_0 (.inr c0)] | rw [needs_8 hc c1] | rw [needs_2 hc (by omega)] | rw [needs_1 hc (by omega) (by omega) (by omega)], hf⟩
   ·refine id ?_
    refine wsn ?_
    refine wp_seq ?_
    refine wp_seq ?_
    refine wR ?_
    refine st_fieldAddr h rfl fa100_0 rfl ?_; clear h a; intro a h
    refine st_loadB h rfl hb1 rfl na87 rfl ?_; clear h a; intro a h
    refine st_eq h rfl rfl rfl ?_; clear h a; intro a h
    refine st_move h rfl rfl ?_; clear h a; intro a h
    first | refine guard_dec (D := 22) h rfl ?_ ?_ | refine guard_ndec (D := 22) h rfl ?_ ?_ | refine guard_any (D := 22) h rfl ?_ ?_
    ·clear h; intro g1 h
     refine gd_no h rfl rfl rfl rfl rfl rfl rfl rfl ?_; clear h a; intro a h
     refine gd_no h rfl rfl rfl rfl rfl rfl rfl rfl ?_; clear h a; intro a h
     refine gd_no h rfl rfl rfl rfl rfl rfl rfl rfl ?_; clear h a; intro a h
     refine st_pick_t h rfl rfl rfl rfl ?_; clear h a; intro a h
     replace h : Ag a 27 [(26, _)] := h.sub (.cons rfl .nil)
     refine wnt ?_
     refine cond_true h rfl ?_
     refine wp_seq ?_
     refine wR ?_
     refine st_assign h rfl rfl ?_; clear h a; intro a h
     replace h : Ag a 27 [(2, _)] := h.sub (.cons rfl .nil)
     refine wnt ?_
     refine wp_ret (ret_then ?_)
     refine ret1 h Tryd.results72 rfl ?_
     exact ⟨_, rfl, by first | rw [needs_0 (.inl (fun e => by rw [if_pos e] at g0; omega))] | rw [needs_0 (.inr c0)] | rw [needs_8 hc c1] | rw [needs_2 hc (by omega)] | rw [needs_1 hc (by omega) (by omega) (by omega)], hf⟩
    ·clear h; intro g1 h
     refine gd_yes h rfl rfl rfl rfl rfl rfl ?_
     refine st_fieldAddr h rfl fa100_0 rfl ?_; clear h a; intro a h
     refine gd_yes h rfl rfl rfl rfl rfl rfl ?_
     refine st_loadB h rfl hb1 rfl na87 rfl ?_; clear h a; intro a h
     refine gd_yes h rfl rfl rfl rfl rfl rfl ?_
     refine st_eq h rfl rfl rfl ?_; clear h a; intro a h
     refine st_pick_f h rfl rfl rfl rfl ?_; clear h a; intro a h
     replace h : Ag a 27 [(26, _)] := h.sub (.cons rfl .nil)
     refine wnt ?_
     first | refine cond_dec h rfl (fun c2 => ?_) (fun c2 => ?_) | refine cond_ndec h rfl (fun c2 => ?_) (fun c2 => ?_) | refine cond_split h rfl (fun c2 => ?_) (fun c2 => ?_)
     ·refine id ?_
      refine wp_seq ?_
      refine wR ?_
      refine st_assign h rfl rfl ?_; clear h a; intro a h
      replace h : Ag a 27 [(2, _)] := h.sub (.cons rfl .nil)
      refine wnt ?_
      refine wp_ret (ret_then ?_)
      refine ret1 h Tryd.results72 rfl ?_
      exact ⟨_, rfl, by first | rw [needs_0 (.inl (fun e => by rw [if_pos e] at g0; omega))] | rw [needs_0 (.inr c0)] | rw [needs_8 hc c1] | rw [needs_2 hc (by omega)] | rw [needs_1 hc (by omega) (by omega) (by omega)], hf⟩
     ·refine id ?_
      refine wsn ?_
      refine wp_seq ?_
      refine wR ?_
      refine st_assign h rfl rfl ?_; clear h a; intro a h
      replace h : Ag a 27 [(2, _)] := h.sub (.cons rfl .nil)
      refine wnt ?_
      refine wp_ret ?_
      refine ret1 h Tryd.results72 rfl ?_
      exact ⟨_, rfl, by first | rw [needs_0 (.inl (fun e => by rw [if_pos e] at g0; omega))] | rw [needs_0 (.inr c0)] | rw [needs_8 hc c1] | rw [needs_2 hc (by omega)] | rw [needs_1 hc (by omega) (by omega) (by omega)], hf⟩
theorem refmakes_ok (s : Stitch) (w0 : World) (hk : 0 ≤ s.k) (hy : 0 ≤ s.y) : Rets Tryd.prog 85 #[stV s] w0 fun v w' => v = .int .i64 (makesS s) ∧ Fr [] w0 w' := by
 refine enter [(0, stV s)] Tryd.func85 rfl Tryd.ntmps85 rfl (.cons rfl .nil) ?_
 have hf := Fr.refl [] w0
 intro a h
 refine wp_seq ?_
 refine wR ?_
 refine st_box h rfl rfl rfl ?_; clear h a; intro w1 hb1 hq hz a h
 obtain ⟨g_1, hg⟩ : ∃ g, g = w0.heap.size := ⟨_, rfl⟩; rw [← hg] at hb1 h hz
 have hl1 : w0.heap.size ≤ g_1 := by have := hf.size; omega
 replace hf := hf.next hq
 clear hq hz hg
 refine st_assign h rfl rfl ?_; clear h a; intro a h
 replace h : Ag a 14 [(1, _)] := h.sub (.cons rfl .nil)
 refine wnt ?_
 refine wp_seq ?_
 refine wp_seq ?_
 refine wR ?_
 refine st_loadBA h rfl hb1 ag100 rfl ?_; clear h a; intro a h
 refine st_call h (evs_cons rfl evs_nil) co42 (valid_ok s _ hk hy) rfl ?_; clear h a; rintro _ w2 ⟨rfl, hq⟩ a h
 replace hf := hf.next hq
 replace hb1 := hb1.ext hq
 clear hq
 refine st_eq h rfl rfl rfl ?_; clear h a; intro a h
 replace h : Ag a 14 [(1, _), (5, _)] := h.sub (.cons rfl (.cons rfl .nil))
 refine wnt ?_
 first | refine cond_dec h rfl (fun c0 => ?_) (fun c0 => ?_) | refine cond_ndec h rfl (fun c0 => ?_) (fun c0 => ?_) | refine cond_split h rfl (fun c0 => ?_) (fun c0 => ?_)
 ·have hc : checkS s ≠ 0 := fun e => by rw [if_pos e] at c0; omega
  refine wp_seq ?_
  refine wR ?_
  refine st_assign h rfl rfl ?_; clear h a; intro a h
  replace h : Ag a 14 [(2, _)] := h.sub (.cons rfl .nil)
  refine wnt ?_
  refine wp_ret (ret_then ?_)
  refine ret1 h Tryd.results85 rfl ?_
  exact ⟨_, rfl, by first | rw [makes_0 hc] | rw [makes_8 hc c1] | rw [makes_1 hc c1], hf⟩
 ·have hc : checkS s = 0 := Decidable.not_not.1 fun e => c0 (if_neg e)
  refine wsn ?_
  refine wp_seq ?_
  refine wp_seq ?_
  refine wR ?_
  refine st_fieldAddr h rfl fa100_0 rfl ?_; clear h a; intro a h
  refine st_loadB h rfl hb1 rfl na87 rfl ?_; clear h a; intro a h
  refine st_eq h rfl rfl rfl ?_; clear h a; intro a h
  replace h : Ag a 14 [(1, _), (8, _)] := h.sub (.cons rfl (.cons rfl .nil))
  refine wnt ?_
  first | refine cond_dec h rfl (fun c1 => ?_) (fun c1 => ?_) | refine cond_ndec h rfl (fun c1 => ?_) (fun c1 => ?_) | refine cond_split h rfl (fun c1 => ?_) (fun c1 => ?_)
  ·have h8 := (check_rng hc).2.2.2.2.2 c1
   refine wp_seq ?_
   refine wR ?_
   refine st_fieldAddr h rfl fa100_2 rfl ?_; clear h a; intro a h
   refine st_loadB h rfl hb1 rfl na3 rfl ?_; clear h a; intro a h
   refine st_fieldAddr h rfl fa100_3 rfl ?_; clear h a; intro a h
   refine st_loadB h rfl hb1 rfl na3 rfl ?_; clear h a; intro a h
   refine st_add h rfl rfl (by first | exact IntWalk.i64_in _ (by omega) | rfl) rfl ?_; clear h a; intro a h
   refine st_assign h rfl rfl ?_; clear h a; intro a h
   replace h : Ag a 14 [(2, _)] := h.sub (.cons rfl .nil)
   refine wnt ?_
   refine wp_ret (ret_then ?_)
   refine ret1 h Tryd.results85 rfl ?_
   exact ⟨_, rfl, by first | rw [makes_0 hc] | rw [makes_8 hc c1] | rw [makes_1 hc c1], hf⟩
  ·refine id ?_
   refine wsn ?_
   refine wp_seq ?_
   refine wR ?_
   refine st_assign h rfl rfl ?_; clear h a; intro a h
   replace h : Ag a 14 [(2, _)] := h.sub (.cons rfl .nil)
   refine wnt ?_
   refine wp_ret ?_
   refine ret1 h Tryd.results85 rfl ?_
   exact ⟨_, rfl, by first | rw [makes_0 hc] | rw [makes_8 hc c1] | rw [makes_1 hc c1], hf⟩
theorem refloads_ok (s : Stitch) (u : Value) (l : List Int) (w0 : World) (hk : 0 ≤ s.k) (hy : 0 ≤ s.y) (hu : Sl Enc.i64 w0 u l) : Rets Tryd.prog 73 #[stV s, u] w0 fun v w' => ∃ r, v = .tuple #[r, .int .i64 (loadsS s l).2] ∧ Lw.Own Enc.i64 3 w0.heap.size w' r (loadsS s l).1 ∧ Fr [] w0 w' := by
 obtain ⟨A, c, rfl, hcp⟩ := hu.form
 obtain ⟨-, -, hM, hA⟩ := Sl.open_ hu
 unfold maxLen at hM
 have hmk := makes_rng s
 refine enter [(0, stV s), (1, .slice A l.length c)] Tryd.func73 rfl Tryd.ntmps73 rfl (.cons rfl (.cons rfl .nil)) ?_
 have hf := Fr.refl [] w0
 intro a h
 refine wp_seq ?_
 refine wR ?_
 refine st_box h rfl rfl rfl ?_; clear h a; intro w1 hb2 hq hz a h
 obtain ⟨g_2, hg⟩ : ∃ g, g = w0.heap.size := ⟨_, rfl⟩; rw [← hg] at hb2 h hz
 have hl2 : w0.heap.size ≤ g_2 := by have := hf.size; omega
 replace hf := hf.next hq
 clear hq hz hg
 refine st_assign h rfl rfl ?_; clear h a; intro a h
 refine st_assign h rfl rfl ?_; clear h a; intro a h
 replace h : Ag a 88 [(1, _), (2, _)] := h.sub (.cons rfl (.cons rfl .nil))
 refine wnt ?_
 refine wp_seq ?_
 refine wp_seq ?_
 refine wR ?_
 refine st_loadBA h rfl hb2 ag100 rfl ?_; clear h a; intro a h
 refine st_call h (evs_cons rfl evs_nil) co42 (valid_ok s _ hk hy) rfl ?_; clear h a; rintro _ w2 ⟨rfl, hq⟩ a h
 replace hf := hf.next hq
 replace hb2 := hb2.ext hq
 clear hq
 refine st_eq h rfl rfl rfl ?_; clear h a; intro a h
 replace h : Ag a 88 [(1, _), (2, _), (11, _)] := h.sub (.cons rfl (.cons rfl (.cons rfl .nil)))
 refine wnt ?_
 first | refine cond_dec h rfl (fun c0 => ?_) (fun c0 => ?_) | refine cond_ndec h rfl (fun c0 => ?_) (fun c0 => ?_) | refine cond_split h rfl (fun c0 => ?_) (fun c0 => ?_)
 ·have hc : checkS s ≠ 0 := fun e => by rw [if_pos e] at c0; omega
  refine wp_seq ?_
  refine wR ?_
  refine st_assign h rfl rfl ?_; clear h a; intro a h
  refine st_assign h rfl rfl ?_; clear h a; intro a h
  replace h : Ag a 88 [(4, _), (5, _)] := h.sub (.cons rfl (.cons rfl .nil))
  refine wnt ?_
  refine wp_ret (ret_then ?_)
  refine ret2 h Tryd.results73 rfl rfl ?_
  rw [loads_1 hc]; exact ⟨_, rfl, _, rfl, Own.nil _, hf⟩
 ·have hc : checkS s = 0 := Decidable.not_not.1 fun e => c0 (if_neg e)
  refine wsn ?_
  refine wp_seq ?_
  refine wp_seq ?_
  refine wR ?_
  refine st_move h rfl rfl ?_; clear h a; intro a h
  refine st_lenS h rfl Tryd.underlying30 rfl ?_; clear h a; intro a h
  refine st_loadBA h rfl hb2 ag100 rfl ?_; clear h a; intro a h
  refine st_call h (evs_cons rfl evs_nil) co72 (refneeds_ok s _ hk hy) rfl ?_; clear h a; rintro _ w3 ⟨rfl, hq⟩ a h
  replace hf := hf.next hq
  replace hb2 := hb2.ext hq
  clear hq
  refine st_ne h rfl rfl rfl ?_; clear h a; intro a h
  replace h : Ag a 88 [(1, _), (2, _), (16, _)] := h.sub (.cons rfl (.cons rfl (.cons rfl .nil)))
  refine wnt ?_
  first | refine cond_dec h rfl (fun c1 => ?_) (fun c1 => ?_) | refine cond_ndec h rfl (fun c1 => ?_) (fun c1 => ?_) | refine cond_split h rfl (fun c1 => ?_) (fun c1 => ?_)
  ·refine id ?_
   refine wp_seq ?_
   refine wR ?_
   refine st_assign h rfl rfl ?_; clear h a; intro a h
   refine st_assign h rfl rfl ?_; clear h a; intro a h
   replace h : Ag a 88 [(4, _), (5, _)] := h.sub (.cons rfl (.cons rfl .nil))
   refine wnt ?_
   refine wp_ret (ret_then ?_)
   refine ret2 h Tryd.results73 rfl rfl ?_
   rw [loads_5 hc c1]; exact ⟨_, rfl, _, rfl, Own.nil _, hf⟩
  ·have hn : (l.length : Int) = needsS s := Decidable.not_not.1 c1
   refine wsn ?_
   refine wp_seq ?_
   refine wp_seq ?_
   refine wR ?_
   refine st_assign h rfl rfl ?_; clear h a; intro a h
   replace h : Ag a 88 [(1, _), (2, _), (6, _)] := h.sub (.cons rfl (.cons rfl (.cons rfl .nil)))
   refine wnt ?_
   refine wp_block ?_
   refine loop (ι := Nat) (fun k => [(1, .slice A l.length c), (2, .pointer (some ⟨g_2, 0, none⟩)), (6, .int .i64 (k : Int))]) (fun k w' => k ≤ l.length ∧ (l.take k).all few = true ∧ Blk w' g_2 100 [.int .u8 s.k, .int .u8 s.y, .int .i64 s.a, .int .i64 s.b, .bool s.f] ∧ Fr [] w0 w') (fun k => l.length - k) 0 (h.sub (.cons rfl (.cons rfl (.cons rfl .nil)))) ⟨by omega, rfl, hb2, hf⟩ ?_
   clear h a hb2 hf
   rintro k w4 a h ⟨hkl, ha, hb2, hf⟩
   refine wp_seq ?_
   refine wp_seq ?_
   refine wR ?_
   refine st_move h rfl rfl ?_; clear h a; intro a h
   refine st_move h rfl rfl ?_; clear h a; intro a h
   refine st_lenS h rfl Tryd.underlying30 rfl ?_; clear h a; intro a h
   refine st_lt h rfl rfl rfl ?_; clear h a; intro a h
   replace h : Ag a 88 [(1, _), (2, _), (6, _), (20, _)] := h.sub (.cons rfl (.cons rfl (.cons rfl (.cons rfl .nil))))
   refine wnt ?_
   first | refine cond_dec h rfl (fun c2 => ?_) (fun c2 => ?_) | refine cond_ndec h rfl (fun c2 => ?_) (fun c2 => ?_) | refine cond_split h rfl (fun c2 => ?_) (fun c2 => ?_)
   ·obtain ⟨x, hxx⟩ : ∃ x, l[k]? = some x := ⟨_, List.getElem?_eq_getElem (by omega)⟩
    obtain ⟨ad, hAx, ca⟩ := hA _ x hxx
    refine wsn ?_
    refine wp_seq ?_
    refine wp_block ?_
    refine wp_seq ?_
    refine region_bool (r := 41) (L' := [(1, _), (2, _), (6, _)]) (¬ (1 ≤ x ∧ x ≤ 3)) h (.cons rfl (.cons rfl (.cons rfl .nil))) ?_ ?_
    ·refine id ?_
     refine st_move h rfl rfl ?_; clear h a; intro a h
     refine st_move h rfl rfl ?_; clear h a; intro a h
     refine st_idxS h (by rw [hAx]; rfl) rfl el30 (by omega) (by omega) rfl rfl ?_; clear h a; intro a h
     refine st_loadC0 h rfl (ca.fr hf (by simp)) na3 rfl ?_; clear h a; intro a h
     refine st_ne h rfl rfl rfl ?_; clear h a; intro a h
     refine st_move h rfl rfl ?_; clear h a; intro a h
     first | refine guard_dec (D := 28) h rfl ?_ ?_ | refine guard_ndec (D := 28) h rfl ?_ ?_ | refine guard_any (D := 28) h rfl ?_ ?_
     ·clear h; intro g0 h
      refine gd_yes h rfl rfl rfl rfl rfl rfl ?_
      refine st_move h rfl rfl ?_; clear h a; intro a h
      refine gd_yes h rfl rfl rfl rfl rfl rfl ?_
      refine st_move h rfl rfl ?_; clear h a; intro a h
      refine gd_yes h rfl rfl rfl rfl rfl rfl ?_
      refine st_idxS h (by rw [hAx]; rfl) rfl el30 (by omega) (by omega) rfl rfl ?_; clear h a; intro a h
      refine gd_yes h rfl rfl rfl rfl rfl rfl ?_
      refine st_loadC0 h rfl (ca.fr hf (by simp)) na3 rfl ?_; clear h a; intro a h
      refine gd_yes h rfl rfl rfl rfl rfl rfl ?_
      refine st_ne h rfl rfl rfl ?_; clear h a; intro a h
      refine st_pick_t h rfl rfl rfl rfl ?_; clear h a; intro a h
      refine st_move h rfl rfl ?_; clear h a; intro a h
      first | refine guard_dec (D := 35) h rfl ?_ ?_ | refine guard_ndec (D := 35) h rfl ?_ ?_ | refine guard_any (D := 35) h rfl ?_ ?_
      ·clear h; intro g1 h
       refine gd_yes h rfl rfl rfl rfl rfl rfl ?_
       refine st_move h rfl rfl ?_; clear h a; intro a h
       refine gd_yes h rfl rfl rfl rfl rfl rfl ?_
       refine st_move h rfl rfl ?_; clear h a; intro a h
       refine gd_yes h rfl rfl rfl rfl rfl rfl ?_
       refine st_idxS h (by rw [hAx]; rfl) rfl el30 (by omega) (by omega) rfl rfl ?_; clear h a; intro a h
       refine gd_yes h rfl rfl rfl rfl rfl rfl ?_
       refine st_loadC0 h rfl (ca.fr hf (by simp)) na3 rfl ?_; clear h a; intro a h
       refine gd_yes h rfl rfl rfl rfl rfl rfl ?_
       refine st_ne h rfl rfl rfl ?_; clear h a; intro a h
       refine st_pick_t h rfl rfl rfl rfl ?_; clear h a; intro a h
       exact wpList_nil (bool_end h rfl (by first | exact bt (by omega) | exact bf (by omega) | exact bi (by omega) | exact bn (by omega)) (.cons rfl (.cons rfl (.cons rfl .nil))))
      ·clear h; intro g1 h
       refine gd_no h rfl rfl rfl rfl rfl rfl rfl rfl ?_; clear h a; intro a h
       refine gd_no h rfl rfl rfl rfl rfl rfl rfl rfl ?_; clear h a; intro a h
       refine gd_no h rfl rfl rfl rfl rfl rfl rfl rfl ?_; clear h a; intro a h
       refine gd_no h rfl rfl rfl rfl rfl rfl rfl rfl ?_; clear h a; intro a h
       refine gd_no h rfl rfl rfl rfl rfl rfl rfl rfl ?_; clear h a; intro a h
       refine st_pick_f h rfl rfl rfl rfl ?_; clear h a; intro a h
       exact wpList_nil (bool_end h rfl (by first | exact bt (by omega) | exact bf (by omega) | exact bi (by omega) | exact bn (by omega)) (.cons rfl (.cons rfl (.cons rfl .nil))))
     ·clear h; intro g0 h
      refine gd_no h rfl rfl rfl rfl rfl rfl rfl rfl ?_; clear h a; intro a h
      refine gd_no h rfl rfl rfl rfl rfl rfl rfl rfl ?_; clear h a; intro a h
      refine gd_no h rfl rfl rfl rfl rfl rfl rfl rfl ?_; clear h a; intro a h
      refine gd_no h rfl rfl rfl rfl rfl rfl rfl rfl ?_; clear h a; intro a h
      refine gd_no h rfl rfl rfl rfl rfl rfl rfl rfl ?_; clear h a; intro a h
      refine st_pick_f h rfl rfl rfl rfl ?_; clear h a; intro a h
      refine st_move h rfl rfl ?_; clear h a; intro a h
      refine gd_no h rfl rfl rfl rfl rfl rfl rfl rfl ?_; clear h a; intro a h
      refine gd_no h rfl rfl rfl rfl rfl rfl rfl rfl ?_; clear h a; intro a h
      refine gd_no h rfl rfl rfl rfl rfl rfl rfl rfl ?_; clear h a; intro a h
      refine gd_no h rfl rfl rfl rfl rfl rfl rfl rfl ?_; clear h a; intro a h
      refine gd_no h rfl rfl rfl rfl rfl rfl rfl rfl ?_; clear h a; intro a h
      refine st_pick_f h rfl rfl rfl rfl ?_; clear h a; intro a h
      exact wpList_nil (bool_end h rfl (by first | exact bt (by omega) | exact bf (by omega) | exact bi (by omega) | exact bn (by omega)) (.cons rfl (.cons rfl (.cons rfl .nil))))
    ·clear h a; intro a h
     refine (norm_then ?_)
     first | refine cond_dec h rfl (fun c3 => ?_) (fun c3 => ?_) | refine cond_ndec h rfl (fun c3 => ?_) (fun c3 => ?_) | refine cond_split h rfl (fun c3 => ?_) (fun c3 => ?_)
     ·refine id ?_
      refine wp_seq ?_
      refine wR ?_
      refine st_assign h rfl rfl ?_; clear h a; intro a h
      refine st_assign h rfl rfl ?_; clear h a; intro a h
      replace h : Ag a 88 [(4, _), (5, _)] := h.sub (.cons rfl (.cons rfl .nil))
      refine wnt ?_
      refine wp_ret (ret_blk (ret_then (ret_then (ret_blk (ret_then ?_)))))
      refine ret2 h Tryd.results73 rfl rfl ?_
      rw [loads_b hc hn hxx c3]; exact ⟨_, rfl, _, rfl, Own.nil _, hf⟩
     ·refine id ?_
      refine wp_skip (norm_blk (norm_then ?_))
      refine wR ?_
      refine st_move h rfl rfl ?_; clear h a; intro a h
      refine st_add h rfl rfl (by first | exact IntWalk.i64_in _ (by omega) | rfl) rfl ?_; clear h a; intro a h
      refine st_assign h rfl rfl ?_; clear h a; intro a h
      replace h : Ag a 88 [(1, _), (2, _), (6, _)] := h.sub (.cons rfl (.cons rfl (.cons rfl .nil)))
      refine wnt ?_
      exact ⟨k + 1, h.sub (.cons rfl (.cons rfl (.cons rfl .nil))), ⟨by omega, all_few_next ha hxx (by omega), hb2, hf⟩, by omega⟩
   ·obtain rfl : k = l.length := by omega
    rw [List.take_length] at ha
    refine wp_exit (exit_then (exit_then (exit_here (norm_then ?_))))
    refine wp_seq ?_
    refine wp_seq ?_
    refine region_bool (r := 49) (L' := [(1, _), (2, _)]) (s.k = 4 ∨ s.k = 5) h (.cons rfl (.cons rfl .nil)) ?_ ?_
    ·refine id ?_
     refine st_fieldAddr h rfl fa100_0 rfl ?_; clear h a; intro a h
     refine st_loadB h rfl hb2 rfl na87 rfl ?_; clear h a; intro a h
     refine st_eq h rfl rfl rfl ?_; clear h a; intro a h
     refine st_move h rfl rfl ?_; clear h a; intro a h
     first | refine guard_dec (D := 45) h rfl ?_ ?_ | refine guard_ndec (D := 45) h rfl ?_ ?_ | refine guard_any (D := 45) h rfl ?_ ?_
     ·clear h; intro g2 h
      refine gd_no h rfl rfl rfl rfl rfl rfl rfl rfl ?_; clear h a; intro a h
      refine gd_no h rfl rfl rfl rfl rfl rfl rfl rfl ?_; clear h a; intro a h
      refine gd_no h rfl rfl rfl rfl rfl rfl rfl rfl ?_; clear h a; intro a h
      refine st_pick_t h rfl rfl rfl rfl ?_; clear h a; intro a h
      exact wpList_nil (bool_end h rfl (by first | exact bt (by omega) | exact bf (by omega) | exact bi (by omega) | exact bn (by omega)) (.cons rfl (.cons rfl .nil)))
     ·clear h; intro g2 h
      refine gd_yes h rfl rfl rfl rfl rfl rfl ?_
      refine st_fieldAddr h rfl fa100_0 rfl ?_; clear h a; intro a h
      refine gd_yes h rfl rfl rfl rfl rfl rfl ?_
      refine st_loadB h rfl hb2 rfl na87 rfl ?_; clear h a; intro a h
      refine gd_yes h rfl rfl rfl rfl rfl rfl ?_
      refine st_eq h rfl rfl rfl ?_; clear h a; intro a h
      refine st_pick_f h rfl rfl rfl rfl ?_; clear h a; intro a h
      exact wpList_nil (bool_end h rfl (by first | exact bt (by omega) | exact bf (by omega) | exact bi (by omega) | exact bn (by omega)) (.cons rfl (.cons rfl .nil)))
    ·clear h a; intro a h
     refine (norm_then ?_)
     first | refine cond_dec h rfl (fun c4 => ?_) (fun c4 => ?_) | refine cond_ndec h rfl (fun c4 => ?_) (fun c4 => ?_) | refine cond_split h rfl (fun c4 => ?_) (fun c4 => ?_)
     ·have h4 : s.k = 4 ∨ s.k = 5 := by omega
      have hn2 := needs_2 hc h4
      obtain ⟨x, hxx⟩ : ∃ x, l[0]? = some x := ⟨_, List.getElem?_eq_getElem (by omega)⟩
      obtain ⟨ad, hAx, ca⟩ := hA _ x hxx
      obtain ⟨y, hxy⟩ : ∃ x, l[1]? = some x := ⟨_, List.getElem?_eq_getElem (by omega)⟩
      obtain ⟨bd, hAy, cb⟩ := hA _ y hxy
      have hfx := (few_iff x).1 (List.all_eq_true.1 ha x (List.mem_of_getElem? hxx))
      have hfy := (few_iff y).1 (List.all_eq_true.1 ha y (List.mem_of_getElem? hxy))
      refine wp_seq ?_
      refine wp_seq ?_
      refine region_quiet hmix (by kernel_rfl) ?_
      refine qt_move h rfl rfl ?_; clear h a; intro a h
      refine qt_idxS (p := 0) h (by rw [hAx]; rfl) rfl el30 (by omega) (by omega) (by omega) rfl ?_; clear h a; intro a h
      refine qt_loadC0 h rfl (fun _ hw => (ca.fr hf (by simp)).fr hw (by simp)) na3 rfl ?_; clear h a; intro a h
      refine qt_move h rfl rfl ?_; clear h a; intro a h
      refine qt_idxS (p := 1) h (by rw [hAy]; rfl) rfl el30 (by omega) (by omega) (by omega) rfl ?_; clear h a; intro a h
      refine qt_loadC0 h rfl (fun _ hw => (cb.fr hf (by simp)).fr hw (by simp)) na3 rfl ?_; clear h a; intro a h
      refine qt_add h rfl rfl (by first | exact IntWalk.i64_in _ (by omega) | rfl) rfl ?_; clear h a; intro a h
      refine qt_gt h rfl rfl rfl ?_; clear h a; intro a h
      refine wpQuiet_nil ?_
      intro w5 hq
      replace hf := hf.next hq
      replace hb2 := hb2.ext hq
      clear hq
      replace h : Ag a 88 [(57, _)] := h.sub (.cons rfl .nil)
      refine (norm_then ?_)
      first | refine cond_dec h rfl (fun c5 => ?_) (fun c5 => ?_) | refine cond_ndec h rfl (fun c5 => ?_) (fun c5 => ?_) | refine cond_split h rfl (fun c5 => ?_) (fun c5 => ?_)
      ·refine id ?_
       refine wp_seq ?_
       refine wR ?_
       refine st_assign h rfl rfl ?_; clear h a; intro a h
       refine st_assign h rfl rfl ?_; clear h a; intro a h
       replace h : Ag a 88 [(4, _), (5, _)] := h.sub (.cons rfl (.cons rfl .nil))
       refine wnt ?_
       refine wp_ret (ret_then (ret_then ?_))
       refine ret2 h Tryd.results73 rfl rfl ?_
       rw [loads_2f hc hn ha h4 hxx hxy c5]; exact ⟨_, rfl, _, rfl, Own.nil _, hf⟩
      ·refine id ?_
       refine wsn ?_
       refine wp_seq ?_
       refine wR ?_
       refine st_bslice [(1 : Int)] h (evs_cons rfl evs_nil) rfl rfl rfl el30 (by decide) rfl ?_; clear h a; intro gN w6 hg hoN hq hz a h
       have hlN : w0.heap.size ≤ gN := by have := hf.size; omega
       replace hf := hf.next hq
       replace hb2 := hb2.ext hq
       clear hq hz hg
       refine st_assign h rfl rfl ?_; clear h a; intro a h
       refine st_assign h rfl rfl ?_; clear h a; intro a h
       replace h : Ag a 88 [(4, _), (5, _)] := h.sub (.cons rfl (.cons rfl .nil))
       refine wnt ?_
       refine wp_ret (ret_then ?_)
       refine ret2 h Tryd.results73 rfl rfl ?_
       rw [loads_2 hc hn ha h4 hxx hxy c5]; exact ⟨_, rfl, _, rfl, hoN.low hlN, hf⟩
     ·have h4 : ¬ (s.k = 4 ∨ s.k = 5) := by omega
      refine wsn ?_
      refine wp_seq ?_
      refine wp_seq ?_
      refine wR ?_
      refine st_fieldAddr h rfl fa100_0 rfl ?_; clear h a; intro a h
      refine st_loadB h rfl hb2 rfl na87 rfl ?_; clear h a; intro a h
      refine st_eq h rfl rfl rfl ?_; clear h a; intro a h
      replace h : Ag a 88 [(1, _), (2, _), (61, _)] := h.sub (.cons rfl (.cons rfl (.cons rfl .nil)))
      refine wnt ?_
      first | refine cond_dec h rfl (fun c6 => ?_) (fun c6 => ?_) | refine cond_ndec h rfl (fun c6 => ?_) (fun c6 => ?_) | refine cond_split h rfl (fun c6 => ?_) (fun c6 => ?_)
      ·have hn1 := needs_1 hc (by omega) (by omega) h4
       obtain ⟨x, hxx⟩ : ∃ x, l[0]? = some x := ⟨_, List.getElem?_eq_getElem (by omega)⟩
       obtain ⟨ad, hAx, ca⟩ := hA _ x hxx
       have hfx := (few_iff x).1 (List.all_eq_true.1 ha x (List.mem_of_getElem? hxx))
       refine wp_seq ?_
       refine wp_seq ?_
       refine wR ?_
       refine st_move h rfl rfl ?_; clear h a; intro a h
       refine st_idxS (p := 0) h (by rw [hAx]; rfl) rfl el30 (by omega) (by omega) (by omega) rfl ?_; clear h a; intro a h
       refine st_loadC0 h rfl (ca.fr hf (by simp)) na3 rfl ?_; clear h a; intro a h
       refine st_eq h rfl rfl rfl ?_; clear h a; intro a h
       replace h : Ag a 88 [(1, _), (65, _)] := h.sub (.cons rfl (.cons rfl .nil))
       refine wnt ?_
       first | refine cond_dec h rfl (fun c7 => ?_) (fun c7 => ?_) | refine cond_ndec h rfl (fun c7 => ?_) (fun c7 => ?_) | refine cond_split h rfl (fun c7 => ?_) (fun c7 => ?_)
       ·refine id ?_
        refine wp_seq ?_
        refine wR ?_
        refine st_assign h rfl rfl ?_; clear h a; intro a h
        refine st_assign h rfl rfl ?_; clear h a; intro a h
        replace h : Ag a 88 [(4, _), (5, _)] := h.sub (.cons rfl (.cons rfl .nil))
        refine wnt ?_
        refine wp_ret (ret_then (ret_then ?_))
        refine ret2 h Tryd.results73 rfl rfl ?_
        rw [loads_6f hc hn ha c6 hxx c7]; exact ⟨_, rfl, _, rfl, Own.nil _, hf⟩
       ·refine id ?_
        refine wsn ?_
        refine wp_seq ?_
        refine wR ?_
        refine st_move h rfl rfl ?_; clear h a; intro a h
        refine st_idxS (p := 0) h (by rw [hAx]; rfl) rfl el30 (by omega) (by omega) (by omega) rfl ?_; clear h a; intro a h
        refine st_loadC0 h rfl (ca.fr hf (by simp)) na3 rfl ?_; clear h a; intro a h
        refine st_add h rfl rfl (by first | exact IntWalk.i64_in _ (by omega) | rfl) rfl ?_; clear h a; intro a h
        refine st_bslice [x + 1] h (evs_cons rfl evs_nil) rfl rfl rfl el30 (by decide) rfl ?_; clear h a; intro gN w7 hg hoN hq hz a h
        have hlN : w0.heap.size ≤ gN := by have := hf.size; omega
        replace hf := hf.next hq
        replace hb2 := hb2.ext hq
        clear hq hz hg
        refine st_assign h rfl rfl ?_; clear h a; intro a h
        refine st_assign h rfl rfl ?_; clear h a; intro a h
        replace h : Ag a 88 [(4, _), (5, _)] := h.sub (.cons rfl (.cons rfl .nil))
        refine wnt ?_
        refine wp_ret (ret_then ?_)
        refine ret2 h Tryd.results73 rfl rfl ?_
        rw [loads_6 hc hn ha c6 hxx c7]; exact ⟨_, rfl, _, rfl, hoN.low hlN, hf⟩
      ·refine id ?_
       refine wsn ?_
       refine wp_seq ?_
       refine wp_seq ?_
       refine wR ?_
       refine st_fieldAddr h rfl fa100_0 rfl ?_; clear h a; intro a h
       refine st_loadB h rfl hb2 rfl na87 rfl ?_; clear h a; intro a h
       refine st_eq h rfl rfl rfl ?_; clear h a; intro a h
       replace h : Ag a 88 [(1, _), (2, _), (73, _)] := h.sub (.cons rfl (.cons rfl (.cons rfl .nil)))
       refine wnt ?_
       first | refine cond_dec h rfl (fun c8 => ?_) (fun c8 => ?_) | refine cond_ndec h rfl (fun c8 => ?_) (fun c8 => ?_) | refine cond_split h rfl (fun c8 => ?_) (fun c8 => ?_)
       ·have hn1 := needs_1 hc (by omega) (by omega) h4
        obtain ⟨x, hxx⟩ : ∃ x, l[0]? = some x := ⟨_, List.getElem?_eq_getElem (by omega)⟩
        obtain ⟨ad, hAx, ca⟩ := hA _ x hxx
        refine wp_seq ?_
        refine wR ?_
        refine st_move h rfl rfl ?_; clear h a; intro a h
        refine st_idxS (p := 0) h (by rw [hAx]; rfl) rfl el30 (by omega) (by omega) (by omega) rfl ?_; clear h a; intro a h
        refine st_loadC0 h rfl (ca.fr hf (by simp)) na3 rfl ?_; clear h a; intro a h
        refine st_bslice [x] h (evs_cons rfl evs_nil) rfl rfl rfl el30 (by decide) rfl ?_; clear h a; intro gN w8 hg hoN hq hz a h
        have hlN : w0.heap.size ≤ gN := by have := hf.size; omega
        replace hf := hf.next hq
        replace hb2 := hb2.ext hq
        clear hq hz hg
        refine st_assign h rfl rfl ?_; clear h a; intro a h
        refine st_assign h rfl rfl ?_; clear h a; intro a h
        replace h : Ag a 88 [(4, _), (5, _)] := h.sub (.cons rfl (.cons rfl .nil))
        refine wnt ?_
        refine wp_ret (ret_then ?_)
        refine ret2 h Tryd.results73 rfl rfl ?_
        rw [loads_7 hc hn ha c8 hxx]; exact ⟨_, rfl, _, rfl, hoN.low hlN, hf⟩
       ·refine id ?_
        refine wsn ?_
        refine wp_seq ?_
        refine wR ?_
        refine st_assign h rfl rfl ?_; clear h a; intro a h
        replace h : Ag a 88 [(2, _), (7, _)] := h.sub (.cons rfl (.cons rfl .nil))
        refine wnt ?_
        refine wp_seq ?_
        refine wp_seq ?_
        refine wR ?_
        refine st_assign h rfl rfl ?_; clear h a; intro a h
        refine wnt ?_
        refine wp_block ?_
        refine loop (ι := Nat × Value) (fun z => [(2, .pointer (some ⟨g_2, 0, none⟩)), (7, z.2), (8, .int .i64 (z.1 : Int))]) (fun z w' => (z.1 : Int) ≤ makesS s ∧ Lw.Own Enc.i64 3 (g_2 + 1) w' z.2 (List.replicate z.1 1) ∧ Blk w' g_2 100 [.int .u8 s.k, .int .u8 s.y, .int .i64 s.a, .int .i64 s.b, .bool s.f] ∧ Fr [] w0 w') (fun z => (makesS s).toNat - z.1) (0, .slice none 0 0) (h.sub (.cons rfl (.cons rfl (.cons rfl .nil)))) ⟨by simp only; omega, Own.nil _, hb2, hf⟩ ?_
        clear h a hb2 hf
        rintro ⟨j, x⟩ w9 a h ⟨hj, ho, hb2, hf⟩
        simp only at hj ho h
        refine wp_seq ?_
        refine wp_seq ?_
        refine wR ?_
        refine st_move h rfl rfl ?_; clear h a; intro a h
        refine st_loadBA h rfl hb2 ag100 rfl ?_; clear h a; intro a h
        refine st_call h (evs_cons rfl evs_nil) co85 (refmakes_ok s _ hk hy) rfl ?_; clear h a; rintro _ w10 ⟨rfl, hq⟩ a h
        replace hf := hf.next hq
        replace hb2 := hb2.ext hq
        replace ho := ho.ext hq
        clear hq
        refine st_lt h rfl rfl rfl ?_; clear h a; intro a h
        replace h : Ag a 88 [(2, _), (7, _), (8, _), (81, _)] := h.sub (.cons rfl (.cons rfl (.cons rfl (.cons rfl .nil))))
        refine wnt ?_
        first | refine cond_dec h rfl (fun c9 => ?_) (fun c9 => ?_) | refine cond_ndec h rfl (fun c9 => ?_) (fun c9 => ?_) | refine cond_split h rfl (fun c9 => ?_) (fun c9 => ?_)
        ·refine id ?_
         refine wsn ?_
         refine wp_seq ?_
         refine wp_block ?_
         refine wR ?_
         refine st_move h rfl rfl ?_; clear h a; intro a h
         refine st_bslice [(1 : Int)] h (evs_cons rfl evs_nil) rfl rfl rfl el30 (by decide) rfl ?_; clear h a; intro gN w11 hg hoN hq hz a h
         have hlN : w0.heap.size ≤ gN := by have := hf.size; omega
         replace hf := hf.next hq
         replace hb2 := hb2.ext hq
         replace ho := ho.ext hq
         clear hq hz hg
         have hbO := ho.blk
         refine st_append h rfl rfl ho hoN.sl el30 (by unfold maxLen; simp; omega) (by simp; omega) (by have := hb2.lt; omega) rfl ?_; clear h a; intro v3 w12 ho3 hq hx3 a h
         replace hb2 := hb2.fr hq (fun hb => by have := (hbO _ hb).1; omega)
         replace hf := hf.step hq (fun k hk hlt => absurd (hbO k hk).1 (by omega))
         clear ho hq hx3 hoN hbO; have ho := ho3; clear ho3
         refine st_assign h rfl rfl ?_; clear h a; intro a h
         replace h : Ag a 88 [(2, _), (7, _), (8, _)] := h.sub (.cons rfl (.cons rfl (.cons rfl .nil)))
         refine wpList_nil (norm_blk (norm_then ?_))
         refine wR ?_
         refine st_move h rfl rfl ?_; clear h a; intro a h
         refine st_add h rfl rfl (by first | exact IntWalk.i64_in _ (by omega) | rfl) rfl ?_; clear h a; intro a h
         refine st_assign h rfl rfl ?_; clear h a; intro a h
         replace h : Ag a 88 [(2, _), (7, _), (8, _)] := h.sub (.cons rfl (.cons rfl (.cons rfl .nil)))
         refine wnt ?_
         exact ⟨(j + 1, _), h.sub (.cons rfl (.cons rfl (.cons rfl .nil))), ⟨by simp only; omega, by rw [rep_succ]; exact ho, hb2, hf⟩, by simp only; omega⟩
        ·obtain rfl : j = (makesS s).toNat := by omega
         refine wp_exit (exit_then (exit_then (exit_here (norm_then ?_))))
         refine wp_seq ?_
         refine wR ?_
         refine st_move h rfl rfl ?_; clear h a; intro a h
         refine st_assign h rfl rfl ?_; clear h a; intro a h
         refine st_assign h rfl rfl ?_; clear h a; intro a h
         replace h : Ag a 88 [(4, _), (5, _)] := h.sub (.cons rfl (.cons rfl .nil))
         refine wnt ?_
         refine wp_ret ?_
         refine ret2 h Tryd.results73 rfl rfl ?_
         rw [loads_o hc hn ha h4 c6 c8]; exact ⟨_, rfl, _, rfl, ho.low (by omega), hf⟩
end Go.Proofs.YthehggmdcmpjeaaDoor
namespace Go.Proofs.YthehggmdcmpjeaaDoor
open Go.Lw Go.G14
theorem bo100 : BuildAt Tryd.prog 100 [(0, 1), (1, 1), (2, 1), (3, 1), (4, 1)] [(.int .u8 0), (.int .u8 0), (.int .i64 0), (.int .i64 0), (.bool false)] := BuildAt.struct Tryd.underlying100 (fun _ => by kernel_rfl) (fun _ => by kernel_rfl)
theorem sz3 : SizeOf Tryd.prog 3 1 := fun _ => by kernel_rfl
end Go.Proofs.YthehggmdcmpjeaaDoor
namespace Go.Proofs.YthehggmdcmpjeaaDoor
open Go.Lw Go.G14
theorem co73 : CallOf Tryd.prog 73 := CallOf.mk' Tryd.func73 (by kernel_rfl) (by kernel_rfl)
end Go.Proofs.YthehggmdcmpjeaaDoor
namespace Go.Proofs.YthehggmdcmpjeaaDoor
open Go.Lw Go.G14
theorem ag47 : AggOf Tryd.prog 47 1 := ⟨fun _ => by kernel_rfl, fun _ => by kernel_rfl⟩
theorem na76 : NotAgg Tryd.prog 76 := fun _ => by kernel_rfl
theorem sz45 : SizeOf Tryd.prog 45 1 := fun _ => by kernel_rfl
theorem sz47 : SizeOf Tryd.prog 47 1 := fun _ => by kernel_rfl
theorem zv47 (w : World) : (zeroValue 47).run Tryd.prog w = .ok (.agg #[(.slice none 0 0)]) w := by kernel_rfl
end Go.Proofs.YthehggmdcmpjeaaDoor
namespace Go.Proofs.YthehggmdcmpjeaaDoor
open Go.Lw Go.G14
theorem co50 : CallOf Tryd.prog 50 := CallOf.mk' Tryd.func50 (by kernel_rfl) (by kernel_rfl)
theorem co67 : CallOf Tryd.prog 67 := CallOf.mk' Tryd.func67 (by kernel_rfl) (by kernel_rfl)
theorem zv3 (w : World) : (zeroValue 3).run Tryd.prog w = .ok (.int .i64 0) w := by kernel_rfl
theorem needs_ok (s : Stitch) (w0 : World) : Rets Tryd.prog 67 #[stV s] w0 fun v w' => v = .int .i64 (needsS s) ∧ Fr [] w0 w' := by
 refine enter [(0, stV s)] Tryd.func67 rfl Tryd.ntmps67 rfl (.cons rfl .nil) ?_
 have hf := Fr.refl [] w0
 intro a h
 refine wp_seq ?_
 refine wR ?_
 refine st_box h rfl rfl rfl ?_; clear h a; intro w1 hb1 hq hz a h
 obtain ⟨g_1, hg⟩ : ∃ g, g = w0.heap.size := ⟨_, rfl⟩; rw [← hg] at hb1 h hz
 have hl1 : w0.heap.size ≤ g_1 := by have := hf.size; omega
 replace hf := hf.next hq
 clear hq hz hg
 refine st_assign h rfl rfl ?_; clear h a; intro a h
 replace h : Ag a 20 [(1, _)] := h.sub (.cons rfl .nil)
 refine wnt ?_
 refine wp_seq ?_
 refine wp_seq ?_
 refine wR ?_
 refine st_loadBA h rfl hb1 ag100 rfl ?_; clear h a; intro a h
 refine st_call h (evs_cons rfl evs_nil) co68 (check_ok s _) rfl ?_; clear h a; rintro _ w2 ⟨rfl, hq⟩ a h
 replace hf := hf.next hq
 replace hb1 := hb1.ext hq
 clear hq
 refine st_ne h rfl rfl rfl ?_; clear h a; intro a h
 replace h : Ag a 20 [(1, _), (5, _)] := h.sub (.cons rfl (.cons rfl .nil))
 refine wnt ?_
 first | refine cond_dec h rfl (fun c0 => ?_) (fun c0 => ?_) | refine cond_ndec h rfl (fun c0 => ?_) (fun c0 => ?_) | refine cond_split h rfl (fun c0 => ?_) (fun c0 => ?_)
 ·have hc : checkS s ≠ 0 := c0
  refine wp_seq ?_
  refine wR ?_
  refine st_assign h rfl rfl ?_; clear h a; intro a h
  replace h : Ag a 20 [(2, _)] := h.sub (.cons rfl .nil)
  refine wnt ?_
  refine wp_ret (ret_then ?_)
  refine ret1 h Tryd.results67 rfl ?_
  exact ⟨_, rfl, by first | rw [needs_0 (.inl hc)] | rw [needs_0 (.inr c1)] | rw [needs_2 hc (by omega)] | rw [needs_8 hc c4] | rw [needs_1 hc (by omega) (by omega) (by omega)], hf⟩
 ·have hc : checkS s = 0 := Decidable.not_not.1 c0
  refine wsn ?_
  refine wp_seq ?_
  refine wp_seq ?_
  refine wR ?_
  refine st_fieldAddr h rfl fa100_0 rfl ?_; clear h a; intro a h
  refine st_loadB h rfl hb1 rfl na87 rfl ?_; clear h a; intro a h
  replace h : Ag a 20 [(1, _), (7, _)] := h.sub (.cons rfl (.cons rfl .nil))
  refine wnt ?_
  refine wp_block ?_
  refine wp_seq ?_
  refine wR ?_
  refine st_eq h rfl rfl rfl ?_; clear h a; intro a h
  refine st_assign h rfl rfl ?_; clear h a; intro a h
  replace h : Ag a 20 [(1, _), (7, _), (8, _)] := h.sub (.cons rfl (.cons rfl (.cons rfl .nil)))
  refine wnt ?_
  first | refine cond_dec h rfl (fun c1 => ?_) (fun c1 => ?_) | refine cond_ndec h rfl (fun c1 => ?_) (fun c1 => ?_) | refine cond_split h rfl (fun c1 => ?_) (fun c1 => ?_)
  ·refine id ?_
   refine wp_seq ?_
   refine wR ?_
   refine st_assign h rfl rfl ?_; clear h a; intro a h
   replace h : Ag a 20 [(2, _)] := h.sub (.cons rfl .nil)
   refine wnt ?_
   refine wp_ret (ret_blk (ret_then ?_))
   refine ret1 h Tryd.results67 rfl ?_
   exact ⟨_, rfl, by first | rw [needs_0 (.inl hc)] | rw [needs_0 (.inr c1)] | rw [needs_2 hc (by omega)] | rw [needs_8 hc c4] | rw [needs_1 hc (by omega) (by omega) (by omega)], hf⟩
  ·refine id ?_
   refine wp_seq ?_
   refine wp_seq ?_
   refine wR ?_
   refine st_eq h rfl rfl rfl ?_; clear h a; intro a h
   refine st_assign h rfl rfl ?_; clear h a; intro a h
   replace h : Ag a 20 [(1, _), (7, _), (10, _)] := h.sub (.cons rfl (.cons rfl (.cons rfl .nil)))
   refine wnt ?_
   first | refine cond_dec h rfl (fun c2 => ?_) (fun c2 => ?_) | refine cond_ndec h rfl (fun c2 => ?_) (fun c2 => ?_) | refine cond_split h rfl (fun c2 => ?_) (fun c2 => ?_)
   ·refine id ?_
    rw [decide_eq_true c2] at h
    refine wsn ?_
    refine cond_true h rfl ?_
    refine wp_seq ?_
    refine wR ?_
    refine st_assign h rfl rfl ?_; clear h a; intro a h
    replace h : Ag a 20 [(2, _)] := h.sub (.cons rfl .nil)
    refine wnt ?_
    refine wp_ret (ret_blk (ret_then ?_))
    refine ret1 h Tryd.results67 rfl ?_
    exact ⟨_, rfl, by first | rw [needs_0 (.inl hc)] | rw [needs_0 (.inr c1)] | rw [needs_2 hc (by omega)] | rw [needs_8 hc c4] | rw [needs_1 hc (by omega) (by omega) (by omega)], hf⟩
   ·refine id ?_
    rw [decide_eq_false c2] at h
    refine wR ?_
    refine st_eq h rfl rfl rfl ?_; clear h a; intro a h
    refine st_assign h rfl rfl ?_; clear h a; intro a h
    replace h : Ag a 20 [(1, _), (7, _), (10, _)] := h.sub (.cons rfl (.cons rfl (.cons rfl .nil)))
    refine wnt ?_
    first | refine cond_dec h rfl (fun c3 => ?_) (fun c3 => ?_) | refine cond_ndec h rfl (fun c3 => ?_) (fun c3 => ?_) | refine cond_split h rfl (fun c3 => ?_) (fun c3 => ?_)
    ·refine id ?_
     refine wp_seq ?_
     refine wR ?_
     refine st_assign h rfl rfl ?_; clear h a; intro a h
     replace h : Ag a 20 [(2, _)] := h.sub (.cons rfl .nil)
     refine wnt ?_
     refine wp_ret (ret_blk (ret_then ?_))
     refine ret1 h Tryd.results67 rfl ?_
     exact ⟨_, rfl, by first | rw [needs_0 (.inl hc)] | rw [needs_0 (.inr c1)] | rw [needs_2 hc (by omega)] | rw [needs_8 hc c4] | rw [needs_1 hc (by omega) (by omega) (by omega)], hf⟩
    ·refine id ?_
     refine wp_seq ?_
     refine wR ?_
     refine st_eq h rfl rfl rfl ?_; clear h a; intro a h
     refine st_assign h rfl rfl ?_; clear h a; intro a h
     replace h : Ag a 20 [(1, _), (13, _)] := h.sub (.cons rfl (.cons rfl .nil))
     refine wnt ?_
     first | refine cond_dec h rfl (fun c4 => ?_) (fun c4 => ?_) | refine cond_ndec h rfl (fun c4 => ?_) (fun c4 => ?_) | refine cond_split h rfl (fun c4 => ?_) (fun c4 => ?_)
     ·have h8 := (check_rng hc).2.2.2.2.2 c4
      refine wp_seq ?_
      refine wR ?_
      refine st_fieldAddr h rfl fa100_2 rfl ?_; clear h a; intro a h
      refine st_loadB h rfl hb1 rfl na3 rfl ?_; clear h a; intro a h
      refine st_fieldAddr h rfl fa100_3 rfl ?_; clear h a; intro a h
      refine st_loadB h rfl hb1 rfl na3 rfl ?_; clear h a; intro a h
      refine st_add h rfl rfl (by first | exact IntWalk.i64_in _ (by omega) | rfl) rfl ?_; clear h a; intro a h
      refine st_assign h rfl rfl ?_; clear h a; intro a h
      replace h : Ag a 20 [(2, _)] := h.sub (.cons rfl .nil)
      refine wnt ?_
      refine wp_ret (ret_blk (ret_then ?_))
      refine ret1 h Tryd.results67 rfl ?_
      exact ⟨_, rfl, by first | rw [needs_0 (.inl hc)] | rw [needs_0 (.inr c1)] | rw [needs_2 hc (by omega)] | rw [needs_8 hc c4] | rw [needs_1 hc (by omega) (by omega) (by omega)], hf⟩
     ·refine id ?_
      refine wp_skip (norm_blk (norm_then ?_))
      refine wp_seq ?_
      refine wR ?_
      refine st_assign h rfl rfl ?_; clear h a; intro a h
      replace h : Ag a 20 [(2, _)] := h.sub (.cons rfl .nil)
      refine wnt ?_
      refine wp_ret ?_
      refine ret1 h Tryd.results67 rfl ?_
      exact ⟨_, rfl, by first | rw [needs_0 (.inl hc)] | rw [needs_0 (.inr c1)] | rw [needs_2 hc (by omega)] | rw [needs_8 hc c4] | rw [needs_1 hc (by omega) (by omega) (by omega)], hf⟩
theorem makes_ok (s : Stitch) (w0 : World) : Rets Tryd.prog 50 #[stV s] w0 fun v w' => v = .int .i64 (makesS s) ∧ Fr [] w0 w' := by
 refine enter [(0, stV s)] Tryd.func50 rfl Tryd.ntmps50 rfl (.cons rfl .nil) ?_
 have hf := Fr.refl [] w0
 intro a h
 refine wp_seq ?_
 refine wR ?_
 refine st_box h rfl rfl rfl ?_; clear h a; intro w1 hb1 hq hz a h
 obtain ⟨g_1, hg⟩ : ∃ g, g = w0.heap.size := ⟨_, rfl⟩; rw [← hg] at hb1 h hz
 have hl1 : w0.heap.size ≤ g_1 := by have := hf.size; omega
 replace hf := hf.next hq
 clear hq hz hg
 refine st_assign h rfl rfl ?_; clear h a; intro a h
 replace h : Ag a 14 [(1, _)] := h.sub (.cons rfl .nil)
 refine wnt ?_
 refine wp_seq ?_
 refine wp_seq ?_
 refine wR ?_
 refine st_loadBA h rfl hb1 ag100 rfl ?_; clear h a; intro a h
 refine st_call h (evs_cons rfl evs_nil) co68 (check_ok s _) rfl ?_; clear h a; rintro _ w2 ⟨rfl, hq⟩ a h
 replace hf := hf.next hq
 replace hb1 := hb1.ext hq
 clear hq
 refine st_ne h rfl rfl rfl ?_; clear h a; intro a h
 replace h : Ag a 14 [(1, _), (5, _)] := h.sub (.cons rfl (.cons rfl .nil))
 refine wnt ?_
 first | refine cond_dec h rfl (fun c0 => ?_) (fun c0 => ?_) | refine cond_ndec h rfl (fun c0 => ?_) (fun c0 => ?_) | refine cond_split h rfl (fun c0 => ?_) (fun c0 => ?_)
 ·have hc : checkS s ≠ 0 := c0
  refine wp_seq ?_
  refine wR ?_
  refine st_assign h rfl rfl ?_; clear h a; intro a h
  replace h : Ag a 14 [(2, _)] := h.sub (.cons rfl .nil)
  refine wnt ?_
  refine wp_ret (ret_then ?_)
  refine ret1 h Tryd.results50 rfl ?_
  exact ⟨_, rfl, by first | rw [makes_0 hc] | rw [makes_8 hc c1] | rw [makes_1 hc c1], hf⟩
 ·have hc : checkS s = 0 := Decidable.not_not.1 c0
  refine wsn ?_
  refine wp_seq ?_
  refine wp_seq ?_
  refine wR ?_
  refine st_fieldAddr h rfl fa100_0 rfl ?_; clear h a; intro a h
  refine st_loadB h rfl hb1 rfl na87 rfl ?_; clear h a; intro a h
  refine st_eq h rfl rfl rfl ?_; clear h a; intro a h
  replace h : Ag a 14 [(1, _), (8, _)] := h.sub (.cons rfl (.cons rfl .nil))
  refine wnt ?_
  first | refine cond_dec h rfl (fun c1 => ?_) (fun c1 => ?_) | refine cond_ndec h rfl (fun c1 => ?_) (fun c1 => ?_) | refine cond_split h rfl (fun c1 => ?_) (fun c1 => ?_)
  ·have h8 := (check_rng hc).2.2.2.2.2 c1
   refine wp_seq ?_
   refine wR ?_
   refine st_fieldAddr h rfl fa100_2 rfl ?_; clear h a; intro a h
   refine st_loadB h rfl hb1 rfl na3 rfl ?_; clear h a; intro a h
   refine st_fieldAddr h rfl fa100_3 rfl ?_; clear h a; intro a h
   refine st_loadB h rfl hb1 rfl na3 rfl ?_; clear h a; intro a h
   refine st_add h rfl rfl (by first | exact IntWalk.i64_in _ (by omega) | rfl) rfl ?_; clear h a; intro a h
   refine st_assign h rfl rfl ?_; clear h a; intro a h
   replace h : Ag a 14 [(2, _)] := h.sub (.cons rfl .nil)
   refine wnt ?_
   refine wp_ret (ret_then ?_)
   refine ret1 h Tryd.results50 rfl ?_
   exact ⟨_, rfl, by first | rw [makes_0 hc] | rw [makes_8 hc c1] | rw [makes_1 hc c1], hf⟩
  ·refine id ?_
   refine wsn ?_
   refine wp_seq ?_
   refine wR ?_
   refine st_assign h rfl rfl ?_; clear h a; intro a h
   replace h : Ag a 14 [(2, _)] := h.sub (.cons rfl .nil)
   refine wnt ?_
   refine wp_ret ?_
   refine ret1 h Tryd.results50 rfl ?_
   exact ⟨_, rfl, by first | rw [makes_0 hc] | rw [makes_8 hc c1] | rw [makes_1 hc c1], hf⟩
set_option maxHeartbeats 1000000 in
theorem loads_ok (s : Stitch) (u : Value) (l : List Int) (w0 : World) (hu : Sl Enc.i64 w0 u l) : Rets Tryd.prog 84 #[stV s, u] w0 fun v w' => ∃ r, v = .tuple #[r, .int .i64 (loadsS s l).2] ∧ Lw.Own Enc.i64 3 w0.heap.size w' r (loadsS s l).1 ∧ Fr [] w0 w' := by
 obtain ⟨A, c, rfl, hcp⟩ := hu.form
 obtain ⟨-, -, hM, hA⟩ := Sl.open_ hu
 unfold maxLen at hM
 have hmk := makes_rng s
 refine enter [(0, stV s), (1, .slice A l.length c)] Tryd.func84 rfl Tryd.ntmps84 rfl (.cons rfl (.cons rfl .nil)) ?_
 have hf := Fr.refl [] w0
 intro a h
 refine wp_seq ?_
 refine wR ?_
 refine st_box h rfl rfl rfl ?_; clear h a; intro w1 hb2 hq hz a h
 obtain ⟨g_2, hg⟩ : ∃ g, g = w0.heap.size := ⟨_, rfl⟩; rw [← hg] at hb2 h hz
 have hl2 : w0.heap.size ≤ g_2 := by have := hf.size; omega
 replace hf := hf.next hq
 clear hq hz hg
 refine st_assign h rfl rfl ?_; clear h a; intro a h
 refine st_assign h rfl rfl ?_; clear h a; intro a h
 replace h : Ag a 76 [(1, _), (2, _)] := h.sub (.cons rfl (.cons rfl .nil))
 refine wnt ?_
 refine wp_seq ?_
 refine wp_seq ?_
 refine wR ?_
 refine st_loadBA h rfl hb2 ag100 rfl ?_; clear h a; intro a h
 refine st_call h (evs_cons rfl evs_nil) co68 (check_ok s _) rfl ?_; clear h a; rintro _ w2 ⟨rfl, hq⟩ a h
 replace hf := hf.next hq
 replace hb2 := hb2.ext hq
 clear hq
 refine st_ne h rfl rfl rfl ?_; clear h a; intro a h
 replace h : Ag a 76 [(1, _), (2, _), (12, _)] := h.sub (.cons rfl (.cons rfl (.cons rfl .nil)))
 refine wnt ?_
 first | refine cond_dec h rfl (fun c0 => ?_) (fun c0 => ?_) | refine cond_ndec h rfl (fun c0 => ?_) (fun c0 => ?_) | refine cond_split h rfl (fun c0 => ?_) (fun c0 => ?_)
 ·have hc : checkS s ≠ 0 := c0
  refine wp_seq ?_
  refine wR ?_
  refine st_assign h rfl rfl ?_; clear h a; intro a h
  refine st_assign h rfl rfl ?_; clear h a; intro a h
  replace h : Ag a 76 [(4, _), (5, _)] := h.sub (.cons rfl (.cons rfl .nil))
  refine wnt ?_
  refine wp_ret (ret_then ?_)
  refine ret2 h Tryd.results84 rfl rfl ?_
  rw [loads_1 hc]; exact ⟨_, rfl, _, rfl, Own.nil _, hf⟩
 ·have hc : checkS s = 0 := Decidable.not_not.1 c0
  refine wsn ?_
  refine wp_seq ?_
  refine wp_seq ?_
  refine wR ?_
  refine st_move h rfl rfl ?_; clear h a; intro a h
  refine st_lenS h rfl Tryd.underlying30 rfl ?_; clear h a; intro a h
  refine st_loadBA h rfl hb2 ag100 rfl ?_; clear h a; intro a h
  refine st_call h (evs_cons rfl evs_nil) co67 (needs_ok s _) rfl ?_; clear h a; rintro _ w3 ⟨rfl, hq⟩ a h
  replace hf := hf.next hq
  replace hb2 := hb2.ext hq
  clear hq
  refine st_ne h rfl rfl rfl ?_; clear h a; intro a h
  replace h : Ag a 76 [(1, _), (2, _), (17, _)] := h.sub (.cons rfl (.cons rfl (.cons rfl .nil)))
  refine wnt ?_
  first | refine cond_dec h rfl (fun c1 => ?_) (fun c1 => ?_) | refine cond_ndec h rfl (fun c1 => ?_) (fun c1 => ?_) | refine cond_split h rfl (fun c1 => ?_) (fun c1 => ?_)
  ·refine id ?_
   refine wp_seq ?_
   refine wR ?_
   refine st_assign h rfl rfl ?_; clear h a; intro a h
   refine st_assign h rfl rfl ?_; clear h a; intro a h
   replace h : Ag a 76 [(4, _), (5, _)] := h.sub (.cons rfl (.cons rfl .nil))
   refine wnt ?_
   refine wp_ret (ret_then ?_)
   refine ret2 h Tryd.results84 rfl rfl ?_
   rw [loads_5 hc c1]; exact ⟨_, rfl, _, rfl, Own.nil _, hf⟩
  ·have hn : (l.length : Int) = needsS s := Decidable.not_not.1 c1
   refine wsn ?_
   refine wp_seq ?_
   refine wp_seq ?_
   refine wR ?_
   refine st_move h rfl rfl ?_; clear h a; intro a h
   refine st_lenS h rfl Tryd.underlying30 rfl ?_; clear h a; intro a h
   refine st_move h rfl rfl ?_; clear h a; intro a h
   replace h : Ag a 76 [(1, _), (2, _), (18, _), (19, _), (20, _)] := h.sub (.cons rfl (.cons rfl (.cons rfl (.cons rfl (.cons rfl .nil)))))
   refine wnt ?_
   refine wp_block ?_
   refine loop (ι := Nat) (fun k => [(1, .slice A l.length c), (2, .pointer (some ⟨g_2, 0, none⟩)), (18, .slice A l.length c), (19, .int .i64 (l.length : Int)), (20, .int .i64 (k : Int))]) (fun k w' => k ≤ l.length ∧ (l.take k).all few = true ∧ Blk w' g_2 100 [.int .u8 s.k, .int .u8 s.y, .int .i64 s.a, .int .i64 s.b, .bool s.f] ∧ Fr [] w0 w') (fun k => l.length - k) 0 (h.sub (.cons rfl (.cons rfl (.cons rfl (.cons rfl (.cons rfl .nil)))))) ⟨by omega, rfl, hb2, hf⟩ ?_
   clear h a hb2 hf
   rintro k w4 a h ⟨hkl, ha, hb2, hf⟩
   refine wp_seq ?_
   refine wR ?_
   refine st_lt h rfl rfl rfl ?_; clear h a; intro a h
   refine wnt ?_
   refine wp_seq ?_
   first | refine cond_dec h rfl (fun c2 => ?_) (fun c2 => ?_) | refine cond_ndec h rfl (fun c2 => ?_) (fun c2 => ?_) | refine cond_split h rfl (fun c2 => ?_) (fun c2 => ?_)
   ·obtain ⟨x, hxx⟩ : ∃ x, l[k]? = some x := ⟨_, List.getElem?_eq_getElem (by omega)⟩
    obtain ⟨ad, hAx, ca⟩ := hA _ x hxx
    refine wsn ?_
    refine wp_seq ?_
    refine wp_block ?_
    refine wp_seq ?_
    refine wR ?_
    refine st_idxS h (by rw [hAx]; rfl) rfl el30 (by omega) (by omega) rfl rfl ?_; clear h a; intro a h
    refine st_loadC0 h rfl (ca.fr hf (by simp)) na3 rfl ?_; clear h a; intro a h
    refine st_assign h rfl rfl ?_; clear h a; intro a h
    replace h : Ag a 76 [(1, _), (2, _), (7, _), (18, _), (19, _), (20, _)] := h.sub (.cons rfl (.cons rfl (.cons rfl (.cons rfl (.cons rfl (.cons rfl .nil))))))
    refine wnt ?_
    refine wp_seq ?_
    refine region_bool (r := 29) (L' := [(1, _), (2, _), (18, _), (19, _), (20, _)]) (¬ (1 ≤ x ∧ x ≤ 3)) h (.cons rfl (.cons rfl (.cons rfl (.cons rfl (.cons rfl .nil))))) ?_ ?_
    ·refine id ?_
     refine st_move h rfl rfl ?_; clear h a; intro a h
     refine st_lt h rfl rfl rfl ?_; clear h a; intro a h
     refine st_move h rfl rfl ?_; clear h a; intro a h
     first | refine guard_dec (D := 26) h rfl ?_ ?_ | refine guard_ndec (D := 26) h rfl ?_ ?_ | refine guard_any (D := 26) h rfl ?_ ?_
     ·clear h; intro g0 h
      refine gd_no h rfl rfl rfl rfl rfl rfl rfl rfl ?_; clear h a; intro a h
      refine gd_no h rfl rfl rfl rfl rfl rfl rfl rfl ?_; clear h a; intro a h
      refine st_pick_t h rfl rfl rfl rfl ?_; clear h a; intro a h
      exact wpList_nil (bool_end h rfl (by first | exact bt (by omega) | exact bf (by omega) | exact bi (by omega) | exact bn (by omega)) (.cons rfl (.cons rfl (.cons rfl (.cons rfl (.cons rfl .nil))))))
     ·clear h; intro g0 h
      refine gd_yes h rfl rfl rfl rfl rfl rfl ?_
      refine st_move h rfl rfl ?_; clear h a; intro a h
      refine gd_yes h rfl rfl rfl rfl rfl rfl ?_
      refine st_gt h rfl rfl rfl ?_; clear h a; intro a h
      refine st_pick_f h rfl rfl rfl rfl ?_; clear h a; intro a h
      exact wpList_nil (bool_end h rfl (by first | exact bt (by omega) | exact bf (by omega) | exact bi (by omega) | exact bn (by omega)) (.cons rfl (.cons rfl (.cons rfl (.cons rfl (.cons rfl .nil))))))
    ·clear h a; intro a h
     refine (norm_then ?_)
     first | refine cond_dec h rfl (fun c3 => ?_) (fun c3 => ?_) | refine cond_ndec h rfl (fun c3 => ?_) (fun c3 => ?_) | refine cond_split h rfl (fun c3 => ?_) (fun c3 => ?_)
     ·refine id ?_
      refine wp_seq ?_
      refine wR ?_
      refine st_assign h rfl rfl ?_; clear h a; intro a h
      refine st_assign h rfl rfl ?_; clear h a; intro a h
      replace h : Ag a 76 [(4, _), (5, _)] := h.sub (.cons rfl (.cons rfl .nil))
      refine wnt ?_
      refine wp_ret (ret_blk (ret_then (ret_then (ret_blk (ret_then ?_)))))
      refine ret2 h Tryd.results84 rfl rfl ?_
      rw [loads_b hc hn hxx c3]; exact ⟨_, rfl, _, rfl, Own.nil _, hf⟩
     ·refine id ?_
      refine wp_skip (norm_blk (norm_then ?_))
      refine wR ?_
      refine st_add h rfl rfl (by first | exact IntWalk.i64_in _ (by omega) | rfl) rfl ?_; clear h a; intro a h
      refine st_move h rfl rfl ?_; clear h a; intro a h
      replace h : Ag a 76 [(1, _), (2, _), (18, _), (19, _), (20, _)] := h.sub (.cons rfl (.cons rfl (.cons rfl (.cons rfl (.cons rfl .nil)))))
      refine wnt ?_
      exact ⟨k + 1, h.sub (.cons rfl (.cons rfl (.cons rfl (.cons rfl (.cons rfl .nil))))), ⟨by omega, all_few_next ha hxx (by omega), hb2, hf⟩, by omega⟩
   ·obtain rfl : k = l.length := by omega
    rw [List.take_length] at ha
    refine wp_exit (exit_then (exit_then (exit_here (norm_then ?_))))
    refine wp_seq ?_
    refine wR ?_
    refine st_loadBA h rfl hb2 ag100 rfl ?_; clear h a; intro a h
    refine st_call h (evs_cons rfl evs_nil) co50 (makes_ok s _) rfl ?_; clear h a; rintro _ w5 ⟨rfl, hq⟩ a h
    replace hf := hf.next hq
    replace hb2 := hb2.ext hq
    clear hq
    have hmn : ((makesS s).toNat : Int) = makesS s := by omega
    rw [← hmn] at h
    refine st_makeSlice (0 : Int) h rfl rfl el30 zv3 rfl (Nat.le_refl _) (by omega) (by unfold maxLen; omega) rfl ?_; clear h a; intro gM w6 hg hO hq hz a h
    have hgM : w0.heap.size ≤ gM := by have := hf.size; omega
    have hg2M : g_2 < gM := by have := hb2.lt; omega
    replace hf := hf.next hq
    replace hb2 := hb2.ext hq
    clear hq hz hg
    refine st_assign h rfl rfl ?_; clear h a; intro a h
    replace h : Ag a 76 [(1, _), (2, _), (8, _)] := h.sub (.cons rfl (.cons rfl (.cons rfl .nil)))
    refine wnt ?_
    refine wp_seq ?_
    refine wp_seq ?_
    refine wR ?_
    refine st_move h rfl rfl ?_; clear h a; intro a h
    refine st_lenS h rfl Tryd.underlying30 rfl ?_; clear h a; intro a h
    refine st_move h rfl rfl ?_; clear h a; intro a h
    replace h : Ag a 76 [(1, _), (2, _), (8, _), (35, _), (36, _)] := h.sub (.cons rfl (.cons rfl (.cons rfl (.cons rfl (.cons rfl .nil)))))
    refine wnt ?_
    refine wp_block ?_
    refine loop (ι := Nat) (fun j => [(1, .slice A l.length c), (2, .pointer (some ⟨g_2, 0, none⟩)), (8, .slice (some ⟨gM, 0, none⟩) (makesS s).toNat (makesS s).toNat), (35, .int .i64 ((makesS s).toNat : Int)), (36, .int .i64 (j : Int))]) (fun j w' => j ≤ (makesS s).toNat ∧ Lw.Own Enc.i64 3 gM w' (.slice (some ⟨gM, 0, none⟩) (makesS s).toNat (makesS s).toNat) (List.replicate j 1 ++ List.replicate ((makesS s).toNat - j) 0) ∧ Blk w' g_2 100 [.int .u8 s.k, .int .u8 s.y, .int .i64 s.a, .int .i64 s.b, .bool s.f] ∧ Fr [] w0 w') (fun j => (makesS s).toNat - j) 0 (h.sub (.cons rfl (.cons rfl (.cons rfl (.cons rfl (.cons rfl .nil)))))) ⟨by omega, by simpa using hO, hb2, hf⟩ ?_
    clear h a hb2 hf hO
    rintro j w7 a h ⟨hj, hO, hb2, hf⟩
    refine wp_seq ?_
    refine wR ?_
    refine st_lt h rfl rfl rfl ?_; clear h a; intro a h
    refine wnt ?_
    refine wp_seq ?_
    first | refine cond_dec h rfl (fun c4 => ?_) (fun c4 => ?_) | refine cond_ndec h rfl (fun c4 => ?_) (fun c4 => ?_) | refine cond_split h rfl (fun c4 => ?_) (fun c4 => ?_)
    ·refine id ?_
     refine wsn ?_
     refine wp_seq ?_
     refine wp_block ?_
     refine wp_seq ?_
     refine wR ?_
     refine st_move h rfl rfl ?_; clear h a; intro a h
     refine st_assign h rfl rfl ?_; clear h a; intro a h
     replace h : Ag a 76 [(1, _), (2, _), (8, _), (9, _), (35, _), (36, _)] := h.sub (.cons rfl (.cons rfl (.cons rfl (.cons rfl (.cons rfl (.cons rfl .nil))))))
     refine wnt ?_
     refine wR ?_
     refine st_move h rfl rfl ?_; clear h a; intro a h
     refine st_move h rfl rfl ?_; clear h a; intro a h
     refine st_idxS (p := j) h rfl rfl el30 (by omega) (by omega) (by omega) rfl ?_; clear h a; intro a h
     refine st_storeO (i := j) (1 : Int) h rfl rfl hO (by simp; omega) rfl sz3 ?_; clear h a; intro w8 hO2 hq hz a h
     replace hb2 := hb2.fr hq (by simp; omega)
     replace hf := hf.step hq (by simp; omega)
     clear hO hq hz; have hO := hO2; clear hO2
     rw [set_one j _ (by omega)] at hO
     replace h : Ag a 76 [(1, _), (2, _), (8, _), (35, _), (36, _)] := h.sub (.cons rfl (.cons rfl (.cons rfl (.cons rfl (.cons rfl .nil)))))
     refine wpList_nil (norm_blk (norm_then ?_))
     refine wR ?_
     refine st_add h rfl rfl (by first | exact IntWalk.i64_in _ (by omega) | rfl) rfl ?_; clear h a; intro a h
     refine st_move h rfl rfl ?_; clear h a; intro a h
     replace h : Ag a 76 [(1, _), (2, _), (8, _), (35, _), (36, _)] := h.sub (.cons rfl (.cons rfl (.cons rfl (.cons rfl (.cons rfl .nil)))))
     refine wnt ?_
     exact ⟨j + 1, h.sub (.cons rfl (.cons rfl (.cons rfl (.cons rfl (.cons rfl .nil))))), ⟨by omega, hO, hb2, hf⟩, by omega⟩
    ·obtain rfl : j = (makesS s).toNat := by omega
     rw [Nat.sub_self, List.replicate_zero, List.append_nil] at hO
     refine wp_exit (exit_then (exit_then (exit_here (norm_then ?_))))
     refine seq_cut (Cut (ι := Unit) 76 (fun u => [(8, .slice (some ⟨gM, 0, none⟩) (makesS s).toNat (makesS s).toNat)]) (fun u w' => Lw.Own Enc.i64 3 gM w' (.slice (some ⟨gM, 0, none⟩) (makesS s).toNat (makesS s).toNat) (loadsS s l).1 ∧ (loadsS s l).2 = 0 ∧ Fr [] w0 w')) ?_ ?_
     ·refine id ?_
      refine wp_seq ?_
      refine wR ?_
      refine st_fieldAddr h rfl fa100_0 rfl ?_; clear h a; intro a h
      refine st_loadB h rfl hb2 rfl na87 rfl ?_; clear h a; intro a h
      replace h : Ag a 76 [(1, _), (8, _), (44, _)] := h.sub (.cons rfl (.cons rfl (.cons rfl .nil)))
      refine wnt ?_
      refine wp_block ?_
      refine wp_seq ?_
      refine wp_seq ?_
      refine wR ?_
      refine st_eq h rfl rfl rfl ?_; clear h a; intro a h
      refine st_assign h rfl rfl ?_; clear h a; intro a h
      replace h : Ag a 76 [(1, _), (8, _), (44, _), (45, _)] := h.sub (.cons rfl (.cons rfl (.cons rfl (.cons rfl .nil))))
      refine wnt ?_
      first | refine cond_dec h rfl (fun c5 => ?_) (fun c5 => ?_) | refine cond_ndec h rfl (fun c5 => ?_) (fun c5 => ?_) | refine cond_split h rfl (fun c5 => ?_) (fun c5 => ?_)
      ·refine id ?_
       rw [decide_eq_true c5] at h
       refine wsn ?_
       refine cond_true h rfl ?_
       have h4 : s.k = 4 ∨ s.k = 5 := by omega
       have hn2 := needs_2 hc h4
       obtain ⟨x, hxx⟩ : ∃ x, l[0]? = some x := ⟨_, List.getElem?_eq_getElem (by omega)⟩
       obtain ⟨ad, hAx, ca⟩ := hA _ x hxx
       obtain ⟨y, hxy⟩ : ∃ x, l[1]? = some x := ⟨_, List.getElem?_eq_getElem (by omega)⟩
       obtain ⟨bd, hAy, cb⟩ := hA _ y hxy
       have hfx := (few_iff x).1 (List.all_eq_true.1 ha x (List.mem_of_getElem? hxx))
       have hfy := (few_iff y).1 (List.all_eq_true.1 ha y (List.mem_of_getElem? hxy))
       refine wp_seq ?_
       refine region_quiet hmix (by kernel_rfl) ?_
       refine qt_move h rfl rfl ?_; clear h a; intro a h
       refine qt_idxS (p := 0) h (by rw [hAx]; rfl) rfl el30 (by omega) (by omega) (by omega) rfl ?_; clear h a; intro a h
       refine qt_loadC0 h rfl (fun _ hw => (ca.fr hf (by simp)).fr hw (by simp)) na3 rfl ?_; clear h a; intro a h
       refine qt_move h rfl rfl ?_; clear h a; intro a h
       refine qt_idxS (p := 1) h (by rw [hAy]; rfl) rfl el30 (by omega) (by omega) (by omega) rfl ?_; clear h a; intro a h
       refine qt_loadC0 h rfl (fun _ hw => (cb.fr hf (by simp)).fr hw (by simp)) na3 rfl ?_; clear h a; intro a h
       refine qt_add h rfl rfl (by first | exact IntWalk.i64_in _ (by omega) | rfl) rfl ?_; clear h a; intro a h
       refine qt_gt h rfl rfl rfl ?_; clear h a; intro a h
       refine wpQuiet_nil ?_
       intro w9 hq
       replace hf := hf.next hq
       replace hb2 := hb2.ext hq
       replace hO := hO.ext hq
       clear hq
       replace h : Ag a 76 [(8, _), (55, _)] := h.sub (.cons rfl (.cons rfl .nil))
       refine (norm_then ?_)
       first | refine cond_dec h rfl (fun c7 => ?_) (fun c7 => ?_) | refine cond_ndec h rfl (fun c7 => ?_) (fun c7 => ?_) | refine cond_split h rfl (fun c7 => ?_) (fun c7 => ?_)
       ·refine id ?_
        refine wp_seq ?_
        refine wR ?_
        refine st_assign h rfl rfl ?_; clear h a; intro a h
        refine st_assign h rfl rfl ?_; clear h a; intro a h
        replace h : Ag a 76 [(4, _), (5, _)] := h.sub (.cons rfl (.cons rfl .nil))
        refine wnt ?_
        refine wp_ret (ret_blk (ret_then ?_))
        refine ret2 h Tryd.results84 rfl rfl ?_
        rw [loads_2f hc hn ha h4 hxx hxy c7]; exact ⟨_, rfl, _, rfl, Own.nil _, hf⟩
       ·refine id ?_
        refine wp_skip (norm_blk (norm_then ?_))
        first | (have e := loads_2 hc hn ha h4 hxx hxy c7; exact ⟨(), h.sub (.cons rfl .nil), by rw [e, show (makesS s).toNat = 1 by rw [makes_1 hc (by omega)]; rfl] at *; exact hO, by rw [e], hf⟩) | (have e := loads_6 hc hn ha c8 hxx c9; exact ⟨(), h.sub (.cons rfl .nil), by rw [e]; rw [hm1] at hO ⊢; exact hO, by rw [e], hf⟩) | (have e := loads_7 hc hn ha c10 hxx; exact ⟨(), h.sub (.cons rfl .nil), by rw [e]; rw [hm1] at hO ⊢; exact hO, by rw [e], hf⟩) | (have e := loads_o hc hn ha h4 c8 c10; exact ⟨(), h.sub (.cons rfl .nil), by rw [e]; exact hO, by rw [e], hf⟩)
      ·refine id ?_
       rw [decide_eq_false c5] at h
       refine wR ?_
       refine st_eq h rfl rfl rfl ?_; clear h a; intro a h
       refine st_assign h rfl rfl ?_; clear h a; intro a h
       replace h : Ag a 76 [(1, _), (8, _), (44, _), (45, _)] := h.sub (.cons rfl (.cons rfl (.cons rfl (.cons rfl .nil))))
       refine wnt ?_
       first | refine cond_dec h rfl (fun c6 => ?_) (fun c6 => ?_) | refine cond_ndec h rfl (fun c6 => ?_) (fun c6 => ?_) | refine cond_split h rfl (fun c6 => ?_) (fun c6 => ?_)
       ·have h4 : s.k = 4 ∨ s.k = 5 := by omega
        have hn2 := needs_2 hc h4
        obtain ⟨x, hxx⟩ : ∃ x, l[0]? = some x := ⟨_, List.getElem?_eq_getElem (by omega)⟩
        obtain ⟨ad, hAx, ca⟩ := hA _ x hxx
        obtain ⟨y, hxy⟩ : ∃ x, l[1]? = some x := ⟨_, List.getElem?_eq_getElem (by omega)⟩
        obtain ⟨bd, hAy, cb⟩ := hA _ y hxy
        have hfx := (few_iff x).1 (List.all_eq_true.1 ha x (List.mem_of_getElem? hxx))
        have hfy := (few_iff y).1 (List.all_eq_true.1 ha y (List.mem_of_getElem? hxy))
        refine wp_seq ?_
        refine region_quiet hmix (by kernel_rfl) ?_
        refine qt_move h rfl rfl ?_; clear h a; intro a h
        refine qt_idxS (p := 0) h (by rw [hAx]; rfl) rfl el30 (by omega) (by omega) (by omega) rfl ?_; clear h a; intro a h
        refine qt_loadC0 h rfl (fun _ hw => (ca.fr hf (by simp)).fr hw (by simp)) na3 rfl ?_; clear h a; intro a h
        refine qt_move h rfl rfl ?_; clear h a; intro a h
        refine qt_idxS (p := 1) h (by rw [hAy]; rfl) rfl el30 (by omega) (by omega) (by omega) rfl ?_; clear h a; intro a h
        refine qt_loadC0 h rfl (fun _ hw => (cb.fr hf (by simp)).fr hw (by simp)) na3 rfl ?_; clear h a; intro a h
        refine qt_add h rfl rfl (by first | exact IntWalk.i64_in _ (by omega) | rfl) rfl ?_; clear h a; intro a h
        refine qt_gt h rfl rfl rfl ?_; clear h a; intro a h
        refine wpQuiet_nil ?_
        intro w10 hq
        replace hf := hf.next hq
        replace hb2 := hb2.ext hq
        replace hO := hO.ext hq
        clear hq
        replace h : Ag a 76 [(8, _), (55, _)] := h.sub (.cons rfl (.cons rfl .nil))
        refine (norm_then ?_)
        first | refine cond_dec h rfl (fun c7 => ?_) (fun c7 => ?_) | refine cond_ndec h rfl (fun c7 => ?_) (fun c7 => ?_) | refine cond_split h rfl (fun c7 => ?_) (fun c7 => ?_)
        ·refine id ?_
         refine wp_seq ?_
         refine wR ?_
         refine st_assign h rfl rfl ?_; clear h a; intro a h
         refine st_assign h rfl rfl ?_; clear h a; intro a h
         replace h : Ag a 76 [(4, _), (5, _)] := h.sub (.cons rfl (.cons rfl .nil))
         refine wnt ?_
         refine wp_ret (ret_blk (ret_then ?_))
         refine ret2 h Tryd.results84 rfl rfl ?_
         rw [loads_2f hc hn ha h4 hxx hxy c7]; exact ⟨_, rfl, _, rfl, Own.nil _, hf⟩
        ·refine id ?_
         refine wp_skip (norm_blk (norm_then ?_))
         first | (have e := loads_2 hc hn ha h4 hxx hxy c7; exact ⟨(), h.sub (.cons rfl .nil), by rw [e, show (makesS s).toNat = 1 by rw [makes_1 hc (by omega)]; rfl] at *; exact hO, by rw [e], hf⟩) | (have e := loads_6 hc hn ha c8 hxx c9; exact ⟨(), h.sub (.cons rfl .nil), by rw [e]; rw [hm1] at hO ⊢; exact hO, by rw [e], hf⟩) | (have e := loads_7 hc hn ha c10 hxx; exact ⟨(), h.sub (.cons rfl .nil), by rw [e]; rw [hm1] at hO ⊢; exact hO, by rw [e], hf⟩) | (have e := loads_o hc hn ha h4 c8 c10; exact ⟨(), h.sub (.cons rfl .nil), by rw [e]; exact hO, by rw [e], hf⟩)
       ·have h4 : ¬ (s.k = 4 ∨ s.k = 5) := by omega
        refine wp_seq ?_
        refine wR ?_
        refine st_eq h rfl rfl rfl ?_; clear h a; intro a h
        refine st_assign h rfl rfl ?_; clear h a; intro a h
        replace h : Ag a 76 [(1, _), (8, _), (44, _), (56, _)] := h.sub (.cons rfl (.cons rfl (.cons rfl (.cons rfl .nil))))
        refine wnt ?_
        first | refine cond_dec h rfl (fun c8 => ?_) (fun c8 => ?_) | refine cond_ndec h rfl (fun c8 => ?_) (fun c8 => ?_) | refine cond_split h rfl (fun c8 => ?_) (fun c8 => ?_)
        ·have hn1 := needs_1 hc (by omega) (by omega) h4
         have hm1 := makes_1 hc (show s.k ≠ 8 by omega)
         obtain ⟨x, hxx⟩ : ∃ x, l[0]? = some x := ⟨_, List.getElem?_eq_getElem (by omega)⟩
         obtain ⟨ad, hAx, ca⟩ := hA _ x hxx
         have hfx := (few_iff x).1 (List.all_eq_true.1 ha x (List.mem_of_getElem? hxx))
         refine wp_seq ?_
         refine wp_seq ?_
         refine wR ?_
         refine st_move h rfl rfl ?_; clear h a; intro a h
         refine st_idxS (p := 0) h (by rw [hAx]; rfl) rfl el30 (by omega) (by omega) (by omega) rfl ?_; clear h a; intro a h
         refine st_loadC0 h rfl (ca.fr hf (by simp)) na3 rfl ?_; clear h a; intro a h
         refine st_eq h rfl rfl rfl ?_; clear h a; intro a h
         replace h : Ag a 76 [(1, _), (8, _), (61, _)] := h.sub (.cons rfl (.cons rfl (.cons rfl .nil)))
         refine wnt ?_
         first | refine cond_dec h rfl (fun c9 => ?_) (fun c9 => ?_) | refine cond_ndec h rfl (fun c9 => ?_) (fun c9 => ?_) | refine cond_split h rfl (fun c9 => ?_) (fun c9 => ?_)
         ·refine id ?_
          refine wp_seq ?_
          refine wR ?_
          refine st_assign h rfl rfl ?_; clear h a; intro a h
          refine st_assign h rfl rfl ?_; clear h a; intro a h
          replace h : Ag a 76 [(4, _), (5, _)] := h.sub (.cons rfl (.cons rfl .nil))
          refine wnt ?_
          refine wp_ret (ret_then (ret_blk (ret_then ?_)))
          refine ret2 h Tryd.results84 rfl rfl ?_
          rw [loads_6f hc hn ha c8 hxx c9]; exact ⟨_, rfl, _, rfl, Own.nil _, hf⟩
         ·refine id ?_
          refine wsn ?_
          refine wR ?_
          refine st_move h rfl rfl ?_; clear h a; intro a h
          refine st_move h rfl rfl ?_; clear h a; intro a h
          refine st_idxS (p := 0) h (by rw [hAx]; rfl) rfl el30 (by omega) (by omega) (by omega) rfl ?_; clear h a; intro a h
          refine st_loadC0 h rfl (ca.fr hf (by simp)) na3 rfl ?_; clear h a; intro a h
          refine st_add h rfl rfl (by first | exact IntWalk.i64_in _ (by omega) | rfl) rfl ?_; clear h a; intro a h
          refine st_idxS (p := 0) h rfl rfl el30 (by omega) (by omega) (by omega) rfl ?_; clear h a; intro a h
          refine st_storeO (i := 0) (x + 1) h rfl rfl hO (by simp; omega) rfl sz3 ?_; clear h a; intro w11 hO2 hq hz a h
          replace hb2 := hb2.fr hq (by simp; omega)
          replace hf := hf.step hq (by simp; omega)
          clear hO hq hz; have hO := hO2; clear hO2
          
          replace h : Ag a 76 [(8, _)] := h.sub (.cons rfl .nil)
          refine wpList_nil (norm_blk (norm_then ?_))
          first | (have e := loads_2 hc hn ha h4 hxx hxy c7; exact ⟨(), h.sub (.cons rfl .nil), by rw [e, show (makesS s).toNat = 1 by rw [makes_1 hc (by omega)]; rfl] at *; exact hO, by rw [e], hf⟩) | (have e := loads_6 hc hn ha c8 hxx c9; exact ⟨(), h.sub (.cons rfl .nil), by rw [e]; rw [hm1] at hO ⊢; exact hO, by rw [e], hf⟩) | (have e := loads_7 hc hn ha c10 hxx; exact ⟨(), h.sub (.cons rfl .nil), by rw [e]; rw [hm1] at hO ⊢; exact hO, by rw [e], hf⟩) | (have e := loads_o hc hn ha h4 c8 c10; exact ⟨(), h.sub (.cons rfl .nil), by rw [e]; exact hO, by rw [e], hf⟩)
        ·refine id ?_
         refine wp_seq ?_
         refine wR ?_
         refine st_eq h rfl rfl rfl ?_; clear h a; intro a h
         refine st_assign h rfl rfl ?_; clear h a; intro a h
         replace h : Ag a 76 [(1, _), (8, _), (68, _)] := h.sub (.cons rfl (.cons rfl (.cons rfl .nil)))
         refine wnt ?_
         first | refine cond_dec h rfl (fun c10 => ?_) (fun c10 => ?_) | refine cond_ndec h rfl (fun c10 => ?_) (fun c10 => ?_) | refine cond_split h rfl (fun c10 => ?_) (fun c10 => ?_)
         ·have hn1 := needs_1 hc (by omega) (by omega) h4
          have hm1 := makes_1 hc (show s.k ≠ 8 by omega)
          obtain ⟨x, hxx⟩ : ∃ x, l[0]? = some x := ⟨_, List.getElem?_eq_getElem (by omega)⟩
          obtain ⟨ad, hAx, ca⟩ := hA _ x hxx
          refine wR ?_
          refine st_move h rfl rfl ?_; clear h a; intro a h
          refine st_move h rfl rfl ?_; clear h a; intro a h
          refine st_idxS (p := 0) h (by rw [hAx]; rfl) rfl el30 (by omega) (by omega) (by omega) rfl ?_; clear h a; intro a h
          refine st_loadC0 h rfl (ca.fr hf (by simp)) na3 rfl ?_; clear h a; intro a h
          refine st_idxS (p := 0) h rfl rfl el30 (by omega) (by omega) (by omega) rfl ?_; clear h a; intro a h
          refine st_storeO (i := 0) x h rfl rfl hO (by simp; omega) rfl sz3 ?_; clear h a; intro w12 hO2 hq hz a h
          replace hb2 := hb2.fr hq (by simp; omega)
          replace hf := hf.step hq (by simp; omega)
          clear hO hq hz; have hO := hO2; clear hO2
          
          replace h : Ag a 76 [(8, _)] := h.sub (.cons rfl .nil)
          refine wpList_nil (norm_blk (norm_then ?_))
          first | (have e := loads_2 hc hn ha h4 hxx hxy c7; exact ⟨(), h.sub (.cons rfl .nil), by rw [e, show (makesS s).toNat = 1 by rw [makes_1 hc (by omega)]; rfl] at *; exact hO, by rw [e], hf⟩) | (have e := loads_6 hc hn ha c8 hxx c9; exact ⟨(), h.sub (.cons rfl .nil), by rw [e]; rw [hm1] at hO ⊢; exact hO, by rw [e], hf⟩) | (have e := loads_7 hc hn ha c10 hxx; exact ⟨(), h.sub (.cons rfl .nil), by rw [e]; rw [hm1] at hO ⊢; exact hO, by rw [e], hf⟩) | (have e := loads_o hc hn ha h4 c8 c10; exact ⟨(), h.sub (.cons rfl .nil), by rw [e]; exact hO, by rw [e], hf⟩)
         ·refine id ?_
          refine wp_skip (norm_blk (norm_then ?_))
          first | (have e := loads_2 hc hn ha h4 hxx hxy c7; exact ⟨(), h.sub (.cons rfl .nil), by rw [e, show (makesS s).toNat = 1 by rw [makes_1 hc (by omega)]; rfl] at *; exact hO, by rw [e], hf⟩) | (have e := loads_6 hc hn ha c8 hxx c9; exact ⟨(), h.sub (.cons rfl .nil), by rw [e]; rw [hm1] at hO ⊢; exact hO, by rw [e], hf⟩) | (have e := loads_7 hc hn ha c10 hxx; exact ⟨(), h.sub (.cons rfl .nil), by rw [e]; rw [hm1] at hO ⊢; exact hO, by rw [e], hf⟩) | (have e := loads_o hc hn ha h4 c8 c10; exact ⟨(), h.sub (.cons rfl .nil), by rw [e]; exact hO, by rw [e], hf⟩)
     ·clear h a hb2 hf hO
      rintro a w13 ⟨u, h, ⟨hO, h0, hf⟩⟩
      refine wp_seq ?_
      refine wR ?_
      refine st_move h rfl rfl ?_; clear h a; intro a h
      refine st_assign h rfl rfl ?_; clear h a; intro a h
      refine st_assign h rfl rfl ?_; clear h a; intro a h
      replace h : Ag a 76 [(4, _), (5, _)] := h.sub (.cons rfl (.cons rfl .nil))
      refine wnt ?_
      refine wp_ret ?_
      refine ret2 h Tryd.results84 rfl rfl ?_
      exact ⟨_, rfl, _, by rw [h0], hO.low hgM, hf⟩
end Go.Proofs.YthehggmdcmpjeaaDoor
namespace Go.Proofs.YthehggmdcmpjeaaDoor
open Go.Lw Go.G14
theorem co48 : CallOf Tryd.prog 48 := CallOf.mk' Tryd.func48 (by kernel_rfl) (by kernel_rfl)
theorem co49 : CallOf Tryd.prog 49 := CallOf.mk' Tryd.func49 (by kernel_rfl) (by kernel_rfl)
theorem co66 : CallOf Tryd.prog 66 := CallOf.mk' Tryd.func66 (by kernel_rfl) (by kernel_rfl)
theorem co70 : CallOf Tryd.prog 70 := CallOf.mk' Tryd.func70 (by kernel_rfl) (by kernel_rfl)
theorem co71 : CallOf Tryd.prog 71 := CallOf.mk' Tryd.func71 (by kernel_rfl) (by kernel_rfl)
theorem total_ok (fid : Nat) (g : Stitch → Int) (hg : ∀ s, 0 ≤ g s ∧ g s ≤ 4) (hgc : ∀ s w, Rets Tryd.prog fid #[stV s] w fun v w' => v = .int .i64 (g s) ∧ Fr [] w w') (hco : CallOf Tryd.prog fid) (u : Value) (xs : List Stitch) (w0 : World) (hu : Sl encSt w0 u xs) (h16 : xs.length ≤ 16) : Rets Tryd.prog 66 #[u, .func (.func fid) #[] #[]] w0 fun v w' => v = .int .i64 (xs.map g).sum ∧ Fr [] w0 w' := by
 obtain ⟨A, c, rfl, hcp⟩ := hu.form
 obtain ⟨-, -, hM, hA⟩ := Sl.open_ hu
 unfold maxLen at hM
 refine enter [(0, .slice A xs.length c), (1, .func (.func fid) #[] #[])] Tryd.func66 rfl Tryd.ntmps66 rfl (.cons rfl (.cons rfl .nil)) ?_
 have hf := Fr.refl [] w0
 intro a h
 refine wp_seq ?_
 refine wR ?_
 refine st_assign h rfl rfl ?_; clear h a; intro a h
 replace h : Ag a 21 [(0, _), (1, _)] := h.sub (.cons rfl (.cons rfl .nil))
 refine wnt ?_
 refine wp_seq ?_
 refine wR ?_
 refine st_assign h rfl rfl ?_; clear h a; intro a h
 refine wnt ?_
 refine wp_seq ?_
 refine wp_seq ?_
 refine wR ?_
 refine st_move h rfl rfl ?_; clear h a; intro a h
 refine st_lenS h rfl Tryd.underlying61 rfl ?_; clear h a; intro a h
 refine st_move h rfl rfl ?_; clear h a; intro a h
 replace h : Ag a 21 [(1, _), (5, _), (8, _), (9, _), (10, _)] := h.sub (.cons rfl (.cons rfl (.cons rfl (.cons rfl (.cons rfl .nil)))))
 refine wnt ?_
 refine wp_block ?_
 refine loop (ι := Nat) (fun k => [(1, .func (.func fid) #[] #[]), (5, .int .i64 ((xs.take k).map g).sum), (8, .slice A xs.length c), (9, .int .i64 (xs.length : Int)), (10, .int .i64 (k : Int))]) (fun k w' => k ≤ xs.length ∧ Fr [] w0 w') (fun k => xs.length - k) 0 (h.sub (.cons rfl (.cons rfl (.cons rfl (.cons rfl (.cons rfl .nil)))))) ⟨by omega, hf⟩ ?_
 clear h a hf
 rintro k w1 a h ⟨hk, hf⟩
 have hsr := sum_rng hg (xs.take k)
 rw [List.length_take] at hsr
 refine wp_seq ?_
 refine wR ?_
 refine st_lt h rfl rfl rfl ?_; clear h a; intro a h
 refine wnt ?_
 refine wp_seq ?_
 first | refine cond_dec h rfl (fun c0 => ?_) (fun c0 => ?_) | refine cond_ndec h rfl (fun c0 => ?_) (fun c0 => ?_) | refine cond_split h rfl (fun c0 => ?_) (fun c0 => ?_)
 ·obtain ⟨x, hxk⟩ : ∃ x, xs[k]? = some x := ⟨_, List.getElem?_eq_getElem (by omega)⟩
  obtain ⟨ad, hAd, ca⟩ := hA k x hxk
  have hgx := hg x
  refine wsn ?_
  refine wp_seq ?_
  refine wp_block ?_
  refine wp_seq ?_
  refine wR ?_
  refine st_idxS h (by rw [hAd]; rfl) rfl el61 (by omega) (by omega) rfl rfl ?_; clear h a; intro a h
  refine st_loadA h rfl (ca.fr hf (by simp)) ag100 rfl ?_; clear h a; intro a h
  refine st_alloc h zv100 rfl rfl ?_; clear h a; intro w2 hb7 hq hz a h
  obtain ⟨g_7, hg⟩ : ∃ g, g = w1.heap.size := ⟨_, rfl⟩; rw [← hg] at hb7 h hz
  have hl7 : w0.heap.size ≤ g_7 := by have := hf.size; omega
  replace hf := hf.next hq
  clear hq hz hg
  refine st_storeBA h rfl rfl hb7 rfl (by first | (simp [Value.oneCell', S]; done) | exact Enc.one _ _) sz100 ?_; clear h a; intro w3 hbn hq hz a h
  replace hf := hf.step hq (by first | (simp; done) | (simp; omega))
  clear hb7 hq hz; have hb7 : Blk w3 g_7 _ [_, _, _, _, _] := hbn; clear hbn
  replace h : Ag a 21 [(1, _), (5, _), (7, _), (8, _), (9, _), (10, _)] := h.sub (.cons rfl (.cons rfl (.cons rfl (.cons rfl (.cons rfl (.cons rfl .nil))))))
  refine wnt ?_
  refine wR ?_
  refine st_move h rfl rfl ?_; clear h a; intro a h
  refine st_move h rfl rfl ?_; clear h a; intro a h
  refine st_loadBA h rfl hb7 ag100 rfl ?_; clear h a; intro a h
  refine st_callv (us := []) (ws := []) h rfl (evs_cons rfl evs_nil) hco (hgc x _) rfl (by intro g; simp) ?_; clear h a; rintro _ w4 ⟨rfl, hq⟩ a h
  replace hf := hf.next hq
  replace hb7 := hb7.ext hq
  clear hq
  refine st_add h rfl rfl (by first | exact IntWalk.i64_in _ (by omega) | rfl) rfl ?_; clear h a; intro a h
  refine st_assign h rfl rfl ?_; clear h a; intro a h
  replace h : Ag a 21 [(1, _), (5, _), (8, _), (9, _), (10, _)] := h.sub (.cons rfl (.cons rfl (.cons rfl (.cons rfl (.cons rfl .nil)))))
  refine wpList_nil (norm_blk (norm_then ?_))
  refine wR ?_
  refine st_add h rfl rfl (by first | exact IntWalk.i64_in _ (by omega) | rfl) rfl ?_; clear h a; intro a h
  refine st_move h rfl rfl ?_; clear h a; intro a h
  replace h : Ag a 21 [(1, _), (5, _), (8, _), (9, _), (10, _)] := h.sub (.cons rfl (.cons rfl (.cons rfl (.cons rfl (.cons rfl .nil)))))
  refine wnt ?_
  exact ⟨k + 1, h.sub (.cons rfl (.cons (by rw [sum_next hxk]; rfl) (.cons rfl (.cons rfl (.cons rfl .nil))))), ⟨by omega, hf⟩, by omega⟩
 ·obtain rfl : k = xs.length := by omega
  rw [List.take_length] at h
  refine wp_exit (exit_then (exit_then (exit_here (norm_then ?_))))
  refine wp_seq ?_
  refine wR ?_
  refine st_move h rfl rfl ?_; clear h a; intro a h
  refine st_assign h rfl rfl ?_; clear h a; intro a h
  replace h : Ag a 21 [(4, _)] := h.sub (.cons rfl .nil)
  refine wnt ?_
  refine wp_ret ?_
  refine ret1 h Tryd.results66 rfl ?_
  exact ⟨_, rfl, rfl, hf⟩
theorem cneeds_ok (u : Value) (xs : List Stitch) (w0 : World) (hu : Sl encSt w0 u xs) (h16 : xs.length ≤ 16) : Rets Tryd.prog 48 #[u] w0 fun v w' => v = .int .i64 (needsR xs) ∧ Fr [] w0 w' := by
 obtain ⟨A, c, rfl, hcp⟩ := hu.form
 refine enter [(0, .slice A xs.length c)] Tryd.func48 rfl Tryd.ntmps48 rfl (.cons rfl .nil) ?_
 have hf := Fr.refl [] w0
 intro a h
 refine wp_seq ?_
 refine wR ?_
 refine st_assign h rfl rfl ?_; clear h a; intro a h
 replace h : Ag a 5 [(0, _)] := h.sub (.cons rfl .nil)
 refine wnt ?_
 refine wp_seq ?_
 refine wR ?_
 refine st_move h rfl rfl ?_; clear h a; intro a h
 refine st_call h (evs_cons rfl (evs_cons rfl evs_nil)) co66 (total_ok 67 needsS needs_rng (fun s w => needs_ok s w) co67 _ xs _ hu h16) rfl ?_; clear h a; rintro _ w1 ⟨rfl, hq⟩ a h
 replace hf := hf.next hq
 clear hq
 refine st_assign h rfl rfl ?_; clear h a; intro a h
 replace h : Ag a 5 [(2, _)] := h.sub (.cons rfl .nil)
 refine wnt ?_
 refine wp_ret ?_
 refine ret1 h Tryd.results48 rfl ?_
 exact ⟨_, rfl, rfl, hf⟩
theorem cmakes_ok (u : Value) (xs : List Stitch) (w0 : World) (hu : Sl encSt w0 u xs) (h16 : xs.length ≤ 16) : Rets Tryd.prog 49 #[u] w0 fun v w' => v = .int .i64 (makesR xs) ∧ Fr [] w0 w' := by
 obtain ⟨A, c, rfl, hcp⟩ := hu.form
 refine enter [(0, .slice A xs.length c)] Tryd.func49 rfl Tryd.ntmps49 rfl (.cons rfl .nil) ?_
 have hf := Fr.refl [] w0
 intro a h
 refine wp_seq ?_
 refine wR ?_
 refine st_assign h rfl rfl ?_; clear h a; intro a h
 replace h : Ag a 5 [(0, _)] := h.sub (.cons rfl .nil)
 refine wnt ?_
 refine wp_seq ?_
 refine wR ?_
 refine st_move h rfl rfl ?_; clear h a; intro a h
 refine st_call h (evs_cons rfl (evs_cons rfl evs_nil)) co66 (total_ok 50 makesS makes_rng (fun s w => makes_ok s w) co50 _ xs _ hu h16) rfl ?_; clear h a; rintro _ w1 ⟨rfl, hq⟩ a h
 replace hf := hf.next hq
 clear hq
 refine st_assign h rfl rfl ?_; clear h a; intro a h
 replace h : Ag a 5 [(2, _)] := h.sub (.cons rfl .nil)
 refine wnt ?_
 refine wp_ret ?_
 refine ret1 h Tryd.results49 rfl ?_
 exact ⟨_, rfl, rfl, hf⟩
theorem checkrow_ok (u : Value) (xs : List Stitch) (w0 : World) (hu : Sl encSt w0 u xs) : Rets Tryd.prog 95 #[u] w0 fun v w' => v = .int .i64 (rowE xs) ∧ Fr [] w0 w' := by
 obtain ⟨A, c, rfl, hcp⟩ := hu.form
 obtain ⟨-, -, hM, hA⟩ := Sl.open_ hu
 unfold maxLen at hM
 refine enter [(0, .slice A xs.length c)] Tryd.func95 rfl Tryd.ntmps95 rfl (.cons rfl .nil) ?_
 have hf := Fr.refl [] w0
 intro a h
 refine wp_seq ?_
 refine wR ?_
 refine st_assign h rfl rfl ?_; clear h a; intro a h
 replace h : Ag a 41 [(0, _)] := h.sub (.cons rfl .nil)
 refine wnt ?_
 refine wp_seq ?_
 refine wp_seq ?_
 refine wR ?_
 refine st_move h rfl rfl ?_; clear h a; intro a h
 refine st_lenS h rfl Tryd.underlying61 rfl ?_; clear h a; intro a h
 refine st_gt h rfl rfl rfl ?_; clear h a; intro a h
 replace h : Ag a 41 [(0, _), (9, _)] := h.sub (.cons rfl (.cons rfl .nil))
 refine wnt ?_
 first | refine cond_dec h rfl (fun c0 => ?_) (fun c0 => ?_) | refine cond_ndec h rfl (fun c0 => ?_) (fun c0 => ?_) | refine cond_split h rfl (fun c0 => ?_) (fun c0 => ?_)
 ·refine id ?_
  refine wp_seq ?_
  refine wR ?_
  refine st_assign h rfl rfl ?_; clear h a; intro a h
  replace h : Ag a 41 [(2, _)] := h.sub (.cons rfl .nil)
  refine wnt ?_
  refine wp_ret (ret_then ?_)
  refine ret1 h Tryd.results95 rfl ?_
  exact ⟨_, rfl, by rw [row3 (by omega)], hf⟩
 ·refine id ?_
  refine wsn ?_
  refine wp_seq ?_
  refine wp_seq ?_
  refine wR ?_
  refine st_move h rfl rfl ?_; clear h a; intro a h
  refine st_lenS h rfl Tryd.underlying61 rfl ?_; clear h a; intro a h
  refine st_eq h rfl rfl rfl ?_; clear h a; intro a h
  replace h : Ag a 41 [(0, _), (12, _)] := h.sub (.cons rfl (.cons rfl .nil))
  refine wnt ?_
  first | refine cond_dec h rfl (fun c1 => ?_) (fun c1 => ?_) | refine cond_ndec h rfl (fun c1 => ?_) (fun c1 => ?_) | refine cond_split h rfl (fun c1 => ?_) (fun c1 => ?_)
  ·refine id ?_
   refine wp_seq ?_
   refine wR ?_
   refine st_assign h rfl rfl ?_; clear h a; intro a h
   replace h : Ag a 41 [(2, _)] := h.sub (.cons rfl .nil)
   refine wnt ?_
   refine wp_ret (ret_then ?_)
   refine ret1 h Tryd.results95 rfl ?_
   exact ⟨_, rfl, by rw [row1 (by omega) (by omega)], hf⟩
  ·refine id ?_
   refine wsn ?_
   refine wp_seq ?_
   refine wp_seq ?_
   refine wR ?_
   refine st_move h rfl rfl ?_; clear h a; intro a h
   refine st_lenS h rfl Tryd.underlying61 rfl ?_; clear h a; intro a h
   refine st_move h rfl rfl ?_; clear h a; intro a h
   replace h : Ag a 41 [(0, _), (13, _), (14, _), (15, _)] := h.sub (.cons rfl (.cons rfl (.cons rfl (.cons rfl .nil))))
   refine wnt ?_
   refine wp_block ?_
   refine loop (ι := Nat) (fun k => [(0, .slice A xs.length c), (13, .slice A xs.length c), (14, .int .i64 (xs.length : Int)), (15, .int .i64 (k : Int))]) (fun k w' => k ≤ xs.length ∧ (xs.take k).all okB = true ∧ Fr [] w0 w') (fun k => xs.length - k) 0 (h.sub (.cons rfl (.cons rfl (.cons rfl (.cons rfl .nil))))) ⟨by omega, rfl, hf⟩ ?_
   clear h a hf
   rintro k w1 a h ⟨hk, ha, hf⟩
   refine wp_seq ?_
   refine wR ?_
   refine st_lt h rfl rfl rfl ?_; clear h a; intro a h
   refine wnt ?_
   refine wp_seq ?_
   first | refine cond_dec h rfl (fun c2 => ?_) (fun c2 => ?_) | refine cond_ndec h rfl (fun c2 => ?_) (fun c2 => ?_) | refine cond_split h rfl (fun c2 => ?_) (fun c2 => ?_)
   ·obtain ⟨x, hxk⟩ : ∃ x, xs[k]? = some x := ⟨_, List.getElem?_eq_getElem (by omega)⟩
    obtain ⟨ad, hAd, ca⟩ := hA k x hxk
    refine wsn ?_
    refine wp_seq ?_
    refine wp_block ?_
    refine wp_seq ?_
    refine wR ?_
    refine st_idxS h (by rw [hAd]; rfl) rfl el61 (by omega) (by omega) rfl rfl ?_; clear h a; intro a h
    refine st_loadA h rfl (ca.fr hf (by simp)) ag100 rfl ?_; clear h a; intro a h
    refine st_alloc h zv100 rfl rfl ?_; clear h a; intro w2 hb4 hq hz a h
    obtain ⟨g_4, hg⟩ : ∃ g, g = w1.heap.size := ⟨_, rfl⟩; rw [← hg] at hb4 h hz
    have hl4 : w0.heap.size ≤ g_4 := by have := hf.size; omega
    replace hf := hf.next hq
    clear hq hz hg
    refine st_storeBA h rfl rfl hb4 rfl (by first | (simp [Value.oneCell', S]; done) | exact Enc.one _ _) sz100 ?_; clear h a; intro w3 hbn hq hz a h
    replace hf := hf.step hq (by first | (simp; done) | (simp; omega))
    clear hb4 hq hz; have hb4 : Blk w3 g_4 _ [_, _, _, _, _] := hbn; clear hbn
    replace h : Ag a 41 [(0, _), (4, _), (13, _), (14, _), (15, _)] := h.sub (.cons rfl (.cons rfl (.cons rfl (.cons rfl (.cons rfl .nil)))))
    refine wnt ?_
    refine wp_seq ?_
    refine wR ?_
    refine st_loadBA h rfl hb4 ag100 rfl ?_; clear h a; intro a h
    refine st_call h (evs_cons rfl evs_nil) co68 (check_ok x _) rfl ?_; clear h a; rintro _ w4 ⟨rfl, hq⟩ a h
    replace hf := hf.next hq
    replace hb4 := hb4.ext hq
    clear hq
    refine st_ne h rfl rfl rfl ?_; clear h a; intro a h
    replace h : Ag a 41 [(0, _), (13, _), (14, _), (15, _), (21, _)] := h.sub (.cons rfl (.cons rfl (.cons rfl (.cons rfl (.cons rfl .nil)))))
    refine wnt ?_
    first | refine cond_dec h rfl (fun c3 => ?_) (fun c3 => ?_) | refine cond_ndec h rfl (fun c3 => ?_) (fun c3 => ?_) | refine cond_split h rfl (fun c3 => ?_) (fun c3 => ?_)
    ·have c3' : checkS x ≠ 0 := c3
     refine wp_seq ?_
     refine wR ?_
     refine st_assign h rfl rfl ?_; clear h a; intro a h
     replace h : Ag a 41 [(2, _)] := h.sub (.cons rfl .nil)
     refine wnt ?_
     refine wp_ret (ret_blk (ret_then (ret_then (ret_blk (ret_then ?_)))))
     refine ret1 h Tryd.results95 rfl ?_
     exact ⟨_, rfl, by rw [row1b (by omega) hxk c3'], hf⟩
    ·have c3' : checkS x = 0 := Decidable.not_not.1 c3
     refine wp_skip (norm_blk (norm_then ?_))
     refine wR ?_
     refine st_add h rfl rfl (by first | exact IntWalk.i64_in _ (by omega) | rfl) rfl ?_; clear h a; intro a h
     refine st_move h rfl rfl ?_; clear h a; intro a h
     replace h : Ag a 41 [(0, _), (13, _), (14, _), (15, _)] := h.sub (.cons rfl (.cons rfl (.cons rfl (.cons rfl .nil))))
     refine wnt ?_
     exact ⟨k + 1, h.sub (.cons rfl (.cons rfl (.cons rfl (.cons rfl .nil)))), ⟨by omega, by rw [List.take_add_one, hxk]; exact all_snocS _ _ ha ((okB_iff _).2 c3'), hf⟩, by omega⟩
   ·obtain rfl : k = xs.length := by omega
    rw [List.take_length] at ha
    refine wp_exit (exit_then (exit_then (exit_here (norm_then ?_))))
    refine wp_seq ?_
    refine wR ?_
    refine st_move h rfl rfl ?_; clear h a; intro a h
    refine st_call h (evs_cons rfl evs_nil) co48 (cneeds_ok _ xs _ (hu.ext hf) (by omega)) rfl ?_; clear h a; rintro _ w5 ⟨rfl, hq⟩ a h
    replace hf := hf.next hq
    clear hq
    refine st_move h rfl rfl ?_; clear h a; intro a h
    refine st_call h (evs_cons rfl evs_nil) co49 (cmakes_ok _ xs _ (hu.ext hf) (by omega)) rfl ?_; clear h a; rintro _ w6 ⟨rfl, hq⟩ a h
    replace hf := hf.next hq
    clear hq
    refine st_assign h rfl rfl ?_; clear h a; intro a h
    refine st_assign h rfl rfl ?_; clear h a; intro a h
    replace h : Ag a 41 [(5, _), (6, _)] := h.sub (.cons rfl (.cons rfl .nil))
    refine wnt ?_
    refine wp_seq ?_
    refine wp_seq ?_
    refine region_bool (r := 40) (L' := []) (needsR xs < 1 ∨ 16 < needsR xs ∨ makesR xs < 1 ∨ 16 < makesR xs) h .nil ?_ ?_
    ·refine id ?_
     refine st_move h rfl rfl ?_; clear h a; intro a h
     refine st_lt h rfl rfl rfl ?_; clear h a; intro a h
     refine st_move h rfl rfl ?_; clear h a; intro a h
     first | refine guard_dec (D := 29) h rfl ?_ ?_ | refine guard_ndec (D := 29) h rfl ?_ ?_ | refine guard_any (D := 29) h rfl ?_ ?_
     ·clear h; intro g0 h
      refine gd_no h rfl rfl rfl rfl rfl rfl rfl rfl ?_; clear h a; intro a h
      refine gd_no h rfl rfl rfl rfl rfl rfl rfl rfl ?_; clear h a; intro a h
      refine st_pick_t h rfl rfl rfl rfl ?_; clear h a; intro a h
      refine st_move h rfl rfl ?_; clear h a; intro a h
      refine gd_no h rfl rfl rfl rfl rfl rfl rfl rfl ?_; clear h a; intro a h
      refine gd_no h rfl rfl rfl rfl rfl rfl rfl rfl ?_; clear h a; intro a h
      refine st_pick_t h rfl rfl rfl rfl ?_; clear h a; intro a h
      refine st_move h rfl rfl ?_; clear h a; intro a h
      refine gd_no h rfl rfl rfl rfl rfl rfl rfl rfl ?_; clear h a; intro a h
      refine gd_no h rfl rfl rfl rfl rfl rfl rfl rfl ?_; clear h a; intro a h
      refine st_pick_t h rfl rfl rfl rfl ?_; clear h a; intro a h
      exact wpList_nil (bool_end h rfl (by first | exact bt (by omega) | exact bf (by omega) | exact bi (by omega) | exact bn (by omega)) .nil)
     ·clear h; intro g0 h
      refine gd_yes h rfl rfl rfl rfl rfl rfl ?_
      refine st_move h rfl rfl ?_; clear h a; intro a h
      refine gd_yes h rfl rfl rfl rfl rfl rfl ?_
      refine st_gt h rfl rfl rfl ?_; clear h a; intro a h
      refine st_pick_f h rfl rfl rfl rfl ?_; clear h a; intro a h
      refine st_move h rfl rfl ?_; clear h a; intro a h
      first | refine guard_dec (D := 33) h rfl ?_ ?_ | refine guard_ndec (D := 33) h rfl ?_ ?_ | refine guard_any (D := 33) h rfl ?_ ?_
      ·clear h; intro g1 h
       refine gd_no h rfl rfl rfl rfl rfl rfl rfl rfl ?_; clear h a; intro a h
       refine gd_no h rfl rfl rfl rfl rfl rfl rfl rfl ?_; clear h a; intro a h
       refine st_pick_t h rfl rfl rfl rfl ?_; clear h a; intro a h
       refine st_move h rfl rfl ?_; clear h a; intro a h
       refine gd_no h rfl rfl rfl rfl rfl rfl rfl rfl ?_; clear h a; intro a h
       refine gd_no h rfl rfl rfl rfl rfl rfl rfl rfl ?_; clear h a; intro a h
       refine st_pick_t h rfl rfl rfl rfl ?_; clear h a; intro a h
       exact wpList_nil (bool_end h rfl (by first | exact bt (by omega) | exact bf (by omega) | exact bi (by omega) | exact bn (by omega)) .nil)
      ·clear h; intro g1 h
       refine gd_yes h rfl rfl rfl rfl rfl rfl ?_
       refine st_move h rfl rfl ?_; clear h a; intro a h
       refine gd_yes h rfl rfl rfl rfl rfl rfl ?_
       refine st_lt h rfl rfl rfl ?_; clear h a; intro a h
       refine st_pick_f h rfl rfl rfl rfl ?_; clear h a; intro a h
       refine st_move h rfl rfl ?_; clear h a; intro a h
       first | refine guard_dec (D := 37) h rfl ?_ ?_ | refine guard_ndec (D := 37) h rfl ?_ ?_ | refine guard_any (D := 37) h rfl ?_ ?_
       ·clear h; intro g2 h
        refine gd_no h rfl rfl rfl rfl rfl rfl rfl rfl ?_; clear h a; intro a h
        refine gd_no h rfl rfl rfl rfl rfl rfl rfl rfl ?_; clear h a; intro a h
        refine st_pick_t h rfl rfl rfl rfl ?_; clear h a; intro a h
        exact wpList_nil (bool_end h rfl (by first | exact bt (by omega) | exact bf (by omega) | exact bi (by omega) | exact bn (by omega)) .nil)
       ·clear h; intro g2 h
        refine gd_yes h rfl rfl rfl rfl rfl rfl ?_
        refine st_move h rfl rfl ?_; clear h a; intro a h
        refine gd_yes h rfl rfl rfl rfl rfl rfl ?_
        refine st_gt h rfl rfl rfl ?_; clear h a; intro a h
        refine st_pick_f h rfl rfl rfl rfl ?_; clear h a; intro a h
        exact wpList_nil (bool_end h rfl (by first | exact bt (by omega) | exact bf (by omega) | exact bi (by omega) | exact bn (by omega)) .nil)
    ·clear h a; intro a h
     refine (norm_then ?_)
     first | refine cond_dec h rfl (fun c4 => ?_) (fun c4 => ?_) | refine cond_ndec h rfl (fun c4 => ?_) (fun c4 => ?_) | refine cond_split h rfl (fun c4 => ?_) (fun c4 => ?_)
     ·refine id ?_
      refine wp_seq ?_
      refine wR ?_
      refine st_assign h rfl rfl ?_; clear h a; intro a h
      replace h : Ag a 41 [(2, _)] := h.sub (.cons rfl .nil)
      refine wnt ?_
      refine wp_ret (ret_then ?_)
      refine ret1 h Tryd.results95 rfl ?_
      exact ⟨_, rfl, by rw [row5 (by omega) (by omega) ha c4], hf⟩
     ·refine id ?_
      refine wsn ?_
      refine wp_seq ?_
      refine wR ?_
      refine st_assign h rfl rfl ?_; clear h a; intro a h
      replace h : Ag a 41 [(2, _)] := h.sub (.cons rfl .nil)
      refine wnt ?_
      refine wp_ret ?_
      refine ret1 h Tryd.results95 rfl ?_
      exact ⟨_, rfl, by rw [row0 (by omega) (by omega) ha c4], hf⟩
theorem rneeds_ok (u : Value) (xs : List Stitch) (w0 : World) (hu : Sl encSt w0 u xs) (hR : ∀ x ∈ xs, 0 ≤ x.k ∧ 0 ≤ x.y) (h16 : xs.length ≤ 16) : Rets Tryd.prog 70 #[u] w0 fun v w' => v = .int .i64 (needsR xs) ∧ Fr [] w0 w' := by
 obtain ⟨A, c, rfl, hcp⟩ := hu.form
 obtain ⟨-, -, hM, hA⟩ := Sl.open_ hu
 unfold maxLen at hM
 refine enter [(0, .slice A xs.length c)] Tryd.func70 rfl Tryd.ntmps70 rfl (.cons rfl .nil) ?_
 have hf := Fr.refl [] w0
 intro a h
 refine wp_seq ?_
 refine wR ?_
 refine st_assign h rfl rfl ?_; clear h a; intro a h
 replace h : Ag a 19 [(0, _)] := h.sub (.cons rfl .nil)
 refine wnt ?_
 refine wp_seq ?_
 refine wR ?_
 refine st_assign h rfl rfl ?_; clear h a; intro a h
 refine wnt ?_
 refine wp_seq ?_
 refine wp_seq ?_
 refine wR ?_
 refine st_assign h rfl rfl ?_; clear h a; intro a h
 refine wnt ?_
 refine wp_block ?_
 refine loop (ι := Nat) (fun k => [(0, .slice A xs.length c), (3, .int .i64 ((xs.take k).map needsS).sum), (4, .int .i64 (k : Int))]) (fun k w' => k ≤ xs.length ∧ Fr [] w0 w') (fun k => xs.length - k) 0 (h.sub (.cons rfl (.cons rfl (.cons rfl .nil)))) ⟨by omega, hf⟩ ?_
 clear h a hf
 rintro k w1 a h ⟨hk, hf⟩
 have hsr := sum_rng needs_rng (xs.take k)
 rw [List.length_take] at hsr
 refine wp_seq ?_
 refine wp_seq ?_
 refine wR ?_
 refine st_move h rfl rfl ?_; clear h a; intro a h
 refine st_move h rfl rfl ?_; clear h a; intro a h
 refine st_lenS h rfl Tryd.underlying61 rfl ?_; clear h a; intro a h
 refine st_lt h rfl rfl rfl ?_; clear h a; intro a h
 replace h : Ag a 19 [(0, _), (3, _), (4, _), (8, _)] := h.sub (.cons rfl (.cons rfl (.cons rfl (.cons rfl .nil))))
 refine wnt ?_
 first | refine cond_dec h rfl (fun c0 => ?_) (fun c0 => ?_) | refine cond_ndec h rfl (fun c0 => ?_) (fun c0 => ?_) | refine cond_split h rfl (fun c0 => ?_) (fun c0 => ?_)
 ·obtain ⟨x, hxk⟩ : ∃ x, xs[k]? = some x := ⟨_, List.getElem?_eq_getElem (by omega)⟩
  obtain ⟨ad, hAd, ca⟩ := hA k x hxk
  obtain ⟨p1, p2⟩ := hR x (List.mem_of_getElem? hxk)
  have hgx := needs_rng x
  refine wsn ?_
  refine wp_seq ?_
  refine wp_block ?_
  refine wR ?_
  refine st_move h rfl rfl ?_; clear h a; intro a h
  refine st_move h rfl rfl ?_; clear h a; intro a h
  refine st_move h rfl rfl ?_; clear h a; intro a h
  refine st_idxS h (by rw [hAd]; rfl) rfl el61 (by omega) (by omega) rfl rfl ?_; clear h a; intro a h
  refine st_loadA h rfl (ca.fr hf (by simp)) ag100 rfl ?_; clear h a; intro a h
  refine st_call h (evs_cons rfl evs_nil) co72 (refneeds_ok x _ p1 p2) rfl ?_; clear h a; rintro _ w2 ⟨rfl, hq⟩ a h
  replace hf := hf.next hq
  clear hq
  refine st_add h rfl rfl (by first | exact IntWalk.i64_in _ (by omega) | rfl) rfl ?_; clear h a; intro a h
  refine st_assign h rfl rfl ?_; clear h a; intro a h
  replace h : Ag a 19 [(0, _), (3, _), (4, _)] := h.sub (.cons rfl (.cons rfl (.cons rfl .nil)))
  refine wpList_nil (norm_blk (norm_then ?_))
  refine wR ?_
  refine st_move h rfl rfl ?_; clear h a; intro a h
  refine st_add h rfl rfl (by first | exact IntWalk.i64_in _ (by omega) | rfl) rfl ?_; clear h a; intro a h
  refine st_assign h rfl rfl ?_; clear h a; intro a h
  replace h : Ag a 19 [(0, _), (3, _), (4, _)] := h.sub (.cons rfl (.cons rfl (.cons rfl .nil)))
  refine wnt ?_
  exact ⟨k + 1, h.sub (.cons rfl (.cons (by rw [sum_next hxk]; rfl) (.cons rfl .nil))), ⟨by omega, hf⟩, by omega⟩
 ·obtain rfl : k = xs.length := by omega
  rw [List.take_length] at h
  refine wp_exit (exit_then (exit_then (exit_here (norm_then ?_))))
  refine wp_seq ?_
  refine wR ?_
  refine st_move h rfl rfl ?_; clear h a; intro a h
  refine st_assign h rfl rfl ?_; clear h a; intro a h
  replace h : Ag a 19 [(2, _)] := h.sub (.cons rfl .nil)
  refine wnt ?_
  refine wp_ret ?_
  refine ret1 h Tryd.results70 rfl ?_
  exact ⟨_, rfl, rfl, hf⟩
theorem rmakes_ok (u : Value) (xs : List Stitch) (w0 : World) (hu : Sl encSt w0 u xs) (hR : ∀ x ∈ xs, 0 ≤ x.k ∧ 0 ≤ x.y) (h16 : xs.length ≤ 16) : Rets Tryd.prog 71 #[u] w0 fun v w' => v = .int .i64 (makesR xs) ∧ Fr [] w0 w' := by
 obtain ⟨A, c, rfl, hcp⟩ := hu.form
 obtain ⟨-, -, hM, hA⟩ := Sl.open_ hu
 unfold maxLen at hM
 refine enter [(0, .slice A xs.length c)] Tryd.func71 rfl Tryd.ntmps71 rfl (.cons rfl .nil) ?_
 have hf := Fr.refl [] w0
 intro a h
 refine wp_seq ?_
 refine wR ?_
 refine st_assign h rfl rfl ?_; clear h a; intro a h
 replace h : Ag a 19 [(0, _)] := h.sub (.cons rfl .nil)
 refine wnt ?_
 refine wp_seq ?_
 refine wR ?_
 refine st_assign h rfl rfl ?_; clear h a; intro a h
 refine wnt ?_
 refine wp_seq ?_
 refine wp_seq ?_
 refine wR ?_
 refine st_assign h rfl rfl ?_; clear h a; intro a h
 refine wnt ?_
 refine wp_block ?_
 refine loop (ι := Nat) (fun k => [(0, .slice A xs.length c), (3, .int .i64 ((xs.take k).map makesS).sum), (4, .int .i64 (k : Int))]) (fun k w' => k ≤ xs.length ∧ Fr [] w0 w') (fun k => xs.length - k) 0 (h.sub (.cons rfl (.cons rfl (.cons rfl .nil)))) ⟨by omega, hf⟩ ?_
 clear h a hf
 rintro k w1 a h ⟨hk, hf⟩
 have hsr := sum_rng makes_rng (xs.take k)
 rw [List.length_take] at hsr
 refine wp_seq ?_
 refine wp_seq ?_
 refine wR ?_
 refine st_move h rfl rfl ?_; clear h a; intro a h
 refine st_move h rfl rfl ?_; clear h a; intro a h
 refine st_lenS h rfl Tryd.underlying61 rfl ?_; clear h a; intro a h
 refine st_lt h rfl rfl rfl ?_; clear h a; intro a h
 replace h : Ag a 19 [(0, _), (3, _), (4, _), (8, _)] := h.sub (.cons rfl (.cons rfl (.cons rfl (.cons rfl .nil))))
 refine wnt ?_
 first | refine cond_dec h rfl (fun c0 => ?_) (fun c0 => ?_) | refine cond_ndec h rfl (fun c0 => ?_) (fun c0 => ?_) | refine cond_split h rfl (fun c0 => ?_) (fun c0 => ?_)
 ·obtain ⟨x, hxk⟩ : ∃ x, xs[k]? = some x := ⟨_, List.getElem?_eq_getElem (by omega)⟩
  obtain ⟨ad, hAd, ca⟩ := hA k x hxk
  obtain ⟨p1, p2⟩ := hR x (List.mem_of_getElem? hxk)
  have hgx := makes_rng x
  refine wsn ?_
  refine wp_seq ?_
  refine wp_block ?_
  refine wR ?_
  refine st_move h rfl rfl ?_; clear h a; intro a h
  refine st_move h rfl rfl ?_; clear h a; intro a h
  refine st_move h rfl rfl ?_; clear h a; intro a h
  refine st_idxS h (by rw [hAd]; rfl) rfl el61 (by omega) (by omega) rfl rfl ?_; clear h a; intro a h
  refine st_loadA h rfl (ca.fr hf (by simp)) ag100 rfl ?_; clear h a; intro a h
  refine st_call h (evs_cons rfl evs_nil) co85 (refmakes_ok x _ p1 p2) rfl ?_; clear h a; rintro _ w2 ⟨rfl, hq⟩ a h
  replace hf := hf.next hq
  clear hq
  refine st_add h rfl rfl (by first | exact IntWalk.i64_in _ (by omega) | rfl) rfl ?_; clear h a; intro a h
  refine st_assign h rfl rfl ?_; clear h a; intro a h
  replace h : Ag a 19 [(0, _), (3, _), (4, _)] := h.sub (.cons rfl (.cons rfl (.cons rfl .nil)))
  refine wpList_nil (norm_blk (norm_then ?_))
  refine wR ?_
  refine st_move h rfl rfl ?_; clear h a; intro a h
  refine st_add h rfl rfl (by first | exact IntWalk.i64_in _ (by omega) | rfl) rfl ?_; clear h a; intro a h
  refine st_assign h rfl rfl ?_; clear h a; intro a h
  replace h : Ag a 19 [(0, _), (3, _), (4, _)] := h.sub (.cons rfl (.cons rfl (.cons rfl .nil)))
  refine wnt ?_
  exact ⟨k + 1, h.sub (.cons rfl (.cons (by rw [sum_next hxk]; rfl) (.cons rfl .nil))), ⟨by omega, hf⟩, by omega⟩
 ·obtain rfl : k = xs.length := by omega
  rw [List.take_length] at h
  refine wp_exit (exit_then (exit_then (exit_here (norm_then ?_))))
  refine wp_seq ?_
  refine wR ?_
  refine st_move h rfl rfl ?_; clear h a; intro a h
  refine st_assign h rfl rfl ?_; clear h a; intro a h
  replace h : Ag a 19 [(2, _)] := h.sub (.cons rfl .nil)
  refine wnt ?_
  refine wp_ret ?_
  refine ret1 h Tryd.results71 rfl ?_
  exact ⟨_, rfl, rfl, hf⟩
theorem refrow_ok (u : Value) (xs : List Stitch) (w0 : World) (hu : Sl encSt w0 u xs) (hR : ∀ x ∈ xs, 0 ≤ x.k ∧ 0 ≤ x.y) : Rets Tryd.prog 69 #[u] w0 fun v w' => v = .int .i64 (rowE xs) ∧ Fr [] w0 w' := by
 obtain ⟨A, c, rfl, hcp⟩ := hu.form
 obtain ⟨-, -, hM, hA⟩ := Sl.open_ hu
 unfold maxLen at hM
 refine enter [(0, .slice A xs.length c)] Tryd.func69 rfl Tryd.ntmps69 rfl (.cons rfl .nil) ?_
 have hf := Fr.refl [] w0
 intro a h
 refine wp_seq ?_
 refine wR ?_
 refine st_assign h rfl rfl ?_; clear h a; intro a h
 replace h : Ag a 40 [(0, _)] := h.sub (.cons rfl .nil)
 refine wnt ?_
 refine wp_seq ?_
 refine wp_seq ?_
 refine wR ?_
 refine st_move h rfl rfl ?_; clear h a; intro a h
 refine st_lenS h rfl Tryd.underlying61 rfl ?_; clear h a; intro a h
 refine st_gt h rfl rfl rfl ?_; clear h a; intro a h
 replace h : Ag a 40 [(0, _), (6, _)] := h.sub (.cons rfl (.cons rfl .nil))
 refine wnt ?_
 first | refine cond_dec h rfl (fun c0 => ?_) (fun c0 => ?_) | refine cond_ndec h rfl (fun c0 => ?_) (fun c0 => ?_) | refine cond_split h rfl (fun c0 => ?_) (fun c0 => ?_)
 ·refine id ?_
  refine wp_seq ?_
  refine wR ?_
  refine st_assign h rfl rfl ?_; clear h a; intro a h
  replace h : Ag a 40 [(2, _)] := h.sub (.cons rfl .nil)
  refine wnt ?_
  refine wp_ret (ret_then ?_)
  refine ret1 h Tryd.results69 rfl ?_
  exact ⟨_, rfl, by rw [row3 (by omega)], hf⟩
 ·refine id ?_
  refine wsn ?_
  refine wp_seq ?_
  refine wp_seq ?_
  refine wR ?_
  refine st_move h rfl rfl ?_; clear h a; intro a h
  refine st_lenS h rfl Tryd.underlying61 rfl ?_; clear h a; intro a h
  refine st_eq h rfl rfl rfl ?_; clear h a; intro a h
  replace h : Ag a 40 [(0, _), (9, _)] := h.sub (.cons rfl (.cons rfl .nil))
  refine wnt ?_
  first | refine cond_dec h rfl (fun c1 => ?_) (fun c1 => ?_) | refine cond_ndec h rfl (fun c1 => ?_) (fun c1 => ?_) | refine cond_split h rfl (fun c1 => ?_) (fun c1 => ?_)
  ·refine id ?_
   refine wp_seq ?_
   refine wR ?_
   refine st_assign h rfl rfl ?_; clear h a; intro a h
   replace h : Ag a 40 [(2, _)] := h.sub (.cons rfl .nil)
   refine wnt ?_
   refine wp_ret (ret_then ?_)
   refine ret1 h Tryd.results69 rfl ?_
   exact ⟨_, rfl, by rw [row1 (by omega) (by omega)], hf⟩
  ·refine id ?_
   refine wsn ?_
   refine wp_seq ?_
   refine wp_seq ?_
   refine wR ?_
   refine st_assign h rfl rfl ?_; clear h a; intro a h
   replace h : Ag a 40 [(0, _), (3, _)] := h.sub (.cons rfl (.cons rfl .nil))
   refine wnt ?_
   refine wp_block ?_
   refine loop (ι := Nat) (fun k => [(0, .slice A xs.length c), (3, .int .i64 (k : Int))]) (fun k w' => k ≤ xs.length ∧ (xs.take k).all okB = true ∧ Fr [] w0 w') (fun k => xs.length - k) 0 (h.sub (.cons rfl (.cons rfl .nil))) ⟨by omega, rfl, hf⟩ ?_
   clear h a hf
   rintro k w1 a h ⟨hk, ha, hf⟩
   refine wp_seq ?_
   refine wp_seq ?_
   refine wR ?_
   refine st_move h rfl rfl ?_; clear h a; intro a h
   refine st_move h rfl rfl ?_; clear h a; intro a h
   refine st_lenS h rfl Tryd.underlying61 rfl ?_; clear h a; intro a h
   refine st_lt h rfl rfl rfl ?_; clear h a; intro a h
   replace h : Ag a 40 [(0, _), (3, _), (13, _)] := h.sub (.cons rfl (.cons rfl (.cons rfl .nil)))
   refine wnt ?_
   first | refine cond_dec h rfl (fun c2 => ?_) (fun c2 => ?_) | refine cond_ndec h rfl (fun c2 => ?_) (fun c2 => ?_) | refine cond_split h rfl (fun c2 => ?_) (fun c2 => ?_)
   ·obtain ⟨x, hxk⟩ : ∃ x, xs[k]? = some x := ⟨_, List.getElem?_eq_getElem (by omega)⟩
    obtain ⟨ad, hAd, ca⟩ := hA k x hxk
    obtain ⟨p1, p2⟩ := hR x (List.mem_of_getElem? hxk)
    refine wsn ?_
    refine wp_seq ?_
    refine wp_block ?_
    refine wp_seq ?_
    refine wR ?_
    refine st_move h rfl rfl ?_; clear h a; intro a h
    refine st_move h rfl rfl ?_; clear h a; intro a h
    refine st_idxS h (by rw [hAd]; rfl) rfl el61 (by omega) (by omega) rfl rfl ?_; clear h a; intro a h
    refine st_loadA h rfl (ca.fr hf (by simp)) ag100 rfl ?_; clear h a; intro a h
    refine st_call h (evs_cons rfl evs_nil) co42 (valid_ok x _ p1 p2) rfl ?_; clear h a; rintro _ w2 ⟨rfl, hq⟩ a h
    replace hf := hf.next hq
    clear hq
    refine st_eq h rfl rfl rfl ?_; clear h a; intro a h
    replace h : Ag a 40 [(0, _), (3, _), (21, _)] := h.sub (.cons rfl (.cons rfl (.cons rfl .nil)))
    refine wnt ?_
    first | refine cond_dec h rfl (fun c3 => ?_) (fun c3 => ?_) | refine cond_ndec h rfl (fun c3 => ?_) (fun c3 => ?_) | refine cond_split h rfl (fun c3 => ?_) (fun c3 => ?_)
    ·have c3' : checkS x ≠ 0 := fun e => by rw [if_pos e] at c3; omega
     refine wp_seq ?_
     refine wR ?_
     refine st_assign h rfl rfl ?_; clear h a; intro a h
     replace h : Ag a 40 [(2, _)] := h.sub (.cons rfl .nil)
     refine wnt ?_
     refine wp_ret (ret_blk (ret_then (ret_then (ret_blk (ret_then ?_)))))
     refine ret1 h Tryd.results69 rfl ?_
     exact ⟨_, rfl, by rw [row1b (by omega) hxk c3'], hf⟩
    ·have c3' : checkS x = 0 := Decidable.not_not.1 fun e => c3 (if_neg e)
     refine wp_skip (norm_blk (norm_then ?_))
     refine wR ?_
     refine st_move h rfl rfl ?_; clear h a; intro a h
     refine st_add h rfl rfl (by first | exact IntWalk.i64_in _ (by omega) | rfl) rfl ?_; clear h a; intro a h
     refine st_assign h rfl rfl ?_; clear h a; intro a h
     replace h : Ag a 40 [(0, _), (3, _)] := h.sub (.cons rfl (.cons rfl .nil))
     refine wnt ?_
     exact ⟨k + 1, h.sub (.cons rfl (.cons rfl .nil)), ⟨by omega, by rw [List.take_add_one, hxk]; exact all_snocS _ _ ha ((okB_iff _).2 c3'), hf⟩, by omega⟩
   ·obtain rfl : k = xs.length := by omega
    rw [List.take_length] at ha
    refine wp_exit (exit_then (exit_then (exit_here (norm_then ?_))))
    refine wp_seq ?_
    refine wp_seq ?_
    refine wR ?_
    refine st_move h rfl rfl ?_; clear h a; intro a h
    refine st_call h (evs_cons rfl evs_nil) co70 (rneeds_ok _ xs _ (hu.ext hf) hR (by omega)) rfl ?_; clear h a; rintro _ w3 ⟨rfl, hq⟩ a h
    replace hf := hf.next hq
    clear hq
    refine st_lt h rfl rfl rfl ?_; clear h a; intro a h
    refine st_move h rfl rfl ?_; clear h a; intro a h
    first | refine guard_dec (D := 25) h rfl ?_ ?_ | refine guard_ndec (D := 25) h rfl ?_ ?_ | refine guard_any (D := 25) h rfl ?_ ?_
    ·clear h; intro g0 h
     refine gd_no h rfl rfl rfl rfl rfl rfl rfl rfl ?_; clear h a; intro a h
     refine gd_no h rfl rfl rfl rfl rfl rfl rfl rfl ?_; clear h a; intro a h
     refine gd_no h rfl rfl rfl rfl rfl rfl rfl rfl ?_; clear h a; intro a h
     refine st_pick_t h rfl rfl rfl rfl ?_; clear h a; intro a h
     refine st_move h rfl rfl ?_; clear h a; intro a h
     refine gd_no h rfl rfl rfl rfl rfl rfl rfl rfl ?_; clear h a; intro a h
     refine gd_no h rfl rfl rfl rfl rfl rfl rfl rfl ?_; clear h a; intro a h
     refine gd_no h rfl rfl rfl rfl rfl rfl rfl rfl ?_; clear h a; intro a h
     refine st_pick_t h rfl rfl rfl rfl ?_; clear h a; intro a h
     refine st_move h rfl rfl ?_; clear h a; intro a h
     refine gd_no h rfl rfl rfl rfl rfl rfl rfl rfl ?_; clear h a; intro a h
     refine gd_no h rfl rfl rfl rfl rfl rfl rfl rfl ?_; clear h a; intro a h
     refine gd_no h rfl rfl rfl rfl rfl rfl rfl rfl ?_; clear h a; intro a h
     refine st_pick_t h rfl rfl rfl rfl ?_; clear h a; intro a h
     replace h : Ag a 40 [(39, _)] := h.sub (.cons rfl .nil)
     refine wnt ?_
     refine cond_true h rfl ?_
     refine wp_seq ?_
     refine wR ?_
     refine st_assign h rfl rfl ?_; clear h a; intro a h
     replace h : Ag a 40 [(2, _)] := h.sub (.cons rfl .nil)
     refine wnt ?_
     refine wp_ret (ret_then ?_)
     refine ret1 h Tryd.results69 rfl ?_
     exact ⟨_, rfl, by first | rw [row5 (by omega) (by omega) ha (by omega)] | rw [row0 (by omega) (by omega) ha (by omega)], hf⟩
    ·clear h; intro g0 h
     refine gd_yes h rfl rfl rfl rfl rfl rfl ?_
     refine st_move h rfl rfl ?_; clear h a; intro a h
     refine gd_yes h rfl rfl rfl rfl rfl rfl ?_
     refine st_call h (evs_cons rfl evs_nil) co70 (rneeds_ok _ xs _ (hu.ext hf) hR (by omega)) rfl ?_; clear h a; rintro _ w4 ⟨rfl, hq⟩ a h
     replace hf := hf.next hq
     clear hq
     refine gd_yes h rfl rfl rfl rfl rfl rfl ?_
     refine st_gt h rfl rfl rfl ?_; clear h a; intro a h
     refine st_pick_f h rfl rfl rfl rfl ?_; clear h a; intro a h
     refine st_move h rfl rfl ?_; clear h a; intro a h
     first | refine guard_dec (D := 30) h rfl ?_ ?_ | refine guard_ndec (D := 30) h rfl ?_ ?_ | refine guard_any (D := 30) h rfl ?_ ?_
     ·clear h; intro g1 h
      refine gd_no h rfl rfl rfl rfl rfl rfl rfl rfl ?_; clear h a; intro a h
      refine gd_no h rfl rfl rfl rfl rfl rfl rfl rfl ?_; clear h a; intro a h
      refine gd_no h rfl rfl rfl rfl rfl rfl rfl rfl ?_; clear h a; intro a h
      refine st_pick_t h rfl rfl rfl rfl ?_; clear h a; intro a h
      refine st_move h rfl rfl ?_; clear h a; intro a h
      refine gd_no h rfl rfl rfl rfl rfl rfl rfl rfl ?_; clear h a; intro a h
      refine gd_no h rfl rfl rfl rfl rfl rfl rfl rfl ?_; clear h a; intro a h
      refine gd_no h rfl rfl rfl rfl rfl rfl rfl rfl ?_; clear h a; intro a h
      refine st_pick_t h rfl rfl rfl rfl ?_; clear h a; intro a h
      replace h : Ag a 40 [(39, _)] := h.sub (.cons rfl .nil)
      refine wnt ?_
      refine cond_true h rfl ?_
      refine wp_seq ?_
      refine wR ?_
      refine st_assign h rfl rfl ?_; clear h a; intro a h
      replace h : Ag a 40 [(2, _)] := h.sub (.cons rfl .nil)
      refine wnt ?_
      refine wp_ret (ret_then ?_)
      refine ret1 h Tryd.results69 rfl ?_
      exact ⟨_, rfl, by first | rw [row5 (by omega) (by omega) ha (by omega)] | rw [row0 (by omega) (by omega) ha (by omega)], hf⟩
     ·clear h; intro g1 h
      refine gd_yes h rfl rfl rfl rfl rfl rfl ?_
      refine st_move h rfl rfl ?_; clear h a; intro a h
      refine gd_yes h rfl rfl rfl rfl rfl rfl ?_
      refine st_call h (evs_cons rfl evs_nil) co71 (rmakes_ok _ xs _ (hu.ext hf) hR (by omega)) rfl ?_; clear h a; rintro _ w5 ⟨rfl, hq⟩ a h
      replace hf := hf.next hq
      clear hq
      refine gd_yes h rfl rfl rfl rfl rfl rfl ?_
      refine st_lt h rfl rfl rfl ?_; clear h a; intro a h
      refine st_pick_f h rfl rfl rfl rfl ?_; clear h a; intro a h
      refine st_move h rfl rfl ?_; clear h a; intro a h
      first | refine guard_dec (D := 35) h rfl ?_ ?_ | refine guard_ndec (D := 35) h rfl ?_ ?_ | refine guard_any (D := 35) h rfl ?_ ?_
      ·clear h; intro g2 h
       refine gd_no h rfl rfl rfl rfl rfl rfl rfl rfl ?_; clear h a; intro a h
       refine gd_no h rfl rfl rfl rfl rfl rfl rfl rfl ?_; clear h a; intro a h
       refine gd_no h rfl rfl rfl rfl rfl rfl rfl rfl ?_; clear h a; intro a h
       refine st_pick_t h rfl rfl rfl rfl ?_; clear h a; intro a h
       replace h : Ag a 40 [(39, _)] := h.sub (.cons rfl .nil)
       refine wnt ?_
       refine cond_true h rfl ?_
       refine wp_seq ?_
       refine wR ?_
       refine st_assign h rfl rfl ?_; clear h a; intro a h
       replace h : Ag a 40 [(2, _)] := h.sub (.cons rfl .nil)
       refine wnt ?_
       refine wp_ret (ret_then ?_)
       refine ret1 h Tryd.results69 rfl ?_
       exact ⟨_, rfl, by first | rw [row5 (by omega) (by omega) ha (by omega)] | rw [row0 (by omega) (by omega) ha (by omega)], hf⟩
      ·clear h; intro g2 h
       refine gd_yes h rfl rfl rfl rfl rfl rfl ?_
       refine st_move h rfl rfl ?_; clear h a; intro a h
       refine gd_yes h rfl rfl rfl rfl rfl rfl ?_
       refine st_call h (evs_cons rfl evs_nil) co71 (rmakes_ok _ xs _ (hu.ext hf) hR (by omega)) rfl ?_; clear h a; rintro _ w6 ⟨rfl, hq⟩ a h
       replace hf := hf.next hq
       clear hq
       refine gd_yes h rfl rfl rfl rfl rfl rfl ?_
       refine st_gt h rfl rfl rfl ?_; clear h a; intro a h
       refine st_pick_f h rfl rfl rfl rfl ?_; clear h a; intro a h
       replace h : Ag a 40 [(39, _)] := h.sub (.cons rfl .nil)
       refine wnt ?_
       first | refine cond_dec h rfl (fun c4 => ?_) (fun c4 => ?_) | refine cond_ndec h rfl (fun c4 => ?_) (fun c4 => ?_) | refine cond_split h rfl (fun c4 => ?_) (fun c4 => ?_)
       ·refine id ?_
        refine wp_seq ?_
        refine wR ?_
        refine st_assign h rfl rfl ?_; clear h a; intro a h
        replace h : Ag a 40 [(2, _)] := h.sub (.cons rfl .nil)
        refine wnt ?_
        refine wp_ret (ret_then ?_)
        refine ret1 h Tryd.results69 rfl ?_
        exact ⟨_, rfl, by first | rw [row5 (by omega) (by omega) ha (by omega)] | rw [row0 (by omega) (by omega) ha (by omega)], hf⟩
       ·refine id ?_
        refine wsn ?_
        refine wp_seq ?_
        refine wR ?_
        refine st_assign h rfl rfl ?_; clear h a; intro a h
        replace h : Ag a 40 [(2, _)] := h.sub (.cons rfl .nil)
        refine wnt ?_
        refine wp_ret ?_
        refine ret1 h Tryd.results69 rfl ?_
        exact ⟨_, rfl, by first | rw [row5 (by omega) (by omega) ha (by omega)] | rw [row0 (by omega) (by omega) ha (by omega)], hf⟩
end Go.Proofs.YthehggmdcmpjeaaDoor
namespace Go.Proofs.YthehggmdcmpjeaaDoor
open Go.Lw Go.G14
theorem co95 : CallOf Tryd.prog 95 := CallOf.mk' Tryd.func95 (by kernel_rfl) (by kernel_rfl)
theorem checkrows_ok (u : Value) (rows : List (List Stitch)) (w0 : World) (hS : Sll encSt w0 u rows) : Rets Tryd.prog 83 #[u] w0 fun v w' => v = .int .i64 (rowsE rows) ∧ Fr [] w0 w' := by
 obtain ⟨A, c, rfl, hcp, hM⟩ := hS.form
 unfold maxLen at hM
 refine enter [(0, .slice A rows.length c)] Tryd.func83 rfl Tryd.ntmps83 rfl (.cons rfl .nil) ?_
 have hf := Fr.refl [] w0
 intro a h
 refine wp_seq ?_
 refine wR ?_
 refine st_assign h rfl rfl ?_; clear h a; intro a h
 replace h : Ag a 44 [(0, _)] := h.sub (.cons rfl .nil)
 refine wnt ?_
 refine wp_seq ?_
 refine wp_seq ?_
 refine wR ?_
 refine st_move h rfl rfl ?_; clear h a; intro a h
 refine st_lenS h rfl Tryd.underlying45 rfl ?_; clear h a; intro a h
 refine st_gt h rfl rfl rfl ?_; clear h a; intro a h
 replace h : Ag a 44 [(0, _), (9, _)] := h.sub (.cons rfl (.cons rfl .nil))
 refine wnt ?_
 first | refine cond_dec h rfl (fun c0 => ?_) (fun c0 => ?_) | refine cond_ndec h rfl (fun c0 => ?_) (fun c0 => ?_) | refine cond_split h rfl (fun c0 => ?_) (fun c0 => ?_)
 ·refine id ?_
  refine wp_seq ?_
  refine wR ?_
  refine st_assign h rfl rfl ?_; clear h a; intro a h
  replace h : Ag a 44 [(2, _)] := h.sub (.cons rfl .nil)
  refine wnt ?_
  refine wp_ret (ret_then ?_)
  refine ret1 h Tryd.results83 rfl ?_
  exact ⟨_, rfl, by rw [rows3 (by omega)], hf⟩
 ·refine id ?_
  refine wsn ?_
  refine wp_seq ?_
  refine wp_seq ?_
  refine wR ?_
  refine st_move h rfl rfl ?_; clear h a; intro a h
  refine st_lenS h rfl Tryd.underlying45 rfl ?_; clear h a; intro a h
  refine st_rem h rfl rfl (by omega) (by first | exact IntWalk.rem_in _ _ (by omega) | rfl) rfl ?_; clear h a; intro a h
  refine st_eq h rfl rfl rfl ?_; clear h a; intro a h
  replace h : Ag a 44 [(0, _), (13, _)] := h.sub (.cons rfl (.cons rfl .nil))
  refine wnt ?_
  first | refine cond_dec h rfl (fun c1 => ?_) (fun c1 => ?_) | refine cond_ndec h rfl (fun c1 => ?_) (fun c1 => ?_) | refine cond_split h rfl (fun c1 => ?_) (fun c1 => ?_)
  ·refine id ?_
   refine wp_seq ?_
   refine wR ?_
   refine st_assign h rfl rfl ?_; clear h a; intro a h
   replace h : Ag a 44 [(2, _)] := h.sub (.cons rfl .nil)
   refine wnt ?_
   refine wp_ret (ret_then ?_)
   refine ret1 h Tryd.results83 rfl ?_
   exact ⟨_, rfl, by rw [rows1 (by omega) (by omega)], hf⟩
  ·refine id ?_
   refine wsn ?_
   refine wp_seq ?_
   refine wp_seq ?_
   refine wR ?_
   refine st_move h rfl rfl ?_; clear h a; intro a h
   refine st_lenS h rfl Tryd.underlying45 rfl ?_; clear h a; intro a h
   refine st_move h rfl rfl ?_; clear h a; intro a h
   replace h : Ag a 44 [(0, _), (14, _), (15, _), (16, _)] := h.sub (.cons rfl (.cons rfl (.cons rfl (.cons rfl .nil))))
   refine wnt ?_
   refine wp_block ?_
   refine loop (ι := Nat) (fun k => [(0, .slice A rows.length c), (14, .slice A rows.length c), (15, .int .i64 (rows.length : Int)), (16, .int .i64 (k : Int))]) (fun k w' => k ≤ rows.length ∧ (∀ (i : Nat) (q : List Stitch), i < k → rows[i]? = some q → rowE q = 0) ∧ Fr [] w0 w') (fun k => rows.length - k) 0 (h.sub (.cons rfl (.cons rfl (.cons rfl (.cons rfl .nil))))) ⟨by omega, fun i q h => by omega, hf⟩ ?_
   clear h a hf
   rintro k w1 a h ⟨hk, hz, hf⟩
   refine wp_seq ?_
   refine wR ?_
   refine st_lt h rfl rfl rfl ?_; clear h a; intro a h
   refine wnt ?_
   refine wp_seq ?_
   first | refine cond_dec h rfl (fun c2 => ?_) (fun c2 => ?_) | refine cond_ndec h rfl (fun c2 => ?_) (fun c2 => ?_) | refine cond_split h rfl (fun c2 => ?_) (fun c2 => ?_)
   ·obtain ⟨r, hrk⟩ : ∃ r, rows[k]? = some r := ⟨_, List.getElem?_eq_getElem (by omega)⟩
    obtain ⟨RA, rc, ad, hAd, cc, hr, hrc, hrm⟩ := (hS.ext hf).row hrk
    unfold maxLen at hrm
    refine wsn ?_
    refine wp_seq ?_
    refine wp_block ?_
    refine wp_seq ?_
    refine wR ?_
    refine st_idxS h (by rw [hAd]; rfl) rfl el45 (by omega) (by omega) rfl rfl ?_; clear h a; intro a h
    refine st_loadC0 h rfl cc na61 rfl ?_; clear h a; intro a h
    refine st_assign h rfl rfl ?_; clear h a; intro a h
    replace h : Ag a 44 [(0, _), (4, _), (14, _), (15, _), (16, _)] := h.sub (.cons rfl (.cons rfl (.cons rfl (.cons rfl (.cons rfl .nil)))))
    refine wnt ?_
    refine wp_seq ?_
    refine wR ?_
    refine st_move h rfl rfl ?_; clear h a; intro a h
    refine st_call h (evs_cons rfl evs_nil) co95 (checkrow_ok _ r _ hr) rfl ?_; clear h a; rintro _ w2 ⟨rfl, hq⟩ a h
    replace hf := hf.next hq
    clear hq
    refine st_assign h rfl rfl ?_; clear h a; intro a h
    replace h : Ag a 44 [(0, _), (5, _), (14, _), (15, _), (16, _)] := h.sub (.cons rfl (.cons rfl (.cons rfl (.cons rfl (.cons rfl .nil)))))
    refine wnt ?_
    refine wp_seq ?_
    refine wR ?_
    refine st_move h rfl rfl ?_; clear h a; intro a h
    refine st_ne h rfl rfl rfl ?_; clear h a; intro a h
    replace h : Ag a 44 [(0, _), (5, _), (14, _), (15, _), (16, _), (23, _)] := h.sub (.cons rfl (.cons rfl (.cons rfl (.cons rfl (.cons rfl (.cons rfl .nil))))))
    refine wnt ?_
    first | refine cond_dec h rfl (fun c3 => ?_) (fun c3 => ?_) | refine cond_ndec h rfl (fun c3 => ?_) (fun c3 => ?_) | refine cond_split h rfl (fun c3 => ?_) (fun c3 => ?_)
    ·have c3' : rowE r ≠ 0 := c3
     refine wp_seq ?_
     refine wR ?_
     refine st_move h rfl rfl ?_; clear h a; intro a h
     refine st_assign h rfl rfl ?_; clear h a; intro a h
     replace h : Ag a 44 [(2, _)] := h.sub (.cons rfl .nil)
     refine wnt ?_
     refine wp_ret (ret_blk (ret_then (ret_then (ret_blk (ret_then ?_)))))
     refine ret1 h Tryd.results83 rfl ?_
     exact ⟨_, rfl, by rw [rowsB (by omega) (by omega) hz hrk c3'], hf⟩
    ·have c3' : rowE r = 0 := Decidable.not_not.1 c3
     refine wp_skip (norm_blk (norm_then ?_))
     refine wR ?_
     refine st_add h rfl rfl (by first | exact IntWalk.i64_in _ (by omega) | rfl) rfl ?_; clear h a; intro a h
     refine st_move h rfl rfl ?_; clear h a; intro a h
     replace h : Ag a 44 [(0, _), (14, _), (15, _), (16, _)] := h.sub (.cons rfl (.cons rfl (.cons rfl (.cons rfl .nil))))
     refine wnt ?_
     exact ⟨k + 1, h.sub (.cons rfl (.cons rfl (.cons rfl (.cons rfl .nil)))), ⟨by omega, z_next hz hrk c3', hf⟩, by omega⟩
   ·obtain rfl : k = rows.length := by omega
    replace hz : ∀ (i : Nat) (q : List Stitch), rows[i]? = some q → rowE q = 0 := fun i q hq => hz i q (List.getElem?_eq_some_iff.1 hq).1 hq
    refine wp_exit (exit_then (exit_then (exit_here (norm_then ?_))))
    refine wp_seq ?_
    refine wp_seq ?_
    refine wR ?_
    refine st_assign h rfl rfl ?_; clear h a; intro a h
    replace h : Ag a 44 [(0, _), (6, _)] := h.sub (.cons rfl (.cons rfl .nil))
    refine wnt ?_
    refine wp_block ?_
    refine loop (ι := Nat) (fun k => [(0, .slice A rows.length c), (6, .int .i64 ((k : Int) + 1))]) (fun k w' => k + 1 ≤ rows.length ∧ (∀ (j : Nat) (r q : List Stitch), j < k → rows[j]? = some r → rows[j + 1]? = some q → needsR q = makesR r) ∧ Fr [] w0 w') (fun k => rows.length - k) 0 (h.sub (.cons rfl (.cons rfl .nil))) ⟨by omega, fun j r q h => by omega, hf⟩ ?_
    clear h a hf
    rintro k w3 a h ⟨hk1, hadj, hf⟩
    refine wp_seq ?_
    refine wp_seq ?_
    refine wR ?_
    refine st_move h rfl rfl ?_; clear h a; intro a h
    refine st_move h rfl rfl ?_; clear h a; intro a h
    refine st_lenS h rfl Tryd.underlying45 rfl ?_; clear h a; intro a h
    refine st_lt h rfl rfl rfl ?_; clear h a; intro a h
    replace h : Ag a 44 [(0, _), (6, _), (29, _)] := h.sub (.cons rfl (.cons rfl (.cons rfl .nil)))
    refine wnt ?_
    first | refine cond_dec h rfl (fun c4 => ?_) (fun c4 => ?_) | refine cond_ndec h rfl (fun c4 => ?_) (fun c4 => ?_) | refine cond_split h rfl (fun c4 => ?_) (fun c4 => ?_)
    ·obtain ⟨r, hrk⟩ : ∃ r, rows[k]? = some r := ⟨_, List.getElem?_eq_getElem (by omega)⟩
     obtain ⟨RA, rc, ad, hAd, cc, hr, hrc, hrm⟩ := (hS.ext hf).row hrk
     unfold maxLen at hrm
     obtain ⟨q, hqk⟩ : ∃ r, rows[k + 1]? = some r := ⟨_, List.getElem?_eq_getElem (by omega)⟩
     obtain ⟨RA2, rc2, ad2, hAd2, cc2, hr2, hrc2, hrm2⟩ := (hS.ext hf).row hqk
     unfold maxLen at hrm2
     have hr16 := (row_ok_of (hz _ _ hrk)).1
     have hq16 := (row_ok_of (hz _ _ hqk)).1
     refine wsn ?_
     refine wp_seq ?_
     refine wp_block ?_
     refine wp_seq ?_
     refine region_quiet hmix (by kernel_rfl) ?_
     refine qt_move h rfl rfl ?_; clear h a; intro a h
     refine qt_move h rfl rfl ?_; clear h a; intro a h
     refine qt_idxS (p := k + 1) h (by rw [hAd2]; rfl) rfl el45 (by omega) (by omega) (by omega) rfl ?_; clear h a; intro a h
     refine qt_loadC0 h rfl (fun _ hw => cc2.fr hw (by simp)) na61 rfl ?_; clear h a; intro a h
     refine qt_call h (evs_cons rfl evs_nil) co48 (fun w hw => (cneeds_ok _ q w (hr2.ext hw) (by omega)).mono fun u w' ⟨e, f⟩ => ⟨e, hw.next f⟩) rfl ?_; clear h a; intro a h
     refine qt_move h rfl rfl ?_; clear h a; intro a h
     refine qt_move h rfl rfl ?_; clear h a; intro a h
     refine qt_sub h rfl rfl (by first | exact IntWalk.i64_in _ (by omega) | rfl) rfl ?_; clear h a; intro a h
     refine qt_idxS (p := k) h (by rw [hAd]; rfl) rfl el45 (by omega) (by omega) (by omega) rfl ?_; clear h a; intro a h
     refine qt_loadC0 h rfl (fun _ hw => cc.fr hw (by simp)) na61 rfl ?_; clear h a; intro a h
     refine qt_call h (evs_cons rfl evs_nil) co49 (fun w hw => (cmakes_ok _ r w (hr.ext hw) (by omega)).mono fun u w' ⟨e, f⟩ => ⟨e, hw.next f⟩) rfl ?_; clear h a; intro a h
     refine qt_ne h rfl rfl rfl ?_; clear h a; intro a h
     refine wpQuiet_nil ?_
     intro w4 hq
     replace hf := hf.next hq
     clear hq
     replace h : Ag a 44 [(0, _), (6, _), (43, _)] := h.sub (.cons rfl (.cons rfl (.cons rfl .nil)))
     refine (norm_then ?_)
     first | refine cond_dec h rfl (fun c5 => ?_) (fun c5 => ?_) | refine cond_ndec h rfl (fun c5 => ?_) (fun c5 => ?_) | refine cond_split h rfl (fun c5 => ?_) (fun c5 => ?_)
     ·refine id ?_
      refine wp_seq ?_
      refine wR ?_
      refine st_assign h rfl rfl ?_; clear h a; intro a h
      replace h : Ag a 44 [(2, _)] := h.sub (.cons rfl .nil)
      refine wnt ?_
      refine wp_ret (ret_blk (ret_then (ret_then (ret_blk (ret_then ?_)))))
      refine ret1 h Tryd.results83 rfl ?_
      exact ⟨_, rfl, by rw [rows14 (by omega) (by omega) hz hrk hqk c5], hf⟩
     ·refine id ?_
      refine wp_skip (norm_blk (norm_then ?_))
      refine wR ?_
      refine st_move h rfl rfl ?_; clear h a; intro a h
      refine st_add h rfl rfl (by first | exact IntWalk.i64_in _ (by omega) | rfl) rfl ?_; clear h a; intro a h
      refine st_assign h rfl rfl ?_; clear h a; intro a h
      replace h : Ag a 44 [(0, _), (6, _)] := h.sub (.cons rfl (.cons rfl .nil))
      refine wnt ?_
      exact ⟨k + 1, h.sub (.cons rfl (.cons (by first | rfl | (congr 2; omega)) .nil)), ⟨by omega, adj_next hadj hrk hqk (Decidable.not_not.1 c5), hf⟩, by omega⟩
    ·obtain hkl : k + 1 = rows.length := by omega
     refine wp_exit (exit_then (exit_then (exit_here (norm_then ?_))))
     refine wp_seq ?_
     refine wR ?_
     refine st_assign h rfl rfl ?_; clear h a; intro a h
     replace h : Ag a 44 [(2, _)] := h.sub (.cons rfl .nil)
     refine wnt ?_
     refine wp_ret ?_
     refine ret1 h Tryd.results83 rfl ?_
     exact ⟨_, rfl, by rw [rows0 (by omega) (by omega) hz (fun j r q h1 h2 => hadj j r q (by have := (List.getElem?_eq_some_iff.1 h2).1; omega) h1 h2)], hf⟩
end Go.Proofs.YthehggmdcmpjeaaDoor
namespace Go.Proofs.YthehggmdcmpjeaaDoor
open Go.Lw Go.G14
theorem co69 : CallOf Tryd.prog 69 := CallOf.mk' Tryd.func69 (by kernel_rfl) (by kernel_rfl)
theorem el111 : ElemOf Tryd.prog 111 30 Enc.sl 24 := ElemOf.mk' (z := (.slice none 0 0)) Tryd.underlying111 (by kernel_rfl) rfl
set_option maxHeartbeats 2000000 in
theorem refchart_ok (u : Value) (rows : List (List Stitch)) (w0 : World) (hS : Sll encSt w0 u rows) (hR : ∀ r ∈ rows, ∀ x ∈ r, 0 ≤ x.k ∧ 0 ≤ x.y) : Rets Tryd.prog 53 #[.agg #[u]] w0 fun v w' => ∃ X, v = .tuple #[X, .int .i64 (chartE rows)] ∧ Fr [] w0 w' := by
 obtain ⟨A, c, rfl, hcp, hM⟩ := hS.form
 unfold maxLen at hM
 refine enter [(0, .agg #[.slice A rows.length c])] Tryd.func53 rfl Tryd.ntmps53 rfl (.cons rfl .nil) ?_
 have hf := Fr.refl [] w0
 intro a h
 refine wp_seq ?_
 refine wR ?_
 refine st_box h rfl rfl rfl ?_; clear h a; intro w1 hb1 hq hz a h
 obtain ⟨g_1, hg⟩ : ∃ g, g = w0.heap.size := ⟨_, rfl⟩; rw [← hg] at hb1 h hz
 have hl1 : w0.heap.size ≤ g_1 := by have := hf.size; omega
 replace hf := hf.next hq
 clear hq hz hg
 refine st_assign h rfl rfl ?_; clear h a; intro a h
 refine st_assign h rfl rfl ?_; clear h a; intro a h
 replace h : Ag a 131 [(1, _)] := h.sub (.cons rfl .nil)
 refine wnt ?_
 refine wp_seq ?_
 refine wp_seq ?_
 refine wR ?_
 refine st_fieldAddr h rfl fa47_0 rfl ?_; clear h a; intro a h
 refine st_loadB h rfl hb1 rfl na45 rfl ?_; clear h a; intro a h
 refine st_lenS h rfl Tryd.underlying45 rfl ?_; clear h a; intro a h
 refine st_gt h rfl rfl rfl ?_; clear h a; intro a h
 replace h : Ag a 131 [(1, _), (21, _)] := h.sub (.cons rfl (.cons rfl .nil))
 refine wnt ?_
 first | refine cond_dec h rfl (fun c0 => ?_) (fun c0 => ?_) | refine cond_ndec h rfl (fun c0 => ?_) (fun c0 => ?_) | refine cond_split h rfl (fun c0 => ?_) (fun c0 => ?_)
 ·refine id ?_
  refine wp_seq ?_
  refine wR ?_
  refine st_assign h rfl rfl ?_; clear h a; intro a h
  refine st_assign h rfl rfl ?_; clear h a; intro a h
  replace h : Ag a 131 [(2, _), (3, _)] := h.sub (.cons rfl (.cons rfl .nil))
  refine wnt ?_
  refine wp_ret (ret_then ?_)
  refine ret2 h Tryd.results53 rfl rfl ?_
  exact ⟨_, rfl, _, by rw [chart_bad (rows3 (by omega)) (by decide)], hf⟩
 ·refine id ?_
  refine wsn ?_
  refine wp_seq ?_
  refine wp_seq ?_
  refine wR ?_
  refine st_fieldAddr h rfl fa47_0 rfl ?_; clear h a; intro a h
  refine st_loadB h rfl hb1 rfl na45 rfl ?_; clear h a; intro a h
  refine st_lenS h rfl Tryd.underlying45 rfl ?_; clear h a; intro a h
  refine st_rem h rfl rfl (by omega) (by first | exact IntWalk.rem_in _ _ (by omega) | rfl) rfl ?_; clear h a; intro a h
  refine st_eq h rfl rfl rfl ?_; clear h a; intro a h
  replace h : Ag a 131 [(1, _), (26, _)] := h.sub (.cons rfl (.cons rfl .nil))
  refine wnt ?_
  first | refine cond_dec h rfl (fun c1 => ?_) (fun c1 => ?_) | refine cond_ndec h rfl (fun c1 => ?_) (fun c1 => ?_) | refine cond_split h rfl (fun c1 => ?_) (fun c1 => ?_)
  ·refine id ?_
   refine wp_seq ?_
   refine wR ?_
   refine st_assign h rfl rfl ?_; clear h a; intro a h
   refine st_assign h rfl rfl ?_; clear h a; intro a h
   replace h : Ag a 131 [(2, _), (3, _)] := h.sub (.cons rfl (.cons rfl .nil))
   refine wnt ?_
   refine wp_ret (ret_then ?_)
   refine ret2 h Tryd.results53 rfl rfl ?_
   exact ⟨_, rfl, _, by rw [chart_bad (rows1 (by omega) (by omega)) (by decide)], hf⟩
  ·refine id ?_
   refine wsn ?_
   refine wp_seq ?_
   refine wp_seq ?_
   refine wR ?_
   refine st_assign h rfl rfl ?_; clear h a; intro a h
   replace h : Ag a 131 [(1, _), (4, _)] := h.sub (.cons rfl (.cons rfl .nil))
   refine wnt ?_
   refine wp_block ?_
   refine loop (ι := Nat) (fun k => [(1, .pointer (some ⟨g_1, 0, none⟩)), (4, .int .i64 (k : Int))]) (fun k w' => k ≤ rows.length ∧ (∀ (i : Nat) (q : List Stitch), i < k → rows[i]? = some q → rowE q = 0) ∧ Blk w' g_1 47 [.slice A rows.length c] ∧ Fr [] w0 w') (fun k => rows.length - k) 0 (h.sub (.cons rfl (.cons rfl .nil))) ⟨by omega, fun i q h => by omega, hb1, hf⟩ ?_
   clear h a hf hb1
   rintro k w2 a h ⟨hk, hz, hb1, hf⟩
   refine wp_seq ?_
   refine wp_seq ?_
   refine wR ?_
   refine st_move h rfl rfl ?_; clear h a; intro a h
   refine st_fieldAddr h rfl fa47_0 rfl ?_; clear h a; intro a h
   refine st_loadB h rfl hb1 rfl na45 rfl ?_; clear h a; intro a h
   refine st_lenS h rfl Tryd.underlying45 rfl ?_; clear h a; intro a h
   refine st_lt h rfl rfl rfl ?_; clear h a; intro a h
   replace h : Ag a 131 [(1, _), (4, _), (31, _)] := h.sub (.cons rfl (.cons rfl (.cons rfl .nil)))
   refine wnt ?_
   first | refine cond_dec h rfl (fun c2 => ?_) (fun c2 => ?_) | refine cond_ndec h rfl (fun c2 => ?_) (fun c2 => ?_) | refine cond_split h rfl (fun c2 => ?_) (fun c2 => ?_)
   ·obtain ⟨r, hrk⟩ : ∃ r, rows[k]? = some r := ⟨_, List.getElem?_eq_getElem (by omega)⟩
    obtain ⟨RA, rc, ad, hAd, cc, hr, hrc, hrm⟩ := (hS.ext hf).row hrk
    unfold maxLen at hrm
    have hRr := hR r (List.mem_of_getElem? hrk)
    refine wsn ?_
    refine wp_seq ?_
    refine wp_block ?_
    refine wp_seq ?_
    refine wR ?_
    refine st_fieldAddr h rfl fa47_0 rfl ?_; clear h a; intro a h
    refine st_loadB h rfl hb1 rfl na45 rfl ?_; clear h a; intro a h
    refine st_move h rfl rfl ?_; clear h a; intro a h
    refine st_idxS h (by rw [hAd]; rfl) rfl el45 (by omega) (by omega) rfl rfl ?_; clear h a; intro a h
    refine st_loadC0 h rfl cc na61 rfl ?_; clear h a; intro a h
    refine st_call h (evs_cons rfl evs_nil) co69 (refrow_ok _ r _ hr hRr) rfl ?_; clear h a; rintro _ w3 ⟨rfl, hq⟩ a h
    replace hf := hf.next hq
    replace hb1 := hb1.ext hq
    clear hq
    refine st_assign h rfl rfl ?_; clear h a; intro a h
    replace h : Ag a 131 [(1, _), (4, _), (5, _)] := h.sub (.cons rfl (.cons rfl (.cons rfl .nil)))
    refine wnt ?_
    refine wp_seq ?_
    refine wR ?_
    refine st_move h rfl rfl ?_; clear h a; intro a h
    refine st_ne h rfl rfl rfl ?_; clear h a; intro a h
    replace h : Ag a 131 [(1, _), (4, _), (5, _), (41, _)] := h.sub (.cons rfl (.cons rfl (.cons rfl (.cons rfl .nil))))
    refine wnt ?_
    first | refine cond_dec h rfl (fun c3 => ?_) (fun c3 => ?_) | refine cond_ndec h rfl (fun c3 => ?_) (fun c3 => ?_) | refine cond_split h rfl (fun c3 => ?_) (fun c3 => ?_)
    ·have c3' : rowE r ≠ 0 := c3
     refine wp_seq ?_
     refine wR ?_
     refine st_move h rfl rfl ?_; clear h a; intro a h
     refine st_assign h rfl rfl ?_; clear h a; intro a h
     refine st_assign h rfl rfl ?_; clear h a; intro a h
     replace h : Ag a 131 [(2, _), (3, _)] := h.sub (.cons rfl (.cons rfl .nil))
     refine wnt ?_
     refine wp_ret (ret_blk (ret_then (ret_then (ret_blk (ret_then ?_)))))
     refine ret2 h Tryd.results53 rfl rfl ?_
     exact ⟨_, rfl, _, by rw [chart_bad (rowsB (by omega) (by omega) hz hrk c3') c3'], hf⟩
    ·have c3' : rowE r = 0 := Decidable.not_not.1 c3
     refine wp_skip (norm_blk (norm_then ?_))
     refine wR ?_
     refine st_move h rfl rfl ?_; clear h a; intro a h
     refine st_add h rfl rfl (by first | exact IntWalk.i64_in _ (by omega) | rfl) rfl ?_; clear h a; intro a h
     refine st_assign h rfl rfl ?_; clear h a; intro a h
     replace h : Ag a 131 [(1, _), (4, _)] := h.sub (.cons rfl (.cons rfl .nil))
     refine wnt ?_
     exact ⟨k + 1, h.sub (.cons rfl (.cons rfl .nil)), ⟨by omega, z_next hz hrk c3', hb1, hf⟩, by omega⟩
   ·obtain rfl : k = rows.length := by omega
    replace hz : ∀ (i : Nat) (q : List Stitch), rows[i]? = some q → rowE q = 0 := fun i q hq => hz i q (List.getElem?_eq_some_iff.1 hq).1 hq
    refine wp_exit (exit_then (exit_then (exit_here (norm_then ?_))))
    refine wp_seq ?_
    refine wp_seq ?_
    refine wR ?_
    refine st_assign h rfl rfl ?_; clear h a; intro a h
    replace h : Ag a 131 [(1, _), (6, _)] := h.sub (.cons rfl (.cons rfl .nil))
    refine wnt ?_
    refine wp_block ?_
    refine loop (ι := Nat) (fun k => [(1, .pointer (some ⟨g_1, 0, none⟩)), (6, .int .i64 ((k : Int) + 1))]) (fun k w' => k + 1 ≤ rows.length ∧ (∀ (j : Nat) (r q : List Stitch), j < k → rows[j]? = some r → rows[j + 1]? = some q → needsR q = makesR r) ∧ Blk w' g_1 47 [.slice A rows.length c] ∧ Fr [] w0 w') (fun k => rows.length - k) 0 (h.sub (.cons rfl (.cons rfl .nil))) ⟨by omega, fun j r q h => by omega, hb1, hf⟩ ?_
    clear h a hf hb1
    rintro k w4 a h ⟨hk1, hadj, hb1, hf⟩
    refine wp_seq ?_
    refine wp_seq ?_
    refine wR ?_
    refine st_move h rfl rfl ?_; clear h a; intro a h
    refine st_fieldAddr h rfl fa47_0 rfl ?_; clear h a; intro a h
    refine st_loadB h rfl hb1 rfl na45 rfl ?_; clear h a; intro a h
    refine st_lenS h rfl Tryd.underlying45 rfl ?_; clear h a; intro a h
    refine st_lt h rfl rfl rfl ?_; clear h a; intro a h
    replace h : Ag a 131 [(1, _), (6, _), (47, _)] := h.sub (.cons rfl (.cons rfl (.cons rfl .nil)))
    refine wnt ?_
    first | refine cond_dec h rfl (fun c4 => ?_) (fun c4 => ?_) | refine cond_ndec h rfl (fun c4 => ?_) (fun c4 => ?_) | refine cond_split h rfl (fun c4 => ?_) (fun c4 => ?_)
    ·obtain ⟨r, hrk⟩ : ∃ r, rows[k]? = some r := ⟨_, List.getElem?_eq_getElem (by omega)⟩
     obtain ⟨RA, rc, ad, hAd, cc, hr, hrc, hrm⟩ := (hS.ext hf).row hrk
     unfold maxLen at hrm
     obtain ⟨q, hqk⟩ : ∃ r, rows[k + 1]? = some r := ⟨_, List.getElem?_eq_getElem (by omega)⟩
     obtain ⟨RA2, rc2, ad2, hAd2, cc2, hr2, hrc2, hrm2⟩ := (hS.ext hf).row hqk
     unfold maxLen at hrm2
     have hr16 := (row_ok_of (hz _ _ hrk)).1
     have hq16 := (row_ok_of (hz _ _ hqk)).1
     have hRr := hR r (List.mem_of_getElem? hrk)
     have hRq := hR q (List.mem_of_getElem? hqk)
     refine wsn ?_
     refine wp_seq ?_
     refine wp_block ?_
     refine wp_seq ?_
     refine region_quiet hmix (by kernel_rfl) ?_
     refine qt_fieldAddr h rfl fa47_0 rfl ?_; clear h a; intro a h
     refine qt_loadB h rfl (fun _ hw => hb1.ext hw) rfl na45 rfl ?_; clear h a; intro a h
     refine qt_move h rfl rfl ?_; clear h a; intro a h
     refine qt_idxS (p := k + 1) h (by rw [hAd2]; rfl) rfl el45 (by omega) (by omega) (by omega) rfl ?_; clear h a; intro a h
     refine qt_loadC0 h rfl (fun _ hw => cc2.fr hw (by simp)) na61 rfl ?_; clear h a; intro a h
     refine qt_call h (evs_cons rfl evs_nil) co70 (fun w hw => (rneeds_ok _ q w (hr2.ext hw) hRq (by omega)).mono fun u w' ⟨e, f⟩ => ⟨e, hw.next f⟩) rfl ?_; clear h a; intro a h
     refine qt_fieldAddr h rfl fa47_0 rfl ?_; clear h a; intro a h
     refine qt_loadB h rfl (fun _ hw => hb1.ext hw) rfl na45 rfl ?_; clear h a; intro a h
     refine qt_move h rfl rfl ?_; clear h a; intro a h
     refine qt_sub h rfl rfl (by first | exact IntWalk.i64_in _ (by omega) | rfl) rfl ?_; clear h a; intro a h
     refine qt_idxS (p := k) h (by rw [hAd]; rfl) rfl el45 (by omega) (by omega) (by omega) rfl ?_; clear h a; intro a h
     refine qt_loadC0 h rfl (fun _ hw => cc.fr hw (by simp)) na61 rfl ?_; clear h a; intro a h
     refine qt_call h (evs_cons rfl evs_nil) co71 (fun w hw => (rmakes_ok _ r w (hr.ext hw) hRr (by omega)).mono fun u w' ⟨e, f⟩ => ⟨e, hw.next f⟩) rfl ?_; clear h a; intro a h
     refine qt_ne h rfl rfl rfl ?_; clear h a; intro a h
     refine wpQuiet_nil ?_
     intro w5 hq
     replace hf := hf.next hq
     replace hb1 := hb1.ext hq
     clear hq
     replace h : Ag a 131 [(1, _), (6, _), (63, _)] := h.sub (.cons rfl (.cons rfl (.cons rfl .nil)))
     refine (norm_then ?_)
     first | refine cond_dec h rfl (fun c5 => ?_) (fun c5 => ?_) | refine cond_ndec h rfl (fun c5 => ?_) (fun c5 => ?_) | refine cond_split h rfl (fun c5 => ?_) (fun c5 => ?_)
     ·refine id ?_
      refine wp_seq ?_
      refine wR ?_
      refine st_assign h rfl rfl ?_; clear h a; intro a h
      refine st_assign h rfl rfl ?_; clear h a; intro a h
      replace h : Ag a 131 [(2, _), (3, _)] := h.sub (.cons rfl (.cons rfl .nil))
      refine wnt ?_
      refine wp_ret (ret_blk (ret_then (ret_then (ret_blk (ret_then ?_)))))
      refine ret2 h Tryd.results53 rfl rfl ?_
      exact ⟨_, rfl, _, by rw [chart_bad (rows14 (by omega) (by omega) hz hrk hqk c5) (by decide)], hf⟩
     ·refine id ?_
      refine wp_skip (norm_blk (norm_then ?_))
      refine wR ?_
      refine st_move h rfl rfl ?_; clear h a; intro a h
      refine st_add h rfl rfl (by first | exact IntWalk.i64_in _ (by omega) | rfl) rfl ?_; clear h a; intro a h
      refine st_assign h rfl rfl ?_; clear h a; intro a h
      replace h : Ag a 131 [(1, _), (6, _)] := h.sub (.cons rfl (.cons rfl .nil))
      refine wnt ?_
      exact ⟨k + 1, h.sub (.cons rfl (.cons (by first | rfl | (congr 2; omega)) .nil)), ⟨by omega, adj_next hadj hrk hqk (Decidable.not_not.1 c5), hb1, hf⟩, by omega⟩
    ·obtain hkl : k + 1 = rows.length := by omega
     have hE0 := rows0 (by omega) (by omega) hz (fun j r q h1 h2 => hadj j r q (by have := (List.getElem?_eq_some_iff.1 h2).1; omega) h1 h2)
     obtain ⟨-, -, -, hadj2⟩ := rows_of hE0
     obtain ⟨r0, hr0k⟩ : ∃ r, rows[0]? = some r := ⟨_, List.getElem?_eq_getElem (by omega)⟩
     have hr016 := row_ok_of (hz _ _ hr0k)
     have hR0 := hR r0 (List.mem_of_getElem? hr0k)
     refine wp_exit (exit_then (exit_then (exit_here (norm_then ?_))))
     refine wp_seq ?_
     refine wR ?_
     refine st_assign h rfl rfl ?_; clear h a; intro a h
     replace h : Ag a 131 [(1, _), (7, _)] := h.sub (.cons rfl (.cons rfl .nil))
     refine wnt ?_
     refine wp_seq ?_
     refine wp_seq ?_
     refine wR ?_
     refine st_assign h rfl rfl ?_; clear h a; intro a h
     refine wnt ?_
     refine wp_block ?_
     refine loop (ι := Nat × Value) (fun z => [(1, .pointer (some ⟨g_1, 0, none⟩)), (7, z.2), (8, .int .i64 (z.1 : Int))]) (fun z w' => (z.1 : Int) ≤ needsR r0 ∧ Lw.Own Enc.i64 3 (g_1 + 1) w' z.2 (List.replicate z.1 1) ∧ Blk w' g_1 47 [.slice A rows.length c] ∧ Fr [] w0 w') (fun z => (needsR r0).toNat - z.1) (0, .slice none 0 0) (h.sub (.cons rfl (.cons rfl (.cons rfl .nil)))) ⟨by simp only; omega, Own.nil _, hb1, hf⟩ ?_
     clear h a hf hb1
     rintro ⟨j, x⟩ w6 a h ⟨hj, ho, hb1, hf⟩
     simp only at hj ho h
     obtain ⟨RA, rc, ad, hAd, cc, hr, hrc, hrm⟩ := (hS.ext hf).row hr0k
     unfold maxLen at hrm
     refine wp_seq ?_
     refine wp_seq ?_
     refine wR ?_
     refine st_move h rfl rfl ?_; clear h a; intro a h
     refine st_fieldAddr h rfl fa47_0 rfl ?_; clear h a; intro a h
     refine st_loadB h rfl hb1 rfl na45 rfl ?_; clear h a; intro a h
     refine st_idxS (p := 0) h (by rw [hAd]; rfl) rfl el45 (by omega) (by omega) (by omega) rfl ?_; clear h a; intro a h
     refine st_loadC0 h rfl cc na61 rfl ?_; clear h a; intro a h
     refine st_call h (evs_cons rfl evs_nil) co70 (rneeds_ok _ r0 _ hr hR0 (by omega)) rfl ?_; clear h a; rintro _ w7 ⟨rfl, hq⟩ a h
     replace hf := hf.next hq
     replace hb1 := hb1.ext hq
     replace ho := ho.ext hq
     clear hq
     refine st_lt h rfl rfl rfl ?_; clear h a; intro a h
     replace h : Ag a 131 [(1, _), (7, _), (8, _), (70, _)] := h.sub (.cons rfl (.cons rfl (.cons rfl (.cons rfl .nil))))
     refine wnt ?_
     first | refine cond_dec h rfl (fun c6 => ?_) (fun c6 => ?_) | refine cond_ndec h rfl (fun c6 => ?_) (fun c6 => ?_) | refine cond_split h rfl (fun c6 => ?_) (fun c6 => ?_)
     ·refine id ?_
      refine wsn ?_
      refine wp_seq ?_
      refine wp_block ?_
      refine wR ?_
      refine st_move h rfl rfl ?_; clear h a; intro a h
      refine st_bslice [(1 : Int)] h (evs_cons rfl evs_nil) rfl rfl rfl el30 (by decide) rfl ?_; clear h a; intro gN w8 hg hoN hq hz a h
      replace hf := hf.next hq
      replace hb1 := hb1.ext hq
      replace ho := ho.ext hq
      clear hq hz hg
      have hbO := ho.blk
      refine st_append h rfl rfl ho hoN.sl el30 (by unfold maxLen; simp; omega) (by simp; omega) (by have := hb1.lt; omega) rfl ?_; clear h a; intro v3 w9 ho3 hq hx3 a h
      replace hb1 := hb1.fr hq (fun hb => by have := (hbO _ hb).1; omega)
      replace hf := hf.step hq (fun k hk hlt => absurd (hbO k hk).1 (by omega))
      clear hoN
      clear ho hq hx3 hbO; have ho := ho3; clear ho3
      refine st_assign h rfl rfl ?_; clear h a; intro a h
      replace h : Ag a 131 [(1, _), (7, _), (8, _)] := h.sub (.cons rfl (.cons rfl (.cons rfl .nil)))
      refine wpList_nil (norm_blk (norm_then ?_))
      refine wR ?_
      refine st_move h rfl rfl ?_; clear h a; intro a h
      refine st_add h rfl rfl (by first | exact IntWalk.i64_in _ (by omega) | rfl) rfl ?_; clear h a; intro a h
      refine st_assign h rfl rfl ?_; clear h a; intro a h
      replace h : Ag a 131 [(1, _), (7, _), (8, _)] := h.sub (.cons rfl (.cons rfl (.cons rfl .nil)))
      refine wnt ?_
      exact ⟨(j + 1, _), h.sub (.cons rfl (.cons rfl (.cons rfl .nil))), ⟨by simp only; omega, by rw [rep_succ]; exact ho, hb1, hf⟩, by simp only; omega⟩
     ·have hjj : (j : Int) = needsR r0 := by omega
      obtain ⟨NA, nc, e, hnc⟩ := ho.sl.form
      rw [List.length_replicate] at e
      subst e
      refine wp_exit (exit_then (exit_then (exit_here (norm_then ?_))))
      refine wp_seq ?_
      refine wR ?_
      refine st_move h rfl rfl ?_; clear h a; intro a h
      refine st_bslice [((NA, j, nc) : SV)] h (evs_cons rfl evs_nil) rfl rfl rfl el111 (by decide) rfl ?_; clear h a; intro gV w10 hg hoV hq hz a h
      have hgV : g_1 + 1 ≤ gV := by have := hb1.lt; omega
      replace hf := hf.next hq
      replace hb1 := hb1.ext hq
      replace ho := ho.ext hq
      clear hq hz hg
      refine st_assign h rfl rfl ?_; clear h a; intro a h
      replace h : Ag a 131 [(1, _), (7, _), (9, _)] := h.sub (.cons rfl (.cons rfl (.cons rfl .nil)))
      refine wnt ?_
      refine wp_seq ?_
      refine wp_seq ?_
      refine wR ?_
      refine st_assign h rfl rfl ?_; clear h a; intro a h
      refine wnt ?_
      refine wp_block ?_
      refine loop (ι := RefSt) (fun z => [(1, .pointer (some ⟨g_1, 0, none⟩)), (7, z.N), (9, z.OV), (10, .int .i64 (z.i : Int))]) (fun z w' => z.i ≤ rows.length ∧ (∀ r, rows[z.i]? = some r → (z.ls.length : Int) = needsR r) ∧ runRows (rows.drop z.i) z.ls = chartE rows ∧ Lw.Own Enc.i64 3 (g_1 + 1) w' z.N z.ls ∧ Lw.Own Enc.sl 30 (g_1 + 1) w' z.OV z.hs ∧ z.hs.length = z.i + 1 ∧ Blk w' g_1 47 [.slice A rows.length c] ∧ Fr [] w0 w') (fun z => rows.length - z.i) ⟨0, _, List.replicate j 1, _, [(NA, j, nc)]⟩ (h.sub (.cons rfl (.cons rfl (.cons rfl (.cons rfl .nil))))) ⟨Nat.zero_le _, fun r hr => by rw [hr0k] at hr; cases hr; simpa using hjj, by rw [chart_run hE0, startL, List.getD, hr0k, List.drop_zero]; show runRows rows (List.replicate j 1) = runRows rows (List.replicate (needsR r0).toNat 1); rw [show (needsR r0).toNat = j by omega], ho, hoV.low hgV, rfl, hb1, hf⟩ ?_
      clear h a hf hb1 ho hoV
      rintro ⟨i, N, ls, OV, hs⟩ w11 a h ⟨hi, hln, hrs, hN, hO, hol, hb1, hf⟩
      simp only at hi hln hrs hN hO hol h
      obtain ⟨NA, nc, rfl, hnc⟩ := hN.sl.form
      refine wp_seq ?_
      refine wp_seq ?_
      refine wR ?_
      refine st_move h rfl rfl ?_; clear h a; intro a h
      refine st_fieldAddr h rfl fa47_0 rfl ?_; clear h a; intro a h
      refine st_loadB h rfl hb1 rfl na45 rfl ?_; clear h a; intro a h
      refine st_lenS h rfl Tryd.underlying45 rfl ?_; clear h a; intro a h
      refine st_lt h rfl rfl rfl ?_; clear h a; intro a h
      replace h : Ag a 131 [(1, _), (7, _), (9, _), (10, _), (82, _)] := h.sub (.cons rfl (.cons rfl (.cons rfl (.cons rfl (.cons rfl .nil)))))
      refine wnt ?_
      first | refine cond_dec h rfl (fun c7 => ?_) (fun c7 => ?_) | refine cond_ndec h rfl (fun c7 => ?_) (fun c7 => ?_) | refine cond_split h rfl (fun c7 => ?_) (fun c7 => ?_)
      ·obtain ⟨r, hrk⟩ : ∃ r, rows[i]? = some r := ⟨_, List.getElem?_eq_getElem (by omega)⟩
       have hr16 := row_ok_of (hz _ _ hrk)
       have hRr := hR r (List.mem_of_getElem? hrk)
       obtain ⟨gI, hgI⟩ : ∃ g, g = w11.heap.size := ⟨_, rfl⟩
       have hOI : ∀ k ∈ blks OV, k < gI := fun k hk => by have := (hO.blk k hk).2; omega
       have hNI : ∀ k ∈ blks (.slice NA ls.length nc), k < gI := fun k hk => by have := (hN.blk k hk).2; omega
       have hg1I : g_1 < gI := by have := hb1.lt; omega
       have hw0I : w0.heap.size ≤ gI := by have := hf.size; omega
       refine wsn ?_
       refine wp_seq ?_
       refine wp_block ?_
       refine wp_seq ?_
       refine wR ?_
       refine st_assign h rfl rfl ?_; clear h a; intro a h
       replace h : Ag a 131 [(1, _), (7, _), (9, _), (10, _), (11, _)] := h.sub (.cons rfl (.cons rfl (.cons rfl (.cons rfl (.cons rfl .nil)))))
       refine wnt ?_
       refine wp_seq ?_
       refine wR ?_
       refine st_assign h rfl rfl ?_; clear h a; intro a h
       refine wnt ?_
       refine wp_seq ?_
       refine wp_seq ?_
       refine wR ?_
       refine st_assign h rfl rfl ?_; clear h a; intro a h
       refine wnt ?_
       refine wp_block ?_
       refine loop (ι := InSt) (fun z => [(1, .pointer (some ⟨g_1, 0, none⟩)), (7, .slice NA ls.length nc), (9, OV), (10, .int .i64 (i : Int)), (11, .int .i64 (z.at_ : Int)), (12, z.X), (13, .int .i64 (z.k : Int))]) (fun z w' => z.k ≤ r.length ∧ z.at_ ≤ ls.length ∧ ((ls.drop z.at_).length : Int) = needsR (r.drop z.k) ∧ runRow (r.drop z.k) (ls.drop z.at_) z.acc = runRow r ls [] ∧ z.acc.length ≤ 4 * z.k ∧ Lw.Own Enc.i64 3 gI w' z.X z.acc ∧ Lw.Own Enc.i64 3 (g_1 + 1) w' (.slice NA ls.length nc) ls ∧ Lw.Own Enc.sl 30 (g_1 + 1) w' OV hs ∧ Blk w' g_1 47 [.slice A rows.length c] ∧ gI ≤ w'.heap.size ∧ Fr [] w0 w') (fun z => r.length - z.k) ⟨0, 0, [], .slice none 0 0⟩ (h.sub (.cons rfl (.cons rfl (.cons rfl (.cons rfl (.cons rfl (.cons rfl (.cons rfl .nil)))))))) ⟨Nat.zero_le _, Nat.zero_le _, by simpa using hln r hrk, rfl, Nat.le_refl _, Own.nil _, hN, hO, hb1, by omega, hf⟩ ?_
       clear h a hf hb1 hN hO
       rintro ⟨k, at_, acc, X⟩ w12 a h ⟨hk, hat, hdl, hrr, hal, hX, hN, hO, hb1, hgs, hf⟩
       simp only at hk hat hdl hrr hal hX h
       obtain ⟨RA, rc, ad, hAd, cc, hr, hrc, hrm⟩ := (hS.ext hf).row hrk
       unfold maxLen at hrm
       refine wp_seq ?_
       refine wp_seq ?_
       refine wR ?_
       refine st_move h rfl rfl ?_; clear h a; intro a h
       refine st_fieldAddr h rfl fa47_0 rfl ?_; clear h a; intro a h
       refine st_loadB h rfl hb1 rfl na45 rfl ?_; clear h a; intro a h
       refine st_move h rfl rfl ?_; clear h a; intro a h
       refine st_idxS (p := i) h (by rw [hAd]; rfl) rfl el45 (by omega) (by omega) (by omega) rfl ?_; clear h a; intro a h
       refine st_loadC0 h rfl cc na61 rfl ?_; clear h a; intro a h
       refine st_lenS h rfl Tryd.underlying61 rfl ?_; clear h a; intro a h
       refine st_lt h rfl rfl rfl ?_; clear h a; intro a h
       replace h : Ag a 131 [(1, _), (7, _), (9, _), (10, _), (11, _), (12, _), (13, _), (92, _)] := h.sub (.cons rfl (.cons rfl (.cons rfl (.cons rfl (.cons rfl (.cons rfl (.cons rfl (.cons rfl .nil))))))))
       refine wnt ?_
       first | refine cond_dec h rfl (fun c8 => ?_) (fun c8 => ?_) | refine cond_ndec h rfl (fun c8 => ?_) (fun c8 => ?_) | refine cond_split h rfl (fun c8 => ?_) (fun c8 => ?_)
       ·obtain ⟨s, hsk⟩ : ∃ s, r[k]? = some s := ⟨_, List.getElem?_eq_getElem (by omega)⟩
        obtain ⟨-, -, -, hE⟩ := Sl.open_ hr
        obtain ⟨sa, hsa, csx⟩ := hE k s hsk
        obtain ⟨p1, p2⟩ := hRr s (List.mem_of_getElem? hsk)
        have hnd := needs_drop hsk
        have hnp := needs_pos (r.drop (k + 1))
        have hnr := needs_rng s
        have hdl2 : ((ls.length - at_ : Nat) : Int) = needsR (r.drop k) := by rw [← hdl, List.length_drop]
        have hls16 : ls.length ≤ 16 := by have := hln r hrk; omega
        refine wsn ?_
        refine wp_seq ?_
        refine wp_block ?_
        refine wp_seq ?_
        refine wR ?_
        refine st_fieldAddr h rfl fa47_0 rfl ?_; clear h a; intro a h
        refine st_loadB h rfl hb1 rfl na45 rfl ?_; clear h a; intro a h
        refine st_move h rfl rfl ?_; clear h a; intro a h
        refine st_idxS (p := i) h (by rw [hAd]; rfl) rfl el45 (by omega) (by omega) (by omega) rfl ?_; clear h a; intro a h
        refine st_loadC0 h rfl cc na61 rfl ?_; clear h a; intro a h
        refine st_move h rfl rfl ?_; clear h a; intro a h
        refine st_idxS (p := k) h (by rw [hsa]; rfl) rfl el61 (by omega) (by omega) (by omega) rfl ?_; clear h a; intro a h
        refine st_loadA h rfl csx ag100 rfl ?_; clear h a; intro a h
        refine st_alloc h zv100 rfl rfl ?_; clear h a; intro w13 hb14 hq hz a h
        obtain ⟨g_14, hg⟩ : ∃ g, g = w12.heap.size := ⟨_, rfl⟩; rw [← hg] at hb14 h hz
        have hl14 : w0.heap.size ≤ g_14 := by have := hf.size; omega
        have hn_1_14 : g_1 < g_14 := by have := hb1.lt; omega
        have hlt_hX_14 : ∀ k ∈ blks X, k < g_14 := fun k hk => by have := (hX.blk k hk).2; omega
        have hlt_hN_14 : ∀ k ∈ blks (.slice NA ls.length nc), k < g_14 := fun k hk => by have := (hN.blk k hk).2; omega
        have hlt_hO_14 : ∀ k ∈ blks OV, k < g_14 := fun k hk => by have := (hO.blk k hk).2; omega
        replace hf := hf.next hq
        replace hb1 := hb1.ext hq
        replace hX := hX.ext hq
        replace hN := hN.ext hq
        replace hO := hO.ext hq
        replace hgs := Nat.le_trans hgs hq.size
        clear hq hz hg
        refine st_storeBA h rfl rfl hb14 rfl (by first | (simp [Value.oneCell', S]; done) | exact Enc.one _ _) sz100 ?_; clear h a; intro w14 hbn hq hz a h
        replace hf := hf.step hq (by first | (simp; done) | (simp; omega))
        replace hb1 := hb1.fr hq (by first | (simp; done) | (simp; omega) | (simp [blks]; done) | (simp [blks]; omega))
        replace hX := hX.fr hq (by intro k hk hb; simp at hk; subst hk; exact absurd (hlt_hX_14 _ hb) (by omega))
        replace hN := hN.fr hq (by intro k hk hb; simp at hk; subst hk; exact absurd (hlt_hN_14 _ hb) (by omega))
        replace hO := hO.fr hq (by intro k hk hb; simp at hk; subst hk; exact absurd (hlt_hO_14 _ hb) (by omega))
        replace hgs := Nat.le_trans hgs hq.size
        clear hb14 hq hz; have hb14 : Blk w14 g_14 _ [_, _, _, _, _] := hbn; clear hbn
        replace h : Ag a 131 [(1, _), (7, _), (9, _), (10, _), (11, _), (12, _), (13, _), (14, _)] := h.sub (.cons rfl (.cons rfl (.cons rfl (.cons rfl (.cons rfl (.cons rfl (.cons rfl (.cons rfl .nil))))))))
        refine wnt ?_
        refine wp_seq ?_
        refine wR ?_
        refine st_loadBA h rfl hb14 ag100 rfl ?_; clear h a; intro a h
        refine st_call h (evs_cons rfl evs_nil) co72 (refneeds_ok s _ p1 p2) rfl ?_; clear h a; rintro _ w15 ⟨rfl, hq⟩ a h
        replace hf := hf.next hq
        replace hb1 := hb1.ext hq
        replace hX := hX.ext hq
        replace hN := hN.ext hq
        replace hO := hO.ext hq
        replace hgs := Nat.le_trans hgs hq.size
        replace hb14 := hb14.ext hq
        clear hq
        refine st_assign h rfl rfl ?_; clear h a; intro a h
        replace h : Ag a 131 [(1, _), (7, _), (9, _), (10, _), (11, _), (12, _), (13, _), (14, _), (15, _)] := h.sub (.cons rfl (.cons rfl (.cons rfl (.cons rfl (.cons rfl (.cons rfl (.cons rfl (.cons rfl (.cons rfl .nil)))))))))
        refine wnt ?_
        refine wp_seq ?_
        refine region_held (fun wb w' => Fr [] wb w') hmix ?_; intro w16 hq
        replace hf := hf.next hq
        replace hb1 := hb1.ext hq
        replace hX := hX.ext hq
        replace hN := hN.ext hq
        replace hO := hO.ext hq
        replace hgs := Nat.le_trans hgs hq.size
        replace hb14 := hb14.ext hq
        clear hq; have hC : Fr [] w16 w16 := Fr.refl _ _
        have hb1_b := hb1
        have hX_b := hX
        have hN_b := hN
        have hO_b := hO
        have hb14_b := hb14
        refine hd_loadBA 0 (by kernel_rfl) (by kernel_rfl) (by kernel_rfl) hC h wn rfl (fun _ hw => hb14_b.ext hw) ag100 rfl rfl ?_; clear h a; intro a h
        refine hd_move 1 (by kernel_rfl) (by kernel_rfl) (by kernel_rfl) hC h wn rfl rfl rfl ?_; clear h a; intro a h
        refine hd_move 2 (by kernel_rfl) (by kernel_rfl) (by kernel_rfl) hC h wn rfl rfl rfl ?_; clear h a; intro a h
        refine hd_move 3 (by kernel_rfl) (by kernel_rfl) (by kernel_rfl) hC h wn rfl rfl rfl ?_; clear h a; intro a h
        refine hd_move 4 (by kernel_rfl) (by kernel_rfl) (by kernel_rfl) hC h wn rfl rfl rfl ?_; clear h a; intro a h
        refine hd_add 5 (by kernel_rfl) (by kernel_rfl) (by kernel_rfl) hC h wn rfl rfl (by first | exact IntWalk.i64_in _ (by omega) | rfl) rfl rfl ?_; clear h a; intro a h
        refine hd_sl_lh 6 (by kernel_rfl) (by kernel_rfl) (by kernel_rfl) hC (p := at_) (p' := at_ + (needsS s).toNat) h wn rfl rfl rfl el30 (by omega) (by omega) (by omega) (by omega) (by omega) rfl rfl ?_; clear h a; intro a h
        refine hd_one 7 (by kernel_rfl) rfl ?_
        have hpt := Sl.part hN.sl (i := at_) (m := (needsS s).toNat) (by omega)
        refine st_call h (evs_cons rfl (evs_cons rfl evs_nil)) co73 (refloads_ok s _ _ _ p1 p2 hpt) rfl ?_; clear h a; rintro _ w17 ⟨rv, rfl, hrv, hq⟩ a h
        have hXr : ∀ k ∈ blks X, k ∉ blks rv := fun k hk hk2 => by have := (hX.blk k hk).2; have := (hrv.blk k hk2).1; omega
        replace hf := hf.next hq
        replace hb1 := hb1.ext hq
        replace hX := hX.ext hq
        replace hN := hN.ext hq
        replace hO := hO.ext hq
        replace hgs := Nat.le_trans hgs hq.size
        replace hb14 := hb14.ext hq
        replace hC := hC.next hq
        clear hq hpt
        refine hd_next hC ?_
        refine hd_move 8 (by kernel_rfl) (by kernel_rfl) (by kernel_rfl) hC h wn rfl rfl rfl ?_; clear h a; intro a h
        refine hd_extract 9 (by kernel_rfl) (by kernel_rfl) (by kernel_rfl) hC h wn rfl rfl rfl rfl ?_; clear h a; intro a h
        refine hd_extract 10 (by kernel_rfl) (by kernel_rfl) (by kernel_rfl) hC h wn rfl rfl rfl rfl ?_; clear h a; intro a h
        refine hd_one 11 (by kernel_rfl) rfl ?_
        refine st_assign h rfl rfl ?_; clear h a; intro a h
        refine hd_next hC ?_
        refine hd_one 12 (by kernel_rfl) rfl ?_
        refine st_assign h rfl rfl ?_; clear h a; intro a h
        refine hd_next hC ?_
        refine hd_end (by kernel_rfl) ?_
        clear hC hb1_b hX_b hN_b hO_b hb14_b
        replace h : Ag a 131 [(1, _), (7, _), (9, _), (10, _), (11, _), (12, _), (13, _), (15, _), (16, _), (17, _)] := h.sub (.cons rfl (.cons rfl (.cons rfl (.cons rfl (.cons rfl (.cons rfl (.cons rfl (.cons rfl (.cons rfl (.cons rfl .nil))))))))))
        refine (norm_then ?_)
        refine wp_seq ?_
        refine wp_seq ?_
        refine wR ?_
        refine st_move h rfl rfl ?_; clear h a; intro a h
        refine st_ne h rfl rfl rfl ?_; clear h a; intro a h
        replace h : Ag a 131 [(1, _), (7, _), (9, _), (10, _), (11, _), (12, _), (13, _), (15, _), (16, _), (17, _), (117, _)] := h.sub (.cons rfl (.cons rfl (.cons rfl (.cons rfl (.cons rfl (.cons rfl (.cons rfl (.cons rfl (.cons rfl (.cons rfl (.cons rfl .nil)))))))))))
        refine wnt ?_
        first | refine cond_dec h rfl (fun c9 => ?_) (fun c9 => ?_) | refine cond_ndec h rfl (fun c9 => ?_) (fun c9 => ?_) | refine cond_split h rfl (fun c9 => ?_) (fun c9 => ?_)
        ·have hbad := rs_bad hrs hrk (by rw [rr_bad hrr hsk c9]; exact c9)
         rw [rr_bad hrr hsk c9] at hbad
         refine wp_seq ?_
         refine wR ?_
         refine st_move h rfl rfl ?_; clear h a; intro a h
         refine st_assign h rfl rfl ?_; clear h a; intro a h
         refine st_assign h rfl rfl ?_; clear h a; intro a h
         replace h : Ag a 131 [(2, _), (3, _)] := h.sub (.cons rfl (.cons rfl .nil))
         refine wnt ?_
         refine wp_ret (ret_then (ret_blk (ret_then (ret_then (ret_blk (ret_then (ret_blk (ret_then (ret_then (ret_blk (ret_then ?_)))))))))))
         refine ret2 h Tryd.results53 rfl rfl ?_
         exact ⟨_, rfl, _, by rw [hbad]; rfl, hf⟩
        ·clear hb14
         have h0' : ¬ (loadsS s ((ls.drop at_).take (needsS s).toNat)).2 ≠ 0 := c9
         have hll := loads_len s ((ls.drop at_).take (needsS s).toNat)
         refine wsn ?_
         refine wp_seq ?_
         refine wR ?_
         refine st_move h rfl rfl ?_; clear h a; intro a h
         refine st_move h rfl rfl ?_; clear h a; intro a h
         have hbO := hX.blk
         refine st_append h rfl rfl hX hrv.sl el30 (by unfold maxLen; omega) (by omega) (by omega) rfl ?_; clear h a; intro X3 w18 ho3 hq hx3 a h
         replace hN := hN.fr hq (fun k hk hb => by have := (hbO k hk).1; have := hNI k hb; omega)
         replace hO := hO.fr hq (fun k hk hb => by have := (hbO k hk).1; have := hOI k hb; omega)
         replace hb1 := hb1.fr hq (fun hb => by have := (hbO _ hb).1; omega)
         replace hf := hf.step hq (fun k hk hlt => absurd (hbO k hk).1 (by omega))
         replace hgs := Nat.le_trans hgs hq.size
         clear hrv hXr
         clear hX hq hx3 hbO; have hX := ho3; clear ho3
         refine st_assign h rfl rfl ?_; clear h a; intro a h
         replace h : Ag a 131 [(1, _), (7, _), (9, _), (10, _), (11, _), (12, _), (13, _), (15, _)] := h.sub (.cons rfl (.cons rfl (.cons rfl (.cons rfl (.cons rfl (.cons rfl (.cons rfl (.cons rfl .nil))))))))
         refine wnt ?_
         refine wR ?_
         refine st_move h rfl rfl ?_; clear h a; intro a h
         refine st_move h rfl rfl ?_; clear h a; intro a h
         refine st_add h rfl rfl (by first | exact IntWalk.i64_in _ (by omega) | rfl) rfl ?_; clear h a; intro a h
         refine st_assign h rfl rfl ?_; clear h a; intro a h
         replace h : Ag a 131 [(1, _), (7, _), (9, _), (10, _), (11, _), (12, _), (13, _)] := h.sub (.cons rfl (.cons rfl (.cons rfl (.cons rfl (.cons rfl (.cons rfl (.cons rfl .nil)))))))
         refine wpList_nil (norm_blk (norm_then ?_))
         refine wR ?_
         refine st_move h rfl rfl ?_; clear h a; intro a h
         refine st_add h rfl rfl (by first | exact IntWalk.i64_in _ (by omega) | rfl) rfl ?_; clear h a; intro a h
         refine st_assign h rfl rfl ?_; clear h a; intro a h
         replace h : Ag a 131 [(1, _), (7, _), (9, _), (10, _), (11, _), (12, _), (13, _)] := h.sub (.cons rfl (.cons rfl (.cons rfl (.cons rfl (.cons rfl (.cons rfl (.cons rfl .nil)))))))
         refine wnt ?_
         exact ⟨⟨k + 1, at_ + (needsS s).toNat, acc ++ (loadsS s ((ls.drop at_).take (needsS s).toNat)).1, _⟩, h.sub (.cons rfl (.cons rfl (.cons rfl (.cons rfl (.cons (by show some (Value.int IntKind.i64 ((at_ : Int) + needsS s)) = some (Value.int IntKind.i64 ((at_ + (needsS s).toNat : Nat) : Int)); congr 2; omega) (.cons rfl (.cons rfl .nil))))))), ⟨by simp only; omega, by simp only; omega, by simp only [List.length_drop] at hdl ⊢; omega, rr_next hrr hsk h0', by simp only [List.length_append]; omega, hX, hN, hO, hb1, hgs, hf⟩, by simp only; omega⟩
       ·obtain rfl : k = r.length := by omega
        have hrow := rr_end hrr
        have hrsn := rs_next hrs hrk hrow
        have hal2 := run_next_len hrow
        have hlnn : ∀ q, rows[i + 1]? = some q → (acc.length : Int) = needsR q := fun q hq => by rw [hadj2 i r q hrk hq]; exact hal2
        obtain ⟨XA, xc, rfl, hxc⟩ := hX.sl.form
        refine wp_exit (exit_then (exit_then (exit_here (norm_then ?_))))
        refine wp_seq ?_
        refine wR ?_
        refine st_move h rfl rfl ?_; clear h a; intro a h
        refine st_assign h rfl rfl ?_; clear h a; intro a h
        replace h : Ag a 131 [(1, _), (7, _), (9, _), (10, _), (12, _)] := h.sub (.cons rfl (.cons rfl (.cons rfl (.cons rfl (.cons rfl .nil)))))
        refine wnt ?_
        refine wR ?_
        refine st_move h rfl rfl ?_; clear h a; intro a h
        refine st_move h rfl rfl ?_; clear h a; intro a h
        refine st_bslice [((XA, acc.length, xc) : SV)] h (evs_cons rfl evs_nil) rfl rfl rfl el111 (by decide) rfl ?_; clear h a; intro gV w19 hg hoV hq hz a h
        have hXO : ∀ k ∈ blks OV, k ∉ blks (.slice XA acc.length xc) := fun k hk hk2 => by have := hOI k hk; have := (hX.blk k hk2).1; omega
        replace hf := hf.next hq
        replace hb1 := hb1.ext hq
        replace hX := hX.ext hq
        replace hN := hN.ext hq
        replace hO := hO.ext hq
        replace hgs := Nat.le_trans hgs hq.size
        clear hq hz hg
        have hbO := hO.blk
        refine st_append h rfl rfl hO hoV.sl el111 (by unfold maxLen; simp; omega) (by simp; omega) (by have := hb1.lt; omega) rfl ?_; clear h a; intro O3 w20 ho3 hq hx3 a h
        replace hX := hX.fr hq hXO
        replace hb1 := hb1.fr hq (fun hb => by have := (hbO _ hb).1; omega)
        replace hf := hf.step hq (fun k hk hlt => absurd (hbO k hk).1 (by omega))
        clear hoV hN
        clear hO hq hx3 hbO; have hO := ho3; clear ho3
        refine st_assign h rfl rfl ?_; clear h a; intro a h
        replace h : Ag a 131 [(1, _), (7, _), (9, _), (10, _)] := h.sub (.cons rfl (.cons rfl (.cons rfl (.cons rfl .nil))))
        refine wpList_nil (norm_blk (norm_then ?_))
        refine wR ?_
        refine st_move h rfl rfl ?_; clear h a; intro a h
        refine st_add h rfl rfl (by first | exact IntWalk.i64_in _ (by omega) | rfl) rfl ?_; clear h a; intro a h
        refine st_assign h rfl rfl ?_; clear h a; intro a h
        replace h : Ag a 131 [(1, _), (7, _), (9, _), (10, _)] := h.sub (.cons rfl (.cons rfl (.cons rfl (.cons rfl .nil))))
        refine wnt ?_
        exact ⟨⟨i + 1, _, acc, _, hs ++ [(XA, acc.length, xc)]⟩, h.sub (.cons rfl (.cons rfl (.cons rfl (.cons rfl .nil)))), ⟨by simp only; omega, hlnn, hrsn, hX.low (by omega), hO, by simp [hol], hb1, hf⟩, by simp only; omega⟩
      ·obtain rfl : i = rows.length := by omega
       have hend := rs_end hrs
       refine wp_exit (exit_then (exit_then (exit_here (norm_then ?_))))
       refine wp_seq ?_
       refine wR ?_
       refine st_move h rfl rfl ?_; clear h a; intro a h
       refine st_assign h rfl rfl ?_; clear h a; intro a h
       refine st_assign h rfl rfl ?_; clear h a; intro a h
       replace h : Ag a 131 [(2, _), (3, _)] := h.sub (.cons rfl (.cons rfl .nil))
       refine wnt ?_
       refine wp_ret ?_
       refine ret2 h Tryd.results53 rfl rfl ?_
       exact ⟨_, rfl, _, by rw [hend], hf⟩
end Go.Proofs.YthehggmdcmpjeaaDoor
namespace Go.Proofs.YthehggmdcmpjeaaDoor
open Go.Lw Go.G14
theorem co65 : CallOf Tryd.prog 65 := CallOf.mk' Tryd.func65 (by kernel_rfl) (by kernel_rfl)
theorem co83 : CallOf Tryd.prog 83 := CallOf.mk' Tryd.func83 (by kernel_rfl) (by kernel_rfl)
theorem co84 : CallOf Tryd.prog 84 := CallOf.mk' Tryd.func84 (by kernel_rfl) (by kernel_rfl)
theorem na30 : NotAgg Tryd.prog 30 := fun _ => by kernel_rfl
theorem sz30 : SizeOf Tryd.prog 30 1 := fun _ => by kernel_rfl
theorem zv30 (w : World) : (zeroValue 30).run Tryd.prog w = .ok (.slice none 0 0) w := by kernel_rfl
set_option maxHeartbeats 2000000 in
theorem chart_ok (u : Value) (rows : List (List Stitch)) (w0 : World) (hS : Sll encSt w0 u rows) : Rets Tryd.prog 65 #[.agg #[u]] w0 fun v w' => ∃ X, v = .tuple #[X, .int .i64 (chartE rows)] ∧ Fr [] w0 w' := by
 obtain ⟨A, c, rfl, hcp, hM⟩ := hS.form
 unfold maxLen at hM
 refine enter [(0, .agg #[.slice A rows.length c])] Tryd.func65 rfl Tryd.ntmps65 rfl (.cons rfl .nil) ?_
 have hf := Fr.refl [] w0
 intro a h
 refine wp_seq ?_
 refine wR ?_
 refine st_box h rfl rfl rfl ?_; clear h a; intro w1 hb1 hq hz a h
 obtain ⟨g_1, hg⟩ : ∃ g, g = w0.heap.size := ⟨_, rfl⟩; rw [← hg] at hb1 h hz
 have hl1 : w0.heap.size ≤ g_1 := by have := hf.size; omega
 replace hf := hf.next hq
 clear hq hz hg
 refine st_assign h rfl rfl ?_; clear h a; intro a h
 refine st_assign h rfl rfl ?_; clear h a; intro a h
 replace h : Ag a 97 [(1, _)] := h.sub (.cons rfl .nil)
 refine wnt ?_
 refine wp_scope_straight ?_
 refine wp_seq ?_
 refine wp_seq ?_
 refine wR ?_
 refine st_fieldAddr h rfl fa47_0 rfl ?_; clear h a; intro a h
 refine st_loadB h rfl hb1 rfl na45 rfl ?_; clear h a; intro a h
 refine st_call h (evs_cons rfl evs_nil) co83 (checkrows_ok _ rows _ (hS.ext hf)) rfl ?_; clear h a; rintro _ w2 ⟨rfl, hq⟩ a h
 replace hf := hf.next hq
 replace hb1 := hb1.ext hq
 clear hq
 refine st_assign h rfl rfl ?_; clear h a; intro a h
 replace h : Ag a 97 [(1, _), (4, _)] := h.sub (.cons rfl (.cons rfl .nil))
 refine wnt ?_
 refine wp_seq ?_
 refine wR ?_
 refine st_move h rfl rfl ?_; clear h a; intro a h
 refine st_ne h rfl rfl rfl ?_; clear h a; intro a h
 replace h : Ag a 97 [(1, _), (4, _), (22, _)] := h.sub (.cons rfl (.cons rfl (.cons rfl .nil)))
 refine wnt ?_
 first | refine cond_dec h rfl (fun c0 => ?_) (fun c0 => ?_) | refine cond_ndec h rfl (fun c0 => ?_) (fun c0 => ?_) | refine cond_split h rfl (fun c0 => ?_) (fun c0 => ?_)
 ·have hE := c0
  refine wp_seq ?_
  refine wR ?_
  refine st_move h rfl rfl ?_; clear h a; intro a h
  refine st_assign h rfl rfl ?_; clear h a; intro a h
  refine st_assign h rfl rfl ?_; clear h a; intro a h
  replace h : Ag a 97 [(2, _), (3, _)] := h.sub (.cons rfl (.cons rfl .nil))
  refine wnt ?_
  refine wp_ret (ret_then (ret_sc ?_))
  refine ret2 h Tryd.results65 rfl rfl ?_
  exact ⟨_, rfl, _, by rw [chart_bad rfl hE], hf⟩
 ·have hE0 : rowsE rows = 0 := Decidable.not_not.1 c0
  obtain ⟨hl31, hl2, hz, hadj2⟩ := rows_of hE0
  obtain ⟨r0, hr0k⟩ : ∃ r, rows[0]? = some r := ⟨_, List.getElem?_eq_getElem (by omega)⟩
  have hr016 := row_ok_of (hz _ _ hr0k)
  obtain ⟨RA, rc, ad, hAd, cc, hr, hrc, hrm⟩ := hS.row hr0k
  unfold maxLen at hrm
  refine wsn ?_
  refine wp_seq ?_
  refine wR ?_
  refine st_fieldAddr h rfl fa47_0 rfl ?_; clear h a; intro a h
  refine st_loadB h rfl hb1 rfl na45 rfl ?_; clear h a; intro a h
  refine st_idxS (p := 0) h (by rw [hAd]; rfl) rfl el45 (by omega) (by omega) (by omega) rfl ?_; clear h a; intro a h
  refine st_loadC0 h rfl (cc.fr hf (by simp)) na61 rfl ?_; clear h a; intro a h
  refine st_call h (evs_cons rfl evs_nil) co48 (cneeds_ok _ r0 _ (hr.ext hf) (by omega)) rfl ?_; clear h a; rintro _ w3 ⟨rfl, hq⟩ a h
  replace hf := hf.next hq
  replace hb1 := hb1.ext hq
  clear hq
  obtain ⟨n0, hn0⟩ : ∃ n : Nat, (n : Int) = needsR r0 := ⟨(needsR r0).toNat, by omega⟩
  rw [← hn0] at h
  refine st_makeSlice (0 : Int) h rfl rfl el30 zv3 rfl (Nat.le_refl _) (by omega) (by unfold maxLen; omega) rfl ?_; clear h a; intro gF w4 hg hF hq hz a h
  have hgF : w0.heap.size ≤ gF := by have := hf.size; omega
  have hg1F : g_1 < gF := by have := hb1.lt; omega
  replace hf := hf.next hq
  replace hb1 := hb1.ext hq
  clear hq hz hg
  refine st_assign h rfl rfl ?_; clear h a; intro a h
  replace h : Ag a 97 [(1, _), (5, _)] := h.sub (.cons rfl (.cons rfl .nil))
  refine wnt ?_
  refine wp_seq ?_
  refine wp_seq ?_
  refine wR ?_
  refine st_move h rfl rfl ?_; clear h a; intro a h
  refine st_lenS h rfl Tryd.underlying30 rfl ?_; clear h a; intro a h
  refine st_move h rfl rfl ?_; clear h a; intro a h
  replace h : Ag a 97 [(1, _), (5, _), (31, _), (32, _)] := h.sub (.cons rfl (.cons rfl (.cons rfl (.cons rfl .nil))))
  refine wnt ?_
  refine wp_block ?_
  refine loop (ι := Nat) (fun j => [(1, .pointer (some ⟨g_1, 0, none⟩)), (5, .slice (some ⟨gF, 0, none⟩) n0 n0), (31, .int .i64 (n0 : Int)), (32, .int .i64 (j : Int))]) (fun j w' => j ≤ n0 ∧ Lw.Own Enc.i64 3 gF w' (.slice (some ⟨gF, 0, none⟩) n0 n0) (List.replicate j 1 ++ List.replicate (n0 - j) 0) ∧ Blk w' g_1 47 [.slice A rows.length c] ∧ Fr [] w0 w') (fun j => n0 - j) 0 (h.sub (.cons rfl (.cons rfl (.cons rfl (.cons rfl .nil))))) ⟨by omega, by simpa using hF, hb1, hf⟩ ?_
  clear h a hf hb1 hF
  rintro j w5 a h ⟨hj, hF, hb1, hf⟩
  refine wp_seq ?_
  refine wR ?_
  refine st_lt h rfl rfl rfl ?_; clear h a; intro a h
  refine wnt ?_
  refine wp_seq ?_
  first | refine cond_dec h rfl (fun c1 => ?_) (fun c1 => ?_) | refine cond_ndec h rfl (fun c1 => ?_) (fun c1 => ?_) | refine cond_split h rfl (fun c1 => ?_) (fun c1 => ?_)
  ·refine id ?_
   refine wsn ?_
   refine wp_seq ?_
   refine wp_block ?_
   refine wp_seq ?_
   refine wR ?_
   refine st_move h rfl rfl ?_; clear h a; intro a h
   refine st_assign h rfl rfl ?_; clear h a; intro a h
   replace h : Ag a 97 [(1, _), (5, _), (6, _), (31, _), (32, _)] := h.sub (.cons rfl (.cons rfl (.cons rfl (.cons rfl (.cons rfl .nil)))))
   refine wnt ?_
   refine wR ?_
   refine st_move h rfl rfl ?_; clear h a; intro a h
   refine st_move h rfl rfl ?_; clear h a; intro a h
   refine st_idxS (p := j) h rfl rfl el30 (by omega) (by omega) (by omega) rfl ?_; clear h a; intro a h
   refine st_storeO (i := j) (1 : Int) h rfl rfl hF (by simp; omega) rfl sz3 ?_; clear h a; intro w6 hO2 hq hz a h
   replace hb1 := hb1.fr hq (by simp; omega)
   replace hf := hf.step hq (by simp; omega)
   clear hF hq hz; have hF := hO2; clear hO2
   rw [set_one j _ (by omega)] at hF
   replace h : Ag a 97 [(1, _), (5, _), (31, _), (32, _)] := h.sub (.cons rfl (.cons rfl (.cons rfl (.cons rfl .nil))))
   refine wpList_nil (norm_blk (norm_then ?_))
   refine wR ?_
   refine st_add h rfl rfl (by first | exact IntWalk.i64_in _ (by omega) | rfl) rfl ?_; clear h a; intro a h
   refine st_move h rfl rfl ?_; clear h a; intro a h
   replace h : Ag a 97 [(1, _), (5, _), (31, _), (32, _)] := h.sub (.cons rfl (.cons rfl (.cons rfl (.cons rfl .nil))))
   refine wnt ?_
   exact ⟨j + 1, h.sub (.cons rfl (.cons rfl (.cons rfl (.cons rfl .nil)))), ⟨by omega, hF, hb1, hf⟩, by omega⟩
  ·obtain rfl : n0 = j := by omega
   rw [Nat.sub_self, List.replicate_zero, List.append_nil] at hF
   refine wp_exit (exit_then (exit_then (exit_here (norm_then ?_))))
   refine wp_seq ?_
   refine wR ?_
   refine st_fieldAddr h rfl fa47_0 rfl ?_; clear h a; intro a h
   refine st_loadB h rfl hb1 rfl na45 rfl ?_; clear h a; intro a h
   refine st_lenS h rfl Tryd.underlying45 rfl ?_; clear h a; intro a h
   refine st_add h rfl rfl (by first | exact IntWalk.i64_in _ (by omega) | rfl) rfl ?_; clear h a; intro a h
   rw [show (1 : Int) + (rows.length : Int) = ((1 + rows.length : Nat) : Int) by omega] at h
   refine st_makeSlice (m := 1) (c := 1 + rows.length) ((none, 0, 0) : SV) h rfl rfl el111 zv30 rfl (by omega) (by omega) (by unfold maxLen; omega) rfl ?_; clear h a; intro gL w7 hg hL hq hz a h
   have hgL : w0.heap.size ≤ gL := by have := hf.size; omega
   have hgFL : gF < gL := by have := (hF.blk gF (by simp [blks])).2; omega
   replace hf := hf.next hq
   replace hb1 := hb1.ext hq
   replace hF := hF.ext hq
   clear hq hz hg
   refine st_assign h rfl rfl ?_; clear h a; intro a h
   replace h : Ag a 97 [(1, _), (5, _), (7, _)] := h.sub (.cons rfl (.cons rfl (.cons rfl .nil)))
   refine wnt ?_
   refine wp_seq ?_
   refine wR ?_
   refine st_move h rfl rfl ?_; clear h a; intro a h
   refine st_move h rfl rfl ?_; clear h a; intro a h
   refine st_idxS (p := 0) h rfl rfl el111 (by omega) (by omega) (by omega) rfl ?_; clear h a; intro a h
   refine st_storeO (i := 0) ((some ⟨gF, 0, none⟩, n0, n0) : SV) h rfl rfl hL (by simp) rfl sz30 ?_; clear h a; intro w8 hO2 hq hz a h
   replace hF := hF.fr hq (by simp [blks]; omega)
   replace hb1 := hb1.fr hq (by simp; omega)
   replace hf := hf.step hq (by simp; omega)
   have hR : Rws Enc.i64 30 3 (g_1 + 1) w8 _ ([] ++ [((some ⟨gF, 0, none⟩, n0, n0), List.replicate n0 1)]) := rws_one (hO2.low (by omega)) (hF.low (by omega)) (by simp [slv, blks]; omega)
   clear hL hF hq hz hO2
   replace h : Ag a 97 [(1, _), (7, _)] := h.sub (.cons rfl (.cons rfl .nil))
   refine wnt ?_
   refine wp_seq ?_
   refine wR ?_
   refine st_assign h rfl rfl ?_; clear h a; intro a h
   refine wnt ?_
   refine wp_seq ?_
   refine wp_label (norm_then ?_)
   refine seq_cut (Cut (ι := Value) 97 (fun V => [(7, V), (8, .int .i64 (chartE rows))]) (fun V w' => Fr [] w0 w')) ?_ ?_
   ·refine id ?_
    refine wp_seq ?_
    refine wR ?_
    refine st_fieldAddr h rfl fa47_0 rfl ?_; clear h a; intro a h
    refine st_loadB h rfl hb1 rfl na45 rfl ?_; clear h a; intro a h
    refine st_lenS h rfl Tryd.underlying45 rfl ?_; clear h a; intro a h
    refine st_move h rfl rfl ?_; clear h a; intro a h
    replace h : Ag a 97 [(7, _), (8, _), (48, _), (49, _), (50, _)] := h.sub (.cons rfl (.cons rfl (.cons rfl (.cons rfl (.cons rfl .nil)))))
    refine wnt ?_
    refine wp_block ?_
    refine loop (ι := LdSt) (fun z => [(7, z.OV), (8, .int .i64 0), (48, .slice A rows.length c), (49, .int .i64 (rows.length : Int)), (50, .int .i64 (z.i : Int))]) (fun z w' => z.i ≤ rows.length ∧ (∀ r, rows[z.i]? = some r → (z.ls.length : Int) = needsR r) ∧ runRows (rows.drop z.i) z.ls = chartE rows ∧ Rws Enc.i64 30 3 (g_1 + 1) w' z.OV (z.ps ++ [(z.u, z.ls)]) ∧ z.ps.length = z.i ∧ g_1 < w'.heap.size ∧ Fr [] w0 w') (fun z => rows.length - z.i) ⟨0, _, [], (some ⟨gF, 0, none⟩, n0, n0), List.replicate n0 1⟩ (h.sub (.cons rfl (.cons rfl (.cons rfl (.cons rfl (.cons rfl .nil)))))) ⟨Nat.zero_le _, fun r hr => by rw [hr0k] at hr; cases hr; simpa using hn0, by rw [chart_run hE0, startL, List.getD, hr0k, List.drop_zero]; show runRows rows (List.replicate n0 1) = runRows rows (List.replicate (needsR r0).toNat 1); rw [show (needsR r0).toNat = n0 by omega], hR, rfl, by have := (hR.out.blk gL (by simp [blks])).2; omega, hf⟩ ?_
    clear h a hf hR hb1
    rintro ⟨i, OV, ps, u, ls⟩ w9 a h ⟨hi, hln, hrs, hR, hpl, hgz, hf⟩
    simp only at hi hln hrs hR hpl h
    obtain ⟨uA, un, uc⟩ := u
    obtain ⟨e1, e2⟩ := Own.lens (hR.ins _ (show ((uA, un, uc), ls) ∈ ps ++ [((uA, un, uc), ls)] by simp))
    simp only at e1 e2
    subst e1
    refine wp_seq ?_
    refine wR ?_
    refine st_lt h rfl rfl rfl ?_; clear h a; intro a h
    refine wnt ?_
    refine wp_seq ?_
    first | refine cond_dec h rfl (fun c2 => ?_) (fun c2 => ?_) | refine cond_ndec h rfl (fun c2 => ?_) (fun c2 => ?_) | refine cond_split h rfl (fun c2 => ?_) (fun c2 => ?_)
    ·obtain ⟨r, hrk⟩ : ∃ r, rows[i]? = some r := ⟨_, List.getElem?_eq_getElem (by omega)⟩
     have hr16 := row_ok_of (hz _ _ hrk)
     have hls := hln r hrk
     obtain ⟨RA, rc, ad, hAd, cc, hr, hrc, hrm⟩ := hS.row hrk
     unfold maxLen at hrm
     refine wsn ?_
     refine wp_seq ?_
     refine wp_block ?_
     refine wp_seq ?_
     refine wR ?_
     refine st_move h rfl rfl ?_; clear h a; intro a h
     refine st_idxS (p := i) h (by rw [hAd]; rfl) rfl el45 (by omega) (by omega) (by omega) rfl ?_; clear h a; intro a h
     refine st_loadC0 h rfl (cc.fr hf (by simp)) na61 rfl ?_; clear h a; intro a h
     refine st_assign h rfl rfl ?_; clear h a; intro a h
     refine st_assign h rfl rfl ?_; clear h a; intro a h
     replace h : Ag a 97 [(7, _), (8, _), (9, _), (10, _), (48, _), (49, _), (50, _)] := h.sub (.cons rfl (.cons rfl (.cons rfl (.cons rfl (.cons rfl (.cons rfl (.cons rfl .nil)))))))
     refine wnt ?_
     refine wp_seq ?_
     refine wR ?_
     refine st_move h rfl rfl ?_; clear h a; intro a h
     refine st_move h rfl rfl ?_; clear h a; intro a h
     refine st_idx (p := i) h rfl rfl hR.out.sl el111 (by omega) (by omega) (top_get hpl.symm) rfl ?_; clear h a; intro la lc a h
     refine st_loadC0 (v := .slice uA ls.length uc) h rfl lc na30 rfl ?_; clear h a; intro a h
     refine st_assign h rfl rfl ?_; clear h a; intro a h
     replace h : Ag a 97 [(7, _), (8, _), (10, _), (11, _), (48, _), (49, _), (50, _)] := h.sub (.cons rfl (.cons rfl (.cons rfl (.cons rfl (.cons rfl (.cons rfl (.cons rfl .nil)))))))
     refine wnt ?_
     refine wp_seq ?_
     refine wR ?_
     refine st_move h rfl rfl ?_; clear h a; intro a h
     refine st_call h (evs_cons rfl evs_nil) co49 (cmakes_ok _ r _ (hr.ext hf) (by omega)) rfl ?_; clear h a; rintro _ w10 ⟨rfl, hq⟩ a h
     replace hf := hf.next hq
     replace hR := hR.ext hq
     replace hgz := Nat.lt_of_lt_of_le hgz hq.size
     clear hq
     obtain ⟨m0, hm0⟩ : ∃ n : Nat, (n : Int) = makesR r := ⟨(makesR r).toNat, by omega⟩
     rw [← hm0] at h
     have hOb := hR.out.blk
     have hub := (hR.ins _ (show ((uA, ls.length, uc), ls) ∈ ps ++ [((uA, ls.length, uc), ls)] by simp)).blk
     refine st_makeSlice (m := 0) (c := m0) (0 : Int) h rfl rfl el30 zv3 rfl (by omega) (by omega) (by unfold maxLen; omega) rfl ?_; clear h a; intro gI w11 hg hX hq hz a h
     have hgI : w0.heap.size ≤ gI := by have := hf.size; omega
     have hOI : ∀ k ∈ blks OV, k < gI := fun k hk => by have := (hOb k hk).2; omega
     have hBI : ∀ k ∈ blks (slv (uA, ls.length, uc)), k < gI := fun k hk => by have := (hub k hk).2; omega
     have hg1I : g_1 + 1 ≤ gI := by omega
     have hRA : RAll gI OV (ps ++ [((uA, ls.length, uc), ls)]) := by rw [hg]; exact hR.bnd
     replace hf := hf.next hq
     replace hR := hR.ext hq
     replace hgz := Nat.lt_of_lt_of_le hgz hq.size
     have hgs : gI ≤ w11.heap.size := by omega
     have hB : Sl Enc.i64 w11 (.slice uA ls.length uc) ls := (hR.ins _ (show ((uA, ls.length, uc), ls) ∈ ps ++ [((uA, ls.length, uc), ls)] by simp)).sl
     clear hq hz hg hOb hub
     refine st_assign h rfl rfl ?_; clear h a; intro a h
     replace h : Ag a 97 [(7, _), (8, _), (10, _), (11, _), (12, _), (48, _), (49, _), (50, _)] := h.sub (.cons rfl (.cons rfl (.cons rfl (.cons rfl (.cons rfl (.cons rfl (.cons rfl (.cons rfl .nil))))))))
     refine wnt ?_
     refine wp_seq ?_
     refine wp_seq ?_
     refine wR ?_
     refine st_move h rfl rfl ?_; clear h a; intro a h
     refine st_lenS h rfl Tryd.underlying61 rfl ?_; clear h a; intro a h
     refine st_move h rfl rfl ?_; clear h a; intro a h
     replace h : Ag a 97 [(7, _), (8, _), (11, _), (12, _), (48, _), (49, _), (50, _), (62, _), (63, _), (64, _)] := h.sub (.cons rfl (.cons rfl (.cons rfl (.cons rfl (.cons rfl (.cons rfl (.cons rfl (.cons rfl (.cons rfl (.cons rfl .nil))))))))))
     refine wnt ?_
     refine wp_block ?_
     refine loop (ι := LeSt) (fun z => [(7, OV), (8, .int .i64 0), (11, z.B), (12, z.X), (48, .slice A rows.length c), (49, .int .i64 (rows.length : Int)), (50, .int .i64 (i : Int)), (62, .slice RA r.length rc), (63, .int .i64 (r.length : Int)), (64, .int .i64 (z.k : Int))]) (fun z w' => z.k ≤ r.length ∧ z.at_ ≤ ls.length ∧ ((ls.drop z.at_).length : Int) = needsR (r.drop z.k) ∧ runRow (r.drop z.k) (ls.drop z.at_) z.acc = runRow r ls [] ∧ z.acc.length ≤ 4 * z.k ∧ Lw.Own Enc.i64 3 gI w' z.X z.acc ∧ Sl Enc.i64 w' z.B (ls.drop z.at_) ∧ (∀ k ∈ blks z.B, k < gI) ∧ Rws Enc.i64 30 3 (g_1 + 1) w' OV (ps ++ [((uA, ls.length, uc), ls)]) ∧ gI ≤ w'.heap.size ∧ Fr [] w0 w') (fun z => r.length - z.k) ⟨0, 0, [], _, _⟩ (h.sub (.cons rfl (.cons rfl (.cons rfl (.cons rfl (.cons rfl (.cons rfl (.cons rfl (.cons rfl (.cons rfl (.cons rfl .nil))))))))))) ⟨Nat.zero_le _, Nat.zero_le _, by simpa using hln r hrk, rfl, Nat.le_refl _, hX, hB, hBI, hR, hgs, hf⟩ ?_
     clear h a hf hX hB hBI hR hgs
     rintro ⟨k, at_, acc, X, B⟩ w12 a h ⟨hk, hat, hdl, hrr, hal, hX, hB, hBI, hR, hgs, hf⟩
     simp only at hk hat hdl hrr hal hX hB hBI h
     obtain ⟨BA, bc, rfl, hbc⟩ := hB.form
     obtain ⟨-, -, hbM, -⟩ := Sl.open_ hB
     unfold maxLen at hbM
     refine wp_seq ?_
     refine wR ?_
     refine st_lt h rfl rfl rfl ?_; clear h a; intro a h
     refine wnt ?_
     refine wp_seq ?_
     first | refine cond_dec h rfl (fun c3 => ?_) (fun c3 => ?_) | refine cond_ndec h rfl (fun c3 => ?_) (fun c3 => ?_) | refine cond_split h rfl (fun c3 => ?_) (fun c3 => ?_)
     ·obtain ⟨s, hsk⟩ : ∃ s, r[k]? = some s := ⟨_, List.getElem?_eq_getElem (by omega)⟩
      obtain ⟨-, -, -, hE⟩ := Sl.open_ hr
      obtain ⟨sa, hsa, csx⟩ := hE k s hsk
      have hnd := needs_drop hsk
      have hnp := needs_pos (r.drop (k + 1))
      have hnr := needs_rng s
      have hdl2 : ((ls.length - at_ : Nat) : Int) = needsR (r.drop k) := by rw [← hdl, List.length_drop]
      refine wsn ?_
      refine wp_seq ?_
      refine wp_block ?_
      refine wp_seq ?_
      refine wR ?_
      refine st_idxS (p := k) h (by rw [hsa]; rfl) rfl el61 (by omega) (by omega) (by omega) rfl ?_; clear h a; intro a h
      refine st_loadA h rfl (csx.fr hf (by simp)) ag100 rfl ?_; clear h a; intro a h
      refine st_alloc h zv100 rfl rfl ?_; clear h a; intro w13 hb14 hq hz a h
      obtain ⟨g_14, hg⟩ : ∃ g, g = w12.heap.size := ⟨_, rfl⟩; rw [← hg] at hb14 h hz
      have hl14 : w0.heap.size ≤ g_14 := by have := hf.size; omega
      have hlt_hX_14 : ∀ k ∈ blks X, k < g_14 := fun k hk => by have := (hX.blk k hk).2; omega
      have hl_hgs_14 : gI ≤ g_14 := by omega
      replace hf := hf.next hq
      replace hX := hX.ext hq
      replace hB := hB.ext hq
      replace hR := hR.up hq hRA (by first | (simp; done) | (simp; omega))
      replace hgs := Nat.le_trans hgs hq.size
      clear hq hz hg
      refine st_storeBA h rfl rfl hb14 rfl (by first | (simp [Value.oneCell', S]; done) | exact Enc.one _ _) sz100 ?_; clear h a; intro w14 hbn hq hz a h
      replace hf := hf.step hq (by first | (simp; done) | (simp; omega))
      replace hX := hX.fr hq (by intro k hk hb; simp at hk; subst hk; exact absurd (hlt_hX_14 _ hb) (by omega))
      replace hB := hB.fr hq (by intro k hk hb; simp at hk; have := hBI k hb; omega)
      replace hR := hR.up hq hRA (by first | (simp; done) | (simp; omega))
      replace hgs := Nat.le_trans hgs hq.size
      clear hb14 hq hz; have hb14 : Blk w14 g_14 _ [_, _, _, _, _] := hbn; clear hbn
      replace h : Ag a 97 [(7, _), (8, _), (11, _), (12, _), (14, _), (48, _), (49, _), (50, _), (62, _), (63, _), (64, _)] := h.sub (.cons rfl (.cons rfl (.cons rfl (.cons rfl (.cons rfl (.cons rfl (.cons rfl (.cons rfl (.cons rfl (.cons rfl (.cons rfl .nil)))))))))))
      refine wnt ?_
      refine wp_seq ?_
      refine wR ?_
      refine st_loadBA h rfl hb14 ag100 rfl ?_; clear h a; intro a h
      refine st_call h (evs_cons rfl evs_nil) co67 (needs_ok s _) rfl ?_; clear h a; rintro _ w15 ⟨rfl, hq⟩ a h
      replace hf := hf.next hq
      replace hX := hX.ext hq
      replace hB := hB.ext hq
      replace hR := hR.up hq hRA (by first | (simp; done) | (simp; omega))
      replace hgs := Nat.le_trans hgs hq.size
      replace hb14 := hb14.ext hq
      clear hq
      refine st_assign h rfl rfl ?_; clear h a; intro a h
      replace h : Ag a 97 [(7, _), (8, _), (11, _), (12, _), (14, _), (15, _), (48, _), (49, _), (50, _), (62, _), (63, _), (64, _)] := h.sub (.cons rfl (.cons rfl (.cons rfl (.cons rfl (.cons rfl (.cons rfl (.cons rfl (.cons rfl (.cons rfl (.cons rfl (.cons rfl (.cons rfl .nil))))))))))))
      refine wnt ?_
      refine wp_seq ?_
      refine region_held (fun wb w' => Fr [] wb w') hmix ?_; intro w16 hq
      replace hf := hf.next hq
      replace hX := hX.ext hq
      replace hB := hB.ext hq
      replace hR := hR.up hq hRA (by first | (simp; done) | (simp; omega))
      replace hgs := Nat.le_trans hgs hq.size
      replace hb14 := hb14.ext hq
      clear hq; have hC : Fr [] w16 w16 := Fr.refl _ _
      have hX_b := hX
      have hB_b := hB
      have hb14_b := hb14
      refine hd_loadBA 0 (by kernel_rfl) (by kernel_rfl) (by kernel_rfl) hC h wn rfl (fun _ hw => hb14_b.ext hw) ag100 rfl rfl ?_; clear h a; intro a h
      refine hd_move 1 (by kernel_rfl) (by kernel_rfl) (by kernel_rfl) hC h wn rfl rfl rfl ?_; clear h a; intro a h
      refine hd_move 2 (by kernel_rfl) (by kernel_rfl) (by kernel_rfl) hC h wn rfl rfl rfl ?_; clear h a; intro a h
      refine hd_sl_h 3 (by kernel_rfl) (by kernel_rfl) (by kernel_rfl) hC (p := (needsS s).toNat) h wn rfl rfl el30 (by omega) (by omega) rfl rfl rfl ?_; clear h a; intro a h
      refine hd_one 4 (by kernel_rfl) rfl ?_
      have hpt := hB.take rfl (m := (needsS s).toNat) (by omega) (B := BA) (c' := bc) (by omega) (by unfold maxLen; omega) (fun _ => rfl)
      refine st_call h (evs_cons rfl (evs_cons rfl evs_nil)) co84 (loads_ok s _ _ _ hpt) rfl ?_; clear h a; rintro _ w17 ⟨rv, rfl, hrv, hq⟩ a h
      replace hf := hf.next hq
      replace hX := hX.ext hq
      replace hB := hB.ext hq
      replace hR := hR.up hq hRA (by first | (simp; done) | (simp; omega))
      replace hgs := Nat.le_trans hgs hq.size
      replace hb14 := hb14.ext hq
      replace hC := hC.next hq
      clear hq hpt
      refine hd_next hC ?_
      refine hd_move 5 (by kernel_rfl) (by kernel_rfl) (by kernel_rfl) hC h wn rfl rfl rfl ?_; clear h a; intro a h
      refine hd_extract 6 (by kernel_rfl) (by kernel_rfl) (by kernel_rfl) hC h wn rfl rfl rfl rfl ?_; clear h a; intro a h
      refine hd_extract 7 (by kernel_rfl) (by kernel_rfl) (by kernel_rfl) hC h wn rfl rfl rfl rfl ?_; clear h a; intro a h
      refine hd_one 8 (by kernel_rfl) rfl ?_
      refine st_assign h rfl rfl ?_; clear h a; intro a h
      refine hd_next hC ?_
      refine hd_one 9 (by kernel_rfl) rfl ?_
      refine st_assign h rfl rfl ?_; clear h a; intro a h
      refine hd_next hC ?_
      refine hd_end (by kernel_rfl) ?_
      clear hC hX_b hB_b hb14_b
      replace h : Ag a 97 [(7, _), (8, _), (11, _), (12, _), (15, _), (16, _), (17, _), (48, _), (49, _), (50, _), (62, _), (63, _), (64, _)] := h.sub (.cons rfl (.cons rfl (.cons rfl (.cons rfl (.cons rfl (.cons rfl (.cons rfl (.cons rfl (.cons rfl (.cons rfl (.cons rfl (.cons rfl (.cons rfl .nil)))))))))))))
      refine (norm_then ?_)
      refine wp_seq ?_
      refine wp_seq ?_
      refine wR ?_
      refine st_move h rfl rfl ?_; clear h a; intro a h
      refine st_ne h rfl rfl rfl ?_; clear h a; intro a h
      replace h : Ag a 97 [(7, _), (8, _), (11, _), (12, _), (15, _), (16, _), (17, _), (48, _), (49, _), (50, _), (62, _), (63, _), (64, _), (79, _)] := h.sub (.cons rfl (.cons rfl (.cons rfl (.cons rfl (.cons rfl (.cons rfl (.cons rfl (.cons rfl (.cons rfl (.cons rfl (.cons rfl (.cons rfl (.cons rfl (.cons rfl .nil))))))))))))))
      refine wnt ?_
      first | refine cond_dec h rfl (fun c4 => ?_) (fun c4 => ?_) | refine cond_ndec h rfl (fun c4 => ?_) (fun c4 => ?_) | refine cond_split h rfl (fun c4 => ?_) (fun c4 => ?_)
      ·have hbad := rs_bad hrs hrk (by rw [rr_bad hrr hsk c4]; exact c4)
       rw [rr_bad hrr hsk c4] at hbad
       refine wp_seq ?_
       refine wR ?_
       refine st_move h rfl rfl ?_; clear h a; intro a h
       refine st_assign h rfl rfl ?_; clear h a; intro a h
       replace h : Ag a 97 [(7, _), (8, _)] := h.sub (.cons rfl (.cons rfl .nil))
       refine wnt ?_
       refine wp_exit (exit_then (exit_out rfl (exit_then (exit_then (exit_out rfl (exit_then (exit_out rfl (exit_then (exit_then (exit_here (norm_then ?_)))))))))))
       exact ⟨_, h.sub (.cons rfl (.cons (by first | (rw [hend]; rfl) | (rw [hbad]; rfl)) .nil)), hf⟩
      ·clear hb14
       have h0' : ¬ (loadsS s ((ls.drop at_).take (needsS s).toNat)).2 ≠ 0 := c4
       have hll := loads_len s ((ls.drop at_).take (needsS s).toNat)
       refine wsn ?_
       refine wp_seq ?_
       refine wR ?_
       refine st_move h rfl rfl ?_; clear h a; intro a h
       refine st_move h rfl rfl ?_; clear h a; intro a h
       refine st_sl_l (p := (needsS s).toNat) h rfl rfl el30 (by omega) (by omega) rfl rfl ?_; clear h a; intro a h
       replace hB := hB.drop rfl (m := (needsS s).toNat) (by omega) (B := if bc = (needsS s).toNat then BA else BA.map (·.add ((needsS s).toNat * Enc.i64.sz))) (c' := bc - (needsS s).toNat) (by omega) (by unfold maxLen; omega) (fun hlt => by rw [if_neg (by omega)])
       rw [List.drop_drop] at hB
       replace hBI : ∀ k ∈ blks (.slice (if bc = (needsS s).toNat then BA else BA.map (·.add ((needsS s).toNat * Enc.i64.sz))) ((ls.drop at_).length - (needsS s).toNat) (bc - (needsS s).toNat)), k < gI := by
        intro k hk; split at hk; exact hBI k (by rw [blks_any BA _ _ ((ls.drop at_).length - (needsS s).toNat) (bc - (needsS s).toNat)]; exact hk); exact hBI k (by rw [← blks_add BA ((needsS s).toNat * Enc.i64.sz) ((ls.drop at_).length - (needsS s).toNat) (bc - (needsS s).toNat)]; exact hk)
       refine st_assign h rfl rfl ?_; clear h a; intro a h
       replace h : Ag a 97 [(7, _), (8, _), (11, _), (12, _), (16, _), (48, _), (49, _), (50, _), (62, _), (63, _), (64, _)] := h.sub (.cons rfl (.cons rfl (.cons rfl (.cons rfl (.cons rfl (.cons rfl (.cons rfl (.cons rfl (.cons rfl (.cons rfl (.cons rfl .nil)))))))))))
       refine wnt ?_
       refine wR ?_
       refine st_move h rfl rfl ?_; clear h a; intro a h
       refine st_move h rfl rfl ?_; clear h a; intro a h
       have hbO := hX.blk
       refine st_append h rfl rfl hX hrv.sl el30 (by unfold maxLen; omega) (by omega) (by omega) rfl ?_; clear h a; intro X3 w18 ho3 hq hx3 a h
       replace hB := hB.fr hq (fun k hk hb => by have := (hbO k hk).1; have := hBI k hb; omega)
       replace hR := hR.up hq hRA (fun k hk => (hbO k hk).1)
       replace hf := hf.step hq (fun k hk hlt => absurd (hbO k hk).1 (by omega))
       replace hgs := Nat.le_trans hgs hq.size
       clear hrv
       clear hX hq hx3 hbO; have hX := ho3; clear ho3
       refine st_assign h rfl rfl ?_; clear h a; intro a h
       replace h : Ag a 97 [(7, _), (8, _), (11, _), (12, _), (48, _), (49, _), (50, _), (62, _), (63, _), (64, _)] := h.sub (.cons rfl (.cons rfl (.cons rfl (.cons rfl (.cons rfl (.cons rfl (.cons rfl (.cons rfl (.cons rfl (.cons rfl .nil))))))))))
       refine wpList_nil (norm_blk (norm_then ?_))
       refine wR ?_
       refine st_add h rfl rfl (by first | exact IntWalk.i64_in _ (by omega) | rfl) rfl ?_; clear h a; intro a h
       refine st_move h rfl rfl ?_; clear h a; intro a h
       replace h : Ag a 97 [(7, _), (8, _), (11, _), (12, _), (48, _), (49, _), (50, _), (62, _), (63, _), (64, _)] := h.sub (.cons rfl (.cons rfl (.cons rfl (.cons rfl (.cons rfl (.cons rfl (.cons rfl (.cons rfl (.cons rfl (.cons rfl .nil))))))))))
       refine wnt ?_
       exact ⟨⟨k + 1, at_ + (needsS s).toNat, acc ++ (loadsS s ((ls.drop at_).take (needsS s).toNat)).1, _, _⟩, h.sub (.cons rfl (.cons rfl (.cons (by rw [List.length_drop]; rfl) (.cons rfl (.cons rfl (.cons rfl (.cons rfl (.cons rfl (.cons rfl (.cons rfl .nil)))))))))), ⟨by simp only; omega, by simp only; omega, by simp only [List.length_drop] at hdl ⊢; omega, rr_next hrr hsk h0', by simp only [List.length_append]; omega, hX, hB, hBI, hR, hgs, hf⟩, by simp only; omega⟩
     ·obtain rfl : k = r.length := by omega
      have hrow := rr_end hrr
      have hrsn := rs_next hrs hrk hrow
      have hal2 := run_next_len hrow
      have hlnn : ∀ q, rows[i + 1]? = some q → (acc.length : Int) = needsR q := fun q hq => by rw [hadj2 i r q hrk hq]; exact hal2
      obtain ⟨XA, xc, rfl, hxc⟩ := hX.sl.form
      refine wp_exit (exit_then (exit_then (exit_here (norm_then ?_))))
      refine wR ?_
      refine st_move h rfl rfl ?_; clear h a; intro a h
      refine st_move h rfl rfl ?_; clear h a; intro a h
      refine st_bslice [((XA, acc.length, xc) : SV)] h (evs_cons rfl evs_nil) rfl rfl rfl el111 (by decide) rfl ?_; clear h a; intro gV w19 hg hoV hq hz a h
      replace hf := hf.next hq
      replace hX := hX.ext hq
      replace hB := hB.ext hq
      replace hR := hR.up hq hRA (by first | (simp; done) | (simp; omega))
      replace hgs := Nat.le_trans hgs hq.size
      clear hq hz hg
      have hbO := hR.out.blk
      refine st_append h rfl rfl hR.out hoV.sl el111 (by unfold maxLen; simp; omega) (by simp; omega) (by omega) rfl ?_; clear h a; intro O3 w20 ho3 hq hx3 a h
      replace hR := hR.push (u := (XA, acc.length, xc)) (hX.low (by omega)) (fun k hk hk2 => by have := (hX.blk k hk).1; have := hOI k hk2; omega) ho3 hq hx3
      replace hf := hf.step hq (fun k hk hlt => absurd (hbO k hk).1 (by omega))
      replace hgs := Nat.le_trans hgs hq.size
      clear hq hx3 hoV hbO ho3 hX
      refine st_assign h rfl rfl ?_; clear h a; intro a h
      replace h : Ag a 97 [(7, _), (8, _), (48, _), (49, _), (50, _)] := h.sub (.cons rfl (.cons rfl (.cons rfl (.cons rfl (.cons rfl .nil)))))
      refine wpList_nil (norm_blk (norm_then ?_))
      refine wR ?_
      refine st_add h rfl rfl (by first | exact IntWalk.i64_in _ (by omega) | rfl) rfl ?_; clear h a; intro a h
      refine st_move h rfl rfl ?_; clear h a; intro a h
      replace h : Ag a 97 [(7, _), (8, _), (48, _), (49, _), (50, _)] := h.sub (.cons rfl (.cons rfl (.cons rfl (.cons rfl (.cons rfl .nil)))))
      refine wnt ?_
      exact ⟨⟨i + 1, O3, ps ++ [((uA, ls.length, uc), ls)], (XA, acc.length, xc), acc⟩, h.sub (.cons rfl (.cons rfl (.cons rfl (.cons rfl (.cons rfl .nil))))), ⟨by simp only; omega, hlnn, hrsn, hR, by simp [hpl], by omega, hf⟩, by simp only; omega⟩
    ·obtain rfl : i = rows.length := by omega
     have hend := rs_end hrs
     refine wp_exit (exit_then (exit_then (exit_here (norm_then ?_))))
     exact ⟨_, h.sub (.cons rfl (.cons (by first | (rw [hend]; rfl) | (rw [hbad]; rfl)) .nil)), hf⟩
   ·clear h a hf
    rintro a w21 ⟨V, h, hf⟩
    refine wp_seq ?_
    refine wp_seq ?_
    refine wR ?_
    refine st_move h rfl rfl ?_; clear h a; intro a h
    refine st_ne h rfl rfl rfl ?_; clear h a; intro a h
    replace h : Ag a 97 [(7, _), (8, _), (94, _)] := h.sub (.cons rfl (.cons rfl (.cons rfl .nil)))
    refine wnt ?_
    first | refine cond_dec h rfl (fun c5 => ?_) (fun c5 => ?_) | refine cond_ndec h rfl (fun c5 => ?_) (fun c5 => ?_) | refine cond_split h rfl (fun c5 => ?_) (fun c5 => ?_)
    ·refine id ?_
     refine wp_seq ?_
     refine wR ?_
     refine st_move h rfl rfl ?_; clear h a; intro a h
     refine st_assign h rfl rfl ?_; clear h a; intro a h
     refine st_assign h rfl rfl ?_; clear h a; intro a h
     replace h : Ag a 97 [(2, _), (3, _)] := h.sub (.cons rfl (.cons rfl .nil))
     refine wnt ?_
     refine wp_ret (ret_then (ret_sc ?_))
     refine ret2 h Tryd.results65 rfl rfl ?_
     exact ⟨_, rfl, _, rfl, hf⟩
    ·refine id ?_
     refine wsn ?_
     refine wp_seq ?_
     refine wR ?_
     refine st_move h rfl rfl ?_; clear h a; intro a h
     refine st_assign h rfl rfl ?_; clear h a; intro a h
     refine st_assign h rfl rfl ?_; clear h a; intro a h
     replace h : Ag a 97 [(2, _), (3, _)] := h.sub (.cons rfl (.cons rfl .nil))
     refine wnt ?_
     refine wp_ret (ret_sc ?_)
     refine ret2 h Tryd.results65 rfl rfl ?_
     exact ⟨_, rfl, _, by rw [show chartE rows = 0 from Decidable.not_not.1 c5], hf⟩
theorem check_chart_ok (u : Value) (rows : List (List Stitch)) (w0 : World) (hS : Sll encSt w0 u rows) : Rets Tryd.prog 46 #[.agg #[u]] w0 fun v w' => v = .int .i64 (chartE rows) ∧ Fr [] w0 w' := by
 obtain ⟨A, c, rfl, hcp, hM⟩ := hS.form
 unfold maxLen at hM
 refine enter [(0, .agg #[.slice A rows.length c])] Tryd.func46 rfl Tryd.ntmps46 rfl (.cons rfl .nil) ?_
 have hf := Fr.refl [] w0
 intro a h
 refine wp_seq ?_
 refine wR ?_
 refine st_box h rfl rfl rfl ?_; clear h a; intro w1 hb1 hq hz a h
 obtain ⟨g_1, hg⟩ : ∃ g, g = w0.heap.size := ⟨_, rfl⟩; rw [← hg] at hb1 h hz
 have hl1 : w0.heap.size ≤ g_1 := by have := hf.size; omega
 replace hf := hf.next hq
 clear hq hz hg
 refine st_assign h rfl rfl ?_; clear h a; intro a h
 replace h : Ag a 11 [(1, _)] := h.sub (.cons rfl .nil)
 refine wnt ?_
 refine wp_seq ?_
 refine wR ?_
 refine st_loadBA h rfl hb1 ag47 rfl ?_; clear h a; intro a h
 refine st_call h (evs_cons rfl evs_nil) co65 (chart_ok _ rows _ (hS.ext hf)) rfl ?_; clear h a; rintro _ w2 ⟨X, rfl, hq⟩ a h
 replace hf := hf.next hq
 replace hb1 := hb1.ext hq
 clear hq
 refine st_move h rfl rfl ?_; clear h a; intro a h
 refine st_extract h rfl rfl rfl ?_; clear h a; intro a h
 refine st_extract h rfl rfl rfl ?_; clear h a; intro a h
 refine st_assign h rfl rfl ?_; clear h a; intro a h
 refine st_assign h rfl rfl ?_; clear h a; intro a h
 replace h : Ag a 11 [(4, _)] := h.sub (.cons rfl .nil)
 refine wnt ?_
 refine wp_seq ?_
 refine wR ?_
 refine st_move h rfl rfl ?_; clear h a; intro a h
 refine st_assign h rfl rfl ?_; clear h a; intro a h
 replace h : Ag a 11 [(2, _)] := h.sub (.cons rfl .nil)
 refine wnt ?_
 refine wp_ret ?_
 refine ret1 h Tryd.results46 rfl ?_
 exact ⟨_, rfl, rfl, hf⟩
end Go.Proofs.YthehggmdcmpjeaaDoor
