/- Walks. -/
import Derived.Test.YtbbnampdgefljaaDoorRows
import Derived.Test.YtbbnampdgefljaaDoorW4
import Derived.Test.YtbbnampdgefljaaDoorXMap
set_option linter.unusedVariables false
set_option linter.unusedSimpArgs false
namespace Go.Proofs.YtbbnampdgefljaaDoor
open Go.Lw Go.G14
theorem ne_rows {xs ys : List (List Stitch)} {i k : Nat} {x y : List Stitch} {s t : Stitch} (hx : xs[i]? = some x) (hy : ys[i]? = some y) (hs : x[k]? = some s) (ht : y[k]? = some t) (h : s ≠ t) : xs ≠ ys := take_ne hx hy (take_ne hs ht h)
set_option maxHeartbeats 1000000 in
theorem differ2_ok (u v : Value) (xs ys : List (List Stitch)) (w0 : World) (hu : Sl2 w0 u xs) (hv : Sl2 w0 v ys) : Rets Tryd.prog 22 #[.agg #[u], .agg #[v]] w0 fun r w' => r = .int .i64 (if xs = ys then 0 else 1) ∧ Fr [] w0 w' := by
  obtain ⟨hs, hsl, hl, hr⟩ := hu
  obtain ⟨gs, gsl, gl, gr⟩ := hv
  obtain ⟨A, c, rfl, hc, hM, hA⟩ := hsl
  obtain ⟨B, d, rfl, hd, hN, hB⟩ := gsl
  unfold maxLen at hM hN
  refine enter [(0, .agg #[.slice A hs.length c]), (1, .agg #[.slice B gs.length d])] Tryd.func22 rfl Tryd.ntmps22 rfl (.cons rfl (.cons rfl .nil)) ?_
  have hf := Fr.refl [] w0
  intro a h
  refine wp_seq ?_
  refine wp_region_lit ?_
  refine st_box h rfl rfl rfl ?_; clear h a; intro w1 hb2 hq hz a h
  obtain ⟨g_2, hg⟩ : ∃ g, g = w0.heap.size := ⟨_, rfl⟩; rw [← hg] at hb2 h hz
  have hl2 : w0.heap.size ≤ g_2 := by have := hf.size; omega
  replace hf := hf.next hq
  clear hq hz hg
  refine st_box h rfl rfl rfl ?_; clear h a; intro w2 hb3 hq hz a h
  obtain ⟨g_3, hg⟩ : ∃ g, g = w1.heap.size := ⟨_, rfl⟩; rw [← hg] at hb3 h hz
  have hl3 : w0.heap.size ≤ g_3 := by have := hf.size; omega
  have hn_2_3 : g_2 < g_3 := by have := hb2.lt; omega
  replace hf := hf.next hq
  replace hb2 := hb2.ext hq
  clear hq hz hg
  refine st_assign h rfl rfl ?_; clear h a; intro a h
  replace h : Ag a 61 [(2, _), (3, _)] := h.sub (.cons rfl (.cons rfl .nil))
  refine wpList_nil (norm_then ?_)
  refine wp_seq ?_
  refine wp_seq ?_
  refine wp_region_lit ?_
  refine st_fieldAddr h rfl fa45_0 rfl ?_; clear h a; intro a h
  refine st_loadB h rfl hb2 rfl na43 rfl ?_; clear h a; intro a h
  refine st_lenS h rfl Tryd.underlying43 rfl ?_; clear h a; intro a h
  refine st_fieldAddr h rfl fa45_0 rfl ?_; clear h a; intro a h
  refine st_loadB h rfl hb3 rfl na43 rfl ?_; clear h a; intro a h
  refine st_lenS h rfl Tryd.underlying43 rfl ?_; clear h a; intro a h
  refine st_ne h rfl rfl rfl ?_; clear h a; intro a h
  replace h : Ag a 61 [(2, _), (3, _), (13, _)] := h.sub (.cons rfl (.cons rfl (.cons rfl .nil)))
  refine wpList_nil (norm_then ?_)
  first | refine cond_dec h rfl (fun c0 => ?_) (fun c0 => ?_) | refine cond_ndec h rfl (fun c0 => ?_) (fun c0 => ?_) | refine cond_split h rfl (fun c0 => ?_) (fun c0 => ?_)
  · refine id ?_
    refine wp_seq ?_
    refine wp_region_lit ?_
    refine st_assign h rfl rfl ?_; clear h a; intro a h
    replace h : Ag a 61 [(4, _)] := h.sub (.cons rfl .nil)
    refine wpList_nil (norm_then ?_)
    refine wp_ret (ret_then ?_)
    refine ret1 h Tryd.results22 rfl ?_
    exact ⟨_, rfl, by rw [if_neg (by rintro rfl; omega)], hf⟩
  · refine id ?_
    refine wp_skip (norm_then ?_)
    refine wp_seq ?_
    refine wp_seq ?_
    refine wp_region_lit ?_
    refine st_assign h rfl rfl ?_; clear h a; intro a h
    replace h : Ag a 61 [(2, _), (3, _), (5, _)] := h.sub (.cons rfl (.cons rfl (.cons rfl .nil)))
    refine wpList_nil (norm_then ?_)
    refine wp_block ?_
    refine loop (ι := Nat) (fun i => [(2, .pointer (some ⟨g_2, 0, none⟩)), (3, .pointer (some ⟨g_3, 0, none⟩)), (5, .int .i64 (i : Int))]) (fun i w' => i ≤ hs.length ∧ xs.take i = ys.take i ∧ Blk w' g_2 45 [.slice A hs.length c] ∧ Blk w' g_3 45 [.slice B gs.length d] ∧ Fr [] w0 w') (fun i => hs.length - i) 0 (h.sub (.cons rfl (.cons rfl (.cons rfl .nil)))) ⟨by omega, by simp, hb2, hb3, hf⟩ ?_
    clear h a hf hb2 hb3
    rintro i w3 a h ⟨hi, ht, hb2, hb3, hf⟩
    refine wp_seq ?_
    refine wp_seq ?_
    refine wp_region_lit ?_
    refine st_move h rfl rfl ?_; clear h a; intro a h
    refine st_fieldAddr h rfl fa45_0 rfl ?_; clear h a; intro a h
    refine st_loadB h rfl hb2 rfl na43 rfl ?_; clear h a; intro a h
    refine st_lenS h rfl Tryd.underlying43 rfl ?_; clear h a; intro a h
    refine st_lt h rfl rfl rfl ?_; clear h a; intro a h
    replace h : Ag a 61 [(2, _), (3, _), (5, _), (18, _)] := h.sub (.cons rfl (.cons rfl (.cons rfl (.cons rfl .nil))))
    refine wpList_nil (norm_then ?_)
    first | refine cond_dec h rfl (fun c1 => ?_) (fun c1 => ?_) | refine cond_ndec h rfl (fun c1 => ?_) (fun c1 => ?_) | refine cond_split h rfl (fun c1 => ?_) (fun c1 => ?_)
    · obtain ⟨p, hp⟩ : ∃ p, hs[i]? = some p := ⟨_, List.getElem?_eq_getElem (by omega)⟩
      obtain ⟨q, hq'⟩ : ∃ p, gs[i]? = some p := ⟨_, List.getElem?_eq_getElem (by omega)⟩
      obtain ⟨x, hx⟩ : ∃ x, xs[i]? = some x := ⟨_, List.getElem?_eq_getElem (by omega)⟩
      obtain ⟨y, hy⟩ : ∃ y, ys[i]? = some y := ⟨_, List.getElem?_eq_getElem (by omega)⟩
      obtain ⟨ad, rfl, ca⟩ := hA i p hp
      obtain ⟨bd, rfl, cb⟩ := hB i q hq'
      obtain ⟨pl, pc, pM, pA⟩ := Sl.open_ (hr i p x hp hx)
      obtain ⟨ql, qc, qM, qB⟩ := Sl.open_ (gr i q y hq' hy)
      unfold maxLen at pM qM
      refine wp_skip (norm_then ?_)
      refine wp_seq ?_
      refine wp_block ?_
      refine wp_seq ?_
      refine wp_seq ?_
      refine region_quiet hmix (by kernel_rfl) ?_
      refine qt_fieldAddr h rfl fa45_0 rfl ?_; clear h a; intro a h
      refine qt_loadB h rfl (fun _ hw => hb2.ext hw) rfl na43 rfl ?_; clear h a; intro a h
      refine qt_move h rfl rfl ?_; clear h a; intro a h
      refine qt_idxS h rfl rfl el43 (by omega) (by omega) rfl rfl ?_; clear h a; intro a h
      refine qt_loadC0 h rfl (fun _ hw => (ca.fr hf (by simp)).fr hw (by simp)) na22 rfl ?_; clear h a; intro a h
      refine qt_lenS h rfl Tryd.underlying22 rfl ?_; clear h a; intro a h
      refine qt_fieldAddr h rfl fa45_0 rfl ?_; clear h a; intro a h
      refine qt_loadB h rfl (fun _ hw => hb3.ext hw) rfl na43 rfl ?_; clear h a; intro a h
      refine qt_move h rfl rfl ?_; clear h a; intro a h
      refine qt_idxS h rfl rfl el43 (by omega) (by omega) rfl rfl ?_; clear h a; intro a h
      refine qt_loadC0 h rfl (fun _ hw => (cb.fr hf (by simp)).fr hw (by simp)) na22 rfl ?_; clear h a; intro a h
      refine qt_lenS h rfl Tryd.underlying22 rfl ?_; clear h a; intro a h
      refine qt_ne h rfl rfl rfl ?_; clear h a; intro a h
      refine wpQuiet_nil ?_
      intro w4 hq
      replace hf := hf.next hq
      replace hb2 := hb2.ext hq
      replace hb3 := hb3.ext hq
      clear hq
      replace h : Ag a 61 [(2, _), (3, _), (5, _), (33, _)] := h.sub (.cons rfl (.cons rfl (.cons rfl (.cons rfl .nil))))
      refine (norm_then ?_)
      first | refine cond_dec h rfl (fun c2 => ?_) (fun c2 => ?_) | refine cond_ndec h rfl (fun c2 => ?_) (fun c2 => ?_) | refine cond_split h rfl (fun c2 => ?_) (fun c2 => ?_)
      · refine id ?_
        refine wp_seq ?_
        refine wp_region_lit ?_
        refine st_assign h rfl rfl ?_; clear h a; intro a h
        replace h : Ag a 61 [(4, _)] := h.sub (.cons rfl .nil)
        refine wpList_nil (norm_then ?_)
        refine wp_ret (ret_then (ret_blk (ret_then (ret_then (ret_blk (ret_then ?_))))))
        refine ret1 h Tryd.results22 rfl ?_
        exact ⟨_, rfl, by rw [if_neg (take_ne hx hy (by rintro rfl; omega))], hf⟩
      · refine id ?_
        refine wp_skip (norm_then ?_)
        refine wp_seq ?_
        refine wp_region_lit ?_
        refine st_assign h rfl rfl ?_; clear h a; intro a h
        replace h : Ag a 61 [(2, _), (3, _), (5, _), (6, _)] := h.sub (.cons rfl (.cons rfl (.cons rfl (.cons rfl .nil))))
        refine wpList_nil (norm_then ?_)
        refine wp_block ?_
        refine loop (ι := Nat) (fun k => [(2, .pointer (some ⟨g_2, 0, none⟩)), (3, .pointer (some ⟨g_3, 0, none⟩)), (5, .int .i64 (i : Int)), (6, .int .i64 (k : Int))]) (fun k w' => k ≤ p.2.1 ∧ x.take k = y.take k ∧ Blk w' g_2 45 [.slice (some ad) hs.length c] ∧ Blk w' g_3 45 [.slice (some bd) gs.length d] ∧ Fr [] w0 w') (fun k => p.2.1 - k) 0 (h.sub (.cons rfl (.cons rfl (.cons rfl (.cons rfl .nil))))) ⟨by omega, by simp, hb2, hb3, hf⟩ ?_
        clear h a hf hb2 hb3
        rintro k w5 a h ⟨hk, hkt, hb2, hb3, hf⟩
        refine wp_seq ?_
        refine wp_seq ?_
        refine wp_region_lit ?_
        refine st_move h rfl rfl ?_; clear h a; intro a h
        refine st_fieldAddr h rfl fa45_0 rfl ?_; clear h a; intro a h
        refine st_loadB h rfl hb2 rfl na43 rfl ?_; clear h a; intro a h
        refine st_move h rfl rfl ?_; clear h a; intro a h
        refine st_idxS h rfl rfl el43 (by omega) (by omega) rfl rfl ?_; clear h a; intro a h
        refine st_loadC0 h rfl (ca.fr hf (by simp)) na22 rfl ?_; clear h a; intro a h
        refine st_lenS h rfl Tryd.underlying22 rfl ?_; clear h a; intro a h
        refine st_lt h rfl rfl rfl ?_; clear h a; intro a h
        replace h : Ag a 61 [(2, _), (3, _), (5, _), (6, _), (41, _)] := h.sub (.cons rfl (.cons rfl (.cons rfl (.cons rfl (.cons rfl .nil)))))
        refine wpList_nil (norm_then ?_)
        first | refine cond_dec h rfl (fun c3 => ?_) (fun c3 => ?_) | refine cond_ndec h rfl (fun c3 => ?_) (fun c3 => ?_) | refine cond_split h rfl (fun c3 => ?_) (fun c3 => ?_)
        · obtain ⟨s, hs'⟩ : ∃ s, x[k]? = some s := ⟨_, List.getElem?_eq_getElem (by omega)⟩
          obtain ⟨t, ht'⟩ : ∃ t, y[k]? = some t := ⟨_, List.getElem?_eq_getElem (by omega)⟩
          obtain ⟨pa, hpa, cs⟩ := pA k s hs'
          obtain ⟨qa, hqa, ct⟩ := qB k t ht'
          refine wp_skip (norm_then ?_)
          refine wp_seq ?_
          refine wp_block ?_
          refine wp_seq ?_
          refine region_quiet hmix (by kernel_rfl) ?_
          refine qt_fieldAddr h rfl fa45_0 rfl ?_; clear h a; intro a h
          refine qt_loadB h rfl (fun _ hw => hb2.ext hw) rfl na43 rfl ?_; clear h a; intro a h
          refine qt_move h rfl rfl ?_; clear h a; intro a h
          refine qt_idxS h rfl rfl el43 (by omega) (by omega) rfl rfl ?_; clear h a; intro a h
          refine qt_loadC0 h rfl (fun _ hw => (ca.fr hf (by simp)).fr hw (by simp)) na22 rfl ?_; clear h a; intro a h
          refine qt_move h rfl rfl ?_; clear h a; intro a h
          refine qt_idx h rfl rfl hpa el22 (by omega) (by omega) rfl ?_; clear h a; intro a h
          refine qt_loadA h rfl (fun _ hw => (cs.fr hf (by simp)).fr hw (by simp)) ag36 rfl ?_; clear h a; intro a h
          refine qt_fieldAddr h rfl fa45_0 rfl ?_; clear h a; intro a h
          refine qt_loadB h rfl (fun _ hw => hb3.ext hw) rfl na43 rfl ?_; clear h a; intro a h
          refine qt_move h rfl rfl ?_; clear h a; intro a h
          refine qt_idxS h rfl rfl el43 (by omega) (by omega) rfl rfl ?_; clear h a; intro a h
          refine qt_loadC0 h rfl (fun _ hw => (cb.fr hf (by simp)).fr hw (by simp)) na22 rfl ?_; clear h a; intro a h
          refine qt_move h rfl rfl ?_; clear h a; intro a h
          refine qt_idx h rfl rfl hqa el22 (by omega) (by omega) rfl ?_; clear h a; intro a h
          refine qt_loadA h rfl (fun _ hw => (ct.fr hf (by simp)).fr hw (by simp)) ag36 rfl ?_; clear h a; intro a h
          refine qt_neV (e := s) (f := t) h rfl rfl eqv36 rfl ?_; clear h a; intro a h
          refine wpQuiet_nil ?_
          intro w6 hq
          replace hf := hf.next hq
          replace hb2 := hb2.ext hq
          replace hb3 := hb3.ext hq
          clear hq
          replace h : Ag a 61 [(2, _), (3, _), (5, _), (6, _), (60, _)] := h.sub (.cons rfl (.cons rfl (.cons rfl (.cons rfl (.cons rfl .nil)))))
          refine (norm_then ?_)
          first | refine cond_dec h rfl (fun c4 => ?_) (fun c4 => ?_) | refine cond_ndec h rfl (fun c4 => ?_) (fun c4 => ?_) | refine cond_split h rfl (fun c4 => ?_) (fun c4 => ?_)
          · refine id ?_
            refine wp_seq ?_
            refine wp_region_lit ?_
            refine st_assign h rfl rfl ?_; clear h a; intro a h
            replace h : Ag a 61 [(4, _)] := h.sub (.cons rfl .nil)
            refine wpList_nil (norm_then ?_)
            refine wp_ret (ret_blk (ret_then (ret_then (ret_blk (ret_blk (ret_then (ret_then (ret_blk (ret_then ?_)))))))))
            refine ret1 h Tryd.results22 rfl ?_
            exact ⟨_, rfl, by rw [if_neg (ne_rows hx hy hs' ht' c4)], hf⟩
          · refine id ?_
            refine wp_skip (norm_blk (norm_then ?_))
            refine wp_region_lit ?_
            refine st_move h rfl rfl ?_; clear h a; intro a h
            refine st_add h rfl rfl (by first | exact IntWalk.i64_in _ (by omega) | rfl) rfl ?_; clear h a; intro a h
            refine st_assign h rfl rfl ?_; clear h a; intro a h
            replace h : Ag a 61 [(2, _), (3, _), (5, _), (6, _)] := h.sub (.cons rfl (.cons rfl (.cons rfl (.cons rfl .nil))))
            refine wpList_nil (norm_then ?_)
            exact ⟨k + 1, h.sub (.cons rfl (.cons rfl (.cons rfl (.cons rfl .nil)))), ⟨by omega, by rw [List.take_add_one, List.take_add_one, hkt, hs', ht', Decidable.not_not.1 c4], hb2, hb3, hf⟩, by omega⟩
        · have hxy : x = y := by
            have e : k = x.length := by omega
            rwa [e, List.take_length, show x.length = y.length by omega, List.take_length] at hkt
          refine wp_exit (exit_then (exit_then (exit_here (norm_blk (norm_then ?_)))))
          refine wp_region_lit ?_
          refine st_move h rfl rfl ?_; clear h a; intro a h
          refine st_add h rfl rfl (by first | exact IntWalk.i64_in _ (by omega) | rfl) rfl ?_; clear h a; intro a h
          refine st_assign h rfl rfl ?_; clear h a; intro a h
          replace h : Ag a 61 [(2, _), (3, _), (5, _)] := h.sub (.cons rfl (.cons rfl (.cons rfl .nil)))
          refine wpList_nil (norm_then ?_)
          exact ⟨i + 1, h.sub (.cons rfl (.cons rfl (.cons rfl .nil))), ⟨by omega, by rw [List.take_add_one, List.take_add_one, ht, hx, hy, hxy], hb2, hb3, hf⟩, by omega⟩
    · obtain rfl : i = hs.length := by omega
      have hxy : xs = ys := by
        rwa [hl, List.take_length, show xs.length = ys.length by omega, List.take_length] at ht
      refine wp_exit (exit_then (exit_then (exit_here (norm_then ?_))))
      refine wp_seq ?_
      refine wp_region_lit ?_
      refine st_assign h rfl rfl ?_; clear h a; intro a h
      replace h : Ag a 61 [(4, _)] := h.sub (.cons rfl .nil)
      refine wpList_nil (norm_then ?_)
      refine wp_ret ?_
      refine ret1 h Tryd.results22 rfl ?_
      exact ⟨_, rfl, by rw [if_pos hxy], hf⟩
theorem repeats_ok (u : Value) (xs : List Stitch) (m : Nat) (w0 : World) (hu : Sl encSt w0 u xs) (hm : m ≤ xs.length) : Rets Tryd.prog 55 #[u, .int .i64 (m : Int)] w0 fun r w' => r = .bool (decide (xs.drop m = xs.take (xs.length - m))) ∧ Fr [] w0 w' := by
  have hu' := hu
  obtain ⟨A, c, rfl, hc, hM, hA⟩ := hu
  unfold maxLen at hM
  have ha := hu'.drop rfl hm (B := if c = m then A else A.map (·.add (m * encSt.sz))) (c' := c - m) (by omega) (by unfold maxLen; omega) (fun hlt => by rw [if_neg (by omega)])
  have hb := hu'.take rfl (m := xs.length - m) (by omega) (B := A) (c' := c) (by omega) (by unfold maxLen; omega) (fun _ => rfl)
  refine enter [(0, .slice A xs.length c), (1, .int .i64 (m : Int))] Tryd.func55 rfl Tryd.ntmps55 rfl (.cons rfl (.cons rfl .nil)) ?_
  have hf := Fr.refl [] w0
  intro a h
  refine wp_seq ?_
  refine wp_region_lit ?_
  refine st_assign h rfl rfl ?_; clear h a; intro a h
  replace h : Ag a 15 [(0, _), (1, _)] := h.sub (.cons rfl (.cons rfl .nil))
  refine wpList_nil (norm_then ?_)
  refine wp_seq ?_
  refine region_quiet hmix (by kernel_rfl) ?_
  refine qt_move h rfl rfl ?_; clear h a; intro a h
  refine qt_move h rfl rfl ?_; clear h a; intro a h
  refine qt_sl_l (p := m) h rfl rfl el22 (by omega) (by omega) (by omega) rfl ?_; clear h a; intro a h
  refine qt_move h rfl rfl ?_; clear h a; intro a h
  refine qt_move h rfl rfl ?_; clear h a; intro a h
  refine qt_lenS h rfl Tryd.underlying22 rfl ?_; clear h a; intro a h
  refine qt_move h rfl rfl ?_; clear h a; intro a h
  refine qt_sub h rfl rfl (by first | exact IntWalk.i64_in _ (by omega) | rfl) rfl ?_; clear h a; intro a h
  refine qt_sl_h (p := xs.length - m) h rfl rfl el22 (by omega) (by omega) (by omega) rfl ?_; clear h a; intro a h
  refine qt_call h (evs_cons rfl (evs_cons rfl evs_nil)) co44 (fun w hw => (equal_ok _ _ _ _ w (ha.ext hw) (hb.ext hw)).mono fun u w' ⟨e, f⟩ => ⟨e, hw.next f⟩) rfl ?_; clear h a; intro a h
  refine qt_assign h rfl rfl ?_; clear h a; intro a h
  refine wpQuiet_nil ?_
  intro w1 hq
  replace hf := hf.next hq
  clear hq
  replace h : Ag a 15 [(4, _)] := h.sub (.cons rfl .nil)
  refine (norm_then ?_)
  refine wp_ret ?_
  refine ret1 h Tryd.results55 rfl ?_
  exact ⟨_, rfl, rfl, hf⟩
theorem differ_ok (u v : Value) (xs ys : List Stitch) (w0 : World) (hu : Sl encSt w0 u xs) (hv : Sl encSt w0 v ys) : Rets Tryd.prog 13 #[u, v] w0 fun r w' => r = .int .i64 (if xs = ys then 0 else 1) ∧ Fr [] w0 w' := by
  obtain ⟨A, c, rfl, hc⟩ := hu.form
  obtain ⟨B, d, rfl, hd⟩ := hv.form
  refine enter [(0, .slice A xs.length c), (1, .slice B ys.length d)] Tryd.func13 rfl Tryd.ntmps13 rfl (.cons rfl (.cons rfl .nil)) ?_
  have hf := Fr.refl [] w0
  intro a h
  refine wp_seq ?_
  refine wp_region_lit ?_
  refine st_assign h rfl rfl ?_; clear h a; intro a h
  replace h : Ag a 12 [(0, _), (1, _)] := h.sub (.cons rfl (.cons rfl .nil))
  refine wpList_nil (norm_then ?_)
  refine wp_seq ?_
  refine wp_region_lit ?_
  refine st_move h rfl rfl ?_; clear h a; intro a h
  refine st_bslice ([(A, xs.length, c)]) h (evs_cons rfl evs_nil) rfl rfl rfl el43 (by decide) rfl ?_; clear h a; intro g_6 w1 hg ho6 hq hz a h
  have hl6 : w0.heap.size ≤ g_6 := by have := hf.size; omega
  replace hf := hf.next hq
  replace hu := hu.ext hq
  replace hv := hv.ext hq
  clear hq hz hg
  refine st_lit (cs := [_]) h (evs_cons rfl evs_nil) bo45 (pok_cons rfl rfl rfl pok_nil) rfl rfl ?_; clear h a; intro a h
  refine st_move h rfl rfl ?_; clear h a; intro a h
  refine st_bslice ([(B, ys.length, d)]) h (evs_cons rfl evs_nil) rfl rfl rfl el43 (by decide) rfl ?_; clear h a; intro g_9 w2 hg ho9 hq hz a h
  have hl9 : w0.heap.size ≤ g_9 := by have := hf.size; omega
  replace hf := hf.next hq
  replace hu := hu.ext hq
  replace hv := hv.ext hq
  replace ho6 := ho6.ext hq
  clear hq hz hg
  refine st_lit (cs := [_]) h (evs_cons rfl evs_nil) bo45 (pok_cons rfl rfl rfl pok_nil) rfl rfl ?_; clear h a; intro a h
  refine st_call h (evs_cons rfl (evs_cons rfl evs_nil)) co22 (differ2_ok _ _ [xs] [ys] _ (sl2_one ho6.sl hu) (sl2_one ho9.sl hv)) rfl ?_; clear h a; rintro _ w3 ⟨rfl, hq⟩ a h
  replace hf := hf.next hq
  replace hu := hu.ext hq
  replace hv := hv.ext hq
  replace ho6 := ho6.ext hq
  replace ho9 := ho9.ext hq
  clear hq
  refine st_assign h rfl rfl ?_; clear h a; intro a h
  replace h : Ag a 12 [(4, _)] := h.sub (.cons rfl .nil)
  refine wpList_nil (norm_then ?_)
  refine wp_ret ?_
  refine ret1 h Tryd.results13 rfl ?_
  exact ⟨_, rfl, by simp, hf⟩
end Go.Proofs.YtbbnampdgefljaaDoor
